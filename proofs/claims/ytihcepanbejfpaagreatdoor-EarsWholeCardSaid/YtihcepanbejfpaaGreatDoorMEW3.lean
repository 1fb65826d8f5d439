/- A law for 'for x, y := range seq' whose body never leaves early, over  and what it needs. -/
import Derived.Test.YtihcepanbejfpaaGreatDoorMEW2
import Derived.RangeFuncNested
import Derived.RangeFuncBound
import Derived.OwnWalkIn
import Derived.TacticsInMore
import Derived.LoopNIn
import Derived.LoopIn
import Derived.BigQuiet
abbrev xQ:=@Array.getElem?_eq_some_iff
abbrev xR:=@Nat.le_trans
abbrev xS:=@List.mem_cons
abbrev xT:=@List.all_eq_true
abbrev xU:=@List.mem_range
abbrev xV:=@Array.getD_eq_getD_getElem?
abbrev xW:=@Bool.and_eq_true
abbrev xX:=@of_decide_eq_true
abbrev xY:=@List.map_cons
abbrev xZ:=@decide_eq_false
abbrev bB:=@Go.callsIn_wide
abbrev bC:=@beq_iff_eq
abbrev bE:=@List.getElem?_eq_some_iff
abbrev bF:=@List.length_map
abbrev bG:=@Go.CallsIn.mono
abbrev bH:=@Go.Oper.semAt_eq
abbrev bI:=@Go.run_underlying
abbrev bJ:=@Nat.lt_or_ge
abbrev bK:=@Ne.symm
abbrev bL:=@Go.wpIn_wide
abbrev bN:=@List.size_toArray
abbrev bO:=@Go.World.putObj_heap_other
abbrev bP:=@List.map_nil
abbrev bQ:=@Go.World.cell?_of_block
abbrev bR:=@Go.KeepsOthers.setCell
abbrev bT:=@Go.wpOpIn_step
abbrev bU:=@List.nodup_cons
abbrev bV:=@List.mem_cons_self
abbrev bX:=@List.any_eq_true
abbrev bY:=@decide_eq_true_eq
abbrev bZ:=@List.mem_cons_of_mem
abbrev cB:=@Go.getD_set_ne
abbrev cC:=@Go.Sem.run_bind
abbrev cD:=@Array.getElem?_eq_getElem
abbrev cE:=@List.contains_iff_mem
abbrev cF:=@Go.Sem.run_pure
abbrev cG:=@if_true
abbrev cH:=@Nat.eq_of_beq_eq_true
abbrev cJ:=@Go.Boxed.new
abbrev cK:=@Go.World.size_alloc
abbrev cL:=@Array.getElem?_eq_none
abbrev cM:=@Go.Result.andThen_ok
abbrev cO:=@Go.mem_ready
abbrev cP:=@List.any_eq_false
abbrev cQ:=@List.map_toArray
abbrev cR:=@Bool.not_eq_true'
abbrev cS:=@Bool.false_or
abbrev cT:=@Go.World.alloc_heap_new
abbrev cV:=@Go.RowKit.Below.heap_setCell
abbrev cW:=@Go.Code.wpIn_mono
abbrev cX:=@List.mem_append_right
abbrev cY:=@Go.info_parts
abbrev cZ:=@Bool.or_eq_true
abbrev eA:=@List.mem_append_left
abbrev eB:=@List.range'_succ
abbrev eC:=@Array.getElem_mem
abbrev eD:=@Go.wpOpIn_mono
abbrev eE:=@Go.Act.put_comm
abbrev eF:=@Array.ext
abbrev eH:=@List.range_succ
abbrev eI:=@Go.wpOpsIn_cons
abbrev eJ:=@Go.KeepsOthers.of_grownBy
abbrev eK:=@Go.World.putObj_size
abbrev eL:=@Array.getElem?_setIfInBounds_self_of_lt
abbrev eM:=@Go.World.putObj_heap_same
abbrev eO:=@Go.grownBy_putObj'
abbrev eP:=@Array.all_eq_true_iff_forall_mem
abbrev eQ:=@List.foldl_cons
abbrev eS:=@List.countP_eq_zero
abbrev eU:=@Go.RowKit.Below.heap_alloc
abbrev eV:=@Go.World.ownsRow.lt
abbrev eW:=@Go.World.ownsRow.alloc
abbrev eX:=@Array.size_modify
abbrev eZ:=@Array.mem_of_getElem?
abbrev fX:=@Array.any_eq_true
abbrev fY:=@Bool.not_true
abbrev fZ:=@Classical.not_forall
abbrev hH:=@Bool.or_eq_false_iff
abbrev lC:=@List.getElem?_take_of_lt
abbrev lD:=@Array.getElem?_replicate
abbrev lE:=@List.mem_filterMap
abbrev lF:=@Nat.lt_succ_iff_lt_or_eq
abbrev lG:=@List.eq_nil_iff_forall_not_mem
abbrev WE:=Go.Value
abbrev WF:=Go.TypeId
abbrev WG:=Option
abbrev WH:=Go.Program
theorem fS{P:Sort _}{Q:P->Prop}(h:∀e,Q e:=by intro e;cases e):∀e,Q e:=h
namespace Go.Proofs.Wd
open Go.RowKit Lb
variable {P:WH}{g:Operand}{ps:Array Tmp}{body:Code}{Q:Exit->Act->WB->Prop}{a b:Act}{A W W' w w' w0 w1:WB}{B C D base c fuel i id j k m n n₀ z:Nat}{f:FuncId}{fn:Func}{args:Array WE}{R:Ending->WB->Prop}{e t:WF}{v v':WE}{Ds l:List Nat}{ops:Array Oper}{rest:List Oper}{o oi:Oper}{F:Fence}{row:WG Nat}{tmp:Obj}{S S':Nat->Prop}{ds:List Deferred}
def zXC(P:WH)(gf:Nat)(lb:Array WE)(enc:Nat->Array WE)(N:Nat)(Kp Fr:WB->WB->Prop)(Fin:WB->Prop)(w0:WB):Prop:=
 ∀(l:Nat) (J:Nat->WB->Prop) (W:WB),Below w0.heap.size w0 W->
  (∀k W1 W2,J k W1->Fr W1 W2->J k W2)->
  (∀k W1,k<N->J k W1->YieldAt Fence.wide 0 P l (enc k) W1 fun e W'=>e=.returned (.bool true)/\J (k+1) W'/\Kp W1 W')->
  J 0 W->
  Calls P gf (#[.func (.yield l) #[] #[]]++lb) W fun e W'=>(∃v,e=.returned v)/\J N W'/\Fin W'
theorem qL(f:FuncId):Fence.wide.fn f=True:=rfl
theorem yG:Fence.wide.depth=none:=rfl
def zLb(B:Nat)(Kp:WB->WB->Prop)(I:Nat->WB->Prop)(k:Nat)(W:WB):Exit->Act->WB->Prop
 | .normal,_,W'=>KeepsFrom B W W'/\Kp W W'/\I k W'
 |_,_,_=>False
def zRV(P:WH)(gf:Nat)(lb:Array WE)(E:Nat->Array WE->WB->Prop)(N:Nat)(Kp Fr:WB->WB->Prop)(Fin:WB->Prop)(w0:WB):Prop:=
 ∀(l:Nat) (J:Nat->WB->Prop) (W:WB),Below w0.heap.size w0 W->
  (∀k W1 W2,J k W1->Fr W1 W2->J k W2)->
  (∀k W1 xs,k<N->J k W1->E k xs W1->YieldAt Fence.wide 0 P l xs W1 fun e W'=>e=.returned (.bool true)/\J (k+1) W'/\Kp W1 W')->
  J 0 W->
  Calls P gf (#[.func (.yield l) #[] #[]]++lb) W fun e W'=>(∃v,e=.returned v)/\J N W'/\Fin W'
theorem zCt{assign:Code}
  {gf:Nat}{lb:Array WE}(hg:a.eval g=.func (.func gf) #[] lb)(eg:∀args w,(callFunc gf args).run P w=.ok (.enter gf args) w)
  {E:Nat->Array WE->WB->Prop}{N:Nat}{Kp Fr:WB->WB->Prop}{Fin:WB->Prop}(hit:zRV P gf lb E N Kp Fr Fin w)
  (hE:∀(k:Nat) (xs:Array WE) (W:WB) (l:Nat) (o o':Obj),E k xs W->W.heap[l]?=some o->o.isCells=false->E k xs (W.putObj l o'))
  (hps:∀k xs W,E k xs W->xs.size=ps.size)(hKt:∀{A B C:WB},Kp A B->Kp B C->Kp A C)
  (hKb:∀(W:WB) (l:Nat) (o o':Obj),w.heap.size<=l->W.heap[l]?=some o->o.isCells=false->Kp W (W.putObj l o'))
  (I:Nat->WB->Prop)(hI:OwnFrom w.heap.size I)(hF:∀k W1 W2,I k W1->Fr W1 W2->I k W2)
  (hFb:∀W1 W2,Fr W1 W2->∀(k:Nat) (o:Obj),w.heap.size<=k->W1.heap[k]?=some o->o.isCells=false->W2.heap[k]?=some o)
  (hFin:∀(W:WB) (l:Nat) (o o':Obj),w.heap.size<=l->W.heap[l]?=some o->o.isCells=false->Fin W->Fin (W.putObj l o'))
  (h0:I 0 w)(a₁:Nat->Array WE->Act)
  (hassign:∀(l k:Nat) (xs:Array WE) (W:WB) (K:Act->WB->Prop),E k xs W->K (a₁ k xs) W->
   assign.wpIn (Fence.wide.inRound l) 0 P (Exit.then K (fun _ _ _=>False)) { tmps:=(ps.zip xs).foldl (fun t (p,v)=>t.setIfInBounds p v) a.tmps,defers:=[] } W)
  (hbody:∀(l k:Nat) (xs:Array WE) (W:WB),k<N->I k W->E k xs W->body.wpIn (Fence.wide.inRound l) 0 P (zLb w.heap.size Kp I (k+1) W) (a₁ k xs) W)
  (hdone:∀(D:Nat) (W:WB),w.heap.size<=D->I N W->Fin W->W.heap[D]?=some (.deferred (some []))->Q .normal { a with defers:={ target:=.collected D,args:=#[] }::a.defers } W):
  (Code.rangeFunc g ps assign body).wp P Q a w:=by
 refine(bL (n:=0)).1 (wpIn_rangeFunc ?_)
 intro fn hfn
 show ∃l mark w₁ d w₁' f args w₂,(Instr.enterLoop fn a.tmps ps assign body none).run P w=_/\_
 obtain⟨rec,hrec⟩:∃rec:LoopState->WG Code->Loop,rec=fun st pe=>{ state:=st,pending:=pe,fn,tmps:=a.tmps,params:=ps,assign,body,defers:=w.heap.size }:=⟨_,rfl⟩
 obtain⟨W1,hW1⟩:∃W1,(w.alloc (.deferred (some []))).alloc (.loop (rec .ready none))=W1:=⟨_,rfl⟩
 have hL1:W1.heap[w.heap.size+1]?=some (.loop (rec .ready none)):=by
  rw[<-hW1];have:=cT (w.alloc (.deferred (some []))) (.loop (rec .ready none));rwa [cK]at this
 have hK1:W1.heap[w.heap.size]?=some (.deferred (some [])):=by
  rw[<-hW1];exact(eU _ _ _ fG).trans (cT w _)
 have hI1:I 0 W1:=by rw[<-hW1];exact hI.alloc _ (hI.alloc _ h0)
 have hb1:Below w.heap.size w W1:=by
  rw[<-hW1];exact((xG _ w).alloc (vQ _) _).alloc fG _
 refine⟨w.heap.size+1, [{ target:=.collected w.heap.size,args:=#[] }],W1,{ target:=.fn (.func gf) lb,args:=#[.func (.yield (w.heap.size+1)) #[] #[]] },W1,gf,
  #[.func (.yield (w.heap.size+1)) #[] #[]]++lb,W1,?_,?_,?_,?_,fun h=>absurd h (by simp[Fence.wide]),?_⟩
 .rw[<-hW1,hrec];exact run_enterLoop_outer _ _ _ _ _
 .simp only[resolve,hg]
  simp[go_sem]
 .intro f' _;trivial
 .simp[invoke,go_sem,eg]
 .refine bB.2 ((hit (w.heap.size+1)
   (fun k W=>I k W/\W.heap[w.heap.size+1]?=some (.loop (rec .ready none))/\W.heap[w.heap.size]?=some (.deferred (some [])))
   W1 hb1
   (fun k A B hs hf=>⟨hF k A B hs.1 hf,hFb A B hf _ _ oA hs.2.1 rfl,hFb A B hf _ _ (vQ _) hs.2.2 rfl⟩)
   ?_ ⟨hI1,hL1,hK1⟩).mono ?_)
  .rintro k W xs hk ⟨hi,hl,hd⟩ he
   have hlt:w.heap.size+1<W.heap.size:=(xQ.1 hl).1
   have hy:=run_yield (P:=P) (args:=xs) hl (by rw[hrec];exact hps k xs W he)
   rw[hrec]at hy
   refine⟨fn,_,assign,body,hy,roundIn_of_wpIn hfn (hassign _ k xs W _ he ⟨_,run_beginRound hl (by rw[hrec]),?_⟩)⟩
   have hl2:(W.putObj (w.heap.size+1) (.loop { rec .ready none with state:=.busy })).heap[w.heap.size+1]?=some (.loop { rec .ready none with state:=.busy }):=eM hlt
   have hk2:(W.putObj (w.heap.size+1) (.loop { rec .ready none with state:=.busy })).heap[w.heap.size]?=some (.deferred (some [])):=(bO oA).trans hd
   have hw2:Kp W (W.putObj (w.heap.size+1) (.loop { rec .ready none with state:=.busy })):=hKb _ _ _ _ oA hl rfl
   refine wpIn_mono (hbody _ k xs _ hk (hI.putObj _ hi oA hl rfl) (hE _ _ _ _ _ _ he hl rfl)) ?_
   rintro e a3 W3 hp
   cases e with
   |normal=>
    obtain⟨hk3,hkp3,hi3⟩:=hp
    have hl3:=hk3.same _ _ oA hl2 rfl
    have hend:=run_endRound (P:=P) none hl3
    have hlt3:w.heap.size+1<W3.heap.size:=(xQ.1 hl3).1
    refine⟨_,_,hend,rfl,⟨hI.putObj _ hi3 oA hl3 rfl,?_,?_⟩,hKt (hKt hw2 hkp3) (hKb _ _ _ _ oA hl3 rfl)⟩
    .rw[eM hlt3];simp[hrec]
    .exact(bO oA).trans (hk3.same _ _ (vQ _) hk2 rfl)
   |ret=>exact hp.elim
   |exit id=>exact hp.elim
   |goto t=>exact hp.elim
   |panic ch=>exact hp.elim
   |outgrown=>exact hp.elim
  .rintro e W2 ⟨⟨v,rfl⟩,⟨hi,hl,hd⟩,hfin⟩
   exact⟨none,_,by have:=run_endLoop (P:=P) hl (by rw[hrec];simp);rw[hrec]at this;exact this,hdone _ _ (vQ _) (hI.putObj _ hi oA hl rfl) (hFin _ _ _ _ oA hl rfl hfin) ((bO oA).trans hd)⟩
theorem zFp{assign:Code}
  {gf:Nat}{lb:Array WE}(hg:a.eval g=.func (.func gf) #[] lb)(eg:∀args w,(callFunc gf args).run P w=.ok (.enter gf args) w)
  {enc:Nat->Array WE}{N:Nat}{U Fr:WB->WB->Prop}{O:WB->Prop}(h7:zXC P gf lb enc N U Fr O w)
  (hps:∀k,(enc k).size=ps.size)(h8:∀{A B C:WB},U A B->U B C->U A C)
  (h1:∀(W:WB) (l:Nat) (o o':Obj),w.heap.size<=l->W.heap[l]?=some o->o.isCells=false->U W (W.putObj l o'))
  (I:Nat->WB->Prop)(hI:OwnFrom w.heap.size I)(hF:∀k W1 W2,I k W1->Fr W1 W2->I k W2)
  (hFb:∀W1 W2,Fr W1 W2->∀(k:Nat) (o:Obj),w.heap.size<=k->W1.heap[k]?=some o->o.isCells=false->W2.heap[k]?=some o)
  (hFin:∀(W:WB) (l:Nat) (o o':Obj),w.heap.size<=l->W.heap[l]?=some o->o.isCells=false->O W->O (W.putObj l o'))
  (h0:I 0 w)(a₁:Nat->Act)
  (hassign:∀(l k:Nat) (W:WB) (K:Act->WB->Prop),K (a₁ k) W->
   assign.wpIn (Fence.wide.inRound l) 0 P (Exit.then K (fun _ _ _=>False)) { tmps:=(ps.zip (enc k)).foldl (fun t (p,v)=>t.setIfInBounds p v) a.tmps,defers:=[] } W)
  (hbody:∀(l k:Nat) (W:WB),k<N->I k W->body.wpIn (Fence.wide.inRound l) 0 P (zLb w.heap.size U I (k+1) W) (a₁ k) W)
  (hdone:∀(D:Nat) (W:WB),w.heap.size<=D->I N W->O W->W.heap[D]?=some (.deferred (some []))->Q .normal { a with defers:={ target:=.collected D,args:=#[] }::a.defers } W):
  (Code.rangeFunc g ps assign body).wp P Q a w:=
 zCt hg eg (E:=fun k xs _=>xs=enc k) (fun l J W hb hf hy=>h7 l J W hb hf fun k W1 hk hj=>hy k W1 _ hk hj rfl) (fun _ _ _ _ _ _ h _ _=>h) (fun k _ _ h=>by rw[h];exact hps k) h8 h1 I hI hF hFb hFin h0 (fun k _=>a₁ k)
  (fun l k _ W K e h=>by subst e;exact hassign l k W K h) (fun l k _ W hk hi _=>hbody l k W hk hi) hdone
def Mk(W1 W2:WB):Prop:=Below W1.heap.size W1 W2
theorem wT(I J:WB)(h:Mk I J)(k:Nat)(o:Obj)(_:B<=k)(O:I.heap[k]?=some o)(_:o.isCells=false):J.heap[k]?=some o:=
 (h.block k (xQ.1 O).1).trans O
theorem q6{c:Code}
  (I:P.funcs[f]?=some fn)(hb:fn.body=some c)
  (h:c.wp P (bodyPostM Fence.wide 0 P fn R) { tmps:=args++Array.replicate (fn.ntmps-args.size) undef,defers:=[] } w):Calls P f args w R:=
 bB.1 (callsIn_of_wp_marks I hb trivial ((bL (n:=0)).2 h))
theorem zB1{c:Code}
  (I:P.funcs[f]?=some fn)(hb:fn.body=some c)
  (h:c.wpIn Fence.wide 0 P (bodyPost P fn R) { tmps:=args++Array.replicate (fn.ntmps-args.size) undef,defers:=[] } w):Calls P f args w R:=
 bB.1 (callsIn_of_wp I hb trivial h)
/-! ### append onto a row of limbs -/
def yE(w:WB)(base:Nat)(e:WF)(v:WE)(l:List Nat):Prop:=w.ownsRow base e 1 v l.length (zBQ l)
theorem yE.form(h:yE w base e v l):∃A c,v=.slice A l.length c:=zQ5 h
theorem yE.form'(h:yE w base e v l){n:Nat}(I:l.length=n):∃A c,v=.slice A n c:=by
 subst I;exact h.form
theorem yE.rd{A:WG Addr}(h:yE w base e (.slice A n c) l):Rd w A n c l:=by
 obtain⟨A',c',I⟩:=h.form
 injection I with h1 h2 h3
 exact Rd.of_own h h2.symm
theorem yE.grown{J:WB}(hb:Below B w w1)(O:yE w1 base e v l)(U:w1.grownBy J v.ownBlock)(hB:B<=base)(I:B<=w1.heap.size):Below B w J:=
 hb.grown U I fun k hk=>by have:=(eV O k hk).1;omega
theorem yE.alloc(h:yE w base e v l)(o:Obj):yE (w.alloc o) base e v l:=eW h o
theorem wV(w:WB)(base:Nat)(e:WF):yE w base e (.slice none 0 0) []:=World.ownsRow_nil _ _ _ _
theorem zEh(w:WB)(t ty e:WF)(ht:P.underlying t=some (.slice e))(h1:(P.info? e).map (fun i=>(i.zero,i.size,i.bytes))=some (some (.int .u32 0),1,4))
  (base:Nat)(v:WE)(l m:List Nat)(I:yE w base e v l)(A:WG Addr)(n c:Nat)(hr:Rd w A n c m)(hsz:l.length+m.length<=17592186044416)(J:base<=w.heap.size):
  ∃v' w',(Builtin.append_ #[t,t] ty #[v,.slice A n c]).run P w=.ok v' w'/\yE w' base e v' (l++m)/\w.grownBy w' v.ownBlock/\(v'.ownBlock=v.ownBlock∨v'.ownBlock=some w.heap.size):=by
 obtain rfl:=hr.len
 obtain⟨i,hi,ha,h7,h8⟩:=cY h1
 have h9:l.length+m.length<=maxLen:=by unfold maxLen;omega
 by_cases hm:m.length=0
 .have h6:m=[]:=xN hm
  subst h6
  refine⟨v,w,?_,by simpa using I,World.grownBy.refl w _,.inl rfl⟩
  rcases I.2 with⟨rfl,_⟩|⟨g,cap,cur,rfl,_,_,h0,_⟩
  .rcases A with _|ad
   .simp[Builtin.append_,bI ht,sizeOf,typeInfo,hi,Builtin.lenOf,Builtin.firstCells]
   .simp[Builtin.append_,bI ht,sizeOf,typeInfo,hi,Builtin.lenOf,Builtin.firstCells,loadCells,loadCellsFrom]
  .rcases A with _|ad
   .simp[Builtin.append_,bI ht,sizeOf,typeInfo,hi,Builtin.lenOf,Builtin.firstCells,h0,storeCells]
   .simp[Builtin.append_,bI ht,sizeOf,typeInfo,hi,Builtin.lenOf,Builtin.firstCells,h0,storeCells,loadCells,loadCellsFrom]
 .obtain⟨b,o,rfl,hb,hc⟩:=hr.shape oA
  obtain⟨v',w',O,h2,h3,_,h5⟩:=run_append_own_at (P:=P) w base t ty e i (.int .u32 0) 1 4 ht hi ha h7 h8 rfl fH v l.length (zBQ l) I ⟨b,o,none⟩ m.length c (zBQ m) (by rw[zAY,gK])
   (fun j u hj=>by
    have U:j<m.length:=by have:=(bE.1 hj).1;rwa [zAY]at this
    rw[zDo m j U]at hj
    injection hj with hj
    subst hj
    rw[xI]
    exact hc j U) (zKK m) h9 oA J
  refine⟨v',w',O,?_,h3,h5⟩
  unfold yE
  rw[uG,zDS]
  exact h2
theorem zU(h1:o.guard=none)(s x:Operand)(t e:WF)
  (ho:o.op=.call { callee:=.builtin .append,args:=#[s,x],argTypes:=#[t,t] })
  (ht:P.underlying t=some (.slice e))(U:(P.info? e).map (fun i=>(i.zero,i.size,i.bytes))=some (some (.int .u32 0),1,4))
  (base:Nat)(v:WE)(l:List Nat)(hs:a.eval s=v)(O:yE w base e v l)
  (A:WG Addr)(k c:Nat)(m:List Nat)(hx:a.eval x=.slice A k c)(hr:Rd w A k c m)(h0:l.length+m.length<=17592186044416)(I:base<=w.heap.size)
  (h:∀v' w',yE w' base e v' (l++m)->w.grownBy w' v.ownBlock->(v'.ownBlock=v.ownBlock∨v'.ownBlock=some w.heap.size)->wpList P ops Q rest (a.put o.dst v') w'):wpList P ops Q (o::rest) a w:=
 wpList_plain h1 fun _ hK=>by
  obtain⟨v',w',J,h2,h3,h4⟩:=zEh (P:=P) w t o.type e ht U base v l m O A k c hr h0 I
  unfold Oper.wp execOp
  simp only[ho,resolve,invoke,builtin,cC,cF,cM,cQ,xY,bP,hs,hx,J]
  exact hK _ _ (h v' w' h2 h3 h4)
theorem zCe(h7:o.guard=none)(s x:Operand)(t e:WF)
  (ho:o.op=.call { callee:=.builtin .append,args:=#[s,x],argTypes:=#[t,t] })
  (ht:P.underlying t=some (.slice e))(U:(P.info? e).map (fun i=>(i.zero,i.size,i.bytes))=some (some (.int .u32 0),1,4))
  (base:Nat)(v:WE)(l:List Nat)(hs:a.eval s=v)(O:yE w base e v l)
  (A:WG Addr)(k c:Nat)(m:List Nat)(hx:a.eval x=.slice A k c)(hr:Rd w A k c m)(h5:l.length+m.length<=17592186044416)(I:base<=w.heap.size)
  (h:∀v' w',yE w' base e v' (l++m)->w.grownBy w' v.ownBlock->(v'.ownBlock=v.ownBlock∨v'.ownBlock=some w.heap.size)->wpListIn F n P ops Q rest (a.put o.dst v') w'):wpListIn F n P ops Q (o::rest) a w:=by
 refine wpListIn_plain h7 fun K h1=>?_
 obtain⟨v',w',J,h2,h3,h4⟩:=zEh (P:=P) w t o.type e ht U base v l m O A k c hr h5 I
 unfold Oper.wpIn
 refine⟨?_,?_⟩
 .simp[Oper.about,ho,resolve,Target.leads,cF]
 .rw[Oper.semAt_plain F _ _ (by rw[ho];intro c h6;cases h6)]
  simp[execOp,ho,resolve,invoke,builtin,hs,hx,J,Result.andThen]
  exact h1 _ _ (h v' w' h2 h3 h4)
/-! ### what abides a turn of a block that is no cells, and what only makes memory -/
theorem Mk.grown{I J:WB}(h:Mk I J):I.grownBy J none:=⟨h.os,h.tape,h.output,h.size,fun k O _=>h.block k O⟩
theorem zCo{I:Nat->WB->Prop}(h:OwnFrom B I)(k:Nat)(J O:WB)(hi:I k J)(U:Mk J O):I k O:=h k J O none hi U.grown (fun r e=>by cases e)
theorem qR(h:Boxed W B t v)(J:W.grownBy W' row)(O:∀r,row=some r->C<=r/\∃o:Obj,W.heap[r]?=some o/\o.isCells=false):Boxed W' B t v:=
 h.kept J fun e=>by
  obtain⟨_,o,I,U⟩:=O B e.symm
  rw[show W.heap[B]?=_ from h]at I
  cases I
  cases U
theorem zJj{size:Nat}{xs:List WE}(h:W.ownsRow base e size v n xs)(J:W.grownBy W' row)(U:∀r,row=some r->C<=r/\∃o:Obj,W.heap[r]?=some o/\o.isCells=false):W'.ownsRow base e size v n xs:=by
 refine h.kept J ?_
 rcases h.2 with⟨rfl,_⟩|⟨g,cap,cur,rfl,_,hh,_⟩
 .exact .inl rfl
 .right
  intro e'
  obtain⟨_,o,I,O⟩:=U g (by simpa[Value.ownBlock]using e'.symm)
  rw[hh]at I
  cases I
  cases O
theorem zAA(h:Below B w W)(O:W.grownBy W' row)(J:B<=w.heap.size)(I:B<=C)(U:∀r,row=some r->C<=r/\∃o:Obj,W.heap[r]?=some o/\o.isCells=false):Below B w W':=
 h.grown O (xR J h.size) fun k e=>xR I (U k e).1
theorem Rd.other{A:WG Addr}(h:Rd w A n c l){D:Nat}{o:Obj}(o':Obj)(U:w.heap[D]?=some o)(ho:o.isCells=false):Rd (w.putObj D o') A n c l:=
 ⟨h.len,h.le,h.cap,h.nil,fun i hi=>by
  obtain⟨b,off,e,O⟩:=h.cells i hi
  refine⟨b,off,e,(bQ (bO ?_)).trans O⟩
  intro hb
  obtain⟨q,J,I⟩:=cells_of_cell O
  simp only at J hb
  rw[hb,U]at J
  cases J
  rw[ho]at I
  cases I⟩
theorem zKD(h:Below B w W)(o:Obj)(J:B<=W.heap.size)(I:B<=D):Below B w (W.putObj D o):=
 h.grown (eO W D o) J fun k e=>by cases e;exact I
theorem qI(h:B<=W.heap.size)(o:Obj):B<=(W.alloc o).heap.size:=fM
theorem zIt{u:WE}(O:t≠e)(U:Boxed W B t u)(J:yE W n₀ e v l)(I:(W.alloc tmp).grownBy w1 v.ownBlock):Boxed w1 B t u:=
 (U.alloc tmp).kept I (U.not_row O J)
theorem zH7(J:yE W base e v l)(I:(W.alloc tmp).grownBy w1 v.ownBlock):KeepsOthers W w1:=by
 refine(KeepsOthers.alloc W tmp).trans (eJ I fun j o U hj=>?_)
 rcases(eW J tmp).2 with⟨rfl,_⟩|⟨g,cap,cur,rfl,_,O,_⟩
 .simp[Value.ownBlock]at U
 .obtain rfl:g=j:=by simpa[Value.ownBlock]using U
  rw[O]at hj;cases hj;rfl
theorem zL5{l':List Nat}(h0:t≠e)(hv:Boxed W B t v)(O:yE W base e v l)(h5:n₀<=W.heap.size)(hB:n₀<=B)(hb:n₀<=base)
  (J:yE w1 base e v' l')(I:(W.alloc tmp).grownBy w1 v.ownBlock):
  Boxed w1 B t v/\Boxed (w1.setCell ⟨B,0,none⟩ v') B t v'/\yE (w1.setCell ⟨B,0,none⟩ v') base e v' l'/\KeepsOthers W (w1.setCell ⟨B,0,none⟩ v')/\Below n₀ W (w1.setCell ⟨B,0,none⟩ v'):=by
 have U:Boxed w1 B t v:=zIt h0 hv O I
 refine⟨U,U.set v',World.ownsRow.kept J (grownBy_setCell' w1 B v') (.inr (U.not_row h0 J).symm),?_,?_⟩
 .refine((KeepsOthers.alloc W tmp).trans (eJ I fun j o ej hj=>?_)).trans (bR _ _ _)
  rcases(eW O tmp).2 with⟨rfl,_⟩|⟨g,cap,cur,rfl,_,h4,_⟩
  .simp[Value.ownBlock]at ej
  .obtain rfl:g=j:=by simpa[Value.ownBlock]using ej
   rw[h4]at hj;cases hj;rfl
 .refine(((xG n₀ W).alloc h5 tmp).grown I fM fun j ej=>?_).setCell (p:=⟨B,0,none⟩) hB v'
  have:=(eV O j ej).1
  omega
/-! ### blocks of which a part is kept -/
def y8(S:Nat->Prop)(W1 W2:WB):Prop:=∀b,S b->W2.heap[b]?=W1.heap[b]?
theorem y8.refl(S:Nat->Prop)(W:WB):y8 S W W:=fun _ _=>rfl
theorem y8.trans{B C:WB}(h:y8 S A B)(k:y8 S B C):y8 S A C:=fun b hb=>(k b hb).trans (h b hb)
theorem y8.drew{B:WB}(h:y8 S A B):y8 S A B.drew:=h
theorem wS{B:WB}(h:Below n A B)(I:∀b,S b->b<n):y8 S A B:=fun b hb=>h.block b (I b hb)
theorem y8.setCell{B:WB}(h:y8 S A B){p:Addr}(I: ¬S p.block)(u:WE):y8 S A (B.setCell p u):=
 fun b hb=>(cV B p u b (fun e=>I (by rw[<-e];exact hb))).trans (h b hb)
theorem y8.putObj{B:WB}(h:y8 S A B){l:Nat}(I: ¬S l)(o:Obj):y8 S A (B.putObj l o):=
 fun b hb=>(bO (fun e=>I (by rw[<-e];exact hb))).trans (h b hb)
theorem y8.grown{B C:WB}(h:y8 S A B){row:WG Nat}(J:B.grownBy C row)(I:∀b,S b->b<B.heap.size/\some b≠row):y8 S A C:=
 fun b hb=>(J.block b (I b hb).1 (I b hb).2).trans (h b hb)
theorem y8.alloc{B:WB}(h:y8 S A B)(I:∀b,S b->b<B.heap.size)(o:Obj):y8 S A (B.alloc o):=
 fun b hb=>(eU B o b (I b hb)).trans (h b hb)
theorem zEZ(I:∀b,S b->b<n)(W:WB)(l:Nat)(o o':Obj)(hl:n<=l)(_:W.heap[l]?=some o)(_:o.isCells=false):y8 S W (W.putObj l o'):=
 (y8.refl S W).putObj (fun h=>by have:=I l h;omega) o'
theorem y8.cell{B:WB}(h:y8 S A B){p:Addr}(I:S p.block):B.cell? p=A.cell? p:=bQ (h p.block I)
theorem y8.boxed{B:WB}(h:y8 S A B){b:Nat}{t:WF}{v:WE}(hb:S b)(I:Boxed A b t v):Boxed B b t v:=(h b hb).trans I
theorem Rd.keepS{B:WB}{a:WG Addr}(h:Rd A a n c l)(O:y8 S A B)(I:∀b o,0<n->a=some ⟨b,o,none⟩->S b):Rd B a n c l:=
 ⟨h.len,h.le,h.cap,h.nil,fun i hi=>by
  obtain⟨b,o,e,J⟩:=h.cells i hi
  exact⟨b,o,e,(O.cell (p:=⟨b,o+i,none⟩) (I b o oA e)).trans J⟩⟩
theorem Rd.in_{A:WG Addr}(h:Rd w A n c l)(b o:Nat)(J:0<n)(e:A=some ⟨b,o,none⟩):b<w.heap.size:=by
 obtain⟨b',o',e',I,_⟩:=h.shape J
 rw[e]at e'
 cases e'
 exact I
theorem zOP(I:(W.alloc tmp).grownBy w1 v.ownBlock)(J:∀b,S b->b<W.heap.size/\some b≠v.ownBlock)(O: ¬S B):y8 S W (w1.setCell ⟨B,0,none⟩ v'):=
 ((((y8.refl S W).alloc (fun b hb=>(J b hb).1) tmp).grown I (fun b hb=>⟨by have:=(J b hb).1;simp;omega,(J b hb).2⟩)).setCell (p:=⟨B,0,none⟩) O v')
theorem yE.other(h:yE W base e v l){B:Nat}{t:WF}{u:WE}(J:Boxed W B t u)(I:t≠e)(O:WE):yE (W.setCell ⟨B,0,none⟩ O) base e v l:=
 World.ownsRow.kept h (grownBy_setCell' _ _ _) (.inr (J.not_row I h).symm)
theorem yE.not_in(h:yE W base e v l){b:Nat}(hb:b<base):some b≠v.ownBlock:=fun e=>by
 have:=(eV h b e.symm).1;omega
theorem zBC(W:WB)(p:Addr)(u:WE):W.heap.size=(W.setCell p u).heap.size:=by
 show W.heap.size=(W.heap.modify _ _).size
 rw[eX]
theorem vO(w:WB)(x:Nat)(t:WF){b:Nat}(hb:b=w.heap.size):Rd (w.alloc (.cells #[.int .u32 (x:Int)] t)) (some ⟨b,0,none⟩) 1 1 [x]:=by
 subst hb
 exact Rd.new w [x] t _ rfl fG
theorem Rd.one(w:WB)(x:Nat)(t:WF):Rd (w.alloc (.cells #[.int .u32 (x:Int)] t)) (some ⟨w.heap.size,0,none⟩) 1 1 [x]:=
 ⟨rfl,oA,oA,fun e=>(by cases e),fun i hi=>⟨w.heap.size,0,rfl,by
  have:i=0:=oA
  subst this
  show(w.alloc (.cells #[.int .u32 (x:Int)] t)).cell? ⟨w.heap.size,0,none⟩=some (.int .u32 (x:Int))
  unfold World.cell?
  rw[cT]
  rfl⟩⟩
def mark(D:Nat):Deferred:={ target:=.collected D,args:=#[] }
structure Marks(B:Nat)(W:World)(ds:List Deferred)(Ds:List Nat):Prop where
 eq:ds=Ds.map mark
 nodup:Ds.Nodup
 at_:∀D,D∈Ds->B<=D/\W.heap[D]?=some (.deferred (some []))
theorem Marks.nil(B:Nat)(W:WB):Marks B W [] []:=⟨rfl,List.nodup_nil,fun D h=>by cases h⟩
theorem Marks.keep(h:Marks B W ds Ds)(J:∀(k:Nat) (o:Obj),W.heap[k]?=some o->o.isCells=false->W'.heap[k]?=some o):Marks B W' ds Ds:=
 ⟨h.eq,h.nodup,fun D I=>⟨(h.at_ D I).1,J _ _ (h.at_ D I).2 rfl⟩⟩
theorem Marks.others(h:Marks B W ds Ds)(I:KeepsOthers W W'):Marks B W' ds Ds:=h.keep I.same
theorem Marks.made(h:Marks B W ds Ds)(J:Below W.heap.size W W'):Marks B W' ds Ds:=
 h.keep fun k _ I _=>(J.block k (xQ.1 I).1).trans I
theorem Marks.lt(h:Marks B W ds Ds):∀D,D∈Ds->D<W.heap.size:=fun D I=>(xQ.1 (h.at_ D I).2).1
theorem Marks.abide(h:Marks B W ds Ds)(J:∀D,D∈Ds->D<C)(O:W.grownBy W' row)(U:∀r,row=some r->C<=r/\∃o:Obj,W.heap[r]?=some o/\o.isCells=false):Marks B W' ds Ds:=
 ⟨h.eq,h.nodup,fun D I=>⟨(h.at_ D I).1,(O.block D (h.lt D I) (fun e=>by have:=(U D e.symm).1;have:=J D I;omega)).trans (h.at_ D I).2⟩⟩
theorem Marks.more(h:Marks B W ds Ds){D:Nat}(U:D ∉ Ds)(O:B<=D)(J:W.heap[D]?=some (.deferred (some []))):Marks B W ({ target:=.collected D,args:=#[] }::ds) (D::Ds):=
 ⟨by rw[h.eq];rfl,bU.2 ⟨U,h.nodup⟩,fun E I=>by
  rcases xS.1 I with rfl|I
  .exact⟨O,J⟩
  .exact h.at_ E I⟩
structure Oth(B:Nat)(w w':World):Prop where
 os:w'.os=w.os
 tape:w'.tape=w.tape
 output:w'.output=w.output
 size:w'.heap.size=w.heap.size
 block:∀k,w'.heap[k]?=w.heap[k]?∨(B<=k/\(∃o,w.heap[k]?=some o/\o.isCells=false)/\∃o,w'.heap[k]?=some o/\o.isCells=false)
theorem Oth.refl(B:Nat)(w:WB):Oth B w w:=⟨rfl,rfl,rfl,rfl,fun _=>.inl rfl⟩
theorem zEK{a:Addr}{o:Obj}(h:w.heap[a.block]?=some o)(hc:o.isCells=false):w.cell? a=none:=by
 unfold World.cell?
 rw[h]
 cases o<;>simp_all[Obj.isCells]
theorem Oth.cell(h:Oth B w w')(a:Addr):w'.cell? a=w.cell? a:=by
 rcases h.block a.block with e|⟨_,⟨o,O,U⟩,o',J,I⟩
 .exact bQ e
 .rw[zEK O U,zEK J I]
theorem Rd.oth{A:WG Addr}(h:Rd w A n c l)(I:Oth B w w'):Rd w' A n c l:=h.keep fun _ _=>I.cell _
theorem zAh(h:Below C w W)(I:Oth B W W')(hC:C<=B):Below C w W':=
 ⟨I.os.trans h.os,I.tape.trans h.tape,I.output.trans h.output,by rw[I.size];exact h.size,fun k J=>by
  rcases I.block k with e|⟨hb,_⟩
  .exact e.trans (h.block k J)
  .omega⟩
theorem Oth.put(h:Oth B w w')(J:B<=D)(I:w'.heap[D]?=some (.deferred (some []))):Oth B w (w'.putObj D (.deferred none)):=
 ⟨h.os,h.tape,h.output,by rw[eK];exact h.size,fun k=>by
  by_cases e:k=D
  .subst e
   refine .inr ⟨J,?_,_,eM (xQ.1 I).1,rfl⟩
   rcases h.block k with e|⟨_,O,_⟩
   .exact⟨_,e.symm.trans I,rfl⟩
   .exact O
  .rw[bO e]
   exact h.block k⟩
theorem qH{P:WH}{fn:Func}{tmps:Array WE}{R:Ending->WB->Prop}{B:Nat}{v:WE}(w:WB)(I:∀w',Oth B w w'->(results fn tmps).run P w'=.ok v w'):
  ∀(Ds:List Nat) (ds:List Deferred) (w1:WB),Marks B w1 ds Ds->Oth B w w1->(∀w',Oth B w w'->R (.returned v) w')->LeavesInM Fence.wide 0 P fn tmps R ds .returning w1
 | [],ds,w1,hm,ho,hR=>by
  obtain rfl:ds=[]:=hm.eq
  exact⟨v,I w1 ho,hR w1 ho⟩
 |D::Ds,ds,w1,hm,ho,hR=>by
  obtain rfl:ds=mark D::Ds.map mark:=hm.eq
  have O:=hm.at_ D (bV ..)
  refine⟨fG,.inl ⟨_,_,rfl,run_takeDeferred O.2,?_⟩⟩
  refine qH w I Ds _ _ ⟨rfl,(bU.1 hm.nodup).2,fun E J=>⟨(hm.at_ E (bZ _ J)).1,?_⟩⟩ (ho.put O.1 O.2) hR
  have U:E≠D:=fun e=>(bU.1 hm.nodup).1 (by rw[<-e];exact J)
  rw[bO U]
  exact(hm.at_ E (bZ _ J)).2
theorem Boxed.oth{b:Nat}(h:Boxed w b t v)(J:Oth B w w'):Boxed w' b t v:=by
 rcases J.block b with e|⟨_,⟨o,I,h2⟩,_⟩
 .exact e.trans h
 .rw[show w.heap[b]?=_ from h]at I
  cases I
  cases h2
theorem zAG(W:WB)(t:WF)(v:WE){b:Nat}(hb:b=W.heap.size):Boxed (W.alloc (.cells #[v] t)) b t v:=by
 subst hb
 exact cJ W t v
structure Rds(w:World)(A:Option Addr)(n:Nat)(ls:List (List Nat)):Prop where
 len:ls.length=n
 cells:∀i,i<n->∃b o Ai ni ci li,A=some ⟨b,o,none⟩/\w.cell? ⟨b,o+i,none⟩=some (.slice Ai ni ci)/\ls[i]?=some li/\Rd w Ai ni ci li/\Lt li/\ni<=68719476736
theorem Rds.below{A:WG Addr}{ls:List (List Nat)}(h:Rds w A n ls)(hb:Below w.heap.size w w'):Rds w' A n ls:=
 ⟨h.len,fun i hi=>by
  obtain⟨b,o,O,J,ci,li,e,I,U,h2,h3⟩:=h.cells i hi
  exact⟨b,o,O,J,ci,li,e,(hb.cell (p:=⟨b,o+i,none⟩) (z7 I)).trans I,U,h2.below hb,h3⟩⟩
theorem zB0(w:WB)(cs:Array WE)(t:WF)(i:Nat):(w.alloc (.cells cs t)).cell? ⟨w.heap.size,i,none⟩=cs[i]?:=by
 have I:(w.alloc (.cells cs t)).heap[w.heap.size]?=some (.cells cs t):=xM w _
 unfold World.cell?
 rw[I]
 rfl
theorem Rds.two{A:WG Addr}(h:Rd w A n c l)(ht:Lt l)(O:n<=68719476736){A':WG Addr}{n' c':Nat}{l':List Nat}(J:Rd w A' n' c' l')(ht':Lt l')(I:n'<=68719476736)(t:WF):
  Rds (w.alloc (.cells #[.slice A n c,.slice A' n' c'] t)) (some ⟨w.heap.size,0,none⟩) 2 [l,l']:=
 ⟨rfl,fun i hi=>by
  rcases(oA:i=0∨i=1)with rfl|rfl
  .exact⟨_,_,A,n,c,l,rfl,zB0 w _ t 0,rfl,h.alloc _,ht,O⟩
  .exact⟨_,_,A',n',c',l',rfl,zB0 w _ t 1,rfl,J.alloc _,ht',I⟩⟩
theorem Rds.three{A:WG Addr}(h:Rd w A n c l)(ht:Lt l)(hn:n<=68719476736){A':WG Addr}{n' c':Nat}{l':List Nat}(h':Rd w A' n' c' l')(ht':Lt l')(h4:n'<=68719476736)
  {O:WG Addr}{J U:Nat}{I:List Nat}(h5:Rd w O J U I)(h1:Lt I)(h0:J<=68719476736)(t:WF):
  Rds (w.alloc (.cells #[.slice A n c,.slice A' n' c',.slice O J U] t)) (some ⟨w.heap.size,0,none⟩) 3 [l,l',I]:=
 ⟨rfl,fun i hi=>by
  rcases(oA:i=0∨i=1∨i=2)with rfl|rfl|rfl
  .exact⟨_,_,A,n,c,l,rfl,zB0 w _ t 0,rfl,h.alloc _,ht,hn⟩
  .exact⟨_,_,A',n',c',l',rfl,zB0 w _ t 1,rfl,h'.alloc _,ht',h4⟩
  .exact⟨_,_,O,J,U,I,rfl,zB0 w _ t 2,rfl,h5.alloc _,h1,h0⟩⟩
section
variable {F:Fence}{n:Nat}{P:WH}{md:Region.Mode}{ops:Array Oper}{Q:Exit->Act->WB->Prop}{C:WB->Prop}{z:Nat}
def zAE(ops:Array Oper):Bool:=ops.all fun o=>match o.op with| .defer _=>false|_=>true
theorem zCJ(h:zAE ops=true){j:Nat}{o:Oper}(J:ops[j]?=some o):∀c,o.op≠ .defer c:=by
 intro c I
 have:=eP.1 h o (eZ J)
 rw[I]at this
 cases this
def zB7(md:Region.Mode)(ops:Array Oper)(z i:Nat):Bool:=
 match ops[z]? with
 |none=>true
 |some o=>o.after.any fun e=>Region.binds md e&&e.on==i
theorem zGI(h:zB7 md ops z i=true){o:Oper}(hz:ops[z]?=some o):∃e∈o.after,Region.binds md e=true/\e.on=i:=by
 unfold zB7 at h
 rw[hz]at h
 simp at h
 obtain⟨j,J,hb,I⟩:=h
 exact⟨_,eC J,hb,I⟩
def zAc(F:Fence)(n:Nat)(P:WH)(md:Region.Mode)(ops:Array Oper)(z:Nat)(C:WB->Prop)(Q:Exit->Act->WB->Prop):Nat->Array Bool->Act->WB->Prop
 |0,listed,a,w=>Region.ready md ops listed=[]/\Q .normal a w
 |fuel+1,listed,a,w=>
  (Region.ready md ops listed=[]->Q .normal a w)/\
  ∀i∈Region.ready md ops listed,wpOpIn F n P ops Q i (fun a' w'=>(i=z∨C w')/\zAc F n P md ops z C Q fuel (listed.setIfInBounds i true) a' w') a w
theorem zCY:∀(fuel:Nat) (listed:Array Bool) (a:Act) (w:WB),zAc F n P md ops z C Q fuel listed a w->wpAnyIn F n P md ops Q fuel listed a w
 |0,_,_,_,h=>h
 |fuel+1,_,_,_,h=>⟨h.1,fun i hi=>eD (fun I w' h2=>zCY fuel _ I w' h2.2) (h.2 i hi)⟩
def jW(Q:Exit->Act->WB->Prop):Exit->Act->WB->Prop
 | .panic _,_,_=>False
 |e,a,w=>Q e a w
theorem yF(z:Nat)(C:WB->Prop)(J:P.follows .mixedOrders=true)
  (h:zAc F n P .any ops z C (jW Q) ops.size (Array.replicate ops.size false) a w.drew):(Code.region id ops true).wpIn F n P Q a w:=
 cW (fun e a' w' I=>by cases e<;>first|exact I|exact I.elim) (wpIn_region_any J (zCY _ _ _ _ h))
def zAk(P:WH)(ops:Array Oper)(C:WB->Prop)(o:Oper)(v:WE)(a:Act):Prop:=
 ((Region.wanted o (yielded ops a.tmps)=true/\∀w,C w->(execOp a.eval o).run P w=.ok (.value v) w)∨(Region.wanted o (yielded ops a.tmps)=false/\v=undef))/\∀w,o.about P w a.eval=none
theorem zAk.wpOpIn(O:zAE ops=true)(hi:ops[i]?=some o)(hy:zAk P ops C o v a){K:Act->WB->Prop}{w:WB}(hw:C w)(h:K (a.put o.dst v) w):
  wpOpIn F n P ops Q i K a w:=by
 unfold Go.wpOpIn
 simp only[hi]
 have J:∀f,o.about P w a.eval=some f->F.fn f:=fun f U=>by rw[hy.2 w]at U;cases U
 rcases hy.1 with⟨I,hv⟩|⟨I,rfl⟩
 .simp only[I,cG,Oper.wpIn,bH _ _ _ (zCJ O hi),hv w hw,Oper.uponIn];exact⟨J,h⟩
 .simp only[I,xL,xJ];exact⟨J,h⟩
theorem zAk.of_same{I:Act}(J:zAk P ops C o v a)(U:execOp I.eval o=execOp a.eval o)
  (O:Region.wanted o (yielded ops I.tmps)=Region.wanted o (yielded ops a.tmps))(hb:∀w,o.about P w I.eval=o.about P w a.eval):zAk P ops C o v I:=by
 refine⟨?_,fun w=>by rw[hb w];exact J.2 w⟩
 rw[U,O]
 exact J.1
theorem zJR{oj:Oper}(hpl:zAE ops=true)(hj:ops[j]?=some oj)(hap:oi.apart ops oj=true)
  (hsi:∀cs b,oi.op≠ .select cs b)(hsj:∀cs b,oj.op≠ .select cs b)
  (hQ:∀c a w,Q (.panic c) (a.put oi.dst v) w->Q (.panic c) a w){K:Act->WB->Prop}{a:Act}{w:WB}
  (hy:zAk P ops C oi v a)(h:wpOpIn F n P ops Q j K (a.put oi.dst v) w):
  wpOpIn F n P ops Q j (fun a' w'=>zAk P ops C oi v a'/\K (a'.put oi.dst v) w') a w:=by
 obtain⟨h1,h2,h3⟩:=Oper.apart_spec hap
 have keep:∀(a:Act),zAk P ops C oi v a->∀u,zAk P ops C oi v (a.put oj.dst u):=fun a hy u=>
  hy.of_same (execOp_put oi hsi a oj.dst u h3) (wanted_put oi a oj.dst u h3) (fun w=>about_put oi w a oj.dst u h3)
 have keepD:∀d,zAk P ops C oi v { a with defers:=d::a.defers }:=fun d=>hy.of_same rfl rfl (fun _=>rfl)
 have hpj:=zCJ hpl hj
 unfold wpOpIn at*
 simp only[hj]at*
 rw[wanted_put oj a oi.dst v h1,about_put oj w a oi.dst v h1]at h
 split
 .rename_i hw
  simp only[hw,cG]at h
  unfold Oper.wpIn at*
  rw[about_put oj w a oi.dst v h1]at h
  refine⟨h.1,?_⟩
  have h:=h.2
  rw[bH _ _ _ hpj,execOp_put oj hsj a oi.dst v h1]at h
  rw[bH _ _ _ hpj]
  generalize(execOp a.eval oj).run P w=r at*
  cases r with
  | ok x w'=>
   cases x<;>simp only[Oper.uponIn]at h ⊢
   case value u=>exact⟨keep a hy u,by rw[<-eE a v u h2];exact h⟩
   case skip=>exact⟨keep a hy _,by rw[<-eE a v undef h2];exact h⟩
   case defer d=>
    refine⟨keep _ (keepD d) _,?_⟩
    rw[<-eE _ v undef h2,<-Act.put_defers]
    exact h
   case enter f args=>
    refine⟨h.1,bG h.2 fun e w'' he=>?_⟩
    cases e with
    |returned u=>exact⟨keep a hy u,by rw[<-eE a v u h2];exact he⟩
    |panicked c=>exact hQ _ _ _ he
    |outgrown=>exact he
   case row row args=>exact⟨h.1,RowsIn.mono h.2 fun u w'' he=>⟨keep a hy u,by rw[<-eE a v u h2];exact he⟩⟩
   case round l f tmps assign body=>
    refine⟨h.1,RoundIn.mono h.2 fun e w'' he=>?_⟩
    cases e with
    |returned u=>exact⟨keep a hy u,by rw[<-eE a v u h2];exact he⟩
    |panicked c=>exact hQ _ _ _ he
    |outgrown=>exact he
  |halt x w'=>
   cases x<;>simp only[Oper.uponIn]at h ⊢
   case panic u=>exact hQ _ _ _ h
 .rename_i hw
  simp only[hw]at h
  exact⟨h.1,keep a hy _,by rw[<-eE a v undef h2];exact h.2⟩
theorem zIB(h7:zAE ops=true)(hn:zB7 md ops z i=true)(hi:ops[i]?=some oi)(U:∀(j:Nat) (o:Oper) cs b,ops[j]?=some o->o.op≠ .select cs b)
    (hQ:∀c a w,Q (.panic c) (a.put oi.dst v) w->Q (.panic c) a w):
    ∀(fuel:Nat) (listed:Array Bool) (a:Act) (w:WB),
      (∀j oj,ops[j]?=some oj->j≠i->listed.getD j true=false->(∀e∈oj.after,Region.binds md e=true->e.on≠i)->oi.apart ops oj=true)->
      i∈Region.ready md ops listed->zAk P ops C oi v a->C w->
      zAc F n P md ops z C Q fuel (listed.setIfInBounds i true) (a.put oi.dst v) w->zAc F n P md ops z C Q (fuel+1) listed a w:=by
  intro fuel
  induction fuel with
  | zero=>
    intro listed a w _ hr hy hc H
    refine⟨fun h=>(by rw[h]at hr;cases hr),fun j hj=>?_⟩
    by_cases hji:j=i
    . subst hji;exact hy.wpOpIn h7 hi hc ⟨.inr hc,H⟩
    . have:=ready_mono hj hji
      rw[H.1]at this
      cases this
  | succ fuel ih=>
    intro listed a w I hr hy hc H
    refine⟨fun h=>(by rw[h]at hr;cases hr),fun j hj=>?_⟩
    by_cases hji:j=i
    . subst hji;exact hy.wpOpIn h7 hi hc ⟨.inr hc,H⟩
    . have h1:=H.2 j (ready_mono hj hji)
      obtain⟨h4,oj,J,hf⟩:=cO.1 hj
      have h5:∀e∈oj.after,Region.binds md e=true->e.on≠i:=fun e he hb hp=>by
        have h1:=hf e he hb
        have h0:=(cO.1 hr).1
        rw[hp]at h1
        rcases bJ i listed.size with h'|h'
        . simp[h']at h0 h1;rw[h0]at h1;cases h1
        . simp[cL h']at h1
      have h2:=zJR h7 J (I j oj J hji h4 h5) (fun cs b=>U i oi cs b hi) (fun cs b=>U j oj cs b J) hQ hy h1
      have O:∀k ok,ops[k]?=some ok->k≠i->(listed.setIfInBounds j true).getD k true=false->
          (∀e∈ok.after,Region.binds md e=true->e.on≠i)->oi.apart ops ok=true:=fun k ok hk hq h9 hs=>by
        refine I k ok hk hq ?_ hs
        by_cases hjk:j=k
        . subst hjk;exact h4
        . rw[cB true hjk]at h9;exact h9
      have hm:i∈Region.ready md ops (listed.setIfInBounds j true):=ready_mono hr (bK hji)
      have hu:j≠z:=fun e=>by
        subst e
        obtain⟨ed,hv,hb,ho⟩:=zGI hn J
        exact h5 ed hv hb ho
      refine eD (fun a' w' h3=>?_) h2
      have hd:C w':=h3.2.1.resolve_left hu
      exact⟨.inr hd,ih (listed.setIfInBounds j true) a' w' O hm h3.1 hd (by rw[Array.setIfInBounds_comm _ _ hji];exact h3.2.2)⟩
theorem zP{listed:Array Bool}(I:zAE ops=true)(J:zB7 md ops z i=true)(hi:ops[i]?=some oi)
  (U:Region.noSelect ops=true)(O:Region.free md ops listed i=true)(hr:(Region.ready md ops listed).contains i=true)
  (hQ:∀c a w,Q (.panic c) (a.put oi.dst v) w->Q (.panic c) a w)(hc:C w)(hy:zAk P ops C oi v a)
  (h:zAc F n P md ops z C Q fuel (listed.setIfInBounds i true) (a.put oi.dst v) w):zAc F n P md ops z C Q (fuel+1) listed a w:=
 zIB I J hi (Region.noSelect_spec U) hQ fuel listed a w (Region.free_spec hi O) (by simpa using hr) hy hc h
theorem zAL{listed:Array Bool}(J:Region.ready md ops listed=[i])(U:ops[i]?=some o)
  (h:∀K:Act->WB->Prop,(∀a' w',((i==z)=true∨C w')->zAc F n P md ops z C Q fuel (listed.setIfInBounds i true) a' w'->K a' w')->
   if Region.wanted o (yielded ops a.tmps)=true then Oper.wpIn F n P o a w K Q else(∀f,o.about P w a.eval=some f->F.fn f)/\K (a.put o.dst undef) w):
  zAc F n P md ops z C Q (fuel+1) listed a w:=
 ⟨fun e=>(by rw[J]at e;cases e),fun j O=>by
  rw[J]at O
  obtain rfl:j=i:=by simpa using O
  exact bT U fun K' I=>h K' fun a' w' h1 h2=>I a' w' ⟨by simpa using h1,h2⟩⟩
theorem zYO{listed:Array Bool}(I:Region.ready md ops listed=[])(h:Q .normal a w):zAc F n P md ops z C Q fuel listed a w:=by
 cases fuel with
 |zero=>exact⟨I,h⟩
 |succ fuel=>exact⟨fun _=>h,fun i hi=>(by rw[I]at hi;cases hi)⟩
theorem zCW{listed:Array Bool}(I:Region.ready md ops listed=[])(h:Q .normal a w):zAc F n P md ops z C (jW Q) fuel listed a w:=zYO I h
end
section
variable {F:Fence}{n:Nat}{P:WH}{ops:Array Oper}{Q:Exit->Act->WB->Prop}
def jT(ops:Array Oper):Bool:=(List.range ops.size).all fun i=>(List.range ops.size).all fun j=>i==j||match ops[i]?.bind (·.dst),ops[j]?.bind (·.dst)with
 |some t,some u=>t !=u
 |_,_=>true
def zBh(ops:Array Oper)(k:Nat):Bool:=ops.all fun o=>match o.dst with
 |none=>true
 |some t=>decide (t<k)
theorem zAH(h:jT ops=true){i j:Nat}{oi O:Oper}(hi:ops[i]?=some oi)(J:ops[j]?=some O)(I:i≠j){t:Tmp}(ht:oi.dst=some t):O.dst≠some t:=by
 intro hu
 have U:=xT.1 h i (xU.2 (xQ.1 hi).1)
 have h2:=xT.1 U j (xU.2 (xQ.1 J).1)
 rw[hi,J]at h2
 simp[ht,hu,I]at h2
theorem jB(h:zBh ops k=true){i:Nat}{o:Oper}(hi:ops[i]?=some o){t:Tmp}(ht:o.dst=some t):t<k:=by
 have:=eP.1 h o (eZ hi)
 rw[ht]at this
 simpa using this
theorem zB9{xs:Array WE}(h:i≠j):(xs.setIfInBounds i v).getD j undef=xs.getD j undef:=by
 rw[xV,xV,Array.getElem?_setIfInBounds_ne h]
variable {E:Nat->WE->WB->Prop}{C:WB->Prop}{a0:Act}
theorem zAx{listed:Array Bool}(h:listed.getD i true=false):(listed.setIfInBounds i true).count false+1=listed.count false:=by
 have I:i<listed.size:=by
  rcases bJ i listed.size with e|e
  .exact e
  .simp[cL e]at h
 have J:listed[i]=false:=by simpa[I]using h
 rw[Array.setIfInBounds,dif_pos I,Array.count_set]
 have hpos:0<listed.count false:=Array.count_pos_iff.2 (by rw[<-J];exact eC I)
 simp[J]
 omega
def zB8(ops:Array Oper)(listed0:Array Bool)(t:Tmp):Bool:=(List.range ops.size).any fun i=> !listed0.getD i true&&(ops[i]?.bind (·.dst)==some t)
theorem zKk{listed0:Array Bool}(hi:ops[i]?=some o)(I:listed0.getD i true=false){t:Tmp}(ht:o.dst=some t):zB8 ops listed0 t=true:=by
 unfold zB8
 exact bX.2 ⟨i,xU.2 (xQ.1 hi).1,by rw[I,hi];simp[ht]⟩
structure FlowL(ops:Array Oper)(listed0:Array Bool)(E:Nat->Value->World->Prop)(C:World->Prop)(a0:Act)(S:Nat->Prop)(a:Act)(w:World):Prop where
 cls:C w
 size:a.tmps.size=a0.tmps.size
 defers:a.defers=a0.defers
 keep:∀t,zB8 ops listed0 t=false->a.tmps.getD t undef=a0.tmps.getD t undef
 vals:∀i o t,S i->ops[i]?=some o->o.dst=some t->E i (a.tmps.getD t undef) w
theorem FlowL.mono{listed0:Array Bool}(h:FlowL ops listed0 E C a0 S a w)(I:∀i,S' i->S i):FlowL ops listed0 E C a0 S' a w:=
 ⟨h.cls,h.size,h.defers,h.keep,fun i o t hi=>h.vals i o t (I i hi)⟩
theorem FlowL.put{listed0:Array Bool}(h4:jT ops=true)(U:zBh ops a0.tmps.size=true)(hC:∀w w',C w->Below w.heap.size w w'->C w')(hE:∀i v w w',E i v w->Below w.heap.size w w'->E i v w')
  {S:Nat->Prop}{a:Act}{w w':WB}(h:FlowL ops listed0 E C a0 S a w){i:Nat}{o:Oper}(hi:ops[i]?=some o)(hl:listed0.getD i true=false){v:WE}(hv:E i v w')(hb:Below w.heap.size w w'):FlowL ops listed0 E C a0 (fun j=>S j∨j=i) (a.put o.dst v) w':=by
 refine⟨hC _ _ h.cls hb,?_,?_,?_,?_⟩
 .rw[<-h.size]
  unfold Act.put
  cases o.dst<;>simp
 .rw[<-h.defers]
  unfold Act.put
  cases o.dst<;>rfl
 .intro t ht
  rw[<-h.keep t ht]
  unfold Act.put
  cases O:o.dst with
  |none=>rfl
  |some d=>
   have J:d≠t:=fun e=>by subst e;rw[zKk hi hl O]at ht;cases ht
   exact zB9 J
 .intro j oj t hj I ht
  by_cases hji:j=i
  .subst hji
   rw[hi]at I
   cases I
   have h0:=jB U hi ht
   unfold Act.put
   rw[ht]
   show E j ((a.tmps.setIfInBounds t v).getD t undef) w'
   rw[xV,eL (by rw[h.size];exact h0)]
   exact hv
  .have hS:S j:=hj.resolve_right hji
   have h1:=hE _ _ _ _ (h.vals j oj t hS I ht) hb
   have J:∀d,o.dst=some d->d≠t:=fun d O e=>by subst e;exact zAH h4 hi I (bK hji) O ht
   unfold Act.put
   cases O:o.dst with
   |none=>exact h1
   |some d=>
    show E j ((a.tmps.setIfInBounds d v).getD t undef) w'
    rw[zB9 (J d O)]
    exact h1
theorem zLN:∀(D:List Nat) {x y:Array WE},x.size=y.size->(∀t,t ∉ D->x.getD t undef=y.getD t undef)->x=D.foldl (fun z t=>z.setIfInBounds t (x.getD t undef)) y
 | [],x,y,hs,h=>by
  show x=y
  refine eF hs fun i I h2=>?_
  have:=h i fG
  rw[xV,xV,cD I,cD h2]at this
  exact this
 | d::D,x,y,hs,h=>by
  rw[eQ]
  refine zLN D (by simpa using hs) fun t ht=>?_
  by_cases e:t=d
  .subst e
   rcases bJ t y.size with g|g
   .rw[xV (xs:=y.setIfInBounds t _),eL g]
    rfl
   .simp[cL (oA:x.size<=t)]
  .rw[zB9 (bK e)]
   exact h t (by simp[e,ht])
def zPj(ops:Array Oper)(listed0:Array Bool):List Nat:=(List.range ops.size).filterMap fun i=>if listed0.getD i true then none else ops[i]?.bind (·.dst)
theorem zUu{listed0:Array Bool}{t:Nat}(h:t ∉ zPj ops listed0):zB8 ops listed0 t=false:=by
 cases hd:zB8 ops listed0 t with
 |false=>rfl
 |true=>
  exfalso
  unfold zB8 at hd
  obtain⟨i,hi,I⟩:=bX.1 hd
  simp only[xW,cR,bC]at I
  exact h (lE.2 ⟨i,hi,by rw[I.1,I.2];rfl⟩)
end
section
variable {F:Fence}{n:Nat}{P:WH}{ops:Array Oper}{Q:Exit->Act->WB->Prop}
def zDO(ops:Array Oper):Nat->Nat->Nat->Bool
 |0,_,_=>false
 |fuel+1,i,j=>match ops[j]? with
  |none=>false
  |some o=>o.after.any fun e=>Region.binds .any e&&(e.on==i||zDO ops fuel i e.on)
def zHp(ops:Array Oper)(listed0:Array Bool)(k:Nat):Bool:=(List.range ops.size).all fun j=>decide (j<k)||(List.range k).all fun i=>listed0.getD i true||zDO ops ops.size i j
def zCP(ops:Array Oper):Bool:=(List.range ops.size).all fun i=>match ops[i]? with
 |none=>true
 |some o=>o.after.all fun e=> !Region.binds .any e||decide (e.on<i)
theorem zCO(h:zCP ops=true){i:Nat}{o:Oper}(hi:ops[i]?=some o){e}(O:e∈o.after)(hb:Region.binds .any e=true):e.on<i:=by
 have J:=(xQ.1 hi).1
 have I:=xT.1 h i (xU.2 J)
 rw[hi]at I
 have h2:=eP.1 I e O
 rw[hb]at h2
 simpa using h2
def zE6(ops:Array Oper)(listed:Array Bool):Bool:=(List.range ops.size).all fun i=> !listed.getD i false||match ops[i]? with
 |none=>true
 |some o=>o.after.all fun e=> !Region.binds .any e||listed.getD e.on false
def zLt(listed:Array Bool)(k:Nat):Bool:=(List.range listed.size).all fun i=>decide (i<k)|| !listed.getD i false
def zJO(ops:Array Oper)(listed:Array Bool):Prop:=∀i o,listed.getD i false=true->ops[i]?=some o->∀e∈o.after,Region.binds .any e=true->listed.getD e.on false=true
theorem zBZ{listed:Array Bool}(hc:zJO ops listed):∀(fuel i j:Nat) (o:Oper),ops[j]?=some o->(∀e∈o.after,Region.binds .any e=true->listed.getD e.on false=true)->zDO ops fuel i j=true->listed.getD i false=true
 |0,_,_,_,_,_,h=>by cases h
 | fuel+1,i,j,o,hj,hd,h=>by
  unfold zDO at h
  rw[hj]at h
  obtain⟨x,hx,he⟩:=fX.1 h
  simp only[xW,cZ,bC]at he
  have hl:=hd _ (eC hx) he.1
  rcases he.2 with e|e
  .rw[<-e];exact hl
  .have U:∃I,ops[(o.after[x]).on]?=some I:=by
    cases ho:ops[(o.after[x]).on]? with
    |some I=>exact⟨I,rfl⟩
    |none=>
     exfalso
     cases fuel with
     |zero=>cases e
     |succ f=>unfold zDO at e;rw[ho]at e;cases e
   obtain⟨I,J⟩:=U
   exact zBZ hc fuel i _ I J (fun e' O hb'=>hc _ _ hl J e' O hb') e
theorem zDh{listed:Array Bool}(h:zE6 ops listed=true):zJO ops listed:=by
 intro i o J hi e O hb
 have I:=xT.1 h i (xU.2 (xQ.1 hi).1)
 rw[J,hi,fY,cS]at I
 have h2:=eP.1 I e O
 rw[hb]at h2
 simpa using h2
theorem zKa{listed:Array Bool}(h:zLt listed k=true){i:Nat}(hk:k<=i):listed.getD i false=false:=by
 rcases bJ i listed.size with g|g
 .have I:=xT.1 h i (xU.2 g)
  simp only[cZ,bY,cR]at I
  rcases I with I|I
  .omega
  .exact I
 .simp[cL g]
def blk:WE->WG Nat
 | .pointer (some ⟨b,_,_⟩)=>some b
 |_=>none
structure FlowB(ops:Array Oper)(listed0:Array Bool)(A:Nat->Bool)(E:Nat->Value->World->Prop)(C:World->Prop)(a0:Act)(S:Nat->Prop)(a:Act)(w:World):Prop where
 at_:FlowL ops listed0 E C a0 S a w
 old:∀i o t b,S i->A i=true->ops[i]?=some o->o.dst=some t->blk (a.tmps.getD t undef)=some b->b<w.heap.size
 apart:∀i j oi oj ti tj bi bj,S i->S j->i≠j->A i=true->A j=true->ops[i]?=some oi->ops[j]?=some oj->oi.dst=some ti->oj.dst=some tj->blk (a.tmps.getD ti undef)=some bi->blk (a.tmps.getD tj undef)=some bj->bi≠bj
variable {listed0:Array Bool}{A:Nat->Bool}{E:Nat->WE->WB->Prop}{C:WB->Prop}{a0:Act}
theorem FlowB.mono(h:FlowB ops listed0 A E C a0 S a w)(I:∀i,S' i->S i):FlowB ops listed0 A E C a0 S' a w:=
 ⟨h.at_.mono I,fun i o t b hi=>h.old i o t b (I i hi),fun i j oi oj J O U bj hi hj=>h.apart i j oi oj J O U bj (I i hi) (I j hj)⟩
theorem zHN(O:zBh ops a0.tmps.size=true){a:Act}(I:a.tmps.size=a0.tmps.size){i:Nat}{o:Oper}(hi:ops[i]?=some o){t:Tmp}(ht:o.dst=some t)(v:WE):(a.put o.dst v).tmps.getD t undef=v:=by
 have J:=jB O hi ht
 unfold Act.put
 rw[ht]
 show(a.tmps.setIfInBounds t v).getD t undef=v
 rw[xV,eL (by rw[I];exact J)]
 rfl
theorem zEn(I:jT ops=true){a:Act}{i j:Nat}{o O:Oper}(hi:ops[i]?=some o)(U:ops[j]?=some O)(J:i≠j){t:Tmp}(ht:O.dst=some t)(v:WE):(a.put o.dst v).tmps.getD t undef=a.tmps.getD t undef:=by
 unfold Act.put
 cases hd:o.dst with
 |none=>rfl
 |some d=>exact zB9 (fun e=>by subst e;exact zAH I hi U J hd ht)
theorem FlowB.put(O:jT ops=true)(h6:zBh ops a0.tmps.size=true)(hC:∀w w',C w->Below w.heap.size w w'->C w')(hE:∀i v w w',E i v w->Below w.heap.size w w'->E i v w')
  {S:Nat->Prop}{a:Act}{w w':WB}(h:FlowB ops listed0 A E C a0 S a w){i:Nat}{o:Oper}(hi:ops[i]?=some o)(hl:listed0.getD i true=false){v:WE}(hv:E i v w')(hb:Below w.heap.size w w')(hA:A i=true->∀b,blk v=some b->w.heap.size<=b/\b<w'.heap.size):
  FlowB ops listed0 A E C a0 (fun j=>S j∨j=i) (a.put o.dst v) w':=by
 refine⟨h.at_.put O h6 hC hE hi hl hv hb,?_,?_⟩
 .intro j oj t b hj he h8 ht h7
  by_cases hji:j=i
  .subst hji
   rw[hi]at h8
   cases h8
   rw[zHN h6 h.at_.size hi ht]at h7
   exact(hA he b h7).2
  .rw[zEn O hi h8 (bK hji) ht]at h7
   exact vV (h.old j oj t b (hj.resolve_right hji) he h8 ht h7) hb.size
 .intro x y ox oy tx ty bx hd hx hy ha h9 hc h4 J h5 U h0 I
  by_cases hxi:x=i
  .subst hxi
   rw[hi]at h4
   cases h4
   rw[zHN h6 h.at_.size hi h5]at h0
   rw[zEn O hi J ha U]at I
   have h1:=(hA h9 bx h0).1
   have h2:=h.old y oy ty hd (hy.resolve_right (bK ha)) hc J U I
   omega
  .rw[zEn O hi h4 (bK hxi) h5]at h0
   by_cases hyi:y=i
   .subst hyi
    rw[hi]at J
    cases J
    rw[zHN h6 h.at_.size hi U]at I
    have h1:=(hA hc hd I).1
    have h2:=h.old x ox tx bx (hx.resolve_right hxi) h9 h4 h5 h0
    omega
   .rw[zEn O hi J (bK hyi) U]at I
    exact h.apart x y ox oy tx ty bx hd (hx.resolve_right hxi) (hy.resolve_right hyi) ha h9 hc h4 J h5 U h0 I
def yS(m k:Nat):Array Bool:=((List.range m).map fun i=>decide (i<k)).toArray
theorem zX9(hz:zCP ops=true)(hU:zHp ops listed0 k=true)(hR:jT ops=true)(hP:zBh ops a0.tmps.size=true)(hO:decide (k<=ops.size)=true)(hC:∀w w',C w->Below w.heap.size w w'->C w')(hE:∀i v w w',E i v w->Below w.heap.size w w'->E i v w')
  (hk:∀i,i<k->listed0.getD i true=false->∀o,ops[i]?=some o->∀a w,FlowB ops listed0 A E C a0 (fun j=>listed0.getD j true=false/\∃e∈o.after,Region.binds .any e=true/\e.on=j) a w->∀K:Act->WB->Prop,(∀v w',E i v w'->Below w.heap.size w w'->(A i=true->∀b,blk v=some b->w.heap.size<=b/\b<w'.heap.size)->K (a.put o.dst v) w')->wpOpIn F n P ops Q i K a w)
  (ha:∀a w,FlowB ops listed0 A E C a0 (fun i=>i<k/\listed0.getD i true=false) a w->zAc F n P .any ops z (fun _=>True) Q (ops.size-k) (yS ops.size k) a w):
  ∀(fuel:Nat) (listed:Array Bool) (a:Act) (w:WB),listed.count false=fuel->listed.size=ops.size->(∀i,k<=i->listed.getD i false=false)->zJO ops listed->(∀i,listed0.getD i true=true->i<ops.size->listed.getD i false=true)->
   FlowB ops listed0 A E C a0 (fun i=>listed0.getD i true=false/\listed.getD i false=true) a w->zAc F n P .any ops z (fun _=>True) Q fuel listed a w:=by
 have hF:=xX hO
 intro fuel
 induction fuel with
 | zero=>
  intro listed a w hc hs J hq h5 hf
  have hn:∀i,listed.getD i true=true:=fun i=>by
   cases hg:listed.getD i true with
   |true=>rfl
   |false=>
    have:=zAx hg
    omega
  have hk2:k=ops.size:=by
   rcases bJ k ops.size with O|hge
   .exfalso
    have U:=hn k
    have h2:=J k (vQ _)
    have h6:k<listed.size:=oA
    simp[h6]at U h2
    rw[U]at h2
    cases h2
   .omega
  have hl:listed=yS ops.size k:=by
   refine eF (by simp[yS,hs]) fun i U h2=>?_
   have:=hn i
   simp[U]at this
   simp[yS,this]
   omega
  have:=ha a w (hf.mono fun i hi=>⟨hi.2,by
   have U:=hn i
   have O:i<listed.size:=oA
   simp[O]at U ⊢
   exact U⟩)
  rw[hl]
  rwa [show ops.size-k=0 from oA]at this
 | succ fuel ih=>
  intro listed a w hc hs J hq h5 hf
  by_cases I:∀i,i<k->listed.getD i false=true
  .have hl:listed=yS ops.size k:=by
    refine eF (by simp[yS,hs]) fun i U h2=>?_
    by_cases h7:i<k
    .have:=I i h7
     simp[U]at this
     simp[yS,this,h7]
    .have:=J i oA
     simp[U]at this
     simp[yS,this,h7]
   have hK:listed.count false=ops.size-k:=by
    rw[hl]
    unfold yS
    rw[List.count_toArray,List.count_eq_countP,List.countP_map]
    have:∀m,k<=m->List.countP ((fun x=>x==false) ∘ fun i=>decide (i<k)) (List.range m)=m-k:=by
     intro m
     induction m with
     |zero=>intro h;simp
     | succ m ihm=>
      intro h
      rw[eH,List.countP_append]
      by_cases e:k=m+1
      .subst e
       have:List.countP ((fun x=>x==false) ∘ fun i=>decide (i<m+1)) (List.range m)=0:=by
        rw[eS]
        intro x hx
        have:=xU.1 hx
        simp;omega
       rw[this];simp
      .rw[ihm oA]
       have e2:decide (m<k)=false:=xZ oA
       simp[e2]
       omega
    exact this ops.size hF
   have hI:=ha a w (hf.mono fun i hi=>⟨hi.2,I i hi.1⟩)
   rw[<-hl,<-hK,hc]at hI
   exact hI
  .simp only[fZ]at I
   obtain⟨u,hQ,hu⟩:=I
   have O:u<listed.size:=oA
   have hW:listed.getD u true=false:=by
    simp[O]at hu ⊢
    exact hu
   have hh:∀i,listed.getD i true=false->Region.ready .any ops listed≠ []:=by
    intro i
    induction i using Nat.strongRecOn with
    | _ i ihi=>
     intro hi h0
     have O:i<listed.size:=by
      rcases bJ i listed.size with e|e
      .exact e
      .simp[cL e]at hi
     have ho:ops[i]?=some (ops[i]'(by rw[<-hs];exact O)):=cD _
     by_cases I:∀e∈(ops[i]'(by rw[<-hs];exact O)).after,Region.binds .any e=true->listed.getD e.on false=true
     .have hm:i∈Region.ready .any ops listed:=cO.2 ⟨hi,_,ho,I⟩
      rw[h0]at hm
      cases hm
     .simp only[fZ]at I
      obtain⟨e,he,hb,hg⟩:=I
      have hS:=zCO hz ho he hb
      refine ihi e.on hS ?_ h0
      have h6:e.on<listed.size:=oA
      simp[h6]at hg ⊢
      exact hg
   refine⟨fun h0=>(hh u hW h0).elim,fun i hi=>?_⟩
   obtain⟨h8,o,ho,I⟩:=cO.1 hi
   have hG:=(xQ.1 ho).1
   have hd:listed0.getD i true=false:=by
    cases hg:listed0.getD i true with
    |false=>rfl
    |true=>
     have:=h5 i hg hG
     have hJ:i<listed.size:=oA
     simp[hJ]at this h8
     rw[this]at h8
     cases h8
   have h7:i<k:=by
    rcases bJ i k with e|e
    .exact e
    .exfalso
     have U:=xT.1 hU i (xU.2 hG)
     simp only[cZ,bY]at U
     rcases U with U|U
     .omega
     .have h2:=xT.1 U u (xU.2 hQ)
      simp only[cZ]at h2
      rcases h2 with h2|h2
      .exact hu (h5 u h2 oA)
      .exact hu (zBZ hq _ u i o ho I h2)
   refine hk i h7 hd o ho a w (hf.mono fun j hj=>?_) _ fun v w' hv hb hA=>⟨.inr trivial,?_⟩
   .obtain⟨hT,e,he,hb,rfl⟩:=hj
    exact⟨hT,I e he hb⟩
   .refine ih (listed.setIfInBounds i true) (a.put o.dst v) w' ?_ (by simpa using hs) (fun j hj=>?_) (fun j oj hj hp e he hD=>?_) (fun j hj hV=>?_) ((hf.put hR hP hC hE ho hd hv hb hA).mono fun j hj=>?_)
    .have:=zAx h8
     omega
    .rw[cB false oA]
     exact J j hj
    .by_cases e2:j=i
     .subst e2
      rw[ho]at hp
      cases hp
      by_cases e3:e.on=j
      .rw[e3];exact hj
      .rw[cB false (bK e3)]
       exact I e he hD
     .rw[cB false (bK e2)]at hj
      have:=hq j oj hj hp e he hD
      by_cases e3:e.on=i
      .rw[e3]
       have O:i<listed.size:=oA
       simp[O]
      .rw[cB false (bK e3)]
       exact this
    .by_cases e3:j=i
     .subst e3
      rw[hd]at hj
      cases hj
     .rw[cB false (bK e3)]
      exact h5 j hj hV
    .by_cases e:j=i
     .exact .inr e
     .left
      rw[cB false (bK e)]at hj
      exact hj
theorem zIk(A:Nat->Bool)(E:Nat->WE->WB->Prop)(C:WB->Prop)(O:zCP ops=true)(h8:zHp ops listed0 k=true)(h7:jT ops=true)(h5:zBh ops a0.tmps.size=true)(h4:decide (k<=ops.size)=true)
    (h0:listed0.count false=fuel)(h6:listed0.size=ops.size)(hcl:zE6 ops listed0=true)(hto:zLt listed0 k=true)
    (hC:∀w w',C w->Below w.heap.size w w'->C w')(hE:∀i v w w',E i v w->Below w.heap.size w w'->E i v w')(hw:C w)
    (J:∀i,i<k->listed0.getD i true=false->∀o,ops[i]?=some o->∀a w,FlowB ops listed0 A E C a0 (fun j=>listed0.getD j true=false/\∃e∈o.after,Region.binds .any e=true/\e.on=j) a w->∀K:Act->WB->Prop,(∀v w',E i v w'->Below w.heap.size w w'->(A i=true->∀b,blk v=some b->w.heap.size<=b/\b<w'.heap.size)->K (a.put o.dst v) w')->wpOpIn F n P ops Q i K a w)
    (U:∀a w,FlowB ops listed0 A E C a0 (fun i=>i<k/\listed0.getD i true=false) a w->zAc F n P .any ops z (fun _=>True) Q (ops.size-k) (yS ops.size k) a w):
    zAc F n P .any ops z (fun _=>True) Q fuel listed0 a0 w:=by
  have I:∀i,listed0.getD i true=false->listed0.getD i false=true->False:=fun i h1 h2=>by
    rcases bJ i listed0.size with g|g
    . simp[g]at h1 h2
      rw[h1]at h2
      cases h2
    . simp[cL g]at h2
  exact zX9 O h8 h7 h5 h4 hC hE J U fuel listed0 a0 w h0 h6 (fun i hi=>zKa hto hi) (zDh hcl) (fun i hi hl=>by
      have g:i<listed0.size:=oA
      simp[g]at hi ⊢
      exact hi)
    ⟨⟨hw,rfl,rfl,fun _ _=>rfl,fun i o t hi=>(I i hi.1 hi.2).elim⟩,fun i o t b hi=>(I i hi.1 hi.2).elim,fun i j oi oj ti tj bi bj hi=>(I i hi.1 hi.2).elim⟩
end
theorem yN{p q:Nat->Prop}(h:∀i,i<k->q i->p i)(O:q k->p k):∀i,i<k+1->q i->p i:=fun i hi J=>by
 rcases lF.1 hi with I|I
 .exact h i I J
 .subst I;exact O J
structure SF where
 p:WE->WB->Prop
 st:∀v w w',p v w->Below w.heap.size w w'->p v w'
variable {G:Nat->SF}
def SF.any:SF:=⟨fun _ _=>True,fun _ _ _ _ _=>trivial⟩
def SF.eq(u:WE):SF:=⟨fun v _=>v=u,fun _ _ _ h _=>h⟩
def upd(G:Nat->SF):List (Nat×SF)->Nat->SF
 | [],t=>G t
 |(k,f)::l,t=>bif Nat.beq k t then f else upd G l t
theorem zAP{G:Nat->SF}{t:Nat}:∀{l:List (Nat×SF)},(l.map (·.1)).contains t=false->upd G l t=G t
 | [],_=>rfl
 | (k,f)::l,h=>by
  rw[xY,List.contains_cons,hH]at h
  have I:Nat.beq k t=false:=by
   cases e:Nat.beq k t with
   |false=>rfl
   |true=>have:=cH e;subst this;simp at h
  show(bif Nat.beq k t then f else upd G l t)=G t
  rw[I]
  exact zAP h.2
structure At(w0:World)(G:Nat->SF)(n:Nat)(ds:List Deferred)(a:Act)(w:World):Prop where
 gr:Below w0.heap.size w0 w
 size:a.tmps.size=n
 nd:a.defers=ds
 sl:∀t,(G t).p (a.tmps.getD t undef) w
def zDY(o:Oper):List Nat:=o.op.operands.toList.filterMap fun x=>match x with| .tmp t=>some t|_=>none
def yD(ops:Array Oper)(j:Nat):WG Tmp:=match ops[j]? with|some o=>o.dst|none=>none
theorem jC{t:Tmp}(h:yD ops j=some t):∃o,ops[j]?=some o/\o.dst=some t:=by
 unfold yD at h
 cases ho:ops[j]? with
 |none=>rw[ho]at h;cases h
 |some o=>rw[ho]at h;exact⟨o,rfl,h⟩
theorem zDE(ops:Array Oper)(j:Nat):(ops[j]?).bind Oper.dst=yD ops j:=by
 unfold yD
 cases ops[j]?<;>rfl
theorem jS(h:ops[j]?=some o):yD ops j=o.dst:=by unfold yD;rw[h]
def zPT(F:Fence)(m:Nat)(P:WH)(w0:WB)(G:Nat->SF)(o:Oper):Prop:=
 ∀(b:Act) (W:WB) (K:Act->WB->Prop) (Q:Exit->Act->WB->Prop),Below w0.heap.size w0 W->(∀t,t∈zDY o->(G t).p (b.tmps.getD t undef) W)->
  (∀v W',(∀d,o.dst=some d->(G d).p v W')->Below W.heap.size W W'->K (b.put o.dst v) W')->o.wpIn F m P b W K Q
def qO(F:Fence)(m:Nat)(P:WH)(w0:WB)(ops:Array Oper)(G:Nat->SF)(o:Oper):Prop:=
 match o.guard with
 |none=>zPT F m P w0 G o
 |some (j,want)=>∃g bv,yD ops j=some g/\(∀v w,(G g).p v w->v=.bool bv)/\(bv=want->zPT F m P w0 G o)/\(bv≠want->(∀d,o.dst=some d->∀w,(G d).p undef w)/\∀W b f,o.about P W b=some f->F.fn f)
def Obs(F:Fence)(m:Nat)(P:WH)(w0:WB)(ops:Array Oper)(G:Nat->SF):List Oper->Prop
 | []=>True
 |o::l=>qO F m P w0 ops G o/\Obs F m P w0 ops G l
theorem Obs.get{F:Fence}{m:Nat}{P:WH}{w0:WB}{ops:Array Oper}{G:Nat->SF}:∀{l:List Oper},Obs F m P w0 ops G l->∀(i:Nat) (o:Oper),l[i]?=some o->qO F m P w0 ops G o
 | [],_,i,o,h=>by simp at h
 |x::l,h,0,o,e=>by simp at e;subst e;exact h.1
 |x::l,h,i+1,o,e=>h.2.get i o (by simpa using e)
def looks(ops:Array Oper)(o:Oper):List Nat:=zDY o++match o.guard with|none=> []|some (j,_)=>(yD ops j).toList
def zBN(ops:Array Oper)(draw:Bool)(k n:Nat)(keys:List Nat):Bool:=
 jT ops&&zBh ops n&&zAE ops&&decide (k<=ops.size)&&
 keys.all (fun t=>(List.range k).any fun i=>yD ops i==some t)&&
 (List.range k).all (fun i=>match ops[i]? with
  |none=>true
  |some o=>(looks ops o).all fun t=>(List.range ops.size).all fun j=> !(yD ops j==some t)||(if draw then o.after.any fun e=>Region.binds .any e&&e.on==j else decide (j<i)))&&
 (!draw||(zCP ops&&zHp ops (Array.replicate ops.size false) k&&(List.range (ops.size-k)).all fun r=>Region.ready .any ops (yS ops.size (k+r))==[k+r]))
def zGj(ops:Array Oper)(k:Nat)(G:Nat->SF)(t:Nat):SF:=bif (List.range ops.size).any (fun i=>decide (k<=i)&&(yD ops i==some t))then SF.any else G t
section
variable {F:Fence}{m:Nat}{P:WH}{ops:Array Oper}{Q:Exit->Act->WB->Prop}
theorem zA4(hi:ops[i]?=some o)(I:qO F m P w0 ops G o){b:Act}{W:WB}{K:Act->WB->Prop}
  (h5:∀(j:Nat) (g:Nat),yD ops j=some g->g<b.tmps.size)
  (hb:Below w0.heap.size w0 W)(U:∀t,t∈looks ops o->(G t).p (b.tmps.getD t undef) W)(hK:∀v W',(∀d,o.dst=some d->(G d).p v W')->Below W.heap.size W W'->K (b.put o.dst v) W'):wpOpIn F m P ops Q i K b W:=by
 unfold wpOpIn
 rw[hi]
 show(if Region.wanted o (yielded ops b.tmps)=true then o.wpIn F m P b W K Q else _)
 unfold qO at I
 unfold looks at U
 cases hgd:o.guard with
 |none=>
  rw[hgd]at I
  have hw:Region.wanted o (yielded ops b.tmps)=true:=by unfold Region.wanted;rw[hgd]
  rw[if_pos hw]
  exact I b W K Q hb (fun t ht=>U t (eA _ ht)) hK
 | some q=>
  obtain⟨j,want⟩:=q
  rw[hgd]at I
  obtain⟨g,O,hj,hv,h1,h2⟩:=I
  have h4:=hv _ _ (U g (cX _ (by rw[hgd];show g∈(yD ops j).toList;rw[hj];simp)))
  have J:=h5 j g hj
  have h0:yielded ops b.tmps j=some O:=by
   unfold yielded
   rw[zDE,hj]
   show(match(b.tmps[g]?:WG WE)with|some (.bool b)=>some b|_=>none)=some O
   rw[cD J]
   have:b.tmps[g]=.bool O:=by rw[<-h4];simp[J]
   rw[this]
  have hw:Region.wanted o (yielded ops b.tmps)=(some O==some want):=by unfold Region.wanted;rw[hgd];show(yielded ops b.tmps j==some want)=_;rw[h0]
  rw[hw]
  by_cases e:O=want
  .rw[if_pos (by simp[e])]
   exact h1 e b W K Q hb (fun t ht=>U t (eA _ ht)) hK
  .rw[if_neg (by simp[e])]
   have h3:=h2 e
   exact⟨fun f hf=>h3.2 _ _ f hf,hK _ _ (fun d hd=>h3.1 d hd W) (xG _ _)⟩
theorem zFG{t:Nat}(h:o.dst≠some t):(b.put o.dst v).tmps.getD t undef=b.tmps.getD t undef:=by
 unfold Act.put
 cases hd:o.dst with
 |none=>rfl
 |some d=>exact zB9 (fun e=>h (by rw[hd,e]))
theorem zDq{o:WG Tmp}:(b.put o v).tmps.size=b.tmps.size:=by
 unfold Act.put
 cases o<;>simp
theorem zB2{o:WG Tmp}:(b.put o v).defers=b.defers:=by
 unfold Act.put
 cases o<;>rfl
theorem zNp{w0:WB}{G:Nat->SF}{n k:Nat}{a0:Act}{wA:WB}(h9:jT ops=true)(h5:zBh ops n=true)(hk:k<=ops.size)
  (h8:∀i o,i<k->ops[i]?=some o->∀t,t∈looks ops o->∀j,yD ops j=some t->j<i)
  (h6:∀t,(∀j,j<k->yD ops j≠some t)->(G t).p (a0.tmps.getD t undef) wA)
  (O:∀i o,i<k->ops[i]?=some o->qO F m P w0 ops G o)(he:Below w0.heap.size w0 wA)
  (U:∀a w,Below w0.heap.size w0 w->a.tmps.size=n->a.defers=a0.defers->(∀t,(∃j,j<k/\yD ops j=some t)∨(∀j,yD ops j≠some t)->(G t).p (a.tmps.getD t undef) w)->wpOpsIn F m P ops Q (List.range' k (ops.size-k)) a w):
  ∀(r i:Nat) (a:Act) (w:WB),i+r=k->Below wA.heap.size wA w->Below w0.heap.size w0 w->a.tmps.size=n->a.defers=a0.defers->
   (∀t,(∃j,j<i/\yD ops j=some t)->(G t).p (a.tmps.getD t undef) w)->(∀t,(∀j,j<i->yD ops j≠some t)->a.tmps.getD t undef=a0.tmps.getD t undef)->
   wpOpsIn F m P ops Q (List.range' i (ops.size-i)) a w
 | 0,i,a,w,hi,hA,h0,hs,hd,h1,h2=>by
  obtain rfl:i=k:=oA
  refine U a w h0 hs hd fun t ht=>?_
  rcases ht with ht|ht
  .exact h1 t ht
  .rw[h2 t (fun j _=>ht j)]
   exact(G t).st _ _ _ (h6 t (fun j _=>ht j)) hA
 | r+1,i,a,w,hi,hA,h0,hs,hd,h1,h2=>by
  have ha:i<k:=oA
  have hc:i<ops.size:=oA
  rw[show ops.size-i=(ops.size-(i+1))+1 from oA,eB,eI]
  have ho:ops[i]?=some ops[i]:=cD hc
  refine zA4 ho (O i _ ha ho) (fun j g J=>?_) h0 (fun t ht=>?_) fun v W' hv hb=>?_
  .rw[hs]
   cases hoj:ops[j]? with
   |none=>rw[yD,hoj]at J;cases J
   |some oj=>rw[jS hoj]at J;exact jB h5 hoj J
  .by_cases hex:∃j,yD ops j=some t
   .obtain⟨j,J⟩:=hex
    exact h1 t ⟨j,h8 i _ ha ho t ht j J,J⟩
   .have h7:∀j,yD ops j≠some t:=fun j J=>hex ⟨j,J⟩
    rw[h2 t (fun j _=>h7 j)]
    exact(G t).st _ _ _ (h6 t (fun j _=>h7 j)) hA
  .refine zNp h9 h5 hk h8 h6 O he U r (i+1) _ W' oA (hA.trans (hb.mono hA.size)) (h0.trans (hb.mono h0.size)) (by rw[zDq];exact hs) (by rw[zB2];exact hd) (fun t ⟨j,J,ht⟩=>?_) (fun t ht=>?_)
   .by_cases hji:j=i
    .subst hji
     rw[jS ho]at ht
     have I:ops[j].dst=some t:=ht
     have h3:=hv t I
     have:(a.put ops[j].dst v).tmps.getD t undef=v:=by
      rw[I]
      show(a.tmps.setIfInBounds t v).getD t undef=v
      rw[xV,eL (by rw[hs];exact jB h5 ho I)]
      rfl
     rw[this]
     exact h3
    .rw[zFG]
     .exact(G t).st _ _ _ (h1 t ⟨j,oA,ht⟩) hb
     .intro I
      cases hoj:ops[j]? with
      |none=>rw[yD,hoj]at ht;cases ht
      |some oj=>rw[jS hoj]at ht;exact zAH h9 ho hoj (bK hji) I ht
   .rw[zFG]
    .exact h2 t (fun j J=>ht j oA)
    .intro I
     exact ht i oA (by rw[jS ho];exact I)
theorem zDc(h:i<m):(yS m k)[i]?=some (decide (i<k)):=by simp[yS,h]
theorem zDb(_h:k<m):(yS m k).setIfInBounds k true=yS m (k+1):=by
 refine eF (by simp[yS]) fun i h1 h2=>?_
 simp only[yS,bN,bF,List.length_range]at h2
 by_cases e:k=i
 .subst e
  simp[yS]
 .rw[Array.getElem_setIfInBounds_ne (by simpa[yS]using h2) e]
  simp[yS]
  omega
theorem forced{P:WH}{Q:Exit->Act->WB->Prop}{k:Nat}(I:∀r,r<ops.size-k->Region.ready .any ops (yS ops.size (k+r))=[k+r]):
  ∀(f r:Nat) (a:Act) (w:WB),k+r+f=ops.size->wpOpsIn F m P ops Q (List.range' (k+r) f) a w->wpAnyIn F m P .any ops Q f (yS ops.size (k+r)) a w
 | 0,r,a,w,hf,h=>by
  refine⟨lG.2 fun i hi=>?_,h⟩
  have O:=(cO.1 hi).1
  have J:i<ops.size:=by
   obtain⟨_,o,ho,_⟩:=cO.1 hi
   exact(xQ.1 ho).1
  rw[xV,zDc J]at O
  simp at O
  omega
 |f+1,r,a,w,hf,h=>by
  have U:=I r oA
  refine⟨fun e=>(by rw[U]at e;cases e),fun i hi=>?_⟩
  rw[U]at hi
  obtain rfl:i=k+r:=by simpa using hi
  rw[eB,eI]at h
  refine eD (fun a w h=>?_) h
  rw[zDb oA]
  exact forced I f (r+1) a w oA h
end
theorem zF3{draw:Bool}(k:Nat)(L:List (Nat×SF))(hmix:P.follows .mixedOrders=true)
  (U:zBN ops draw k n (L.map (·.1))=true)(h:At w0 G n ds a w)(hF:Obs F m P w0 ops (upd G L) (ops.toList.take k))
  (h9:∀a w,At w0 (zGj ops k (upd G L)) n ds a w->wpOpsIn F m P ops Q (List.range' k (ops.size-k)) a w):(Code.region id ops draw).wpIn F m P Q a w:=by
 unfold zBN at U
 simp only[xW]at U
 obtain⟨⟨⟨⟨⟨⟨hB,hn⟩,hpl⟩,hk⟩,hu⟩,hV⟩,hM⟩:=U
 have hk:=xX hk
 have hg:∀i o,i<k->ops[i]?=some o->qO F m P w0 ops (upd G L) o:=fun i o hi O=>hF.get i o (by rw[lC hi];simpa using O)
 have hP:∀t,(∀j,j<k->yD ops j≠some t)->upd G L t=G t:=fun t ht=>by
  refine zAP ?_
  cases hc:(L.map (·.1)).contains t with
  |false=>rfl
  |true=>
   exfalso
   have hm:=cE.1 hc
   obtain⟨i,hi,he⟩:=bX.1 (xT.1 hu t hm)
   exact ht i (xU.1 hi) (by simpa using he)
 have hq:∀t,(∀j,j<k->yD ops j≠some t)->(upd G L t).p (a.tmps.getD t undef) w:=fun t ht=>by rw[hP t ht];exact h.sl t
 have h0:∀(a:Act) (w:WB),(∀t,(∃j,j<k/\yD ops j=some t)∨(∀j,yD ops j≠some t)->(upd G L t).p (a.tmps.getD t undef) w)->∀t,(zGj ops k (upd G L) t).p (a.tmps.getD t undef) w:=fun a w hh t=>by
  unfold zGj
  cases hc:(List.range ops.size).any fun i=>decide (k<=i)&&(yD ops i==some t)with
  |true=>trivial
  | false=>
   refine hh t ?_
   by_cases hex:∃j,yD ops j=some t
   .obtain⟨j,I⟩:=hex
    left
    refine⟨j,?_,I⟩
    have hw:j<ops.size:=by
     rcases bJ j ops.size with e|e
     .exact e
     .rw[yD,cL e]at I;cases I
    have:=cP.1 hc j (xU.2 hw)
    simp[I]at this
    omega
   .exact .inr fun j I=>hex ⟨j,I⟩
 have h7:∀i o,i<k->ops[i]?=some o->∀t,t∈looks ops o->∀j,yD ops j=some t->(if draw then o.after.any fun e=>Region.binds .any e&&e.on==j else decide (j<i))=true:=fun i o hi O t ht j I=>by
  have h1:=xT.1 hV i (xU.2 hi)
  rw[O]at h1
  have hw:j<ops.size:=by
   rcases bJ j ops.size with e|e
   .exact e
   .rw[yD,cL e]at I;cases I
  have h2:=xT.1 (xT.1 h1 t ht) j (xU.2 hw)
  rw[I]at h2
  simpa using h2
 cases draw with
 |false=>
  refine wpIn_region ?_
  rw[List.range_eq_range']
  refine zNp (G:=upd G L) (k:=k) (n:=n) (a0:=a) (wA:=w) hB hn hk (fun i o hi O t ht j I=>?_) hq hg h.gr (fun a' w' hb hs hd hh=>h9 a' w' ⟨hb,hs,by rw[hd];exact h.nd,h0 a' w' hh⟩) k 0 a w oA (xG _ _) h.gr h.size rfl (fun t ⟨j,I,_⟩=>absurd I oA) (fun t _=>rfl)
  have:=h7 i o hi O t ht j I
  simpa using this
 | true=>
  simp only[fY,cS,xW]at hM
  obtain⟨⟨hy,hT⟩,hS⟩:=hM
  have hJ:∀r,r<ops.size-k->Region.ready .any ops (yS ops.size (k+r))=[k+r]:=fun r hr=>by
   have:=xT.1 hS r (xU.2 hr)
   simpa using this
  have hG:∀i,(Array.replicate ops.size false).getD i false=false:=fun i=>by
   rw[xV,lD]
   split<;>rfl
  have hL:∀i,i<ops.size->(Array.replicate ops.size false).getD i true=false:=fun i hi=>by
   rw[xV,lD,if_pos hi]
   rfl
  have hD:∀t,(∀j,yD ops j≠some t)->zB8 ops (Array.replicate ops.size false) t=false:=fun t ht=>by
   cases hd:zB8 ops (Array.replicate ops.size false) t with
   |false=>rfl
   |true=>
    exfalso
    unfold zB8 at hd
    obtain⟨i,_,hp⟩:=bX.1 hd
    simp only[xW,bC]at hp
    exact ht i (by rw[<-zDE];exact hp.2)
  refine wpIn_region_any hmix<|zCY (z:=100000) (C:=fun _=>True) _ _ _ _ ?_
  have h6:Below w.heap.size w w.drew:=(xG _ w).drew
  refine zIk (k:=k) (z:=100000) (w:=w.drew) (fun _=>false) (fun i v W=>∀o,ops[i]?=some o->∀d,o.dst=some d->(upd G L d).p v W) (fun W=>Below w0.heap.size w0 W/\Below w.heap.size w W) hy hT hB (by rw[h.size];exact hn) (by simpa using hk) Array.count_replicate_self fG ?hcl ?hto (fun W W' hC hb=>⟨hC.1.trans (hb.mono hC.1.size),hC.2.trans (hb.mono hC.2.size)⟩) (fun i v W W' hE hb o O d hd=>(upd G L d).st _ _ _ (hE o O d hd) hb) ⟨h.gr.trans (h6.mono h.gr.size),h6⟩ ?spec ?fin
  case hcl=>
   unfold zE6
   refine xT.2 fun i hi=>?_
   rw[hG i]
   rfl
  case hto=>
   unfold zLt
   refine xT.2 fun i hi=>?_
   rw[hG i]
   simp
  case spec=>
   intro i hO hl o O b W J K hK
   refine zA4 O (hg i o hO O) (fun j g I=>?_) J.at_.cls.1 (fun t ht=>?_) (fun v W' hv hb=>hK v W' (fun o' hN d hd=>by rw[O]at hN;cases hN;exact hv d hd) hb fS)
   .rw[J.at_.size,h.size]
    cases hoj:ops[j]? with
    |none=>rw[yD,hoj]at I;cases I
    |some oj=>rw[jS hoj]at I;exact jB hn hoj I
   .by_cases hex:∃j,yD ops j=some t
    .obtain⟨j,I⟩:=hex
     have h1:=h7 i o hO O t ht j I
     simp only[cG]at h1
     obtain⟨x,hx,he⟩:=fX.1 h1
     simp only[xW,bC]at he
     cases hoj:ops[j]? with
     |none=>rw[yD,hoj]at I;cases I
     |some oj=>
      rw[jS hoj]at I
      exact J.at_.vals j oj t ⟨hL j (xQ.1 hoj).1,_,eC hx,he.1,he.2⟩ hoj I oj hoj t I
    .have h4:∀j,yD ops j≠some t:=fun j I=>hex ⟨j,I⟩
     rw[J.at_.keep t (hD t h4)]
     exact(upd G L t).st _ _ _ (hq t (fun j _=>h4 j)) J.at_.cls.2
  case fin=>
   intro b W J
   have hA:At w0 (zGj ops k (upd G L)) n ds b W:=⟨J.at_.cls.1,by rw[J.at_.size];exact h.size,by rw[J.at_.defers];exact h.nd,h0 b W fun t ht=>by
    rcases ht with⟨j,hU,I⟩|h4
    .cases hoj:ops[j]? with
     |none=>rw[yD,hoj]at I;cases I
     |some oj=>
      rw[jS hoj]at I
      exact J.at_.vals j oj t ⟨hU,hL j (xQ.1 hoj).1⟩ hoj I oj hoj t I
    .rw[J.at_.keep t (hD t h4)]
     exact(upd G L t).st _ _ _ (hq t (fun j _=>h4 j)) J.at_.cls.2⟩
   have h2:=forced (Q:=Q) hJ (ops.size-k) 0 b W oA (by simpa using h9 b W hA)
   have h3:∀(f:Nat) (l:Array Bool) (a:Act) (w:WB),wpAnyIn F m P .any ops Q f l a w->zAc F m P .any ops 100000 (fun _=>True) Q f l a w:=by
    intro f
    induction f with
    |zero=>intro l a w hh;exact hh
    |succ f ih=>intro l a w hh;exact⟨hh.1,fun i hi=>eD (fun a w h5=>⟨.inr trivial,ih _ _ _ h5⟩) (hh.2 i hi)⟩
   exact h3 _ _ _ _ (by simpa using h2)
end Go.Proofs.Wd
