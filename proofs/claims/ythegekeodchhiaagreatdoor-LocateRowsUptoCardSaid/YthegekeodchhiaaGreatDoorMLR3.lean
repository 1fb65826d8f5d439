/- A law for 'for x, y := range seq' whose body never leaves early, over  and what it needs. -/
import Derived.Test.YthegekeodchhiaaGreatDoorMLR2
import Derived.RangeFuncNested
import Derived.RangeFuncBound
import Derived.RangeFuncCalls
import Derived.RangeFuncLeaves
import Derived.Maps.AppendAt
import Derived.OwnWalkIn
import Derived.TacticsInMore
import Derived.LoopNIn
import Derived.LoopIn
import Derived.Deep.QuietTactic
import Derived.BigQuiet
theorem oB {P:Prop} (h:P:=by omega):P:=h
abbrev gE:=@Array.getElem?_eq_some_iff
abbrev gF:=@List.all_eq_true
abbrev gG:=@List.mem_range
abbrev gH:=@Array.getD_eq_getD_getElem?
abbrev gI:=@Nat.lt_or_ge
abbrev gJ:=@Array.getElem?_eq_none
abbrev gK:=@Go.World.putObj_heap_other
abbrev gL:=@Go.Act.put_comm
abbrev gM:=@Go.getD_set_ne
abbrev gN:=@Go.mem_ready
abbrev gO:=@Bool.and_eq_true
abbrev gP:=@Go.RowKit.Below.refl
abbrev gQ:=@Nat.le_refl
abbrev gR:=@Array.getElem?_eq_getElem
abbrev gS:=@Go.run_underlying
abbrev gT:=@Array.all_eq_true_iff_forall_mem
abbrev gU:=@Array.getElem_mem
abbrev gV:=@Go.wpOpIn_mono
abbrev gW:=@List.any_eq_true
abbrev gX:=@Array.getElem?_setIfInBounds_self_of_lt
abbrev gY:=@beq_iff_eq
abbrev gZ:=@Bool.or_eq_true
abbrev xA:=@Go.World.alloc_heap_new
abbrev xB:=@Go.World.putObj_heap_same
abbrev xC:=@Go.World.ownsRow.lt
abbrev xD:=@Go.World.ownsRow.alloc
abbrev xE:=@Go.World.cell?_of_block
abbrev xF:=@List.nodup_cons
abbrev xG:=@Array.getElem?_replicate
abbrev WC:=Go.World
abbrev WD:=Go.Value
abbrev WE:=Go.TypeId
abbrev WF:=Option
abbrev WG:=Go.Program
namespace Go.Proofs.Wd
open Go.RowKit Lb
def zTU (P:WG) (gf:Nat) (lb:Array WD) (enc:Nat->Array WD) (N:Nat) (Kp Fr:WC->WC->Prop) (Fin:WC->Prop) (w0:WC):Prop:=
 ∀(l:Nat) (J:Nat->WC->Prop) (W:WC),Below w0.heap.size w0 W->
  (∀k W1 W2,J k W1->Fr W1 W2->J k W2)->
  (∀k W1,k<N->J k W1->YieldAt Fence.wide 0 P l (enc k) W1 fun e W'=>e= .returned (.bool true)/\J (k+1) W'/\Kp W1 W')->
  J 0 W->
  Calls P gf (#[.func (.yield l) #[] #[]]++lb) W fun e W'=>(∃v,e= .returned v)/\J N W'/\Fin W'
theorem qF (f:FuncId):Fence.wide.fn f=True:=rfl
theorem yI:Fence.wide.depth=none:=rfl
def zJk (B:Nat) (Kp:WC->WC->Prop) (I:Nat->WC->Prop) (k:Nat) (W:WC):Exit->Act->WC->Prop
 | .normal,_,W'=>KeepsFrom B W W'/\Kp W W'/\I k W'
 |_,_,_=>False
def zPn (P:WG) (gf:Nat) (lb:Array WD) (E:Nat->Array WD->WC->Prop) (N:Nat) (Kp Fr:WC->WC->Prop) (Fin:WC->Prop) (w0:WC):Prop:=
 ∀(l:Nat) (J:Nat->WC->Prop) (W:WC),Below w0.heap.size w0 W->
  (∀k W1 W2,J k W1->Fr W1 W2->J k W2)->
  (∀k W1 xs,k<N->J k W1->E k xs W1->YieldAt Fence.wide 0 P l xs W1 fun e W'=>e= .returned (.bool true)/\J (k+1) W'/\Kp W1 W')->
  J 0 W->
  Calls P gf (#[.func (.yield l) #[] #[]]++lb) W fun e W'=>(∃v,e= .returned v)/\J N W'/\Fin W'
theorem zBQ {P:WG} {g:Operand} {ps:Array Tmp} {assign body:Code} {Q:Exit->Act->WC->Prop} {a:Act} {w:WC}
  {gf:Nat} {lb:Array WD} (hg:a.eval g= .func (.func gf) #[] lb) (eg: ∀args w,(callFunc gf args).run P w= .ok (.enter gf args) w)
  {E:Nat->Array WD->WC->Prop} {N:Nat} {Kp Fr:WC->WC->Prop} {Fin:WC->Prop} (hit:zPn P gf lb E N Kp Fr Fin w)
  (hE: ∀(k:Nat) (xs:Array WD) (W:WC) (l:Nat) (o o':Obj),E k xs W->W.heap[l]?=some o->o.isCells=false->E k xs (W.putObj l o'))
  (hps: ∀k xs W,E k xs W->xs.size=ps.size) (hKt: ∀{A B C:WC},Kp A B->Kp B C->Kp A C)
  (hKb: ∀(W:WC) (l:Nat) (o o':Obj),w.heap.size<=l->W.heap[l]?=some o->o.isCells=false->Kp W (W.putObj l o'))
  (I:Nat->WC->Prop) (hI:OwnFrom w.heap.size I) (hF: ∀k W1 W2,I k W1->Fr W1 W2->I k W2)
  (hFb: ∀W1 W2,Fr W1 W2-> ∀(k:Nat) (o:Obj),w.heap.size<=k->W1.heap[k]?=some o->o.isCells=false->W2.heap[k]?=some o)
  (hFin: ∀(W:WC) (l:Nat) (o o':Obj),w.heap.size<=l->W.heap[l]?=some o->o.isCells=false->Fin W->Fin (W.putObj l o'))
  (h0:I 0 w) (a₁:Nat->Array WD->Act)
  (hassign: ∀(l k:Nat) (xs:Array WD) (W:WC) (K:Act->WC->Prop),E k xs W->K (a₁ k xs) W->
   assign.wpIn (Fence.wide.inRound l) 0 P (Exit.then K (fun _ _ _=>False)) { tmps:=(ps.zip xs).foldl (fun t (p,v)=>t.setIfInBounds p v) a.tmps,defers:= [] } W)
  (hbody: ∀(l k:Nat) (xs:Array WD) (W:WC),k<N->I k W->E k xs W->body.wpIn (Fence.wide.inRound l) 0 P (zJk w.heap.size Kp I (k+1) W) (a₁ k xs) W)
  (hdone: ∀(D:Nat) (W:WC),w.heap.size<=D->I N W->Fin W->W.heap[D]?=some (.deferred (some []))->Q .normal { a with defers:={ target:= .collected D,args:=#[] }::a.defers } W):
  (Code.rangeFunc g ps assign body).wp P Q a w:=by
 refine (wpIn_wide (n:=0)).1 (wpIn_rangeFunc ?_)
 intro fn hfn
 show ∃l mark w₁ d w₁' f args w₂,(Instr.enterLoop fn a.tmps ps assign body none).run P w=_/\_
 obtain ⟨rec,hrec⟩: ∃rec:LoopState->WF Code->Loop,rec=fun st pe=>{ state:=st,pending:=pe,fn,tmps:=a.tmps,params:=ps,assign,body,defers:=w.heap.size }:=⟨_,rfl⟩
 obtain ⟨W1,hW1⟩: ∃W1,(w.alloc (.deferred (some []))).alloc (.loop (rec .ready none))=W1:=⟨_,rfl⟩
 have hL1:W1.heap[w.heap.size+1]?=some (.loop (rec .ready none)):=by
  rw [<-hW1];have:=xA (w.alloc (.deferred (some []))) (.loop (rec .ready none));rwa [World.size_alloc] at this
 have hK1:W1.heap[w.heap.size]?=some (.deferred (some [])):=by
  rw [<-hW1];exact (Below.heap_alloc _ _ _ (by simp)).trans (xA w _)
 have hI1:I 0 W1:=by rw [<-hW1];exact hI.alloc _ (hI.alloc _ h0)
 have hb1:Below w.heap.size w W1:=by
  rw [<-hW1];exact ((gP _ w).alloc (gQ _) _).alloc (by simp) _
 refine ⟨w.heap.size+1, [{ target:= .collected w.heap.size,args:=#[] }],W1,{ target:= .fn (.func gf) lb,args:=#[.func (.yield (w.heap.size+1)) #[] #[]] },W1,gf,
  #[.func (.yield (w.heap.size+1)) #[] #[]]++lb,W1, ?_, ?_, ?_, ?_,fun h=>absurd h (by simp [Fence.wide]), ?_⟩
 ·rw [<-hW1,hrec];exact run_enterLoop_outer _ _ _ _ _
 ·simp only [resolve,hg]
  simp [go_sem]
 ·intro f' _;trivial
 ·simp [invoke,go_sem,eg]
 ·refine callsIn_wide.2 ((hit (w.heap.size+1)
   (fun k W=>I k W/\W.heap[w.heap.size+1]?=some (.loop (rec .ready none))/\W.heap[w.heap.size]?=some (.deferred (some [])))
   W1 hb1
   (fun k A B hs hf=>⟨hF k A B hs.1 hf,hFb A B hf _ _ oB hs.2.1 rfl,hFb A B hf _ _ (gQ _) hs.2.2 rfl⟩)
   ?_ ⟨hI1,hL1,hK1⟩).mono ?_)
  ·rintro k W xs hk ⟨hi,hl,hd⟩ he
   have hlt:w.heap.size+1<W.heap.size:=(gE.1 hl).1
   have hy:=run_yield (P:=P) (args:=xs) hl (by rw [hrec];exact hps k xs W he)
   rw [hrec] at hy
   refine ⟨fn,_,assign,body,hy,roundIn_of_wpIn hfn (hassign _ k xs W _ he ⟨_,run_beginRound hl (by rw [hrec]), ?_⟩)⟩
   have hl2:(W.putObj (w.heap.size+1) (.loop { rec .ready none with state:= .busy })).heap[w.heap.size+1]?=some (.loop { rec .ready none with state:= .busy }):=xB hlt
   have hk2:(W.putObj (w.heap.size+1) (.loop { rec .ready none with state:= .busy })).heap[w.heap.size]?=some (.deferred (some [])):=(gK oB).trans hd
   have hw2:Kp W (W.putObj (w.heap.size+1) (.loop { rec .ready none with state:= .busy })):=hKb _ _ _ _ oB hl rfl
   refine wpIn_mono (hbody _ k xs _ hk (hI.putObj _ hi oB hl rfl) (hE _ _ _ _ _ _ he hl rfl)) ?_
   rintro e a3 W3 hp
   cases e with
   |normal=>
    obtain ⟨hk3,hkp3,hi3⟩:=hp
    have hl3:=hk3.same _ _ oB hl2 rfl
    have hend:=run_endRound (P:=P) none hl3
    have hlt3:w.heap.size+1<W3.heap.size:=(gE.1 hl3).1
    refine ⟨_,_,hend,rfl,⟨hI.putObj _ hi3 oB hl3 rfl, ?_, ?_⟩,hKt (hKt hw2 hkp3) (hKb _ _ _ _ oB hl3 rfl)⟩
    ·rw [xB hlt3];simp [hrec]
    ·exact (gK oB).trans (hk3.same _ _ (gQ _) hk2 rfl)
   |ret=>exact hp.elim
   |exit id=>exact hp.elim
   |goto t=>exact hp.elim
   |panic ch=>exact hp.elim
   |outgrown=>exact hp.elim
  ·rintro e W2 ⟨⟨v,rfl⟩,⟨hi,hl,hd⟩,hfin⟩
   exact ⟨none,_,by have:=run_endLoop (P:=P) hl (by rw [hrec];simp);rw [hrec] at this;exact this,hdone _ _ (gQ _) (hI.putObj _ hi oB hl rfl) (hFin _ _ _ _ oB hl rfl hfin) ((gK oB).trans hd)⟩
theorem zEw {P:WG} {g:Operand} {ps:Array Tmp} {assign body:Code} {Q:Exit->Act->WC->Prop} {a:Act} {w:WC}
  {gf:Nat} {lb:Array WD} (hg:a.eval g= .func (.func gf) #[] lb) (eg: ∀args w,(callFunc gf args).run P w= .ok (.enter gf args) w)
  {enc:Nat->Array WD} {N:Nat} {Kp Fr:WC->WC->Prop} {Fin:WC->Prop} (hit:zTU P gf lb enc N Kp Fr Fin w)
  (hps: ∀k,(enc k).size=ps.size) (hKt: ∀{A B C:WC},Kp A B->Kp B C->Kp A C)
  (hKb: ∀(W:WC) (l:Nat) (o o':Obj),w.heap.size<=l->W.heap[l]?=some o->o.isCells=false->Kp W (W.putObj l o'))
  (I:Nat->WC->Prop) (hI:OwnFrom w.heap.size I) (hF: ∀k W1 W2,I k W1->Fr W1 W2->I k W2)
  (hFb: ∀W1 W2,Fr W1 W2-> ∀(k:Nat) (o:Obj),w.heap.size<=k->W1.heap[k]?=some o->o.isCells=false->W2.heap[k]?=some o)
  (hFin: ∀(W:WC) (l:Nat) (o o':Obj),w.heap.size<=l->W.heap[l]?=some o->o.isCells=false->Fin W->Fin (W.putObj l o'))
  (h0:I 0 w) (a₁:Nat->Act)
  (hassign: ∀(l k:Nat) (W:WC) (K:Act->WC->Prop),K (a₁ k) W->
   assign.wpIn (Fence.wide.inRound l) 0 P (Exit.then K (fun _ _ _=>False)) { tmps:=(ps.zip (enc k)).foldl (fun t (p,v)=>t.setIfInBounds p v) a.tmps,defers:= [] } W)
  (hbody: ∀(l k:Nat) (W:WC),k<N->I k W->body.wpIn (Fence.wide.inRound l) 0 P (zJk w.heap.size Kp I (k+1) W) (a₁ k) W)
  (hdone: ∀(D:Nat) (W:WC),w.heap.size<=D->I N W->Fin W->W.heap[D]?=some (.deferred (some []))->Q .normal { a with defers:={ target:= .collected D,args:=#[] }::a.defers } W):
  (Code.rangeFunc g ps assign body).wp P Q a w:=
 zBQ hg eg (E:=fun k xs _=>xs=enc k) (fun l J W hb hf hy=>hit l J W hb hf fun k W1 hk hj=>hy k W1 _ hk hj rfl) (fun _ _ _ _ _ _ h _ _=>h) (fun k _ _ h=>by rw [h];exact hps k) hKt hKb I hI hF hFb hFin h0 (fun k _=>a₁ k)
  (fun l k _ W K e h=>by subst e;exact hassign l k W K h) (fun l k _ W hk hi _=>hbody l k W hk hi) hdone
def Mk (W1 W2:WC):Prop:=Below W1.heap.size W1 W2
theorem wS {B:Nat} (W1 W2:WC) (h:Mk W1 W2) (k:Nat) (o:Obj) (_:B<=k) (hk:W1.heap[k]?=some o) (_:o.isCells=false):W2.heap[k]?=some o:=
 (h.block k (gE.1 hk).1).trans hk
theorem q6 {P:WG} {f:FuncId} {fn:Func} {c:Code} {args:Array WD} {w:WC} {R:Ending->WC->Prop}
  (hf:P.funcs[f]?=some fn) (hb:fn.body=some c)
  (h:c.wp P (bodyPostM Fence.wide 0 P fn R) { tmps:=args++Array.replicate (fn.ntmps - args.size) undef,defers:= [] } w):Calls P f args w R:=
 callsIn_wide.1 (callsIn_of_wp_marks hf hb trivial ((wpIn_wide (n:=0)).2 h))
theorem zBL {P:WG} {f:FuncId} {fn:Func} {c:Code} {args:Array WD} {w:WC} {R:Ending->WC->Prop}
  (hf:P.funcs[f]?=some fn) (hb:fn.body=some c)
  (h:c.wpIn Fence.wide 0 P (bodyPost P fn R) { tmps:=args++Array.replicate (fn.ntmps - args.size) undef,defers:= [] } w):Calls P f args w R:=
 callsIn_wide.1 (callsIn_of_wp hf hb trivial h)
/-! ### append onto a row of limbs -/
def yG (w:WC) (base:Nat) (e:WE) (v:WD) (l:List Nat):Prop:=w.ownsRow base e 1 v l.length (zBi l)
theorem yG.form {w:WC} {base:Nat} {e:WE} {v:WD} {l:List Nat} (h:yG w base e v l): ∃A c,v= .slice A l.length c:=zOF h
theorem yG.form' {w:WC} {base:Nat} {e:WE} {v:WD} {l:List Nat} (h:yG w base e v l) {n:Nat} (hl:l.length=n): ∃A c,v= .slice A n c:=by
 subst hl;exact h.form
theorem yG.rd {w:WC} {base:Nat} {e:WE} {A:WF Addr} {n c:Nat} {l:List Nat} (h:yG w base e (.slice A n c) l):Rd w A n c l:=by
 obtain ⟨A',c',hv⟩:=h.form
 injection hv with h1 h2 h3
 exact Rd.of_own h h2.symm
theorem yG.grown {w w1 w2:WC} {B base:Nat} {e:WE} {v:WD} {l:List Nat} (hb:Below B w w1) (ho:yG w1 base e v l) (hg:w1.grownBy w2 v.ownBlock) (hB:B<=base) (hB1:B<=w1.heap.size):Below B w w2:=
 hb.grown hg hB1 fun k hk=>by have:=(xC ho k hk).1;omega
theorem yG.alloc {w:WC} {base:Nat} {e:WE} {v:WD} {l:List Nat} (h:yG w base e v l) (o:Obj):yG (w.alloc o) base e v l:=xD h o
theorem wU (w:WC) (base:Nat) (e:WE):yG w base e (.slice none 0 0) []:=World.ownsRow_nil _ _ _ _
theorem zDv {P:WG} (w:WC) (t ty e:WE) (ht:P.underlying t=some (.slice e)) (hinf:(P.info? e).map (fun i=>(i.zero,i.size,i.bytes))=some (some (.int .u32 0),1,4))
  (base:Nat) (v:WD) (l m:List Nat) (hown:yG w base e v l) (A:WF Addr) (n c:Nat) (hr:Rd w A n c m) (hsz:l.length+m.length<=17592186044416) (hbase:base<=w.heap.size):
  ∃v' w',(Builtin.append_ #[t,t] ty #[v, .slice A n c]).run P w= .ok v' w'/\yG w' base e v' (l++m)/\w.grownBy w' v.ownBlock/\(v'.ownBlock=v.ownBlock∨v'.ownBlock=some w.heap.size):=by
 obtain rfl:=hr.len
 obtain ⟨i,hi,hz0,hz1,hz2⟩:=info_parts hinf
 have h63:l.length+m.length<=maxLen:=by unfold maxLen;omega
 by_cases hm:m.length=0
 ·have hm0:m= []:=List.eq_nil_of_length_eq_zero hm
  subst hm0
  refine ⟨v,w, ?_,by simpa using hown,World.grownBy.refl w _, .inl rfl⟩
  rcases hown.2 with ⟨rfl,_⟩|⟨g,cap,cur,rfl,_,_,hnc,_⟩
  ·rcases A with _|ad
   ·simp [Builtin.append_,gS ht,sizeOf,typeInfo,hi,Builtin.lenOf,Builtin.firstCells]
   ·simp [Builtin.append_,gS ht,sizeOf,typeInfo,hi,Builtin.lenOf,Builtin.firstCells,loadCells,loadCellsFrom]
  ·rcases A with _|ad
   ·simp [Builtin.append_,gS ht,sizeOf,typeInfo,hi,Builtin.lenOf,Builtin.firstCells,hnc,storeCells]
   ·simp [Builtin.append_,gS ht,sizeOf,typeInfo,hi,Builtin.lenOf,Builtin.firstCells,hnc,storeCells,loadCells,loadCellsFrom]
 ·obtain ⟨b,o,rfl,hb,hc⟩:=hr.shape oB
  obtain ⟨v',w',hrun,h2,h3,_,h5⟩:=run_append_own_at (P:=P) w base t ty e i (.int .u32 0) 1 4 ht hi hz0 hz1 hz2 rfl (by decide) v l.length (zBi l) hown ⟨b,o,none⟩ m.length c (zBi m) (by rw [zAI,Nat.mul_one])
   (fun j u hj=>by
    have hlt:j<m.length:=by have:=(List.getElem?_eq_some_iff.1 hj).1;rwa [zAI] at this
    rw [zCN m j hlt] at hj
    injection hj with hj
    subst hj
    rw [Addr.add_lit]
    exact hc j hlt) (zIZ m) h63 oB hbase
  refine ⟨v',w',hrun, ?_,h3,h5⟩
  unfold yG
  rw [List.length_append,zC7]
  exact h2
theorem zX {P:WG} {w:WC} {ops:Array Oper} {rest:List Oper} {o:Oper} {a:Act} {Q:Exit->Act->WC->Prop} (hgd:o.guard=none) (s x:Operand) (t e:WE)
  (ho:o.op= .call { callee:= .builtin .append,args:=#[s,x],argTypes:=#[t,t] })
  (ht:P.underlying t=some (.slice e)) (hinf:(P.info? e).map (fun i=>(i.zero,i.size,i.bytes))=some (some (.int .u32 0),1,4))
  (base:Nat) (v:WD) (l:List Nat) (hs:a.eval s=v) (hown:yG w base e v l)
  (A:WF Addr) (k c:Nat) (m:List Nat) (hx:a.eval x= .slice A k c) (hr:Rd w A k c m) (hsz:l.length+m.length<=17592186044416) (hbase:base<=w.heap.size)
  (h: ∀v' w',yG w' base e v' (l++m)->w.grownBy w' v.ownBlock->(v'.ownBlock=v.ownBlock∨v'.ownBlock=some w.heap.size)->wpList P ops Q rest (a.put o.dst v') w'):wpList P ops Q (o::rest) a w:=
 wpList_plain hgd fun _ hK=>by
  obtain ⟨v',w',hrun,h2,h3,h4⟩:=zDv (P:=P) w t o.type e ht hinf base v l m hown A k c hr hsz hbase
  unfold Oper.wp execOp
  simp only [ho,resolve,invoke,builtin,Sem.run_bind,Sem.run_pure,Result.andThen_ok,List.map_toArray,List.map_cons,List.map_nil,hs,hx,hrun]
  exact hK _ _ (h v' w' h2 h3 h4)
theorem zBG {F:Fence} {n:Nat} {P:WG} {w:WC} {ops:Array Oper} {rest:List Oper} {o:Oper} {a:Act} {Q:Exit->Act->WC->Prop} (hgd:o.guard=none) (s x:Operand) (t e:WE)
  (ho:o.op= .call { callee:= .builtin .append,args:=#[s,x],argTypes:=#[t,t] })
  (ht:P.underlying t=some (.slice e)) (hinf:(P.info? e).map (fun i=>(i.zero,i.size,i.bytes))=some (some (.int .u32 0),1,4))
  (base:Nat) (v:WD) (l:List Nat) (hs:a.eval s=v) (hown:yG w base e v l)
  (A:WF Addr) (k c:Nat) (m:List Nat) (hx:a.eval x= .slice A k c) (hr:Rd w A k c m) (hsz:l.length+m.length<=17592186044416) (hbase:base<=w.heap.size)
  (h: ∀v' w',yG w' base e v' (l++m)->w.grownBy w' v.ownBlock->(v'.ownBlock=v.ownBlock∨v'.ownBlock=some w.heap.size)->wpListIn F n P ops Q rest (a.put o.dst v') w'):wpListIn F n P ops Q (o::rest) a w:=by
 refine wpListIn_plain hgd fun K hK'=> ?_
 obtain ⟨v',w',hrun,h2,h3,h4⟩:=zDv (P:=P) w t o.type e ht hinf base v l m hown A k c hr hsz hbase
 unfold Oper.wpIn
 refine ⟨?_, ?_⟩
 ·simp [Oper.about,ho,resolve,Target.leads,Sem.run_pure]
 ·rw [Oper.semAt_plain F _ _ (by rw [ho];intro c hc';cases hc')]
  simp [execOp,ho,resolve,invoke,builtin,hs,hx,hrun,Result.andThen]
  exact hK' _ _ (h v' w' h2 h3 h4)
/-! ### what abides a turn of a block that is no cells, and what only makes memory -/
theorem Mk.grown {W1 W2:WC} (h:Mk W1 W2):W1.grownBy W2 none:=⟨h.os,h.tape,h.output,h.size,fun k hk _=>h.block k hk⟩
theorem zBM {I:Nat->WC->Prop} {B:Nat} (h:OwnFrom B I) (k:Nat) (W1 W2:WC) (hi:I k W1) (hm:Mk W1 W2):I k W2:=h k W1 W2 none hi hm.grown (fun r e=>by cases e)
theorem qP {W W':WC} {row:WF Nat} {B C:Nat} {t:WE} {v:WD} (h:Boxed W B t v) (hg:W.grownBy W' row) (hr: ∀r,row=some r->C<=r/\ ∃o:Obj,W.heap[r]?=some o/\o.isCells=false):Boxed W' B t v:=
 h.kept hg fun e=>by
  obtain ⟨_,o,ho,hc⟩:=hr B e.symm
  rw [show W.heap[B]?=_ from h] at ho
  cases ho
  cases hc
theorem zHA {W W':WC} {row:WF Nat} {C base:Nat} {e:WE} {size n:Nat} {v:WD} {xs:List WD} (h:W.ownsRow base e size v n xs) (hg:W.grownBy W' row) (hr: ∀r,row=some r->C<=r/\ ∃o:Obj,W.heap[r]?=some o/\o.isCells=false):W'.ownsRow base e size v n xs:=by
 refine h.kept hg ?_
 rcases h.2 with ⟨rfl,_⟩|⟨g,cap,cur,rfl,_,hh,_⟩
 ·exact .inl rfl
 ·right
  intro e'
  obtain ⟨_,o,ho,hc⟩:=hr g (by simpa [Value.ownBlock] using e'.symm)
  rw [hh] at ho
  cases ho
  cases hc
theorem zAm {w W W':WC} {row:WF Nat} {B C:Nat} (h:Below B w W) (hg:W.grownBy W' row) (hB:B<=w.heap.size) (hC:B<=C) (hr: ∀r,row=some r->C<=r/\ ∃o:Obj,W.heap[r]?=some o/\o.isCells=false):Below B w W':=
 h.grown hg (Nat.le_trans hB h.size) fun k e=>Nat.le_trans hC (hr k e).1
theorem Rd.other {w:WC} {A:WF Addr} {n c:Nat} {l:List Nat} (h:Rd w A n c l) {D:Nat} {o:Obj} (o':Obj) (hD:w.heap[D]?=some o) (ho:o.isCells=false):Rd (w.putObj D o') A n c l:=
 ⟨h.len,h.le,h.cap,h.nil,fun i hi=>by
  obtain ⟨b,off,e,hc⟩:=h.cells i hi
  refine ⟨b,off,e,(xE (gK ?_)).trans hc⟩
  intro hb
  obtain ⟨q,hq,hcq⟩:=cells_of_cell hc
  simp only at hq hb
  rw [hb,hD] at hq
  cases hq
  rw [ho] at hcq
  cases hcq⟩
theorem zIS {w W:WC} {B D:Nat} (h:Below B w W) (o:Obj) (hB:B<=W.heap.size) (hD:B<=D):Below B w (W.putObj D o):=
 h.grown (grownBy_putObj' W D o) hB fun k e=>by cases e;exact hD
theorem qE {B:Nat} {W:WC} (h:B<=W.heap.size) (o:Obj):B<=(W.alloc o).heap.size:=by simp;omega
theorem zGK {W w1:WC} {n₀ B:Nat} {t e:WE} {u v:WD} {l:List Nat} {tmp:Obj} (hte:t≠e) (hu:Boxed W B t u) (hrow:yG W n₀ e v l) (hgrow:(W.alloc tmp).grownBy w1 v.ownBlock):Boxed w1 B t u:=
 (hu.alloc tmp).kept hgrow (hu.not_row hte hrow)
theorem zGu {W w1:WC} {base:Nat} {e:WE} {v:WD} {l:List Nat} {tmp:Obj} (hrow:yG W base e v l) (hgrow:(W.alloc tmp).grownBy w1 v.ownBlock):KeepsOthers W w1:=by
 refine (KeepsOthers.alloc W tmp).trans (KeepsOthers.of_grownBy hgrow fun j o ej hj=> ?_)
 rcases (xD hrow tmp).2 with ⟨rfl,_⟩|⟨g,cap,cur,rfl,_,hgb,_⟩
 ·simp [Value.ownBlock] at ej
 ·obtain rfl:g=j:=by simpa [Value.ownBlock] using ej
  rw [hgb] at hj;cases hj;rfl
theorem zKf {W w1:WC} {n₀ base B:Nat} {t e:WE} {v v':WD} {l l':List Nat} {tmp:Obj} (hte:t≠e) (hv:Boxed W B t v) (hrow:yG W base e v l) (hn₀:n₀<=W.heap.size) (hB:n₀<=B) (hb:n₀<=base)
  (hown':yG w1 base e v' l') (hgrow:(W.alloc tmp).grownBy w1 v.ownBlock):
  Boxed w1 B t v/\Boxed (w1.setCell ⟨B,0,none⟩ v') B t v'/\yG (w1.setCell ⟨B,0,none⟩ v') base e v' l'/\KeepsOthers W (w1.setCell ⟨B,0,none⟩ v')/\Below n₀ W (w1.setCell ⟨B,0,none⟩ v'):=by
 have hv1:Boxed w1 B t v:=zGK hte hv hrow hgrow
 refine ⟨hv1,hv1.set v',World.ownsRow.kept hown' (grownBy_setCell' w1 B v') (.inr (hv1.not_row hte hown').symm), ?_, ?_⟩
 ·refine ((KeepsOthers.alloc W tmp).trans (KeepsOthers.of_grownBy hgrow fun j o ej hj=> ?_)).trans (KeepsOthers.setCell _ _ _)
  rcases (xD hrow tmp).2 with ⟨rfl,_⟩|⟨g,cap,cur,rfl,_,hgb,_⟩
  ·simp [Value.ownBlock] at ej
  ·obtain rfl:g=j:=by simpa [Value.ownBlock] using ej
   rw [hgb] at hj;cases hj;rfl
 ·refine (((gP n₀ W).alloc hn₀ tmp).grown hgrow (by simp;omega) fun j ej=> ?_).setCell (p:=⟨B,0,none⟩) hB v'
  have:=(xC hrow j ej).1
  omega
/-! ### blocks of which a part is kept -/
def y9 (S:Nat->Prop) (W1 W2:WC):Prop:= ∀b,S b->W2.heap[b]?=W1.heap[b]?
theorem y9.refl (S:Nat->Prop) (W:WC):y9 S W W:=fun _ _=>rfl
theorem y9.trans {S:Nat->Prop} {A B C:WC} (h:y9 S A B) (k:y9 S B C):y9 S A C:=fun b hb=>(k b hb).trans (h b hb)
theorem y9.drew {S:Nat->Prop} {A B:WC} (h:y9 S A B):y9 S A B.drew:=h
theorem wQ {S:Nat->Prop} {A B:WC} {n:Nat} (h:Below n A B) (hS: ∀b,S b->b<n):y9 S A B:=fun b hb=>h.block b (hS b hb)
theorem y9.setCell {S:Nat->Prop} {A B:WC} (h:y9 S A B) {p:Addr} (hp: ¬S p.block) (u:WD):y9 S A (B.setCell p u):=
 fun b hb=>(Below.heap_setCell B p u b (fun e=>hp (by rw [<-e];exact hb))).trans (h b hb)
theorem y9.putObj {S:Nat->Prop} {A B:WC} (h:y9 S A B) {l:Nat} (hl: ¬S l) (o:Obj):y9 S A (B.putObj l o):=
 fun b hb=>(gK (fun e=>hl (by rw [<-e];exact hb))).trans (h b hb)
theorem y9.grown {S:Nat->Prop} {A B C:WC} (h:y9 S A B) {row:WF Nat} (hg:B.grownBy C row) (hS: ∀b,S b->b<B.heap.size/\some b≠row):y9 S A C:=
 fun b hb=>(hg.block b (hS b hb).1 (hS b hb).2).trans (h b hb)
theorem y9.alloc {S:Nat->Prop} {A B:WC} (h:y9 S A B) (hS: ∀b,S b->b<B.heap.size) (o:Obj):y9 S A (B.alloc o):=
 fun b hb=>(Below.heap_alloc B o b (hS b hb)).trans (h b hb)
theorem zEc {S:Nat->Prop} {n:Nat} (hS: ∀b,S b->b<n) (W:WC) (l:Nat) (o o':Obj) (hl:n<=l) (_:W.heap[l]?=some o) (_:o.isCells=false):y9 S W (W.putObj l o'):=
 (y9.refl S W).putObj (fun h=>by have:=hS l h;omega) o'
theorem y9.cell {S:Nat->Prop} {A B:WC} (h:y9 S A B) {p:Addr} (hp:S p.block):B.cell? p=A.cell? p:=xE (h p.block hp)
theorem y9.boxed {S:Nat->Prop} {A B:WC} (h:y9 S A B) {b:Nat} {t:WE} {v:WD} (hb:S b) (hv:Boxed A b t v):Boxed B b t v:=(h b hb).trans hv
theorem Rd.keepS {S:Nat->Prop} {A B:WC} {a:WF Addr} {n c:Nat} {l:List Nat} (h:Rd A a n c l) (hk:y9 S A B) (hS: ∀b o,0<n->a=some ⟨b,o,none⟩->S b):Rd B a n c l:=
 ⟨h.len,h.le,h.cap,h.nil,fun i hi=>by
  obtain ⟨b,o,e,hc⟩:=h.cells i hi
  exact ⟨b,o,e,(hk.cell (p:=⟨b,o+i,none⟩) (hS b o oB e)).trans hc⟩⟩
theorem Rd.in_ {w:WC} {A:WF Addr} {n c:Nat} {l:List Nat} (h:Rd w A n c l) (b o:Nat) (hn:0<n) (e:A=some ⟨b,o,none⟩):b<w.heap.size:=by
 obtain ⟨b',o',e',hlt,_⟩:=h.shape hn
 rw [e] at e'
 cases e'
 exact hlt
theorem zMH {S:Nat->Prop} {W w1:WC} {B:Nat} {v v':WD} {tmp:Obj} (hgrow:(W.alloc tmp).grownBy w1 v.ownBlock) (hS: ∀b,S b->b<W.heap.size/\some b≠v.ownBlock) (hB: ¬S B):y9 S W (w1.setCell ⟨B,0,none⟩ v'):=
 ((((y9.refl S W).alloc (fun b hb=>(hS b hb).1) tmp).grown hgrow (fun b hb=>⟨by have:=(hS b hb).1;simp;omega,(hS b hb).2⟩)).setCell (p:=⟨B,0,none⟩) hB v')
theorem yG.other {W:WC} {base:Nat} {e:WE} {v:WD} {l:List Nat} (h:yG W base e v l) {B:Nat} {t:WE} {u:WD} (hu:Boxed W B t u) (hte:t≠e) (u':WD):yG (W.setCell ⟨B,0,none⟩ u') base e v l:=
 World.ownsRow.kept h (grownBy_setCell' _ _ _) (.inr (hu.not_row hte h).symm)
theorem yG.not_in {W:WC} {base:Nat} {e:WE} {v:WD} {l:List Nat} (h:yG W base e v l) {b:Nat} (hb:b<base):some b≠v.ownBlock:=fun e=>by
 have:=(xC h b e.symm).1;omega
theorem zBc (W:WC) (p:Addr) (u:WD):W.heap.size=(W.setCell p u).heap.size:=by
 show W.heap.size=(W.heap.modify _ _).size
 rw [Array.size_modify]
theorem vQ (w:WC) (x:Nat) (t:WE) {b:Nat} (hb:b=w.heap.size):Rd (w.alloc (.cells #[.int .u32 (x:Int)] t)) (some ⟨b,0,none⟩) 1 1 [x]:=by
 subst hb
 exact Rd.new w [x] t _ rfl (by simp)
theorem Rd.one (w:WC) (x:Nat) (t:WE):Rd (w.alloc (.cells #[.int .u32 (x:Int)] t)) (some ⟨w.heap.size,0,none⟩) 1 1 [x]:=
 ⟨rfl,by omega,by omega,fun e=>(by cases e),fun i hi=>⟨w.heap.size,0,rfl,by
  have:i=0:=by omega
  subst this
  show (w.alloc (.cells #[.int .u32 (x:Int)] t)).cell? ⟨w.heap.size,0,none⟩=some (.int .u32 (x:Int))
  unfold World.cell?
  rw [xA]
  rfl⟩⟩
def mark (D:Nat):Deferred:={ target:= .collected D,args:=#[] }
structure Marks (B:Nat) (W:World) (ds:List Deferred) (Ds:List Nat):Prop where
 eq:ds=Ds.map mark
 nodup:Ds.Nodup
 at_: ∀D,D∈Ds->B<=D/\W.heap[D]?=some (.deferred (some []))
theorem Marks.nil (B:Nat) (W:WC):Marks B W [] []:=⟨rfl,List.nodup_nil,fun D h=>by cases h⟩
theorem Marks.keep {B:Nat} {W W':WC} {ds:List Deferred} {Ds:List Nat} (h:Marks B W ds Ds) (hk: ∀(k:Nat) (o:Obj),W.heap[k]?=some o->o.isCells=false->W'.heap[k]?=some o):Marks B W' ds Ds:=
 ⟨h.eq,h.nodup,fun D hD=>⟨(h.at_ D hD).1,hk _ _ (h.at_ D hD).2 rfl⟩⟩
theorem Marks.others {B:Nat} {W W':WC} {ds:List Deferred} {Ds:List Nat} (h:Marks B W ds Ds) (hk:KeepsOthers W W'):Marks B W' ds Ds:=h.keep hk.same
theorem Marks.made {B:Nat} {W W':WC} {ds:List Deferred} {Ds:List Nat} (h:Marks B W ds Ds) (hk:Below W.heap.size W W'):Marks B W' ds Ds:=
 h.keep fun k _ ho _=>(hk.block k (gE.1 ho).1).trans ho
theorem Marks.lt {B:Nat} {W:WC} {ds:List Deferred} {Ds:List Nat} (h:Marks B W ds Ds): ∀D,D∈Ds->D<W.heap.size:=fun D hD=>(gE.1 (h.at_ D hD).2).1
theorem Marks.abide {B C:Nat} {W W':WC} {ds:List Deferred} {Ds:List Nat} {row:WF Nat} (h:Marks B W ds Ds) (hl: ∀D,D∈Ds->D<C) (hg:W.grownBy W' row) (hr: ∀r,row=some r->C<=r/\ ∃o:Obj,W.heap[r]?=some o/\o.isCells=false):Marks B W' ds Ds:=
 ⟨h.eq,h.nodup,fun D hD=>⟨(h.at_ D hD).1,(hg.block D (h.lt D hD) (fun e=>by have:=(hr D e.symm).1;have:=hl D hD;omega)).trans (h.at_ D hD).2⟩⟩
theorem Marks.more {B:Nat} {W:WC} {ds:List Deferred} {Ds:List Nat} (h:Marks B W ds Ds) {D:Nat} (hn:D ∉ Ds) (hB:B<=D) (hD:W.heap[D]?=some (.deferred (some []))):Marks B W ({ target:= .collected D,args:=#[] }::ds) (D::Ds):=
 ⟨by rw [h.eq];rfl,xF.2 ⟨hn,h.nodup⟩,fun E hE=>by
  rcases List.mem_cons.1 hE with rfl|hE
  ·exact ⟨hB,hD⟩
  ·exact h.at_ E hE⟩
structure Oth (B:Nat) (w w':World):Prop where
 os:w'.os=w.os
 tape:w'.tape=w.tape
 output:w'.output=w.output
 size:w'.heap.size=w.heap.size
 block: ∀k,w'.heap[k]?=w.heap[k]?∨(B<=k/\(∃o,w.heap[k]?=some o/\o.isCells=false)/\ ∃o,w'.heap[k]?=some o/\o.isCells=false)
theorem Oth.refl (B:Nat) (w:WC):Oth B w w:=⟨rfl,rfl,rfl,rfl,fun _=> .inl rfl⟩
theorem zFr {w:WC} {a:Addr} {o:Obj} (h:w.heap[a.block]?=some o) (hc:o.isCells=false):w.cell? a=none:=by
 unfold World.cell?
 rw [h]
 cases o<;>simp_all [Obj.isCells]
theorem Oth.cell {B:Nat} {w w':WC} (h:Oth B w w') (a:Addr):w'.cell? a=w.cell? a:=by
 rcases h.block a.block with e|⟨_,⟨o,ho,hc⟩,o',ho',hc'⟩
 ·exact xE e
 ·rw [zFr ho hc,zFr ho' hc']
theorem Rd.oth {B:Nat} {w w':WC} {A:WF Addr} {n c:Nat} {l:List Nat} (h:Rd w A n c l) (ho:Oth B w w'):Rd w' A n c l:=h.keep fun _ _=>ho.cell _
theorem zAl {B C:Nat} {w W W':WC} (h:Below C w W) (ho:Oth B W W') (hC:C<=B):Below C w W':=
 ⟨ho.os.trans h.os,ho.tape.trans h.tape,ho.output.trans h.output,by rw [ho.size];exact h.size,fun k hk=>by
  rcases ho.block k with e|⟨hb,_⟩
  ·exact e.trans (h.block k hk)
  ·omega⟩
theorem Oth.put {B D:Nat} {w w':WC} (h:Oth B w w') (hB:B<=D) (hD:w'.heap[D]?=some (.deferred (some []))):Oth B w (w'.putObj D (.deferred none)):=
 ⟨h.os,h.tape,h.output,by rw [World.putObj_size];exact h.size,fun k=>by
  by_cases e:k=D
  ·subst e
   refine .inr ⟨hB, ?_,_,xB (gE.1 hD).1,rfl⟩
   rcases h.block k with e|⟨_,hh,_⟩
   ·exact ⟨_,e.symm.trans hD,rfl⟩
   ·exact hh
  ·rw [gK e]
   exact h.block k⟩
theorem qJ {P:WG} {fn:Func} {tmps:Array WD} {R:Ending->WC->Prop} {B:Nat} {v:WD} (w:WC) (hres: ∀w',Oth B w w'->(results fn tmps).run P w'= .ok v w'):
  ∀(Ds:List Nat) (ds:List Deferred) (w1:WC),Marks B w1 ds Ds->Oth B w w1->(∀w',Oth B w w'->R (.returned v) w')->LeavesInM Fence.wide 0 P fn tmps R ds .returning w1
 | [],ds,w1,hm,ho,hR=>by
  obtain rfl:ds= []:=hm.eq
  exact ⟨v,hres w1 ho,hR w1 ho⟩
 |D::Ds,ds,w1,hm,ho,hR=>by
  obtain rfl:ds=mark D::Ds.map mark:=hm.eq
  have hD:=hm.at_ D (List.mem_cons_self ..)
  refine ⟨by simp, .inl ⟨_,_,rfl,run_takeDeferred hD.2, ?_⟩⟩
  refine qJ w hres Ds _ _ ⟨rfl,(xF.1 hm.nodup).2,fun E hE=>⟨(hm.at_ E (List.mem_cons_of_mem _ hE)).1, ?_⟩⟩ (ho.put hD.1 hD.2) hR
  have hne:E≠D:=fun e=>(xF.1 hm.nodup).1 (by rw [<-e];exact hE)
  rw [gK hne]
  exact (hm.at_ E (List.mem_cons_of_mem _ hE)).2
theorem Boxed.oth {B:Nat} {w w':WC} {b:Nat} {t:WE} {v:WD} (h:Boxed w b t v) (ho:Oth B w w'):Boxed w' b t v:=by
 rcases ho.block b with e|⟨_,⟨o,h1,h2⟩,_⟩
 ·exact e.trans h
 ·rw [show w.heap[b]?=_ from h] at h1
  cases h1
  cases h2
theorem zAt (W:WC) (t:WE) (v:WD) {b:Nat} (hb:b=W.heap.size):Boxed (W.alloc (.cells #[v] t)) b t v:=by
 subst hb
 exact Boxed.new W t v
structure Rds (w:World) (A:Option Addr) (n:Nat) (ls:List (List Nat)):Prop where
 len:ls.length=n
 cells: ∀i,i<n-> ∃b o Ai ni ci li,A=some ⟨b,o,none⟩/\w.cell? ⟨b,o+i,none⟩=some (.slice Ai ni ci)/\ls[i]?=some li/\Rd w Ai ni ci li/\Lt li/\ni<=68719476736
theorem Rds.below {w w':WC} {A:WF Addr} {n:Nat} {ls:List (List Nat)} (h:Rds w A n ls) (hb:Below w.heap.size w w'):Rds w' A n ls:=
 ⟨h.len,fun i hi=>by
  obtain ⟨b,o,Ai,ni,ci,li,e,hc,h1,h2,h3⟩:=h.cells i hi
  exact ⟨b,o,Ai,ni,ci,li,e,(hb.cell (p:=⟨b,o+i,none⟩) (z7 hc)).trans hc,h1,h2.below hb,h3⟩⟩
theorem zBw (w:WC) (cs:Array WD) (t:WE) (i:Nat):(w.alloc (.cells cs t)).cell? ⟨w.heap.size,i,none⟩=cs[i]?:=by
 have hh:(w.alloc (.cells cs t)).heap[w.heap.size]?=some (.cells cs t):=heap_alloc_new w _
 unfold World.cell?
 rw [hh]
 rfl
theorem Rds.two {w:WC} {A:WF Addr} {n c:Nat} {l:List Nat} (h:Rd w A n c l) (ht:Lt l) (hn:n<=68719476736) {A':WF Addr} {n' c':Nat} {l':List Nat} (h':Rd w A' n' c' l') (ht':Lt l') (hn':n'<=68719476736) (t:WE):
  Rds (w.alloc (.cells #[.slice A n c, .slice A' n' c'] t)) (some ⟨w.heap.size,0,none⟩) 2 [l,l']:=
 ⟨rfl,fun i hi=>by
  rcases (by omega:i=0∨i=1) with rfl|rfl
  ·exact ⟨_,_,A,n,c,l,rfl,zBw w _ t 0,rfl,h.alloc _,ht,hn⟩
  ·exact ⟨_,_,A',n',c',l',rfl,zBw w _ t 1,rfl,h'.alloc _,ht',hn'⟩⟩
theorem vP {w:WC} {A:WF Addr} {n c:Nat} {l:List Nat} (h:Rd w A n c l) (ht:Lt l) (hn:n<=68719476736) {A':WF Addr} {n' c':Nat} {l':List Nat} (h':Rd w A' n' c' l') (ht':Lt l') (hn':n'<=68719476736)
  {A'':WF Addr} {n'' c'':Nat} {l'':List Nat} (h'':Rd w A'' n'' c'' l'') (ht'':Lt l'') (hn'':n''<=68719476736) (t:WE):
  Rds (w.alloc (.cells #[.slice A n c, .slice A' n' c', .slice A'' n'' c''] t)) (some ⟨w.heap.size,0,none⟩) 3 [l,l',l'']:=
 ⟨rfl,fun i hi=>by
  rcases (by omega:i=0∨i=1∨i=2) with rfl|rfl|rfl
  ·exact ⟨_,_,A,n,c,l,rfl,zBw w _ t 0,rfl,h.alloc _,ht,hn⟩
  ·exact ⟨_,_,A',n',c',l',rfl,zBw w _ t 1,rfl,h'.alloc _,ht',hn'⟩
  ·exact ⟨_,_,A'',n'',c'',l'',rfl,zBw w _ t 2,rfl,h''.alloc _,ht'',hn''⟩⟩
end Go.Proofs.Wd

namespace Go.Proofs.Wd
open Go.RowKit
section
variable {F:Fence} {n:Nat} {P:WG} {md:Region.Mode} {ops:Array Oper} {Q:Exit->Act->WC->Prop} {C:WC->Prop} {z:Nat}
def zAr (ops:Array Oper):Bool:=ops.all fun o=>match o.op with| .defer _=>false|_=>true
theorem zB2 (h:zAr ops=true) {j:Nat} {o:Oper} (hj:ops[j]?=some o): ∀c,o.op≠ .defer c:=by
 intro c heq
 have:=gT.1 h o (Array.mem_of_getElem? hj)
 rw [heq] at this
 cases this
def zBD (md:Region.Mode) (ops:Array Oper) (z i:Nat):Bool:=
 match ops[z]? with
 |none=>true
 |some o=>o.after.any fun e=>Region.binds md e&&e.on==i
theorem zFA {i:Nat} (h:zBD md ops z i=true) {o:Oper} (hz:ops[z]?=some o): ∃e∈o.after,Region.binds md e=true/\e.on=i:=by
 unfold zBD at h
 rw [hz] at h
 simp at h
 obtain ⟨j,hj,hb,ho⟩:=h
 exact ⟨_,gU hj,hb,ho⟩
def zAd (F:Fence) (n:Nat) (P:WG) (md:Region.Mode) (ops:Array Oper) (z:Nat) (C:WC->Prop) (Q:Exit->Act->WC->Prop):Nat->Array Bool->Act->WC->Prop
 |0,listed,a,w=>Region.ready md ops listed= []/\Q .normal a w
 |fuel+1,listed,a,w=>
  (Region.ready md ops listed= []->Q .normal a w)/\
  ∀i∈Region.ready md ops listed,wpOpIn F n P ops Q i (fun a' w'=>(i=z∨C w')/\zAd F n P md ops z C Q fuel (listed.setIfInBounds i true) a' w') a w
theorem zCk: ∀(fuel:Nat) (listed:Array Bool) (a:Act) (w:WC),zAd F n P md ops z C Q fuel listed a w->wpAnyIn F n P md ops Q fuel listed a w
 |0,_,_,_,h=>h
 |fuel+1,_,_,_,h=>⟨h.1,fun i hi=>gV (fun a' w' h2=>zCk fuel _ a' w' h2.2) (h.2 i hi)⟩
def jW (Q:Exit->Act->WC->Prop):Exit->Act->WC->Prop
 | .panic _,_,_=>False
 |e,a,w=>Q e a w
theorem yH {id:Nat} {a:Act} {w:WC} (z:Nat) (C:WC->Prop) (hm:P.follows .mixedOrders=true)
  (h:zAd F n P .any ops z C (jW Q) ops.size (Array.replicate ops.size false) a w.drew):(Code.region id ops true).wpIn F n P Q a w:=
 Code.wpIn_mono (fun e a' w' he=>by cases e<;>first|exact he|exact he.elim) (wpIn_region_any hm (zCk _ _ _ _ h))
def zAf (P:WG) (ops:Array Oper) (C:WC->Prop) (o:Oper) (v:WD) (a:Act):Prop:=
 ((Region.wanted o (yielded ops a.tmps)=true/\ ∀w,C w->(execOp a.eval o).run P w= .ok (.value v) w)∨(Region.wanted o (yielded ops a.tmps)=false/\v=undef))/\ ∀w,o.about P w a.eval=none
theorem zAf.wpOpIn {i:Nat} {o:Oper} {v:WD} {a:Act} (hpl:zAr ops=true) (hi:ops[i]?=some o) (hy:zAf P ops C o v a) {K:Act->WC->Prop} {w:WC} (hw:C w) (h:K (a.put o.dst v) w):
  wpOpIn F n P ops Q i K a w:=by
 unfold Go.wpOpIn
 simp only [hi]
 have hab: ∀f,o.about P w a.eval=some f->F.fn f:=fun f hf=>by rw [hy.2 w] at hf;cases hf
 rcases hy.1 with ⟨hw',hv⟩|⟨hw',rfl⟩
 ·simp only [hw',if_true,Oper.wpIn,Oper.semAt_eq _ _ _ (zB2 hpl hi),hv w hw,Oper.uponIn];exact ⟨hab,h⟩
 ·simp only [hw',Bool.false_eq_true,if_false];exact ⟨hab,h⟩
theorem zAf.of_same {o:Oper} {v:WD} {a a':Act} (hy:zAf P ops C o v a) (he:execOp a'.eval o=execOp a.eval o)
  (hw:Region.wanted o (yielded ops a'.tmps)=Region.wanted o (yielded ops a.tmps)) (hb: ∀w,o.about P w a'.eval=o.about P w a.eval):zAf P ops C o v a':=by
 refine ⟨?_,fun w=>by rw [hb w];exact hy.2 w⟩
 rw [he,hw]
 exact hy.1
theorem zH8 {j:Nat} {oi oj:Oper} {v:WD} (hpl:zAr ops=true) (hj:ops[j]?=some oj) (hap:oi.apart ops oj=true)
  (hsi: ∀cs b,oi.op≠ .select cs b) (hsj: ∀cs b,oj.op≠ .select cs b)
  (hQ: ∀c a w,Q (.panic c) (a.put oi.dst v) w->Q (.panic c) a w) {K:Act->WC->Prop} {a:Act} {w:WC}
  (hy:zAf P ops C oi v a) (h:wpOpIn F n P ops Q j K (a.put oi.dst v) w):
  wpOpIn F n P ops Q j (fun a' w'=>zAf P ops C oi v a'/\K (a'.put oi.dst v) w') a w:=by
 obtain ⟨h1,h2,h3⟩:=Oper.apart_spec hap
 have keep: ∀(a:Act),zAf P ops C oi v a-> ∀u,zAf P ops C oi v (a.put oj.dst u):=fun a hy u=>
  hy.of_same (execOp_put oi hsi a oj.dst u h3) (wanted_put oi a oj.dst u h3) (fun w=>about_put oi w a oj.dst u h3)
 have keepD: ∀d,zAf P ops C oi v { a with defers:=d::a.defers }:=fun d=>hy.of_same rfl rfl (fun _=>rfl)
 have hpj:=zB2 hpl hj
 unfold wpOpIn at*
 simp only [hj] at*
 rw [wanted_put oj a oi.dst v h1,about_put oj w a oi.dst v h1] at h
 split
 ·rename_i hw
  simp only [hw,if_true] at h
  unfold Oper.wpIn at*
  rw [about_put oj w a oi.dst v h1] at h
  refine ⟨h.1, ?_⟩
  have h:=h.2
  rw [Oper.semAt_eq _ _ _ hpj,execOp_put oj hsj a oi.dst v h1] at h
  rw [Oper.semAt_eq _ _ _ hpj]
  generalize (execOp a.eval oj).run P w=r at*
  cases r with
  | ok x w'=>
   cases x<;>simp only [Oper.uponIn] at h ⊢
   case value u=>exact ⟨keep a hy u,by rw [<-gL a v u h2];exact h⟩
   case skip=>exact ⟨keep a hy _,by rw [<-gL a v undef h2];exact h⟩
   case defer d=>
    refine ⟨keep _ (keepD d) _, ?_⟩
    rw [<-gL _ v undef h2, <-Act.put_defers]
    exact h
   case enter f args=>
    refine ⟨h.1,CallsIn.mono h.2 fun e w'' he=> ?_⟩
    cases e with
    |returned u=>exact ⟨keep a hy u,by rw [<-gL a v u h2];exact he⟩
    |panicked c=>exact hQ _ _ _ he
    |outgrown=>exact he
   case row row args=>exact ⟨h.1,RowsIn.mono h.2 fun u w'' he=>⟨keep a hy u,by rw [<-gL a v u h2];exact he⟩⟩
   case round l f tmps assign body=>
    refine ⟨h.1,RoundIn.mono h.2 fun e w'' he=> ?_⟩
    cases e with
    |returned u=>exact ⟨keep a hy u,by rw [<-gL a v u h2];exact he⟩
    |panicked c=>exact hQ _ _ _ he
    |outgrown=>exact he
  |halt x w'=>
   cases x<;>simp only [Oper.uponIn] at h ⊢
   case panic u=>exact hQ _ _ _ h
 ·rename_i hw
  simp only [hw] at h
  exact ⟨h.1,keep a hy _,by rw [<-gL a v undef h2];exact h.2⟩
theorem zGP {i:Nat} {oi:Oper} {v:WD} (hpl:zAr ops=true) (hlw:zBD md ops z i=true) (hi:ops[i]?=some oi) (hsel: ∀(j:Nat) (o:Oper) cs b,ops[j]?=some o->o.op≠ .select cs b)
    (hQ: ∀c a w,Q (.panic c) (a.put oi.dst v) w->Q (.panic c) a w):
    ∀(fuel:Nat) (listed:Array Bool) (a:Act) (w:WC),
      (∀j oj,ops[j]?=some oj->j≠i->listed.getD j true=false->(∀e∈oj.after,Region.binds md e=true->e.on≠i)->oi.apart ops oj=true)->
      i∈Region.ready md ops listed->zAf P ops C oi v a->C w->
      zAd F n P md ops z C Q fuel (listed.setIfInBounds i true) (a.put oi.dst v) w->zAd F n P md ops z C Q (fuel+1) listed a w:=by
  intro fuel
  induction fuel with
  | zero=>
    intro listed a w _ hr hy hc H
    refine ⟨fun h=>(by rw [h] at hr;cases hr),fun j hj=> ?_⟩
    by_cases hji:j=i
    . subst hji;exact hy.wpOpIn hpl hi hc ⟨.inr hc,H⟩
    . have:=ready_mono hj hji
      rw [H.1] at this
      cases this
  | succ fuel ih=>
    intro listed a w hfree hr hy hc H
    refine ⟨fun h=>(by rw [h] at hr;cases hr),fun j hj=> ?_⟩
    by_cases hji:j=i
    . subst hji;exact hy.wpOpIn hpl hi hc ⟨.inr hc,H⟩
    . have h1:=H.2 j (ready_mono hj hji)
      obtain ⟨hjun,oj,hoj,hall⟩:=gN.1 hj
      have hnot: ∀e∈oj.after,Region.binds md e=true->e.on≠i:=fun e he hb heq=>by
        have h1:=hall e he hb
        have h0:=(gN.1 hr).1
        rw [heq] at h1
        rcases gI i listed.size with h'|h'
        . simp [h'] at h0 h1;rw [h0] at h1;cases h1
        . simp [gJ h'] at h1
      have h2:=zH8 hpl hoj (hfree j oj hoj hji hjun hnot) (fun cs b=>hsel i oi cs b hi) (fun cs b=>hsel j oj cs b hoj) hQ hy h1
      have hfree': ∀k ok,ops[k]?=some ok->k≠i->(listed.setIfInBounds j true).getD k true=false->
          (∀e∈ok.after,Region.binds md e=true->e.on≠i)->oi.apart ops ok=true:=fun k ok hk hki hun hno=>by
        refine hfree k ok hk hki ?_ hno
        by_cases hjk:j=k
        . subst hjk;exact hjun
        . rw [gM true hjk] at hun;exact hun
      have hri:i∈Region.ready md ops (listed.setIfInBounds j true):=ready_mono hr (Ne.symm hji)
      have hjz:j≠z:=fun e=>by
        subst e
        obtain ⟨ed,hed,hb,ho⟩:=zFA hlw hoj
        exact hnot ed hed hb ho
      refine gV (fun a' w' h3=> ?_) h2
      have hc':C w':=h3.2.1.resolve_left hjz
      exact ⟨.inr hc',ih (listed.setIfInBounds j true) a' w' hfree' hri h3.1 hc' (by rw [Array.setIfInBounds_comm _ _ hji];exact h3.2.2)⟩
theorem zW {i:Nat} {oi:Oper} {v:WD} {fuel:Nat} {listed:Array Bool} {a:Act} {w:WC} (hpl:zAr ops=true) (hlw:zBD md ops z i=true) (hi:ops[i]?=some oi)
  (hs:Region.noSelect ops=true) (hf:Region.free md ops listed i=true) (hr:(Region.ready md ops listed).contains i=true)
  (hQ: ∀c a w,Q (.panic c) (a.put oi.dst v) w->Q (.panic c) a w) (hc:C w) (hy:zAf P ops C oi v a)
  (h:zAd F n P md ops z C Q fuel (listed.setIfInBounds i true) (a.put oi.dst v) w):zAd F n P md ops z C Q (fuel+1) listed a w:=
 zGP hpl hlw hi (Region.noSelect_spec hs) hQ fuel listed a w (Region.free_spec hi hf) (by simpa using hr) hy hc h
theorem zAx {i:Nat} {o:Oper} {fuel:Nat} {listed:Array Bool} {a:Act} {w:WC} (hr:Region.ready md ops listed= [i]) (ho:ops[i]?=some o)
  (h: ∀K:Act->WC->Prop,(∀a' w',((i==z)=true∨C w')->zAd F n P md ops z C Q fuel (listed.setIfInBounds i true) a' w'->K a' w')->
   if Region.wanted o (yielded ops a.tmps)=true then Oper.wpIn F n P o a w K Q else (∀f,o.about P w a.eval=some f->F.fn f)/\K (a.put o.dst undef) w):
  zAd F n P md ops z C Q (fuel+1) listed a w:=
 ⟨fun e=>(by rw [hr] at e;cases e),fun j hj=>by
  rw [hr] at hj
  obtain rfl:j=i:=by simpa using hj
  refine wpOpIn_step ho fun K' hK'=> ?_
  exact h K' fun a' w' h1 h2=>hK' a' w' ⟨by simpa using h1,h2⟩⟩
theorem zUT {fuel:Nat} {listed:Array Bool} {a:Act} {w:WC} (hr:Region.ready md ops listed= []) (h:Q .normal a w):zAd F n P md ops z C Q fuel listed a w:=by
 cases fuel with
 |zero=>exact ⟨hr,h⟩
 |succ fuel=>exact ⟨fun _=>h,fun i hi=>(by rw [hr] at hi;cases hi)⟩
theorem zCj {fuel:Nat} {listed:Array Bool} {a:Act} {w:WC} (hr:Region.ready md ops listed= []) (h:Q .normal a w):zAd F n P md ops z C (jW Q) fuel listed a w:=zUT hr h
end
section
variable {F:Fence} {n:Nat} {P:WG} {ops:Array Oper} {Q:Exit->Act->WC->Prop}
def jU (ops:Array Oper):Bool:=(List.range ops.size).all fun i=>(List.range ops.size).all fun j=>i==j||match ops[i]?.bind (·.dst),ops[j]?.bind (·.dst) with
 |some t,some u=>t !=u
 |_,_=>true
def zA3 (ops:Array Oper) (k:Nat):Bool:=ops.all fun o=>match o.dst with
 |none=>true
 |some t=>decide (t<k)
theorem zAu (h:jU ops=true) {i j:Nat} {oi oj:Oper} (hi:ops[i]?=some oi) (hj:ops[j]?=some oj) (hne:i≠j) {t:Tmp} (ht:oi.dst=some t):oj.dst≠some t:=by
 intro hu
 have h1:=gF.1 h i (gG.2 (gE.1 hi).1)
 have h2:=gF.1 h1 j (gG.2 (gE.1 hj).1)
 rw [hi,hj] at h2
 simp [ht,hu,hne] at h2
theorem jB {k:Nat} (h:zA3 ops k=true) {i:Nat} {o:Oper} (hi:ops[i]?=some o) {t:Tmp} (ht:o.dst=some t):t<k:=by
 have:=gT.1 h o (Array.mem_of_getElem? hi)
 rw [ht] at this
 simpa using this
theorem zBW {xs:Array WD} {i j:Nat} {v:WD} (h:i≠j):(xs.setIfInBounds i v).getD j undef=xs.getD j undef:=by
 rw [gH,gH,Array.getElem?_setIfInBounds_ne h]
variable {E:Nat->WD->WC->Prop} {C:WC->Prop} {a0:Act}
theorem zAk {listed:Array Bool} {i:Nat} (h:listed.getD i true=false):(listed.setIfInBounds i true).count false+1=listed.count false:=by
 have hlt:i<listed.size:=by
  rcases gI i listed.size with e|e
  ·exact e
  ·simp [gJ e] at h
 have hv:listed[i]=false:=by simpa [hlt] using h
 rw [Array.setIfInBounds,dif_pos hlt,Array.count_set]
 have hpos:0<listed.count false:=Array.count_pos_iff.2 (by rw [<-hv];exact gU hlt)
 simp [hv]
 omega
def zBE (ops:Array Oper) (listed0:Array Bool) (t:Tmp):Bool:=(List.range ops.size).any fun i=> !listed0.getD i true&&(ops[i]?.bind (·.dst)==some t)
theorem zIJ {listed0:Array Bool} {i:Nat} {o:Oper} (hi:ops[i]?=some o) (hl:listed0.getD i true=false) {t:Tmp} (ht:o.dst=some t):zBE ops listed0 t=true:=by
 unfold zBE
 exact gW.2 ⟨i,gG.2 (gE.1 hi).1,by rw [hl,hi];simp [ht]⟩
structure FlowL (ops:Array Oper) (listed0:Array Bool) (E:Nat->Value->World->Prop) (C:World->Prop) (a0:Act) (S:Nat->Prop) (a:Act) (w:World):Prop where
 cls:C w
 size:a.tmps.size=a0.tmps.size
 defers:a.defers=a0.defers
 keep: ∀t,zBE ops listed0 t=false->a.tmps.getD t undef=a0.tmps.getD t undef
 vals: ∀i o t,S i->ops[i]?=some o->o.dst=some t->E i (a.tmps.getD t undef) w
theorem FlowL.mono {listed0:Array Bool} {S S':Nat->Prop} {a:Act} {w:WC} (h:FlowL ops listed0 E C a0 S a w) (hs: ∀i,S' i->S i):FlowL ops listed0 E C a0 S' a w:=
 ⟨h.cls,h.size,h.defers,h.keep,fun i o t hi=>h.vals i o t (hs i hi)⟩
theorem FlowL.put {listed0:Array Bool} (hap:jU ops=true) (hfr:zA3 ops a0.tmps.size=true) (hC: ∀w w',C w->Below w.heap.size w w'->C w') (hE: ∀i v w w',E i v w->Below w.heap.size w w'->E i v w')
  {S:Nat->Prop} {a:Act} {w w':WC} (h:FlowL ops listed0 E C a0 S a w) {i:Nat} {o:Oper} (hi:ops[i]?=some o) (hl:listed0.getD i true=false) {v:WD} (hv:E i v w') (hb:Below w.heap.size w w'):FlowL ops listed0 E C a0 (fun j=>S j∨j=i) (a.put o.dst v) w':=by
 refine ⟨hC _ _ h.cls hb, ?_, ?_, ?_, ?_⟩
 ·rw [<-h.size]
  unfold Act.put
  cases o.dst<;>simp
 ·rw [<-h.defers]
  unfold Act.put
  cases o.dst<;>rfl
 ·intro t ht
  rw [<-h.keep t ht]
  unfold Act.put
  cases hd:o.dst with
  |none=>rfl
  |some d=>
   have hne:d≠t:=fun e=>by subst e;rw [zIJ hi hl hd] at ht;cases ht
   exact zBW hne
 ·intro j oj t hj hoj ht
  by_cases hji:j=i
  ·subst hji
   rw [hi] at hoj
   cases hoj
   have hlt:=jB hfr hi ht
   unfold Act.put
   rw [ht]
   show E j ((a.tmps.setIfInBounds t v).getD t undef) w'
   rw [gH,gX (by rw [h.size];exact hlt)]
   exact hv
  ·have hS:S j:=hj.resolve_right hji
   have h1:=hE _ _ _ _ (h.vals j oj t hS hoj ht) hb
   have hne: ∀d,o.dst=some d->d≠t:=fun d hd e=>by subst e;exact zAu hap hi hoj (Ne.symm hji) hd ht
   unfold Act.put
   cases hd:o.dst with
   |none=>exact h1
   |some d=>
    show E j ((a.tmps.setIfInBounds d v).getD t undef) w'
    rw [zBW (hne d hd)]
    exact h1
theorem zJU: ∀(D:List Nat) {x y:Array WD},x.size=y.size->(∀t,t ∉ D->x.getD t undef=y.getD t undef)->x=D.foldl (fun z t=>z.setIfInBounds t (x.getD t undef)) y
 | [],x,y,hs,h=>by
  show x=y
  refine Array.ext hs fun i h1 h2=> ?_
  have:=h i (by simp)
  rw [gH,gH,gR h1,gR h2] at this
  exact this
 | d::D,x,y,hs,h=>by
  rw [List.foldl_cons]
  refine zJU D (by simpa using hs) fun t ht=> ?_
  by_cases e:t=d
  ·subst e
   rcases gI t y.size with g|g
   ·rw [gH (xs:=y.setIfInBounds t _),gX g]
    rfl
   ·simp [gJ (by omega:x.size<=t)]
  ·rw [zBW (Ne.symm e)]
   exact h t (by simp [e,ht])
def zM6 (ops:Array Oper) (listed0:Array Bool):List Nat:=(List.range ops.size).filterMap fun i=>if listed0.getD i true then none else ops[i]?.bind (·.dst)
theorem zRi {listed0:Array Bool} {t:Nat} (h:t ∉ zM6 ops listed0):zBE ops listed0 t=false:=by
 cases hd:zBE ops listed0 t with
 |false=>rfl
 |true=>
  exfalso
  unfold zBE at hd
  obtain ⟨i,hi,hp⟩:=gW.1 hd
  simp only [gO,Bool.not_eq_true',gY] at hp
  exact h (List.mem_filterMap.2 ⟨i,hi,by rw [hp.1,hp.2];rfl⟩)
end
section
variable {F:Fence} {n:Nat} {P:WG} {ops:Array Oper} {Q:Exit->Act->WC->Prop}
def zC5 (ops:Array Oper):Nat->Nat->Nat->Bool
 |0,_,_=>false
 |fuel+1,i,j=>match ops[j]? with
  |none=>false
  |some o=>o.after.any fun e=>Region.binds .any e&&(e.on==i||zC5 ops fuel i e.on)
def zF2 (ops:Array Oper) (listed0:Array Bool) (k:Nat):Bool:=(List.range ops.size).all fun j=>decide (j<k)||(List.range k).all fun i=>listed0.getD i true||zC5 ops ops.size i j
def zCc (ops:Array Oper):Bool:=(List.range ops.size).all fun i=>match ops[i]? with
 |none=>true
 |some o=>o.after.all fun e=> !Region.binds .any e||decide (e.on<i)
theorem zCb (h:zCc ops=true) {i:Nat} {o:Oper} (hi:ops[i]?=some o) {e} (he:e∈o.after) (hb:Region.binds .any e=true):e.on<i:=by
 have hl:=(gE.1 hi).1
 have h1:=gF.1 h i (gG.2 hl)
 rw [hi] at h1
 have h2:=gT.1 h1 e he
 rw [hb] at h2
 simpa using h2
def zEi (ops:Array Oper) (listed:Array Bool):Bool:=(List.range ops.size).all fun i=> !listed.getD i false||match ops[i]? with
 |none=>true
 |some o=>o.after.all fun e=> !Region.binds .any e||listed.getD e.on false
def zJD (listed:Array Bool) (k:Nat):Bool:=(List.range listed.size).all fun i=>decide (i<k)|| !listed.getD i false
def zH4 (ops:Array Oper) (listed:Array Bool):Prop:= ∀i o,listed.getD i false=true->ops[i]?=some o-> ∀e∈o.after,Region.binds .any e=true->listed.getD e.on false=true
theorem zBv {listed:Array Bool} (hc:zH4 ops listed): ∀(fuel i j:Nat) (o:Oper),ops[j]?=some o->(∀e∈o.after,Region.binds .any e=true->listed.getD e.on false=true)->zC5 ops fuel i j=true->listed.getD i false=true
 |0,_,_,_,_,_,h=>by cases h
 | fuel+1,i,j,o,hj,hd,h=>by
  unfold zC5 at h
  rw [hj] at h
  obtain ⟨x,hx,he⟩:=Array.any_eq_true.1 h
  simp only [gO,gZ,gY] at he
  have hl:=hd _ (gU hx) he.1
  rcases he.2 with e|e
  ·rw [<-e];exact hl
  ·have hlt: ∃o',ops[(o.after[x]).on]?=some o':=by
    cases ho:ops[(o.after[x]).on]? with
    |some o'=>exact ⟨o',rfl⟩
    |none=>
     exfalso
     cases fuel with
     |zero=>cases e
     |succ f=>unfold zC5 at e;rw [ho] at e;cases e
   obtain ⟨o',ho'⟩:=hlt
   exact zBv hc fuel i _ o' ho' (fun e' he' hb'=>hc _ _ hl ho' e' he' hb') e
theorem zCI {listed:Array Bool} (h:zEi ops listed=true):zH4 ops listed:=by
 intro i o hl hi e he hb
 have h1:=gF.1 h i (gG.2 (gE.1 hi).1)
 rw [hl,hi,Bool.not_true,Bool.false_or] at h1
 have h2:=gT.1 h1 e he
 rw [hb] at h2
 simpa using h2
theorem zIw {listed:Array Bool} {k:Nat} (h:zJD listed k=true) {i:Nat} (hk:k<=i):listed.getD i false=false:=by
 rcases gI i listed.size with g|g
 ·have h1:=gF.1 h i (gG.2 g)
  simp only [gZ,decide_eq_true_eq,Bool.not_eq_true'] at h1
  rcases h1 with h1|h1
  ·omega
  ·exact h1
 ·simp [gJ g]
def blk:WD->WF Nat
 | .pointer (some ⟨b,_,_⟩)=>some b
 |_=>none
structure FlowB (ops:Array Oper) (listed0:Array Bool) (A:Nat->Bool) (E:Nat->Value->World->Prop) (C:World->Prop) (a0:Act) (S:Nat->Prop) (a:Act) (w:World):Prop where
 at_:FlowL ops listed0 E C a0 S a w
 old: ∀i o t b,S i->A i=true->ops[i]?=some o->o.dst=some t->blk (a.tmps.getD t undef)=some b->b<w.heap.size
 apart: ∀i j oi oj ti tj bi bj,S i->S j->i≠j->A i=true->A j=true->ops[i]?=some oi->ops[j]?=some oj->oi.dst=some ti->oj.dst=some tj->blk (a.tmps.getD ti undef)=some bi->blk (a.tmps.getD tj undef)=some bj->bi≠bj
variable {listed0:Array Bool} {A:Nat->Bool} {E:Nat->WD->WC->Prop} {C:WC->Prop} {a0:Act}
theorem FlowB.mono {S S':Nat->Prop} {a:Act} {w:WC} (h:FlowB ops listed0 A E C a0 S a w) (hs: ∀i,S' i->S i):FlowB ops listed0 A E C a0 S' a w:=
 ⟨h.at_.mono hs,fun i o t b hi=>h.old i o t b (hs i hi),fun i j oi oj ti tj bi bj hi hj=>h.apart i j oi oj ti tj bi bj (hs i hi) (hs j hj)⟩
theorem zGf (hfr:zA3 ops a0.tmps.size=true) {a:Act} (hsz:a.tmps.size=a0.tmps.size) {i:Nat} {o:Oper} (hi:ops[i]?=some o) {t:Tmp} (ht:o.dst=some t) (v:WD):(a.put o.dst v).tmps.getD t undef=v:=by
 have hlt:=jB hfr hi ht
 unfold Act.put
 rw [ht]
 show (a.tmps.setIfInBounds t v).getD t undef=v
 rw [gH,gX (by rw [hsz];exact hlt)]
 rfl
theorem zDD (hap:jU ops=true) {a:Act} {i j:Nat} {o oj:Oper} (hi:ops[i]?=some o) (hj:ops[j]?=some oj) (hne:i≠j) {t:Tmp} (ht:oj.dst=some t) (v:WD):(a.put o.dst v).tmps.getD t undef=a.tmps.getD t undef:=by
 unfold Act.put
 cases hd:o.dst with
 |none=>rfl
 |some d=>exact zBW (fun e=>by subst e;exact zAu hap hi hj hne hd ht)
theorem FlowB.put (hap:jU ops=true) (hfr:zA3 ops a0.tmps.size=true) (hC: ∀w w',C w->Below w.heap.size w w'->C w') (hE: ∀i v w w',E i v w->Below w.heap.size w w'->E i v w')
  {S:Nat->Prop} {a:Act} {w w':WC} (h:FlowB ops listed0 A E C a0 S a w) {i:Nat} {o:Oper} (hi:ops[i]?=some o) (hl:listed0.getD i true=false) {v:WD} (hv:E i v w') (hb:Below w.heap.size w w') (hA:A i=true-> ∀b,blk v=some b->w.heap.size<=b/\b<w'.heap.size):
  FlowB ops listed0 A E C a0 (fun j=>S j∨j=i) (a.put o.dst v) w':=by
 refine ⟨h.at_.put hap hfr hC hE hi hl hv hb, ?_, ?_⟩
 ·intro j oj t b hj hAj hoj ht hbk
  by_cases hji:j=i
  ·subst hji
   rw [hi] at hoj
   cases hoj
   rw [zGf hfr h.at_.size hi ht] at hbk
   exact (hA hAj b hbk).2
  ·rw [zDD hap hi hoj (Ne.symm hji) ht] at hbk
   exact Nat.lt_of_lt_of_le (h.old j oj t b (hj.resolve_right hji) hAj hoj ht hbk) hb.size
 ·intro x y ox oy tx ty bx bya hx hy hxy hAx hAy hox hoy htx hty hbx hby
  by_cases hxi:x=i
  ·subst hxi
   rw [hi] at hox
   cases hox
   rw [zGf hfr h.at_.size hi htx] at hbx
   rw [zDD hap hi hoy hxy hty] at hby
   have h1:=(hA hAx bx hbx).1
   have h2:=h.old y oy ty bya (hy.resolve_right (Ne.symm hxy)) hAy hoy hty hby
   omega
  ·rw [zDD hap hi hox (Ne.symm hxi) htx] at hbx
   by_cases hyi:y=i
   ·subst hyi
    rw [hi] at hoy
    cases hoy
    rw [zGf hfr h.at_.size hi hty] at hby
    have h1:=(hA hAy bya hby).1
    have h2:=h.old x ox tx bx (hx.resolve_right hxi) hAx hox htx hbx
    omega
   ·rw [zDD hap hi hoy (Ne.symm hyi) hty] at hby
    exact h.apart x y ox oy tx ty bx bya (hx.resolve_right hxi) (hy.resolve_right hyi) hxy hAx hAy hox hoy htx hty hbx hby
def yV (m k:Nat):Array Bool:=((List.range m).map fun i=>decide (i<k)).toArray
theorem zUh {k z:Nat} (hear:zCc ops=true) (htl:zF2 ops listed0 k=true) (hap:jU ops=true) (hfr:zA3 ops a0.tmps.size=true) (hkl:decide (k<=ops.size)=true) (hC: ∀w w',C w->Below w.heap.size w w'->C w') (hE: ∀i v w w',E i v w->Below w.heap.size w w'->E i v w')
  (hspec: ∀i,i<k->listed0.getD i true=false-> ∀o,ops[i]?=some o-> ∀a w,FlowB ops listed0 A E C a0 (fun j=>listed0.getD j true=false/\ ∃e∈o.after,Region.binds .any e=true/\e.on=j) a w-> ∀K:Act->WC->Prop,(∀v w',E i v w'->Below w.heap.size w w'->(A i=true-> ∀b,blk v=some b->w.heap.size<=b/\b<w'.heap.size)->K (a.put o.dst v) w')->wpOpIn F n P ops Q i K a w)
  (hfin: ∀a w,FlowB ops listed0 A E C a0 (fun i=>i<k/\listed0.getD i true=false) a w->zAd F n P .any ops z (fun _=>True) Q (ops.size - k) (yV ops.size k) a w):
  ∀(fuel:Nat) (listed:Array Bool) (a:Act) (w:WC),listed.count false=fuel->listed.size=ops.size->(∀i,k<=i->listed.getD i false=false)->zH4 ops listed->(∀i,listed0.getD i true=true->i<ops.size->listed.getD i false=true)->
   FlowB ops listed0 A E C a0 (fun i=>listed0.getD i true=false/\listed.getD i false=true) a w->zAd F n P .any ops z (fun _=>True) Q fuel listed a w:=by
 have hkl':=of_decide_eq_true hkl
 intro fuel
 induction fuel with
 | zero=>
  intro listed a w hc hs hlate hcl hsub hf
  have hno: ∀i,listed.getD i true=true:=fun i=>by
   cases hg:listed.getD i true with
   |true=>rfl
   |false=>
    have:=zAk hg
    omega
  have hk2:k=ops.size:=by
   rcases gI k ops.size with hlt|hge
   ·exfalso
    have h1:=hno k
    have h2:=hlate k (gQ _)
    have hlt2:k<listed.size:=by omega
    simp [hlt2] at h1 h2
    rw [h1] at h2
    cases h2
   ·omega
  have hl:listed=yV ops.size k:=by
   refine Array.ext (by simp [yV,hs]) fun i h1 h2=> ?_
   have:=hno i
   simp [h1] at this
   simp [yV,this]
   omega
  have:=hfin a w (hf.mono fun i hi=>⟨hi.2,by
   have h1:=hno i
   have hlt:i<listed.size:=by omega
   simp [hlt] at h1 ⊢
   exact h1⟩)
  rw [hl]
  rwa [show ops.size - k=0 from by omega] at this
 | succ fuel ih=>
  intro listed a w hc hs hlate hcl hsub hf
  by_cases hall: ∀i,i<k->listed.getD i false=true
  ·have hl:listed=yV ops.size k:=by
    refine Array.ext (by simp [yV,hs]) fun i h1 h2=> ?_
    by_cases hik:i<k
    ·have:=hall i hik
     simp [h1] at this
     simp [yV,this,hik]
    ·have:=hlate i oB
     simp [h1] at this
     simp [yV,this,hik]
   have hcnt:listed.count false=ops.size - k:=by
    rw [hl]
    unfold yV
    rw [List.count_toArray,List.count_eq_countP,List.countP_map]
    have: ∀m,k<=m->List.countP ((fun x=>x==false) ∘ fun i=>decide (i<k)) (List.range m)=m - k:=by
     intro m
     induction m with
     |zero=>intro h;simp
     | succ m ihm=>
      intro h
      rw [List.range_succ,List.countP_append]
      by_cases e:k=m+1
      ·subst e
       have:List.countP ((fun x=>x==false) ∘ fun i=>decide (i<m+1)) (List.range m)=0:=by
        rw [List.countP_eq_zero]
        intro x hx
        have:=gG.1 hx
        simp;omega
       rw [this];simp
      ·rw [ihm oB]
       have e2:decide (m<k)=false:=decide_eq_false oB
       simp [e2]
       omega
    exact this ops.size hkl'
   have hf':=hfin a w (hf.mono fun i hi=>⟨hi.2,hall i hi.1⟩)
   rw [<-hl, <-hcnt,hc] at hf'
   exact hf'
  ·simp only [Classical.not_forall] at hall
   obtain ⟨u,huk,hu⟩:=hall
   have hlt:u<listed.size:=by omega
   have hu':listed.getD u true=false:=by
    simp [hlt] at hu ⊢
    exact hu
   have hsome: ∀i,listed.getD i true=false->Region.ready .any ops listed≠ []:=by
    intro i
    induction i using Nat.strongRecOn with
    | _ i ihi=>
     intro hi hnil
     have hlt:i<listed.size:=by
      rcases gI i listed.size with e|e
      ·exact e
      ·simp [gJ e] at hi
     have ho:ops[i]?=some (ops[i]'(by rw [<-hs];exact hlt)):=gR _
     by_cases hall: ∀e∈(ops[i]'(by rw [<-hs];exact hlt)).after,Region.binds .any e=true->listed.getD e.on false=true
     ·have hm:i∈Region.ready .any ops listed:=gN.2 ⟨hi,_,ho,hall⟩
      rw [hnil] at hm
      cases hm
     ·simp only [Classical.not_forall] at hall
      obtain ⟨e,he,hb,hg⟩:=hall
      have hel:=zCb hear ho he hb
      refine ihi e.on hel ?_ hnil
      have hlt2:e.on<listed.size:=by omega
      simp [hlt2] at hg ⊢
      exact hg
   refine ⟨fun hnil=>(hsome u hu' hnil).elim,fun i hi=> ?_⟩
   obtain ⟨hun,o,ho,hall⟩:=gN.1 hi
   have hil:=(gE.1 ho).1
   have hl0:listed0.getD i true=false:=by
    cases hg:listed0.getD i true with
    |false=>rfl
    |true=>
     have:=hsub i hg hil
     have hlt3:i<listed.size:=by omega
     simp [hlt3] at this hun
     rw [this] at hun
     cases hun
   have hik:i<k:=by
    rcases gI i k with e|e
    ·exact e
    ·exfalso
     have h1:=gF.1 htl i (gG.2 hil)
     simp only [gZ,decide_eq_true_eq] at h1
     rcases h1 with h1|h1
     ·omega
     ·have h2:=gF.1 h1 u (gG.2 huk)
      simp only [gZ] at h2
      rcases h2 with h2|h2
      ·exact hu (hsub u h2 oB)
      ·exact hu (zBv hcl _ u i o ho hall h2)
   refine hspec i hik hl0 o ho a w (hf.mono fun j hj=> ?_) _ fun v w' hv hb hA=>⟨.inr trivial, ?_⟩
   ·obtain ⟨hj0,e,he,hb,rfl⟩:=hj
    exact ⟨hj0,hall e he hb⟩
   ·refine ih (listed.setIfInBounds i true) (a.put o.dst v) w' ?_ (by simpa using hs) (fun j hj=> ?_) (fun j oj hj hoj e he hbe=> ?_) (fun j hj hjl=> ?_) ((hf.put hap hfr hC hE ho hl0 hv hb hA).mono fun j hj=> ?_)
    ·have:=zAk hun
     omega
    ·rw [gM false oB]
     exact hlate j hj
    ·by_cases e2:j=i
     ·subst e2
      rw [ho] at hoj
      cases hoj
      by_cases e3:e.on=j
      ·rw [e3];exact hj
      ·rw [gM false (Ne.symm e3)]
       exact hall e he hbe
     ·rw [gM false (Ne.symm e2)] at hj
      have:=hcl j oj hj hoj e he hbe
      by_cases e3:e.on=i
      ·rw [e3]
       have hlt:i<listed.size:=by omega
       simp [hlt]
      ·rw [gM false (Ne.symm e3)]
       exact this
    ·by_cases e3:j=i
     ·subst e3
      rw [hl0] at hj
      cases hj
     ·rw [gM false (Ne.symm e3)]
      exact hsub j hj hjl
    ·by_cases e:j=i
     ·exact .inr e
     ·left
      rw [gM false (Ne.symm e)] at hj
      exact hj
theorem zGD {k z fuel:Nat} {w:WC} (A:Nat->Bool) (E:Nat->WD->WC->Prop) (C:WC->Prop) (hear:zCc ops=true) (htl:zF2 ops listed0 k=true) (hap:jU ops=true) (hfr:zA3 ops a0.tmps.size=true) (hkl:decide (k<=ops.size)=true)
    (hcnt:listed0.count false=fuel) (hsz:listed0.size=ops.size) (hcl:zEi ops listed0=true) (hto:zJD listed0 k=true)
    (hC: ∀w w',C w->Below w.heap.size w w'->C w') (hE: ∀i v w w',E i v w->Below w.heap.size w w'->E i v w') (hw:C w)
    (hspec: ∀i,i<k->listed0.getD i true=false-> ∀o,ops[i]?=some o-> ∀a w,FlowB ops listed0 A E C a0 (fun j=>listed0.getD j true=false/\ ∃e∈o.after,Region.binds .any e=true/\e.on=j) a w-> ∀K:Act->WC->Prop,(∀v w',E i v w'->Below w.heap.size w w'->(A i=true-> ∀b,blk v=some b->w.heap.size<=b/\b<w'.heap.size)->K (a.put o.dst v) w')->wpOpIn F n P ops Q i K a w)
    (hfin: ∀a w,FlowB ops listed0 A E C a0 (fun i=>i<k/\listed0.getD i true=false) a w->zAd F n P .any ops z (fun _=>True) Q (ops.size - k) (yV ops.size k) a w):
    zAd F n P .any ops z (fun _=>True) Q fuel listed0 a0 w:=by
  have hcontra: ∀i,listed0.getD i true=false->listed0.getD i false=true->False:=fun i h1 h2=>by
    rcases gI i listed0.size with g|g
    . simp [g] at h1 h2
      rw [h1] at h2
      cases h2
    . simp [gJ g] at h2
  exact zUh hear htl hap hfr hkl hC hE hspec hfin fuel listed0 a0 w hcnt hsz (fun i hi=>zIw hto hi) (zCI hcl) (fun i hi hl=>by
      have g:i<listed0.size:=by omega
      simp [g] at hi ⊢
      exact hi)
    ⟨⟨hw,rfl,rfl,fun _ _=>rfl,fun i o t hi=>(hcontra i hi.1 hi.2).elim⟩,fun i o t b hi=>(hcontra i hi.1 hi.2).elim,fun i j oi oj ti tj bi bj hi=>(hcontra i hi.1 hi.2).elim⟩
end
theorem yP {p q:Nat->Prop} {k:Nat} (h: ∀i,i<k->q i->p i) (hk:q k->p k): ∀i,i<k+1->q i->p i:=fun i hi hq=>by
 rcases Nat.lt_succ_iff_lt_or_eq.1 hi with h1|h1
 ·exact h i h1 hq
 ·subst h1;exact hk hq
end Go.Proofs.Wd

namespace Go.Proofs.Wd
open Go.RowKit
structure SF where
 p:WD->WC->Prop
 st: ∀v w w',p v w->Below w.heap.size w w'->p v w'
def SF.any:SF:=⟨fun _ _=>True,fun _ _ _ _ _=>trivial⟩
def SF.eq (u:WD):SF:=⟨fun v _=>v=u,fun _ _ _ h _=>h⟩
def upd (G:Nat->SF):List (Nat×SF)->Nat->SF
 | [],t=>G t
 |(k,f)::l,t=>bif Nat.beq k t then f else upd G l t
theorem zAA {G:Nat->SF} {t:Nat}: ∀{l:List (Nat×SF)},(l.map (·.1)).contains t=false->upd G l t=G t
 | [],_=>rfl
 | (k,f)::l,h=>by
  rw [List.map_cons,List.contains_cons,Bool.or_eq_false_iff] at h
  have h1:Nat.beq k t=false:=by
   cases e:Nat.beq k t with
   |false=>rfl
   |true=>have:=Nat.eq_of_beq_eq_true e;subst this;simp at h
  show (bif Nat.beq k t then f else upd G l t)=G t
  rw [h1]
  exact zAA h.2
structure At (w0:World) (G:Nat->SF) (n:Nat) (ds:List Deferred) (a:Act) (w:World):Prop where
 gr:Below w0.heap.size w0 w
 size:a.tmps.size=n
 nd:a.defers=ds
 sl: ∀t,(G t).p (a.tmps.getD t undef) w
def zC9 (o:Oper):List Nat:=o.op.operands.toList.filterMap fun x=>match x with| .tmp t=>some t|_=>none
def yF (ops:Array Oper) (j:Nat):WF Tmp:=match ops[j]? with|some o=>o.dst|none=>none
theorem jE {ops:Array Oper} {j:Nat} {t:Tmp} (h:yF ops j=some t): ∃o,ops[j]?=some o/\o.dst=some t:=by
 unfold yF at h
 cases ho:ops[j]? with
 |none=>rw [ho] at h;cases h
 |some o=>rw [ho] at h;exact ⟨o,rfl,h⟩
theorem zCY (ops:Array Oper) (j:Nat):(ops[j]?).bind Oper.dst=yF ops j:=by
 unfold yF
 cases ops[j]?<;>rfl
theorem jT {ops:Array Oper} {j:Nat} {o:Oper} (h:ops[j]?=some o):yF ops j=o.dst:=by unfold yF;rw [h]
def zNy (F:Fence) (m:Nat) (P:WG) (w0:WC) (G:Nat->SF) (o:Oper):Prop:=
 ∀(b:Act) (W:WC) (K:Act->WC->Prop) (Q:Exit->Act->WC->Prop),Below w0.heap.size w0 W->(∀t,t∈zC9 o->(G t).p (b.tmps.getD t undef) W)->
  (∀v W',(∀d,o.dst=some d->(G d).p v W')->Below W.heap.size W W'->K (b.put o.dst v) W')->o.wpIn F m P b W K Q
def qX (F:Fence) (m:Nat) (P:WG) (w0:WC) (ops:Array Oper) (G:Nat->SF) (o:Oper):Prop:=
 match o.guard with
 |none=>zNy F m P w0 G o
 |some (j,want)=> ∃(g:Nat) (u:WD),yF ops j=some g/\(∀v w,(G g).p v w->v=u)/\(u= .bool want->zNy F m P w0 G o)/\(u≠ .bool want->(∀d,o.dst=some d-> ∀w,(G d).p undef w)/\ ∀W b f,o.about P W b=some f->F.fn f)
def Obs (F:Fence) (m:Nat) (P:WG) (w0:WC) (ops:Array Oper) (G:Nat->SF):List Oper->Prop
 | []=>True
 |o::l=>qX F m P w0 ops G o/\Obs F m P w0 ops G l
theorem Obs.get {F:Fence} {m:Nat} {P:WG} {w0:WC} {ops:Array Oper} {G:Nat->SF}: ∀{l:List Oper},Obs F m P w0 ops G l-> ∀(i:Nat) (o:Oper),l[i]?=some o->qX F m P w0 ops G o
 | [],_,i,o,h=>by simp at h
 |x::l,h,0,o,e=>by simp at e;subst e;exact h.1
 |x::l,h,i+1,o,e=>h.2.get i o (by simpa using e)
def looks (ops:Array Oper) (o:Oper):List Nat:=zC9 o++match o.guard with|none=> []|some (j,_)=>(yF ops j).toList
def zDh (ops:Array Oper) (draw:Bool) (k n:Nat) (keys:List Nat):Bool:=
 jU ops&&zA3 ops n&&zAr ops&&decide (k<=ops.size)&&
 keys.all (fun t=>(List.range k).any fun i=>yF ops i==some t)&&
 (List.range k).all (fun i=>match ops[i]? with
  |none=>true
  |some o=>(looks ops o).all fun t=>(List.range ops.size).all fun j=> !(yF ops j==some t)||(if draw then o.after.any fun e=>Region.binds .any e&&e.on==j else decide (j<i)))&&
 (!draw||(zCc ops&&zF2 ops (Array.replicate ops.size false) k&&(List.range (ops.size - k)).all fun r=>Region.ready .any ops (yV ops.size (k+r))== [k+r]))
def zFe (ops:Array Oper) (k:Nat) (G:Nat->SF) (t:Nat):SF:=bif (List.range ops.size).any (fun i=>decide (k<=i)&&(yF ops i==some t)) then SF.any else G t
section
variable {F:Fence} {m:Nat} {P:WG} {ops:Array Oper} {Q:Exit->Act->WC->Prop}
theorem zAP {w0:WC} {G:Nat->SF} {i:Nat} {o:Oper} (hi:ops[i]?=some o) (hg:qX F m P w0 ops G o) {b:Act} {W:WC} {K:Act->WC->Prop}
  (hsz: ∀(j:Nat) (g:Nat),yF ops j=some g->g<b.tmps.size)
  (hb:Below w0.heap.size w0 W) (hr: ∀t,t∈looks ops o->(G t).p (b.tmps.getD t undef) W) (hK: ∀v W',(∀d,o.dst=some d->(G d).p v W')->Below W.heap.size W W'->K (b.put o.dst v) W'):wpOpIn F m P ops Q i K b W:=by
 unfold wpOpIn
 rw [hi]
 show (if Region.wanted o (yielded ops b.tmps)=true then o.wpIn F m P b W K Q else _)
 unfold qX at hg
 unfold looks at hr
 cases hgd:o.guard with
 |none=>
  rw [hgd] at hg
  have hw:Region.wanted o (yielded ops b.tmps)=true:=by unfold Region.wanted;rw [hgd]
  rw [if_pos hw]
  exact hg b W K Q hb (fun t ht=>hr t (List.mem_append_left _ ht)) hK
 | some q=>
  obtain ⟨j,want⟩:=q
  rw [hgd] at hg
  obtain ⟨g,u,hj,hv,h1,h2⟩:=hg
  have hgv:=hv _ _ (hr g (List.mem_append_right _ (by rw [hgd];show g∈(yF ops j).toList;rw [hj];simp)))
  have hlt:=hsz j g hj
  have hat:b.tmps[g]?=some u:=by
   rw [gR hlt]
   have:b.tmps[g]=u:=by rw [<-hgv];simp [hlt]
   rw [this]
  have hwt:Region.wanted o (yielded ops b.tmps)=((match (some u:WF WD) with|some (.bool b)=>some b|_=>none)==some want):=by
   unfold Region.wanted
   rw [hgd]
   show (yielded ops b.tmps j==some want)=_
   unfold yielded
   rw [zCY,hj]
   show ((match (b.tmps[g]?:WF WD) with|some (.bool b)=>some b|_=>none)==some want)=_
   rw [hat]
  by_cases e:u= .bool want
  ·have hw:Region.wanted o (yielded ops b.tmps)=true:=by rw [hwt,e];simp
   rw [if_pos hw]
   exact h1 e b W K Q hb (fun t ht=>hr t (List.mem_append_left _ ht)) hK
  ·have hw:Region.wanted o (yielded ops b.tmps)=false:=by
    rw [hwt]
    cases u<;>first|rfl|(rename_i c;cases c<;>cases want<;>first|rfl|exact absurd rfl e)
   rw [hw,if_neg (by decide)]
   have h3:=h2 e
   exact ⟨fun f hf=>h3.2 _ _ f hf,hK _ _ (fun d hd=>h3.1 d hd W) (gP _ _)⟩
theorem zEM {b:Act} {o:Oper} {v:WD} {t:Nat} (h:o.dst≠some t):(b.put o.dst v).tmps.getD t undef=b.tmps.getD t undef:=by
 unfold Act.put
 cases hd:o.dst with
 |none=>rfl
 |some d=>exact zBW (fun e=>h (by rw [hd,e]))
theorem zCO {b:Act} {o:WF Tmp} {v:WD}:(b.put o v).tmps.size=b.tmps.size:=by
 unfold Act.put
 cases o<;>simp
theorem zBz {b:Act} {o:WF Tmp} {v:WD}:(b.put o v).defers=b.defers:=by
 unfold Act.put
 cases o<;>rfl
theorem zLo {w0:WC} {G:Nat->SF} {n k:Nat} {a0:Act} {wA:WC} (hap:jU ops=true) (hfr:zA3 ops n=true) (hk:k<=ops.size)
  (hrd: ∀i o,i<k->ops[i]?=some o-> ∀t,t∈looks ops o-> ∀j,yF ops j=some t->j<i)
  (hst: ∀t,(∀j,j<k->yF ops j≠some t)->(G t).p (a0.tmps.getD t undef) wA)
  (hobs: ∀i o,i<k->ops[i]?=some o->qX F m P w0 ops G o) (hgr:Below w0.heap.size w0 wA)
  (hfin: ∀a w,Below w0.heap.size w0 w->a.tmps.size=n->a.defers=a0.defers->(∀t,(∃j,j<k/\yF ops j=some t)∨(∀j,yF ops j≠some t)->(G t).p (a.tmps.getD t undef) w)->wpOpsIn F m P ops Q (List.range' k (ops.size - k)) a w):
  ∀(r i:Nat) (a:Act) (w:WC),i+r=k->Below wA.heap.size wA w->Below w0.heap.size w0 w->a.tmps.size=n->a.defers=a0.defers->
   (∀t,(∃j,j<i/\yF ops j=some t)->(G t).p (a.tmps.getD t undef) w)->(∀t,(∀j,j<i->yF ops j≠some t)->a.tmps.getD t undef=a0.tmps.getD t undef)->
   wpOpsIn F m P ops Q (List.range' i (ops.size - i)) a w
 | 0,i,a,w,hi,hA,h0,hs,hd,h1,h2=>by
  obtain rfl:i=k:=by omega
  refine hfin a w h0 hs hd fun t ht=> ?_
  rcases ht with ht|ht
  ·exact h1 t ht
  ·rw [h2 t (fun j _=>ht j)]
   exact (G t).st _ _ _ (hst t (fun j _=>ht j)) hA
 | r+1,i,a,w,hi,hA,h0,hs,hd,h1,h2=>by
  have hik:i<k:=by omega
  have hlt:i<ops.size:=by omega
  rw [show ops.size - i=(ops.size - (i+1))+1 from by omega,List.range'_succ,wpOpsIn_cons]
  have ho:ops[i]?=some ops[i]:=gR hlt
  refine zAP ho (hobs i _ hik ho) (fun j g hj=> ?_) h0 (fun t ht=> ?_) fun v W' hv hb=> ?_
  ·rw [hs]
   cases hoj:ops[j]? with
   |none=>rw [yF,hoj] at hj;cases hj
   |some oj=>rw [jT hoj] at hj;exact jB hfr hoj hj
  ·by_cases hex: ∃j,yF ops j=some t
   ·obtain ⟨j,hj⟩:=hex
    exact h1 t ⟨j,hrd i _ hik ho t ht j hj,hj⟩
   ·have hno: ∀j,yF ops j≠some t:=fun j hj=>hex ⟨j,hj⟩
    rw [h2 t (fun j _=>hno j)]
    exact (G t).st _ _ _ (hst t (fun j _=>hno j)) hA
  ·refine zLo hap hfr hk hrd hst hobs hgr hfin r (i+1) _ W' oB (hA.trans (hb.mono hA.size)) (h0.trans (hb.mono h0.size)) (by rw [zCO];exact hs) (by rw [zBz];exact hd) (fun t ⟨j,hj,ht⟩=> ?_) (fun t ht=> ?_)
   ·by_cases hji:j=i
    ·subst hji
     rw [jT ho] at ht
     have hdt:ops[j].dst=some t:=ht
     have h3:=hv t hdt
     have:(a.put ops[j].dst v).tmps.getD t undef=v:=by
      rw [hdt]
      show (a.tmps.setIfInBounds t v).getD t undef=v
      rw [gH,gX (by rw [hs];exact jB hfr ho hdt)]
      rfl
     rw [this]
     exact h3
    ·rw [zEM]
     ·exact (G t).st _ _ _ (h1 t ⟨j,by omega,ht⟩) hb
     ·intro hdt
      cases hoj:ops[j]? with
      |none=>rw [yF,hoj] at ht;cases ht
      |some oj=>rw [jT hoj] at ht;exact zAu hap ho hoj (Ne.symm hji) hdt ht
   ·rw [zEM]
    ·exact h2 t (fun j hj=>ht j oB)
    ·intro hdt
     exact ht i oB (by rw [jT ho];exact hdt)
theorem zCF {m k i:Nat} (h:i<m):(yV m k)[i]?=some (decide (i<k)):=by simp [yV,h]
theorem zCE {m k:Nat} (_h:k<m):(yV m k).setIfInBounds k true=yV m (k+1):=by
 refine Array.ext (by simp [yV]) fun i h1 h2=> ?_
 simp only [yV,List.size_toArray,List.length_map,List.length_range] at h2
 by_cases e:k=i
 ·subst e
  simp [yV]
 ·rw [Array.getElem_setIfInBounds_ne (by simpa [yV] using h2) e]
  simp [yV]
  omega
theorem forced {P:WG} {Q:Exit->Act->WC->Prop} {k:Nat} (hch: ∀r,r<ops.size - k->Region.ready .any ops (yV ops.size (k+r))= [k+r]):
  ∀(f r:Nat) (a:Act) (w:WC),k+r+f=ops.size->wpOpsIn F m P ops Q (List.range' (k+r) f) a w->wpAnyIn F m P .any ops Q f (yV ops.size (k+r)) a w
 | 0,r,a,w,hf,h=>by
  refine ⟨List.eq_nil_iff_forall_not_mem.2 fun i hi=> ?_,h⟩
  have h1:=(gN.1 hi).1
  have hlt:i<ops.size:=by
   obtain ⟨_,o,ho,_⟩:=gN.1 hi
   exact (gE.1 ho).1
  rw [gH,zCF hlt] at h1
  simp at h1
  omega
 |f+1,r,a,w,hf,h=>by
  have hr:=hch r oB
  refine ⟨fun e=>(by rw [hr] at e;cases e),fun i hi=> ?_⟩
  rw [hr] at hi
  obtain rfl:i=k+r:=by simpa using hi
  rw [List.range'_succ,wpOpsIn_cons] at h
  refine gV (fun a w h=> ?_) h
  rw [zCE oB]
  exact forced hch f (r+1) a w oB h
end
theorem zE3 {F:Fence} {m:Nat} {P:WG} {ops:Array Oper} {Q:Exit->Act->WC->Prop} {id:Nat} {draw:Bool} {w0:WC} {G:Nat->SF} {n:Nat} {ds:List Deferred} {a:Act} {w:WC} (k:Nat) (L:List (Nat×SF)) (hmix:P.follows .mixedOrders=true)
  (hchk:zDh ops draw k n (L.map (·.1))=true) (h:At w0 G n ds a w) (hobs:Obs F m P w0 ops (upd G L) (ops.toList.take k))
  (hfin: ∀a w,At w0 (zFe ops k (upd G L)) n ds a w->wpOpsIn F m P ops Q (List.range' k (ops.size - k)) a w):(Code.region id ops draw).wpIn F m P Q a w:=by
 unfold zDh at hchk
 simp only [gO] at hchk
 obtain ⟨⟨⟨⟨⟨⟨hap,hfr⟩,hpl⟩,hk⟩,hkeys⟩,hrd⟩,hdr⟩:=hchk
 have hk:=of_decide_eq_true hk
 have hget: ∀i o,i<k->ops[i]?=some o->qX F m P w0 ops (upd G L) o:=fun i o hi ho=>hobs.get i o (by rw [List.getElem?_take_of_lt hi];simpa using ho)
 have hkey: ∀t,(∀j,j<k->yF ops j≠some t)->upd G L t=G t:=fun t ht=>by
  refine zAA ?_
  cases hc:(L.map (·.1)).contains t with
  |false=>rfl
  |true=>
   exfalso
   have hm:=List.contains_iff_mem.1 hc
   obtain ⟨i,hi,he⟩:=gW.1 (gF.1 hkeys t hm)
   exact ht i (gG.1 hi) (by simpa using he)
 have hst: ∀t,(∀j,j<k->yF ops j≠some t)->(upd G L t).p (a.tmps.getD t undef) w:=fun t ht=>by rw [hkey t ht];exact h.sl t
 have hmask: ∀(a:Act) (w:WC),(∀t,(∃j,j<k/\yF ops j=some t)∨(∀j,yF ops j≠some t)->(upd G L t).p (a.tmps.getD t undef) w)-> ∀t,(zFe ops k (upd G L) t).p (a.tmps.getD t undef) w:=fun a w hh t=>by
  unfold zFe
  cases hc:(List.range ops.size).any fun i=>decide (k<=i)&&(yF ops i==some t) with
  |true=>trivial
  | false=>
   refine hh t ?_
   by_cases hex: ∃j,yF ops j=some t
   ·obtain ⟨j,hj⟩:=hex
    left
    refine ⟨j, ?_,hj⟩
    have hlt:j<ops.size:=by
     rcases gI j ops.size with e|e
     ·exact e
     ·rw [yF,gJ e] at hj;cases hj
    have:=List.any_eq_false.1 hc j (gG.2 hlt)
    simp [hj] at this
    omega
   ·exact .inr fun j hj=>hex ⟨j,hj⟩
 have hrd': ∀i o,i<k->ops[i]?=some o-> ∀t,t∈looks ops o-> ∀j,yF ops j=some t->(if draw then o.after.any fun e=>Region.binds .any e&&e.on==j else decide (j<i))=true:=fun i o hi ho t ht j hj=>by
  have h1:=gF.1 hrd i (gG.2 hi)
  rw [ho] at h1
  have hlt:j<ops.size:=by
   rcases gI j ops.size with e|e
   ·exact e
   ·rw [yF,gJ e] at hj;cases hj
  have h2:=gF.1 (gF.1 h1 t ht) j (gG.2 hlt)
  rw [hj] at h2
  simpa using h2
 cases draw with
 |false=>
  refine wpIn_region ?_
  rw [List.range_eq_range']
  refine zLo (G:=upd G L) (k:=k) (n:=n) (a0:=a) (wA:=w) hap hfr hk (fun i o hi ho t ht j hj=> ?_) hst hget h.gr (fun a' w' hb hs hd hh=>hfin a' w' ⟨hb,hs,by rw [hd];exact h.nd,hmask a' w' hh⟩) k 0 a w oB (gP _ _) h.gr h.size rfl (fun t ⟨j,hj,_⟩=>absurd hj oB) (fun t _=>rfl)
  have:=hrd' i o hi ho t ht j hj
  simpa using this
 | true=>
  simp only [Bool.not_true,Bool.false_or,gO] at hdr
  obtain ⟨⟨hear,htl⟩,hch⟩:=hdr
  have hch': ∀r,r<ops.size - k->Region.ready .any ops (yV ops.size (k+r))= [k+r]:=fun r hr=>by
   have:=gF.1 hch r (gG.2 hr)
   simpa using this
  have hfl: ∀i,(Array.replicate ops.size false).getD i false=false:=fun i=>by
   rw [gH,xG]
   split<;>rfl
  have hft: ∀i,i<ops.size->(Array.replicate ops.size false).getD i true=false:=fun i hi=>by
   rw [gH,xG,if_pos hi]
   rfl
  have hnd: ∀t,(∀j,yF ops j≠some t)->zBE ops (Array.replicate ops.size false) t=false:=fun t ht=>by
   cases hd:zBE ops (Array.replicate ops.size false) t with
   |false=>rfl
   |true=>
    exfalso
    unfold zBE at hd
    obtain ⟨i,_,hp⟩:=gW.1 hd
    simp only [gO,gY] at hp
    exact ht i (by rw [<-zCY];exact hp.2)
  refine wpIn_region_any hmix ?_
  refine zCk (z:=100000) (C:=fun _=>True) _ _ _ _ ?_
  have hdrew:Below w.heap.size w w.drew:=(gP _ w).drew
  refine zGD (k:=k) (z:=100000) (w:=w.drew) (fun _=>false) (fun i v W=> ∀o,ops[i]?=some o-> ∀d,o.dst=some d->(upd G L d).p v W) (fun W=>Below w0.heap.size w0 W/\Below w.heap.size w W) hear htl hap (by rw [h.size];exact hfr) (by simpa using hk) Array.count_replicate_self (by simp) ?hcl ?hto (fun W W' hC hb=>⟨hC.1.trans (hb.mono hC.1.size),hC.2.trans (hb.mono hC.2.size)⟩) (fun i v W W' hE hb o ho d hd=>(upd G L d).st _ _ _ (hE o ho d hd) hb) ⟨h.gr.trans (hdrew.mono h.gr.size),hdrew⟩ ?spec ?fin
  case hcl=>
   unfold zEi
   refine gF.2 fun i hi=> ?_
   rw [hfl i]
   rfl
  case hto=>
   unfold zJD
   refine gF.2 fun i hi=> ?_
   rw [hfl i]
   simp
  case spec=>
   intro i hik hl o ho b W hf K hK
   refine zAP ho (hget i o hik ho) (fun j g hj=> ?_) hf.at_.cls.1 (fun t ht=> ?_) (fun v W' hv hb=>hK v W' (fun o' ho' d hd=>by rw [ho] at ho';cases ho';exact hv d hd) hb (fun e=>by cases e))
   ·rw [hf.at_.size,h.size]
    cases hoj:ops[j]? with
    |none=>rw [yF,hoj] at hj;cases hj
    |some oj=>rw [jT hoj] at hj;exact jB hfr hoj hj
   ·by_cases hex: ∃j,yF ops j=some t
    ·obtain ⟨j,hj⟩:=hex
     have h1:=hrd' i o hik ho t ht j hj
     simp only [if_true] at h1
     obtain ⟨x,hx,he⟩:=Array.any_eq_true.1 h1
     simp only [gO,gY] at he
     cases hoj:ops[j]? with
     |none=>rw [yF,hoj] at hj;cases hj
     |some oj=>
      rw [jT hoj] at hj
      exact hf.at_.vals j oj t ⟨hft j (gE.1 hoj).1,_,gU hx,he.1,he.2⟩ hoj hj oj hoj t hj
    ·have hno: ∀j,yF ops j≠some t:=fun j hj=>hex ⟨j,hj⟩
     rw [hf.at_.keep t (hnd t hno)]
     exact (upd G L t).st _ _ _ (hst t (fun j _=>hno j)) hf.at_.cls.2
  case fin=>
   intro b W hf
   have hA:At w0 (zFe ops k (upd G L)) n ds b W:=⟨hf.at_.cls.1,by rw [hf.at_.size];exact h.size,by rw [hf.at_.defers];exact h.nd,hmask b W fun t ht=>by
    rcases ht with ⟨j,hjk,hj⟩|hno
    ·cases hoj:ops[j]? with
     |none=>rw [yF,hoj] at hj;cases hj
     |some oj=>
      rw [jT hoj] at hj
      exact hf.at_.vals j oj t ⟨hjk,hft j (gE.1 hoj).1⟩ hoj hj oj hoj t hj
    ·rw [hf.at_.keep t (hnd t hno)]
     exact (upd G L t).st _ _ _ (hst t (fun j _=>hno j)) hf.at_.cls.2⟩
   have h2:=forced (Q:=Q) hch' (ops.size - k) 0 b W oB (by simpa using hfin b W hA)
   have h3: ∀(f:Nat) (l:Array Bool) (a:Act) (w:WC),wpAnyIn F m P .any ops Q f l a w->zAd F m P .any ops 100000 (fun _=>True) Q f l a w:=by
    intro f
    induction f with
    |zero=>intro l a w hh;exact hh
    |succ f ih=>intro l a w hh;exact ⟨hh.1,fun i hi=>gV (fun a w h5=>⟨.inr trivial,ih _ _ _ h5⟩) (hh.2 i hi)⟩
   exact h3 _ _ _ _ (by simpa using h2)
end Go.Proofs.Wd
