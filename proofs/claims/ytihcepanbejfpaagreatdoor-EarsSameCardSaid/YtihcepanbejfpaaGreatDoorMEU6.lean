/- The calculus of walks by facts: the single operations; The calculus of and what it needs. -/
import Derived.Test.YtihcepanbejfpaaGreatDoorMEU3
import Derived.Great.BuildSlice
import Derived.Shelf.Abstract
theorem fC{P:Prop}(h:P:=by simp):P:=h
abbrev lQ:=@Go.wpIn_seq
abbrev lR:=@List.getElem?_eq_getElem
abbrev lS:=@List.take_of_length_le
abbrev lT:=@List.nil_append
abbrev lU:=@Option.some.inj
abbrev lV:=@List.mem_filter
abbrev lW:=@List.length_cons
abbrev lX:=@List.append_assoc
abbrev lY:=@Option.some.injEq
abbrev lZ:=@Option.map_eq_some_iff
abbrev mA:=@List.all_append
abbrev mB:=@Option.map_some
abbrev mC:=@Go.setRow_heap
abbrev mD:=@Go.Oper.uponIn_enter
abbrev mE:=@Nat.beq_refl
abbrev mF:=@Option.bind_some
abbrev mG:=@Nat.le_of_ble_eq_true
abbrev mH:=@List.take_zero
abbrev mI:=@Go.setRow_other
abbrev mJ:=@List.mem_of_getElem?
abbrev mK:=@Array.getElem_modify
abbrev mL:=@Array.getElem?_append_left
abbrev mM:=@List.getElem?_of_mem
abbrev mN:=@List.take_succ_eq_append_getElem
abbrev WL:=Go.Operand
namespace Go.Proofs.Wd
open Go.RowKit
variable {b c d i id j k kk n:Nat}{W W' w w' w0:WB}{v:WE}{K:Act->WB->Prop}{op:Op}{x y z:WL}{cs:List WE}{f:FuncId}{e t te ty:WF}{A B C:SF}{xs:Array WL}{ats:Array WF}{fn:Func}{args vs:Array WE}{pos:String}{aft:Array Edge}{S:Nat->Prop}{ds:List Deferred}{ops:Array Oper}{draw:Bool}{a:Act}{R:Ending->WB->Prop}
section
variable {F:Fence}{m:Nat}{P:WH}{w0:WB}{ops:Array Oper}{G:Nat->SF}{d:Tmp}{ty:WF}{pos:String}{aft:Array Edge}
def fct(G:Nat->SF):WL->SF
 | .tmp t=>G t
 | .const v=>SF.eq v
 | .func f=>SF.eq (.func (.func f) #[] #[])
 | .global g=>SF.eq (.pointer (some ⟨g,0,none⟩))
theorem qA{b:Act}{o:Oper}(h:∀t,t∈zDH o->(G t).p (b.tmps.getD t undef) W){x:WL}(I:x∈o.op.operands.toList):(fct G x).p (b.eval x) W:=by
 cases x with
 |tmp t=>exact h t (lC.2 ⟨_,I,rfl⟩)
 |const v=>rfl
 |func f=>rfl
 |global g=>rfl
theorem zCd{o:Oper}{b:Act}{Q:Exit->Act->WB->Prop}(hd:∀c,o.op≠ .defer c)(hc:∀c,o.op≠ .call c)(I:(execOp b.eval o).run P W=.ok (.value v) W')(U:K (b.put o.dst v) W'):o.wpIn F m P b W K Q:=by
 refine⟨fun f J=>?_,?_⟩
 .unfold Oper.about at J
  split at J
  .rename_i c O;exact absurd O (hc c)
  .cases J
 .rw[bI _ _ _ hd,I]
  exact U
theorem qG(hd:∀c,op≠ .defer c)(hc:∀c,op≠ .call c)
  (h:∀(b:Act) (W:WB),Below w0.heap.size w0 W->(∀x,x∈op.operands.toList->(fct G x).p (b.eval x) W)->∃v,(execOp b.eval ⟨some d,op,ty,pos,aft,none⟩).run P W=.ok (.value v) W/\(G d).p v W):
  qO F m P w0 ops G ⟨some d,op,ty,pos,aft,none⟩:=by
 intro b W K Q hb O J
 obtain⟨v,I,hv⟩:=h b W hb fun x U=>qA O U
 exact zCd hd hc I (J v W (fun d' e=>by cases e;exact hv) (xF _ _))
theorem zA(h:∀v W,Below w0.heap.size w0 W->(fct G x).p v W->(G d).p v W:=by exact fun _ _ _ h=>h):qO F m P w0 ops G ⟨some d,.move x,ty,pos,aft,none⟩:=
 qG (fun _ e=>by cases e) (fun _ e=>by cases e) fun b W hb I=>⟨_,rfl,h _ _ hb (I x (by simp[Op.operands]))⟩
theorem zE(h:∀v W,Below w0.heap.size w0 W->(fct G x).p v W->(G d).p v W:=by exact fun _ _ _ h=>h):qO F m P w0 ops G ⟨some d,.assign x,ty,pos,aft,none⟩:=
 qG (fun _ e=>by cases e) (fun _ e=>by cases e) fun b W hb I=>⟨_,rfl,h _ _ hb (I x (by simp[Op.operands]))⟩
def Mem(W:WB)(b o:Nat)(cs:List WE):Prop:=∀j u,cs[j]?=some u->W.cell? ⟨b,o+j,none⟩=some u
theorem Mem.below{o:Nat}(h:Mem W b o cs)(hb:Below W.heap.size W W'):Mem W' b o cs:=fun j u J=>by
 have I:=h j u J
 exact(hb.cell (p:=⟨b,o+j,none⟩) (xJ W _ I)).trans I
theorem Mem.drop{o:Nat}(h:Mem W b o cs)(k:Nat):Mem W b (o+k) (cs.drop k):=fun j u I=>by
 rw[uW]at I
 rw[uS]
 exact h (k+j) u I
structure CF where
 p:List WE->WB->Prop
 st:∀cs w w',p cs w->Below w.heap.size w w'->p cs w'
def wD(C:CF):SF:=⟨fun v W=>∃b o cs,v=.pointer (some ⟨b,o,none⟩)/\C.p cs W/\Mem W b o cs,fun _ _ _ ⟨b,o,cs,h1,h2,h3⟩ hb=>⟨b,o,cs,h1,C.st _ _ _ h2 hb,h3.below hb⟩⟩
theorem zAw{C:CF}(J:∀v W,(fct G x).p v W->(wD C).p v W:=by first|exact fun _ _ h=>h|exact fun _ _ h=>h.2)(h:∀v W,(wD C).p v W->(G d).p v W:=by exact fun _ _ h=>h):qO F m P w0 ops G ⟨some d,.nilCheck x,ty,pos,aft,none⟩:=
 qG (fun _ e=>by cases e) (fun _ e=>by cases e) fun b W hb O=>by
  have I:=J _ _ (O x (by simp[Op.operands]))
  obtain⟨_,_,cs,e,_⟩:=id I
  exact⟨b.eval x,by simp[execOp,e],h _ _ I⟩
def zDx(P:WH)(s:WF)(f:Nat):Option Nat:=match P.underlying s with
 | some (.struct fs)=>match fs[f]? with
  |some f=>match P.info? f.type with
   |some i=>if i.size=0 then none else some f.offset
   |none=>none
  |none=>none
 |_=>none
theorem zKZ{s:WF}{f:Nat}{C C':CF}(k:Nat)(I:zDx P s f=some k)(U:∀v W,(fct G x).p v W->(wD C).p v W)(h:∀cs W,C.p cs W->C'.p (cs.drop k) W)(hd:∀v W,(wD C').p v W->(G d).p v W:=by exact fun _ _ h=>h):qO F m P w0 ops G ⟨some d,.fieldAddr s x f,ty,pos,aft,none⟩:=
 qG (fun _ e=>by cases e) (fun _ e=>by cases e) fun b W hb O=>by
  obtain⟨a,q,cs,e,h2,h3⟩:=U _ _ (O x (by simp[Op.operands]))
  refine⟨.pointer (some ⟨a,q+k,none⟩),?_,hd _ _ ⟨_,_,_,rfl,h _ _ h2,h3.drop k⟩⟩
  unfold zDx at I
  split at I<;>try cases I
  rename_i fs hu
  split at I<;>try cases I
  rename_i f' J
  split at I<;>try cases I
  rename_i i hi
  split at I<;>try cases I
  rename_i hz
  simp[execOp,Instr.fieldAt,bK hu,J,e,Instr.sureAddr,fieldPlace,sizeOf,typeInfo,hi,hz,xH]
def zAf(P:WH)(t:WF):Option Nat:=match P.underlying t with
 |some (.struct _)|some (.array _ _)=>(P.info? t).map (·.size)
 |_=>none
def zDM(P:WH)(t:WF):Bool:=match P.underlying t with
 |some (.struct _)|some (.array _ _)|none=>false
 |_=>true
theorem zD0(h:zAf P t=some k)(W:WB):(isAgg t).run P W=.ok true W/\∃i,P.info? t=some i/\i.size=k:=by
 unfold zAf at h
 split at h<;>try cases h
 all_goals
  rename_i I
  cases hi:P.info? t with
  |none=>rw[hi]at h;cases h
  |some i=>rw[hi]at h;cases h;exact⟨by simp[isAgg,bK I],i,rfl,rfl⟩
theorem zEV(h:zDM P t=true)(W:WB):(isAgg t).run P W=.ok false W:=by
 unfold zDM at h
 split at h<;>try cases h
 rename_i h1 h2 h3
 cases hu:P.underlying t with
 |none=>exact absurd hu h3
 |some d=>cases d<;>simp_all[isAgg,bK hu]
theorem zAu(h:zAf P t=some k){a q:Nat}{cs:List WE}{W:WB}(hc:Mem W a q cs)(U:k<=cs.length):(loadVar t ⟨a,q,none⟩).run P W=.ok (.agg (cs.take k).toArray) W:=by
 obtain⟨J,i,hi,O⟩:=zD0 h W
 have h2:=run_loadCells_list (P:=P) W ⟨a,q,none⟩ (cs.take k) (fun j v I=>by rw[xH];exact hc j v (by
  rw[uT]at I
  split at I
  .exact I
  .cases I))
 rw[uD,uQ U]at h2
 simp[loadVar,J,sizeOf,typeInfo,hi,O,h2]
theorem zBq(h:zDM P t=true){a q:Nat}{cs:List WE}{W:WB}(J:Mem W a q cs){u:WE}(I:cs[0]?=some u):(loadVar t ⟨a,q,none⟩).run P W=.ok u W:=by
 have O:=J 0 u I
 have h2:W.cell? ⟨a,q,none⟩=some u:=O
 simp[loadVar,zEV h W,h2]
theorem zKY{C:CF}(k:Nat)(J:zAf P t=some k)(O:∀v W,(fct G x).p v W->(wD C).p v W)(h:∀cs W,C.p cs W->k<=cs.length/\(G d).p (.agg (cs.take k).toArray) W):qO F m P w0 ops G ⟨some d,.load t x,ty,pos,aft,none⟩:=
 qG (fun _ e=>by cases e) (fun _ e=>by cases e) fun b W hb I=>by
  obtain⟨a,q,cs,e,h2,h3⟩:=O _ _ (I x (by simp[Op.operands]))
  obtain⟨U,h5⟩:=h cs W h2
  exact⟨_,by simp[execOp,Instr.loadAt,e,Instr.sureAddr,zAu J h3 U],h5⟩
theorem qB{C:CF}(J:zDM P t=true)(O:∀v W,(fct G x).p v W->(wD C).p v W)(h:∀cs W,C.p cs W->∃u,cs[0]?=some u/\(G d).p u W):qO F m P w0 ops G ⟨some d,.load t x,ty,pos,aft,none⟩:=
 qG (fun _ e=>by cases e) (fun _ e=>by cases e) fun b W hb I=>by
  obtain⟨a,q,cs,e,h2,h3⟩:=O _ _ (I x (by simp[Op.operands]))
  obtain⟨u,U,h5⟩:=h cs W h2
  exact⟨_,by simp[execOp,Instr.loadAt,e,Instr.sureAddr,zBq J h3 U],h5⟩
theorem zNL(hd:∀c,op≠ .defer c)(hc:∀c,op≠ .call c)
  (h:∀(b:Act) (W:WB),Below w0.heap.size w0 W->(∀x,x∈op.operands.toList->(fct G x).p (b.eval x) W)->∃v o,(execOp b.eval ⟨some d,op,ty,pos,aft,none⟩).run P W=.ok (.value v) (W.alloc o)/\(G d).p v (W.alloc o)):
  qO F m P w0 ops G ⟨some d,op,ty,pos,aft,none⟩:=by
 intro b W K Q hb O J
 obtain⟨v,o,I,hv⟩:=h b W hb fun x U=>qA O U
 exact zCd hd hc I (J v _ (fun d' e=>by cases e;exact hv) ((xF _ _).alloc (vP _) _))
theorem zBt(W:WB)(cs:Array WE)(t:WF):Mem (W.alloc (.cells cs t)) W.heap.size 0 cs.toList:=fun j u I=>by
 have J:(W.alloc (.cells cs t)).heap[W.heap.size]?=some (.cells cs t):=cO W _
 unfold World.cell?
 rw[J]
 simp only[uL,xN,xK,xI]
 simpa using I
theorem zCO(W:WB)(o:Obj):Below W.heap.size W (W.alloc o):=(xF _ _).alloc (vP _) _
def zeroCells(P:WH)(t:WF):Option (List WE):=((P.info? t).bind (·.zero)).map (·.cells.toList)
def SF.own(w0:WB)(t:WF)(cs:List WE):SF:=⟨fun v W=>∃b,v=.pointer (some ⟨b,0,none⟩)/\w0.heap.size<=b/\W.heap[b]?=some (.cells cs.toArray t (0,0)),fun _ _ _ ⟨b,h1,h2,h3⟩ hb=>⟨b,h1,h2,(hb.block b (xP.1 h3).1).trans h3⟩⟩
theorem zCH(hz:zeroCells P e=some cs)(I:∀v W,(SF.own w0 e cs).p v W->(G d).p v W:=by exact fun _ _ h=>h):qO F m P w0 ops G ⟨some d,.alloc e,ty,pos,aft,none⟩:=
 zNL (fun _ e=>by cases e) (fun _ e=>by cases e) fun b W hb hh=>by
  unfold zeroCells at hz
  cases hi:P.info? e with
  |none=>rw[hi]at hz;cases hz
  | some i=>
   rw[hi]at hz
   simp only[mF]at hz
   cases hzz:i.zero with
   |none=>rw[hzz]at hz;cases hz
   | some z=>
    rw[hzz]at hz
    simp only[mB,lY]at hz
    subst hz
    refine⟨.pointer (some ⟨W.heap.size,0,none⟩),.cells z.cells e,?_,I _ _ ⟨W.heap.size,rfl,hb.size,?_⟩⟩
    .simp[execOp,Instr.alloc,zeroValue,typeInfo,hi,hzz,newVar,newRow]
    .have:=cO W (.cells z.cells e)
     simpa using this
def wZ(A B:SF):SF:=⟨fun v W=>∃x y,v=.tuple #[x,y]/\A.p x W/\B.p y W,fun _ _ _ ⟨x,y,h1,h2,h3⟩ hb=>⟨x,y,h1,A.st _ _ _ h2 hb,B.st _ _ _ h3 hb⟩⟩
def wY(A B C:SF):SF:=⟨fun v W=>∃x y z,v=.tuple #[x,y,z]/\A.p x W/\B.p y W/\C.p z W,fun _ _ _ ⟨x,y,z,h1,h2,h3,h4⟩ hb=>⟨x,y,z,h1,A.st _ _ _ h2 hb,B.st _ _ _ h3 hb,C.st _ _ _ h4 hb⟩⟩
theorem zIO(h:∀v W,(fct G x).p v W->∃vs u,v=.tuple vs/\vs[i]?=some u/\(G d).p u W):qO F m P w0 ops G ⟨some d,.extract x i,ty,pos,aft,none⟩:=
 qG (fun _ e=>by cases e) (fun _ e=>by cases e) fun b W hb J=>by
  obtain⟨vs,u,e,I,h2⟩:=h _ _ (J x (by simp[Op.operands]))
  exact⟨u,by simp[execOp,Instr.extract,e,I],h2⟩
theorem zBR(J:∀v W,(fct G x).p v W->(wZ A B).p v W)(I:∀v W,A.p v W->(G d).p v W:=by exact fun _ _ h=>h):qO F m P w0 ops G ⟨some d,.extract x 0,ty,pos,aft,none⟩:=
 zIO fun v W h=>let⟨a,_,e,h1,_⟩:=J v W h;⟨_,a,e,rfl,I _ _ h1⟩
theorem zBQ(J:∀v W,(fct G x).p v W->(wZ A B).p v W)(I:∀v W,B.p v W->(G d).p v W:=by exact fun _ _ h=>h):qO F m P w0 ops G ⟨some d,.extract x 1,ty,pos,aft,none⟩:=
 zIO fun v W h=>let⟨_,b,e,_,h1⟩:=J v W h;⟨_,b,e,rfl,I _ _ h1⟩
theorem zFb(J:∀v W,(fct G x).p v W->(wY A B C).p v W)(I:∀v W,A.p v W->(G d).p v W:=by exact fun _ _ h=>h):qO F m P w0 ops G ⟨some d,.extract x 0,ty,pos,aft,none⟩:=
 zIO fun v W h=>let⟨a,_,_,e,h1,_⟩:=J v W h;⟨_,a,e,rfl,I _ _ h1⟩
theorem zFa(J:∀v W,(fct G x).p v W->(wY A B C).p v W)(I:∀v W,B.p v W->(G d).p v W:=by exact fun _ _ h=>h):qO F m P w0 ops G ⟨some d,.extract x 1,ty,pos,aft,none⟩:=
 zIO fun v W h=>let⟨_,b,_,e,_,h1,_⟩:=J v W h;⟨_,b,e,rfl,I _ _ h1⟩
theorem zE9(J:∀v W,(fct G x).p v W->(wY A B C).p v W)(I:∀v W,C.p v W->(G d).p v W:=by exact fun _ _ h=>h):qO F m P w0 ops G ⟨some d,.extract x 2,ty,pos,aft,none⟩:=
 zIO fun v W h=>let⟨_,_,c,e,_,_,h1⟩:=J v W h;⟨_,c,e,rfl,I _ _ h1⟩
theorem zHx{parts:Array (Nat×WL)}(h:∀(b:Act) (W:WB),Below w0.heap.size w0 W->(∀x,x∈parts.toList.map (·.2)->(fct G x).p (b.eval x) W)->∃cells,P.built t (parts.map fun(i,x)=>(i,b.eval x)).toList=some cells/\(G d).p (.agg cells) W):qO F m P w0 ops G ⟨some d,.build t parts,ty,pos,aft,none⟩:=
 qG (fun _ e=>by cases e) (fun _ e=>by cases e) fun b W hb O=>by
  obtain⟨cells,J,h2⟩:=h b W hb fun x I=>O x (by simpa[Op.operands]using I)
  exact⟨_,by simp only[execOp,cD,run_build W t _ cells J,cL,cF],h2⟩
theorem jF(h:∀u v W,(fct G x).p u W->(fct G y).p v W->∃cells,P.built t [(i,u),(j,v)]=some cells/\(G d).p (.agg cells) W):qO F m P w0 ops G ⟨some d,.build t #[(i,x),(j,y)],ty,pos,aft,none⟩:=
 zHx fun b W hb I=>by
  obtain⟨cells,J,h2⟩:=h _ _ W (I x fC) (I y fC)
  exact⟨cells,by simpa using J,h2⟩
theorem zFV(h:∀u W,(fct G x).p u W->∃cells,P.built t [(i,u)]=some cells/\(G d).p (.agg cells) W):qO F m P w0 ops G ⟨some d,.build t #[(i,x)],ty,pos,aft,none⟩:=
 zHx fun b W hb J=>by
  obtain⟨cells,I,h2⟩:=h _ W (J x fC)
  exact⟨cells,by simpa using I,h2⟩
def yD(P:WH)(t:WF)(len:Nat)(parts:List (Nat×WE)):Option (WF×Array WE):=match P.underlying t with
 | some (.slice e)=>match P.info? e with
  |some ie=>match ie.zero with
   |some z=>if len*ie.size>2^24∨len*ie.size=0 then none else(Instr.fill (fun i=>some (i*ie.size,ie.size)) ((Array.range (len*ie.size)).map (z.cells[· % z.cells.size]!)) parts).map fun cs=>(e,cs)
   |none=>none
  |none=>none
 |_=>none
theorem zIp{len:Nat}{parts:Array (Nat×WE)}{cs:Array WE}(h:yD P t len parts.toList=some (e,cs))(W:WB):(Instr.buildSlice t len parts).run P W=.ok (.slice (some ⟨W.heap.size,0,none⟩) len len) (W.alloc (.cells cs e)):=by
 unfold yD at h
 split at h<;>try cases h
 rename_i e' J
 split at h<;>try cases h
 rename_i ie hi
 split at h<;>try cases h
 rename_i z O
 split at h<;>try cases h
 rename_i I
 simp only[lZ]at h
 obtain⟨cs',U,h2⟩:=h
 cases h2
 exact run_buildSlice W t _ len parts cs ie z J hi O (fun h=>I (.inl h)) (fun h=>I (.inr h)) U
theorem zDs{len:Nat}{parts:Array (Nat×WL)}(h:∀(b:Act) (W:WB),Below w0.heap.size w0 W->(∀x,x∈parts.toList.map (·.2)->(fct G x).p (b.eval x) W)->∃e cs,yD P t len (parts.map fun(i,x)=>(i,b.eval x)).toList=some (e,cs)/\(G d).p (.slice (some ⟨W.heap.size,0,none⟩) len len) (W.alloc (.cells cs e))):qO F m P w0 ops G ⟨some d,.buildSlice t len parts,ty,pos,aft,none⟩:=
 zNL (fun _ e=>by cases e) (fun _ e=>by cases e) fun b W hb O=>by
  obtain⟨e,cs,J,h2⟩:=h b W hb fun x I=>O x (by simpa[Op.operands]using I)
  exact⟨_,_,by simp only[execOp,cD,zIp J W,cL,cF],h2⟩
theorem jX(h:∀u W,(fct G x).p u W->∃e cs,yD P t 1 [(0,u)]=some (e,cs)/\(G d).p (.slice (some ⟨W.heap.size,0,none⟩) 1 1) (W.alloc (.cells cs e))):qO F m P w0 ops G ⟨some d,.buildSlice t 1 #[(0,x)],ty,pos,aft,none⟩:=
 zDs fun b W hb J=>by
  obtain⟨e,cs,I,h2⟩:=h _ W (J x fC)
  exact⟨e,cs,by simpa using I,h2⟩
theorem yH(h:∀u v W,(fct G x).p u W->(fct G y).p v W->∃e cs,yD P t 2 [(0,u),(1,v)]=some (e,cs)/\(G d).p (.slice (some ⟨W.heap.size,0,none⟩) 2 2) (W.alloc (.cells cs e))):qO F m P w0 ops G ⟨some d,.buildSlice t 2 #[(0,x),(1,y)],ty,pos,aft,none⟩:=
 zDs fun b W hb I=>by
  obtain⟨e,cs,J,h2⟩:=h _ _ W (I x fC) (I y fC)
  exact⟨e,cs,by simpa using J,h2⟩
theorem zNI(h:∀u v q W,(fct G x).p u W->(fct G y).p v W->(fct G z).p q W->∃e cs,yD P t 3 [(0,u),(1,v),(2,q)]=some (e,cs)/\(G d).p (.slice (some ⟨W.heap.size,0,none⟩) 3 3) (W.alloc (.cells cs e))):qO F m P w0 ops G ⟨some d,.buildSlice t 3 #[(0,x),(1,y),(2,z)],ty,pos,aft,none⟩:=
 zDs fun b W hb I=>by
  obtain⟨e,cs,J,h2⟩:=h _ _ _ W (I x fC) (I y fC) (I z fC)
  exact⟨e,cs,by simpa using J,h2⟩
def Ret(W:WB)(f:SF):Ending->WB->Prop:=fun e W'=>∃v,e=.returned v/\f.p v W'/\Below W.heap.size W W'
def zJh(F:Fence)(m:Nat)(P:WH):Prop:=(∀f,F.fn f)/\(F.depth.isSome=true->1<=m)/\∀f args w R,Calls P f args w R->CallsIn F (m-1) P f args w R
theorem zC:zJh Fence.wide m P:=⟨fun _=>trivial,fun h=>(by cases h),fun _ _ _ _ h=>xZ.2 h⟩
theorem zDh{l:Nat}:zJh (Fence.wide.inRound l) m P:=⟨fun _=>trivial,fun h=>(by cases h),fun _ _ _ _ h=>xZ.2 h⟩
theorem zD7(hF:zJh F m P)(I:Enters P f)
  (h:∀(b:Act) (W:WB),Below w0.heap.size w0 W->(∀x,x∈xs.toList->(fct G x).p (b.eval x) W)->Calls P f (xs.map b.eval) W (Ret W (G d))):
  qO F m P w0 ops G ⟨some d,.call ⟨.value (.func f),xs,ats⟩,ty,pos,aft,none⟩:=by
 intro b W K Q hb U J
 have O:=h b W hb fun x hx=>qA U (x:=x) (by simp[Op.operands,Call.operands];right;simpa using hx)
 refine⟨fun g _=>hF.1 g,?_⟩
 rw[bI _ _ _ (fun _ e=>by cases e),execOp_call_go]
 rw[I]
 simp only[mD]
 refine⟨hF.2.1,bG (hF.2.2 _ _ _ (Ret W (G d)) ?_) fun e W' I=>?_⟩
 .simpa using O
 .obtain⟨v,rfl,hv,hb'⟩:=I
  exact J v W' (fun d' e=>by cases e;exact hv) hb'
theorem zFc(hF:zJh F m P)(I:Enters P f)(h:∀W,Below w0.heap.size w0 W->Calls P f #[] W (Ret W (G d))):qO F m P w0 ops G ⟨some d,.call ⟨.value (.func f),#[],ats⟩,ty,pos,aft,none⟩:=
 zD7 hF I fun b W hb _=>by simpa using h W hb
theorem zG(hF:zJh F m P)(I:Enters P f)(h:∀u W,Below w0.heap.size w0 W->(fct G x).p u W->Calls P f #[u] W (Ret W (G d))):qO F m P w0 ops G ⟨some d,.call ⟨.value (.func f),#[x],ats⟩,ty,pos,aft,none⟩:=
 zD7 hF I fun b W hb J=>by simpa using h _ W hb (J x fC)
theorem zI(hF:zJh F m P)(J:Enters P f)(h:∀u v W,Below w0.heap.size w0 W->(fct G x).p u W->(fct G y).p v W->Calls P f #[u,v] W (Ret W (G d))):qO F m P w0 ops G ⟨some d,.call ⟨.value (.func f),#[x,y],ats⟩,ty,pos,aft,none⟩:=
 zD7 hF J fun b W hb I=>by simpa using h _ _ W hb (I x fC) (I y fC)
theorem zBc(hF:zJh F m P)(J:Enters P f)(h:∀u v q W,Below w0.heap.size w0 W->(fct G x).p u W->(fct G y).p v W->(fct G z).p q W->Calls P f #[u,v,q] W (Ret W (G d))):qO F m P w0 ops G ⟨some d,.call ⟨.value (.func f),#[x,y,z],ats⟩,ty,pos,aft,none⟩:=
 zD7 hF J fun b W hb I=>by simpa using h _ _ _ W hb (I x fC) (I y fC) (I z fC)
theorem zF{want:Bool}(g:Nat)(I:Bool)(J:zT ops j=some g)(O:∀v W,(G g).p v W->v=.bool I)(h1:I=want->qO F m P w0 ops G ⟨some d,op,ty,pos,aft,none⟩)(h2:I≠want->∀W,(G d).p undef W)
  (h3:I≠want->∀W ρ f,(⟨some d,op,ty,pos,aft,none⟩:Oper).about P W ρ=some f->F.fn f:=by first|exact fun e=>absurd rfl e|exact fun _ _ _ _ h=>by cases h|exact fun _ _ _ _ _=>trivial):qO F m P w0 ops G ⟨some d,op,ty,pos,aft,some (j,want)⟩:=
 ⟨g,I,J,O,h1,fun e=>⟨fun d' U W=>by cases U;exact h2 e W,h3 e⟩⟩
theorem yS{c:WL}(I:Bool)(O:∀v W,(fct G c).p v W->v=.bool I)(h1:I=true->∀v W,(fct G x).p v W->(G d).p v W)(h2:I=false->∀v W,(fct G y).p v W->(G d).p v W):qO F m P w0 ops G ⟨some d,.pick c x y,ty,pos,aft,none⟩:=
 qG (fun _ e=>by cases e) (fun _ e=>by cases e) fun b W hb J=>by
  have e:=O _ _ (J c (by simp[Op.operands]))
  cases I with
  |true=>exact⟨_,by simp[execOp,e,asBool],h1 rfl _ _ (J x (by simp[Op.operands]))⟩
  |false=>exact⟨_,by simp[execOp,e,asBool],h2 rfl _ _ (J y (by simp[Op.operands]))⟩
theorem zDB(I:Bool)(O:∀v W,(fct G x).p v W->v=.bool I)(J:∀W,(G d).p (.bool (!I)) W):qO F m P w0 ops G ⟨some d,.unOp .not t x,ty,pos,aft,none⟩:=
 qG (fun _ e=>by cases e) (fun _ e=>by cases e) fun b W hb U=>by
  have e:=O _ _ (U x (by simp[Op.operands]))
  exact⟨_,by simp[execOp,e,Op.unary],J W⟩
theorem zD8{op:BinOp}{t':WF}(u v r:WE)(O:∀q W,(fct G x).p q W->q=u)(hy:∀q W,(fct G y).p q W->q=v)(U:∀W,(eqGuard op t x y u v).run P W=.ok () W)(J:∀W,(binOp op t u v).run P W=.ok r W)(hd:∀W,(G d).p r W):qO F m P w0 ops G ⟨some d,.binOp op t x y t',ty,pos,aft,none⟩:=
 qG (fun _ e=>by cases e) (fun _ e=>by cases e) fun b W hb I=>by
  have e1:=O _ _ (I x (by simp[Op.operands]))
  have e2:=hy _ _ (I y (by simp[Op.operands]))
  exact⟨r,by simp[execOp,e1,e2,U,J],hd W⟩
end
def zUy:Nat->SF:=fun _=>SF.any
def zMd:Nat->List SF->List (Nat×SF)
 |_, []=> []
 |k,f::l=>(k,f)::zMd (k+1) l
def zGa(w:WB):List SF->List WE->Prop
 | [],_=>True
 |f::l,v::vs=>f.p v w/\zGa w l vs
 |_::_, []=>False
theorem zOT{w:WB}:∀(l:List SF) (vs:List WE) (k t:Nat),zGa w l vs->∀u,(∀j,k+j=t->u=vs.getD j undef)->(upd zUy (zMd k l) t).p u w
 | [],_,_,_,_,_,_=>trivial
 |f::l, [],_,_,h,_,_=>h.elim
 | f::l,v::vs,k,t,h,u,hu=>by
  show(bif Nat.beq k t then f else upd zUy (zMd (k+1) l) t).p u w
  cases e:Nat.beq k t with
  |true=>
   have:=cJ e
   rw[hu 0 oA]
   exact h.1
  |false=>
   refine zOT l vs (k+1) t h.2 u fun j hj=>?_
   rw[hu (j+1) oA]
   rfl
structure UF extends tS:SF where
 us:∀v w w',p v w->(∀q x,w.cell? q=some (.int .u32 x)->w'.cell? q=some (.int .u32 x))->p v w'
theorem zRa(l:List SF)(J:Nat.ble args.size fn.ntmps=true)(O:zGa w l args.toList):At w (upd zUy (zMd 0 l)) fn.ntmps [] { tmps:=args++Array.replicate (fn.ntmps-args.size) undef,defers:=[] } w:=by
 have J:=mG J
 refine⟨xF _ _,by simp;omega,rfl,fun t=>?_⟩
 by_cases ht:t<args.toList.length
 .refine zOT l _ 0 t O _ fun j hj=>?_
  obtain rfl:j=t:=by omega
  have ht':j<args.size:=by simpa using ht
  simp[Array.getElem?_append,ht',List.getD]
 .have:∀(l:List SF) (vs:List WE) (k:Nat),zGa w l vs->k+vs.length<=t->upd zUy (zMd k l) t=SF.any:=by
   intro l
   induction l with
   |nil=>intro vs k _ _;rfl
   | cons f l ih=>
    intro vs k h U
    cases vs with
    |nil=>exact h.elim
    | cons v vs=>
     simp only[lW]at U
     have I:Nat.beq k t=false:=by
      cases e:Nat.beq k t with
      |false=>rfl
      |true=>have:=cJ e;omega
     show(bif Nat.beq k t then f else upd zUy (zMd (k+1) l) t)=_
     rw[I]
     exact ih vs (k+1) h.2 oA
  rw[this l args.toList 0 O oA]
  trivial
section
variable {F:Fence}{m:Nat}{P:WH}{Q:Exit->Act->WB->Prop}{w0:WB}{G:Nat->SF}{n:Nat}{ds:List Deferred}{a:Act}{w:WB}
theorem zYu{c:Code}(N:Nat)(i:Nat)(I:Nat->Nat->SF)(hi:∀k v W,(I k i).p v W->v=.int .i64 (k:Int))(h0:At w0 (I 0) n ds a w)
  (round:∀k a w,k<=N->At w0 (I k) n ds a w->c.wpIn F m P (Exit.then (fun a' w'=>k<N/\At w0 (I (k+1)) n ds a' w') Q) a w):(Code.loop c).wpIn F m P Q a w:=by
 refine wpIn_loop (fun a w=>∃k,k<=N/\At w0 (I k) n ds a w) (fun a _=>N+1-(match a.tmps.getD i undef with| .int _ z=>z.toNat|_=>0)) ⟨0,vR _,h0⟩ ?_
 rintro a w ⟨k,U,J⟩
 refine eB ?_ (round k a w U J)
 intro e a' w' h
 cases e with
 |normal=>
  obtain⟨O,h2⟩:k<N/\At w0 (I (k+1)) n ds a' w':=h
  refine⟨⟨k+1,O,h2⟩,?_⟩
  have e1:=hi _ _ _ (J.sl i)
  have e2:=hi _ _ _ (h2.sl i)
  simp only[e1,e2,Int.toNat_natCast]
  have h3:N+1-(k+1)<N+1-k:=by omega
  exact h3
 |_=>exact h
def y9(w w':WB):Prop:=∀p x,w.cell? p=some (.int .u32 x)->w'.cell? p=some (.int .u32 x)
theorem y9.trans{u v:WB}(h:y9 u v)(k:y9 v w):y9 u w:=fun p x I=>k p x (h p x I)
theorem Rd.keepU{A:Option Addr}{l:List Nat}(h:Rd w A n c l)(I:y9 w w'):Rd w' A n c l:=
 ⟨h.len,h.le,h.cap,h.nil,fun i hi=>let⟨b,o,e,hc⟩:=h.cells i hi;⟨b,o,e,I _ _ hc⟩⟩
def zX:WE->Bool
 | .int .u32 _=>false
 |_=>true
theorem zB9{cs:Array WE}(hb:w.heap[b]?=some (.cells cs t (0,0)))(J:cs.all zX=true):y9 w (w.setRow b vs):=fun p x I=>by
 rw[cell_setRow_other]
 .exact I
 .intro e
  have O:w.cell? p=if p.spot.isSome then none else cs[p.off]?:=by
   unfold World.cell?
   rw[e,hb]
  rw[O]at I
  split at I
  .cases I
  .have:=eV.1 J _ (eZ I)
   cases this
theorem zHa(J:zAf P t=some k){cs vs:List WE}(O:vs.length=k)(hc:cs.length=k)(h1:∀u,u∈vs->u.oneCell'=true)(hb:w.heap[b]?=some (.cells cs.toArray t (0,0))):
  (storeVar t ⟨b,0,none⟩ (.agg vs.toArray)).run P w=.ok () (w.setRow b vs.toArray):=by
 obtain⟨_,i,hi,I⟩:=zD0 J w
 have:=run_storeCells_from (P:=P) b t vs 0 cs.toArray w hb (by simp;omega) h1
 simp only[mH,lT]at this
 simp[storeVar,sizeOf,typeInfo,hi,I,Value.cells,O,this]
theorem zKS(O:zAf P t=some k)(J:te=t)(hc:cs.length=k)
  {b:Nat}{vs:List WE}(hp:a.tmps.getD c undef=.pointer (some ⟨b,0,none⟩))(hb:w.heap[b]?=some (.cells cs.toArray te (0,0)))(hx:a.eval x=.agg vs.toArray)(hl:vs.length=k)(h1:∀u,u∈vs->u.oneCell'=true)
  (hK:K a (w.setRow b vs.toArray)):(⟨none,.store t (.tmp c) x,ty,pos,aft,none⟩:Oper).wpIn F m P a w K Q:=by
 subst J
 refine⟨fun f U=>(by cases U),?_⟩
 rw[bI _ _ _ (fun _ e=>by cases e)]
 have:(execOp a.eval ⟨none,.store te (.tmp c) x,ty,pos,aft,none⟩).run P w=.ok .skip (w.setRow b vs.toArray):=by
  have I:a.eval (.tmp c)=.pointer (some ⟨b,0,none⟩):=hp
  simp[execOp,I,hx,Instr.storeAt,Instr.sureAddr,zHa O hl hc h1 hb]
 rw[this]
 exact hK
theorem zMc(h:Below w0.heap.size w0 w)(hb:w0.heap.size<=b):Below w0.heap.size w0 (w.setRow b vs):=
 ⟨h.os,h.tape,h.output,by rw[size_setRow];exact h.size,fun k I=>(mI w b k vs oA).trans (h.block k I)⟩
theorem zHc(I:zAf P t=some k){b:Nat}{te:WF}{vs:List WE}(hl:vs.length=k)(hb:w.heap[b]?=some (.cells vs.toArray te (0,0))):(loadVar t ⟨b,0,none⟩).run P w=.ok (.agg vs.toArray) w:=by
 have J:Mem w b 0 vs:=fun j u O=>by
  unfold World.cell?
  rw[hb]
  simpa using O
 have:=zAu I J oA
 rwa [lS oA]at this
end
theorem zO(hb:Below w.heap.size w w'):y9 w w':=fun q _x I=>(hb.cell (p:=q) (xJ w _ I)).trans I
def UF.mk'(p:WE->WB->Prop)(us:∀v w w',p v w->y9 w w'->p v w'):UF:=⟨⟨p,fun v w w' h hb=>us v w w' h (zO hb)⟩,us⟩
def UF.any:UF:=.mk' (fun _ _=>True) fun _ _ _ _ _=>trivial
def UF.eq(u:WE):UF:=.mk' (fun v _=>v=u) fun _ _ _ h _=>h
abbrev uI(z:Int):UF:=UF.eq (.int .i64 z)
abbrev uB(b:Bool):UF:=UF.eq (.bool b)
def zBC(A B:UF):UF:=.mk' (wZ A.tS B.tS).p fun _ _ _ ⟨x,y,h1,h2,h3⟩ k=>⟨x,y,h1,A.us _ _ _ h2 k,B.us _ _ _ h3 k⟩
def zGh(A B C:UF):UF:=.mk' (wY A.tS B.tS C.tS).p fun _ _ _ ⟨x,y,z,h1,h2,h3,h4⟩ k=>⟨x,y,z,h1,A.us _ _ _ h2 k,B.us _ _ _ h3 k,C.us _ _ _ h4 k⟩
inductive KF where
 |u (f:UF)
 |o (f:SF)
def KF.sf:KF->SF
 | .u f=>f.tS
 | .o f=>f
def KF.p(w0:WB):KF->WE->WB->Prop
 | .u f,v,w=>f.p v w
 | .o f,v,_=>f.p v w0
theorem KF.us{w0:WB}{k:KF}{v:WE}{w w':WB}(h:k.p w0 v w)(I:y9 w w'):k.p w0 v w':=by
 cases k with
 |u f=>exact f.us _ _ _ h I
 |o f=>exact h
theorem vO{k:KF}(h:k.p w0 v w)(hb:Below w0.heap.size w0 w):k.sf.p v w:=by
 cases k with
 |u f=>exact h
 |o f=>exact f.st _ _ _ h hb
structure CU where
 p:List WE->WB->Prop
 us:∀cs w w',p cs w->y9 w w'->p cs w'
def CU.cf(C:CU):CF:=⟨C.p,fun cs w w' h hb=>C.us cs w w' h (zO hb)⟩
def CU.agg(f:UF):CU:=⟨fun cs w=>f.p (.agg cs.toArray) w,fun _ _ _ h k=>f.us _ _ _ h k⟩
abbrev bW(w w9:WB):Prop:=Below w.heap.size w w9
abbrev ltz(a b:Nat):Bool:=decide ((a:Int)<(b:Int))
abbrev sN:WE:=.slice none 0 0
abbrev cg(f:UF):CF:=(CU.agg f).cf
def CU.len(k:Nat):CU:=⟨fun cs _=>cs.length=k,fun _ _ _ h _=>h⟩
structure Bx where
 t:Nat
 e:WF
 c:CU
 b:Nat
 r:Bool
def yP(S:Nat->Prop)(w0:WB)(a:Act)(w:WB):List Bx->Prop
 | []=>True
 |x::B=>(∃cs:List WE,a.tmps.getD x.t undef=.pointer (some ⟨x.b,0,none⟩)/\(x.r=true∨w0.heap.size<=x.b∨S x.b)/\w.heap[x.b]?=some (.cells cs.toArray x.e (0,0))/\x.c.p cs w/\cs.all zX=true/\∀y,y∈B->y.b≠x.b∨(x.r=true/\y.r=true))/\yP S w0 a w B
structure BlS(S:Nat->Prop)(w w':World):Prop where
 os:w'.os=w.os
 tape:w'.tape=w.tape
 output:w'.output=w.output
 size:w.heap.size<=w'.heap.size
 block:∀k,k<w.heap.size-> ¬S k->w'.heap[k]?=w.heap[k]?
def noS:Nat->Prop:=fun _=>False
theorem BlS.below(h:BlS noS w w'):bW w w':=⟨h.os,h.tape,h.output,h.size,fun k I=>h.block k I (fun x=>x)⟩
theorem BlS.trans{u:WB}(h:BlS S u w)(hb:bW w w'):BlS S u w':=⟨hb.os.trans h.os,hb.tape.trans h.tape,hb.output.trans h.output,xQ h.size hb.size,fun k I J=>(hb.block k (vU I h.size)).trans (h.block k I J)⟩
theorem BlS.refl(S:Nat->Prop)(w:WB):BlS S w w:=⟨rfl,rfl,rfl,vP _,fun _ _ _=>rfl⟩
theorem BlS.row{u:WB}(h:BlS S u w){b:Nat}(hb:u.heap.size<=b∨S b)(vs:Array WE):BlS S u (w.setRow b vs):=
 ⟨h.os,h.tape,h.output,by rw[size_setRow];exact h.size,fun k J I=>(mI w b k vs (fun e=>by subst e;rcases hb with hb|hb;omega;exact I hb)).trans (h.block k J I)⟩
theorem BlS.grown{u:WB}(h:BlS S u w){b:Nat}(I:w.grownBy w' (some b))(hb:u.heap.size<=b∨S b):BlS S u w':=
 ⟨I.os.trans h.os,I.tape.trans h.tape,I.output.trans h.output,xQ h.size I.size,fun k O J=>(I.block k (vU O h.size) (fun e=>by cases e;rcases hb with hb|hb;omega;exact J hb)).trans (h.block k O J)⟩
structure StS(S:Nat->Prop)(w0:World)(K:List (Nat×KF))(B:List Bx)(n:Nat)(ds:List Deferred)(a:Act)(w:World):Prop where
 gr:BlS S w0 w
 size:a.tmps.size=n
 nd:a.defers=ds
 sl:∀q,q∈K->q.2.p w0 (a.tmps.getD q.1 undef) w
 bx:yP S w0 a w B
 mks:∃Ds,Marks w0.heap.size w ds Ds
 so:(∀q,q∈K->∃f,q.2=.u f)∨ ∀k, ¬S k
abbrev St:=StS noS
theorem zAx(h:∃Ds,Marks w0.heap.size w ds Ds)(hb:bW w w'):∃Ds,Marks w0.heap.size w' ds Ds:=h.imp fun _ h=>h.keep fun k _ I _=>(hb.block k (xP.1 I).1).trans I
theorem zJN(h:∃Ds,Marks w0.heap.size w ds Ds){b:Nat}(O:w.grownBy w' (some b)){cs:Array WE}{t:WF}{z:Nat×Nat}(J:w.heap[b]?=some (.cells cs t z)):∃Ds,Marks w0.heap.size w' ds Ds:=h.imp fun _ h=>h.keep fun k o I U=>(O.block k (xP.1 I).1 (fun e=>by cases e;rw[J]at I;cases I;cases U)).trans I
inductive Rw where
 |u (f:UF)
 |s (f:SF)
abbrev pO(b o:Nat):WE:=.pointer (some ⟨b,o,none⟩)
abbrev Rw.Z(f:UF):Rw:=.s f.tS
def Rw.sf:Rw->SF
 | .u f=>f.tS
 | .s f=>f
def zK(L:List (Nat×Rw)):List (Nat×SF):=L.map fun q=>(q.1,q.2.sf)
def zA4:List (Nat×Rw)->List (Nat×KF)
 | []=> []
 |(t,.u f)::l=>(t,.u f)::zA4 l
 |(_,.s _)::l=>zA4 l
def wJ(b:Nat)(C:CF):SF:=⟨fun v W=>v= pO b 0/\(wD C).p v W,fun v W W' h hb=>⟨h.1,(wD C).st v W W' h.2 hb⟩⟩
def zXu:List (Nat×KF)->List (Nat×SF)
 | []=> []
 |q::l=>(q.1,q.2.sf)::zXu l
def zXv:List Bx->List (Nat×SF)
 | []=> []
 |x::l=>(x.t,wJ x.b x.c.cf)::zXv l
def jM(K:List (Nat×KF))(B:List Bx):Nat->SF:=upd (upd zUy (zXu K)) (zXv B)
theorem zFr{a:Act}{w:WB}{G:Nat->SF}(I:∀t,(G t).p (a.tmps.getD t undef) w):∀(l:List (Nat×SF)),(∀q,q∈l->q.2.p (a.tmps.getD q.1 undef) w)->∀t,(upd G l t).p (a.tmps.getD t undef) w
 | [],_,t=>I t
 | q::l,h,t=>by
  show(bif Nat.beq q.1 t then q.2 else upd G l t).p (a.tmps.getD t undef) w
  cases e:Nat.beq q.1 t with
  |true=>
   have:=cJ e
   rw[<-this]
   exact h q fC
  |false=>exact zFr I l (fun p J=>h p (by simp[J])) t
theorem zLb{q:Nat×SF}:∀{l:List (Nat×KF)},q∈zXu l->∃p,p∈l/\q=(p.1,p.2.sf)
 | [],h=>by cases h
 | p::l,h=>by
  rcases xS.1 h with rfl|h
  .exact⟨p,by simp,rfl⟩
  .obtain⟨r,I,h2⟩:=zLb h
   exact⟨r,by simp[I],h2⟩
theorem zLc{q:Nat×SF}:∀{l:List Bx},q∈zXv l->∃p,p∈l/\q=(p.t,wJ p.b p.c.cf)
 | [],h=>by cases h
 | p::l,h=>by
  rcases xS.1 h with rfl|h
  .exact⟨p,by simp,rfl⟩
  .obtain⟨r,I,h2⟩:=zLc h
   exact⟨r,by simp[I],h2⟩
theorem jO{q:Nat×KF}:∀{l:List (Nat×Rw)},q∈zA4 l->∃f,q.2=.u f/\(q.1,Rw.u f)∈l
 | [],h=>by cases h
 | (t,.u f)::l,h=>by
  rcases xS.1 h with rfl|h
  .exact⟨f,rfl,by simp⟩
  .obtain⟨g,I,h2⟩:=jO h
   exact⟨g,I,by simp[h2]⟩
 |(_,.s _)::l,h=>by
  obtain⟨g,I,h2⟩:=jO (l:=l) h
  exact⟨g,I,by simp[h2]⟩
theorem yP.mem{S:Nat->Prop}{w0:WB}{a:Act}{w:WB}:∀{B:List Bx},yP S w0 a w B->∀x,x∈B->∃cs:List WE,a.tmps.getD x.t undef= pO x.b 0/\(x.r=true∨w0.heap.size<=x.b∨S x.b)/\w.heap[x.b]?=some (.cells cs.toArray x.e (0,0))/\x.c.p cs w/\cs.all zX=true
 | [],_,_,h=>by cases h
 | y::B,h,x,I=>by
  rcases xS.1 I with rfl|I
  .obtain⟨cs,O,h2,h3,J,U,_⟩:=h.1
   exact⟨cs,O,h2,h3,J,U⟩
  .exact yP.mem h.2 x I
theorem zBd(h:w.heap[b]?=some (.cells cs.toArray t (0,0))):Mem w b 0 cs:=fun j u I=>by
 unfold World.cell?
 rw[h]
 simpa using I
section
variable {S:Nat->Prop}{F:Fence}{m:Nat}{P:WH}{Q:Exit->Act->WB->Prop}{w0:WB}{K:List (Nat×KF)}{B:List Bx}{n:Nat}{ds:List Deferred}{a:Act}{w:WB}
theorem StS.kn(h:StS S w0 K B n ds a w){q:Nat×KF}(J:q∈K):q.2.sf.p (a.tmps.getD q.1 undef) w:=by
 have I:=h.sl q J
 rcases h.so with hu|O
 .obtain⟨f,e⟩:=hu q J
  rw[e]at I ⊢
  exact I
 .exact vO I ⟨h.gr.os,h.gr.tape,h.gr.output,h.gr.size,fun k U=>h.gr.block k U (O k)⟩
theorem StS.at(h:StS S w0 K B n ds a w):At w (jM K B) n ds a w:=
 ⟨xF _ _,h.size,h.nd,zFr (zFr (fun _=>trivial) _ fun q J=>(by
  obtain⟨p,I,rfl⟩:=zLb J
  exact h.kn I)) _ fun q J=>(by
  obtain⟨p,I,rfl⟩:=zLc J
  obtain⟨cs,O,_,h3,U,_⟩:=h.bx.mem p I
  exact⟨O,p.b,0,cs,O,U,zBd h3⟩)⟩
theorem StS.up(h:St w0 K B n ds a w){W:WB}(hb:bW w W):bW w0 W:=(h.gr.trans hb).below
def jQ(ops:Array Oper)(ts:List Nat):Bool:=ts.all fun t=>(List.range ops.size).all fun i=> !(zT ops i==some t)
theorem yP.keep{J:Act}{w':WB}(hb:bW w w')(I:y9 w w'):∀(B:List Bx),(∀x,x∈B->J.tmps.getD x.t undef=a.tmps.getD x.t undef)->yP S w0 a w B->yP S w0 J w' B
 | [],_,_=>trivial
 |x::B,hs,⟨⟨cs,h1,h2,h3,h4,h5,h6⟩,h7⟩=>
  ⟨⟨cs,by rw[hs x fC];exact h1,h2,(hb.block _ (xP.1 h3).1).trans h3,x.c.us _ _ _ h4 I,h5,h6⟩,yP.keep hb I B (fun y O=>hs y (by simp[O])) h7⟩
def qM(K:List (Nat×KF))(B:List Bx)(a:Act)(t:Nat):SF:=if t∈K.map (·.1)++B.map (·.t)then⟨fun v W=>(jM K B t).p v W/\v=a.tmps.getD t undef,fun _ _ _ h hb=>⟨(jM K B t).st _ _ _ h.1 hb,h.2⟩⟩else jM K B t
def jY:List Nat->Bool
 | []=>true
 |x::l=> !l.contains x&&jY l
theorem zCz{G:Nat->SF}{q:Nat×SF}:∀{l:List (Nat×SF)},jY (l.map (·.1))=true->q∈l->upd G l q.1=q.2
 | [],_,h=>by cases h
 | x::l,hn,h=>by
  rw[xX,jY,xV]at hn
  show(bif Nat.beq x.1 q.1 then x.2 else upd G l q.1)=q.2
  rcases xS.1 h with rfl|h
  .simp
  .have:Nat.beq x.1 q.1=false:=by
    cases e:Nat.beq x.1 q.1 with
    |false=>rfl
    |true=>
     exfalso
     have J:=cJ e
     have I:=hn.1
     rw[J,bU.2 (xG.2 ⟨q,h,rfl⟩)]at I
     cases I
   rw[this]
   exact zCz hn.2 h
theorem zDm(k:Nat)(L:List (Nat×Rw))(h:StS S w0 K B n ds a w){hk:Prop}{Fin:Act->WB->Prop}
  (hT:∀G':Nat->SF,At w G' n ds a w->Obs F m P w ops (upd G' (zK L)) (ops.toList.take k)->(∀a' w',At w (zC6 ops k (upd G' (zK L))) n ds a' w'->Fin a' w')->hk)
  (hM:jG ops=true)(hs:((L.map (·.1)).all fun t=>(List.range k).any fun i=>zT ops i==some t)=true)(hG:jQ ops (K.map (·.1)++B.map (·.t))=true)(hI:jY (L.map (·.1))=true)
  (hz:Obs F m P w ops (upd (jM K B) (zK L)) (ops.toList.take k))
  (hw:∀a w,StS S w0 (zA4 L++K) B n ds a w->(∀q,q∈zK L->q.2.p (a.tmps.getD q.1 undef) w)->Fin a w):hk:=by
 have J:(zK L).map (·.1)=L.map (·.1):=by simp[zK]
 have I:∀t,t∈K.map (·.1)++B.map (·.t)->∀i,zT ops i≠some t:=fun t ht i hi=>by
  have O:=xR.1 hG t ht
  obtain⟨o,ho,_⟩:=qE hi
  have h2:=xR.1 O i (xT.2 (xP.1 ho).1)
  rw[hi]at h2
  simp at h2
 have hv:∀t,t∈K.map (·.1)++B.map (·.t)->a.tmps.getD t undef=a.tmps.getD t undef:=fun _ _=>rfl
 -- the slots of K and B stay: a table that says so
 have hA:=h.at
 refine hT (qM K B a) ⟨hA.gr,hA.size,hA.nd,fun t=>?_⟩ ?_ fun a' w' h6=>?_
 .by_cases ht:t∈K.map (·.1)++B.map (·.t)
  .unfold qM;rw[if_pos ht];exact⟨hA.sl t,rfl⟩
  .unfold qM;rw[if_neg ht];exact hA.sl t
 .-- the obligations hold with the stronger table
  have hL:∀t,t∈K.map (·.1)++B.map (·.t)->((zK L).map (·.1)).contains t=false:=fun t ht=>by
   cases hc:((zK L).map (·.1)).contains t with
   |false=>rfl
   |true=>
    exfalso
    have hm:=bU.1 hc
    rw[J]at hm
    obtain⟨i,_,he⟩:=bQ.1 (xR.1 hs t hm)
    exact I t ht i (by simpa using he)
  have hC:∀t v W,(upd (qM K B a) (zK L) t).p v W->(upd (jM K B) (zK L) t).p v W:=fun t v W hh=>by
   by_cases ht:t∈K.map (·.1)++B.map (·.t)
   .rw[jP (hL t ht)]at hh ⊢
    unfold qM at hh
    rw[if_pos ht]at hh
    exact hh.1
   .have:∀l:List (Nat×SF),upd (qM K B a) l t=upd (jM K B) l t:=fun l=>by
     induction l with
     |nil=>exact if_neg ht
     |cons q l ih=>
      show(bif Nat.beq q.1 t then q.2 else upd _ l t)=(bif Nat.beq q.1 t then q.2 else upd _ l t)
      rw[ih]
    rwa [this]at hh
  have hy:∀t,(∃i,zT ops i=some t)->∀v W,(upd (jM K B) (zK L) t).p v W->(upd (qM K B a) (zK L) t).p v W:=fun t ⟨i,hi⟩ v W hh=>by
   have ht: ¬t∈K.map (·.1)++B.map (·.t):=fun ht=>I t ht i hi
   have:∀l:List (Nat×SF),upd (qM K B a) l t=upd (jM K B) l t:=fun l=>by
    induction l with
    |nil=>exact if_neg ht
    |cons q l ih=>
     show(bif Nat.beq q.1 t then q.2 else upd _ l t)=(bif Nat.beq q.1 t then q.2 else upd _ l t)
     rw[ih]
   rwa [this]
  have hl:∀(o:Oper),o∈ops.toList->qO F m P w ops (upd (jM K B) (zK L)) o->qO F m P w ops (upd (qM K B a) (zK L)) o:=by
   intro o ho hg
   have h8:∀d,o.dst=some d->∃i,zT ops i=some d:=fun d hd=>by
    obtain⟨i,hi⟩:=mM ho
    exact⟨i,by rw[qU (o:=o) (by simpa using hi)];exact hd⟩
   have hD:zMg F m P w (upd (jM K B) (zK L)) o->zMg F m P w (upd (qM K B a) (zK L)) o:=fun O b W K' Q' hb hr hP=>
    O b W K' Q' hb (fun t ht=>hC t _ _ (hr t ht)) fun v W' hv hb'=>hP v W' (fun d hd=>hy d (h8 d hd) _ _ (hv d hd)) hb'
   unfold qO at hg ⊢
   cases hgd:o.guard with
   |none=>rw[hgd]at hg;exact hD hg
   |some q=>
    rw[hgd]at hg
    obtain⟨g,bv,O,h2,h3,h4⟩:=hg
    exact⟨g,bv,O,fun v W hh=>h2 v W (hC g v W hh),fun e=>hD (h3 e),fun e=>⟨fun d hd W=>hy d (h8 d hd) _ _ ((h4 e).1 d hd W),(h4 e).2⟩⟩
  have hE:∀l:List Oper,(∀o,o∈l->o∈ops.toList)->Obs F m P w ops (upd (jM K B) (zK L)) l->Obs F m P w ops (upd (qM K B a) (zK L)) l:=by
   intro l
   induction l with
   |nil=>intro _ _;trivial
   |cons o l ih=>intro hm ho;exact⟨hl o (hm o fC) ho.1,ih (fun o' hQ=>hm o' (by simp[hQ])) ho.2⟩
  exact hE _ (fun o ho=>uV ho) hz
 .have hg:=h6.gr
  have h0:∀t,t∈K.map (·.1)++B.map (·.t)->a'.tmps.getD t undef=a.tmps.getD t undef:=fun t ht=>by
   have O:=h6.sl t
   unfold zC6 at O
   have h2:((List.range ops.size).any fun i=>decide (k<=i)&&(zT ops i==some t))=false:=by
    refine cN.2 fun i _=>?_
    have:=I t ht i
    simp[this]
   rw[h2]at O
   have h3:((zK L).map (·.1)).contains t=false:=by
    cases hc:((zK L).map (·.1)).contains t with
    |false=>rfl
    |true=>
     exfalso
     have hm:=bU.1 hc
     rw[J]at hm
     obtain⟨i,_,he⟩:=bQ.1 (xR.1 hs t hm)
     exact I t ht i (by simpa using he)
   rw[show(bif false then SF.any else upd _ (zK L) t)=upd _ (zK L) t from rfl,jP h3,qM,if_pos ht]at O
   exact O.2
  have ha:∀q,q∈zK L->q.2.p (a'.tmps.getD q.1 undef) w':=fun q hB=>by
   have O:=h6.sl q.1
   obtain⟨i,hi,he⟩:=bQ.1 (xR.1 hs q.1 (by rw[<-J];exact xG.2 ⟨_,hB,rfl⟩))
   have hik:=xT.1 hi
   have he:zT ops i=some q.1:=by simpa using he
   unfold zC6 at O
   have h2:((List.range ops.size).any fun j=>decide (k<=j)&&(zT ops j==some q.1))=false:=by
    refine cN.2 fun j _=>?_
    by_cases hj:k<=j
    .have:zT ops j≠some q.1:=fun e=>by
      obtain⟨oi,hN,hO⟩:=qE he
      obtain⟨oj,hJ,hK⟩:=qE e
      exact zAe hM hN hJ oA hO hK
     simp[this]
    .simp[hj]
   rw[h2,show(bif false then SF.any else upd (qM K B a) (zK L) q.1)=upd (qM K B a) (zK L) q.1 from rfl,zCz (q:=q) (by rw[J];exact hI) hB]at O
   exact O
  refine hw a' w' ⟨h.gr.trans hg,h6.size,h6.nd,fun q U=>?_,h.bx.keep hg (zO hg) B fun x hx=>h0 _ (cQ _ (xG.2 ⟨x,hx,rfl⟩)),zAx h.mks hg,h.so.imp (fun hu q U=>(by
   rcases vV.1 U with U|U
   .obtain⟨f,e,_⟩:=jO U;exact⟨f,e⟩
   .exact hu q U)) (fun x=>x)⟩ ha
  rcases vV.1 U with U|U
  .obtain⟨f,hR,hm⟩:=jO U
   have O:=ha (q.1,f.tS) (xG.2 ⟨_,hm,rfl⟩)
   rw[hR]
   exact O
  .rw[h0 q.1 (cT _ (xG.2 ⟨q,U,rfl⟩))]
   exact KF.us (h.sl q U) (zO hg)
theorem zM3(k:Nat)(L:List (Nat×Rw))(hmix:P.follows .mixedOrders=true)(h:StS S w0 K B n ds a w)
  (I:zBK ops draw k n (L.map (·.1))=true)(h4:jQ ops (K.map (·.1)++B.map (·.t))=true)(h5:jY (L.map (·.1))=true)
  (O:Obs F m P w ops (upd (jM K B) (zK L)) (ops.toList.take k))
  (U:∀a w,StS S w0 (zA4 L++K) B n ds a w->wpOpsIn F m P ops Q (List.range' k (ops.size-k)) a w):(Code.region id ops draw).wpIn F m P Q a w:=by
 have J:(zK L).map (·.1)=L.map (·.1):=by simp[zK]
 have h0:=I
 unfold zBK at h0
 simp only[xV]at h0
 exact zDm k L h (fun G' hA hO hF=>zFG k (zK L) hmix (by rw[J];exact I) hA hO hF) h0.1.1.1.1.1.1 h0.1.1.2 h4 h5 O (fun a w h _=>U a w h)
def zAW(F:Fence)(m:Nat)(P:WH)(ops:Array Oper)(Q:Exit->Act->WB->Prop)(k:Nat)(a:Act)(w:WB):Prop:=wpOpsIn F m P ops Q (List.range' k (ops.size-k)) a w
theorem zIu(k:Nat)(L:List (Nat×Rw))(hmix:P.follows .mixedOrders=true)(h:StS S w0 K B n ds a w)
  (I:(zBK ops draw k n (L.map (·.1))&&jQ ops (K.map (·.1)++B.map (·.t))&&jY (L.map (·.1)))=true)
  (J:Obs F m P w ops (upd (jM K B) (zK L)) (ops.toList.take k))
  (O:∀a w,StS S w0 (zA4 L++K) B n ds a w->zAW F m P ops Q k a w):(Code.region id ops draw).wpIn F m P Q a w:=by
 simp only[xV]at I
 exact zM3 k L hmix h I.1.1 I.1.2 I.2 J O
theorem zGv(k:Nat)(L:List (Nat×Rw))(hmix:P.follows .mixedOrders=true)(h:StS S w0 K B n ds a w)
  (I:(zBK ops draw k n (L.map (·.1))&&jQ ops (K.map (·.1)++B.map (·.t))&&jY (L.map (·.1)))=true)
  (O:Obs F m P w ops (upd (jM K B) (zK L)) (ops.toList.take k))
  (U:∀a w,StS S w0 (zA4 L++K) B n ds a w->(∀q,q∈zK L->q.2.p (a.tmps.getD q.1 undef) w)->zAW F m P ops Q k a w):(Code.region id ops draw).wpIn F m P Q a w:=by
 simp only[xV]at I
 have J:(zK L).map (·.1)=L.map (·.1):=by simp[zK]
 have h0:=I.1.1
 unfold zBK at h0
 simp only[xV]at h0
 exact zDm k L h (fun G' hA hO hF=>zFG k (zK L) hmix (by rw[J];exact I.1.1) hA hO hF) h0.1.1.1.1.1.1 h0.1.1.2 I.1.2 I.2 O U
theorem zD(I:ops.size=k)(h:Q .normal a w):zAW F m P ops Q k a w:=by
 unfold zAW
 rw[I,Nat.sub_self]
 exact h
theorem rgE(L:List (Nat×Rw))(h:StS S w0 K B n ds a w)(I:Obs F m P w ops (upd (jM K B) (zK L)) (ops.toList.take ops.size))(J:∀a w,StS S w0 (zA4 L++K) B n ds a w->Q .normal a w)(hmix:P.follows .mixedOrders=true:=by kernel_rfl)
  (O:(zBK ops draw ops.size n (L.map (·.1))&&jQ ops (K.map (·.1)++B.map (·.t))&&jY (L.map (·.1)))=true:=by kernel_rfl):(Code.region id ops draw).wpIn F m P Q a w:=
 zIu ops.size L hmix h O I fun a w s=>zD rfl (J a w s)
theorem rgQ{y:Code}(L:List (Nat×Rw))(h:StS S w0 K B n ds a w)(I:Obs F m P w ops (upd (jM K B) (zK L)) (ops.toList.take ops.size))(J:∀a w,StS S w0 (zA4 L++K) B n ds a w->y.wpIn F m P Q a w)(hmix:P.follows .mixedOrders=true:=by kernel_rfl)
  (O:(zBK ops draw ops.size n (L.map (·.1))&&jQ ops (K.map (·.1)++B.map (·.t))&&jY (L.map (·.1)))=true:=by kernel_rfl):(Code.seq (Code.region id ops draw) y).wpIn F m P Q a w:=
 lQ (rgE L h I J hmix O)
theorem rgK(k:Nat)(L:List (Nat×Rw))(h:StS S w0 K B n ds a w)(I:Obs F m P w ops (upd (jM K B) (zK L)) (ops.toList.take k))(J:∀a w,StS S w0 (zA4 L++K) B n ds a w->zAW F m P ops Q k a w)(hmix:P.follows .mixedOrders=true:=by kernel_rfl)
  (O:(zBK ops draw k n (L.map (·.1))&&jQ ops (K.map (·.1)++B.map (·.t))&&jY (L.map (·.1)))=true:=by kernel_rfl):(Code.region id ops draw).wpIn F m P Q a w:=
 zIu k L hmix h O I J
theorem rgN(L:List (Nat×Rw))(h:StS S w0 K B n ds a w)(I:Obs F m P w ops (upd (jM K B) (zK L)) (ops.toList.take ops.size))(J:∀a w,StS S w0 (zA4 L++K) B n ds a w->(∀q,q∈zK L->q.2.p (a.tmps.getD q.1 undef) w)->Q .normal a w)(hmix:P.follows .mixedOrders=true:=by kernel_rfl)
  (O:(zBK ops draw ops.size n (L.map (·.1))&&jQ ops (K.map (·.1)++B.map (·.t))&&jY (L.map (·.1)))=true:=by kernel_rfl):(Code.region id ops draw).wpIn F m P Q a w:=
 zGv ops.size L hmix h O I fun a w s U=>zD rfl (J a w s U)
theorem rgL(k:Nat)(L:List (Nat×Rw))(h:StS S w0 K B n ds a w)(I:Obs F m P w ops (upd (jM K B) (zK L)) (ops.toList.take k))(J:∀a w,StS S w0 (zA4 L++K) B n ds a w->(∀q,q∈zK L->q.2.p (a.tmps.getD q.1 undef) w)->zAW F m P ops Q k a w)(hmix:P.follows .mixedOrders=true:=by kernel_rfl)
  (O:(zBK ops draw k n (L.map (·.1))&&jQ ops (K.map (·.1)++B.map (·.t))&&jY (L.map (·.1)))=true:=by kernel_rfl):(Code.region id ops draw).wpIn F m P Q a w:=
 zGv k L hmix h O I J
theorem zAl{o:Oper}(I:ops[k]?=some o)(J:o.guard=none)(h:o.wpIn F m P a w (zAW F m P ops Q (k+1)) Q):zAW F m P ops Q k a w:=by
 have hlt:=(xP.1 I).1
 unfold zAW
 rw[show ops.size-k=(ops.size-(k+1))+1 from by omega,eE,eF]
 unfold wpOpIn
 rw[I]
 have O:Region.wanted o (yielded ops a.tmps)=true:=by unfold Region.wanted;rw[J]
 show(if Region.wanted o (yielded ops a.tmps)=true then _ else _)
 rw[if_pos O]
 exact h
theorem StS.fct(h:StS S w0 K B n ds a w)(x:WL):(fct (jM K B) x).p (a.eval x) w:=by
 cases x with
 |tmp t=>exact h.at.sl t
 |const v=>rfl
 |func f=>rfl
 |global g=>rfl
def j9(K:List (Nat×KF))(B:List Bx)(n d:Nat):Bool:= !(K.map (·.1)++B.map (·.t)).contains d&&decide (d<n)
theorem zAd(I:d<a.tmps.size)(v:WE):(a.put (some d) v).tmps.getD d undef=v:=by
 show(a.tmps.setIfInBounds d v).getD d undef=v
 rw[xU,eK I]
 rfl
theorem zAz{t:Nat}(I:d≠t)(v:WE):(a.put (some d) v).tmps.getD t undef=a.tmps.getD t undef:=zB1 I
theorem zDw{t:Nat}(I:j9 K B n d=true)(ht:t∈K.map (·.1)++B.map (·.t)):d≠t:=fun e=>by
 subst e
 unfold j9 at I
 rw[bU.2 ht]at I
 cases I
theorem zHU(I:j9 K B n d=true):d<n:=by
 unfold j9 at I
 simp only[xV,cE]at I
 exact I.2
theorem StS.set(h:StS S w0 K B n ds a w){d:Nat}{v:WE}(J:j9 K B n d=true){w':WB}(hb:bW w w'){f:UF}(hv:f.p v w'):StS S w0 ((d,.u f)::K) B n ds (a.put (some d) v) w':=by
 refine⟨h.gr.trans hb,by rw[zDn];exact h.size,by rw[zBV];exact h.nd,fun q I=>?_,h.bx.keep hb (zO hb) B fun x O=>zAz (zDw J (cQ _ (xG.2 ⟨x,O,rfl⟩))) v,zAx h.mks hb,h.so.imp (fun U q I=>(by
  rcases xS.1 I with rfl|I
  .exact⟨f,rfl⟩
  .exact U q I)) (fun x=>x)⟩
 rcases xS.1 I with rfl|I
 .rw[zAd (by rw[h.size];exact zHU J)]
  exact hv
 .rw[zAz (zDw J (cT _ (xG.2 ⟨q,I,rfl⟩)))]
  exact KF.us (h.sl q I) (zO hb)
theorem StS.lay(h:StS S w0 K B n ds a w){d:Nat}{e:WF}{cs:List WE}(I:j9 K B n d=true){C:CU}(hc:C.p cs w)(hn:cs.all zX=true):StS S w0 K (⟨d,e,C,w.heap.size,false⟩::B) n ds (a.put (some d) (pO w.heap.size 0)) (w.alloc (.cells cs.toArray e (0,0))):=by
 have hb:=zCO w (.cells cs.toArray e (0,0))
 have J:∀x,x∈B->(a.put (some d) (pO w.heap.size 0)).tmps.getD x.t undef=a.tmps.getD x.t undef:=fun x U=>zAz (zDw I (cQ _ (xG.2 ⟨x,U,rfl⟩))) _
 refine⟨h.gr.trans hb,by rw[zDn];exact h.size,by rw[zBV];exact h.nd,fun q O=>?_,⟨⟨cs,zAd (by rw[h.size];exact zHU I) _,.inr (.inl h.gr.size),cO w _,C.us _ _ _ hc (zO hb),hn,fun y hy=>?_⟩,h.bx.keep hb (zO hb) B J⟩,zAx h.mks hb,h.so⟩
 .rw[zAz (zDw I (cT _ (xG.2 ⟨q,O,rfl⟩)))]
  exact KF.us (h.sl q O) (zO hb)
 .obtain⟨_,_,_,h3,_⟩:=h.bx.mem y hy
  have:=(xP.1 h3).1
  left
  show y.b≠w.heap.size
  omega
theorem yO(f:UF)(J:ops[k]?=some ⟨some d,.assign x,ty,pos,aft,none⟩)(h:StS S w0 K B n ds a w)(I:j9 K B n d=true)(O:∀v W,(Wd.fct (jM K B) x).p v W->f.p v W)
  (fin:∀a w,StS S w0 ((d,.u f)::K) B n ds a w->zAW F m P ops Q (k+1) a w):zAW F m P ops Q k a w:=
 zAl J rfl (zCd (fun _ e=>by cases e) (fun _ e=>by cases e) (W':=w) (v:=a.eval x) rfl (fin _ _ (h.set I (xF _ _) (O _ _ (h.fct x)))))
theorem yN(C:CU)(O:ops[k]?=some ⟨some d,.box e x,ty,pos,aft,none⟩)(h:StS S w0 K B n ds a w)(J:j9 K B n d=true)(U:∀v W,(Wd.fct (jM K B) x).p v W->C.p v.cells.toList W/\v.cells.toList.all zX=true)
  (fin:∀b a w,StS S w0 K (⟨d,e,C,b,false⟩::B) n ds a w->zAW F m P ops Q (k+1) a w):zAW F m P ops Q k a w:=
 zAl O rfl (zCd (fun _ e=>by cases e) (fun _ e=>by cases e) (W':=w.alloc (.cells (a.eval x).cells e (0,0))) (v:= pO w.heap.size 0) (by simp[execOp,Instr.box,newVar,newRow]) (by
  have I:=U _ _ (h.fct x)
  have:=h.lay (e:=e) J I.1 I.2
  rw[Array.toArray_toList]at this
  exact fin _ _ _ this))
theorem z9(C:CU){cs:List WE}(hz:zeroCells P e=some cs)(ho:ops[k]?=some ⟨some d,.alloc e,ty,pos,aft,none⟩)(h:StS S w0 K B n ds a w)(J:j9 K B n d=true)(O:∀W,C.p cs W)(U:cs.all zX=true)
  (fin:∀b a w,StS S w0 K (⟨d,e,C,b,false⟩::B) n ds a w->zAW F m P ops Q (k+1) a w):zAW F m P ops Q k a w:=by
 have I:(Instr.alloc e true (.tuple #[])).run P w=.ok (pO w.heap.size 0) (w.alloc (.cells cs.toArray e (0,0))):=by
  unfold zeroCells at hz
  cases hi:P.info? e with
  |none=>rw[hi]at hz;cases hz
  | some i=>
   rw[hi]at hz
   simp only[mF]at hz
   cases hzz:i.zero with
   |none=>rw[hzz]at hz;cases hz
   |some z=>
    rw[hzz]at hz
    simp only[mB,lY]at hz
    subst hz
    simp[Instr.alloc,zeroValue,typeInfo,hi,hzz,newVar,newRow]
 exact zAl ho rfl (zCd (fun _ e=>by cases e) (fun _ e=>by cases e) (W':=w.alloc (.cells cs.toArray e (0,0))) (v:= pO w.heap.size 0) (by simp[execOp,I]) (fin _ _ _ (h.lay J (O _) U)))
def zE2:List Bx->Nat->CU->List Bx
 | [],_,_=> []
 |x::B,c,C=>bif Nat.beq x.t c then⟨x.t,x.e,C,x.b,x.r⟩::B else x::zE2 B c C
theorem zMQ:∀(B:List Bx) (c:Nat) (C:CU),(zE2 B c C).map (fun x=>(x.b,x.r))=B.map (fun x=>(x.b,x.r))
 | [],_,_=>rfl
 |x::B,c,C=>by
  unfold zE2
  cases Nat.beq x.t c with
  |true=>rfl
  |false=>simp[zMQ B c C]
theorem yP.turn{w':WB}{c:Nat}{vs:List WE}{C:CU}{x:Bx}(J:x.r=false)(hc:C.p vs w')(hn:vs.all zX=true)(U:w'.heap[x.b]?=some (.cells vs.toArray x.e (0,0)))(ho:∀k,k<w.heap.size->k≠x.b->w'.heap[k]?=w.heap[k]?)(hk:y9 w w'):∀(B:List Bx),yP S w0 a w B->x∈B->x.t=c->(∀y,y∈B->y.t=c->y=x)->yP S w0 a w' (zE2 B c C)
 | [],_,h,_,_=>by cases h
 | y::B,⟨⟨cs,h1,h2,h3,h4,h5,h6⟩,h7⟩,hx,hxc,hu=>by
  unfold zE2
  cases e:Nat.beq y.t c with
  | true=>
   have e2:=cJ e
   obtain rfl:y=x:=hu y fC e2
   refine⟨⟨vs,h1,h2,U,hc,hn,h6⟩,?_⟩
   have:∀B:List Bx,yP S w0 a w B->(∀z,z∈B->z.b≠y.b∨(y.r=true/\z.r=true))->yP S w0 a w' B:=by
    intro B
    induction B with
    |nil=>intro _ _;trivial
    |cons z B ih=>
     intro hB O
     obtain⟨⟨c2,g1,g2,g3,g4,g5,g6⟩,g7⟩:=hB
     exact⟨⟨c2,g1,g2,(ho _ (xP.1 g3).1 ((O z fC).resolve_right (fun e=>by rw[J]at e;cases e.1))).trans g3,z.c.us _ _ _ g4 hk,g5,g6⟩,ih g7 fun z' I=>O z' (by simp[I])⟩
   exact this B h7 h6
  | false=>
   have h0:x∈B:=by
    rcases xS.1 hx with rfl|hx
    .rw[hxc]at e;simp at e
    .exact hx
   refine⟨⟨cs,h1,h2,(ho _ (xP.1 h3).1 (fun e'=>((h6 x h0).resolve_right (fun e=>by rw[J]at e;cases e.2)) e'.symm)).trans h3,y.c.us _ _ _ h4 hk,h5,fun z O=>?_⟩,yP.turn J hc hn U ho hk B h7 h0 hxc fun z O=>hu z (by simp[O])⟩
   have h8:(z.b,z.r)∈B.map (fun x=>(x.b,x.r)):=by rw[<-zMQ B c C];exact xG.2 ⟨z,O,rfl⟩
   obtain⟨z',I,e3⟩:=xG.1 h8
   injection e3 with e3 e4
   rw[<-e3,<-e4]
   exact h6 z' I
def zF0:List Bx->Nat->Option Bx
 | [],_=>none
 |x::B,c=>bif Nat.beq x.t c then some x else zF0 B c
theorem zAq:∀{B:List Bx} {c:Nat} {x:Bx},zF0 B c=some x->x∈B/\x.t=c
 | [],_,_,h=>by cases h
 | y::B,c,x,h=>by
  unfold zF0 at h
  cases e:Nat.beq y.t c with
  |true=>
   rw[e]at h
   obtain rfl:y=x:=by injection h
   exact⟨by simp,cJ e⟩
  |false=>
   rw[e]at h
   obtain⟨I,h2⟩:=zAq h
   exact⟨by simp[I],h2⟩
theorem yP.one{c:Nat}{x y:Bx}(J:x.r=false):∀{B:List Bx},yP S w0 a w B->x∈B->y∈B->x.t=c->y.t=c->y=x
 | [],_,h,_,_,_=>by cases h
 | z::B,⟨⟨cs,h1,h2,h3,h4,h5,h6⟩,h7⟩,hx,O,hxc,hyc=>by
  have h0:∀q,q∈B->q.t=z.t->(z.r=false∨q.r=false)->False:=fun q hq e U=>by
   obtain⟨_,I,_⟩:=yP.mem h7 q hq
   rw[e,h1]at I
   injection I with I
   injection I with I
   injection I with I
   rcases h6 q hq with g|g
   .exact g I.symm
   .rcases U with U|U
    .rw[U]at g;cases g.1
    .rw[U]at g;cases g.2
  rcases xS.1 hx with e1|hx
  .rcases xS.1 O with e2|O
   .rw[e1,e2]
   .exact(h0 y O (by rw[hyc,<-hxc,e1]) (.inl (by rw[<-e1];exact J))).elim
  .rcases xS.1 O with e2|O
   .exact(h0 x hx (by rw[hxc,<-hyc,e2]) (.inr J)).elim
   .exact yP.one J h7 hx O hxc hyc
theorem StS.turn(h:StS S w0 K B n ds a w){c:Nat}{x:Bx}(hB:zF0 B c=some x)(J:x.r=false){w':WB}{vs:List WE}{C:CU}(U:w.grownBy w' (some x.b))(h0:w'.heap[x.b]?=some (.cells vs.toArray x.e (0,0)))(hc:C.p vs w')(hn:vs.all zX=true):StS S w0 K (zE2 B c C) n ds a w':=by
 obtain⟨hx,O⟩:=zAq hB
 obtain⟨cs,h1,h2,h3,h4,h5⟩:=h.bx.mem x hx
 have hk:y9 w w':=fun q u I=>by
  have h8:=xJ w _ I
  by_cases e:q.block=x.b
  .exfalso
   have h6:w.cell? q=if q.spot.isSome then none else cs.toArray[q.off]?:=by
    unfold World.cell?
    rw[e,h3]
   rw[h6]at I
   split at I
   .cases I
   .have:=xR.1 h5 _ (mJ (by simpa using I))
    cases this
  .exact(bR (U.block _ h8 (fun e'=>e (lU e')))).trans I
 exact⟨h.gr.grown U (h2.resolve_left (by rw[J];decide)),h.size,h.nd,fun q I=>KF.us (h.sl q I) hk,h.bx.turn J hc hn h0 (fun k hd h7=>U.block k hd (fun e=>h7 (lU e))) hk B hx O fun y hy h9=>yP.one J h.bx hx hy O h9,zJN h.mks U h3,h.so⟩
theorem zBB(w:WB)(b:Nat)(vs:Array WE):w.grownBy (w.setRow b vs) (some b):=⟨rfl,rfl,rfl,by rw[size_setRow];exact vP _,fun k _ I=>mI w b k vs (fun e=>I (by rw[e]))⟩
theorem zR(C:CU)(f:SF)(ho:ops[k]?=some ⟨none,.store t (.tmp c) x,ty,pos,aft,none⟩)(h:StS S w0 K B n ds a w)(h7:zAf P t=some kk){y:Bx}(hB:zF0 B c=some y)(U:y.r=false)(I:y.e=t)(h6:∀cs W,y.c.p cs W->cs.length=kk)
  (hx:∀v W,(Wd.fct (jM K B) x).p v W->f.p v W)(hv:∀v W,f.p v W->∃vs:List WE,v=.agg vs.toArray/\vs.length=kk/\(∀u,u∈vs->u.oneCell'=true)/\vs.all zX=true/\C.p vs W)
  (fin:∀a w,StS S w0 K (zE2 B c C) n ds a w->zAW F m P ops Q (k+1) a w):zAW F m P ops Q k a w:=by
 obtain⟨hy,h0⟩:=zAq hB
 obtain⟨cs,h1,h2,h3,h4,h5⟩:=h.bx.mem y hy
 obtain⟨vs,e,hl,O,J,hC⟩:=hv _ _ (hx _ _ (h.fct x))
 rw[h0]at h1
 have hk:y9 w (w.setRow y.b vs.toArray):=zB9 h3 (by simpa using h5)
 exact zAl ho rfl (zKS h7 I (h6 _ _ h4) h1 h3 e hl O (fin _ _ (h.turn hB U (zBB w y.b vs.toArray) (mC w y.b cs.toArray vs.toArray y.e (0,0) h3) (C.us _ _ _ hC hk) J)))
theorem zBF(f:UF)(ho:ops[k]?=some ⟨some d,op,ty,pos,aft,none⟩)(h:StS S w0 K B n ds a w)(U:j9 K B n d=true)(O:qO F m P w ops (upd (jM K B) [(d,f.tS)]) ⟨some d,op,ty,pos,aft,none⟩)
  (I:(zDH ⟨some d,op,ty,pos,aft,none⟩).contains d=false)(fin:∀a w,StS S w0 ((d,.u f)::K) B n ds a w->zAW F m P ops Q (k+1) a w):zAW F m P ops Q k a w:=by
 refine zAl ho rfl (O a w _ Q (xF _ _) (fun t ht=>?_) fun v W' hv hb=>fin _ _ (h.set U hb ?_))
 .have J:Nat.beq d t=false:=by
   cases e:Nat.beq d t with
   |false=>rfl
   |true=>
    have:=cJ e
    subst this
    rw[bU.2 ht]at I
    cases I
  show(bif Nat.beq d t then f.tS else jM K B t).p _ _
  rw[J]
  exact h.at.sl t
 .have:=hv d rfl
  have e:(upd (jM K B) [(d,f.tS)]) d=f.tS:=by
   show(bif Nat.beq d d then f.tS else _)=_
   rw[show Nat.beq d d=true from mE d]
   rfl
  rw[e]at this
  exact this
theorem zBw{b:Nat}:∀(vs:List WE) (o i:Nat),storeCells ⟨b,o,none⟩ vs i=storeCells ⟨b,0,none⟩ vs (o+i)
 | [],_,_=>rfl
 |v::vs,o,i=>by
  unfold storeCells
  rw[zBw vs o (i+1),xH,xH,uL,uS]
def jH(cs:List WE)(o:Nat)(vs:List WE):List WE:=cs.take o++vs++cs.drop (o+vs.length)
theorem zAp{b:Nat}{t:WF}:∀(vs:List WE) (i:Nat) (cs:List WE) (w:WB),w.heap[b]?=some (.cells cs.toArray t (0,0))->i+vs.length<=cs.length->(∀v,v∈vs->v.oneCell'=true)->
  (storeCells ⟨b,0,none⟩ vs i).run P w=.ok () (w.setRow b (jH cs i vs).toArray)
 | [],i,cs,w,hg,hl,_=>by
  have:jH cs i []=cs:=by unfold jH;simp
  rw[this]
  unfold storeCells
  rw[setRow_self w b _ t (0,0) hg]
  rfl
 | v::vs,i,cs,w,hg,hl,O=>by
  simp only[lW]at hl
  unfold storeCells
  have I:w.cell? ⟨b,i,none⟩=some cs[i]:=by
   unfold World.cell?
   rw[hg]
   simp[lR (by omega:i<cs.length)]
  have h4:w.frozen? ⟨b,i,none⟩=false:=by simp[World.frozen?,hg]
  have hs:(store ⟨b,i,none⟩ v).run P w=.ok () (w.setCell ⟨b,i,none⟩ v):=by
   rw[run_store _ _ _ _ _ (O v fC),I]
   simp[h4]
  rw[xH,uL]
  simp only[cD,hs,cL]
  have J:w.setCell ⟨b,i,none⟩ v=w.setRow b (cs.set i v).toArray:=by
   have h0:b<w.heap.size:=(xP.1 hg).1
   have hv:w.heap[b]=.cells cs.toArray t (0,0):=(xP.1 hg).2
   unfold World.setCell World.setRow
   congr 1
   refine cW fC fun j O h2=>?_
   by_cases e:j=b
   .subst e
    simp[mK,hv]
   .simp[mK,bB e]
  rw[J]
  have U:=mC w b cs.toArray (cs.set i v).toArray t (0,0) hg
  rw[zAp vs (i+1) (cs.set i v) _ U (by rw[uK];omega) (fun u hu=>O u (by simp[hu]))]
  congr 1
  have e1:jH (cs.set i v) (i+1) vs=jH cs i (v::vs):=by
   unfold jH
   rw[List.take_set,mN oA,List.set_append_right _ _ (by simp;omega)]
   have:i-(List.take i cs).length=0:=by simp;omega
   rw[this,List.drop_set_of_lt oA]
   simp[gJ,Nat.add_left_comm]
  rw[e1]
  have h0:b<w.heap.size:=(xP.1 hg).1
  have hv:w.heap[b]=.cells cs.toArray t (0,0):=(xP.1 hg).2
  unfold World.setRow
  congr 1
  refine cW fC fun j O h2=>?_
  by_cases e:j=b
  .subst e
   simp[mK,hv]
  .simp[mK,bB e]
def zLw(P:WH)(t:WF):Option Nat:=(P.info? t).map (·.size)
theorem zAc{o:Nat}(C:CU)(f:SF)(ho:ops[k]?=some ⟨none,.store t x y,ty,pos,aft,none⟩)(h:StS S w0 K B n ds a w)(I:zLw P t=some kk){z:Bx}(hB:zF0 B c=some z)(O:z.r=false)
  (hp:∀v W,(Wd.fct (jM K B) x).p v W->v= pO z.b o)(hy:∀v W,(Wd.fct (jM K B) y).p v W->f.p v W)
  (hv:∀v W,f.p v W->v.cells.size=kk/\(∀u,u∈v.cells.toList->u.oneCell'=true)/\v.cells.toList.all zX=true/\∀cs,z.c.p cs W->o+kk<=cs.length/\C.p (jH cs o v.cells.toList) W)
  (fin:∀a w,StS S w0 K (zE2 B c C) n ds a w->zAW F m P ops Q (k+1) a w):zAW F m P ops Q k a w:=by
 obtain⟨hz,hzc⟩:=zAq hB
 obtain⟨cs,h1,h2,h3,h4,h5⟩:=h.bx.mem z hz
 have e1:=hp _ _ (h.fct x)
 obtain⟨g1,g2,g3,g4⟩:=hv _ _ (hy _ _ (h.fct y))
 obtain⟨g5,g6⟩:=g4 cs h4
 have hk:y9 w (w.setRow z.b (jH cs o (a.eval y).cells.toList).toArray):=zB9 h3 (by simpa using h5)
 have J:(execOp a.eval ⟨none,.store t x y,ty,pos,aft,none⟩).run P w=.ok .skip (w.setRow z.b (jH cs o (a.eval y).cells.toList).toArray):=by
  unfold zLw at I
  cases hi:P.info? t with
  |none=>rw[hi]at I;cases I
  |some i=>
   rw[hi]at I
   simp only[mB,lY]at I
   have hr:=zAp (P:=P) (a.eval y).cells.toList o cs w h3 (by simp;omega) g2
   have hs:=zBw (b:=z.b) (a.eval y).cells.toList o 0
   rw[uM]at hs
   simp[execOp,Instr.storeAt,Instr.sureAddr,e1,storeVar,sizeOf,typeInfo,hi,I,g1,hs,hr]
 refine zAl ho rfl ⟨fun f hf=>(by cases hf),?_⟩
 rw[bI _ _ _ (fun _ e=>by cases e),J]
 refine fin _ _ (h.turn hB O (zBB w z.b _) (mC w z.b cs.toArray _ z.e (0,0) h3) (C.us _ _ _ g6 hk) ?_)
 unfold jH
 simp only[mA,xV]
 refine⟨⟨xR.2 fun u U=>xR.1 h5 u (uV U),g3⟩,xR.2 fun u U=>xR.1 h5 u (uZ U)⟩
def zO2(W:WB)(b:Nat)(te:WF)(C:CU)(f:SF):Ending->WB->Prop:=fun e W'=>∃v,e=.returned v/\f.p v W'/\W.grownBy W' (some b)/\∃cs:List WE,W'.heap[b]?=some (.cells cs.toArray te (0,0))/\C.p cs W'/\cs.all zX=true
theorem zSJ(C:CU)(g:UF)(ho:ops[k]?=some ⟨some d,.call ⟨.value (.func f),xs,ats⟩,ty,pos,aft,none⟩)(hF:zJh F m P)(he:Enters P f)(h:StS S w0 K B n ds a w)(hf:j9 K B n d=true){z:Bx}(hB:zF0 B c=some z)(I:z.r=false)
  (hc:∀cs,w.heap[z.b]?=some (.cells cs.toArray z.e (0,0))->z.c.p cs w->cs.all zX=true->(∀x,x∈xs.toList->(Wd.fct (jM K B) x).p (a.eval x) w)->Calls P f (xs.map a.eval) w (zO2 w z.b z.e C g.tS))
  (fin:∀a w,StS S w0 ((d,.u g)::K) (zE2 B c C) n ds a w->zAW F m P ops Q (k+1) a w):zAW F m P ops Q k a w:=by
 obtain⟨hz,hzc⟩:=zAq hB
 obtain⟨cs,h1,h2,h3,h4,h5⟩:=h.bx.mem z hz
 have J:=hc cs h3 h4 h5 fun x _=>h.fct x
 refine zAl ho rfl ⟨fun g _=>hF.1 g,?_⟩
 rw[bI _ _ _ (fun _ e=>by cases e),execOp_call_go,he]
 simp only[mD]
 refine⟨hF.2.1,bG (hF.2.2 _ _ _ (zO2 w z.b z.e C g.tS) (by simpa using J)) fun e W' he=>?_⟩
 obtain⟨v,rfl,hv,hg,cs',hh,hC,hn⟩:=he
 have s1:=h.turn hB I hg hh hC hn
 have U:j9 K (zE2 B c C) n d=true:=by
  have:(zE2 B c C).map (·.t)=B.map (·.t):=by
   have O:∀B:List Bx,(zE2 B c C).map (·.t)=B.map (·.t):=fun B=>by
    induction B with
    |nil=>rfl
    |cons x B ih=>
     unfold zE2
     cases Nat.beq x.t c with
     |true=>rfl
     |false=>simp[ih]
   exact O B
  unfold j9 at hf ⊢
  rw[this]
  exact hf
 exact fin _ _ (s1.set U (xF _ _) hv)
theorem zG1(C:CU)(g:UF)(ho:ops[k]?=some ⟨some d,.call ⟨.value (.func f),#[x],ats⟩,ty,pos,aft,none⟩)(hF:zJh F m P)(he:Enters P f)(h:StS S w0 K B n ds a w)(J:j9 K B n d=true){z:Bx}(U:zF0 B c=some z)(I:z.r=false)
  (hp:∀v W,(Wd.fct (jM K B) x).p v W->v= pO z.b 0)
  (hc:∀cs:List WE,w.heap[z.b]?=some (.cells cs.toArray z.e (0,0))->z.c.p cs w->Calls P f #[pO z.b 0] w (zO2 w z.b z.e C g.tS))
  (fin:∀a w,StS S w0 ((d,.u g)::K) (zE2 B c C) n ds a w->zAW F m P ops Q (k+1) a w):zAW F m P ops Q k a w:=
 zSJ C g ho hF he h J U I (fun cs O h2 _ h4=>by
  have e:=hp _ _ (h4 x fC)
  have:=hc cs O h2
  rw[<-e]at this
  simpa using this) fin
def zUx:List Bx->Nat->Nat->List Bx
 | [],_,_=> []
 |x::B,c,d=>bif Nat.beq x.t c then⟨d,x.e,x.c,x.b,x.r⟩::B else x::zUx B c d
theorem zRA:∀(B:List Bx) (c d:Nat),(zUx B c d).map (fun x=>(x.b,x.r))=B.map (fun x=>(x.b,x.r))
 | [],_,_=>rfl
 |x::B,c,d=>by
  unfold zUx
  cases Nat.beq x.t c with
  |true=>rfl
  |false=>simp[zRA B c d]
theorem yP.ren{c d:Nat}{O:Act}(U:∀x,x∈B->O.tmps.getD x.t undef=a.tmps.getD x.t undef)(hd:O.tmps.getD d undef=a.tmps.getD c undef):∀(l:List Bx),(∀x,x∈l->x∈B)->yP S w0 a w l->yP S w0 O w (zUx l c d)
 | [],_,_=>trivial
 | x::l,hl,⟨⟨cs,h1,h2,h3,h4,h5,h6⟩,h7⟩=>by
  have I:yP S w0 O w l:=yP.keep (xF _ _) (fun _ _ h=>h) l (fun y J=>U y (hl y (by simp[J]))) h7
  unfold zUx
  cases e:Nat.beq x.t c with
  |true=>
   have e2:=cJ e
   exact⟨⟨cs,by show O.tmps.getD d undef=_;rw[hd,<-e2];exact h1,h2,h3,h4,h5,h6⟩,I⟩
  |false=>
   refine⟨⟨cs,by rw[U x (hl x fC)];exact h1,h2,h3,h4,h5,fun y J=>?_⟩,yP.ren U hd l (fun y J=>hl y (by simp[J])) h7⟩
   have h8:(y.b,y.r)∈l.map (fun x=>(x.b,x.r)):=by rw[<-zRA l c d];exact xG.2 ⟨y,J,rfl⟩
   obtain⟨z,hz,e3⟩:=xG.1 h8
   injection e3 with e3 e4
   rw[<-e3,<-e4]
   exact h6 z hz
theorem zW0(U:ops[k]?=some ⟨some d,.assign (.tmp c),ty,pos,aft,none⟩)(h:StS S w0 K B n ds a w)(I:j9 K B n d=true)
  (fin:∀a w,StS S w0 K (zUx B c d) n ds a w->zAW F m P ops Q (k+1) a w):zAW F m P ops Q k a w:=by
 refine zAl U rfl (zCd (fun _ e=>by cases e) (fun _ e=>by cases e) (W':=w) (v:=a.tmps.getD c undef) rfl (fin _ _ ⟨h.gr,by rw[zDn];exact h.size,by rw[zBV];exact h.nd,fun q O=>?_,h.bx.ren (fun x J=>zAz (zDw I (cQ _ (xG.2 ⟨x,J,rfl⟩))) _) (zAd (by rw[h.size];exact zHU I) _) B (fun x J=>J),h.mks,h.so⟩))
 rw[zAz (zDw I (cT _ (xG.2 ⟨q,O,rfl⟩)))]
 exact h.sl q O
theorem zKp(l:List SF)(hn:Nat.ble args.size fn.ntmps=true)(I:zGa w l args.toList):St w ((zMd 0 l).map fun q=>(q.1,KF.o q.2)) [] fn.ntmps [] { tmps:=args++Array.replicate (fn.ntmps-args.size) undef,defers:=[] } w:=by
 have I:=zRa l hn I
 refine⟨⟨I.gr.os,I.gr.tape,I.gr.output,I.gr.size,fun k U _=>I.gr.block k U⟩,I.size,I.nd,fun q hq=>?_,trivial,⟨[],Marks.nil _ _⟩,.inr fun _ h=>h⟩
 obtain⟨p,hp,rfl⟩:=xG.1 hq
 have J:∀(l:List SF) (k:Nat),(∀t,t∈(zMd k l).map (·.1)->k<=t)/\jY ((zMd k l).map (·.1))=true:=by
  intro l
  induction l with
  |nil=>intro k;exact⟨fun t ht=>(by cases ht),rfl⟩
  | cons f l ih=>
   intro k
   obtain⟨O,h2⟩:=ih (k+1)
   refine⟨fun t ht=>?_,?_⟩
   .rcases xS.1 ht with rfl|ht
    .exact vP _
    .have:=O t ht;omega
   .show(!((zMd (k+1) l).map (·.1)).contains k&&jY _)=true
    rw[h2]
    cases hc:((zMd (k+1) l).map (·.1)).contains k with
    |false=>rfl
    |true=>
     have:=O k (bU.1 hc)
     omega
 have:=I.sl p.1
 rw[zCz (J l 0).2 hp]at this
 exact this
theorem z5{c:Code}(l:List SF)
  (I:P.funcs[f]?=some fn)(hb:fn.body=some c)(J:Nat.ble args.size fn.ntmps=true)(O:zGa w l args.toList)
  (h:∀a,St w ((zMd 0 l).map fun q=>(q.1,KF.o q.2)) [] fn.ntmps [] a w->c.wpIn Fence.wide 0 P (bodyPost P fn R) a w):Calls P f args w R:=
 zBT I hb (h _ (zKp l J O))
theorem zMW{c:Code}(l:List SF)
  (I:P.funcs[f]?=some fn)(hb:fn.body=some c)(J:Nat.ble args.size fn.ntmps=true)(O:zGa w l args.toList)
  (h:∀a,St w ((zMd 0 l).map fun q=>(q.1,KF.o q.2)) [] fn.ntmps [] a w->c.wpIn Fence.wide 0 P (bodyPostM Fence.wide 0 P fn R) a w):Calls P f args w R:=
 xZ.1 (callsIn_of_wp_marks I hb trivial (h _ (zKp l J O)))
def wK(W:WB)(te:WF)(C:CU):SF:=⟨fun v w=>∃(b:Nat) (cs:List WE),v= pO b 0/\W.heap.size<=b/\w.heap[b]?=some (.cells cs.toArray te (0,0))/\C.p cs w/\cs.all zX=true,fun _ _ _ ⟨b,cs,h1,h2,h3,h4,h5⟩ hb=>⟨b,cs,h1,h2,(hb.block b (xP.1 h3).1).trans h3,C.us _ _ _ h4 (zO hb),h5⟩⟩
theorem zGB{C:CU}(v:WE)(w:WB)(h:(wK W te C).p v w):(wD C.cf).p v w:=by
 obtain⟨b,cs,I,_,h3,J,_⟩:=h
 exact⟨b,0,cs,I,J,zBd h3⟩
theorem zCs{C:CU}(h:W.heap.size<=W'.heap.size)(v:WE)(w:WB)(I:(wK W' te C).p v w):(wK W te C).p v w:=by
 obtain⟨b,cs,J,h2,h3⟩:=I
 exact⟨b,cs,J,xQ h h2,h3⟩
theorem StS.adopt(h:StS S w0 K B n ds a w){W:WB}{te:WF}{C:CU}(r:Bool)(t:Nat)(hv:(wK W te C).p (a.tmps.getD t undef) w)(hW:BlS S w0 W)(J:∀y,y∈B->y.b<W.heap.size∨(r=true/\y.r=true)):∃b,W.heap.size<=b/\StS S w0 K (⟨t,te,C,b,r⟩::B) n ds a w:=by
 obtain⟨b,cs,I,h2,h3,O,U⟩:=hv
 refine⟨b,h2,h.gr,h.size,h.nd,h.sl,⟨⟨cs,I,.inr (.inl (xQ hW.size h2)),h3,O,U,fun y hy=>?_⟩,h.bx⟩,h.mks,h.so⟩
 rcases J y hy with e|e
 .left
  show y.b≠b
  omega
 .exact .inr e
theorem StS.old(h:StS S w0 K B n ds a w):∀y,y∈B->y.b<w.heap.size:=fun y I=>by
 obtain⟨_,_,_,h3,_⟩:=h.bx.mem y I
 exact(xP.1 h3).1
theorem vM(h:St w0 K B n [] a w){fn:Func}{t c:Nat}{z:Bx}(O:fn.results=#[.tmp t])(J:zF0 B c=some z)(I:z.r=false)(hd:∀v W,(jM K B t).p v W->v= pO z.b 0):bodyPost P fn (Ret w0 (wK w0 z.e z.c)) .ret a w:=by
 obtain⟨hz,_⟩:=zAq J
 obtain⟨cs,h1,h2,h3,U,h5⟩:=h.bx.mem z hz
 have h6:w0.heap.size<=z.b:=by
  rcases h2 with e|e|e
  .rw[I]at e;cases e
  .exact e
  .exact e.elim
 refine⟨h.nd,a.tmps.getD t undef,?_,⟨_,rfl,⟨z.b,cs,hd _ _ (h.at.sl t),h6,h3,U,h5⟩,h.gr.below⟩⟩
 simp[results,O]
theorem zHb{c:Code}(b:Nat)(K0:List (Nat×UF))(B0:List Bx)
  (hf:P.funcs[f]?=some fn)(hb:fn.body=some c)(O:Nat.ble args.size fn.ntmps=true)(hK:∀q,q∈K0->q.1<args.size/\q.2.p (args.getD q.1 undef) w)
  (hB:yP (fun k=>k=b) w ⟨args, []⟩ w B0)(I:∀x,x∈B0->x.t<args.size)
  (h:∀a,StS (fun k=>k=b) w (K0.map fun q=>(q.1,KF.u q.2)) B0 fn.ntmps [] a w->c.wpIn Fence.wide 0 P (bodyPost P fn R) a w):Calls P f args w R:=by
 have O:=mG O
 refine zBT hf hb (h _ ⟨BlS.refl _ _,by simp;omega,rfl,fun q J=>?_,yP.keep (a:=⟨args, []⟩) (xF _ _) (fun _ _ h=>h) B0 (fun x hx=>?_) hB,⟨[],Marks.nil _ _⟩,.inl fun q J=>?_⟩)
 .obtain⟨p,U,rfl⟩:=xG.1 J
  obtain⟨h1,h2⟩:=hK p U
  have:(args++Array.replicate (fn.ntmps-args.size) undef).getD p.1 undef=args.getD p.1 undef:=by
   rw[xU,xU,mL h1]
  show p.2.p ((args++Array.replicate (fn.ntmps-args.size) undef).getD p.1 undef) w
  rw[this]
  exact h2
 .show(args++Array.replicate (fn.ntmps-args.size) undef).getD x.t undef=args.getD x.t undef
  rw[xU,xU,mL (I x hx)]
 .obtain⟨p,U,rfl⟩:=xG.1 J
  exact⟨_,rfl⟩
theorem StS.grown{b':Nat}(h:StS (fun k=>k=b') w0 K B n ds a w){b:Nat}(hb:b'=b):w0.grownBy w (some b):=by
 subst hb
 exact⟨h.gr.os,h.gr.tape,h.gr.output,h.gr.size,fun k J I=>h.gr.block k J fun e=>I (by rw[e])⟩
theorem StS.retS(h:StS (fun k=>k=b) w0 K B n [] a w){fn:Func}{f:SF}{C:CU}{c:Nat}{z:Bx}(O:zF0 B c=some z)(J:z.b=b)(I:z.c=C){v:WE}(U:(results fn a.tmps).run P w=.ok v w)(hv:f.p v w):bodyPost P fn (zO2 w0 b z.e C f) .ret a w:=by
 obtain⟨hz,_⟩:=zAq O
 obtain⟨cs,h1,h2,h3,h4,h5⟩:=h.bx.mem z hz
 subst J
 subst I
 exact⟨h.nd,v,U,_,rfl,hv,h.grown rfl,cs,h3,h4,h5⟩
theorem vH(h:StS (fun k=>k=b) w0 K B n [] a w){fn:Func}{f:SF}{C:CU}{c t:Nat}{z:Bx}(O:zF0 B c=some z)(I:z.b=b)(J:z.c=C)(U:fn.results=#[.tmp t])(hd:∀v W,(jM K B t).p v W->f.p v W):bodyPost P fn (zO2 w0 b z.e C f) .ret a w:=
 h.retS O I J (v:=a.tmps.getD t undef) (by simp[results,U]) (hd _ _ (h.at.sl t))
theorem vI(h:StS (fun k=>k=b) w0 K B n [] a w){fn:Func}{f:SF}{C:CU}{c:Nat}{z:Bx}(O:zF0 B c=some z)(I:z.b=b)(J:z.c=C)(U:fn.results=#[])(hd:∀W,f.p (.tuple #[]) W):bodyPost P fn (zO2 w0 b z.e C f) .ret a w:=
 h.retS O I J (v:=.tuple #[]) (by simp[results,U]) (hd _)
def zX4(K:List (Nat×KF))(ts:List Nat):List (Nat×KF):=K.filter fun q=> !ts.contains q.1
theorem StS.drop(h:StS S w0 K B n ds a w)(ts:List Nat):StS S w0 (zX4 K ts) B n ds a w:=⟨h.gr,h.size,h.nd,fun q I=>h.sl q (lV.1 I).1,h.bx,h.mks,h.so.imp (fun J q I=>J q (lV.1 I).1) (fun x=>x)⟩
theorem StS.keepK(h:StS S w0 K B n ds a w)(O:List (Nat×KF))(J:∀q,q∈O->q∈K):StS S w0 O B n ds a w:=⟨h.gr,h.size,h.nd,fun q I=>h.sl q (J q I),h.bx,h.mks,h.so.imp (fun U q I=>U q (J q I)) (fun x=>x)⟩
theorem StS.cond(h:StS S w0 K B n ds a w){c:WL}{x y:Code}(I:Bool)(O:∀v W,(Wd.fct (jM K B) c).p v W->v=.bool I)(ht:I=true->x.wpIn F m P Q a w)(J:I=false->y.wpIn F m P Q a w):(Code.cond c x y).wpIn F m P Q a w:=
 wpIn_cond_split (O _ _ (h.fct c)) ht J
theorem wF(h:St w0 K B n [] a w){fn:Func}{f:SF}{t:Nat}(J:fn.results=#[.tmp t])(I:∀v W,(jM K B t).p v W->f.p v W):bodyPost P fn (Ret w0 f) .ret a w:=by
 refine⟨h.nd,_,?_,⟨_,rfl,I _ _ (h.at.sl t),h.gr.below⟩⟩
 simp[results,J]
theorem StS.cellv(h:StS S w0 K B n ds a w){t kk:Nat}{e:WF}{C:CU}(J:zAf P e=some kk){y:Bx}(hB:zF0 B t=some y)(O:y.c=C)(I:∀cs W,C.p cs W->cs.length=kk):∃(cs:List WE) (b:Nat),a.tmps[t]?.getD undef= pO b 0/\(loadVar e ⟨b,0,none⟩).run P w=.ok (.agg cs.toArray) w/\C.p cs w:=by
 obtain⟨hy,rfl⟩:=zAq hB
 subst O
 obtain⟨cs,h1,h2,h3,U,h5⟩:=h.bx.mem y hy
 exact⟨cs,y.b,by rw[<-xU];exact h1,zHc J (I _ _ U) h3,U⟩
theorem wI(h:St w0 K B n [] a w){fn:Func}{f:SF}{t kk:Nat}{e:WF}(C:CU)(hr:fn.results=#[.cell t e])(O:zAf P e=some kk){y:Bx}(hB:zF0 B t=some y)(J:y.c=C)(I:∀cs W,C.p cs W->cs.length=kk)
  (hd:∀cs W,C.p cs W->f.p (.agg cs.toArray) W):bodyPost P fn (Ret w0 f) .ret a w:=by
 obtain⟨cs,b,h0,U,h2⟩:=h.cellv O hB J I
 refine⟨h.nd,.agg cs.toArray,?_,⟨_,rfl,hd _ _ h2,h.gr.below⟩⟩
 simp[results,hr,asAddr,h0,U]
theorem wW(h:St w0 K B n [] a w){fn:Func}{f:SF}{t r kk:Nat}{e:WF}(C:CU)(hr:fn.results=#[.cell t e,.tmp r])(O:zAf P e=some kk){y:Bx}(hB:zF0 B t=some y)(J:y.c=C)(I:∀cs W,C.p cs W->cs.length=kk)
  (hd:∀cs v W,C.p cs W->(jM K B r).p v W->f.p (.tuple #[.agg cs.toArray,v]) W):bodyPost P fn (Ret w0 f) .ret a w:=by
 obtain⟨cs,b,h0,U,h2⟩:=h.cellv O hB J I
 refine⟨h.nd,.tuple #[.agg cs.toArray,a.tmps.getD r undef],?_,⟨_,rfl,hd _ _ _ h2 (h.at.sl r),h.gr.below⟩⟩
 simp[results,hr,asAddr,h0,U]
theorem vN(h:St w0 K B n [] a w){fn:Func}{f:SF}{t s r kk J:Nat}{e e':WF}(C C':CU)(hr:fn.results=#[.cell t e,.cell s e',.tmp r])(ha:zAf P e=some kk)(U:zAf P e'=some J){y:Bx}(hB:zF0 B t=some y)(h8:y.c=C)(h5:∀cs W,C.p cs W->cs.length=kk){y':Bx}(h7:zF0 B s=some y')(O:y'.c=C')(I:∀cs W,C'.p cs W->cs.length=J)
  (hd:∀cs cs' v W,C.p cs W->C'.p cs' W->(jM K B r).p v W->f.p (.tuple #[.agg cs.toArray,.agg cs'.toArray,v]) W):bodyPost P fn (Ret w0 f) .ret a w:=by
 obtain⟨cs,b,h0,h1,h2⟩:=h.cellv ha hB h8 h5
 obtain⟨cs',b',h6,h9,h4⟩:=h.cellv U h7 O I
 refine⟨h.nd,.tuple #[.agg cs.toArray,.agg cs'.toArray,a.tmps.getD r undef],?_,⟨_,rfl,hd _ _ _ _ h2 h4 (h.at.sl r),h.gr.below⟩⟩
 simp[results,hr,asAddr,h0,h1,h6,h9]
end
set_option maxHeartbeats 800000
section
variable {F:Fence}{m:Nat}{P:WH}{ops:Array Oper}{Q:Exit->Act->WB->Prop}
def zEj(ops:Array Oper)(i:Nat):Bool:=match ops[i]? with
 |some ⟨some _,.move _,_,_,_,none⟩|some ⟨some _,.extract _ _,_,_,_,none⟩=>true
 |_=>false
def zCW(ops:Array Oper)(listed:Array Bool)(i:Nat):Bool:=zEj ops i&&Region.free .any ops listed i&&(Region.ready .any ops listed).contains i
def zKv(listed:Array Bool):List Nat->Array Bool
 | []=>listed
 |i::l=>zKv (listed.setIfInBounds i true) l
def zVn(ops:Array Oper):Array Bool->List Nat->Bool
 |_, []=>true
 |listed,i::l=>(match ops[i]? with|some ⟨some _,.move _,_,_,_,none⟩=>true|_=>false)&&zCW ops listed i&&zVn ops (listed.setIfInBounds i true) l
theorem zCX(v:WE)(j:Nat)(w w':WB){r:WE}(h:(Instr.extract v j).run P w=.ok r w):(Instr.extract v j).run P w'=.ok r w':=by
 unfold Instr.extract at h ⊢
 split at h
 .rename_i vs
  cases hv:vs[j]? with
  |none=>rw[hv]at h;simp at h
  |some u=>
   rw[hv]at h
   simp at h
   simp[h]
 .simp at h
theorem zJV(h5:jW ops=true)(O:Region.noSelect ops=true){k:Nat}(h4:∀r,r<ops.size-k->Region.ready .any ops (yF ops.size (k+r))=[k+r]∨zCW ops (yF ops.size (k+r)) (k+r)=true):
  ∀(f r:Nat) (a:Act) (w:WB),k+r+f=ops.size->wpOpsIn F m P ops (qK Q) (List.range' (k+r) f) a w->jJ F m P .any ops ops.size (fun _=>True) (qK Q) f (yF ops.size (k+r)) a w
 | 0,r,a,w,hf,h=>by
  refine⟨lF.2 fun i hi=>?_,h⟩
  have h1:=(cH.1 hi).1
  have I:i<ops.size:=by
   obtain⟨_,o,ho,_⟩:=cH.1 hi
   exact(xP.1 ho).1
  rw[xU,zET I]at h1
  simp at h1
  omega
 | f+1,r,a,w,hf,h=>by
  rw[eE,eF]at h
  have I:k+r<ops.size:=by omega
  rcases h4 r oA with hr|ht
  .refine⟨fun e=>(by rw[hr]at e;cases e),fun i hi=>?_⟩
   rw[hr]at hi
   obtain rfl:i=k+r:=by simpa using hi
   refine eJ (fun a w h=>⟨.inr trivial,?_⟩) h
   rw[zC7 I]
   exact zJV h5 O h4 f (r+1) a w oA h
  .unfold zCW at ht
   simp only[xV]at ht
   obtain⟨⟨J,h8⟩,h7⟩:=ht
   have ho:ops[k+r]?=some ops[k+r]:=cC I
   have h9:∃d v,ops[k+r].dst=some d/\zAn P ops (fun _=>True) ops[k+r] v a/\wpOpsIn F m P ops (qK Q) (List.range' (k+r+1) f) (a.put (some d) v) w:=by
    unfold zEj at J
    rw[ho]at J
    unfold wpOpIn at h
    rw[ho]at h
    generalize ops[k+r]=o at J h
    split at J
    .rename_i d x ty pos aft he
     cases he
     refine⟨d,a.eval x,rfl,⟨.inl ⟨rfl,fun w _=>rfl⟩,fun w=>rfl⟩,?_⟩
     have h2:=h.2
     rw[bI _ _ _ (fun _ e=>by cases e)]at h2
     exact h2
    .rename_i d x j ty pos aft he
     cases he
     have h2:=h.2
     rw[bI _ _ _ (fun _ e=>by cases e)]at h2
     cases hrun:(Instr.extract (a.eval x) j).run P w with
     |halt y w'=>
      have he:(execOp a.eval ⟨some d,.extract x j,ty,pos,aft,none⟩).run P w=.halt y w':=by simp[execOp,hrun]
      rw[he]at h2
      cases y<;>exact h2.elim
     | ok v w'=>
      have hw:w'=w:=by
       unfold Instr.extract at hrun
       split at hrun
       .split at hrun
        .simp at hrun;exact hrun.2.symm
        .simp at hrun
       .simp at hrun
      subst hw
      have he:(execOp a.eval ⟨some d,.extract x j,ty,pos,aft,none⟩).run P w'=.ok (.value v) w':=by simp[execOp,hrun]
      rw[he]at h2
      exact⟨d,v,rfl,⟨.inl ⟨rfl,fun w _=>by simp[execOp,zCX _ _ _ w hrun]⟩,fun w=>rfl⟩,h2⟩
    .cases J
   obtain⟨d,v,hd,hy,U⟩:=h9
   refine zP (i:=k+r) (v:=v) h5 ?_ ho O h8 h7 (fun _ _ _ h=>h) trivial hy ?_
   .unfold zBA
    rw[cB (vP _)]
   .rw[hd,zC7 I]
    exact zJV h5 O h4 f (r+1) _ w oA U
def zC2(ops:Array Oper)(pre:List Nat)(t:Nat):Bool:=pre.any fun i=>zT ops i==some t
def zIH(ops:Array Oper)(k i:Nat):Bool:=match ops[i]? with
 |some ⟨some _,.move x,_,_,_,none⟩=>(match x with| .tmp t=>(List.range k).all fun j=> !(zT ops j==some t)|_=>true)
 |_=>false
def zHs(ops:Array Oper)(k:Nat):Array Bool->List Nat->Bool
 |_, []=>true
 |listed,i::l=>zIH ops k i&&zCW ops listed i&&zHs ops k (listed.setIfInBounds i true) l
theorem zRH{w0:WB}{G G1:Nat->SF}{n k:Nat}(hd:jW ops=true)(h9:Region.noSelect ops=true)(h7:zAy ops n=true)(hn:jG ops=true)(hG:∀t,(∀j,j<k->zT ops j≠some t)->G1 t=G t)(J:∀i o,ops[i]?=some o->zEj ops i=true->i<k->qO F m P w0 ops G1 o):
  ∀(pre done:List Nat) (listed:Array Bool) (f:Nat) (a:Act) (w:WB),(∀i,i∈done->i<k)->zHs ops k listed pre=true->(∀i,i∈pre->i<k)->bW w0 w->a.tmps.size=n->(∀t,zC2 ops done t=true->(G1 t).p (a.tmps.getD t undef) w)->(∀t,zC2 ops done t=false->(G t).p (a.tmps.getD t undef) w)->
  (∀a',a'.tmps.size=n->a'.defers=a.defers->(∀t,zC2 ops (done++pre) t=true->(G1 t).p (a'.tmps.getD t undef) w)->(∀t,zC2 ops (done++pre) t=false->(G t).p (a'.tmps.getD t undef) w)->jJ F m P .any ops ops.size (fun _=>True) (qK Q) f (zKv listed pre) a' w)->
  jJ F m P .any ops ops.size (fun _=>True) (qK Q) (f+pre.length) listed a w
 | [],done,listed,f,a,w,_,_,_,_,hs,h1,h2,h=>h a hs rfl (by simpa using h1) (by simpa using h2)
 | i::l,done,listed,f,a,w,hdk,hc,hik,hb,hs,h1,h2,h=>by
  rw[zHs,xV,xV]at hc
  obtain⟨⟨hm,ht⟩,hl⟩:=hc
  have h5:zEj ops i=true:=by
   unfold zCW at ht
   simp only[xV]at ht
   exact ht.1.1
  unfold zCW at ht
  simp only[xV]at ht
  obtain⟨⟨_,h6⟩,hq⟩:=ht
  unfold zIH at hm
  cases ho:ops[i]? with
  |none=>rw[ho]at hm;cases hm
  | some o=>
   rw[ho]at hm
   have hg:=J i o ho h5 (hik i fC)
   obtain⟨d,x,ty,pos,aft,rfl,hx⟩:∃d x ty pos aft,o=⟨some d,.move x,ty,pos,aft,none⟩/\(match x with| .tmp t=>(List.range k).all fun j=> !(zT ops j==some t)|_=>true)=true:=by
    split at hm
    .rename_i d x ty pos aft he
     cases he
     exact⟨_,_,_,_,_,rfl,hm⟩
    .cases hm
   have U:d<n:=qP h7 ho rfl
   have O:(G1 d).p (a.eval x) w:=by
    have:=hg a w (fun a' w'=>(G1 d).p (a'.tmps.getD d undef) w') Q hb (fun t ht=>by
     have hp:x=.tmp t:=by
      simp only[zDH,Op.operands,lC]at ht
      obtain⟨y,hy,he⟩:=ht
      simp at hy
      subst hy
      cases y with
      |tmp u=>simp at he;rw[he]
      |_=>simp at he
     subst hp
     have ha:∀j,j<k->zT ops j≠some t:=fun j hk I=>by
      have:=xR.1 hx j (xT.2 hk)
      rw[I]at this
      simp at this
     rw[hG t ha]
     refine h2 t ?_
     unfold zC2
     refine cN.2 fun j I=>?_
     simp[ha j (hdk j I)]) fun v W' hv _=>(by
      rw[zAd (by rw[hs];exact U)]
      exact hv d rfl)
    have h3:=this.2
    rw[bI _ _ _ (fun _ e=>by cases e)]at h3
    have h4:(G1 d).p ((a.put (some d) (a.eval x)).tmps.getD d undef) w:=h3
    rwa [zAd (by rw[hs];exact U)]at h4
   have hf:f+(i::l).length=(f+l.length)+1:=by simp;omega
   rw[hf]
   refine zP (i:=i) (v:=a.eval x) hd ?_ ho h9 h6 hq (fun _ _ _ h=>h) trivial ⟨.inl ⟨rfl,fun w _=>rfl⟩,fun w=>rfl⟩ ?_
   .unfold zBA
    rw[cB (vP _)]
   .have hh:∀t,zC2 ops (done++ [i]) t=(zC2 ops done t||(d==t)):=fun t=>by
     unfold zC2
     rw[List.any_append]
     simp[qU ho]
    refine zRH hd h9 h7 hn hG J l (done++ [i]) _ f _ w (fun j I=>by
     rcases vV.1 I with I|I
     .exact hdk j I
     .simp at I;subst I;exact hik j fC) hl (fun j I=>hik j (by simp[I])) hb (by rw[zDn];exact hs) (fun t ht=>?_) (fun t ht=>?_) fun a' g1 g2 g3 g4=>?_
    .rw[hh,cY]at ht
     by_cases e:d=t
     .subst e
      rw[zAd (by rw[hs];exact U)]
      exact O
     .rw[zAz e]
      exact h1 t (ht.resolve_right (by simpa using e))
    .rw[hh,fZ]at ht
     have e:d≠t:=by simpa using ht.2
     rw[zAz e]
     exact h2 t ht.1
    .rw[lX]at g3 g4
     exact h a' g1 (by rw[g2,zBV]) g3 g4
theorem zKu:∀(pre:List Nat) (listed:Array Bool) (j:Nat),j<listed.size->(zKv listed pre)[j]?=some (listed.getD j false||pre.contains j)
 | [],listed,j,hj=>by simp[zKv,hj]
 | i::l,listed,j,hj=>by
  show(zKv (listed.setIfInBounds i true) l)[j]?=_
  rw[zKu l _ j (by simpa using hj)]
  by_cases e:i=j
  .subst e
   simp[hj]
  .rw[bH false e]
   have: ¬j=i:=fun h=>e h.symm
   simp[this]
theorem zIl:∀(pre:List Nat) (listed:Array Bool),(zKv listed pre).size=listed.size
 | [],_=>rfl
 |i::l,listed=>by
  show(zKv (listed.setIfInBounds i true) l).size=_
  rw[zIl l]
  simp
def zCf(ops:Array Oper)(pre:List Nat)(k n:Nat)(keys:List Nat):Bool:=
 jG ops&&zAy ops n&&jW ops&&Region.noSelect ops&&decide (k<=ops.size)&&
 keys.all (fun t=>(List.range k).any fun i=>zT ops i==some t)&&
 zHs ops k (Array.replicate ops.size false) pre&&pre.all (fun i=>decide (i<k))&&
 (List.range k).all (fun i=>pre.contains i||match ops[i]? with
  |none=>true
  |some o=>(looks ops o).all fun t=>(List.range ops.size).all fun j=> !(zT ops j==some t)||pre.contains j||o.after.any fun e=>Region.binds .any e&&e.on==j)&&
 zBx ops&&zGZ ops (zKv (Array.replicate ops.size false) pre) k&&zDc ops (zKv (Array.replicate ops.size false) pre)&&zGz (zKv (Array.replicate ops.size false) pre) k&&
 ((zKv (Array.replicate ops.size false) pre).count false==ops.size-pre.length)&&decide (pre.length<=ops.size)&&
 (List.range (ops.size-k)).all fun r=>Region.ready .any ops (yF ops.size (k+r))==[k+r]||zCW ops (yF ops.size (k+r)) (k+r)
theorem zCZ{G:Nat->SF}(I:List Nat)(k:Nat)(L:List (Nat×SF))(hmix:P.follows .mixedOrders=true)
  (hg:zCf ops I k n (L.map (·.1))=true)(h:At w0 G n ds a w)(hN:Obs F m P w0 ops (upd G L) (ops.toList.take k))
  (hM:∀a w,At w0 (zC6 ops k (upd G L)) n ds a w->wpOpsIn F m P ops (qK Q) (List.range' k (ops.size-k)) a w):(Code.region id ops true).wpIn F m P Q a w:=by
 unfold zCf at hg
 simp only[xV]at hg
 obtain⟨⟨⟨⟨⟨⟨⟨⟨⟨⟨⟨⟨⟨⟨⟨hV,hz⟩,hW⟩,hT⟩,hk⟩,hB⟩,hR⟩,hP⟩,qd⟩,hS⟩,q7⟩,q0⟩,hZ⟩,hJ⟩,hq⟩,q3⟩:=hg
 have hk:=xW hk
 have hq:=xW hq
 have hu:∀i,i∈I->i<k:=fun i hi=>xW (xR.1 hP i hi)
 have hn:∀i o,i<k->ops[i]?=some o->qO F m P w0 ops (upd G L) o:=fun i o hi ho=>hN.get i o (by rw[eM hi];simpa using ho)
 have hs:∀t,(∀j,j<k->zT ops j≠some t)->upd G L t=G t:=fun t ht=>by
  refine jP ?_
  cases hc:(L.map (·.1)).contains t with
  |false=>rfl
  |true=>
   exfalso
   have hm:=bU.1 hc
   obtain⟨i,hi,he⟩:=bQ.1 (xR.1 hB t hm)
   exact ht i (xT.1 hi) (by simpa using he)
 have hL:∀r,r<ops.size-k->Region.ready .any ops (yF ops.size (k+r))=[k+r]∨zCW ops (yF ops.size (k+r)) (k+r)=true:=fun r hr=>by
  have:=xR.1 q3 r (xT.2 hr)
  simpa using this
 have h0:bW w w.drew:=(xF _ w).drew
 refine yC ops.size (fun _=>True) hmix ?_
 rw[show ops.size=(ops.size-I.length)+I.length from by omega]
 rw[show(ops.size-I.length)+I.length=ops.size from by omega]
 have q2:jJ F m P .any ops ops.size (fun _=>True) (qK Q) (ops.size-I.length+I.length) (Array.replicate ops.size false) a w.drew:=by
  refine zRH (w0:=w0) (G:=G) (G1:=upd G L) (n:=n) (k:=k) hW hT hz hV hs (fun i o ho _ hi=>hn i o hi ho) I [] _ _ a w.drew (fun i hi=>by cases hi) hR hu (h.gr.trans (h0.mono h.gr.size)) h.size (fun t ht=>by cases ht) (fun t _=>(G t).st _ _ _ (h.sl t) h0) ?_
  intro a1 hD qa h1 h2
  rw[lT]at h1 h2
  have h7:∀j,j<ops.size->(zKv (Array.replicate ops.size false) I).getD j true=I.contains j:=fun j O=>by
   rw[xU,zKu I _ j (by simpa using O)]
   simp[O]
  have hI:∀t,(∀j,zT ops j=some t->I.contains j=true)->zBl ops (zKv (Array.replicate ops.size false) I) t=false:=fun t ht=>by
   cases hd:zBl ops (zKv (Array.replicate ops.size false) I) t with
   |false=>rfl
   |true=>
    exfalso
    unfold zBl at hd
    obtain⟨i,hi,hp⟩:=bQ.1 hd
    simp only[xV,bJ]at hp
    have h3:=ht i (by rw[<-zCN];exact hp.2)
    rw[h7 i (xT.1 hi),h3]at hp
    exact absurd hp.1 (by decide)
  have h9:∀t,(∀j,zT ops j=some t->I.contains j=true)->(upd G L t).p (a1.tmps.getD t undef) w.drew:=fun t ht=>by
   by_cases hp:zC2 ops I t=true
   .exact h1 t hp
   .have hw:zC2 ops I t=false:=by simpa using hp
    have q5:∀j,zT ops j≠some t:=fun j O=>by
     have h3:=ht j O
     unfold zC2 at hw
     have:=cN.1 hw j (bU.1 h3)
     rw[O]at this
     simp at this
    rw[hs t fun j _=>q5 j]
    exact h2 t hw
  refine zHV (k:=k) (z:=ops.size) (w:=w.drew) (fun _=>false) (fun i v W=>∀o,ops[i]?=some o->∀d,o.dst=some d->(upd G L d).p v W) (fun W=>bW w0 W/\Below w.drew.heap.size w.drew W) hS q7 hV (by rw[hD];exact hz) (by simpa using hk) (by simpa using hJ) (by rw[zIl];simp) q0 hZ (fun W W' hC hb=>⟨hC.1.trans (hb.mono hC.1.size),hC.2.trans (hb.mono hC.2.size)⟩) (fun i v W W' hE hb o ho d hd=>(upd G L d).st _ _ _ (hE o ho d hd) hb) ⟨h.gr.trans (h0.mono h.gr.size),xF _ _⟩ ?spec ?fin
  case spec=>
   intro i hU hl o ho b W hf K hK
   have qc:I.contains i=false:=by rw[<-h7 i (xP.1 ho).1];exact hl
   refine zAs ho (hn i o hU ho) (fun j g O=>?_) hf.at_.cls.1 (fun t ht=>?_) (fun v W' hv hb=>hK v W' (fun o' hX d hd=>by rw[ho]at hX;cases hX;exact hv d hd) hb (fun e=>by cases e))
   .rw[hf.at_.size,hD]
    obtain⟨oj,J,h6⟩:=qE O
    exact qP hz J h6
   .by_cases hex:∃j,zT ops j=some t/\I.contains j=false
    .obtain⟨j,O,hh⟩:=hex
     obtain⟨oj,J,h6⟩:=qE O
     have h3:=xR.1 qd i (xT.2 hU)
     rw[qc,cR,ho]at h3
     have h4:=xR.1 (xR.1 h3 t ht) j (xT.2 (xP.1 J).1)
     rw[O,hh]at h4
     simp only[beq_self_eq_true,fX,cR]at h4
     obtain⟨x,hx,he⟩:=eX.1 h4
     simp only[xV,bJ]at he
     exact hf.at_.vals j oj t ⟨by rw[h7 j (xP.1 J).1];exact hh,_,eA hx,he.1,he.2⟩ J h6 oj J t h6
    .have U:∀j,zT ops j=some t->I.contains j=true:=fun j O=>by
      cases hc:I.contains j with
      |true=>rfl
      |false=>exact(hex ⟨j,O,hc⟩).elim
     rw[hf.at_.keep t (hI t U)]
     exact(upd G L t).st _ _ _ (h9 t U) hf.at_.cls.2
  case fin=>
   intro b W hf
   have hA:At w0 (zC6 ops k (upd G L)) n ds b W:=⟨hf.at_.cls.1,by rw[hf.at_.size];exact hD,by rw[hf.at_.defers,qa];exact h.nd,fun t=>by
    unfold zC6
    cases hc:(List.range ops.size).any fun i=>decide (k<=i)&&(zT ops i==some t)with
    |true=>trivial
    | false=>
     show(upd G L t).p _ _
     by_cases hex:∃j,zT ops j=some t/\I.contains j=false
     .obtain⟨j,O,hh⟩:=hex
      obtain⟨oj,J,h6⟩:=qE O
      have hO:=(xP.1 J).1
      have h3:=cN.1 hc j (xT.2 hO)
      simp[O]at h3
      exact hf.at_.vals j oj t ⟨by omega,by rw[h7 j hO];exact hh⟩ J h6 oj J t h6
     .have U:∀j,zT ops j=some t->I.contains j=true:=fun j O=>by
       cases hc:I.contains j with
       |true=>rfl
       |false=>exact(hex ⟨j,O,hc⟩).elim
      rw[hf.at_.keep t (hI t U)]
      exact(upd G L t).st _ _ _ (h9 t U) hf.at_.cls.2⟩
   have h5:=zJV (Q:=Q) hW hT hL (ops.size-k) 0 b W oA (by simpa using hM b W hA)
   simpa using h5
 rwa [show ops.size-I.length+I.length=ops.size from by omega]at q2
theorem yL{K:List (Nat×KF)}{B:List Bx}(U:List Nat)(k:Nat)(L:List (Nat×Rw))(hmix:P.follows .mixedOrders=true)(h:StS S w0 K B n ds a w)
  (I:(zCf ops U k n (L.map (·.1))&&jQ ops (K.map (·.1)++B.map (·.t))&&jY (L.map (·.1)))=true)
  (O:Obs F m P w ops (upd (jM K B) (zK L)) (ops.toList.take k))
  (h1:∀Q',(∀a w,Q .normal a w->Q' .normal a w)->∀a w,StS S w0 (zA4 L++K) B n ds a w->zAW F m P ops Q' k a w):(Code.region id ops true).wpIn F m P Q a w:=by
 simp only[xV]at I
 have J:(zK L).map (·.1)=L.map (·.1):=by simp[zK]
 have h0:=I.1.1
 unfold zCf at h0
 simp only[xV]at h0
 obtain⟨⟨⟨⟨⟨⟨⟨⟨⟨⟨⟨⟨⟨⟨⟨h5,_⟩,_⟩,_⟩,_⟩,h4⟩,_⟩,_⟩,_⟩,_⟩,_⟩,_⟩,_⟩,_⟩,_⟩,_⟩:=h0
 exact zDm k L h (fun G' hA hO hF=>zCZ U k (zK L) hmix (by rw[J];exact I.1.1) hA hO hF) h5 h4 I.1.2 I.2 O (fun a w h _=>h1 (qK Q) (fun a w h=>h) a w h)
theorem zG6{w0:WB}{G:Nat->SF}{n k:Nat}{a0:Act}{wA:WB}(hg:jG ops=true)(h6:zAy ops n=true)(hk:k<=ops.size)
  (hh:∀i o,i<k->ops[i]?=some o->∀t,t∈looks ops o->∀j,zT ops j=some t->j<i∨k<=j)
  (h9:∀t,(∀j,j<k->zT ops j≠some t)->(G t).p (a0.tmps.getD t undef) wA)
  (U:∀i o,i<k->ops[i]?=some o->qO F m P w0 ops G o)
  (O:∀a w,bW w0 w->a.tmps.size=n->a.defers=a0.defers->(∀t,(G t).p (a.tmps.getD t undef) w)->wpOpsIn F m P ops Q (List.range' k (ops.size-k)) a w):
  ∀(r i:Nat) (a:Act) (w:WB),i+r=k->bW wA w->bW w0 w->a.tmps.size=n->a.defers=a0.defers->
   (∀t,(∃j,j<i/\zT ops j=some t)->(G t).p (a.tmps.getD t undef) w)->(∀t,(∀j,j<i->zT ops j≠some t)->a.tmps.getD t undef=a0.tmps.getD t undef)->
   wpOpsIn F m P ops Q (List.range' i (ops.size-i)) a w
 | 0,i,a,w,hi,hA,h0,hs,hd,h1,h2=>by
  obtain rfl:i=k:=by omega
  refine O a w h0 hs hd fun t=>?_
  by_cases ht:∃j,j<i/\zT ops j=some t
  .exact h1 t ht
  .have J:∀j,j<i->zT ops j≠some t:=fun j hj he=>ht ⟨j,hj,he⟩
   rw[h2 t J]
   exact(G t).st _ _ _ (h9 t J) hA
 | r+1,i,a,w,hi,hA,h0,hs,hd,h1,h2=>by
  have hf:i<k:=by omega
  have hl:i<ops.size:=by omega
  rw[show ops.size-i=(ops.size-(i+1))+1 from by omega,eE,eF]
  have ho:ops[i]?=some ops[i]:=cC hl
  refine zAs ho (U i _ hf ho) (fun j g hj=>?_) h0 (fun t ht=>?_) fun v W' hv hb=>?_
  .rw[hs]
   obtain⟨oj,h5,h8⟩:=qE hj
   exact qP h6 h5 h8
  .by_cases hex:∃j,j<i/\zT ops j=some t
   .exact h1 t hex
   .have J:∀j,j<i->zT ops j≠some t:=fun j hj he=>hex ⟨j,hj,he⟩
    have hc:∀j,j<k->zT ops j≠some t:=fun j hj he=>by
     rcases hh i _ hf ho t ht j he with h3|h3
     .exact J j h3 he
     .omega
    rw[h2 t J]
    exact(G t).st _ _ _ (h9 t hc) hA
  .refine zG6 hg h6 hk hh h9 U O r (i+1) _ W' oA (hA.trans (hb.mono hA.size)) (h0.trans (hb.mono h0.size)) (by rw[zDn];exact hs) (by rw[zBV];exact hd) (fun t ⟨j,hj,ht⟩=>?_) (fun t ht=>?_)
   .by_cases hji:j=i
    .subst hji
     rw[qU ho]at ht
     have I:ops[j].dst=some t:=ht
     have h3:=hv t I
     rw[I,zAd (by rw[hs];exact qP h6 ho I)]
     exact h3
    .rw[zFf]
     .exact(G t).st _ _ _ (h1 t ⟨j,by omega,ht⟩) hb
     .intro I
      obtain⟨oj,h5,h8⟩:=qE ht
      exact zAe hg ho h5 (bB hji) I h8
   .rw[zFf]
    .exact h2 t (fun j hj=>ht j oA)
    .intro I
     exact ht i oA (by rw[qU ho];exact I)
def zFg(ops:Array Oper)(k n:Nat)(keys:List Nat):Bool:=
 jG ops&&zAy ops n&&jW ops&&decide (k<=ops.size)&&
 keys.all (fun t=>(List.range k).any fun i=>zT ops i==some t)&&
 (List.range k).all (fun i=>match ops[i]? with
  |none=>true
  |some o=>(looks ops o).all fun t=>(List.range ops.size).all fun j=> !(zT ops j==some t)||decide (j<i)||decide (k<=j))
def zGm(ops:Array Oper)(k:Nat)(ts:List Nat):Bool:=ts.all fun t=>(List.range k).all fun i=> !(zT ops i==some t)
theorem zW{K:List (Nat×KF)}{B:List Bx}(k:Nat)(L:List (Nat×Rw))(h:StS S w0 K B n ds a w)
  (I:(zFg ops k n (L.map (·.1))&&zGm ops k (K.map (·.1)++B.map (·.t))&&jY (L.map (·.1)))=true)
  (hn:Obs F m P w ops (upd (jM K B) (zK L)) (ops.toList.take k))
  (hf:∀a w,StS S w0 (zA4 L++K) B n ds a w->zAW F m P ops Q k a w):(Code.region id ops false).wpIn F m P Q a w:=by
 simp only[xV]at I
 obtain⟨⟨I,hD⟩,hE⟩:=I
 unfold zFg at I
 simp only[xV]at I
 obtain⟨⟨⟨⟨⟨hL,hJ⟩,hpl⟩,hk⟩,h8⟩,hN⟩:=I
 have hk:=xW hk
 have hz:(zK L).map (·.1)=L.map (·.1):=by simp[zK]
 have h7:∀t,t∈K.map (·.1)++B.map (·.t)->∀i,i<k->zT ops i≠some t:=fun t ht i hi he=>by
  have h2:=xR.1 (xR.1 hD t ht) i (xT.2 hi)
  rw[he]at h2
  simp at h2
 have hA:=h.at
 have hK:∀t,(∀j,j<k->zT ops j≠some t)->upd (jM K B) (zK L) t=jM K B t:=fun t ht=>by
  refine jP ?_
  cases hc:((zK L).map (·.1)).contains t with
  |false=>rfl
  |true=>
   exfalso
   have hm:=bU.1 hc
   rw[hz]at hm
   obtain⟨i,hi,he⟩:=bQ.1 (xR.1 h8 t hm)
   exact ht i (xT.1 hi) (by simpa using he)
 refine wpIn_region ?_
 rw[lG]
 -- the table, the kept slots' values said
 let G1:Nat->SF:=fun t=>if t∈K.map (·.1)++B.map (·.t)then⟨fun v W=>(upd (jM K B) (zK L) t).p v W/\v=a.tmps.getD t undef,fun _ _ _ h hb=>⟨(upd (jM K B) (zK L) t).st _ _ _ h.1 hb,h.2⟩⟩else upd (jM K B) (zK L) t
 have h6:∀t v W,(G1 t).p v W->(upd (jM K B) (zK L) t).p v W:=fun t v W hh=>by
  by_cases ht:t∈K.map (·.1)++B.map (·.t)
  .simp only[G1,if_pos ht]at hh
   exact hh.1
  .simp only[G1,if_neg ht]at hh
   exact hh
 have hl:∀t,(∃i,i<k/\zT ops i=some t)->G1 t=upd (jM K B) (zK L) t:=fun t ⟨i,hi,he⟩=>by
  simp only[G1]
  rw[if_neg fun ht=>h7 t ht i hi he]
 have h5:∀i o,i<k->ops[i]?=some o->qO F m P w ops G1 o:=fun i o hi ho=>by
  have hg:=hn.get i o (by rw[eM hi];simpa using ho)
  have hB:zMg F m P w (upd (jM K B) (zK L)) o->zMg F m P w G1 o:=fun J b W K' Q' hb hr hM=>
   J b W K' Q' hb (fun t ht=>h6 t _ _ (hr t ht)) fun v W' hv hb'=>hM v W' (fun d hd=>by rw[hl d ⟨i,hi,by rw[qU ho];exact hd⟩];exact hv d hd) hb'
  unfold qO at hg ⊢
  cases hgd:o.guard with
  |none=>rw[hgd]at hg;exact hB hg
  |some q=>
   rw[hgd]at hg
   obtain⟨g,bv,J,h2,h3,h4⟩:=hg
   exact⟨g,bv,J,fun v W hh=>h2 v W (h6 g v W hh),fun e=>hB (h3 e),fun e=>⟨fun d hd W=>by rw[hl d ⟨i,hi,by rw[qU ho];exact hd⟩];exact(h4 e).1 d hd W,(h4 e).2⟩⟩
 refine zG6 (G:=G1) (k:=k) (n:=n) (a0:=a) (wA:=w) (w0:=w) hL hJ hk (fun i o hi ho t ht j hj=>?_) (fun t ht=>?_) h5 (fun a' w' hb hs hd hh=>?_) k 0 a w oA (xF _ _) (xF _ _) h.size rfl (fun t ⟨j,hj,_⟩=>absurd hj oA) (fun t _=>rfl)
 .have J:=xR.1 hN i (xT.2 hi)
  rw[ho]at J
  obtain⟨oj,hF,_⟩:=qE hj
  have h2:=xR.1 (xR.1 J t ht) j (xT.2 (xP.1 hF).1)
  rw[hj]at h2
  simpa using h2
 .have J:=hA.sl t
  rw[<-hK t ht]at J
  by_cases hm:t∈K.map (·.1)++B.map (·.t)
  .simp only[G1,if_pos hm]
   exact⟨J,by first|rfl|trivial⟩
  .simp only[G1,if_neg hm]
   exact J
 .have U:∀t,t∈K.map (·.1)++B.map (·.t)->a'.tmps.getD t undef=a.tmps.getD t undef:=fun t ht=>by
   have J:=hh t
   simp only[G1,if_pos ht]at J
   exact J.2
  refine hf a' w' ⟨h.gr.trans hb,hs,by rw[hd];exact h.nd,fun q O=>?_,h.bx.keep hb (zO hb) B fun x hx=>U _ (cQ _ (xG.2 ⟨x,hx,rfl⟩)),zAx h.mks hb,h.so.imp (fun hu q O=>(by
   rcases vV.1 O with O|O
   .obtain⟨f,e,_⟩:=jO O;exact⟨f,e⟩
   .exact hu q O)) (fun x=>x)⟩
  rcases vV.1 O with O|O
  .obtain⟨f,hO,hm⟩:=jO O
   have hG:((q.1,f.tS):Nat×SF)∈zK L:=xG.2 ⟨_,hm,rfl⟩
   have J:=h6 q.1 _ _ (hh q.1)
   rw[zCz (q:=(q.1,f.tS)) (by rw[hz];exact hE) hG]at J
   rw[hO]
   exact J
  .rw[U q.1 (cT _ (xG.2 ⟨q,O,rfl⟩))]
   exact KF.us (h.sl q O) (zO hb)
end
end Go.Proofs.Wd
