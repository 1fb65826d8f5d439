/- The calculus of walks by facts: the single operations; The calculus of and what it needs. -/
import Derived.Test.YtihcepanbejfpaaGreatDoorMEW3
import Derived.Great.BuildSlice
import Derived.Shelf.Abstract
theorem fC{P:Prop}(h:P:=by simp):P:=h
abbrev lP:=@Go.wpIn_seq
abbrev lQ:=@List.getElem?_eq_getElem
abbrev lR:=@List.mem_filter
abbrev lS:=@List.nil_append
abbrev lT:=@List.take_of_length_le
abbrev lU:=@List.length_cons
abbrev lV:=@Option.some.inj
abbrev lW:=@List.append_assoc
abbrev lX:=@Option.some.injEq
abbrev lY:=@Option.map_eq_some_iff
abbrev lZ:=@List.all_append
abbrev mA:=@Option.map_some
abbrev mB:=@Go.setRow_heap
abbrev mC:=@List.take_zero
abbrev mD:=@Nat.beq_refl
abbrev mE:=@Go.Oper.uponIn_enter
abbrev mF:=@List.take_succ_eq_append_getElem
abbrev mG:=@Option.bind_some
abbrev mH:=@Nat.le_of_ble_eq_true
abbrev mI:=@Go.setRow_other
abbrev mJ:=@List.mem_of_getElem?
abbrev mK:=@Array.getElem_modify
abbrev mL:=@Array.getElem?_append_left
abbrev WL:=Go.Operand
theorem fL{P:Prop}(h:P:=by kernel_rfl):P:=h
namespace Go.Proofs.Wd
open Go.RowKit
variable {b c d i id j k kk n:Nat}{W W' w w' w0:WB}{v:WE}{op:Op}{x y z:WL}{cs:List WE}{f:FuncId}{e t te ty:WF}{A B C:SF}{xs:Array WL}{ats:Array WF}{fn:Func}{args vs:Array WE}{pos:String}{aft:Array Edge}{S:Nat->Prop}{ds:List Deferred}{ops:Array Oper}{draw:Bool}{a:Act}{R:Ending->WB->Prop}
section
variable {F:Fence}{m:Nat}{P:WH}{w0:WB}{ops:Array Oper}{G:Nat->SF}{d:Tmp}{ty:WF}{pos:String}{aft:Array Edge}
def fct(G:Nat->SF):WL->SF
 | .tmp t=>G t
 | .const v=>SF.eq v
 | .func f=>SF.eq (.func (.func f) #[] #[])
 | .global g=>SF.eq (.pointer (some ⟨g,0,none⟩))
theorem qB{b:Act}{o:Oper}(h:∀t,t∈zDY o->(G t).p (b.tmps.getD t undef) W){x:WL}(I:x∈o.op.operands.toList):(fct G x).p (b.eval x) W:=by
 cases x with
 |tmp t=>exact h t (lE.2 ⟨_,I,rfl⟩)
 |const v=>rfl
 |func f=>rfl
 |global g=>rfl
theorem zCl{o:Oper}{b:Act}{K:Act->WB->Prop}{Q:Exit->Act->WB->Prop}(U:∀c,o.op≠ .defer c)(hc:∀c,o.op≠ .call c)(I:(execOp b.eval o).run P W=.ok (.value v) W')(hK:K (b.put o.dst v) W'):o.wpIn F m P b W K Q:=by
 refine⟨fun f J=>?_,?_⟩
 .unfold Oper.about at J
  split at J
  .rename_i c O;exact absurd O (hc c)
  .cases J
 .rw[bH _ _ _ U,I]
  exact hK
theorem qG(O:∀c,op≠ .defer c)(U:∀c,op≠ .call c)
  (h:∀(b:Act) (W:WB),Below w0.heap.size w0 W->(∀x,x∈op.operands.toList->(fct G x).p (b.eval x) W)->∃v,(execOp b.eval ⟨some d,op,ty,pos,aft,none⟩).run P W=.ok (.value v) W/\(G d).p v W):
  qO F m P w0 ops G ⟨some d,op,ty,pos,aft,none⟩:=by
 intro b W K Q hb hr hK
 obtain⟨v,I,hv⟩:=h b W hb fun x J=>qB hr J
 exact zCl O U I (hK v W (fun d' e=>by cases e;exact hv) (xG _ _))
theorem zA(h:∀v W,Below w0.heap.size w0 W->(fct G x).p v W->(G d).p v W:=by exact fun _ _ _ h=>h):qO F m P w0 ops G ⟨some d,.move x,ty,pos,aft,none⟩:=
 qG (fun _ e=>by cases e) (fun _ e=>by cases e) fun b W hb I=>⟨_,rfl,h _ _ hb (I x (by simp[Op.operands]))⟩
theorem zF(h:∀v W,Below w0.heap.size w0 W->(fct G x).p v W->(G d).p v W:=by exact fun _ _ _ h=>h):qO F m P w0 ops G ⟨some d,.assign x,ty,pos,aft,none⟩:=
 qG (fun _ e=>by cases e) (fun _ e=>by cases e) fun b W hb I=>⟨_,rfl,h _ _ hb (I x (by simp[Op.operands]))⟩
def Mem(W:WB)(b o:Nat)(cs:List WE):Prop:=∀j u,cs[j]?=some u->W.cell? ⟨b,o+j,none⟩=some u
theorem Mem.below{o:Nat}(h:Mem W b o cs)(hb:Below W.heap.size W W'):Mem W' b o cs:=fun j u J=>by
 have I:=h j u J
 exact(hb.cell (p:=⟨b,o+j,none⟩) (xK W _ I)).trans I
theorem Mem.drop{o:Nat}(h:Mem W b o cs)(k:Nat):Mem W b (o+k) (cs.drop k):=fun j u I=>by
 rw[uX]at I
 rw[uT]
 exact h (k+j) u I
structure CF where
 p:List WE->WB->Prop
 st:∀cs w w',p cs w->Below w.heap.size w w'->p cs w'
def wC(C:CF):SF:=⟨fun v W=>∃b o cs,v=.pointer (some ⟨b,o,none⟩)/\C.p cs W/\Mem W b o cs,fun _ _ _ ⟨b,o,cs,h1,h2,h3⟩ hb=>⟨b,o,cs,h1,C.st _ _ _ h2 hb,h3.below hb⟩⟩
theorem zAv{C:CF}(O:∀v W,(fct G x).p v W->(wC C).p v W:=by first|exact fun _ _ h=>h|exact fun _ _ h=>h.2)(h:∀v W,(wC C).p v W->(G d).p v W:=by exact fun _ _ h=>h):qO F m P w0 ops G ⟨some d,.nilCheck x,ty,pos,aft,none⟩:=
 qG (fun _ e=>by cases e) (fun _ e=>by cases e) fun b W hb J=>by
  have I:=O _ _ (J x (by simp[Op.operands]))
  obtain⟨_,_,cs,e,_⟩:=id I
  exact⟨b.eval x,by simp[execOp,e],h _ _ I⟩
def zDD(P:WH)(s:WF)(f:Nat):Option Nat:=match P.underlying s with
 | some (.struct fs)=>match fs[f]? with
  |some f=>match P.info? f.type with
   |some i=>if i.size=0 then none else some f.offset
   |none=>none
  |none=>none
 |_=>none
theorem zLw{s:WF}{f:Nat}{C C':CF}(k:Nat)(I:zDD P s f=some k)(O:∀v W,(fct G x).p v W->(wC C).p v W)(h:∀cs W,C.p cs W->C'.p (cs.drop k) W)(U:∀v W,(wC C').p v W->(G d).p v W:=by exact fun _ _ h=>h):qO F m P w0 ops G ⟨some d,.fieldAddr s x f,ty,pos,aft,none⟩:=
 qG (fun _ e=>by cases e) (fun _ e=>by cases e) fun b W hb hh=>by
  obtain⟨a,q,cs,e,h2,h3⟩:=O _ _ (hh x (by simp[Op.operands]))
  refine⟨.pointer (some ⟨a,q+k,none⟩),?_,U _ _ ⟨_,_,_,rfl,h _ _ h2,h3.drop k⟩⟩
  unfold zDD at I
  split at I<;>try cases I
  rename_i fs hu
  split at I<;>try cases I
  rename_i f' J
  split at I<;>try cases I
  rename_i i hi
  split at I<;>try cases I
  rename_i hz
  simp[execOp,Instr.fieldAt,bI hu,J,e,Instr.sureAddr,fieldPlace,sizeOf,typeInfo,hi,hz,xI]
def jR(P:WH)(t:WF):Option Nat:=match P.underlying t with
 |some (.struct _)|some (.array _ _)=>(P.info? t).map (·.size)
 |_=>none
def zD1(P:WH)(t:WF):Bool:=match P.underlying t with
 |some (.struct _)|some (.array _ _)|none=>false
 |_=>true
theorem zEg(h:jR P t=some k)(W:WB):(isAgg t).run P W=.ok true W/\∃i,P.info? t=some i/\i.size=k:=by
 unfold jR at h
 split at h<;>try cases h
 all_goals
  rename_i I
  cases hi:P.info? t with
  |none=>rw[hi]at h;cases h
  |some i=>rw[hi]at h;cases h;exact⟨by simp[isAgg,bI I],i,rfl,rfl⟩
theorem zFi(h:zD1 P t=true)(W:WB):(isAgg t).run P W=.ok false W:=by
 unfold zD1 at h
 split at h<;>try cases h
 rename_i h1 h2 h3
 cases hu:P.underlying t with
 |none=>exact absurd hu h3
 |some d=>cases d<;>simp_all[isAgg,bI hu]
theorem zAu(h:jR P t=some k){a q:Nat}{cs:List WE}{W:WB}(O:Mem W a q cs)(hk:k<=cs.length):(loadVar t ⟨a,q,none⟩).run P W=.ok (.agg (cs.take k).toArray) W:=by
 obtain⟨U,i,hi,J⟩:=zEg h W
 have h2:=run_loadCells_list (P:=P) W ⟨a,q,none⟩ (cs.take k) (fun j v I=>by rw[xI];exact O j v (by
  rw[uU]at I
  split at I
  .exact I
  .cases I))
 rw[uE,uR hk]at h2
 simp[loadVar,U,sizeOf,typeInfo,hi,J,h2]
theorem zBr(h:zD1 P t=true){a q:Nat}{cs:List WE}{W:WB}(I:Mem W a q cs){u:WE}(J:cs[0]?=some u):(loadVar t ⟨a,q,none⟩).run P W=.ok u W:=by
 have O:=I 0 u J
 have h2:W.cell? ⟨a,q,none⟩=some u:=O
 simp[loadVar,zFi h W,h2]
theorem zFA{C:CF}(k:Nat)(U:jR P t=some k)(I:∀v W,(fct G x).p v W->(wC C).p v W)(h:∀cs W,C.p cs W->k<=cs.length/\(G d).p (.agg (cs.take k).toArray) W):qO F m P w0 ops G ⟨some d,.load t x,ty,pos,aft,none⟩:=
 qG (fun _ e=>by cases e) (fun _ e=>by cases e) fun b W hb hh=>by
  obtain⟨a,q,cs,e,h2,h3⟩:=I _ _ (hh x (by simp[Op.operands]))
  obtain⟨J,O⟩:=h cs W h2
  exact⟨_,by simp[execOp,Instr.loadAt,e,Instr.sureAddr,zAu U h3 J],O⟩
theorem qE{C:CF}(U:zD1 P t=true)(I:∀v W,(fct G x).p v W->(wC C).p v W)(h:∀cs W,C.p cs W->∃u,cs[0]?=some u/\(G d).p u W):qO F m P w0 ops G ⟨some d,.load t x,ty,pos,aft,none⟩:=
 qG (fun _ e=>by cases e) (fun _ e=>by cases e) fun b W hb hh=>by
  obtain⟨a,q,cs,e,h2,h3⟩:=I _ _ (hh x (by simp[Op.operands]))
  obtain⟨u,J,O⟩:=h cs W h2
  exact⟨_,by simp[execOp,Instr.loadAt,e,Instr.sureAddr,zBr U h3 J],O⟩
theorem zOo(O:∀c,op≠ .defer c)(U:∀c,op≠ .call c)
  (h:∀(b:Act) (W:WB),Below w0.heap.size w0 W->(∀x,x∈op.operands.toList->(fct G x).p (b.eval x) W)->∃v o,(execOp b.eval ⟨some d,op,ty,pos,aft,none⟩).run P W=.ok (.value v) (W.alloc o)/\(G d).p v (W.alloc o)):
  qO F m P w0 ops G ⟨some d,op,ty,pos,aft,none⟩:=by
 intro b W K Q hb hr hK
 obtain⟨v,o,I,hv⟩:=h b W hb fun x J=>qB hr J
 exact zCl O U I (hK v _ (fun d' e=>by cases e;exact hv) ((xG _ _).alloc (vQ _) _))
theorem zBw(W:WB)(cs:Array WE)(t:WF):Mem (W.alloc (.cells cs t)) W.heap.size 0 cs.toList:=fun j u I=>by
 have J:(W.alloc (.cells cs t)).heap[W.heap.size]?=some (.cells cs t):=cT W _
 unfold World.cell?
 rw[J]
 simp only[uM,xO,xL,xJ]
 simpa using I
theorem zCs(W:WB)(o:Obj):Below W.heap.size W (W.alloc o):=(xG _ _).alloc (vQ _) _
def zeroCells(P:WH)(t:WF):Option (List WE):=((P.info? t).bind (·.zero)).map (·.cells.toList)
def SF.own(w0:WB)(t:WF)(cs:List WE):SF:=⟨fun v W=>∃b,v=.pointer (some ⟨b,0,none⟩)/\w0.heap.size<=b/\W.heap[b]?=some (.cells cs.toArray t (0,0)),fun _ _ _ ⟨b,h1,h2,h3⟩ hb=>⟨b,h1,h2,(hb.block b (xQ.1 h3).1).trans h3⟩⟩
theorem zBY(hz:zeroCells P e=some cs)(I:∀v W,(SF.own w0 e cs).p v W->(G d).p v W:=by exact fun _ _ h=>h):qO F m P w0 ops G ⟨some d,.alloc e,ty,pos,aft,none⟩:=
 zOo (fun _ e=>by cases e) (fun _ e=>by cases e) fun b W hb hh=>by
  unfold zeroCells at hz
  cases hi:P.info? e with
  |none=>rw[hi]at hz;cases hz
  | some i=>
   rw[hi]at hz
   simp only[mG]at hz
   cases hzz:i.zero with
   |none=>rw[hzz]at hz;cases hz
   | some z=>
    rw[hzz]at hz
    simp only[mA,lX]at hz
    subst hz
    refine⟨.pointer (some ⟨W.heap.size,0,none⟩),.cells z.cells e,?_,I _ _ ⟨W.heap.size,rfl,hb.size,?_⟩⟩
    .simp[execOp,Instr.alloc,zeroValue,typeInfo,hi,hzz,newVar,newRow]
    .have:=cT W (.cells z.cells e)
     simpa using this
def wZ(A B:SF):SF:=⟨fun v W=>∃x y,v=.tuple #[x,y]/\A.p x W/\B.p y W,fun _ _ _ ⟨x,y,h1,h2,h3⟩ hb=>⟨x,y,h1,A.st _ _ _ h2 hb,B.st _ _ _ h3 hb⟩⟩
def wY(A B C:SF):SF:=⟨fun v W=>∃x y z,v=.tuple #[x,y,z]/\A.p x W/\B.p y W/\C.p z W,fun _ _ _ ⟨x,y,z,h1,h2,h3,h4⟩ hb=>⟨x,y,z,h1,A.st _ _ _ h2 hb,B.st _ _ _ h3 hb,C.st _ _ _ h4 hb⟩⟩
theorem zJl(h:∀v W,(fct G x).p v W->∃vs u,v=.tuple vs/\vs[i]?=some u/\(G d).p u W):qO F m P w0 ops G ⟨some d,.extract x i,ty,pos,aft,none⟩:=
 qG (fun _ e=>by cases e) (fun _ e=>by cases e) fun b W hb I=>by
  obtain⟨vs,u,e,J,h2⟩:=h _ _ (I x (by simp[Op.operands]))
  exact⟨u,by simp[execOp,Instr.extract,e,J],h2⟩
theorem zBX(J:∀v W,(fct G x).p v W->(wZ A B).p v W)(I:∀v W,A.p v W->(G d).p v W:=by exact fun _ _ h=>h):qO F m P w0 ops G ⟨some d,.extract x 0,ty,pos,aft,none⟩:=
 zJl fun v W h=>let⟨a,_,e,h1,_⟩:=J v W h;⟨_,a,e,rfl,I _ _ h1⟩
theorem zBW(J:∀v W,(fct G x).p v W->(wZ A B).p v W)(I:∀v W,B.p v W->(G d).p v W:=by exact fun _ _ h=>h):qO F m P w0 ops G ⟨some d,.extract x 1,ty,pos,aft,none⟩:=
 zJl fun v W h=>let⟨_,b,e,_,h1⟩:=J v W h;⟨_,b,e,rfl,I _ _ h1⟩
theorem zFD(J:∀v W,(fct G x).p v W->(wY A B C).p v W)(I:∀v W,A.p v W->(G d).p v W:=by exact fun _ _ h=>h):qO F m P w0 ops G ⟨some d,.extract x 0,ty,pos,aft,none⟩:=
 zJl fun v W h=>let⟨a,_,_,e,h1,_⟩:=J v W h;⟨_,a,e,rfl,I _ _ h1⟩
theorem zFC(J:∀v W,(fct G x).p v W->(wY A B C).p v W)(I:∀v W,B.p v W->(G d).p v W:=by exact fun _ _ h=>h):qO F m P w0 ops G ⟨some d,.extract x 1,ty,pos,aft,none⟩:=
 zJl fun v W h=>let⟨_,b,_,e,_,h1,_⟩:=J v W h;⟨_,b,e,rfl,I _ _ h1⟩
theorem zFB(J:∀v W,(fct G x).p v W->(wY A B C).p v W)(I:∀v W,C.p v W->(G d).p v W:=by exact fun _ _ h=>h):qO F m P w0 ops G ⟨some d,.extract x 2,ty,pos,aft,none⟩:=
 zJl fun v W h=>let⟨_,_,c,e,_,_,h1⟩:=J v W h;⟨_,c,e,rfl,I _ _ h1⟩
theorem zHU{parts:Array (Nat×WL)}(h:∀(b:Act) (W:WB),Below w0.heap.size w0 W->(∀x,x∈parts.toList.map (·.2)->(fct G x).p (b.eval x) W)->∃cells,P.built t (parts.map fun(i,x)=>(i,b.eval x)).toList=some cells/\(G d).p (.agg cells) W):qO F m P w0 ops G ⟨some d,.build t parts,ty,pos,aft,none⟩:=
 qG (fun _ e=>by cases e) (fun _ e=>by cases e) fun b W hb I=>by
  obtain⟨cells,J,h2⟩:=h b W hb fun x O=>I x (by simpa[Op.operands]using O)
  exact⟨_,by simp only[execOp,cC,run_build W t _ cells J,cM,cF],h2⟩
theorem q8(h:∀u v W,(fct G x).p u W->(fct G y).p v W->∃cells,P.built t [(i,u),(j,v)]=some cells/\(G d).p (.agg cells) W):qO F m P w0 ops G ⟨some d,.build t #[(i,x),(j,y)],ty,pos,aft,none⟩:=
 zHU fun b W hb I=>by
  obtain⟨cells,J,h2⟩:=h _ _ W (I x fC) (I y fC)
  exact⟨cells,by simpa using J,h2⟩
theorem zGg(h:∀u W,(fct G x).p u W->∃cells,P.built t [(i,u)]=some cells/\(G d).p (.agg cells) W):qO F m P w0 ops G ⟨some d,.build t #[(i,x)],ty,pos,aft,none⟩:=
 zHU fun b W hb I=>by
  obtain⟨cells,J,h2⟩:=h _ W (I x fC)
  exact⟨cells,by simpa using J,h2⟩
def yI(P:WH)(t:WF)(len:Nat)(parts:List (Nat×WE)):Option (WF×Array WE):=match P.underlying t with
 | some (.slice e)=>match P.info? e with
  |some ie=>match ie.zero with
   |some z=>if len*ie.size>2^24∨len*ie.size=0 then none else(Instr.fill (fun i=>some (i*ie.size,ie.size)) ((Array.range (len*ie.size)).map (z.cells[· % z.cells.size]!)) parts).map fun cs=>(e,cs)
   |none=>none
  |none=>none
 |_=>none
theorem zIQ{len:Nat}{parts:Array (Nat×WE)}{cs:Array WE}(h:yI P t len parts.toList=some (e,cs))(W:WB):(Instr.buildSlice t len parts).run P W=.ok (.slice (some ⟨W.heap.size,0,none⟩) len len) (W.alloc (.cells cs e)):=by
 unfold yI at h
 split at h<;>try cases h
 rename_i e' J
 split at h<;>try cases h
 rename_i ie hi
 split at h<;>try cases h
 rename_i z U
 split at h<;>try cases h
 rename_i I
 simp only[lY]at h
 obtain⟨cs',O,h2⟩:=h
 cases h2
 exact run_buildSlice W t _ len parts cs ie z J hi U (fun h=>I (.inl h)) (fun h=>I (.inr h)) O
theorem zDx{len:Nat}{parts:Array (Nat×WL)}(h:∀(b:Act) (W:WB),Below w0.heap.size w0 W->(∀x,x∈parts.toList.map (·.2)->(fct G x).p (b.eval x) W)->∃e cs,yI P t len (parts.map fun(i,x)=>(i,b.eval x)).toList=some (e,cs)/\(G d).p (.slice (some ⟨W.heap.size,0,none⟩) len len) (W.alloc (.cells cs e))):qO F m P w0 ops G ⟨some d,.buildSlice t len parts,ty,pos,aft,none⟩:=
 zOo (fun _ e=>by cases e) (fun _ e=>by cases e) fun b W hb I=>by
  obtain⟨e,cs,J,h2⟩:=h b W hb fun x O=>I x (by simpa[Op.operands]using O)
  exact⟨_,_,by simp only[execOp,cC,zIQ J W,cM,cF],h2⟩
theorem jV(h:∀u W,(fct G x).p u W->∃e cs,yI P t 1 [(0,u)]=some (e,cs)/\(G d).p (.slice (some ⟨W.heap.size,0,none⟩) 1 1) (W.alloc (.cells cs e))):qO F m P w0 ops G ⟨some d,.buildSlice t 1 #[(0,x)],ty,pos,aft,none⟩:=
 zDx fun b W hb I=>by
  obtain⟨e,cs,J,h2⟩:=h _ W (I x fC)
  exact⟨e,cs,by simpa using J,h2⟩
theorem z9(h:∀u v W,(fct G x).p u W->(fct G y).p v W->∃e cs,yI P t 2 [(0,u),(1,v)]=some (e,cs)/\(G d).p (.slice (some ⟨W.heap.size,0,none⟩) 2 2) (W.alloc (.cells cs e))):qO F m P w0 ops G ⟨some d,.buildSlice t 2 #[(0,x),(1,y)],ty,pos,aft,none⟩:=
 zDx fun b W hb I=>by
  obtain⟨e,cs,J,h2⟩:=h _ _ W (I x fC) (I y fC)
  exact⟨e,cs,by simpa using J,h2⟩
theorem zOk(h:∀u v q W,(fct G x).p u W->(fct G y).p v W->(fct G z).p q W->∃e cs,yI P t 3 [(0,u),(1,v),(2,q)]=some (e,cs)/\(G d).p (.slice (some ⟨W.heap.size,0,none⟩) 3 3) (W.alloc (.cells cs e))):qO F m P w0 ops G ⟨some d,.buildSlice t 3 #[(0,x),(1,y),(2,z)],ty,pos,aft,none⟩:=
 zDx fun b W hb I=>by
  obtain⟨e,cs,J,h2⟩:=h _ _ _ W (I x fC) (I y fC) (I z fC)
  exact⟨e,cs,by simpa using J,h2⟩
def Ret(W:WB)(f:SF):Ending->WB->Prop:=fun e W'=>∃v,e=.returned v/\f.p v W'/\Below W.heap.size W W'
def zJQ(F:Fence)(m:Nat)(P:WH):Prop:=(∀f,F.fn f)/\(F.depth.isSome=true->1<=m)/\∀f args w R,Calls P f args w R->CallsIn F (m-1) P f args w R
theorem zC:zJQ Fence.wide m P:=⟨fun _=>trivial,fun h=>(by cases h),fun _ _ _ _ h=>bB.2 h⟩
theorem zDl{l:Nat}:zJQ (Fence.wide.inRound l) m P:=⟨fun _=>trivial,fun h=>(by cases h),fun _ _ _ _ h=>bB.2 h⟩
theorem zEp(hF:zJQ F m P)(I:Enters P f)
  (h:∀(b:Act) (W:WB),Below w0.heap.size w0 W->(∀x,x∈xs.toList->(fct G x).p (b.eval x) W)->Calls P f (xs.map b.eval) W (Ret W (G d))):
  qO F m P w0 ops G ⟨some d,.call ⟨.value (.func f),xs,ats⟩,ty,pos,aft,none⟩:=by
 intro b W K Q hb U hK
 have O:=h b W hb fun x J=>qB U (x:=x) (by simp[Op.operands,Call.operands];right;simpa using J)
 refine⟨fun g _=>hF.1 g,?_⟩
 rw[bH _ _ _ (fun _ e=>by cases e),execOp_call_go]
 rw[I]
 simp only[mE]
 refine⟨hF.2.1,bG (hF.2.2 _ _ _ (Ret W (G d)) ?_) fun e W' I=>?_⟩
 .simpa using O
 .obtain⟨v,rfl,hv,hb'⟩:=I
  exact hK v W' (fun d' e=>by cases e;exact hv) hb'
theorem zEq(hF:zJQ F m P)(I:Enters P f)(h:∀W,Below w0.heap.size w0 W->Calls P f #[] W (Ret W (G d))):qO F m P w0 ops G ⟨some d,.call ⟨.value (.func f),#[],ats⟩,ty,pos,aft,none⟩:=
 zEp hF I fun b W hb _=>by simpa using h W hb
theorem zG(hF:zJQ F m P)(J:Enters P f)(h:∀u W,Below w0.heap.size w0 W->(fct G x).p u W->Calls P f #[u] W (Ret W (G d))):qO F m P w0 ops G ⟨some d,.call ⟨.value (.func f),#[x],ats⟩,ty,pos,aft,none⟩:=
 zEp hF J fun b W hb I=>by simpa using h _ W hb (I x fC)
theorem zH(hF:zJQ F m P)(J:Enters P f)(h:∀u v W,Below w0.heap.size w0 W->(fct G x).p u W->(fct G y).p v W->Calls P f #[u,v] W (Ret W (G d))):qO F m P w0 ops G ⟨some d,.call ⟨.value (.func f),#[x,y],ats⟩,ty,pos,aft,none⟩:=
 zEp hF J fun b W hb I=>by simpa using h _ _ W hb (I x fC) (I y fC)
theorem jG(hF:zJQ F m P)(J:Enters P f)(h:∀u v q W,Below w0.heap.size w0 W->(fct G x).p u W->(fct G y).p v W->(fct G z).p q W->Calls P f #[u,v,q] W (Ret W (G d))):qO F m P w0 ops G ⟨some d,.call ⟨.value (.func f),#[x,y,z],ats⟩,ty,pos,aft,none⟩:=
 zEp hF J fun b W hb I=>by simpa using h _ _ _ W hb (I x fC) (I y fC) (I z fC)
theorem zE{want:Bool}(g:Nat)(I:Bool)(U:yD ops j=some g)(O:∀v W,(G g).p v W->v=.bool I)(h1:I=want->qO F m P w0 ops G ⟨some d,op,ty,pos,aft,none⟩)(h2:I≠want->∀W,(G d).p undef W)
  (h3:I≠want->∀W ρ f,(⟨some d,op,ty,pos,aft,none⟩:Oper).about P W ρ=some f->F.fn f:=by first|exact fun e=>absurd rfl e|exact fun _ _ _ _ h=>by cases h|exact fun _ _ _ _ _=>trivial):qO F m P w0 ops G ⟨some d,op,ty,pos,aft,some (j,want)⟩:=
 ⟨g,I,U,O,h1,fun e=>⟨fun d' J W=>by cases J;exact h2 e W,h3 e⟩⟩
theorem yC{c:WL}(I:Bool)(O:∀v W,(fct G c).p v W->v=.bool I)(h1:I=true->∀v W,(fct G x).p v W->(G d).p v W)(h2:I=false->∀v W,(fct G y).p v W->(G d).p v W):qO F m P w0 ops G ⟨some d,.pick c x y,ty,pos,aft,none⟩:=
 qG (fun _ e=>by cases e) (fun _ e=>by cases e) fun b W hb J=>by
  have e:=O _ _ (J c (by simp[Op.operands]))
  cases I with
  |true=>exact⟨_,by simp[execOp,e,asBool],h1 rfl _ _ (J x (by simp[Op.operands]))⟩
  |false=>exact⟨_,by simp[execOp,e,asBool],h2 rfl _ _ (J y (by simp[Op.operands]))⟩
theorem zFd(I:Bool)(U:∀v W,(fct G x).p v W->v=.bool I)(J:∀W,(G d).p (.bool (!I)) W):qO F m P w0 ops G ⟨some d,.unOp .not t x,ty,pos,aft,none⟩:=
 qG (fun _ e=>by cases e) (fun _ e=>by cases e) fun b W hb O=>by
  have e:=U _ _ (O x (by simp[Op.operands]))
  exact⟨_,by simp[execOp,e,Op.unary],J W⟩
theorem zDN{op:BinOp}{t':WF}(u v r:WE)(U:∀q W,(fct G x).p q W->q=u)(hy:∀q W,(fct G y).p q W->q=v)(O:∀W,(eqGuard op t x y u v).run P W=.ok () W)(hr:∀W,(binOp op t u v).run P W=.ok r W)(hd:∀W,(G d).p r W):qO F m P w0 ops G ⟨some d,.binOp op t x y t',ty,pos,aft,none⟩:=
 qG (fun _ e=>by cases e) (fun _ e=>by cases e) fun b W hb I=>by
  have e1:=U _ _ (I x (by simp[Op.operands]))
  have J:=hy _ _ (I y (by simp[Op.operands]))
  exact⟨r,by simp[execOp,e1,J,O,hr],hd W⟩
end
def zVh:Nat->SF:=fun _=>SF.any
def zMM:Nat->List SF->List (Nat×SF)
 |_, []=> []
 |k,f::l=>(k,f)::zMM (k+1) l
def zGB(w:WB):List SF->List WE->Prop
 | [],_=>True
 |f::l,v::vs=>f.p v w/\zGB w l vs
 |_::_, []=>False
theorem zPE{w:WB}:∀(l:List SF) (vs:List WE) (k t:Nat),zGB w l vs->∀u,(∀j,k+j=t->u=vs.getD j undef)->(upd zVh (zMM k l) t).p u w
 | [],_,_,_,_,_,_=>trivial
 |f::l, [],_,_,h,_,_=>h.elim
 | f::l,v::vs,k,t,h,u,hu=>by
  show(bif Nat.beq k t then f else upd zVh (zMM (k+1) l) t).p u w
  cases e:Nat.beq k t with
  |true=>
   have:=cH e
   rw[hu 0 oA]
   exact h.1
  |false=>
   refine zPE l vs (k+1) t h.2 u fun j hj=>?_
   rw[hu (j+1) oA]
   rfl
structure UF extends tS:SF where
 us:∀v w w',p v w->(∀q x,w.cell? q=some (.int .u32 x)->w'.cell? q=some (.int .u32 x))->p v w'
theorem zRQ(l:List SF)(J:Nat.ble args.size fn.ntmps=true)(O:zGB w l args.toList):At w (upd zVh (zMM 0 l)) fn.ntmps [] { tmps:=args++Array.replicate (fn.ntmps-args.size) undef,defers:=[] } w:=by
 have J:=mH J
 refine⟨xG _ _,fM,rfl,fun t=>?_⟩
 by_cases ht:t<args.toList.length
 .refine zPE l _ 0 t O _ fun j hj=>?_
  obtain rfl:j=t:=oA
  have ht':j<args.size:=by simpa using ht
  simp[Array.getElem?_append,ht',List.getD]
 .have:∀(l:List SF) (vs:List WE) (k:Nat),zGB w l vs->k+vs.length<=t->upd zVh (zMM k l) t=SF.any:=by
   intro l
   induction l with
   |nil=>intro vs k _ _;rfl
   | cons f l ih=>
    intro vs k h U
    cases vs with
    |nil=>exact h.elim
    | cons v vs=>
     simp only[lU]at U
     have I:Nat.beq k t=false:=by
      cases e:Nat.beq k t with
      |false=>rfl
      |true=>have:=cH e;omega
     show(bif Nat.beq k t then f else upd zVh (zMM (k+1) l) t)=_
     rw[I]
     exact ih vs (k+1) h.2 oA
  rw[this l args.toList 0 O oA]
  trivial
section
variable {F:Fence}{m:Nat}{P:WH}{Q:Exit->Act->WB->Prop}{w0:WB}{G:Nat->SF}{n:Nat}{ds:List Deferred}{a:Act}{w:WB}
theorem zZg{c:Code}(N:Nat)(i:Nat)(I:Nat->Nat->SF)(hi:∀k v W,(I k i).p v W->v=.int .i64 (k:Int))(h0:At w0 (I 0) n ds a w)
  (round:∀k a w,k<=N->At w0 (I k) n ds a w->c.wpIn F m P (Exit.then (fun a' w'=>k<N/\At w0 (I (k+1)) n ds a' w') Q) a w):(Code.loop c).wpIn F m P Q a w:=by
 refine wpIn_loop (fun a w=>∃k,k<=N/\At w0 (I k) n ds a w) (fun a _=>N+1-(match a.tmps.getD i undef with| .int _ z=>z.toNat|_=>0)) ⟨0,vS _,h0⟩ ?_
 rintro a w ⟨k,hk,J⟩
 refine cW ?_ (round k a w hk J)
 intro e a' w' h
 cases e with
 |normal=>
  obtain⟨U,h2⟩:k<N/\At w0 (I (k+1)) n ds a' w':=h
  refine⟨⟨k+1,U,h2⟩,?_⟩
  have e1:=hi _ _ _ (J.sl i)
  have O:=hi _ _ _ (h2.sl i)
  simp only[e1,O,Int.toNat_natCast]
  have h3:N+1-(k+1)<N+1-k:=oA
  exact h3
 |_=>exact h
def y7(w w':WB):Prop:=∀p x,w.cell? p=some (.int .u32 x)->w'.cell? p=some (.int .u32 x)
theorem y7.trans{u v:WB}(h:y7 u v)(k:y7 v w):y7 u w:=fun p x I=>k p x (h p x I)
theorem Rd.keepU{A:Option Addr}{l:List Nat}(h:Rd w A n c l)(I:y7 w w'):Rd w' A n c l:=
 ⟨h.len,h.le,h.cap,h.nil,fun i hi=>let⟨b,o,e,hc⟩:=h.cells i hi;⟨b,o,e,I _ _ hc⟩⟩
def zY:WE->Bool
 | .int .u32 _=>false
 |_=>true
theorem zCi{cs:Array WE}(hb:w.heap[b]?=some (.cells cs t (0,0)))(O:cs.all zY=true):y7 w (w.setRow b vs):=fun p x I=>by
 rw[cell_setRow_other]
 .exact I
 .intro e
  have J:w.cell? p=if p.spot.isSome then none else cs[p.off]?:=by
   unfold World.cell?
   rw[e,hb]
  rw[J]at I
  split at I
  .cases I
  .have:=eP.1 O _ (eZ I)
   cases this
theorem zHz(I:jR P t=some k){cs vs:List WE}(O:vs.length=k)(hc:cs.length=k)(h1:∀u,u∈vs->u.oneCell'=true)(hb:w.heap[b]?=some (.cells cs.toArray t (0,0))):
  (storeVar t ⟨b,0,none⟩ (.agg vs.toArray)).run P w=.ok () (w.setRow b vs.toArray):=by
 obtain⟨_,i,hi,J⟩:=zEg I w
 have:=run_storeCells_from (P:=P) b t vs 0 cs.toArray w hb fM h1
 simp only[mC,lS]at this
 simp[storeVar,sizeOf,typeInfo,hi,J,Value.cells,O,this]
theorem zLs{K:Act->WB->Prop}(J:jR P t=some k)(I:te=t)(hc:cs.length=k)
  {b:Nat}{vs:List WE}(hp:a.tmps.getD c undef=.pointer (some ⟨b,0,none⟩))(hb:w.heap[b]?=some (.cells cs.toArray te (0,0)))(hx:a.eval x=.agg vs.toArray)(U:vs.length=k)(h1:∀u,u∈vs->u.oneCell'=true)
  (hK:K a (w.setRow b vs.toArray)):(⟨none,.store t (.tmp c) x,ty,pos,aft,none⟩:Oper).wpIn F m P a w K Q:=by
 subst I
 refine⟨fun f hf=>(by cases hf),?_⟩
 rw[bH _ _ _ (fun _ e=>by cases e)]
 have:(execOp a.eval ⟨none,.store te (.tmp c) x,ty,pos,aft,none⟩).run P w=.ok .skip (w.setRow b vs.toArray):=by
  have O:a.eval (.tmp c)=.pointer (some ⟨b,0,none⟩):=hp
  simp[execOp,O,hx,Instr.storeAt,Instr.sureAddr,zHz J U hc h1 hb]
 rw[this]
 exact hK
theorem zML(h:Below w0.heap.size w0 w)(hb:w0.heap.size<=b):Below w0.heap.size w0 (w.setRow b vs):=
 ⟨h.os,h.tape,h.output,by rw[size_setRow];exact h.size,fun k I=>(mI w b k vs oA).trans (h.block k I)⟩
theorem zHB(I:jR P t=some k){b:Nat}{te:WF}{vs:List WE}(hl:vs.length=k)(hb:w.heap[b]?=some (.cells vs.toArray te (0,0))):(loadVar t ⟨b,0,none⟩).run P w=.ok (.agg vs.toArray) w:=by
 have O:Mem w b 0 vs:=fun j u J=>by
  unfold World.cell?
  rw[hb]
  simpa using J
 have:=zAu I O oA
 rwa [lT oA]at this
end
theorem zR(hb:Below w.heap.size w w'):y7 w w':=fun q x I=>(hb.cell (p:=q) (xK w _ I)).trans I
def UF.mk'(p:WE->WB->Prop)(us:∀v w w',p v w->y7 w w'->p v w'):UF:=⟨⟨p,fun v w w' h hb=>us v w w' h (zR hb)⟩,us⟩
def UF.any:UF:=.mk' (fun _ _=>True) fun _ _ _ _ _=>trivial
def UF.eq(u:WE):UF:=.mk' (fun v _=>v=u) fun _ _ _ h _=>h
abbrev uI(z:Int):UF:=UF.eq (.int .i64 z)
abbrev uB(b:Bool):UF:=UF.eq (.bool b)
def zBH(A B:UF):UF:=.mk' (wZ A.tS B.tS).p fun _ _ _ ⟨x,y,h1,h2,h3⟩ k=>⟨x,y,h1,A.us _ _ _ h2 k,B.us _ _ _ h3 k⟩
def zGL(A B C:UF):UF:=.mk' (wY A.tS B.tS C.tS).p fun _ _ _ ⟨x,y,z,h1,h2,h3,h4⟩ k=>⟨x,y,z,h1,A.us _ _ _ h2 k,B.us _ _ _ h3 k,C.us _ _ _ h4 k⟩
inductive KF where
 |u (f:UF)
 |o (f:SF)
variable {K:List (Nat×KF)}
def KF.sf:KF->SF
 | .u f=>f.tS
 | .o f=>f
def KF.p(w0:WB):KF->WE->WB->Prop
 | .u f,v,w=>f.p v w
 | .o f,v,_=>f.p v w0
theorem KF.us{w0:WB}{k:KF}{v:WE}{w w':WB}(h:k.p w0 v w)(I:y7 w w'):k.p w0 v w':=by
 cases k with
 |u f=>exact f.us _ _ _ h I
 |o f=>exact h
theorem vP{k:KF}(h:k.p w0 v w)(hb:Below w0.heap.size w0 w):k.sf.p v w:=by
 cases k with
 |u f=>exact h
 |o f=>exact f.st _ _ _ h hb
structure CU where
 p:List WE->WB->Prop
 us:∀cs w w',p cs w->y7 w w'->p cs w'
def CU.cf(C:CU):CF:=⟨C.p,fun cs w w' h hb=>C.us cs w w' h (zR hb)⟩
def CU.agg(f:UF):CU:=⟨fun cs w=>f.p (.agg cs.toArray) w,fun _ _ _ h k=>f.us _ _ _ h k⟩
abbrev bW(w w9:WB):Prop:=Below w.heap.size w w9
abbrev ltz(a b:Nat):Bool:=decide ((a:Int)<(b:Int))
abbrev sN:WE:=.slice none 0 0
abbrev cg(f:UF):CF:=(CU.agg f).cf
def CU.len(k:Nat):CU:=⟨fun cs _=>cs.length=k,fun _ _ _ h _=>h⟩
structure Bx where
 t:Nat
 e:WF
 c:CU
 b:Nat
 r:Bool
def yT(S:Nat->Prop)(w0:WB)(a:Act)(w:WB):List Bx->Prop
 | []=>True
 |x::B=>(∃cs:List WE,a.tmps.getD x.t undef=.pointer (some ⟨x.b,0,none⟩)/\(x.r=true∨w0.heap.size<=x.b∨S x.b)/\w.heap[x.b]?=some (.cells cs.toArray x.e (0,0))/\x.c.p cs w/\cs.all zY=true/\∀y,y∈B->y.b≠x.b∨(x.r=true/\y.r=true))/\yT S w0 a w B
structure BlS(S:Nat->Prop)(w w':World):Prop where
 os:w'.os=w.os
 tape:w'.tape=w.tape
 output:w'.output=w.output
 size:w.heap.size<=w'.heap.size
 block:∀k,k<w.heap.size-> ¬S k->w'.heap[k]?=w.heap[k]?
def noS:Nat->Prop:=fun _=>False
theorem BlS.below(h:BlS noS w w'):bW w w':=⟨h.os,h.tape,h.output,h.size,fun k I=>h.block k I (fun x=>x)⟩
theorem BlS.trans{u:WB}(h:BlS S u w)(hb:bW w w'):BlS S u w':=⟨hb.os.trans h.os,hb.tape.trans h.tape,hb.output.trans h.output,xR h.size hb.size,fun k I J=>(hb.block k (vV I h.size)).trans (h.block k I J)⟩
theorem BlS.refl(S:Nat->Prop)(w:WB):BlS S w w:=⟨rfl,rfl,rfl,vQ _,fun _ _ _=>rfl⟩
theorem BlS.row{u:WB}(h:BlS S u w){b:Nat}(hb:u.heap.size<=b∨S b)(vs:Array WE):BlS S u (w.setRow b vs):=
 ⟨h.os,h.tape,h.output,by rw[size_setRow];exact h.size,fun k J I=>(mI w b k vs (fun e=>by subst e;rcases hb with hb|hb;omega;exact I hb)).trans (h.block k J I)⟩
theorem BlS.grown{u:WB}(h:BlS S u w){b:Nat}(I:w.grownBy w' (some b))(hb:u.heap.size<=b∨S b):BlS S u w':=
 ⟨I.os.trans h.os,I.tape.trans h.tape,I.output.trans h.output,xR h.size I.size,fun k J O=>(I.block k (vV J h.size) (fun e=>by cases e;rcases hb with hb|hb;omega;exact O hb)).trans (h.block k J O)⟩
structure StS(S:Nat->Prop)(w0:World)(K:List (Nat×KF))(B:List Bx)(n:Nat)(ds:List Deferred)(a:Act)(w:World):Prop where
 gr:BlS S w0 w
 size:a.tmps.size=n
 nd:a.defers=ds
 sl:∀q,q∈K->q.2.p w0 (a.tmps.getD q.1 undef) w
 bx:yT S w0 a w B
 mks:∃Ds,Marks w0.heap.size w ds Ds
 so:(∀q,q∈K->∃f,q.2=.u f)∨ ∀k, ¬S k
abbrev St:=StS noS
theorem zBx(h:∃Ds,Marks w0.heap.size w ds Ds)(hb:bW w w'):∃Ds,Marks w0.heap.size w' ds Ds:=h.imp fun _ h=>h.keep fun k _ I _=>(hb.block k (xQ.1 I).1).trans I
theorem zKh(h:∃Ds,Marks w0.heap.size w ds Ds){b:Nat}(O:w.grownBy w' (some b)){cs:Array WE}{t:WF}{z:Nat×Nat}(U:w.heap[b]?=some (.cells cs t z)):∃Ds,Marks w0.heap.size w' ds Ds:=h.imp fun _ h=>h.keep fun k o I J=>(O.block k (xQ.1 I).1 (fun e=>by cases e;rw[U]at I;cases I;cases J)).trans I
inductive Rw where
 |u (f:UF)
 |s (f:SF)
abbrev pO(b o:Nat):WE:=.pointer (some ⟨b,o,none⟩)
abbrev Rw.Z(f:UF):Rw:=.s f.tS
def Rw.sf:Rw->SF
 | .u f=>f.tS
 | .s f=>f
def zS(L:List (Nat×Rw)):List (Nat×SF):=L.map fun q=>(q.1,q.2.sf)
def zAR:List (Nat×Rw)->List (Nat×KF)
 | []=> []
 |(t,.u f)::l=>(t,.u f)::zAR l
 |(_,.s _)::l=>zAR l
def wL(b:Nat)(C:CF):SF:=⟨fun v W=>v= pO b 0/\(wC C).p v W,fun v W W' h hb=>⟨h.1,(wC C).st v W W' h.2 hb⟩⟩
def zYd:List (Nat×KF)->List (Nat×SF)
 | []=> []
 |q::l=>(q.1,q.2.sf)::zYd l
def zYe:List Bx->List (Nat×SF)
 | []=> []
 |x::l=>(x.t,wL x.b x.c.cf)::zYe l
def zAb(K:List (Nat×KF))(B:List Bx):Nat->SF:=upd (upd zVh (zYd K)) (zYe B)
theorem zFP{a:Act}{w:WB}{G:Nat->SF}(I:∀t,(G t).p (a.tmps.getD t undef) w):∀(l:List (Nat×SF)),(∀q,q∈l->q.2.p (a.tmps.getD q.1 undef) w)->∀t,(upd G l t).p (a.tmps.getD t undef) w
 | [],_,t=>I t
 | q::l,h,t=>by
  show(bif Nat.beq q.1 t then q.2 else upd G l t).p (a.tmps.getD t undef) w
  cases e:Nat.beq q.1 t with
  |true=>
   have:=cH e
   rw[<-this]
   exact h q fC
  |false=>exact zFP I l (fun p J=>h p (by simp[J])) t
theorem zLG{q:Nat×SF}:∀{l:List (Nat×KF)},q∈zYd l->∃p,p∈l/\q=(p.1,p.2.sf)
 | [],h=>by cases h
 | p::l,h=>by
  rcases xS.1 h with rfl|h
  .exact⟨p,fG,rfl⟩
  .obtain⟨r,I,h2⟩:=zLG h
   exact⟨r,by simp[I],h2⟩
theorem zLH{q:Nat×SF}:∀{l:List Bx},q∈zYe l->∃p,p∈l/\q=(p.t,wL p.b p.c.cf)
 | [],h=>by cases h
 | p::l,h=>by
  rcases xS.1 h with rfl|h
  .exact⟨p,fG,rfl⟩
  .obtain⟨r,I,h2⟩:=zLH h
   exact⟨r,by simp[I],h2⟩
theorem zA9{q:Nat×KF}:∀{l:List (Nat×Rw)},q∈zAR l->∃f,q.2=.u f/\(q.1,Rw.u f)∈l
 | [],h=>by cases h
 | (t,.u f)::l,h=>by
  rcases xS.1 h with rfl|h
  .exact⟨f,rfl,fG⟩
  .obtain⟨g,I,h2⟩:=zA9 h
   exact⟨g,I,by simp[h2]⟩
 |(_,.s _)::l,h=>by
  obtain⟨g,I,h2⟩:=zA9 (l:=l) h
  exact⟨g,I,by simp[h2]⟩
theorem yT.mem{S:Nat->Prop}{w0:WB}{a:Act}{w:WB}:∀{B:List Bx},yT S w0 a w B->∀x,x∈B->∃cs:List WE,a.tmps.getD x.t undef= pO x.b 0/\(x.r=true∨w0.heap.size<=x.b∨S x.b)/\w.heap[x.b]?=some (.cells cs.toArray x.e (0,0))/\x.c.p cs w/\cs.all zY=true
 | [],_,_,h=>by cases h
 | y::B,h,x,I=>by
  rcases xS.1 I with rfl|I
  .obtain⟨cs,O,h2,h3,J,U,_⟩:=h.1
   exact⟨cs,O,h2,h3,J,U⟩
  .exact yT.mem h.2 x I
theorem zBf(h:w.heap[b]?=some (.cells cs.toArray t (0,0))):Mem w b 0 cs:=fun j u I=>by
 unfold World.cell?
 rw[h]
 simpa using I
section
variable {S:Nat->Prop}{F:Fence}{m:Nat}{P:WH}{Q:Exit->Act->WB->Prop}{w0:WB}{K:List (Nat×KF)}{B:List Bx}{n:Nat}{ds:List Deferred}{a:Act}{w:WB}
theorem StS.kn(h:StS S w0 K B n ds a w){q:Nat×KF}(J:q∈K):q.2.sf.p (a.tmps.getD q.1 undef) w:=by
 have I:=h.sl q J
 rcases h.so with hu|O
 .obtain⟨f,e⟩:=hu q J
  rw[e]at I ⊢
  exact I
 .exact vP I ⟨h.gr.os,h.gr.tape,h.gr.output,h.gr.size,fun k U=>h.gr.block k U (O k)⟩
theorem StS.at(h:StS S w0 K B n ds a w):At w (zAb K B) n ds a w:=
 ⟨xG _ _,h.size,h.nd,zFP (zFP (fun _=>trivial) _ fun q I=>(by
  obtain⟨p,J,rfl⟩:=zLG I
  exact h.kn J)) _ fun q I=>(by
  obtain⟨p,J,rfl⟩:=zLH I
  obtain⟨cs,O,_,h3,U,_⟩:=h.bx.mem p J
  exact⟨O,p.b,0,cs,O,U,zBf h3⟩)⟩
theorem StS.up(h:St w0 K B n ds a w){W:WB}(hb:bW w W):bW w0 W:=(h.gr.trans hb).below
def jU(ops:Array Oper)(ts:List Nat):Bool:=ts.all fun t=>(List.range ops.size).all fun i=> !(yD ops i==some t)
theorem yT.keep{I:Act}{w':WB}(hb:bW w w')(J:y7 w w'):∀(B:List Bx),(∀x,x∈B->I.tmps.getD x.t undef=a.tmps.getD x.t undef)->yT S w0 a w B->yT S w0 I w' B
 | [],_,_=>trivial
 |x::B,hs,⟨⟨cs,h1,h2,h3,h4,h5,h6⟩,h7⟩=>
  ⟨⟨cs,by rw[hs x fC];exact h1,h2,(hb.block _ (xQ.1 h3).1).trans h3,x.c.us _ _ _ h4 J,h5,h6⟩,yT.keep hb J B (fun y O=>hs y (by simp[O])) h7⟩
def zA2(K:List (Nat×KF))(B:List Bx)(a:Act)(t:Nat):SF:=if t∈K.map (·.1)++B.map (·.t)then⟨fun v W=>(zAb K B t).p v W/\v=a.tmps.getD t undef,fun _ _ _ h hb=>⟨(zAb K B t).st _ _ _ h.1 hb,h.2⟩⟩else zAb K B t
def zAf:List Nat->Bool
 | []=>true
 |x::l=> !l.contains x&&zAf l
theorem zDR{G:Nat->SF}{q:Nat×SF}:∀{l:List (Nat×SF)},zAf (l.map (·.1))=true->q∈l->upd G l q.1=q.2
 | [],_,h=>by cases h
 | x::l,hn,h=>by
  rw[xY,zAf,xW]at hn
  show(bif Nat.beq x.1 q.1 then x.2 else upd G l q.1)=q.2
  rcases xS.1 h with rfl|h
  .simp
  .have:Nat.beq x.1 q.1=false:=by
    cases e:Nat.beq x.1 q.1 with
    |false=>rfl
    |true=>
     exfalso
     have J:=cH e
     have I:=hn.1
     rw[J,cE.2 (xH.2 ⟨q,h,rfl⟩)]at I
     cases I
   rw[this]
   exact zDR hn.2 h
def zBd(K0 K:List (Nat×KF))(B:List Bx)(a:Act)(t:Nat):SF:=if t∈K.map (·.1)++B.map (·.t)then⟨fun v W=>(zAb (K0++K) B t).p v W/\v=a.tmps.getD t undef,fun _ _ _ h hb=>⟨(zAb (K0++K) B t).st _ _ _ h.1 hb,h.2⟩⟩else zAb (K0++K) B t
theorem zFU(K0:List (Nat×KF))(k:Nat)(L:List (Nat×Rw))(h:StS S w0 (K0++K) B n ds a w){h8:Prop}{hC:Act->WB->Prop}
  (hT:∀G':Nat->SF,At w G' n ds a w->Obs F m P w ops (upd G' (zS L)) (ops.toList.take k)->(∀a' w',At w (zGj ops k (upd G' (zS L))) n ds a' w'->hC a' w')->h8)
  (hK:jT ops=true)(hp:((L.map (·.1)).all fun t=>(List.range k).any fun i=>yD ops i==some t)=true)(hI:jU ops (K.map (·.1)++B.map (·.t))=true)(hL:zAf (L.map (·.1))=true)
  (hB:Obs F m P w ops (upd (zAb (K0++K) B) (zS L)) (ops.toList.take k))
  (hE:∀a w,StS S w0 (zAR L++K) B n ds a w->(∀q,q∈zS L->q.2.p (a.tmps.getD q.1 undef) w)->hC a w):h8:=by
 have J:(zS L).map (·.1)=L.map (·.1):=by simp[zS]
 have I:∀t,t∈K.map (·.1)++B.map (·.t)->∀i,yD ops i≠some t:=fun t ht i hi=>by
  have O:=xT.1 hI t ht
  obtain⟨o,ho,_⟩:=jC hi
  have h2:=xT.1 O i (xU.2 (xQ.1 ho).1)
  rw[hi]at h2
  simp at h2
 have hv:∀t,t∈K.map (·.1)++B.map (·.t)->a.tmps.getD t undef=a.tmps.getD t undef:=fun _ _=>rfl
 -- the slots of K and B stay: a table that says so
 have hA:=h.at
 refine hT (zBd K0 K B a) ⟨hA.gr,hA.size,hA.nd,fun t=>?_⟩ ?_ fun a' w' h0=>?_
 .by_cases ht:t∈K.map (·.1)++B.map (·.t)
  .unfold zBd;rw[if_pos ht];exact⟨hA.sl t,rfl⟩
  .unfold zBd;rw[if_neg ht];exact hA.sl t
 .-- the obligations hold with the stronger table
  have hS:∀t,t∈K.map (·.1)++B.map (·.t)->((zS L).map (·.1)).contains t=false:=fun t ht=>by
   cases hc:((zS L).map (·.1)).contains t with
   |false=>rfl
   |true=>
    exfalso
    have hm:=cE.1 hc
    rw[J]at hm
    obtain⟨i,_,he⟩:=bX.1 (xT.1 hp t hm)
    exact I t ht i (by simpa using he)
  have hy:∀t v W,(upd (zBd K0 K B a) (zS L) t).p v W->(upd (zAb (K0++K) B) (zS L) t).p v W:=fun t v W hh=>by
   by_cases ht:t∈K.map (·.1)++B.map (·.t)
   .rw[zAP (hS t ht)]at hh ⊢
    unfold zBd at hh
    rw[if_pos ht]at hh
    exact hh.1
   .have:∀l:List (Nat×SF),upd (zBd K0 K B a) l t=upd (zAb (K0++K) B) l t:=fun l=>by
     induction l with
     |nil=>exact if_neg ht
     |cons q l ih=>
      show(bif Nat.beq q.1 t then q.2 else upd _ l t)=(bif Nat.beq q.1 t then q.2 else upd _ l t)
      rw[ih]
    rwa [this]at hh
  have hz:∀t,(∃i,yD ops i=some t)->∀v W,(upd (zAb (K0++K) B) (zS L) t).p v W->(upd (zBd K0 K B a) (zS L) t).p v W:=fun t ⟨i,hi⟩ v W hh=>by
   have ht: ¬t∈K.map (·.1)++B.map (·.t):=fun ht=>I t ht i hi
   have:∀l:List (Nat×SF),upd (zBd K0 K B a) l t=upd (zAb (K0++K) B) l t:=fun l=>by
    induction l with
    |nil=>exact if_neg ht
    |cons q l ih=>
     show(bif Nat.beq q.1 t then q.2 else upd _ l t)=(bif Nat.beq q.1 t then q.2 else upd _ l t)
     rw[ih]
   rwa [this]
  have hl:∀(o:Oper),o∈ops.toList->qO F m P w ops (upd (zAb (K0++K) B) (zS L)) o->qO F m P w ops (upd (zBd K0 K B a) (zS L)) o:=by
   intro o ho hg
   have ha:∀d,o.dst=some d->∃i,yD ops i=some d:=fun d hd=>by
    obtain⟨i,hi⟩:=List.getElem?_of_mem ho
    exact⟨i,by rw[jS (o:=o) (by simpa using hi)];exact hd⟩
   have hD:zPT F m P w (upd (zAb (K0++K) B) (zS L)) o->zPT F m P w (upd (zBd K0 K B a) (zS L)) o:=fun O b W K' Q' hb hr hR=>
    O b W K' Q' hb (fun t ht=>hy t _ _ (hr t ht)) fun v W' hv hb'=>hR v W' (fun d hd=>hz d (ha d hd) _ _ (hv d hd)) hb'
   unfold qO at hg ⊢
   cases hgd:o.guard with
   |none=>rw[hgd]at hg;exact hD hg
   |some q=>
    rw[hgd]at hg
    obtain⟨g,bv,O,h2,h3,h4⟩:=hg
    exact⟨g,bv,O,fun v W hh=>h2 v W (hy g v W hh),fun e=>hD (h3 e),fun e=>⟨fun d hd W=>hz d (ha d hd) _ _ ((h4 e).1 d hd W),(h4 e).2⟩⟩
  have hG:∀l:List Oper,(∀o,o∈l->o∈ops.toList)->Obs F m P w ops (upd (zAb (K0++K) B) (zS L)) l->Obs F m P w ops (upd (zBd K0 K B a) (zS L)) l:=by
   intro l
   induction l with
   |nil=>intro _ _;trivial
   |cons o l ih=>intro hm ho;exact⟨hl o (hm o fC) ho.1,ih (fun o' hP=>hm o' (by simp[hP])) ho.2⟩
  exact hG _ (fun o ho=>uW ho) hB
 .have hg:=h0.gr
  have h6:∀t,t∈K.map (·.1)++B.map (·.t)->a'.tmps.getD t undef=a.tmps.getD t undef:=fun t ht=>by
   have O:=h0.sl t
   unfold zGj at O
   have h2:((List.range ops.size).any fun i=>decide (k<=i)&&(yD ops i==some t))=false:=by
    refine cP.2 fun i _=>?_
    have:=I t ht i
    simp[this]
   rw[h2]at O
   have h3:((zS L).map (·.1)).contains t=false:=by
    cases hc:((zS L).map (·.1)).contains t with
    |false=>rfl
    |true=>
     exfalso
     have hm:=cE.1 hc
     rw[J]at hm
     obtain⟨i,_,he⟩:=bX.1 (xT.1 hp t hm)
     exact I t ht i (by simpa using he)
   rw[show(bif false then SF.any else upd _ (zS L) t)=upd _ (zS L) t from rfl,zAP h3,zBd,if_pos ht]at O
   exact O.2
  have h9:∀q,q∈zS L->q.2.p (a'.tmps.getD q.1 undef) w':=fun q hw=>by
   have O:=h0.sl q.1
   obtain⟨i,hi,he⟩:=bX.1 (xT.1 hp q.1 (by rw[<-J];exact xH.2 ⟨_,hw,rfl⟩))
   have hik:=xU.1 hi
   have he:yD ops i=some q.1:=by simpa using he
   unfold zGj at O
   have h2:((List.range ops.size).any fun j=>decide (k<=j)&&(yD ops j==some q.1))=false:=by
    refine cP.2 fun j _=>?_
    by_cases hj:k<=j
    .have:yD ops j≠some q.1:=fun e=>by
      obtain⟨oi,hJ,hQ⟩:=jC he
      obtain⟨oj,hO,hM⟩:=jC e
      exact zAH hK hJ hO oA hQ hM
     simp[this]
    .simp[hj]
   rw[h2,show(bif false then SF.any else upd (zBd K0 K B a) (zS L) q.1)=upd (zBd K0 K B a) (zS L) q.1 from rfl,zDR (q:=q) (by rw[J];exact hL) hw]at O
   exact O
  refine hE a' w' ⟨h.gr.trans hg,h0.size,h0.nd,fun q U=>?_,h.bx.keep hg (zR hg) B fun x hx=>h6 _ (cX _ (xH.2 ⟨x,hx,rfl⟩)),zBx h.mks hg,h.so.imp (fun hu q U=>(by
   rcases vW.1 U with U|U
   .obtain⟨f,e,_⟩:=zA9 U;exact⟨f,e⟩
   .exact hu q (cX _ U))) (fun x=>x)⟩ h9
  rcases vW.1 U with U|U
  .obtain⟨f,hN,hm⟩:=zA9 U
   have O:=h9 (q.1,f.tS) (xH.2 ⟨_,hm,rfl⟩)
   rw[hN]
   exact O
  .rw[h6 q.1 (eA _ (xH.2 ⟨q,U,rfl⟩))]
   exact KF.us (h.sl q (cX _ U)) (zR hg)
theorem zGS(k:Nat)(L:List (Nat×Rw))(h:StS S w0 K B n ds a w){I:Prop}{U:Act->WB->Prop}
  (hT:∀G':Nat->SF,At w G' n ds a w->Obs F m P w ops (upd G' (zS L)) (ops.toList.take k)->(∀a' w',At w (zGj ops k (upd G' (zS L))) n ds a' w'->U a' w')->I)
  (h4:jT ops=true)(h0:((L.map (·.1)).all fun t=>(List.range k).any fun i=>yD ops i==some t)=true)(h1:jU ops (K.map (·.1)++B.map (·.t))=true)(h5:zAf (L.map (·.1))=true)
  (J:Obs F m P w ops (upd (zAb K B) (zS L)) (ops.toList.take k))
  (O:∀a w,StS S w0 (zAR L++K) B n ds a w->(∀q,q∈zS L->q.2.p (a.tmps.getD q.1 undef) w)->U a w):I:=
 zFU [] k L h hT h4 h0 h1 h5 J O
theorem zNC(k:Nat)(L:List (Nat×Rw))(hmix:P.follows .mixedOrders=true)(h:StS S w0 K B n ds a w)
  (I:zBN ops draw k n (L.map (·.1))=true)(h4:jU ops (K.map (·.1)++B.map (·.t))=true)(h5:zAf (L.map (·.1))=true)
  (O:Obs F m P w ops (upd (zAb K B) (zS L)) (ops.toList.take k))
  (U:∀a w,StS S w0 (zAR L++K) B n ds a w->wpOpsIn F m P ops Q (List.range' k (ops.size-k)) a w):(Code.region id ops draw).wpIn F m P Q a w:=by
 have J:(zS L).map (·.1)=L.map (·.1):=by simp[zS]
 have h0:=I
 unfold zBN at h0
 simp only[xW]at h0
 exact zGS k L h (fun G' hA hO hF=>zF3 k (zS L) hmix (by rw[J];exact I) hA hO hF) h0.1.1.1.1.1.1 h0.1.1.2 h4 h5 O (fun a w h _=>U a w h)
def zAV(F:Fence)(m:Nat)(P:WH)(ops:Array Oper)(Q:Exit->Act->WB->Prop)(k:Nat)(a:Act)(w:WB):Prop:=wpOpsIn F m P ops Q (List.range' k (ops.size-k)) a w
theorem zIY(k:Nat)(L:List (Nat×Rw))(hmix:P.follows .mixedOrders=true)(h:StS S w0 K B n ds a w)
  (I:(zBN ops draw k n (L.map (·.1))&&jU ops (K.map (·.1)++B.map (·.t))&&zAf (L.map (·.1)))=true)
  (J:Obs F m P w ops (upd (zAb K B) (zS L)) (ops.toList.take k))
  (O:∀a w,StS S w0 (zAR L++K) B n ds a w->zAV F m P ops Q k a w):(Code.region id ops draw).wpIn F m P Q a w:=by
 simp only[xW]at I
 exact zNC k L hmix h I.1.1 I.1.2 I.2 J O
theorem zGX(k:Nat)(L:List (Nat×Rw))(hmix:P.follows .mixedOrders=true)(h:StS S w0 K B n ds a w)
  (I:(zBN ops draw k n (L.map (·.1))&&jU ops (K.map (·.1)++B.map (·.t))&&zAf (L.map (·.1)))=true)
  (O:Obs F m P w ops (upd (zAb K B) (zS L)) (ops.toList.take k))
  (U:∀a w,StS S w0 (zAR L++K) B n ds a w->(∀q,q∈zS L->q.2.p (a.tmps.getD q.1 undef) w)->zAV F m P ops Q k a w):(Code.region id ops draw).wpIn F m P Q a w:=by
 simp only[xW]at I
 have J:(zS L).map (·.1)=L.map (·.1):=by simp[zS]
 have h0:=I.1.1
 unfold zBN at h0
 simp only[xW]at h0
 exact zGS k L h (fun G' hA hO hF=>zF3 k (zS L) hmix (by rw[J];exact I.1.1) hA hO hF) h0.1.1.1.1.1.1 h0.1.1.2 I.1.2 I.2 O U
theorem zD(I:ops.size=k)(h:Q .normal a w):zAV F m P ops Q k a w:=by
 unfold zAV
 rw[I,Nat.sub_self]
 exact h
theorem rgE(L:List (Nat×Rw))(h:StS S w0 K B n ds a w)(J:Obs F m P w ops (upd (zAb K B) (zS L)) (ops.toList.take ops.size))(O:∀a w,StS S w0 (zAR L++K) B n ds a w->Q .normal a w)(hmix:P.follows .mixedOrders=true:=by kernel_rfl)
  (I:(zBN ops draw ops.size n (L.map (·.1))&&jU ops (K.map (·.1)++B.map (·.t))&&zAf (L.map (·.1)))=true:=by kernel_rfl):(Code.region id ops draw).wpIn F m P Q a w:=
 zIY ops.size L hmix h I J fun a w s=>zD rfl (O a w s)
theorem rgQ{y:Code}(L:List (Nat×Rw))(h:StS S w0 K B n ds a w)(J:Obs F m P w ops (upd (zAb K B) (zS L)) (ops.toList.take ops.size))(O:∀a w,StS S w0 (zAR L++K) B n ds a w->y.wpIn F m P Q a w)(hmix:P.follows .mixedOrders=true:=by kernel_rfl)
  (I:(zBN ops draw ops.size n (L.map (·.1))&&jU ops (K.map (·.1)++B.map (·.t))&&zAf (L.map (·.1)))=true:=by kernel_rfl):(Code.seq (Code.region id ops draw) y).wpIn F m P Q a w:=
 lP (rgE L h J O hmix I)
theorem rgK(k:Nat)(L:List (Nat×Rw))(h:StS S w0 K B n ds a w)(J:Obs F m P w ops (upd (zAb K B) (zS L)) (ops.toList.take k))(O:∀a w,StS S w0 (zAR L++K) B n ds a w->zAV F m P ops Q k a w)(hmix:P.follows .mixedOrders=true:=by kernel_rfl)
  (I:(zBN ops draw k n (L.map (·.1))&&jU ops (K.map (·.1)++B.map (·.t))&&zAf (L.map (·.1)))=true:=by kernel_rfl):(Code.region id ops draw).wpIn F m P Q a w:=
 zIY k L hmix h I J O
theorem rgN(L:List (Nat×Rw))(h:StS S w0 K B n ds a w)(J:Obs F m P w ops (upd (zAb K B) (zS L)) (ops.toList.take ops.size))(O:∀a w,StS S w0 (zAR L++K) B n ds a w->(∀q,q∈zS L->q.2.p (a.tmps.getD q.1 undef) w)->Q .normal a w)(hmix:P.follows .mixedOrders=true:=by kernel_rfl)
  (I:(zBN ops draw ops.size n (L.map (·.1))&&jU ops (K.map (·.1)++B.map (·.t))&&zAf (L.map (·.1)))=true:=by kernel_rfl):(Code.region id ops draw).wpIn F m P Q a w:=
 zGX ops.size L hmix h I J fun a w s U=>zD rfl (O a w s U)
theorem rgL(k:Nat)(L:List (Nat×Rw))(h:StS S w0 K B n ds a w)(J:Obs F m P w ops (upd (zAb K B) (zS L)) (ops.toList.take k))(O:∀a w,StS S w0 (zAR L++K) B n ds a w->(∀q,q∈zS L->q.2.p (a.tmps.getD q.1 undef) w)->zAV F m P ops Q k a w)(hmix:P.follows .mixedOrders=true:=by kernel_rfl)
  (I:(zBN ops draw k n (L.map (·.1))&&jU ops (K.map (·.1)++B.map (·.t))&&zAf (L.map (·.1)))=true:=by kernel_rfl):(Code.region id ops draw).wpIn F m P Q a w:=
 zGX k L hmix h I J O
theorem zAi{o:Oper}(I:ops[k]?=some o)(J:o.guard=none)(h:o.wpIn F m P a w (zAV F m P ops Q (k+1)) Q):zAV F m P ops Q k a w:=by
 have hlt:=(xQ.1 I).1
 unfold zAV
 rw[show ops.size-k=(ops.size-(k+1))+1 from oA,eB,eI]
 unfold wpOpIn
 rw[I]
 have O:Region.wanted o (yielded ops a.tmps)=true:=by unfold Region.wanted;rw[J]
 show(if Region.wanted o (yielded ops a.tmps)=true then _ else _)
 rw[if_pos O]
 exact h
theorem StS.fct(h:StS S w0 K B n ds a w)(x:WL):(fct (zAb K B) x).p (a.eval x) w:=by
 cases x with
 |tmp t=>exact h.at.sl t
 |const v=>rfl
 |func f=>rfl
 |global g=>rfl
def jY(K:List (Nat×KF))(B:List Bx)(n d:Nat):Bool:= !(K.map (·.1)++B.map (·.t)).contains d&&decide (d<n)
theorem zAa(I:d<a.tmps.size)(v:WE):(a.put (some d) v).tmps.getD d undef=v:=by
 show(a.tmps.setIfInBounds d v).getD d undef=v
 rw[xV,eL I]
 rfl
theorem zAw{t:Nat}(I:d≠t)(v:WE):(a.put (some d) v).tmps.getD t undef=a.tmps.getD t undef:=zB9 I
theorem zDB{t:Nat}(I:jY K B n d=true)(ht:t∈K.map (·.1)++B.map (·.t)):d≠t:=fun e=>by
 subst e
 unfold jY at I
 rw[cE.2 ht]at I
 cases I
theorem zIj(I:jY K B n d=true):d<n:=by
 unfold jY at I
 simp only[xW,bY]at I
 exact I.2
theorem StS.set(h:StS S w0 K B n ds a w){d:Nat}{v:WE}(J:jY K B n d=true){w':WB}(hb:bW w w'){f:UF}(U:f.p v w'):StS S w0 ((d,.u f)::K) B n ds (a.put (some d) v) w':=by
 refine⟨h.gr.trans hb,by rw[zDq];exact h.size,by rw[zB2];exact h.nd,fun q I=>?_,h.bx.keep hb (zR hb) B fun x O=>zAw (zDB J (cX _ (xH.2 ⟨x,O,rfl⟩))) v,zBx h.mks hb,h.so.imp (fun hu q I=>(by
  rcases xS.1 I with rfl|I
  .exact⟨f,rfl⟩
  .exact hu q I)) (fun x=>x)⟩
 rcases xS.1 I with rfl|I
 .rw[zAa (by rw[h.size];exact zIj J)]
  exact U
 .rw[zAw (zDB J (eA _ (xH.2 ⟨q,I,rfl⟩)))]
  exact KF.us (h.sl q I) (zR hb)
theorem StS.lay(h:StS S w0 K B n ds a w){d:Nat}{e:WF}{cs:List WE}(I:jY K B n d=true){C:CU}(hc:C.p cs w)(hn:cs.all zY=true):StS S w0 K (⟨d,e,C,w.heap.size,false⟩::B) n ds (a.put (some d) (pO w.heap.size 0)) (w.alloc (.cells cs.toArray e (0,0))):=by
 have hb:=zCs w (.cells cs.toArray e (0,0))
 have J:∀x,x∈B->(a.put (some d) (pO w.heap.size 0)).tmps.getD x.t undef=a.tmps.getD x.t undef:=fun x U=>zAw (zDB I (cX _ (xH.2 ⟨x,U,rfl⟩))) _
 refine⟨h.gr.trans hb,by rw[zDq];exact h.size,by rw[zB2];exact h.nd,fun q O=>?_,⟨⟨cs,zAa (by rw[h.size];exact zIj I) _,.inr (.inl h.gr.size),cT w _,C.us _ _ _ hc (zR hb),hn,fun y hy=>?_⟩,h.bx.keep hb (zR hb) B J⟩,zBx h.mks hb,h.so⟩
 .rw[zAw (zDB I (eA _ (xH.2 ⟨q,O,rfl⟩)))]
  exact KF.us (h.sl q O) (zR hb)
 .obtain⟨_,_,_,h3,_⟩:=h.bx.mem y hy
  have:=(xQ.1 h3).1
  left
  show y.b≠w.heap.size
  omega
theorem yQ(f:UF)(I:ops[k]?=some ⟨some d,.assign x,ty,pos,aft,none⟩)(h:StS S w0 K B n ds a w)(O:jY K B n d=true)(J:∀v W,(Wd.fct (zAb K B) x).p v W->f.p v W)
  (fin:∀a w,StS S w0 ((d,.u f)::K) B n ds a w->zAV F m P ops Q (k+1) a w):zAV F m P ops Q k a w:=
 zAi I rfl (zCl (fun _ e=>by cases e) (fun _ e=>by cases e) (W':=w) (v:=a.eval x) rfl (fin _ _ (h.set O (xG _ _) (J _ _ (h.fct x)))))
theorem yL(C:CU)(J:ops[k]?=some ⟨some d,.box e x,ty,pos,aft,none⟩)(h:StS S w0 K B n ds a w)(U:jY K B n d=true)(O:∀v W,(Wd.fct (zAb K B) x).p v W->C.p v.cells.toList W/\v.cells.toList.all zY=true)
  (fin:∀b a w,StS S w0 K (⟨d,e,C,b,false⟩::B) n ds a w->zAV F m P ops Q (k+1) a w):zAV F m P ops Q k a w:=
 zAi J rfl (zCl (fun _ e=>by cases e) (fun _ e=>by cases e) (W':=w.alloc (.cells (a.eval x).cells e (0,0))) (v:= pO w.heap.size 0) (by simp[execOp,Instr.box,newVar,newRow]) (by
  have I:=O _ _ (h.fct x)
  have:=h.lay (e:=e) U I.1 I.2
  rw[Array.toArray_toList]at this
  exact fin _ _ _ this))
theorem zX(C:CU){cs:List WE}(hz:zeroCells P e=some cs)(J:ops[k]?=some ⟨some d,.alloc e,ty,pos,aft,none⟩)(h:StS S w0 K B n ds a w)(O:jY K B n d=true)(U:∀W,C.p cs W)(hn:cs.all zY=true)
  (fin:∀b a w,StS S w0 K (⟨d,e,C,b,false⟩::B) n ds a w->zAV F m P ops Q (k+1) a w):zAV F m P ops Q k a w:=by
 have I:(Instr.alloc e true (.tuple #[])).run P w=.ok (pO w.heap.size 0) (w.alloc (.cells cs.toArray e (0,0))):=by
  unfold zeroCells at hz
  cases hi:P.info? e with
  |none=>rw[hi]at hz;cases hz
  | some i=>
   rw[hi]at hz
   simp only[mG]at hz
   cases hzz:i.zero with
   |none=>rw[hzz]at hz;cases hz
   |some z=>
    rw[hzz]at hz
    simp only[mA,lX]at hz
    subst hz
    simp[Instr.alloc,zeroValue,typeInfo,hi,hzz,newVar,newRow]
 exact zAi J rfl (zCl (fun _ e=>by cases e) (fun _ e=>by cases e) (W':=w.alloc (.cells cs.toArray e (0,0))) (v:= pO w.heap.size 0) (by simp[execOp,I]) (fin _ _ _ (h.lay O (U _) hn)))
def zFh:List Bx->Nat->CU->List Bx
 | [],_,_=> []
 |x::B,c,C=>bif Nat.beq x.t c then⟨x.t,x.e,C,x.b,x.r⟩::B else x::zFh B c C
theorem zNo:∀(B:List Bx) (c:Nat) (C:CU),(zFh B c C).map (fun x=>(x.b,x.r))=B.map (fun x=>(x.b,x.r))
 | [],_,_=>rfl
 |x::B,c,C=>by
  unfold zFh
  cases Nat.beq x.t c with
  |true=>rfl
  |false=>simp[zNo B c C]
theorem yT.turn{w':WB}{c:Nat}{vs:List WE}{C:CU}{x:Bx}(J:x.r=false)(hc:C.p vs w')(hn:vs.all zY=true)(h0:w'.heap[x.b]?=some (.cells vs.toArray x.e (0,0)))(ho:∀k,k<w.heap.size->k≠x.b->w'.heap[k]?=w.heap[k]?)(hk:y7 w w'):∀(B:List Bx),yT S w0 a w B->x∈B->x.t=c->(∀y,y∈B->y.t=c->y=x)->yT S w0 a w' (zFh B c C)
 | [],_,h,_,_=>by cases h
 | y::B,⟨⟨cs,h1,h2,h3,h4,h5,h6⟩,h7⟩,hx,hxc,hu=>by
  unfold zFh
  cases e:Nat.beq y.t c with
  | true=>
   have e2:=cH e
   obtain rfl:y=x:=hu y fC e2
   refine⟨⟨vs,h1,h2,h0,hc,hn,h6⟩,?_⟩
   have:∀B:List Bx,yT S w0 a w B->(∀z,z∈B->z.b≠y.b∨(y.r=true/\z.r=true))->yT S w0 a w' B:=by
    intro B
    induction B with
    |nil=>intro _ _;trivial
    |cons z B ih=>
     intro hB O
     obtain⟨⟨c2,g1,g2,g3,g4,g5,g6⟩,g7⟩:=hB
     exact⟨⟨c2,g1,g2,(ho _ (xQ.1 g3).1 ((O z fC).resolve_right (fun e=>by rw[J]at e;cases e.1))).trans g3,z.c.us _ _ _ g4 hk,g5,g6⟩,ih g7 fun z' I=>O z' (by simp[I])⟩
   exact this B h7 h6
  | false=>
   have U:x∈B:=by
    rcases xS.1 hx with rfl|hx
    .rw[hxc]at e;simp at e
    .exact hx
   refine⟨⟨cs,h1,h2,(ho _ (xQ.1 h3).1 (fun e'=>((h6 x U).resolve_right (fun e=>by rw[J]at e;cases e.2)) e'.symm)).trans h3,y.c.us _ _ _ h4 hk,h5,fun z O=>?_⟩,yT.turn J hc hn h0 ho hk B h7 U hxc fun z O=>hu z (by simp[O])⟩
   have h8:(z.b,z.r)∈B.map (fun x=>(x.b,x.r)):=by rw[<-zNo B c C];exact xH.2 ⟨z,O,rfl⟩
   obtain⟨z',I,e3⟩:=xH.1 h8
   injection e3 with e3 e4
   rw[<-e3,<-e4]
   exact h6 z' I
def zFk:List Bx->Nat->Option Bx
 | [],_=>none
 |x::B,c=>bif Nat.beq x.t c then some x else zFk B c
theorem zAp:∀{B:List Bx} {c:Nat} {x:Bx},zFk B c=some x->x∈B/\x.t=c
 | [],_,_,h=>by cases h
 | y::B,c,x,h=>by
  unfold zFk at h
  cases e:Nat.beq y.t c with
  |true=>
   rw[e]at h
   obtain rfl:y=x:=by injection h
   exact⟨fG,cH e⟩
  |false=>
   rw[e]at h
   obtain⟨I,h2⟩:=zAp h
   exact⟨by simp[I],h2⟩
theorem yT.one{c:Nat}{x y:Bx}(J:x.r=false):∀{B:List Bx},yT S w0 a w B->x∈B->y∈B->x.t=c->y.t=c->y=x
 | [],_,h,_,_,_=>by cases h
 | z::B,⟨⟨cs,h1,h2,h3,h4,h5,h6⟩,h7⟩,hx,O,hxc,hyc=>by
  have h0:∀q,q∈B->q.t=z.t->(z.r=false∨q.r=false)->False:=fun q hq e U=>by
   obtain⟨_,I,_⟩:=yT.mem h7 q hq
   rw[e,h1]at I
   injection I with I
   injection I with I
   injection I with I
   rcases h6 q hq with g|g
   .exact g I.symm
   .rcases U with U|U
    .rw[U]at g;cases g.1
    .rw[U]at g;cases g.2
  rcases xS.1 hx with e1|hx
  .rcases xS.1 O with e2|O
   .rw[e1,e2]
   .exact(h0 y O (by rw[hyc,<-hxc,e1]) (.inl (by rw[<-e1];exact J))).elim
  .rcases xS.1 O with e2|O
   .exact(h0 x hx (by rw[hxc,<-hyc,e2]) (.inr J)).elim
   .exact yT.one J h7 hx O hxc hyc
theorem StS.turn(h:StS S w0 K B n ds a w){c:Nat}{x:Bx}(hB:zFk B c=some x)(J:x.r=false){w':WB}{vs:List WE}{C:CU}(U:w.grownBy w' (some x.b))(hd:w'.heap[x.b]?=some (.cells vs.toArray x.e (0,0)))(hc:C.p vs w')(hn:vs.all zY=true):StS S w0 K (zFh B c C) n ds a w':=by
 obtain⟨hx,O⟩:=zAp hB
 obtain⟨cs,h1,h2,h3,h4,h5⟩:=h.bx.mem x hx
 have hk:y7 w w':=fun q u I=>by
  have h9:=xK w _ I
  by_cases e:q.block=x.b
  .exfalso
   have h6:w.cell? q=if q.spot.isSome then none else cs.toArray[q.off]?:=by
    unfold World.cell?
    rw[e,h3]
   rw[h6]at I
   split at I
   .cases I
   .have:=xT.1 h5 _ (mJ (by simpa using I))
    cases this
  .exact(bQ (U.block _ h9 (fun e'=>e (lV e')))).trans I
 exact⟨h.gr.grown U (h2.resolve_left (by rw[J];decide)),h.size,h.nd,fun q I=>KF.us (h.sl q I) hk,h.bx.turn J hc hn hd (fun k ha h8=>U.block k ha (fun e=>h8 (lV e))) hk B hx O fun y hy h0=>yT.one J h.bx hx hy O h0,zKh h.mks U h3,h.so⟩
theorem zBG(w:WB)(b:Nat)(vs:Array WE):w.grownBy (w.setRow b vs) (some b):=⟨rfl,rfl,rfl,by rw[size_setRow];exact vQ _,fun k _ I=>mI w b k vs (fun e=>I (by rw[e]))⟩
theorem zAr(C:CU)(f:SF)(ho:ops[k]?=some ⟨none,.store t (.tmp c) x,ty,pos,aft,none⟩)(h:StS S w0 K B n ds a w)(O:jR P t=some kk){y:Bx}(hB:zFk B c=some y)(U:y.r=false)(h7:y.e=t)(h6:∀cs W,y.c.p cs W->cs.length=kk)
  (hx:∀v W,(Wd.fct (zAb K B) x).p v W->f.p v W)(hv:∀v W,f.p v W->∃vs:List WE,v=.agg vs.toArray/\vs.length=kk/\(∀u,u∈vs->u.oneCell'=true)/\vs.all zY=true/\C.p vs W)
  (fin:∀a w,StS S w0 K (zFh B c C) n ds a w->zAV F m P ops Q (k+1) a w):zAV F m P ops Q k a w:=by
 obtain⟨hy,J⟩:=zAp hB
 obtain⟨cs,h1,h2,h3,h4,h5⟩:=h.bx.mem y hy
 obtain⟨vs,e,hl,h0,I,hC⟩:=hv _ _ (hx _ _ (h.fct x))
 rw[J]at h1
 have hk:y7 w (w.setRow y.b vs.toArray):=zCi h3 (by simpa using h5)
 exact zAi ho rfl (zLs O h7 (h6 _ _ h4) h1 h3 e hl h0 (fin _ _ (h.turn hB U (zBG w y.b vs.toArray) (mB w y.b cs.toArray vs.toArray y.e (0,0) h3) (C.us _ _ _ hC hk) I)))
theorem zM(f:UF)(ho:ops[k]?=some ⟨none,.store t (.tmp c) x,ty,pos,aft,none⟩)(h:StS S w0 K B n ds a w){y:Bx}(hv:∀v W,f.p v W->∃vs:List WE,v=.agg vs.toArray/\vs.length=kk/\(∀u,u∈vs->u.oneCell'=true)/\vs.all zY=true/\(CU.agg f).p vs W)(fin:∀a w,StS S w0 K (zFh B c (CU.agg f)) n ds a w->zAV F m P ops Q (k+1) a w)(J:jR P t=some kk:=by kernel_rfl)(hB:zFk B c=some y:=by rfl)(I:y.r=false:=by rfl)(U:y.e=t:=by rfl)(O:∀cs W,y.c.p cs W->cs.length=kk:=by exact fun _ _ h=>h)(hx:∀v W,(Wd.fct (zAb K B) x).p v W->f.tS.p v W:=by exact fun _ _ h=>h):zAV F m P ops Q k a w:=zAr (CU.agg f) f.tS ho h J hB I U O hx hv fin
theorem zBJ(f:UF)(U:ops[k]?=some ⟨some d,op,ty,pos,aft,none⟩)(h:StS S w0 K B n ds a w)(hf:jY K B n d=true)(J:qO F m P w ops (upd (zAb K B) [(d,f.tS)]) ⟨some d,op,ty,pos,aft,none⟩)
  (I:(zDY ⟨some d,op,ty,pos,aft,none⟩).contains d=false)(fin:∀a w,StS S w0 ((d,.u f)::K) B n ds a w->zAV F m P ops Q (k+1) a w):zAV F m P ops Q k a w:=by
 refine zAi U rfl (J a w _ Q (xG _ _) (fun t ht=>?_) fun v W' hv hb=>fin _ _ (h.set hf hb ?_))
 .have O:Nat.beq d t=false:=by
   cases e:Nat.beq d t with
   |false=>rfl
   |true=>
    have:=cH e
    subst this
    rw[cE.2 ht]at I
    cases I
  show(bif Nat.beq d t then f.tS else zAb K B t).p _ _
  rw[O]
  exact h.at.sl t
 .have:=hv d rfl
  have e:(upd (zAb K B) [(d,f.tS)]) d=f.tS:=by
   show(bif Nat.beq d d then f.tS else _)=_
   rw[show Nat.beq d d=true from mD d]
   rfl
  rw[e]at this
  exact this
theorem zBB{b:Nat}:∀(vs:List WE) (o i:Nat),storeCells ⟨b,o,none⟩ vs i=storeCells ⟨b,0,none⟩ vs (o+i)
 | [],_,_=>rfl
 |v::vs,o,i=>by
  unfold storeCells
  rw[zBB vs o (i+1),xI,xI,uM,uT]
def jD(cs:List WE)(o:Nat)(vs:List WE):List WE:=cs.take o++vs++cs.drop (o+vs.length)
theorem zAn{b:Nat}{t:WF}:∀(vs:List WE) (i:Nat) (cs:List WE) (w:WB),w.heap[b]?=some (.cells cs.toArray t (0,0))->i+vs.length<=cs.length->(∀v,v∈vs->v.oneCell'=true)->
  (storeCells ⟨b,0,none⟩ vs i).run P w=.ok () (w.setRow b (jD cs i vs).toArray)
 | [],i,cs,w,hg,hl,_=>by
  have:jD cs i []=cs:=by unfold jD;simp
  rw[this]
  unfold storeCells
  rw[setRow_self w b _ t (0,0) hg]
  rfl
 | v::vs,i,cs,w,hg,hl,O=>by
  simp only[lU]at hl
  unfold storeCells
  have I:w.cell? ⟨b,i,none⟩=some cs[i]:=by
   unfold World.cell?
   rw[hg]
   simp[lQ (oA:i<cs.length)]
  have U:w.frozen? ⟨b,i,none⟩=false:=by simp[World.frozen?,hg]
  have hs:(store ⟨b,i,none⟩ v).run P w=.ok () (w.setCell ⟨b,i,none⟩ v):=by
   rw[run_store _ _ _ _ _ (O v fC),I]
   simp[U]
  rw[xI,uM]
  simp only[cC,hs,cM]
  have J:w.setCell ⟨b,i,none⟩ v=w.setRow b (cs.set i v).toArray:=by
   have h0:b<w.heap.size:=(xQ.1 hg).1
   have hv:w.heap[b]=.cells cs.toArray t (0,0):=(xQ.1 hg).2
   unfold World.setCell World.setRow
   congr 1
   refine eF fC fun j O h2=>?_
   by_cases e:j=b
   .subst e
    simp[mK,hv]
   .simp[mK,bK e]
  rw[J]
  have h4:=mB w b cs.toArray (cs.set i v).toArray t (0,0) hg
  rw[zAn vs (i+1) (cs.set i v) _ h4 (by rw[uL];omega) (fun u hu=>O u (by simp[hu]))]
  congr 1
  have e1:jD (cs.set i v) (i+1) vs=jD cs i (v::vs):=by
   unfold jD
   rw[List.take_set,mF oA,List.set_append_right _ _ fM]
   have:i-(List.take i cs).length=0:=fM
   rw[this,List.drop_set_of_lt oA]
   simp[gO,Nat.add_left_comm]
  rw[e1]
  have h0:b<w.heap.size:=(xQ.1 hg).1
  have hv:w.heap[b]=.cells cs.toArray t (0,0):=(xQ.1 hg).2
  unfold World.setRow
  congr 1
  refine eF fC fun j O h2=>?_
  by_cases e:j=b
  .subst e
   simp[mK,hv]
  .simp[mK,bK e]
def zLY(P:WH)(t:WF):Option Nat:=(P.info? t).map (·.size)
theorem j9{o:Nat}(C:CU)(f:SF)(ho:ops[k]?=some ⟨none,.store t x y,ty,pos,aft,none⟩)(h:StS S w0 K B n ds a w)(I:zLY P t=some kk){z:Bx}(hB:zFk B c=some z)(h0:z.r=false)
  (hp:∀v W,(Wd.fct (zAb K B) x).p v W->v= pO z.b o)(hy:∀v W,(Wd.fct (zAb K B) y).p v W->f.p v W)
  (hv:∀v W,f.p v W->v.cells.size=kk/\(∀u,u∈v.cells.toList->u.oneCell'=true)/\v.cells.toList.all zY=true/\∀cs,z.c.p cs W->o+kk<=cs.length/\C.p (jD cs o v.cells.toList) W)
  (fin:∀a w,StS S w0 K (zFh B c C) n ds a w->zAV F m P ops Q (k+1) a w):zAV F m P ops Q k a w:=by
 obtain⟨hz,hzc⟩:=zAp hB
 obtain⟨cs,h1,h2,h3,h4,O⟩:=h.bx.mem z hz
 have e1:=hp _ _ (h.fct x)
 obtain⟨g1,g2,g3,g4⟩:=hv _ _ (hy _ _ (h.fct y))
 obtain⟨g5,g6⟩:=g4 cs h4
 have hk:y7 w (w.setRow z.b (jD cs o (a.eval y).cells.toList).toArray):=zCi h3 (by simpa using O)
 have J:(execOp a.eval ⟨none,.store t x y,ty,pos,aft,none⟩).run P w=.ok .skip (w.setRow z.b (jD cs o (a.eval y).cells.toList).toArray):=by
  unfold zLY at I
  cases hi:P.info? t with
  |none=>rw[hi]at I;cases I
  |some i=>
   rw[hi]at I
   simp only[mA,lX]at I
   have hr:=zAn (P:=P) (a.eval y).cells.toList o cs w h3 fM g2
   have hs:=zBB (b:=z.b) (a.eval y).cells.toList o 0
   rw[uN]at hs
   simp[execOp,Instr.storeAt,Instr.sureAddr,e1,storeVar,sizeOf,typeInfo,hi,I,g1,hs,hr]
 refine zAi ho rfl ⟨fun f hf=>(by cases hf),?_⟩
 rw[bH _ _ _ (fun _ e=>by cases e),J]
 refine fin _ _ (h.turn hB h0 (zBG w z.b _) (mB w z.b cs.toArray _ z.e (0,0) h3) (C.us _ _ _ g6 hk) ?_)
 unfold jD
 simp only[lZ,xW]
 refine⟨⟨xT.2 fun u U=>xT.1 O u (uW U),g3⟩,xT.2 fun u U=>xT.1 O u (gA U)⟩
def zPN(W:WB)(b:Nat)(te:WF)(C:CU)(f:SF):Ending->WB->Prop:=fun e W'=>∃v,e=.returned v/\f.p v W'/\W.grownBy W' (some b)/\∃cs:List WE,W'.heap[b]?=some (.cells cs.toArray te (0,0))/\C.p cs W'/\cs.all zY=true
theorem zTu(C:CU)(g:UF)(ho:ops[k]?=some ⟨some d,.call ⟨.value (.func f),xs,ats⟩,ty,pos,aft,none⟩)(hF:zJQ F m P)(he:Enters P f)(h:StS S w0 K B n ds a w)(hf:jY K B n d=true){z:Bx}(hB:zFk B c=some z)(I:z.r=false)
  (hc:∀cs,w.heap[z.b]?=some (.cells cs.toArray z.e (0,0))->z.c.p cs w->cs.all zY=true->(∀x,x∈xs.toList->(Wd.fct (zAb K B) x).p (a.eval x) w)->Calls P f (xs.map a.eval) w (zPN w z.b z.e C g.tS))
  (fin:∀a w,StS S w0 ((d,.u g)::K) (zFh B c C) n ds a w->zAV F m P ops Q (k+1) a w):zAV F m P ops Q k a w:=by
 obtain⟨hz,hzc⟩:=zAp hB
 obtain⟨cs,h1,h2,h3,h4,h5⟩:=h.bx.mem z hz
 have O:=hc cs h3 h4 h5 fun x _=>h.fct x
 refine zAi ho rfl ⟨fun g _=>hF.1 g,?_⟩
 rw[bH _ _ _ (fun _ e=>by cases e),execOp_call_go,he]
 simp only[mE]
 refine⟨hF.2.1,bG (hF.2.2 _ _ _ (zPN w z.b z.e C g.tS) (by simpa using O)) fun e W' he=>?_⟩
 obtain⟨v,rfl,hv,hg,cs',hh,hC,hn⟩:=he
 have s1:=h.turn hB I hg hh hC hn
 have J:jY K (zFh B c C) n d=true:=by
  have:(zFh B c C).map (·.t)=B.map (·.t):=by
   have U:∀B:List Bx,(zFh B c C).map (·.t)=B.map (·.t):=fun B=>by
    induction B with
    |nil=>rfl
    |cons x B ih=>
     unfold zFh
     cases Nat.beq x.t c with
     |true=>rfl
     |false=>simp[ih]
   exact U B
  unfold jY at hf ⊢
  rw[this]
  exact hf
 exact fin _ _ (s1.set J (xG _ _) hv)
theorem zHr(C:CU)(g:UF)(J:ops[k]?=some ⟨some d,.call ⟨.value (.func f),#[x],ats⟩,ty,pos,aft,none⟩)(hF:zJQ F m P)(he:Enters P f)(h:StS S w0 K B n ds a w)(U:jY K B n d=true){z:Bx}(O:zFk B c=some z)(I:z.r=false)
  (hp:∀v W,(Wd.fct (zAb K B) x).p v W->v= pO z.b 0)
  (hc:∀cs:List WE,w.heap[z.b]?=some (.cells cs.toArray z.e (0,0))->z.c.p cs w->Calls P f #[pO z.b 0] w (zPN w z.b z.e C g.tS))
  (fin:∀a w,StS S w0 ((d,.u g)::K) (zFh B c C) n ds a w->zAV F m P ops Q (k+1) a w):zAV F m P ops Q k a w:=
 zTu C g J hF he h U O I (fun cs h1 h2 _ h4=>by
  have e:=hp _ _ (h4 x fC)
  have:=hc cs h1 h2
  rw[<-e]at this
  simpa using this) fin
def zVf:List Bx->Nat->Nat->List Bx
 | [],_,_=> []
 |x::B,c,d=>bif Nat.beq x.t c then⟨d,x.e,x.c,x.b,x.r⟩::B else x::zVf B c d
theorem zSh:∀(B:List Bx) (c d:Nat),(zVf B c d).map (fun x=>(x.b,x.r))=B.map (fun x=>(x.b,x.r))
 | [],_,_=>rfl
 |x::B,c,d=>by
  unfold zVf
  cases Nat.beq x.t c with
  |true=>rfl
  |false=>simp[zSh B c d]
theorem yT.ren{c d:Nat}{O:Act}(U:∀x,x∈B->O.tmps.getD x.t undef=a.tmps.getD x.t undef)(hd:O.tmps.getD d undef=a.tmps.getD c undef):∀(l:List Bx),(∀x,x∈l->x∈B)->yT S w0 a w l->yT S w0 O w (zVf l c d)
 | [],_,_=>trivial
 | x::l,hl,⟨⟨cs,h1,h2,h3,h4,h5,h6⟩,h7⟩=>by
  have I:yT S w0 O w l:=yT.keep (xG _ _) (fun _ _ h=>h) l (fun y J=>U y (hl y (by simp[J]))) h7
  unfold zVf
  cases e:Nat.beq x.t c with
  |true=>
   have e2:=cH e
   exact⟨⟨cs,by show O.tmps.getD d undef=_;rw[hd,<-e2];exact h1,h2,h3,h4,h5,h6⟩,I⟩
  |false=>
   refine⟨⟨cs,by rw[U x (hl x fC)];exact h1,h2,h3,h4,h5,fun y J=>?_⟩,yT.ren U hd l (fun y J=>hl y (by simp[J])) h7⟩
   have h8:(y.b,y.r)∈l.map (fun x=>(x.b,x.r)):=by rw[<-zSh l c d];exact xH.2 ⟨y,J,rfl⟩
   obtain⟨z,hz,e3⟩:=xH.1 h8
   injection e3 with e3 e4
   rw[<-e3,<-e4]
   exact h6 z hz
theorem zXK(U:ops[k]?=some ⟨some d,.assign (.tmp c),ty,pos,aft,none⟩)(h:StS S w0 K B n ds a w)(J:jY K B n d=true)
  (fin:∀a w,StS S w0 K (zVf B c d) n ds a w->zAV F m P ops Q (k+1) a w):zAV F m P ops Q k a w:=by
 refine zAi U rfl (zCl (fun _ e=>by cases e) (fun _ e=>by cases e) (W':=w) (v:=a.tmps.getD c undef) rfl (fin _ _ ⟨h.gr,by rw[zDq];exact h.size,by rw[zB2];exact h.nd,fun q O=>?_,h.bx.ren (fun x I=>zAw (zDB J (cX _ (xH.2 ⟨x,I,rfl⟩))) _) (zAa (by rw[h.size];exact zIj J) _) B (fun x I=>I),h.mks,h.so⟩))
 rw[zAw (zDB J (eA _ (xH.2 ⟨q,O,rfl⟩)))]
 exact h.sl q O
theorem zKX(l:List SF)(hn:Nat.ble args.size fn.ntmps=true)(I:zGB w l args.toList):St w ((zMM 0 l).map fun q=>(q.1,KF.o q.2)) [] fn.ntmps [] { tmps:=args++Array.replicate (fn.ntmps-args.size) undef,defers:=[] } w:=by
 have I:=zRQ l hn I
 refine⟨⟨I.gr.os,I.gr.tape,I.gr.output,I.gr.size,fun k hk _=>I.gr.block k hk⟩,I.size,I.nd,fun q U=>?_,trivial,⟨[],Marks.nil _ _⟩,.inr fun _ h=>h⟩
 obtain⟨p,hp,rfl⟩:=xH.1 U
 have J:∀(l:List SF) (k:Nat),(∀t,t∈(zMM k l).map (·.1)->k<=t)/\zAf ((zMM k l).map (·.1))=true:=by
  intro l
  induction l with
  |nil=>intro k;exact⟨fun t ht=>(by cases ht),rfl⟩
  | cons f l ih=>
   intro k
   obtain⟨O,h2⟩:=ih (k+1)
   refine⟨fun t ht=>?_,?_⟩
   .rcases xS.1 ht with rfl|ht
    .exact vQ _
    .have:=O t ht;omega
   .show(!((zMM (k+1) l).map (·.1)).contains k&&zAf _)=true
    rw[h2]
    cases hc:((zMM (k+1) l).map (·.1)).contains k with
    |false=>rfl
    |true=>
     have:=O k (cE.1 hc)
     omega
 have:=I.sl p.1
 rw[zDR (J l 0).2 hp]at this
 exact this
theorem zZ{c:Code}(l:List SF)
  (I:P.funcs[f]?=some fn)(hb:fn.body=some c)(J:Nat.ble args.size fn.ntmps=true)(O:zGB w l args.toList)
  (h:∀a,St w ((zMM 0 l).map fun q=>(q.1,KF.o q.2)) [] fn.ntmps [] a w->c.wpIn Fence.wide 0 P (bodyPost P fn R) a w):Calls P f args w R:=
 zB1 I hb (h _ (zKX l J O))
theorem zNu{c:Code}(l:List SF)
  (I:P.funcs[f]?=some fn)(hb:fn.body=some c)(J:Nat.ble args.size fn.ntmps=true)(O:zGB w l args.toList)
  (h:∀a,St w ((zMM 0 l).map fun q=>(q.1,KF.o q.2)) [] fn.ntmps [] a w->c.wpIn Fence.wide 0 P (bodyPostM Fence.wide 0 P fn R) a w):Calls P f args w R:=
 bB.1 (callsIn_of_wp_marks I hb trivial (h _ (zKX l J O)))
def wJ(W:WB)(te:WF)(C:CU):SF:=⟨fun v w=>∃(b:Nat) (cs:List WE),v= pO b 0/\W.heap.size<=b/\w.heap[b]?=some (.cells cs.toArray te (0,0))/\C.p cs w/\cs.all zY=true,fun _ _ _ ⟨b,cs,h1,h2,h3,h4,h5⟩ hb=>⟨b,cs,h1,h2,(hb.block b (xQ.1 h3).1).trans h3,C.us _ _ _ h4 (zR hb),h5⟩⟩
theorem zG2{C:CU}(v:WE)(w:WB)(h:(wJ W te C).p v w):(wC C.cf).p v w:=by
 obtain⟨b,cs,J,_,h3,I,_⟩:=h
 exact⟨b,0,cs,J,I,zBf h3⟩
theorem zCA{C:CU}(h:W.heap.size<=W'.heap.size)(v:WE)(w:WB)(J:(wJ W' te C).p v w):(wJ W te C).p v w:=by
 obtain⟨b,cs,I,h2,h3⟩:=J
 exact⟨b,cs,I,xR h h2,h3⟩
theorem StS.adopt(h:StS S w0 K B n ds a w){W:WB}{te:WF}{C:CU}(r:Bool)(t:Nat)(hv:(wJ W te C).p (a.tmps.getD t undef) w)(hW:BlS S w0 W)(I:∀y,y∈B->y.b<W.heap.size∨(r=true/\y.r=true)):∃b,W.heap.size<=b/\StS S w0 K (⟨t,te,C,b,r⟩::B) n ds a w:=by
 obtain⟨b,cs,O,h2,h3,J,U⟩:=hv
 refine⟨b,h2,h.gr,h.size,h.nd,h.sl,⟨⟨cs,O,.inr (.inl (xR hW.size h2)),h3,J,U,fun y hy=>?_⟩,h.bx⟩,h.mks,h.so⟩
 rcases I y hy with e|e
 .left
  show y.b≠b
  omega
 .exact .inr e
theorem StS.old(h:StS S w0 K B n ds a w):∀y,y∈B->y.b<w.heap.size:=fun y I=>by
 obtain⟨_,_,_,h3,_⟩:=h.bx.mem y I
 exact(xQ.1 h3).1
theorem vM(h:St w0 K B n [] a w){fn:Func}{t c:Nat}{z:Bx}(hr:fn.results=#[.tmp t])(J:zFk B c=some z)(I:z.r=false)(U:∀v W,(zAb K B t).p v W->v= pO z.b 0):bodyPost P fn (Ret w0 (wJ w0 z.e z.c)) .ret a w:=by
 obtain⟨hz,_⟩:=zAp J
 obtain⟨cs,h1,h2,h3,O,h5⟩:=h.bx.mem z hz
 have h6:w0.heap.size<=z.b:=by
  rcases h2 with e|e|e
  .rw[I]at e;cases e
  .exact e
  .exact e.elim
 refine⟨h.nd,a.tmps.getD t undef,?_,⟨_,rfl,⟨z.b,cs,U _ _ (h.at.sl t),h6,h3,O,h5⟩,h.gr.below⟩⟩
 simp[results,hr]
theorem zHA{c:Code}(b:Nat)(K0:List (Nat×UF))(B0:List Bx)
  (hf:P.funcs[f]?=some fn)(hb:fn.body=some c)(U:Nat.ble args.size fn.ntmps=true)(hK:∀q,q∈K0->q.1<args.size/\q.2.p (args.getD q.1 undef) w)
  (hB:yT (fun k=>k=b) w ⟨args, []⟩ w B0)(J:∀x,x∈B0->x.t<args.size)
  (h:∀a,StS (fun k=>k=b) w (K0.map fun q=>(q.1,KF.u q.2)) B0 fn.ntmps [] a w->c.wpIn Fence.wide 0 P (bodyPost P fn R) a w):Calls P f args w R:=by
 have U:=mH U
 refine zB1 hf hb (h _ ⟨BlS.refl _ _,fM,rfl,fun q I=>?_,yT.keep (a:=⟨args, []⟩) (xG _ _) (fun _ _ h=>h) B0 (fun x hx=>?_) hB,⟨[],Marks.nil _ _⟩,.inl fun q I=>?_⟩)
 .obtain⟨p,O,rfl⟩:=xH.1 I
  obtain⟨h1,h2⟩:=hK p O
  have:(args++Array.replicate (fn.ntmps-args.size) undef).getD p.1 undef=args.getD p.1 undef:=by
   rw[xV,xV,mL h1]
  show p.2.p ((args++Array.replicate (fn.ntmps-args.size) undef).getD p.1 undef) w
  rw[this]
  exact h2
 .show(args++Array.replicate (fn.ntmps-args.size) undef).getD x.t undef=args.getD x.t undef
  rw[xV,xV,mL (J x hx)]
 .obtain⟨p,O,rfl⟩:=xH.1 I
  exact⟨_,rfl⟩
theorem StS.grown{b':Nat}(h:StS (fun k=>k=b') w0 K B n ds a w){b:Nat}(hb:b'=b):w0.grownBy w (some b):=by
 subst hb
 exact⟨h.gr.os,h.gr.tape,h.gr.output,h.gr.size,fun k J I=>h.gr.block k J fun e=>I (by rw[e])⟩
theorem StS.retS(h:StS (fun k=>k=b) w0 K B n [] a w){fn:Func}{f:SF}{C:CU}{c:Nat}{z:Bx}(O:zFk B c=some z)(J:z.b=b)(I:z.c=C){v:WE}(hr:(results fn a.tmps).run P w=.ok v w)(hv:f.p v w):bodyPost P fn (zPN w0 b z.e C f) .ret a w:=by
 obtain⟨hz,_⟩:=zAp O
 obtain⟨cs,h1,h2,h3,U,h5⟩:=h.bx.mem z hz
 subst J
 subst I
 exact⟨h.nd,v,hr,_,rfl,hv,h.grown rfl,cs,h3,U,h5⟩
theorem vH(h:StS (fun k=>k=b) w0 K B n [] a w){fn:Func}{f:SF}{C:CU}{c t:Nat}{z:Bx}(O:zFk B c=some z)(J:z.b=b)(I:z.c=C)(hr:fn.results=#[.tmp t])(U:∀v W,(zAb K B t).p v W->f.p v W):bodyPost P fn (zPN w0 b z.e C f) .ret a w:=
 h.retS O J I (v:=a.tmps.getD t undef) (by simp[results,hr]) (U _ _ (h.at.sl t))
theorem vI(h:StS (fun k=>k=b) w0 K B n [] a w){fn:Func}{f:SF}{C:CU}{c:Nat}{z:Bx}(O:zFk B c=some z)(J:z.b=b)(I:z.c=C)(hr:fn.results=#[])(U:∀W,f.p (.tuple #[]) W):bodyPost P fn (zPN w0 b z.e C f) .ret a w:=
 h.retS O J I (v:=.tuple #[]) (by simp[results,hr]) (U _)
def zYN(K:List (Nat×KF))(ts:List Nat):List (Nat×KF):=K.filter fun q=> !ts.contains q.1
theorem StS.drop(h:StS S w0 K B n ds a w)(ts:List Nat):StS S w0 (zYN K ts) B n ds a w:=⟨h.gr,h.size,h.nd,fun q I=>h.sl q (lR.1 I).1,h.bx,h.mks,h.so.imp (fun J q I=>J q (lR.1 I).1) (fun x=>x)⟩
theorem StS.keepK(h:StS S w0 K B n ds a w)(J:List (Nat×KF))(O:∀q,q∈J->q∈K):StS S w0 J B n ds a w:=⟨h.gr,h.size,h.nd,fun q I=>h.sl q (O q I),h.bx,h.mks,h.so.imp (fun U q I=>U q (O q I)) (fun x=>x)⟩
theorem StS.cond(h:StS S w0 K B n ds a w){c:WL}{x y:Code}(I:Bool)(O:∀v W,(Wd.fct (zAb K B) c).p v W->v=.bool I)(ht:I=true->x.wpIn F m P Q a w)(J:I=false->y.wpIn F m P Q a w):(Code.cond c x y).wpIn F m P Q a w:=
 wpIn_cond_split (O _ _ (h.fct c)) ht J
theorem wF(h:St w0 K B n [] a w){fn:Func}{f:SF}{t:Nat}(J:fn.results=#[.tmp t])(I:∀v W,(zAb K B t).p v W->f.p v W):bodyPost P fn (Ret w0 f) .ret a w:=by
 refine⟨h.nd,_,?_,⟨_,rfl,I _ _ (h.at.sl t),h.gr.below⟩⟩
 simp[results,J]
theorem StS.cellv(h:StS S w0 K B n ds a w){t kk:Nat}{e:WF}{C:CU}(I:jR P e=some kk){y:Bx}(hB:zFk B t=some y)(J:y.c=C)(O:∀cs W,C.p cs W->cs.length=kk):∃(cs:List WE) (b:Nat),a.tmps[t]?.getD undef= pO b 0/\(loadVar e ⟨b,0,none⟩).run P w=.ok (.agg cs.toArray) w/\C.p cs w:=by
 obtain⟨hy,rfl⟩:=zAp hB
 subst J
 obtain⟨cs,h1,h2,h3,U,h5⟩:=h.bx.mem y hy
 exact⟨cs,y.b,by rw[<-xV];exact h1,zHB I (O _ _ U) h3,U⟩
theorem wK(h:St w0 K B n [] a w){fn:Func}{f:SF}{t kk:Nat}{e:WF}(C:CU)(hr:fn.results=#[.cell t e])(I:jR P e=some kk){y:Bx}(U:zFk B t=some y)(J:y.c=C)(O:∀cs W,C.p cs W->cs.length=kk)
  (hd:∀cs W,C.p cs W->f.p (.agg cs.toArray) W):bodyPost P fn (Ret w0 f) .ret a w:=by
 obtain⟨cs,b,h0,h1,h2⟩:=h.cellv I U J O
 refine⟨h.nd,.agg cs.toArray,?_,⟨_,rfl,hd _ _ h2,h.gr.below⟩⟩
 simp[results,hr,asAddr,h0,h1]
theorem wW(h:St w0 K B n [] a w){fn:Func}{f:SF}{t r kk:Nat}{e:WF}(C:CU)(hr:fn.results=#[.cell t e,.tmp r])(I:jR P e=some kk){y:Bx}(U:zFk B t=some y)(J:y.c=C)(O:∀cs W,C.p cs W->cs.length=kk)
  (hd:∀cs v W,C.p cs W->(zAb K B r).p v W->f.p (.tuple #[.agg cs.toArray,v]) W):bodyPost P fn (Ret w0 f) .ret a w:=by
 obtain⟨cs,b,h0,h1,h2⟩:=h.cellv I U J O
 refine⟨h.nd,.tuple #[.agg cs.toArray,a.tmps.getD r undef],?_,⟨_,rfl,hd _ _ _ h2 (h.at.sl r),h.gr.below⟩⟩
 simp[results,hr,asAddr,h0,h1]
theorem vN(h:St w0 K B n [] a w){fn:Func}{f:SF}{t s r kk J:Nat}{e e':WF}(C C':CU)(hr:fn.results=#[.cell t e,.cell s e',.tmp r])(h6:jR P e=some kk)(O:jR P e'=some J){y:Bx}(hB:zFk B t=some y)(h7:y.c=C)(h9:∀cs W,C.p cs W->cs.length=kk){y':Bx}(h4:zFk B s=some y')(U:y'.c=C')(I:∀cs W,C'.p cs W->cs.length=J)
  (hd:∀cs cs' v W,C.p cs W->C'.p cs' W->(zAb K B r).p v W->f.p (.tuple #[.agg cs.toArray,.agg cs'.toArray,v]) W):bodyPost P fn (Ret w0 f) .ret a w:=by
 obtain⟨cs,b,h0,h1,h2⟩:=h.cellv h6 hB h7 h9
 obtain⟨cs',b',h8,h5,ha⟩:=h.cellv O h4 U I
 refine⟨h.nd,.tuple #[.agg cs.toArray,.agg cs'.toArray,a.tmps.getD r undef],?_,⟨_,rfl,hd _ _ _ _ h2 ha (h.at.sl r),h.gr.below⟩⟩
 simp[results,hr,asAddr,h0,h1,h8,h5]
end
set_option maxHeartbeats 800000
section
variable {F:Fence}{m:Nat}{P:WH}{ops:Array Oper}{Q:Exit->Act->WB->Prop}
def zEC(ops:Array Oper)(i:Nat):Bool:=match ops[i]? with
 |some ⟨some _,.move _,_,_,_,none⟩|some ⟨some _,.extract _ _,_,_,_,none⟩=>true
 |_=>false
def zC0(ops:Array Oper)(listed:Array Bool)(i:Nat):Bool:=zEC ops i&&Region.free .any ops listed i&&(Region.ready .any ops listed).contains i
def zK3(listed:Array Bool):List Nat->Array Bool
 | []=>listed
 |i::l=>zK3 (listed.setIfInBounds i true) l
def zV5(ops:Array Oper):Array Bool->List Nat->Bool
 |_, []=>true
 |listed,i::l=>(match ops[i]? with|some ⟨some _,.move _,_,_,_,none⟩=>true|_=>false)&&zC0 ops listed i&&zV5 ops (listed.setIfInBounds i true) l
theorem zC1(v:WE)(j:Nat)(w w':WB){r:WE}(h:(Instr.extract v j).run P w=.ok r w):(Instr.extract v j).run P w'=.ok r w':=by
 unfold Instr.extract at h ⊢
 split at h
 .rename_i vs
  cases hv:vs[j]? with
  |none=>rw[hv]at h;simp at h
  |some u=>
   rw[hv]at h
   simp at h
   simp[h]
 .simp at h
theorem zKo(h0:zAE ops=true)(U:Region.noSelect ops=true){k:Nat}(h4:∀r,r<ops.size-k->Region.ready .any ops (yS ops.size (k+r))=[k+r]∨zC0 ops (yS ops.size (k+r)) (k+r)=true):
  ∀(f r:Nat) (a:Act) (w:WB),k+r+f=ops.size->wpOpsIn F m P ops (jW Q) (List.range' (k+r) f) a w->zAc F m P .any ops ops.size (fun _=>True) (jW Q) f (yS ops.size (k+r)) a w
 | 0,r,a,w,hf,h=>by
  refine⟨lG.2 fun i hi=>?_,h⟩
  have h1:=(cO.1 hi).1
  have J:i<ops.size:=by
   obtain⟨_,o,ho,_⟩:=cO.1 hi
   exact(xQ.1 ho).1
  rw[xV,zDc J]at h1
  simp at h1
  omega
 | f+1,r,a,w,hf,h=>by
  rw[eB,eI]at h
  have J:k+r<ops.size:=oA
  rcases h4 r oA with hr|ht
  .refine⟨fun e=>(by rw[hr]at e;cases e),fun i hi=>?_⟩
   rw[hr]at hi
   obtain rfl:i=k+r:=by simpa using hi
   refine eD (fun a w h=>⟨.inr trivial,?_⟩) h
   rw[zDb J]
   exact zKo h0 U h4 f (r+1) a w oA h
  .unfold zC0 at ht
   simp only[xW]at ht
   obtain⟨⟨I,h7⟩,h8⟩:=ht
   have ho:ops[k+r]?=some ops[k+r]:=cD J
   have h9:∃d v,ops[k+r].dst=some d/\zAk P ops (fun _=>True) ops[k+r] v a/\wpOpsIn F m P ops (jW Q) (List.range' (k+r+1) f) (a.put (some d) v) w:=by
    unfold zEC at I
    rw[ho]at I
    unfold wpOpIn at h
    rw[ho]at h
    generalize ops[k+r]=o at I h
    split at I
    .rename_i d x ty pos aft he
     cases he
     refine⟨d,a.eval x,rfl,⟨.inl ⟨rfl,fun w _=>rfl⟩,fun w=>rfl⟩,?_⟩
     have h2:=h.2
     rw[bH _ _ _ (fun _ e=>by cases e)]at h2
     exact h2
    .rename_i d x j ty pos aft he
     cases he
     have h2:=h.2
     rw[bH _ _ _ (fun _ e=>by cases e)]at h2
     cases hrun:(Instr.extract (a.eval x) j).run P w with
     |halt y w'=>
      have he:(execOp a.eval ⟨some d,.extract x j,ty,pos,aft,none⟩).run P w=.halt y w':=by simp[execOp,hrun]
      rw[he]at h2
      cases y<;>exact h2.elim
     | ok v w'=>
      have hw:w'=w:=by
       unfold Instr.extract at hrun
       split at hrun
       .split at hrun
        .simp at hrun;exact hrun.2.symm
        .simp at hrun
       .simp at hrun
      subst hw
      have he:(execOp a.eval ⟨some d,.extract x j,ty,pos,aft,none⟩).run P w'=.ok (.value v) w':=by simp[execOp,hrun]
      rw[he]at h2
      exact⟨d,v,rfl,⟨.inl ⟨rfl,fun w _=>by simp[execOp,zC1 _ _ _ w hrun]⟩,fun w=>rfl⟩,h2⟩
    .cases I
   obtain⟨d,v,hd,hy,O⟩:=h9
   refine zP (i:=k+r) (v:=v) h0 ?_ ho U h7 h8 (fun _ _ _ h=>h) trivial hy ?_
   .unfold zB7
    rw[cL (vQ _)]
   .rw[hd,zDb J]
    exact zKo h0 U h4 f (r+1) _ w oA O
def zC7(ops:Array Oper)(pre:List Nat)(t:Nat):Bool:=pre.any fun i=>yD ops i==some t
def zJg(ops:Array Oper)(k i:Nat):Bool:=match ops[i]? with
 |some ⟨some _,.move x,_,_,_,none⟩=>(match x with| .tmp t=>(List.range k).all fun j=> !(yD ops j==some t)|_=>true)
 |_=>false
def zHO(ops:Array Oper)(k:Nat):Array Bool->List Nat->Bool
 |_, []=>true
 |listed,i::l=>zJg ops k i&&zC0 ops listed i&&zHO ops k (listed.setIfInBounds i true) l
theorem zSp{w0:WB}{G G1:Nat->SF}{n k:Nat}(h7:zAE ops=true)(h6:Region.noSelect ops=true)(h5:zBh ops n=true)(hn:jT ops=true)(hG:∀t,(∀j,j<k->yD ops j≠some t)->G1 t=G t)(J:∀i o,ops[i]?=some o->zEC ops i=true->i<k->qO F m P w0 ops G1 o):
  ∀(pre done:List Nat) (listed:Array Bool) (f:Nat) (a:Act) (w:WB),(∀i,i∈done->i<k)->zHO ops k listed pre=true->(∀i,i∈pre->i<k)->bW w0 w->a.tmps.size=n->(∀t,zC7 ops done t=true->(G1 t).p (a.tmps.getD t undef) w)->(∀t,zC7 ops done t=false->(G t).p (a.tmps.getD t undef) w)->
  (∀a',a'.tmps.size=n->a'.defers=a.defers->(∀t,zC7 ops (done++pre) t=true->(G1 t).p (a'.tmps.getD t undef) w)->(∀t,zC7 ops (done++pre) t=false->(G t).p (a'.tmps.getD t undef) w)->zAc F m P .any ops ops.size (fun _=>True) (jW Q) f (zK3 listed pre) a' w)->
  zAc F m P .any ops ops.size (fun _=>True) (jW Q) (f+pre.length) listed a w
 | [],done,listed,f,a,w,_,_,_,_,hs,h1,h2,h=>h a hs rfl (by simpa using h1) (by simpa using h2)
 | i::l,done,listed,f,a,w,hdk,hc,hik,hb,hs,h1,h2,h=>by
  rw[zHO,xW,xW]at hc
  obtain⟨⟨hm,ht⟩,hl⟩:=hc
  have h9:zEC ops i=true:=by
   unfold zC0 at ht
   simp only[xW]at ht
   exact ht.1.1
  unfold zC0 at ht
  simp only[xW]at ht
  obtain⟨⟨_,hh⟩,hq⟩:=ht
  unfold zJg at hm
  cases ho:ops[i]? with
  |none=>rw[ho]at hm;cases hm
  | some o=>
   rw[ho]at hm
   have hg:=J i o ho h9 (hik i fC)
   obtain⟨d,x,ty,pos,aft,rfl,hx⟩:∃d x ty pos aft,o=⟨some d,.move x,ty,pos,aft,none⟩/\(match x with| .tmp t=>(List.range k).all fun j=> !(yD ops j==some t)|_=>true)=true:=by
    split at hm
    .rename_i d x ty pos aft he
     cases he
     exact⟨_,_,_,_,_,rfl,hm⟩
    .cases hm
   have U:d<n:=jB h5 ho rfl
   have O:(G1 d).p (a.eval x) w:=by
    have:=hg a w (fun a' w'=>(G1 d).p (a'.tmps.getD d undef) w') Q hb (fun t ht=>by
     have hk:x=.tmp t:=by
      simp only[zDY,Op.operands,lE]at ht
      obtain⟨y,hy,he⟩:=ht
      simp at hy
      subst hy
      cases y with
      |tmp u=>simp at he;rw[he]
      |_=>simp at he
     subst hk
     have hd:∀j,j<k->yD ops j≠some t:=fun j hp I=>by
      have:=xT.1 hx j (xU.2 hp)
      rw[I]at this
      simp at this
     rw[hG t hd]
     refine h2 t ?_
     unfold zC7
     refine cP.2 fun j I=>?_
     simp[hd j (hdk j I)]) fun v W' hv _=>(by
      rw[zAa (by rw[hs];exact U)]
      exact hv d rfl)
    have h3:=this.2
    rw[bH _ _ _ (fun _ e=>by cases e)]at h3
    have h4:(G1 d).p ((a.put (some d) (a.eval x)).tmps.getD d undef) w:=h3
    rwa [zAa (by rw[hs];exact U)]at h4
   have h8:f+(i::l).length=(f+l.length)+1:=fM
   rw[h8]
   refine zP (i:=i) (v:=a.eval x) h7 ?_ ho h6 hh hq (fun _ _ _ h=>h) trivial ⟨.inl ⟨rfl,fun w _=>rfl⟩,fun w=>rfl⟩ ?_
   .unfold zB7
    rw[cL (vQ _)]
   .have hf:∀t,zC7 ops (done++ [i]) t=(zC7 ops done t||(d==t)):=fun t=>by
     unfold zC7
     rw[List.any_append]
     simp[jS ho]
    refine zSp h7 h6 h5 hn hG J l (done++ [i]) _ f _ w (fun j I=>by
     rcases vW.1 I with I|I
     .exact hdk j I
     .simp at I;subst I;exact hik j fC) hl (fun j I=>hik j (by simp[I])) hb (by rw[zDq];exact hs) (fun t ht=>?_) (fun t ht=>?_) fun a' g1 g2 g3 g4=>?_
    .rw[hf,cZ]at ht
     by_cases e:d=t
     .subst e
      rw[zAa (by rw[hs];exact U)]
      exact O
     .rw[zAw e]
      exact h1 t (ht.resolve_right (by simpa using e))
    .rw[hf,hH]at ht
     have e:d≠t:=by simpa using ht.2
     rw[zAw e]
     exact h2 t ht.1
    .rw[lW]at g3 g4
     exact h a' g1 (by rw[g2,zB2]) g3 g4
theorem zK2:∀(pre:List Nat) (listed:Array Bool) (j:Nat),j<listed.size->(zK3 listed pre)[j]?=some (listed.getD j false||pre.contains j)
 | [],listed,j,hj=>by simp[zK3,hj]
 | i::l,listed,j,hj=>by
  show(zK3 (listed.setIfInBounds i true) l)[j]?=_
  rw[zK2 l _ j (by simpa using hj)]
  by_cases e:i=j
  .subst e
   simp[hj]
  .rw[cB false e]
   have: ¬j=i:=fun h=>e h.symm
   simp[this]
theorem zIM:∀(pre:List Nat) (listed:Array Bool),(zK3 listed pre).size=listed.size
 | [],_=>rfl
 |i::l,listed=>by
  show(zK3 (listed.setIfInBounds i true) l).size=_
  rw[zIM l]
  simp
def zDC(ops:Array Oper)(pre:List Nat)(k n:Nat)(keys:List Nat):Bool:=
 jT ops&&zBh ops n&&zAE ops&&Region.noSelect ops&&decide (k<=ops.size)&&
 keys.all (fun t=>(List.range k).any fun i=>yD ops i==some t)&&
 zHO ops k (Array.replicate ops.size false) pre&&pre.all (fun i=>decide (i<k))&&
 (List.range k).all (fun i=>pre.contains i||match ops[i]? with
  |none=>true
  |some o=>(looks ops o).all fun t=>(List.range ops.size).all fun j=> !(yD ops j==some t)||pre.contains j||o.after.any fun e=>Region.binds .any e&&e.on==j)&&
 zCP ops&&zHp ops (zK3 (Array.replicate ops.size false) pre) k&&zE6 ops (zK3 (Array.replicate ops.size false) pre)&&zLt (zK3 (Array.replicate ops.size false) pre) k&&
 ((zK3 (Array.replicate ops.size false) pre).count false==ops.size-pre.length)&&decide (pre.length<=ops.size)&&
 (List.range (ops.size-k)).all fun r=>Region.ready .any ops (yS ops.size (k+r))==[k+r]||zC0 ops (yS ops.size (k+r)) (k+r)
theorem zIX{G:Nat->SF}(I:List Nat)(k:Nat)(L:List (Nat×SF))(hmix:P.follows .mixedOrders=true)
  (h9:zDC ops I k n (L.map (·.1))=true)(h:At w0 G n ds a w)(hN:Obs F m P w0 ops (upd G L) (ops.toList.take k))
  (hT:∀a w,At w0 (zGj ops k (upd G L)) n ds a w->wpOpsIn F m P ops (jW Q) (List.range' k (ops.size-k)) a w):(Code.region id ops true).wpIn F m P Q a w:=by
 unfold zDC at h9
 simp only[xW]at h9
 obtain⟨⟨⟨⟨⟨⟨⟨⟨⟨⟨⟨⟨⟨⟨⟨hM,hu⟩,hP⟩,hJ⟩,hk⟩,hB⟩,hL⟩,hS⟩,qd⟩,hI⟩,q3⟩,q5⟩,qe⟩,hX⟩,hs⟩,q1⟩:=h9
 have hk:=xX hk
 have hs:=xX hs
 have hy:∀i,i∈I->i<k:=fun i hi=>xX (xT.1 hS i hi)
 have hq:∀i o,i<k->ops[i]?=some o->qO F m P w0 ops (upd G L) o:=fun i o hi ho=>hN.get i o (by rw[lC hi];simpa using ho)
 have hn:∀t,(∀j,j<k->yD ops j≠some t)->upd G L t=G t:=fun t ht=>by
  refine zAP ?_
  cases hc:(L.map (·.1)).contains t with
  |false=>rfl
  |true=>
   exfalso
   have hm:=cE.1 hc
   obtain⟨i,hi,he⟩:=bX.1 (xT.1 hB t hm)
   exact ht i (xU.1 hi) (by simpa using he)
 have hR:∀r,r<ops.size-k->Region.ready .any ops (yS ops.size (k+r))=[k+r]∨zC0 ops (yS ops.size (k+r)) (k+r)=true:=fun r hr=>by
  have:=xT.1 q1 r (xU.2 hr)
  simpa using this
 have h6:bW w w.drew:=(xG _ w).drew
 refine yF ops.size (fun _=>True) hmix ?_
 rw[show ops.size=(ops.size-I.length)+I.length from oA]
 rw[show(ops.size-I.length)+I.length=ops.size from oA]
 have q0:zAc F m P .any ops ops.size (fun _=>True) (jW Q) (ops.size-I.length+I.length) (Array.replicate ops.size false) a w.drew:=by
  refine zSp (w0:=w0) (G:=G) (G1:=upd G L) (n:=n) (k:=k) hP hJ hu hM hn (fun i o ho _ hi=>hq i o hi ho) I [] _ _ a w.drew (fun i hi=>by cases hi) hL hy (h.gr.trans (h6.mono h.gr.size)) h.size (fun t ht=>by cases ht) (fun t _=>(G t).st _ _ _ (h.sl t) h6) ?_
  intro a1 hD qa h1 h2
  rw[lS]at h1 h2
  have h7:∀j,j<ops.size->(zK3 (Array.replicate ops.size false) I).getD j true=I.contains j:=fun j O=>by
   rw[xV,zK2 I _ j (by simpa using O)]
   simp[O]
  have hO:∀t,(∀j,yD ops j=some t->I.contains j=true)->zB8 ops (zK3 (Array.replicate ops.size false) I) t=false:=fun t ht=>by
   cases hd:zB8 ops (zK3 (Array.replicate ops.size false) I) t with
   |false=>rfl
   |true=>
    exfalso
    unfold zB8 at hd
    obtain⟨i,hi,hp⟩:=bX.1 hd
    simp only[xW,bC]at hp
    have h3:=ht i (by rw[<-zDE];exact hp.2)
    rw[h7 i (xU.1 hi),h3]at hp
    exact absurd hp.1 fH
  have ha:∀t,(∀j,yD ops j=some t->I.contains j=true)->(upd G L t).p (a1.tmps.getD t undef) w.drew:=fun t ht=>by
   by_cases hp:zC7 ops I t=true
   .exact h1 t hp
   .have hz:zC7 ops I t=false:=by simpa using hp
    have q4:∀j,yD ops j≠some t:=fun j O=>by
     have h3:=ht j O
     unfold zC7 at hz
     have:=cP.1 hz j (cE.1 h3)
     rw[O]at this
     simp at this
    rw[hn t fun j _=>q4 j]
    exact h2 t hz
  refine zIk (k:=k) (z:=ops.size) (w:=w.drew) (fun _=>false) (fun i v W=>∀o,ops[i]?=some o->∀d,o.dst=some d->(upd G L d).p v W) (fun W=>bW w0 W/\Below w.drew.heap.size w.drew W) hI q3 hM (by rw[hD];exact hu) (by simpa using hk) (by simpa using hX) (by rw[zIM];simp) q5 qe (fun W W' hC hb=>⟨hC.1.trans (hb.mono hC.1.size),hC.2.trans (hb.mono hC.2.size)⟩) (fun i v W W' hE hb o ho d hd=>(upd G L d).st _ _ _ (hE o ho d hd) hb) ⟨h.gr.trans (h6.mono h.gr.size),xG _ _⟩ ?spec ?fin
  case spec=>
   intro i hV hl o ho b W hf K hK
   have hZ:I.contains i=false:=by rw[<-h7 i (xQ.1 ho).1];exact hl
   refine zA4 ho (hq i o hV ho) (fun j g O=>?_) hf.at_.cls.1 (fun t ht=>?_) (fun v W' hv hb=>hK v W' (fun o' hU d hd=>by rw[ho]at hU;cases hU;exact hv d hd) hb fS)
   .rw[hf.at_.size,hD]
    obtain⟨oj,J,h0⟩:=jC O
    exact jB hu J h0
   .by_cases hex:∃j,yD ops j=some t/\I.contains j=false
    .obtain⟨j,O,hh⟩:=hex
     obtain⟨oj,J,h0⟩:=jC O
     have h3:=xT.1 qd i (xU.2 hV)
     rw[hZ,cS,ho]at h3
     have h4:=xT.1 (xT.1 h3 t ht) j (xU.2 (xQ.1 J).1)
     rw[O,hh]at h4
     simp only[beq_self_eq_true,fY,cS]at h4
     obtain⟨x,hx,he⟩:=fX.1 h4
     simp only[xW,bC]at he
     exact hf.at_.vals j oj t ⟨by rw[h7 j (xQ.1 J).1];exact hh,_,eC hx,he.1,he.2⟩ J h0 oj J t h0
    .have U:∀j,yD ops j=some t->I.contains j=true:=fun j O=>by
      cases hc:I.contains j with
      |true=>rfl
      |false=>exact(hex ⟨j,O,hc⟩).elim
     rw[hf.at_.keep t (hO t U)]
     exact(upd G L t).st _ _ _ (ha t U) hf.at_.cls.2
  case fin=>
   intro b W hf
   have hA:At w0 (zGj ops k (upd G L)) n ds b W:=⟨hf.at_.cls.1,by rw[hf.at_.size];exact hD,by rw[hf.at_.defers,qa];exact h.nd,fun t=>by
    unfold zGj
    cases hc:(List.range ops.size).any fun i=>decide (k<=i)&&(yD ops i==some t)with
    |true=>trivial
    | false=>
     show(upd G L t).p _ _
     by_cases hex:∃j,yD ops j=some t/\I.contains j=false
     .obtain⟨j,O,hh⟩:=hex
      obtain⟨oj,J,h0⟩:=jC O
      have hW:=(xQ.1 J).1
      have h3:=cP.1 hc j (xU.2 hW)
      simp[O]at h3
      exact hf.at_.vals j oj t ⟨oA,by rw[h7 j hW];exact hh⟩ J h0 oj J t h0
     .have U:∀j,yD ops j=some t->I.contains j=true:=fun j O=>by
       cases hc:I.contains j with
       |true=>rfl
       |false=>exact(hex ⟨j,O,hc⟩).elim
      rw[hf.at_.keep t (hO t U)]
      exact(upd G L t).st _ _ _ (ha t U) hf.at_.cls.2⟩
   have h5:=zKo (Q:=Q) hP hJ hR (ops.size-k) 0 b W oA (by simpa using hT b W hA)
   simpa using h5
 rwa [show ops.size-I.length+I.length=ops.size from oA]at q0
theorem zBF{B:List Bx}(K0:List (Nat×KF))(h1:List Nat)(k:Nat)(L:List (Nat×Rw))(hmix:P.follows .mixedOrders=true)(h:StS S w0 (K0++K) B n ds a w)
  (I:(zDC ops h1 k n (L.map (·.1))&&jU ops (K.map (·.1)++B.map (·.t))&&zAf (L.map (·.1)))=true)
  (O:Obs F m P w ops (upd (zAb (K0++K) B) (zS L)) (ops.toList.take k))
  (U:∀Q',(∀a w,Q .normal a w->Q' .normal a w)->∀a w,StS S w0 (zAR L++K) B n ds a w->(∀q,q∈zS L->q.2.p (a.tmps.getD q.1 undef) w)->zAV F m P ops Q' k a w):(Code.region id ops true).wpIn F m P Q a w:=by
 simp only[xW]at I
 have J:(zS L).map (·.1)=L.map (·.1):=by simp[zS]
 have h0:=I.1.1
 unfold zDC at h0
 simp only[xW]at h0
 obtain⟨⟨⟨⟨⟨⟨⟨⟨⟨⟨⟨⟨⟨⟨⟨h5,_⟩,_⟩,_⟩,_⟩,h4⟩,_⟩,_⟩,_⟩,_⟩,_⟩,_⟩,_⟩,_⟩,_⟩,_⟩:=h0
 exact zFU K0 k L h (fun G' hA hO hF=>zIX h1 k (zS L) hmix (by rw[J];exact I.1.1) hA hO hF) h5 h4 I.1.2 I.2 O (fun a w h hr=>U (jW Q) (fun a w h=>h) a w h hr)
theorem zDX{B:List Bx}(K0:List (Nat×KF))(U:List Nat)(k:Nat)(L:List (Nat×Rw))(hmix:P.follows .mixedOrders=true)(h:StS S w0 (K0++K) B n ds a w)
  (I:(zDC ops U k n (L.map (·.1))&&jU ops (K.map (·.1)++B.map (·.t))&&zAf (L.map (·.1)))=true)
  (J:Obs F m P w ops (upd (zAb (K0++K) B) (zS L)) (ops.toList.take k))
  (O:∀Q',(∀a w,Q .normal a w->Q' .normal a w)->∀a w,StS S w0 (zAR L++K) B n ds a w->zAV F m P ops Q' k a w):(Code.region id ops true).wpIn F m P Q a w:=
 zBF K0 U k L hmix h I J fun Q hq a w h _=>O Q hq a w h
theorem yJ{B:List Bx}(J:List Nat)(k:Nat)(L:List (Nat×Rw))(hmix:P.follows .mixedOrders=true)(h:StS S w0 K B n ds a w)
  (I:(zDC ops J k n (L.map (·.1))&&jU ops (K.map (·.1)++B.map (·.t))&&zAf (L.map (·.1)))=true)
  (O:Obs F m P w ops (upd (zAb K B) (zS L)) (ops.toList.take k))
  (U:∀Q',(∀a w,Q .normal a w->Q' .normal a w)->∀a w,StS S w0 (zAR L++K) B n ds a w->zAV F m P ops Q' k a w):(Code.region id ops true).wpIn F m P Q a w:=
 zDX [] J k L hmix h I O U
theorem zK4{w0:WB}{G:Nat->SF}{n k:Nat}{a0:Act}{wA:WB}(hc:jT ops=true)(h5:zBh ops n=true)(hk:k<=ops.size)
  (hh:∀i o,i<k->ops[i]?=some o->∀t,t∈looks ops o->∀j,yD ops j=some t->j<i∨k<=j)
  (h6:∀t,(∀j,j<k->yD ops j≠some t)->(G t).p (a0.tmps.getD t undef) wA)
  (U:∀i o,i<k->ops[i]?=some o->qO F m P w0 ops G o)
  (h4:∀a w,bW w0 w->a.tmps.size=n->a.defers=a0.defers->(∀t,(G t).p (a.tmps.getD t undef) w)->wpOpsIn F m P ops Q (List.range' k (ops.size-k)) a w):
  ∀(r i:Nat) (a:Act) (w:WB),i+r=k->bW wA w->bW w0 w->a.tmps.size=n->a.defers=a0.defers->
   (∀t,(∃j,j<i/\yD ops j=some t)->(G t).p (a.tmps.getD t undef) w)->(∀t,(∀j,j<i->yD ops j≠some t)->a.tmps.getD t undef=a0.tmps.getD t undef)->
   wpOpsIn F m P ops Q (List.range' i (ops.size-i)) a w
 | 0,i,a,w,hi,hA,h0,hs,hd,h1,h2=>by
  obtain rfl:i=k:=oA
  refine h4 a w h0 hs hd fun t=>?_
  by_cases ht:∃j,j<i/\yD ops j=some t
  .exact h1 t ht
  .have J:∀j,j<i->yD ops j≠some t:=fun j O he=>ht ⟨j,O,he⟩
   rw[h2 t J]
   exact(G t).st _ _ _ (h6 t J) hA
 | r+1,i,a,w,hi,hA,h0,hs,hd,h1,h2=>by
  have hf:i<k:=oA
  have hl:i<ops.size:=oA
  rw[show ops.size-i=(ops.size-(i+1))+1 from oA,eB,eI]
  have ho:ops[i]?=some ops[i]:=cD hl
  refine zA4 ho (U i _ hf ho) (fun j g O=>?_) h0 (fun t ht=>?_) fun v W' hv hb=>?_
  .rw[hs]
   obtain⟨oj,h9,h7⟩:=jC O
   exact jB h5 h9 h7
  .by_cases hex:∃j,j<i/\yD ops j=some t
   .exact h1 t hex
   .have J:∀j,j<i->yD ops j≠some t:=fun j O he=>hex ⟨j,O,he⟩
    have hg:∀j,j<k->yD ops j≠some t:=fun j O he=>by
     rcases hh i _ hf ho t ht j he with h3|h3
     .exact J j h3 he
     .omega
    rw[h2 t J]
    exact(G t).st _ _ _ (h6 t hg) hA
  .refine zK4 hc h5 hk hh h6 U h4 r (i+1) _ W' oA (hA.trans (hb.mono hA.size)) (h0.trans (hb.mono h0.size)) (by rw[zDq];exact hs) (by rw[zB2];exact hd) (fun t ⟨j,O,ht⟩=>?_) (fun t ht=>?_)
   .by_cases hji:j=i
    .subst hji
     rw[jS ho]at ht
     have I:ops[j].dst=some t:=ht
     have h3:=hv t I
     rw[I,zAa (by rw[hs];exact jB h5 ho I)]
     exact h3
    .rw[zFG]
     .exact(G t).st _ _ _ (h1 t ⟨j,oA,ht⟩) hb
     .intro I
      obtain⟨oj,h9,h7⟩:=jC ht
      exact zAH hc ho h9 (bK hji) I h7
   .rw[zFG]
    .exact h2 t (fun j O=>ht j oA)
    .intro I
     exact ht i oA (by rw[jS ho];exact I)
def zIl(ops:Array Oper)(k n:Nat)(keys:List Nat):Bool:=
 jT ops&&zBh ops n&&zAE ops&&decide (k<=ops.size)&&
 keys.all (fun t=>(List.range k).any fun i=>yD ops i==some t)&&
 (List.range k).all (fun i=>match ops[i]? with
  |none=>true
  |some o=>(looks ops o).all fun t=>(List.range ops.size).all fun j=> !(yD ops j==some t)||decide (j<i)||decide (k<=j))
def zGP(ops:Array Oper)(k:Nat)(ts:List Nat):Bool:=ts.all fun t=>(List.range k).all fun i=> !(yD ops i==some t)
theorem zDW{B:List Bx}(k:Nat)(L:List (Nat×Rw))(h:StS S w0 K B n ds a w)
  (I:(zIl ops k n (L.map (·.1))&&zGP ops k (K.map (·.1)++B.map (·.t))&&zAf (L.map (·.1)))=true)
  (hy:Obs F m P w ops (upd (zAb K B) (zS L)) (ops.toList.take k))
  (hE:∀a w,StS S w0 (zAR L++K) B n ds a w->(∀q,q∈zS L->q.2.p (a.tmps.getD q.1 undef) w)->zAV F m P ops Q k a w):(Code.region id ops false).wpIn F m P Q a w:=by
 simp only[xW]at I
 obtain⟨⟨I,hI⟩,hw⟩:=I
 unfold zIl at I
 simp only[xW]at I
 obtain⟨⟨⟨⟨⟨hJ,hG⟩,hpl⟩,hk⟩,h8⟩,hP⟩:=I
 have hk:=xX hk
 have ha:(zS L).map (·.1)=L.map (·.1):=by simp[zS]
 have h7:∀t,t∈K.map (·.1)++B.map (·.t)->∀i,i<k->yD ops i≠some t:=fun t ht i hi he=>by
  have h2:=xT.1 (xT.1 hI t ht) i (xU.2 hi)
  rw[he]at h2
  simp at h2
 have hA:=h.at
 have hQ:∀t,(∀j,j<k->yD ops j≠some t)->upd (zAb K B) (zS L) t=zAb K B t:=fun t ht=>by
  refine zAP ?_
  cases hc:((zS L).map (·.1)).contains t with
  |false=>rfl
  |true=>
   exfalso
   have hm:=cE.1 hc
   rw[ha]at hm
   obtain⟨i,hi,he⟩:=bX.1 (xT.1 h8 t hm)
   exact ht i (xU.1 hi) (by simpa using he)
 refine wpIn_region ?_
 rw[List.range_eq_range']
 -- the table, the kept slots' values said
 let G1:Nat->SF:=fun t=>if t∈K.map (·.1)++B.map (·.t)then⟨fun v W=>(upd (zAb K B) (zS L) t).p v W/\v=a.tmps.getD t undef,fun _ _ _ h hb=>⟨(upd (zAb K B) (zS L) t).st _ _ _ h.1 hb,h.2⟩⟩else upd (zAb K B) (zS L) t
 have h5:∀t v W,(G1 t).p v W->(upd (zAb K B) (zS L) t).p v W:=fun t v W hh=>by
  by_cases ht:t∈K.map (·.1)++B.map (·.t)
  .simp only[G1,if_pos ht]at hh
   exact hh.1
  .simp only[G1,if_neg ht]at hh
   exact hh
 have hn:∀t,(∃i,i<k/\yD ops i=some t)->G1 t=upd (zAb K B) (zS L) t:=fun t ⟨i,hi,he⟩=>by
  simp only[G1]
  rw[if_neg fun ht=>h7 t ht i hi he]
 have h9:∀i o,i<k->ops[i]?=some o->qO F m P w ops G1 o:=fun i o hi ho=>by
  have hg:=hy.get i o (by rw[lC hi];simpa using ho)
  have hz:zPT F m P w (upd (zAb K B) (zS L)) o->zPT F m P w G1 o:=fun J b W K' Q' hb hr hO=>
   J b W K' Q' hb (fun t ht=>h5 t _ _ (hr t ht)) fun v W' hv hb'=>hO v W' (fun d hd=>by rw[hn d ⟨i,hi,by rw[jS ho];exact hd⟩];exact hv d hd) hb'
  unfold qO at hg ⊢
  cases hgd:o.guard with
  |none=>rw[hgd]at hg;exact hz hg
  |some q=>
   rw[hgd]at hg
   obtain⟨g,bv,J,h2,h3,h4⟩:=hg
   exact⟨g,bv,J,fun v W hh=>h2 v W (h5 g v W hh),fun e=>hz (h3 e),fun e=>⟨fun d hd W=>by rw[hn d ⟨i,hi,by rw[jS ho];exact hd⟩];exact(h4 e).1 d hd W,(h4 e).2⟩⟩
 refine zK4 (G:=G1) (k:=k) (n:=n) (a0:=a) (wA:=w) (w0:=w) hJ hG hk (fun i o hi ho t ht j hj=>?_) (fun t ht=>?_) h9 (fun a' w' hb hs hd hh=>?_) k 0 a w oA (xG _ _) (xG _ _) h.size rfl (fun t ⟨j,hj,_⟩=>absurd hj oA) (fun t _=>rfl)
 .have J:=xT.1 hP i (xU.2 hi)
  rw[ho]at J
  obtain⟨oj,hM,_⟩:=jC hj
  have h2:=xT.1 (xT.1 J t ht) j (xU.2 (xQ.1 hM).1)
  rw[hj]at h2
  simpa using h2
 .have J:=hA.sl t
  rw[<-hQ t ht]at J
  by_cases hm:t∈K.map (·.1)++B.map (·.t)
  .simp only[G1,if_pos hm]
   exact⟨J,by first|rfl|trivial⟩
  .simp only[G1,if_neg hm]
   exact J
 .have U:∀t,t∈K.map (·.1)++B.map (·.t)->a'.tmps.getD t undef=a.tmps.getD t undef:=fun t ht=>by
   have J:=hh t
   simp only[G1,if_pos ht]at J
   exact J.2
  have hp:∀q,q∈zS L->q.2.p (a'.tmps.getD q.1 undef) w':=fun q h6=>by
   have J:=h5 q.1 _ _ (hh q.1)
   rwa [zDR (q:=q) (by rw[ha];exact hw) h6]at J
  refine hE a' w' ⟨h.gr.trans hb,hs,by rw[hd];exact h.nd,fun q O=>?_,h.bx.keep hb (zR hb) B fun x hx=>U _ (cX _ (xH.2 ⟨x,hx,rfl⟩)),zBx h.mks hb,h.so.imp (fun hu q O=>(by
   rcases vW.1 O with O|O
   .obtain⟨f,e,_⟩:=zA9 O;exact⟨f,e⟩
   .exact hu q O)) (fun x=>x)⟩ hp
  rcases vW.1 O with O|O
  .obtain⟨f,hK,hm⟩:=zA9 O
   have h6:((q.1,f.tS):Nat×SF)∈zS L:=xH.2 ⟨_,hm,rfl⟩
   have J:=h5 q.1 _ _ (hh q.1)
   rw[zDR (q:=(q.1,f.tS)) (by rw[ha];exact hw) h6]at J
   rw[hK]
   exact J
  .rw[U q.1 (eA _ (xH.2 ⟨q,O,rfl⟩))]
   exact KF.us (h.sl q O) (zR hb)
theorem zV{B:List Bx}(k:Nat)(L:List (Nat×Rw))(h:StS S w0 K B n ds a w)
  (I:(zIl ops k n (L.map (·.1))&&zGP ops k (K.map (·.1)++B.map (·.t))&&zAf (L.map (·.1)))=true)
  (J:Obs F m P w ops (upd (zAb K B) (zS L)) (ops.toList.take k))
  (O:∀a w,StS S w0 (zAR L++K) B n ds a w->zAV F m P ops Q k a w):(Code.region id ops false).wpIn F m P Q a w:=
 zDW k L h I J fun a w h _=>O a w h
end
end Go.Proofs.Wd
