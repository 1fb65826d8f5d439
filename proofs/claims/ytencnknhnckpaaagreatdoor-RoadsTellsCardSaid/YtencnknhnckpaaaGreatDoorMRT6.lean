/- The calculus of walks by facts: the single operations; The calculus of and what it needs. -/
import Derived.Test.YtencnknhnckpaaaGreatDoorMRT3
import Derived.Great.BuildSlice
import Derived.Shelf.Abstract
abbrev fK:=@Go.wpIn_seq
abbrev fL:=@List.getElem?_eq_getElem
abbrev fM:=@Option.some.inj
abbrev fN:=@List.length_cons
abbrev fO:=@Option.map_some
abbrev fP:=@Option.some.injEq
abbrev fQ:=@List.take_of_length_le
abbrev fR:=@Int.toNat_natCast
abbrev fS:=@List.nil_append
abbrev fT:=@List.take_succ_eq_append_getElem
abbrev fU:=@List.append_assoc
abbrev fV:=@Go.Oper.uponIn_enter
abbrev fW:=@Array.toArray_toList
abbrev fX:=@Go.setRow_heap
abbrev fY:=@Nat.beq_refl
abbrev fZ:=@beq_self_eq_true
abbrev hH:=@Nat.le_of_ble_eq_true
abbrev lA:=@List.take_zero
abbrev lB:=@Array.getElem_modify
abbrev lC:=@List.set_append_right
abbrev lD:=@List.all_append
abbrev lE:=@Array.getElem?_append_left
abbrev lF:=@List.mem_filter
abbrev lG:=@Option.bind_some
abbrev lH:=@Option.map_eq_some_iff
abbrev lI:=@List.getElem?_of_mem
abbrev lJ:=@List.mem_of_getElem?
abbrev WK:=Go.Operand
theorem sA{P:Prop}(h:P:=by kernel_rfl):P:=h
namespace Go.Proofs.Wd
open Go.RowKit
variable {b c d i id j k kk n:Nat}{W W' w w' w0:WB}{v:WD}{op:Op}{x y z:WK}{cs:List WD}{f:FuncId}{e t te ty:WE}{A B C:SF}{xs:Array WK}{ats:Array WE}{draw want:Bool}{fn:Func}{args:Array WD}{pos:String}{aft:Array Edge}{S:Nat->Prop}{ds:List Deferred}{ops:Array Oper}{a:Act}{R:Ending->WB->Prop}
section
variable {F:Fence}{m:Nat}{P:WG}{w0:WB}{ops:Array Oper}{G:Nat->SF}{d:Tmp}{ty:WE}{pos:String}{aft:Array Edge}
def fct(G:Nat->SF):WK->SF
 | .tmp t=>G t
 | .const v=>SF.eq v
 | .func f=>SF.eq (.func (.func f) #[] #[])
 | .global g=>SF.eq (.pointer (some ⟨g,0,none⟩))
theorem qX{b:Act}{o:Oper}(h:∀t,t∈zCY o->(G t).p (b.tmps.getD t undef) W){x:WK}(I:x∈o.op.operands.toList):(fct G x).p (b.eval x) W:=by
 cases x with
 |tmp t=>exact h t (eW.2 ⟨_,I,rfl⟩)
 |const v=>rfl
 |func f=>rfl
 |global g=>rfl
theorem zBI{o:Oper}{b:Act}{K:Act->WB->Prop}{Q:Exit->Act->WB->Prop}(hd:∀c,o.op≠ .defer c)(O:∀c,o.op≠ .call c)(h:(execOp b.eval o).run P W=.ok (.value v) W')(J:K (b.put o.dst v) W'):o.wpIn F m P b W K Q:=by
 refine⟨fun f hf=>?_,?_⟩
 .unfold Oper.about at hf
  split at hf
  .rename_i c I;exact absurd I (O c)
  .cases hf
 .rw[bG _ _ _ hd,h]
  exact J
theorem qY(hd:∀c,op≠ .defer c)(hc:∀c,op≠ .call c)
  (h:∀(b:Act) (W:WB),Below w0.heap.size w0 W->(∀x,x∈op.operands.toList->(fct G x).p (b.eval x) W)->∃v,(execOp b.eval ⟨some d,op,ty,pos,aft,none⟩).run P W=.ok (.value v) W/\(G d).p v W):
  qR F m P w0 ops G ⟨some d,op,ty,pos,aft,none⟩:=by
 intro b W K Q hb O hK
 obtain⟨v,I,J⟩:=h b W hb fun x hx=>qX O hx
 exact zBI hd hc I (hK v W (fun d' e=>by cases e;exact J) (xF _ _))
theorem zA(h:∀v W,Below w0.heap.size w0 W->(fct G x).p v W->(G d).p v W:=by exact fun _ _ _ h=>h):qR F m P w0 ops G ⟨some d,.move x,ty,pos,aft,none⟩:=
 qY (fun _ e=>by cases e) (fun _ e=>by cases e) fun b W I J=>⟨_,rfl,h _ _ I (J x (by simp[Op.operands]))⟩
theorem zE(h:∀v W,Below w0.heap.size w0 W->(fct G x).p v W->(G d).p v W:=by exact fun _ _ _ h=>h):qR F m P w0 ops G ⟨some d,.assign x,ty,pos,aft,none⟩:=
 qY (fun _ e=>by cases e) (fun _ e=>by cases e) fun b W I J=>⟨_,rfl,h _ _ I (J x (by simp[Op.operands]))⟩
def Mem(W:WB)(b o:Nat)(cs:List WD):Prop:=∀j u,cs[j]?=some u->W.cell? ⟨b,o+j,none⟩=some u
theorem Mem.below{o:Nat}(h:Mem W b o cs)(J:Below W.heap.size W W'):Mem W' b o cs:=fun j u hj=>by
 have I:=h j u hj
 exact(J.cell (p:=⟨b,o+j,none⟩) (xJ W _ I)).trans I
theorem Mem.drop{o:Nat}(h:Mem W b o cs)(k:Nat):Mem W b (o+k) (cs.drop k):=fun j u hj=>by
 rw[uW]at hj
 rw[uV]
 exact h (k+j) u hj
structure CF where
 p:List WD->WB->Prop
 st:∀cs w w',p cs w->Below w.heap.size w w'->p cs w'
def wB(C:CF):SF:=⟨fun v W=>∃b o cs,v=.pointer (some ⟨b,o,none⟩)/\C.p cs W/\Mem W b o cs,fun _ _ _ ⟨b,o,cs,h1,h2,h3⟩ hb=>⟨b,o,cs,h1,C.st _ _ _ h2 hb,h3.below hb⟩⟩
theorem zBe{C:CF}(O:∀v W,(fct G x).p v W->(wB C).p v W:=by first|exact fun _ _ h=>h|exact fun _ _ h=>h.2)(h:∀v W,(wB C).p v W->(G d).p v W:=by exact fun _ _ h=>h):qR F m P w0 ops G ⟨some d,.nilCheck x,ty,pos,aft,none⟩:=
 qY (fun _ e=>by cases e) (fun _ e=>by cases e) fun b W hb J=>by
  have I:=O _ _ (J x (by simp[Op.operands]))
  obtain⟨_,_,cs,e,_⟩:=id I
  exact⟨b.eval x,by simp[execOp,e],h _ _ I⟩
def zBJ(P:WG)(s:WE)(f:Nat):Option Nat:=match P.underlying s with
 | some (.struct fs)=>match fs[f]? with
  |some f=>match P.info? f.type with
   |some i=>if i.size=0 then none else some f.offset
   |none=>none
  |none=>none
 |_=>none
theorem zJq{s:WE}{f:Nat}{C C':CF}(k:Nat)(I:zBJ P s f=some k)(hx:∀v W,(fct G x).p v W->(wB C).p v W)(h:∀cs W,C.p cs W->C'.p (cs.drop k) W)(hd:∀v W,(wB C').p v W->(G d).p v W:=by exact fun _ _ h=>h):qR F m P w0 ops G ⟨some d,.fieldAddr s x f,ty,pos,aft,none⟩:=
 qY (fun _ e=>by cases e) (fun _ e=>by cases e) fun b W hb hh=>by
  obtain⟨a,q,cs,e,O,h3⟩:=hx _ _ (hh x (by simp[Op.operands]))
  refine⟨.pointer (some ⟨a,q+k,none⟩),?_,hd _ _ ⟨_,_,_,rfl,h _ _ O,h3.drop k⟩⟩
  unfold zBJ at I
  split at I<;>try cases I
  rename_i fs hu
  split at I<;>try cases I
  rename_i f' hf
  split at I<;>try cases I
  rename_i i J
  split at I<;>try cases I
  rename_i hz
  simp[execOp,Instr.fieldAt,bI hu,hf,e,Instr.sureAddr,fieldPlace,sizeOf,typeInfo,J,hz,xH]
def zAj(P:WG)(t:WE):Option Nat:=match P.underlying t with
 |some (.struct _)|some (.array _ _)=>(P.info? t).map (·.size)
 |_=>none
def zB9(P:WG)(t:WE):Bool:=match P.underlying t with
 |some (.struct _)|some (.array _ _)|none=>false
 |_=>true
theorem zDb(h:zAj P t=some k)(W:WB):(isAgg t).run P W=.ok true W/\∃i,P.info? t=some i/\i.size=k:=by
 unfold zAj at h
 split at h<;>try cases h
 all_goals
  rename_i I
  cases hi:P.info? t with
  |none=>rw[hi]at h;cases h
  |some i=>rw[hi]at h;cases h;exact⟨by simp[isAgg,bI I],i,rfl,rfl⟩
theorem zD3(h:zB9 P t=true)(W:WB):(isAgg t).run P W=.ok false W:=by
 unfold zB9 at h
 split at h<;>try cases h
 rename_i h1 h2 I
 cases hu:P.underlying t with
 |none=>exact absurd hu I
 |some d=>cases d<;>simp_all[isAgg,bI hu]
theorem zBv(h:zAj P t=some k){a q:Nat}{cs:List WD}{W:WB}(O:Mem W a q cs)(hk:k<=cs.length):(loadVar t ⟨a,q,none⟩).run P W=.ok (.agg (cs.take k).toArray) W:=by
 obtain⟨h1,i,J,hs⟩:=zDb h W
 have I:=run_loadCells_list (P:=P) W ⟨a,q,none⟩ (cs.take k) (fun j v hj=>by rw[xH];exact O j v (by
  rw[gB]at hj
  split at hj
  .exact hj
  .cases hj))
 rw[uG,uT hk]at I
 simp[loadVar,h1,sizeOf,typeInfo,J,hs,I]
theorem jA(h:zB9 P t=true){a q:Nat}{cs:List WD}{W:WB}(I:Mem W a q cs){u:WD}(J:cs[0]?=some u):(loadVar t ⟨a,q,none⟩).run P W=.ok u W:=by
 have O:=I 0 u J
 have h2:W.cell? ⟨a,q,none⟩=some u:=O
 simp[loadVar,zD3 h W,h2]
theorem zJo{C:CF}(k:Nat)(hk:zAj P t=some k)(hx:∀v W,(fct G x).p v W->(wB C).p v W)(h:∀cs W,C.p cs W->k<=cs.length/\(G d).p (.agg (cs.take k).toArray) W):qR F m P w0 ops G ⟨some d,.load t x,ty,pos,aft,none⟩:=
 qY (fun _ e=>by cases e) (fun _ e=>by cases e) fun b W hb hh=>by
  obtain⟨a,q,cs,e,I,h3⟩:=hx _ _ (hh x (by simp[Op.operands]))
  obtain⟨J,O⟩:=h cs W I
  exact⟨_,by simp[execOp,Instr.loadAt,e,Instr.sureAddr,zBv hk h3 J],O⟩
theorem z5{C:CF}(hk:zB9 P t=true)(hx:∀v W,(fct G x).p v W->(wB C).p v W)(h:∀cs W,C.p cs W->∃u,cs[0]?=some u/\(G d).p u W):qR F m P w0 ops G ⟨some d,.load t x,ty,pos,aft,none⟩:=
 qY (fun _ e=>by cases e) (fun _ e=>by cases e) fun b W hb hh=>by
  obtain⟨a,q,cs,e,I,h3⟩:=hx _ _ (hh x (by simp[Op.operands]))
  obtain⟨u,J,O⟩:=h cs W I
  exact⟨_,by simp[execOp,Instr.loadAt,e,Instr.sureAddr,jA hk h3 J],O⟩
theorem zPd(hd:∀c,op≠ .defer c)(hc:∀c,op≠ .call c)
  (h:∀(b:Act) (W:WB),Below w0.heap.size w0 W->(∀x,x∈op.operands.toList->(fct G x).p (b.eval x) W)->∃v o,(execOp b.eval ⟨some d,op,ty,pos,aft,none⟩).run P W=.ok (.value v) (W.alloc o)/\(G d).p v (W.alloc o)):
  qR F m P w0 ops G ⟨some d,op,ty,pos,aft,none⟩:=by
 intro b W K Q hb O hK
 obtain⟨v,o,I,J⟩:=h b W hb fun x hx=>qX O hx
 exact zBI hd hc I (hK v _ (fun d' e=>by cases e;exact J) ((xF _ _).alloc (vR _) _))
theorem zCp(W:WB)(cs:Array WD)(t:WE):Mem (W.alloc (.cells cs t)) W.heap.size 0 cs.toList:=fun j u hj=>by
 have h:(W.alloc (.cells cs t)).heap[W.heap.size]?=some (.cells cs t):=bT W _
 unfold World.cell?
 rw[h]
 simp only[uK,xN,xI,xK]
 simpa using hj
theorem j5(W:WB)(o:Obj):Below W.heap.size W (W.alloc o):=(xF _ _).alloc (vR _) _
def zeroCells(P:WG)(t:WE):Option (List WD):=((P.info? t).bind (·.zero)).map (·.cells.toList)
def wQ(w0:WB)(t:WE)(cs:List WD):SF:=⟨fun v W=>∃b,v=.pointer (some ⟨b,0,none⟩)/\w0.heap.size<=b/\W.heap[b]?=some (.cells cs.toArray t (0,0)),fun _ _ _ ⟨b,h1,h2,h3⟩ hb=>⟨b,h1,h2,(hb.block b (xP.1 h3).1).trans h3⟩⟩
theorem zGp(hz:zeroCells P e=some cs)(hd:∀v W,(wQ w0 e cs).p v W->(G d).p v W:=by exact fun _ _ h=>h):qR F m P w0 ops G ⟨some d,.alloc e,ty,pos,aft,none⟩:=
 zPd (fun _ e=>by cases e) (fun _ e=>by cases e) fun b W I hh=>by
  unfold zeroCells at hz
  cases hi:P.info? e with
  |none=>rw[hi]at hz;cases hz
  | some i=>
   rw[hi]at hz
   simp only[lG]at hz
   cases hzz:i.zero with
   |none=>rw[hzz]at hz;cases hz
   | some z=>
    rw[hzz]at hz
    simp only[fO,fP]at hz
    subst hz
    refine⟨.pointer (some ⟨W.heap.size,0,none⟩),.cells z.cells e,?_,hd _ _ ⟨W.heap.size,rfl,I.size,?_⟩⟩
    .simp[execOp,Instr.alloc,zeroValue,typeInfo,hi,hzz,newVar,newRow]
    .have:=bT W (.cells z.cells e)
     simpa using this
def wI(A B:SF):SF:=⟨fun v W=>∃x y,v=.tuple #[x,y]/\A.p x W/\B.p y W,fun _ _ _ ⟨x,y,h1,h2,h3⟩ hb=>⟨x,y,h1,A.st _ _ _ h2 hb,B.st _ _ _ h3 hb⟩⟩
def wL(A B C:SF):SF:=⟨fun v W=>∃x y z,v=.tuple #[x,y,z]/\A.p x W/\B.p y W/\C.p z W,fun _ _ _ ⟨x,y,z,h1,h2,h3,h4⟩ hb=>⟨x,y,z,h1,A.st _ _ _ h2 hb,B.st _ _ _ h3 hb,C.st _ _ _ h4 hb⟩⟩
theorem zHs(h:∀v W,(fct G x).p v W->∃vs u,v=.tuple vs/\vs[i]?=some u/\(G d).p u W):qR F m P w0 ops G ⟨some d,.extract x i,ty,pos,aft,none⟩:=
 qY (fun _ e=>by cases e) (fun _ e=>by cases e) fun b W hb O=>by
  obtain⟨vs,u,e,J,I⟩:=h _ _ (O x (by simp[Op.operands]))
  exact⟨u,by simp[execOp,Instr.extract,e,J],I⟩
theorem zAD(I:∀v W,(fct G x).p v W->(wI A B).p v W)(hd:∀v W,A.p v W->(G d).p v W:=by exact fun _ _ h=>h):qR F m P w0 ops G ⟨some d,.extract x 0,ty,pos,aft,none⟩:=
 zHs fun v W h=>let⟨a,_,e,h1,_⟩:=I v W h;⟨_,a,e,rfl,hd _ _ h1⟩
theorem zAC(I:∀v W,(fct G x).p v W->(wI A B).p v W)(hd:∀v W,B.p v W->(G d).p v W:=by exact fun _ _ h=>h):qR F m P w0 ops G ⟨some d,.extract x 1,ty,pos,aft,none⟩:=
 zHs fun v W h=>let⟨_,b,e,_,h1⟩:=I v W h;⟨_,b,e,rfl,hd _ _ h1⟩
theorem zCH(I:∀v W,(fct G x).p v W->(wL A B C).p v W)(hd:∀v W,A.p v W->(G d).p v W:=by exact fun _ _ h=>h):qR F m P w0 ops G ⟨some d,.extract x 0,ty,pos,aft,none⟩:=
 zHs fun v W h=>let⟨a,_,_,e,h1,_⟩:=I v W h;⟨_,a,e,rfl,hd _ _ h1⟩
theorem zCG(I:∀v W,(fct G x).p v W->(wL A B C).p v W)(hd:∀v W,B.p v W->(G d).p v W:=by exact fun _ _ h=>h):qR F m P w0 ops G ⟨some d,.extract x 1,ty,pos,aft,none⟩:=
 zHs fun v W h=>let⟨_,b,_,e,_,h1,_⟩:=I v W h;⟨_,b,e,rfl,hd _ _ h1⟩
theorem zCF(I:∀v W,(fct G x).p v W->(wL A B C).p v W)(hd:∀v W,C.p v W->(G d).p v W:=by exact fun _ _ h=>h):qR F m P w0 ops G ⟨some d,.extract x 2,ty,pos,aft,none⟩:=
 zHs fun v W h=>let⟨_,_,c,e,_,_,h1⟩:=I v W h;⟨_,c,e,rfl,hd _ _ h1⟩
theorem zGn{parts:Array (Nat×WK)}(h:∀(b:Act) (W:WB),Below w0.heap.size w0 W->(∀x,x∈parts.toList.map (·.2)->(fct G x).p (b.eval x) W)->∃cells,P.built t (parts.map fun(i,x)=>(i,b.eval x)).toList=some cells/\(G d).p (.agg cells) W):qR F m P w0 ops G ⟨some d,.build t parts,ty,pos,aft,none⟩:=
 qY (fun _ e=>by cases e) (fun _ e=>by cases e) fun b W hb J=>by
  obtain⟨cells,h1,I⟩:=h b W hb fun x O=>J x (by simpa[Op.operands]using O)
  exact⟨_,by simp only[execOp,bW,run_build W t _ cells h1,cN,cJ],I⟩
theorem zAS(h:∀u v W,(fct G x).p u W->(fct G y).p v W->∃cells,P.built t [(i,u),(j,v)]=some cells/\(G d).p (.agg cells) W):qR F m P w0 ops G ⟨some d,.build t #[(i,x),(j,y)],ty,pos,aft,none⟩:=
 zGn fun b W hb I=>by
  obtain⟨cells,O,J⟩:=h _ _ W (I x eN) (I y eN)
  exact⟨cells,by simpa using O,J⟩
theorem zEY(h:∀u W,(fct G x).p u W->∃cells,P.built t [(i,u)]=some cells/\(G d).p (.agg cells) W):qR F m P w0 ops G ⟨some d,.build t #[(i,x)],ty,pos,aft,none⟩:=
 zGn fun b W hb O=>by
  obtain⟨cells,J,I⟩:=h _ W (O x eN)
  exact⟨cells,by simpa using J,I⟩
def zV(P:WG)(t:WE)(len:Nat)(parts:List (Nat×WD)):Option (WE×Array WD):=match P.underlying t with
 | some (.slice e)=>match P.info? e with
  |some ie=>match ie.zero with
   |some z=>if len*ie.size>2^24∨len*ie.size=0 then none else(Instr.fill (fun i=>some (i*ie.size,ie.size)) ((Array.range (len*ie.size)).map (z.cells[· % z.cells.size]!)) parts).map fun cs=>(e,cs)
   |none=>none
  |none=>none
 |_=>none
theorem zDQ{len:Nat}{parts:Array (Nat×WD)}{cs:Array WD}(h:zV P t len parts.toList=some (e,cs))(W:WB):(Instr.buildSlice t len parts).run P W=.ok (.slice (some ⟨W.heap.size,0,none⟩) len len) (W.alloc (.cells cs e)):=by
 unfold zV at h
 split at h<;>try cases h
 rename_i e' hu
 split at h<;>try cases h
 rename_i O J
 split at h<;>try cases h
 rename_i z hz
 split at h<;>try cases h
 rename_i I
 simp only[lH]at h
 obtain⟨cs',h1,h2⟩:=h
 cases h2
 exact run_buildSlice W t _ len parts cs O z hu J hz (fun h=>I (.inl h)) (fun h=>I (.inr h)) h1
theorem zB5{len:Nat}{parts:Array (Nat×WK)}(h:∀(b:Act) (W:WB),Below w0.heap.size w0 W->(∀x,x∈parts.toList.map (·.2)->(fct G x).p (b.eval x) W)->∃e cs,zV P t len (parts.map fun(i,x)=>(i,b.eval x)).toList=some (e,cs)/\(G d).p (.slice (some ⟨W.heap.size,0,none⟩) len len) (W.alloc (.cells cs e))):qR F m P w0 ops G ⟨some d,.buildSlice t len parts,ty,pos,aft,none⟩:=
 zPd (fun _ e=>by cases e) (fun _ e=>by cases e) fun b W hb J=>by
  obtain⟨e,cs,h1,I⟩:=h b W hb fun x O=>J x (by simpa[Op.operands]using O)
  exact⟨_,_,by simp only[execOp,bW,zDQ h1 W,cN,cJ],I⟩
theorem zEW(h:∀u W,(fct G x).p u W->∃e cs,zV P t 1 [(0,u)]=some (e,cs)/\(G d).p (.slice (some ⟨W.heap.size,0,none⟩) 1 1) (W.alloc (.cells cs e))):qR F m P w0 ops G ⟨some d,.buildSlice t 1 #[(0,x)],ty,pos,aft,none⟩:=
 zB5 fun b W hb O=>by
  obtain⟨e,cs,J,I⟩:=h _ W (O x eN)
  exact⟨e,cs,by simpa using J,I⟩
theorem y8(h:∀u v W,(fct G x).p u W->(fct G y).p v W->∃e cs,zV P t 2 [(0,u),(1,v)]=some (e,cs)/\(G d).p (.slice (some ⟨W.heap.size,0,none⟩) 2 2) (W.alloc (.cells cs e))):qR F m P w0 ops G ⟨some d,.buildSlice t 2 #[(0,x),(1,y)],ty,pos,aft,none⟩:=
 zB5 fun b W hb I=>by
  obtain⟨e,cs,O,J⟩:=h _ _ W (I x eN) (I y eN)
  exact⟨e,cs,by simpa using O,J⟩
theorem zHr(h:∀u v q W,(fct G x).p u W->(fct G y).p v W->(fct G z).p q W->∃e cs,zV P t 3 [(0,u),(1,v),(2,q)]=some (e,cs)/\(G d).p (.slice (some ⟨W.heap.size,0,none⟩) 3 3) (W.alloc (.cells cs e))):qR F m P w0 ops G ⟨some d,.buildSlice t 3 #[(0,x),(1,y),(2,z)],ty,pos,aft,none⟩:=
 zB5 fun b W hb I=>by
  obtain⟨e,cs,O,J⟩:=h _ _ _ W (I x eN) (I y eN) (I z eN)
  exact⟨e,cs,by simpa using O,J⟩
def Ret(W:WB)(f:SF):Ending->WB->Prop:=fun e W'=>∃v,e=.returned v/\f.p v W'/\Below W.heap.size W W'
def zHT(F:Fence)(m:Nat)(P:WG):Prop:=(∀f,F.fn f)/\(F.depth.isSome=true->1<=m)/\∀f args w R,Calls P f args w R->CallsIn F (m-1) P f args w R
theorem zD:zHT Fence.wide m P:=⟨fun _=>trivial,fun h=>(by cases h),fun _ _ _ _ h=>bB.2 h⟩
theorem zCI(hF:zHT F m P)(J:Enters P f)
  (h:∀(b:Act) (W:WB),Below w0.heap.size w0 W->(∀x,x∈xs.toList->(fct G x).p (b.eval x) W)->Calls P f (xs.map b.eval) W (Ret W (G d))):
  qR F m P w0 ops G ⟨some d,.call ⟨.value (.func f),xs,ats⟩,ty,pos,aft,none⟩:=by
 intro b W K Q hb hr hK
 have h1:=h b W hb fun x hx=>qX hr (x:=x) (by simp[Op.operands,Call.operands];right;simpa using hx)
 refine⟨fun g _=>hF.1 g,?_⟩
 rw[bG _ _ _ (fun _ e=>by cases e),execOp_call_go]
 rw[J]
 simp only[fV]
 refine⟨hF.2.1,bC (hF.2.2 _ _ _ (Ret W (G d)) ?_) fun e W' J=>?_⟩
 .simpa using h1
 .obtain⟨v,rfl,O,I⟩:=J
  exact hK v W' (fun d' e=>by cases e;exact O) I
theorem zJr(hF:zHT F m P)(I:Enters P f)(h:∀W,Below w0.heap.size w0 W->Calls P f #[] W (Ret W (G d))):qR F m P w0 ops G ⟨some d,.call ⟨.value (.func f),#[],ats⟩,ty,pos,aft,none⟩:=
 zCI hF I fun b W J _=>by simpa using h W J
theorem zK(hF:zHT F m P)(J:Enters P f)(h:∀u W,Below w0.heap.size w0 W->(fct G x).p u W->Calls P f #[u] W (Ret W (G d))):qR F m P w0 ops G ⟨some d,.call ⟨.value (.func f),#[x],ats⟩,ty,pos,aft,none⟩:=
 zCI hF J fun b W I O=>by simpa using h _ W I (O x eN)
theorem zW(hF:zHT F m P)(O:Enters P f)(h:∀u v W,Below w0.heap.size w0 W->(fct G x).p u W->(fct G y).p v W->Calls P f #[u,v] W (Ret W (G d))):qR F m P w0 ops G ⟨some d,.call ⟨.value (.func f),#[x,y],ats⟩,ty,pos,aft,none⟩:=
 zCI hF O fun b W J I=>by simpa using h _ _ W J (I x eN) (I y eN)
theorem zBn(hF:zHT F m P)(O:Enters P f)(h:∀u v q W,Below w0.heap.size w0 W->(fct G x).p u W->(fct G y).p v W->(fct G z).p q W->Calls P f #[u,v,q] W (Ret W (G d))):qR F m P w0 ops G ⟨some d,.call ⟨.value (.func f),#[x,y,z],ats⟩,ty,pos,aft,none⟩:=
 zCI hF O fun b W J I=>by simpa using h _ _ _ W J (I x eN) (I y eN) (I z eN)
theorem zB(g:Nat)(I:Bool)(hj:zY ops j=some g)(J:∀v W,(G g).p v W->v=.bool I)(h1:I=want->qR F m P w0 ops G ⟨some d,op,ty,pos,aft,none⟩)(h2:I≠want->∀W,(G d).p undef W)
  (h3:I≠want->∀W ρ f,(⟨some d,op,ty,pos,aft,none⟩:Oper).about P W ρ=some f->F.fn f:=by first|exact fun e=>absurd rfl e|exact fun _ _ _ _ h=>by cases h|exact fun _ _ _ _ _=>trivial):qR F m P w0 ops G ⟨some d,op,ty,pos,aft,some (j,want)⟩:=
 ⟨g,.bool I,hj,J,fun e=>h1 (by injection e),fun e=>⟨fun d' O W=>by cases O;exact h2 (fun k=>e (by rw[k])) W,h3 (fun k=>e (by rw[k]))⟩⟩
theorem yH(g:Nat)(u:WD)(hj:zY ops j=some g)(J:∀v W,(G g).p v W->v=u)(I:u≠ .bool want)(h2:∀W,(G d).p undef W)
  (h3:∀W ρ f,(⟨some d,op,ty,pos,aft,none⟩:Oper).about P W ρ=some f->F.fn f:=by first|exact fun _ _ _ h=>by cases h|exact fun _ _ _ _=>trivial):qR F m P w0 ops G ⟨some d,op,ty,pos,aft,some (j,want)⟩:=
 ⟨g,u,hj,J,fun e=>absurd e I,fun _=>⟨fun d' O W=>by cases O;exact h2 W,h3⟩⟩
theorem zT{c:WK}(h:Bool)(J:∀v W,(fct G c).p v W->v=.bool h)(h1:h=true->∀v W,(fct G x).p v W->(G d).p v W)(h2:h=false->∀v W,(fct G y).p v W->(G d).p v W):qR F m P w0 ops G ⟨some d,.pick c x y,ty,pos,aft,none⟩:=
 qY (fun _ e=>by cases e) (fun _ e=>by cases e) fun b W hb I=>by
  have e:=J _ _ (I c (by simp[Op.operands]))
  cases h with
  |true=>exact⟨_,by simp[execOp,e,asBool],h1 rfl _ _ (I x (by simp[Op.operands]))⟩
  |false=>exact⟨_,by simp[execOp,e,asBool],h2 rfl _ _ (I y (by simp[Op.operands]))⟩
theorem zAv(h:Bool)(J:∀v W,(fct G x).p v W->v=.bool h)(hd:∀W,(G d).p (.bool (!h)) W):qR F m P w0 ops G ⟨some d,.unOp .not t x,ty,pos,aft,none⟩:=
 qY (fun _ e=>by cases e) (fun _ e=>by cases e) fun b W hb I=>by
  have e:=J _ _ (I x (by simp[Op.operands]))
  exact⟨_,by simp[execOp,e,Op.unary],hd W⟩
theorem zDg{op:BinOp}{t':WE}(u v r:WD)(hx:∀q W,(fct G x).p q W->q=u)(O:∀q W,(fct G y).p q W->q=v)(J:∀W,(eqGuard op t x y u v).run P W=.ok () W)(hr:∀W,(binOp op t u v).run P W=.ok r W)(hd:∀W,(G d).p r W):qR F m P w0 ops G ⟨some d,.binOp op t x y t',ty,pos,aft,none⟩:=
 qY (fun _ e=>by cases e) (fun _ e=>by cases e) fun b W hb h=>by
  have I:=hx _ _ (h x (by simp[Op.operands]))
  have e2:=O _ _ (h y (by simp[Op.operands]))
  exact⟨r,by simp[execOp,I,e2,J,hr],hd W⟩
end
def zQz:Nat->SF:=fun _=>SF.any
def zKw:Nat->List SF->List (Nat×SF)
 |_, []=> []
 |k,f::l=>(k,f)::zKw (k+1) l
def zFk(w:WB):List SF->List WD->Prop
 | [],_=>True
 |f::l,v::vs=>f.p v w/\zFk w l vs
 |_::_, []=>False
theorem zME{w:WB}:∀(l:List SF) (vs:List WD) (k t:Nat),zFk w l vs->∀u,(∀j,k+j=t->u=vs.getD j undef)->(upd zQz (zKw k l) t).p u w
 | [],_,_,_,_,_,_=>trivial
 |f::l, [],_,_,h,_,_=>h.elim
 | f::l,v::vs,k,t,h,u,hu=>by
  show(bif Nat.beq k t then f else upd zQz (zKw (k+1) l) t).p u w
  cases e:Nat.beq k t with
  |true=>
   have:=cG e
   rw[hu 0 oA]
   exact h.1
  |false=>
   refine zME l vs (k+1) t h.2 u fun j hj=>?_
   rw[hu (j+1) oA]
   rfl
structure UF extends tS:SF where
 us:∀v w w',p v w->(∀q x,w.cell? q=some (.int .u32 x)->w'.cell? q=some (.int .u32 x))->p v w'
theorem zOF(l:List SF)(O:Nat.ble args.size fn.ntmps=true)(hA:zFk w l args.toList):At w (upd zQz (zKw 0 l)) fn.ntmps [] { tmps:=args++Array.replicate (fn.ntmps-args.size) undef,defers:=[] } w:=by
 have O:=hH O
 refine⟨xF _ _,sB,rfl,fun t=>?_⟩
 by_cases ht:t<args.toList.length
 .refine zME l _ 0 t hA _ fun j hj=>?_
  obtain rfl:j=t:=oA
  have J:j<args.size:=by simpa using ht
  simp[Array.getElem?_append,J,List.getD]
 .have:∀(l:List SF) (vs:List WD) (k:Nat),zFk w l vs->k+vs.length<=t->upd zQz (zKw k l) t=SF.any:=by
   intro l
   induction l with
   |nil=>intro vs k _ _;rfl
   | cons f l ih=>
    intro vs k h hk
    cases vs with
    |nil=>exact h.elim
    | cons v vs=>
     simp only[fN]at hk
     have I:Nat.beq k t=false:=by
      cases e:Nat.beq k t with
      |false=>rfl
      |true=>have:=cG e;omega
     show(bif Nat.beq k t then f else upd zQz (zKw (k+1) l) t)=_
     rw[I]
     exact ih vs (k+1) h.2 oA
  rw[this l args.toList 0 hA oA]
  trivial
section
variable {F:Fence}{m:Nat}{P:WG}{Q:Exit->Act->WB->Prop}{w0:WB}{G:Nat->SF}{n:Nat}{ds:List Deferred}{a:Act}{w:WB}
theorem zUd{c:Code}(N:Nat)(i:Nat)(I:Nat->Nat->SF)(J:∀k v W,(I k i).p v W->v=.int .i64 (k:Int))(h0:At w0 (I 0) n ds a w)
  (round:∀k a w,k<=N->At w0 (I k) n ds a w->c.wpIn F m P (Exit.then (fun a' w'=>k<N/\At w0 (I (k+1)) n ds a' w') Q) a w):(Code.loop c).wpIn F m P Q a w:=by
 refine wpIn_loop (fun a w=>∃k,k<=N/\At w0 (I k) n ds a w) (fun a _=>N+1-(match a.tmps.getD i undef with| .int _ z=>z.toNat|_=>0)) ⟨0,vS _,h0⟩ ?_
 rintro a w ⟨k,hk,hA⟩
 refine cX ?_ (round k a w hk hA)
 intro e a' w' h
 cases e with
 |normal=>
  obtain⟨h1,O⟩:k<N/\At w0 (I (k+1)) n ds a' w':=h
  refine⟨⟨k+1,h1,O⟩,?_⟩
  have e1:=J _ _ _ (hA.sl i)
  have e2:=J _ _ _ (O.sl i)
  simp only[e1,e2,fR]
  have h3:N+1-(k+1)<N+1-k:=oA
  exact h3
 |_=>exact h
def y4(w w':WB):Prop:=∀p x,w.cell? p=some (.int .u32 x)->w'.cell? p=some (.int .u32 x)
theorem y4.trans{u v:WB}(h:y4 u v)(k:y4 v w):y4 u w:=fun p x hp=>k p x (h p x hp)
theorem Rd.keepU{A:Option Addr}{l:List Nat}(h:Rd w A n c l)(J:y4 w w'):Rd w' A n c l:=
 ⟨h.len,h.le,h.cap,h.nil,fun i I=>let⟨b,o,e,hc⟩:=h.cells i I;⟨b,o,e,J _ _ hc⟩⟩
def z9:WD->Bool
 | .int .u32 _=>false
 |_=>true
theorem zDO{cs vs:Array WD}(J:w.heap[b]?=some (.cells cs t (0,0)))(h:cs.all z9=true):y4 w (w.setRow b vs):=fun p x hp=>by
 rw[cell_setRow_other]
 .exact hp
 .intro e
  have I:w.cell? p=if p.spot.isSome then none else cs[p.off]?:=by
   unfold World.cell?
   rw[e,J]
  rw[I]at hp
  split at hp
  .cases hp
  .have:=eJ.1 h _ (eS hp)
   cases this
theorem zF4(I:zAj P t=some k){cs vs:List WD}(O:vs.length=k)(hc:cs.length=k)(h1:∀u,u∈vs->u.oneCell'=true)(hb:w.heap[b]?=some (.cells cs.toArray t (0,0))):
  (storeVar t ⟨b,0,none⟩ (.agg vs.toArray)).run P w=.ok () (w.setRow b vs.toArray):=by
 obtain⟨_,i,J,h⟩:=zDb I w
 have:=run_storeCells_from (P:=P) b t vs 0 cs.toArray w hb sB h1
 simp only[lA,fS]at this
 simp[storeVar,sizeOf,typeInfo,J,h,Value.cells,O,this]
theorem zNS{K:Act->WB->Prop}(I:zAj P t=some k)(J:te=t)(O:cs.length=k)
  {b:Nat}{vs:List WD}(hp:a.tmps.getD c undef=.pointer (some ⟨b,0,none⟩))(hb:w.heap[b]?=some (.cells cs.toArray te (0,0)))(hx:a.eval x=.agg vs.toArray)(hl:vs.length=k)(h1:∀u,u∈vs->u.oneCell'=true)
  (hK:K a (w.setRow b vs.toArray)):(⟨none,.store t (.tmp c) x,ty,pos,aft,none⟩:Oper).wpIn F m P a w K Q:=by
 subst J
 refine⟨fun f hf=>(by cases hf),?_⟩
 rw[bG _ _ _ (fun _ e=>by cases e)]
 have:(execOp a.eval ⟨none,.store te (.tmp c) x,ty,pos,aft,none⟩).run P w=.ok .skip (w.setRow b vs.toArray):=by
  have h:a.eval (.tmp c)=.pointer (some ⟨b,0,none⟩):=hp
  simp[execOp,h,hx,Instr.storeAt,Instr.sureAddr,zF4 I hl O h1 hb]
 rw[this]
 exact hK
theorem zEf(h:zAj P t=some k){b:Nat}{te:WE}{vs:List WD}(hl:vs.length=k)(J:w.heap[b]?=some (.cells vs.toArray te (0,0))):(loadVar t ⟨b,0,none⟩).run P w=.ok (.agg vs.toArray) w:=by
 have I:Mem w b 0 vs:=fun j u hj=>by
  unfold World.cell?
  rw[J]
  simpa using hj
 have:=zBv h I oA
 rwa [fQ oA]at this
end
theorem zN(I:Below w.heap.size w w'):y4 w w':=fun q x h=>(I.cell (p:=q) (xJ w _ h)).trans h
def UF.mk'(p:WD->WB->Prop)(us:∀v w w',p v w->y4 w w'->p v w'):UF:=⟨⟨p,fun v w w' h hb=>us v w w' h (zN hb)⟩,us⟩
def UF.any:UF:=.mk' (fun _ _=>True) fun _ _ _ _ _=>trivial
def UF.eq(u:WD):UF:=.mk' (fun v _=>v=u) fun _ _ _ h _=>h
abbrev uI(z:Int):UF:=UF.eq (.int .i64 z)
abbrev uB(b:Bool):UF:=UF.eq (.bool b)
def zCa(A B:UF):UF:=.mk' (wI A.tS B.tS).p fun _ _ _ ⟨x,y,h1,h2,h3⟩ k=>⟨x,y,h1,A.us _ _ _ h2 k,B.us _ _ _ h3 k⟩
def zMm(A B C:UF):UF:=.mk' (wL A.tS B.tS C.tS).p fun _ _ _ ⟨x,y,z,h1,h2,h3,h4⟩ k=>⟨x,y,z,h1,A.us _ _ _ h2 k,B.us _ _ _ h3 k,C.us _ _ _ h4 k⟩
inductive KF where
 |u (f:UF)
 |o (f:SF)
variable {K:List (Nat×KF)}
def KF.sf:KF->SF
 | .u f=>f.tS
 | .o f=>f
def KF.p(w0:WB):KF->WD->WB->Prop
 | .u f,v,w=>f.p v w
 | .o f,v,_=>f.p v w0
theorem KF.us{w0:WB}{k:KF}{v:WD}{w w':WB}(h:k.p w0 v w)(I:y4 w w'):k.p w0 v w':=by
 cases k with
 |u f=>exact f.us _ _ _ h I
 |o f=>exact h
theorem vP{k:KF}(h:k.p w0 v w)(I:Below w0.heap.size w0 w):k.sf.p v w:=by
 cases k with
 |u f=>exact h
 |o f=>exact f.st _ _ _ h I
structure CU where
 p:List WD->WB->Prop
 us:∀cs w w',p cs w->y4 w w'->p cs w'
def CU.cf(C:CU):CF:=⟨C.p,fun cs w w' h hb=>C.us cs w w' h (zN hb)⟩
def CU.agg(f:UF):CU:=⟨fun cs w=>f.p (.agg cs.toArray) w,fun _ _ _ h k=>f.us _ _ _ h k⟩
abbrev cg(f:UF):CF:=(CU.agg f).cf
def CU.len(k:Nat):CU:=⟨fun cs _=>cs.length=k,fun _ _ _ h _=>h⟩
structure Bx where
 t:Nat
 e:WE
 c:CU
 b:Nat
 r:Bool
def qJ(S:Nat->Prop)(w0:WB)(a:Act)(w:WB):List Bx->Prop
 | []=>True
 |x::B=>(∃cs:List WD,a.tmps.getD x.t undef=.pointer (some ⟨x.b,0,none⟩)/\(x.r=true∨w0.heap.size<=x.b∨S x.b)/\w.heap[x.b]?=some (.cells cs.toArray x.e (0,0))/\x.c.p cs w/\cs.all z9=true/\∀y,y∈B->y.b≠x.b∨(x.r=true/\y.r=true))/\qJ S w0 a w B
structure BlS(S:Nat->Prop)(w w':World):Prop where
 os:w'.os=w.os
 tape:w'.tape=w.tape
 output:w'.output=w.output
 size:w.heap.size<=w'.heap.size
 block:∀k,k<w.heap.size-> ¬S k->w'.heap[k]?=w.heap[k]?
def noS:Nat->Prop:=fun _=>False
theorem BlS.below(h:BlS noS w w'):Below w.heap.size w w':=⟨h.os,h.tape,h.output,h.size,fun k I=>h.block k I (fun x=>x)⟩
theorem BlS.trans{u:WB}(h:BlS S u w)(I:Below w.heap.size w w'):BlS S u w':=⟨I.os.trans h.os,I.tape.trans h.tape,I.output.trans h.output,xQ h.size I.size,fun k J O=>(I.block k (vW J h.size)).trans (h.block k J O)⟩
theorem BlS.refl(S:Nat->Prop)(w:WB):BlS S w w:=⟨rfl,rfl,rfl,vR _,fun _ _ _=>rfl⟩
theorem BlS.row{u:WB}(h:BlS S u w){b:Nat}(I:u.heap.size<=b∨S b)(vs:Array WD):BlS S u (w.setRow b vs):=
 ⟨h.os,h.tape,h.output,by rw[size_setRow];exact h.size,fun k O J=>(setRow_other w b k vs (fun e=>by subst e;rcases I with I|I;omega;exact J I)).trans (h.block k O J)⟩
theorem BlS.grown{u:WB}(h:BlS S u w){b:Nat}(I:w.grownBy w' (some b))(J:u.heap.size<=b∨S b):BlS S u w':=
 ⟨I.os.trans h.os,I.tape.trans h.tape,I.output.trans h.output,xQ h.size I.size,fun k hk O=>(I.block k (vW hk h.size) (fun e=>by cases e;rcases J with J|J;omega;exact O J)).trans (h.block k hk O)⟩
structure StS(S:Nat->Prop)(w0:World)(K:List (Nat×KF))(B:List Bx)(n:Nat)(ds:List Deferred)(a:Act)(w:World):Prop where
 gr:BlS S w0 w
 size:a.tmps.size=n
 nd:a.defers=ds
 sl:∀q,q∈K->q.2.p w0 (a.tmps.getD q.1 undef) w
 bx:qJ S w0 a w B
 mks:∃Ds,Marks w0.heap.size w ds Ds
 so:(∀q,q∈K->∃f,q.2=.u f)∨ ∀k, ¬S k
abbrev St:=StS noS
theorem zA3(h:∃Ds,Marks w0.heap.size w ds Ds)(J:Below w.heap.size w w'):∃Ds,Marks w0.heap.size w' ds Ds:=h.imp fun _ h=>h.keep fun k _ I _=>(J.block k (xP.1 I).1).trans I
theorem zIo(h:∃Ds,Marks w0.heap.size w ds Ds){b:Nat}(O:w.grownBy w' (some b)){cs:Array WD}{t:WE}{z:Nat×Nat}(J:w.heap[b]?=some (.cells cs t z)):∃Ds,Marks w0.heap.size w' ds Ds:=h.imp fun _ h=>h.keep fun k o I ho=>(O.block k (xP.1 I).1 (fun e=>by cases e;rw[J]at I;cases I;cases ho)).trans I
inductive Rw where
 |u (f:UF)
 |s (f:SF)
abbrev pO(b o:Nat):WD:=.pointer (some ⟨b,o,none⟩)
abbrev Rw.Z(f:UF):Rw:=.s f.tS
def Rw.sf:Rw->SF
 | .u f=>f.tS
 | .s f=>f
def zR(L:List (Nat×Rw)):List (Nat×SF):=L.map fun q=>(q.1,q.2.sf)
def zAL:List (Nat×Rw)->List (Nat×KF)
 | []=> []
 |(t,.u f)::l=>(t,.u f)::zAL l
 |(_,.s _)::l=>zAL l
def wJ(b:Nat)(C:CF):SF:=⟨fun v W=>v= pO b 0/\(wB C).p v W,fun v W W' h hb=>⟨h.1,(wB C).st v W W' h.2 hb⟩⟩
def zTj:List (Nat×KF)->List (Nat×SF)
 | []=> []
 |q::l=>(q.1,q.2.sf)::zTj l
def zTk:List Bx->List (Nat×SF)
 | []=> []
 |x::l=>(x.t,wJ x.b x.c.cf)::zTk l
def zAt(K:List (Nat×KF))(B:List Bx):Nat->SF:=upd (upd zQz (zTj K)) (zTk B)
theorem zEz{a:Act}{w:WB}{G:Nat->SF}(I:∀t,(G t).p (a.tmps.getD t undef) w):∀(l:List (Nat×SF)),(∀q,q∈l->q.2.p (a.tmps.getD q.1 undef) w)->∀t,(upd G l t).p (a.tmps.getD t undef) w
 | [],_,t=>I t
 | q::l,h,t=>by
  show(bif Nat.beq q.1 t then q.2 else upd G l t).p (a.tmps.getD t undef) w
  cases e:Nat.beq q.1 t with
  |true=>
   have:=cG e
   rw[<-this]
   exact h q eN
  |false=>exact zEz I l (fun p hp=>h p (by simp[hp])) t
theorem zJx{q:Nat×SF}:∀{l:List (Nat×KF)},q∈zTj l->∃p,p∈l/\q=(p.1,p.2.sf)
 | [],h=>by cases h
 | p::l,h=>by
  rcases xX.1 h with rfl|h
  .exact⟨p,eN,rfl⟩
  .obtain⟨r,I,J⟩:=zJx h
   exact⟨r,by simp[I],J⟩
theorem zJy{q:Nat×SF}:∀{l:List Bx},q∈zTk l->∃p,p∈l/\q=(p.t,wJ p.b p.c.cf)
 | [],h=>by cases h
 | p::l,h=>by
  rcases xX.1 h with rfl|h
  .exact⟨p,eN,rfl⟩
  .obtain⟨r,I,J⟩:=zJy h
   exact⟨r,by simp[I],J⟩
theorem zAJ{q:Nat×KF}:∀{l:List (Nat×Rw)},q∈zAL l->∃f,q.2=.u f/\(q.1,Rw.u f)∈l
 | [],h=>by cases h
 | (t,.u f)::l,h=>by
  rcases xX.1 h with rfl|h
  .exact⟨f,rfl,eN⟩
  .obtain⟨g,I,J⟩:=zAJ h
   exact⟨g,I,by simp[J]⟩
 |(_,.s _)::l,h=>by
  obtain⟨g,I,J⟩:=zAJ (l:=l) h
  exact⟨g,I,by simp[J]⟩
theorem qJ.mem{S:Nat->Prop}{w0:WB}{a:Act}{w:WB}:∀{B:List Bx},qJ S w0 a w B->∀x,x∈B->∃cs:List WD,a.tmps.getD x.t undef= pO x.b 0/\(x.r=true∨w0.heap.size<=x.b∨S x.b)/\w.heap[x.b]?=some (.cells cs.toArray x.e (0,0))/\x.c.p cs w/\cs.all z9=true
 | [],_,_,h=>by cases h
 | y::B,h,x,I=>by
  rcases xX.1 I with rfl|I
  .obtain⟨cs,h1,J,h3,O,h5,_⟩:=h.1
   exact⟨cs,h1,J,h3,O,h5⟩
  .exact qJ.mem h.2 x I
theorem zAe(h:w.heap[b]?=some (.cells cs.toArray t (0,0))):Mem w b 0 cs:=fun j u hj=>by
 unfold World.cell?
 rw[h]
 simpa using hj
section
variable {S:Nat->Prop}{F:Fence}{m:Nat}{P:WG}{Q:Exit->Act->WB->Prop}{w0:WB}{K:List (Nat×KF)}{B:List Bx}{n:Nat}{ds:List Deferred}{a:Act}{w:WB}
theorem StS.kn(h:StS S w0 K B n ds a w){q:Nat×KF}(J:q∈K):q.2.sf.p (a.tmps.getD q.1 undef) w:=by
 have I:=h.sl q J
 rcases h.so with hu|hs
 .obtain⟨f,e⟩:=hu q J
  rw[e]at I ⊢
  exact I
 .exact vP I ⟨h.gr.os,h.gr.tape,h.gr.output,h.gr.size,fun k O=>h.gr.block k O (hs k)⟩
theorem StS.at(h:StS S w0 K B n ds a w):At w (zAt K B) n ds a w:=
 ⟨xF _ _,h.size,h.nd,zEz (zEz (fun _=>trivial) _ fun q I=>(by
  obtain⟨p,hp,rfl⟩:=zJx I
  exact h.kn hp)) _ fun q I=>(by
  obtain⟨p,hp,rfl⟩:=zJy I
  obtain⟨cs,J,_,h3,O,_⟩:=h.bx.mem p hp
  exact⟨J,p.b,0,cs,J,O,zAe h3⟩)⟩
theorem StS.up(h:St w0 K B n ds a w){W:WB}(I:Below w.heap.size w W):Below w0.heap.size w0 W:=(h.gr.trans I).below
def jQ(ops:Array Oper)(ts:List Nat):Bool:=ts.all fun t=>(List.range ops.size).all fun i=> !(zY ops i==some t)
theorem qJ.keep{h:Act}{w':WB}(J:Below w.heap.size w w')(I:y4 w w'):∀(B:List Bx),(∀x,x∈B->h.tmps.getD x.t undef=a.tmps.getD x.t undef)->qJ S w0 a w B->qJ S w0 h w' B
 | [],_,_=>trivial
 |x::B,hs,⟨⟨cs,h1,h2,h3,h4,h5,h6⟩,h7⟩=>
  ⟨⟨cs,by rw[hs x eN];exact h1,h2,(J.block _ (xP.1 h3).1).trans h3,x.c.us _ _ _ h4 I,h5,h6⟩,qJ.keep J I B (fun y O=>hs y (by simp[O])) h7⟩
def zAG(K:List (Nat×KF))(B:List Bx)(a:Act)(t:Nat):SF:=if t∈K.map (·.1)++B.map (·.t)then⟨fun v W=>(zAt K B t).p v W/\v=a.tmps.getD t undef,fun _ _ _ h hb=>⟨(zAt K B t).st _ _ _ h.1 hb,h.2⟩⟩else zAt K B t
def j9:List Nat->Bool
 | []=>true
 |x::l=> !l.contains x&&j9 l
theorem zCV{G:Nat->SF}{q:Nat×SF}:∀{l:List (Nat×SF)},j9 (l.map (·.1))=true->q∈l->upd G l q.1=q.2
 | [],_,h=>by cases h
 | x::l,hn,h=>by
  rw[cF,j9,xU]at hn
  show(bif Nat.beq x.1 q.1 then x.2 else upd G l q.1)=q.2
  rcases xX.1 h with rfl|h
  .simp
  .have:Nat.beq x.1 q.1=false:=by
    cases e:Nat.beq x.1 q.1 with
    |false=>rfl
    |true=>
     exfalso
     have J:=cG e
     have I:=hn.1
     rw[J,bV.2 (xG.2 ⟨q,h,rfl⟩)]at I
     cases I
   rw[this]
   exact zCV hn.2 h
def zAP(K0 K:List (Nat×KF))(B:List Bx)(a:Act)(t:Nat):SF:=if t∈K.map (·.1)++B.map (·.t)then⟨fun v W=>(zAt (K0++K) B t).p v W/\v=a.tmps.getD t undef,fun _ _ _ h hb=>⟨(zAt (K0++K) B t).st _ _ _ h.1 hb,h.2⟩⟩else zAt (K0++K) B t
theorem zEE(K0:List (Nat×KF))(k:Nat)(L:List (Nat×Rw))(h:StS S w0 (K0++K) B n ds a w){hn:Prop}{hF:Act->WB->Prop}
  (hT:∀G':Nat->SF,At w G' n ds a w->Obs F m P w ops (upd G' (zR L)) (ops.toList.take k)->(∀a' w',At w (zE1 ops k (upd G' (zR L))) n ds a' w'->hF a' w')->hn)
  (hZ:q8 ops=true)(hz:((L.map (·.1)).all fun t=>(List.range k).any fun i=>zY ops i==some t)=true)(hX:jQ ops (K.map (·.1)++B.map (·.t))=true)(hO:j9 (L.map (·.1))=true)
  (hL:Obs F m P w ops (upd (zAt (K0++K) B) (zR L)) (ops.toList.take k))
  (hG:∀a w,StS S w0 (zAL L++K) B n ds a w->(∀q,q∈zR L->q.2.p (a.tmps.getD q.1 undef) w)->hF a w):hn:=by
 have J:(zR L).map (·.1)=L.map (·.1):=by simp[zR]
 have O:∀t,t∈K.map (·.1)++B.map (·.t)->∀i,zY ops i≠some t:=fun t I i hi=>by
  have h1:=xR.1 hX t I
  obtain⟨o,ho,_⟩:=qE hi
  have h2:=xR.1 h1 i (xV.2 (xP.1 ho).1)
  rw[hi]at h2
  simp at h2
 have hv:∀t,t∈K.map (·.1)++B.map (·.t)->a.tmps.getD t undef=a.tmps.getD t undef:=fun _ _=>rfl
 -- the slots of K and B stay: a table that says so
 have hA:=h.at
 refine hT (zAP K0 K B a) ⟨hA.gr,hA.size,hA.nd,fun t=>?_⟩ ?_ fun a' w' h7=>?_
 .by_cases I:t∈K.map (·.1)++B.map (·.t)
  .unfold zAP;rw[if_pos I];exact⟨hA.sl t,rfl⟩
  .unfold zAP;rw[if_neg I];exact hA.sl t
 .-- the obligations hold with the stronger table
  have hP:∀t,t∈K.map (·.1)++B.map (·.t)->((zR L).map (·.1)).contains t=false:=fun t I=>by
   cases hc:((zR L).map (·.1)).contains t with
   |false=>rfl
   |true=>
    exfalso
    have hm:=bV.1 hc
    rw[J]at hm
    obtain⟨i,_,he⟩:=bU.1 (xR.1 hz t hm)
    exact O t I i (by simpa using he)
  have hE:∀t v W,(upd (zAP K0 K B a) (zR L) t).p v W->(upd (zAt (K0++K) B) (zR L) t).p v W:=fun t v W hh=>by
   by_cases I:t∈K.map (·.1)++B.map (·.t)
   .rw[zAu (hP t I)]at hh ⊢
    unfold zAP at hh
    rw[if_pos I]at hh
    exact hh.1
   .have:∀l:List (Nat×SF),upd (zAP K0 K B a) l t=upd (zAt (K0++K) B) l t:=fun l=>by
     induction l with
     |nil=>exact if_neg I
     |cons q l ih=>
      show(bif Nat.beq q.1 t then q.2 else upd _ l t)=(bif Nat.beq q.1 t then q.2 else upd _ l t)
      rw[ih]
    rwa [this]at hh
  have hI:∀t,(∃i,zY ops i=some t)->∀v W,(upd (zAt (K0++K) B) (zR L) t).p v W->(upd (zAP K0 K B a) (zR L) t).p v W:=fun t ⟨i,hi⟩ v W hh=>by
   have I: ¬t∈K.map (·.1)++B.map (·.t):=fun I=>O t I i hi
   have:∀l:List (Nat×SF),upd (zAP K0 K B a) l t=upd (zAt (K0++K) B) l t:=fun l=>by
    induction l with
    |nil=>exact if_neg I
    |cons q l ih=>
     show(bif Nat.beq q.1 t then q.2 else upd _ l t)=(bif Nat.beq q.1 t then q.2 else upd _ l t)
     rw[ih]
   rwa [this]
  have hC:∀(o:Oper),o∈ops.toList->qR F m P w ops (upd (zAt (K0++K) B) (zR L)) o->qR F m P w ops (upd (zAP K0 K B a) (zR L)) o:=by
   intro o ho hg
   have hy:∀d,o.dst=some d->∃i,zY ops i=some d:=fun d hd=>by
    obtain⟨i,hi⟩:=lI ho
    exact⟨i,by rw[jE (o:=o) (by simpa using hi)];exact hd⟩
   have hop:zMR F m P w (upd (zAt (K0++K) B) (zR L)) o->zMR F m P w (upd (zAP K0 K B a) (zR L)) o:=fun h1 b W K' Q' hb hr hW=>
    h1 b W K' Q' hb (fun t I=>hE t _ _ (hr t I)) fun v W' hv hR=>hW v W' (fun d hd=>hI d (hy d hd) _ _ (hv d hd)) hR
   unfold qR at hg ⊢
   cases hgd:o.guard with
   |none=>rw[hgd]at hg;exact hop hg
   |some q=>
    rw[hgd]at hg
    obtain⟨g,bv,h1,h2,h3,h4⟩:=hg
    exact⟨g,bv,h1,fun v W hh=>h2 v W (hE g v W hh),fun e=>hop (h3 e),fun e=>⟨fun d hd W=>hI d (hy d hd) _ _ ((h4 e).1 d hd W),(h4 e).2⟩⟩
  have hK:∀l:List Oper,(∀o,o∈l->o∈ops.toList)->Obs F m P w ops (upd (zAt (K0++K) B) (zR L)) l->Obs F m P w ops (upd (zAP K0 K B a) (zR L)) l:=by
   intro l
   induction l with
   |nil=>intro _ _;trivial
   |cons o l ih=>intro hm ho;exact⟨hC o (hm o eN) ho.1,ih (fun o' hU=>hm o' (by simp[hU])) ho.2⟩
  exact hK _ (fun o ho=>gA ho) hL
 .have hg:=h7.gr
  have h6:∀t,t∈K.map (·.1)++B.map (·.t)->a'.tmps.getD t undef=a.tmps.getD t undef:=fun t I=>by
   have h1:=h7.sl t
   unfold zE1 at h1
   have h2:((List.range ops.size).any fun i=>decide (k<=i)&&(zY ops i==some t))=false:=by
    refine cS.2 fun i _=>?_
    have:=O t I i
    simp[this]
   rw[h2]at h1
   have h3:((zR L).map (·.1)).contains t=false:=by
    cases hc:((zR L).map (·.1)).contains t with
    |false=>rfl
    |true=>
     exfalso
     have hm:=bV.1 hc
     rw[J]at hm
     obtain⟨i,_,he⟩:=bU.1 (xR.1 hz t hm)
     exact O t I i (by simpa using he)
   rw[show(bif false then SF.any else upd _ (zR L) t)=upd _ (zR L) t from rfl,zAu h3,zAP,if_pos I]at h1
   exact h1.2
  have hk:∀q,q∈zR L->q.2.p (a'.tmps.getD q.1 undef) w':=fun q hJ=>by
   have h1:=h7.sl q.1
   obtain⟨i,hi,he⟩:=bU.1 (xR.1 hz q.1 (by rw[<-J];exact xG.2 ⟨_,hJ,rfl⟩))
   have hik:=xV.1 hi
   have he:zY ops i=some q.1:=by simpa using he
   unfold zE1 at h1
   have h2:((List.range ops.size).any fun j=>decide (k<=j)&&(zY ops j==some q.1))=false:=by
    refine cS.2 fun j _=>?_
    by_cases hj:k<=j
    .have:zY ops j≠some q.1:=fun e=>by
      obtain⟨oi,q0,q1⟩:=qE he
      obtain⟨oj,hY,hQ⟩:=qE e
      exact jM hZ q0 hY oA q1 hQ
     simp[this]
    .simp[hj]
   rw[h2,show(bif false then SF.any else upd (zAP K0 K B a) (zR L) q.1)=upd (zAP K0 K B a) (zR L) q.1 from rfl,zCV (q:=q) (by rw[J];exact hO) hJ]at h1
   exact h1
  refine hG a' w' ⟨h.gr.trans hg,h7.size,h7.nd,fun q hq=>?_,h.bx.keep hg (zN hg) B fun x hx=>h6 _ (cR _ (xG.2 ⟨x,hx,rfl⟩)),zA3 h.mks hg,h.so.imp (fun hu q hq=>(by
   rcases uL.1 hq with hq|hq
   .obtain⟨f,e,_⟩:=zAJ hq;exact⟨f,e⟩
   .exact hu q (cR _ hq))) (fun x=>x)⟩ hk
  rcases uL.1 hq with hq|hq
  .obtain⟨f,hS,hm⟩:=zAJ hq
   have h1:=hk (q.1,f.tS) (xG.2 ⟨_,hm,rfl⟩)
   rw[hS]
   exact h1
  .rw[h6 q.1 (cK _ (xG.2 ⟨q,hq,rfl⟩))]
   exact KF.us (h.sl q (cR _ hq)) (zN hg)
theorem zFx(k:Nat)(L:List (Nat×Rw))(h:StS S w0 K B n ds a w){I:Prop}{O:Act->WB->Prop}
  (hT:∀G':Nat->SF,At w G' n ds a w->Obs F m P w ops (upd G' (zR L)) (ops.toList.take k)->(∀a' w',At w (zE1 ops k (upd G' (zR L))) n ds a' w'->O a' w')->I)
  (h2:q8 ops=true)(h1:((L.map (·.1)).all fun t=>(List.range k).any fun i=>zY ops i==some t)=true)(h3:jQ ops (K.map (·.1)++B.map (·.t))=true)(h4:j9 (L.map (·.1))=true)
  (J:Obs F m P w ops (upd (zAt K B) (zR L)) (ops.toList.take k))
  (h0:∀a w,StS S w0 (zAL L++K) B n ds a w->(∀q,q∈zR L->q.2.p (a.tmps.getD q.1 undef) w)->O a w):I:=
 zEE [] k L h hT h2 h1 h3 h4 J h0
theorem zLd(k:Nat)(L:List (Nat×Rw))(hmix:P.follows .mixedOrders=true)(h:StS S w0 K B n ds a w)
  (I:zBi ops draw k n (L.map (·.1))=true)(h4:jQ ops (K.map (·.1)++B.map (·.t))=true)(h3:j9 (L.map (·.1))=true)
  (O:Obs F m P w ops (upd (zAt K B) (zR L)) (ops.toList.take k))
  (h1:∀a w,StS S w0 (zAL L++K) B n ds a w->wpOpsIn F m P ops Q (List.range' k (ops.size-k)) a w):(Code.region id ops draw).wpIn F m P Q a w:=by
 have J:(zR L).map (·.1)=L.map (·.1):=by simp[zR]
 have h0:=I
 unfold zBi at h0
 simp only[xU]at h0
 exact zFx k L h (fun G' hA hO hF=>zEQ k (zR L) hmix (by rw[J];exact I) hA hO hF) h0.1.1.1.1.1.1 h0.1.1.2 h4 h3 O (fun a w h _=>h1 a w h)
def zBj(F:Fence)(m:Nat)(P:WG)(ops:Array Oper)(Q:Exit->Act->WB->Prop)(k:Nat)(a:Act)(w:WB):Prop:=wpOpsIn F m P ops Q (List.range' k (ops.size-k)) a w
theorem zHc(k:Nat)(L:List (Nat×Rw))(hmix:P.follows .mixedOrders=true)(h:StS S w0 K B n ds a w)
  (I:(zBi ops draw k n (L.map (·.1))&&jQ ops (K.map (·.1)++B.map (·.t))&&j9 (L.map (·.1)))=true)
  (J:Obs F m P w ops (upd (zAt K B) (zR L)) (ops.toList.take k))
  (O:∀a w,StS S w0 (zAL L++K) B n ds a w->zBj F m P ops Q k a w):(Code.region id ops draw).wpIn F m P Q a w:=by
 simp only[xU]at I
 exact zLd k L hmix h I.1.1 I.1.2 I.2 J O
theorem zFB(k:Nat)(L:List (Nat×Rw))(hmix:P.follows .mixedOrders=true)(h:StS S w0 K B n ds a w)
  (I:(zBi ops draw k n (L.map (·.1))&&jQ ops (K.map (·.1)++B.map (·.t))&&j9 (L.map (·.1)))=true)
  (O:Obs F m P w ops (upd (zAt K B) (zR L)) (ops.toList.take k))
  (h1:∀a w,StS S w0 (zAL L++K) B n ds a w->(∀q,q∈zR L->q.2.p (a.tmps.getD q.1 undef) w)->zBj F m P ops Q k a w):(Code.region id ops draw).wpIn F m P Q a w:=by
 simp only[xU]at I
 have J:(zR L).map (·.1)=L.map (·.1):=by simp[zR]
 have h0:=I.1.1
 unfold zBi at h0
 simp only[xU]at h0
 exact zFx k L h (fun G' hA hO hF=>zEQ k (zR L) hmix (by rw[J];exact I.1.1) hA hO hF) h0.1.1.1.1.1.1 h0.1.1.2 I.1.2 I.2 O h1
theorem zF(I:ops.size=k)(h:Q .normal a w):zBj F m P ops Q k a w:=by
 unfold zBj
 rw[I,Nat.sub_self]
 exact h
theorem rgE(L:List (Nat×Rw))(h:StS S w0 K B n ds a w)(I:Obs F m P w ops (upd (zAt K B) (zR L)) (ops.toList.take ops.size))(O:∀a w,StS S w0 (zAL L++K) B n ds a w->Q .normal a w)(hmix:P.follows .mixedOrders=true:=by kernel_rfl)
  (J:(zBi ops draw ops.size n (L.map (·.1))&&jQ ops (K.map (·.1)++B.map (·.t))&&j9 (L.map (·.1)))=true:=by kernel_rfl):(Code.region id ops draw).wpIn F m P Q a w:=
 zHc ops.size L hmix h J I fun a w s=>zF rfl (O a w s)
theorem rgQ{y:Code}(L:List (Nat×Rw))(h:StS S w0 K B n ds a w)(I:Obs F m P w ops (upd (zAt K B) (zR L)) (ops.toList.take ops.size))(O:∀a w,StS S w0 (zAL L++K) B n ds a w->y.wpIn F m P Q a w)(hmix:P.follows .mixedOrders=true:=by kernel_rfl)
  (J:(zBi ops draw ops.size n (L.map (·.1))&&jQ ops (K.map (·.1)++B.map (·.t))&&j9 (L.map (·.1)))=true:=by kernel_rfl):(Code.seq (Code.region id ops draw) y).wpIn F m P Q a w:=
 fK (rgE L h I O hmix J)
theorem rgK(k:Nat)(L:List (Nat×Rw))(h:StS S w0 K B n ds a w)(I:Obs F m P w ops (upd (zAt K B) (zR L)) (ops.toList.take k))(O:∀a w,StS S w0 (zAL L++K) B n ds a w->zBj F m P ops Q k a w)(hmix:P.follows .mixedOrders=true:=by kernel_rfl)
  (J:(zBi ops draw k n (L.map (·.1))&&jQ ops (K.map (·.1)++B.map (·.t))&&j9 (L.map (·.1)))=true:=by kernel_rfl):(Code.region id ops draw).wpIn F m P Q a w:=
 zHc k L hmix h J I O
theorem rgN(L:List (Nat×Rw))(h:StS S w0 K B n ds a w)(I:Obs F m P w ops (upd (zAt K B) (zR L)) (ops.toList.take ops.size))(O:∀a w,StS S w0 (zAL L++K) B n ds a w->(∀q,q∈zR L->q.2.p (a.tmps.getD q.1 undef) w)->Q .normal a w)(hmix:P.follows .mixedOrders=true:=by kernel_rfl)
  (J:(zBi ops draw ops.size n (L.map (·.1))&&jQ ops (K.map (·.1)++B.map (·.t))&&j9 (L.map (·.1)))=true:=by kernel_rfl):(Code.region id ops draw).wpIn F m P Q a w:=
 zFB ops.size L hmix h J I fun a w s hr=>zF rfl (O a w s hr)
theorem rgL(k:Nat)(L:List (Nat×Rw))(h:StS S w0 K B n ds a w)(I:Obs F m P w ops (upd (zAt K B) (zR L)) (ops.toList.take k))(O:∀a w,StS S w0 (zAL L++K) B n ds a w->(∀q,q∈zR L->q.2.p (a.tmps.getD q.1 undef) w)->zBj F m P ops Q k a w)(hmix:P.follows .mixedOrders=true:=by kernel_rfl)
  (J:(zBi ops draw k n (L.map (·.1))&&jQ ops (K.map (·.1)++B.map (·.t))&&j9 (L.map (·.1)))=true:=by kernel_rfl):(Code.region id ops draw).wpIn F m P Q a w:=
 zFB k L hmix h J I O
theorem zAO{o:Oper}(I:ops[k]?=some o)(O:o.guard=none)(h:o.wpIn F m P a w (zBj F m P ops Q (k+1)) Q):zBj F m P ops Q k a w:=by
 have hlt:=(xP.1 I).1
 unfold zBj
 rw[show ops.size-k=(ops.size-(k+1))+1 from oA,eD,eL]
 unfold wpOpIn
 rw[I]
 have J:Region.wanted o (yielded ops a.tmps)=true:=by unfold Region.wanted;rw[O]
 show(if Region.wanted o (yielded ops a.tmps)=true then _ else _)
 rw[if_pos J]
 exact h
theorem StS.fct(h:StS S w0 K B n ds a w)(x:WK):(fct (zAt K B) x).p (a.eval x) w:=by
 cases x with
 |tmp t=>exact h.at.sl t
 |const v=>rfl
 |func f=>rfl
 |global g=>rfl
def zAw(K:List (Nat×KF))(B:List Bx)(n d:Nat):Bool:= !(K.map (·.1)++B.map (·.t)).contains d&&decide (d<n)
theorem jL(hd:d<a.tmps.size)(v:WD):(a.put (some d) v).tmps.getD d undef=v:=by
 show(a.tmps.setIfInBounds d v).getD d undef=v
 rw[xS,cQ hd]
 rfl
theorem zAf{t:Nat}(hd:d≠t)(v:WD):(a.put (some d) v).tmps.getD t undef=a.tmps.getD t undef:=zBB hd
theorem zCL{t:Nat}(hf:zAw K B n d=true)(h:t∈K.map (·.1)++B.map (·.t)):d≠t:=fun e=>by
 subst e
 unfold zAw at hf
 rw[bV.2 h]at hf
 cases hf
theorem zGD(hf:zAw K B n d=true):d<n:=by
 unfold zAw at hf
 simp only[xU,bE]at hf
 exact hf.2
theorem StS.set(h:StS S w0 K B n ds a w){d:Nat}{v:WD}(hf:zAw K B n d=true){w':WB}(J:Below w.heap.size w w'){f:UF}(O:f.p v w'):StS S w0 ((d,.u f)::K) B n ds (a.put (some d) v) w':=by
 refine⟨h.gr.trans J,by rw[zBZ];exact h.size,by rw[zA5];exact h.nd,fun q I=>?_,h.bx.keep J (zN J) B fun x hx=>zAf (zCL hf (cR _ (xG.2 ⟨x,hx,rfl⟩))) v,zA3 h.mks J,h.so.imp (fun hu q I=>(by
  rcases xX.1 I with rfl|I
  .exact⟨f,rfl⟩
  .exact hu q I)) (fun x=>x)⟩
 rcases xX.1 I with rfl|I
 .rw[jL (by rw[h.size];exact zGD hf)]
  exact O
 .rw[zAf (zCL hf (cK _ (xG.2 ⟨q,I,rfl⟩)))]
  exact KF.us (h.sl q I) (zN J)
theorem StS.lay(h:StS S w0 K B n ds a w){d:Nat}{e:WE}{cs:List WD}(hf:zAw K B n d=true){C:CU}(hc:C.p cs w)(hn:cs.all z9=true):StS S w0 K (⟨d,e,C,w.heap.size,false⟩::B) n ds (a.put (some d) (pO w.heap.size 0)) (w.alloc (.cells cs.toArray e (0,0))):=by
 have I:=j5 w (.cells cs.toArray e (0,0))
 have J:∀x,x∈B->(a.put (some d) (pO w.heap.size 0)).tmps.getD x.t undef=a.tmps.getD x.t undef:=fun x hx=>zAf (zCL hf (cR _ (xG.2 ⟨x,hx,rfl⟩))) _
 refine⟨h.gr.trans I,by rw[zBZ];exact h.size,by rw[zA5];exact h.nd,fun q O=>?_,⟨⟨cs,jL (by rw[h.size];exact zGD hf) _,.inr (.inl h.gr.size),bT w _,C.us _ _ _ hc (zN I),hn,fun y hy=>?_⟩,h.bx.keep I (zN I) B J⟩,zA3 h.mks I,h.so⟩
 .rw[zAf (zCL hf (cK _ (xG.2 ⟨q,O,rfl⟩)))]
  exact KF.us (h.sl q O) (zN I)
 .obtain⟨_,_,_,h3,_⟩:=h.bx.mem y hy
  have:=(xP.1 h3).1
  left
  show y.b≠w.heap.size
  omega
theorem yN(f:UF)(I:ops[k]?=some ⟨some d,.assign x,ty,pos,aft,none⟩)(h:StS S w0 K B n ds a w)(hf:zAw K B n d=true)(J:∀v W,(Wd.fct (zAt K B) x).p v W->f.p v W)
  (fin:∀a w,StS S w0 ((d,.u f)::K) B n ds a w->zBj F m P ops Q (k+1) a w):zBj F m P ops Q k a w:=
 zAO I rfl (zBI (fun _ e=>by cases e) (fun _ e=>by cases e) (W':=w) (v:=a.eval x) rfl (fin _ _ (h.set hf (xF _ _) (J _ _ (h.fct x)))))
theorem zAZ(C:CU)(J:ops[k]?=some ⟨some d,.box e x,ty,pos,aft,none⟩)(h:StS S w0 K B n ds a w)(hf:zAw K B n d=true)(O:∀v W,(Wd.fct (zAt K B) x).p v W->C.p v.cells.toList W/\v.cells.toList.all z9=true)
  (fin:∀b a w,StS S w0 K (⟨d,e,C,b,false⟩::B) n ds a w->zBj F m P ops Q (k+1) a w):zBj F m P ops Q k a w:=
 zAO J rfl (zBI (fun _ e=>by cases e) (fun _ e=>by cases e) (W':=w.alloc (.cells (a.eval x).cells e (0,0))) (v:= pO w.heap.size 0) (by simp[execOp,Instr.box,newVar,newRow]) (by
  have I:=O _ _ (h.fct x)
  have:=h.lay (e:=e) hf I.1 I.2
  rw[fW]at this
  exact fin _ _ _ this))
theorem yP(C:CU){cs:List WD}(hz:zeroCells P e=some cs)(O:ops[k]?=some ⟨some d,.alloc e,ty,pos,aft,none⟩)(h:StS S w0 K B n ds a w)(hf:zAw K B n d=true)(hx:∀W,C.p cs W)(J:cs.all z9=true)
  (fin:∀b a w,StS S w0 K (⟨d,e,C,b,false⟩::B) n ds a w->zBj F m P ops Q (k+1) a w):zBj F m P ops Q k a w:=by
 have I:(Instr.alloc e true (.tuple #[])).run P w=.ok (pO w.heap.size 0) (w.alloc (.cells cs.toArray e (0,0))):=by
  unfold zeroCells at hz
  cases hi:P.info? e with
  |none=>rw[hi]at hz;cases hz
  | some i=>
   rw[hi]at hz
   simp only[lG]at hz
   cases hzz:i.zero with
   |none=>rw[hzz]at hz;cases hz
   |some z=>
    rw[hzz]at hz
    simp only[fO,fP]at hz
    subst hz
    simp[Instr.alloc,zeroValue,typeInfo,hi,hzz,newVar,newRow]
 exact zAO O rfl (zBI (fun _ e=>by cases e) (fun _ e=>by cases e) (W':=w.alloc (.cells cs.toArray e (0,0))) (v:= pO w.heap.size 0) (by simp[execOp,I]) (fin _ _ _ (h.lay hf (hx _) J)))
def zF3:List Bx->Nat->CU->List Bx
 | [],_,_=> []
 |x::B,c,C=>bif Nat.beq x.t c then⟨x.t,x.e,C,x.b,x.r⟩::B else x::zF3 B c C
theorem zO0:∀(B:List Bx) (c:Nat) (C:CU),(zF3 B c C).map (fun x=>(x.b,x.r))=B.map (fun x=>(x.b,x.r))
 | [],_,_=>rfl
 |x::B,c,C=>by
  unfold zF3
  cases Nat.beq x.t c with
  |true=>rfl
  |false=>simp[zO0 B c C]
theorem qJ.turn{w':WB}{c:Nat}{vs:List WD}{C:CU}{x:Bx}(J:x.r=false)(hc:C.p vs w')(hn:vs.all z9=true)(h0:w'.heap[x.b]?=some (.cells vs.toArray x.e (0,0)))(ho:∀k,k<w.heap.size->k≠x.b->w'.heap[k]?=w.heap[k]?)(hk:y4 w w'):∀(B:List Bx),qJ S w0 a w B->x∈B->x.t=c->(∀y,y∈B->y.t=c->y=x)->qJ S w0 a w' (zF3 B c C)
 | [],_,h,_,_=>by cases h
 | y::B,⟨⟨cs,h1,h2,h3,h4,h5,h6⟩,h7⟩,hx,hxc,hu=>by
  unfold zF3
  cases e:Nat.beq y.t c with
  | true=>
   have e2:=cG e
   obtain rfl:y=x:=hu y eN e2
   refine⟨⟨vs,h1,h2,h0,hc,hn,h6⟩,?_⟩
   have:∀B:List Bx,qJ S w0 a w B->(∀z,z∈B->z.b≠y.b∨(y.r=true/\z.r=true))->qJ S w0 a w' B:=by
    intro B
    induction B with
    |nil=>intro _ _;trivial
    |cons z B ih=>
     intro hB O
     obtain⟨⟨c2,g1,g2,g3,g4,g5,g6⟩,g7⟩:=hB
     exact⟨⟨c2,g1,g2,(ho _ (xP.1 g3).1 ((O z eN).resolve_right (fun e=>by rw[J]at e;cases e.1))).trans g3,z.c.us _ _ _ g4 hk,g5,g6⟩,ih g7 fun z' I=>O z' (by simp[I])⟩
   exact this B h7 h6
  | false=>
   have h8:x∈B:=by
    rcases xX.1 hx with rfl|hx
    .rw[hxc]at e;simp at e
    .exact hx
   refine⟨⟨cs,h1,h2,(ho _ (xP.1 h3).1 (fun e'=>((h6 x h8).resolve_right (fun e=>by rw[J]at e;cases e.2)) e'.symm)).trans h3,y.c.us _ _ _ h4 hk,h5,fun z O=>?_⟩,qJ.turn J hc hn h0 ho hk B h7 h8 hxc fun z O=>hu z (by simp[O])⟩
   have ha:(z.b,z.r)∈B.map (fun x=>(x.b,x.r)):=by rw[<-zO0 B c C];exact xG.2 ⟨z,O,rfl⟩
   obtain⟨z',I,e3⟩:=xG.1 ha
   injection e3 with e3 e4
   rw[<-e3,<-e4]
   exact h6 z' I
def zHF:List Bx->Nat->Option Bx
 | [],_=>none
 |x::B,c=>bif Nat.beq x.t c then some x else zHF B c
theorem zBo:∀{B:List Bx} {c:Nat} {x:Bx},zHF B c=some x->x∈B/\x.t=c
 | [],_,_,h=>by cases h
 | y::B,c,x,h=>by
  unfold zHF at h
  cases e:Nat.beq y.t c with
  |true=>
   rw[e]at h
   obtain rfl:y=x:=by injection h
   exact⟨eN,cG e⟩
  |false=>
   rw[e]at h
   obtain⟨I,J⟩:=zBo h
   exact⟨by simp[I],J⟩
theorem qJ.one{c:Nat}{x y:Bx}(J:x.r=false):∀{B:List Bx},qJ S w0 a w B->x∈B->y∈B->x.t=c->y.t=c->y=x
 | [],_,h,_,_,_=>by cases h
 | z::B,⟨⟨cs,h1,h2,h3,h4,h5,h6⟩,h7⟩,hx,O,hxc,hyc=>by
  have h8:∀q,q∈B->q.t=z.t->(z.r=false∨q.r=false)->False:=fun q hq e hr=>by
   obtain⟨_,I,_⟩:=qJ.mem h7 q hq
   rw[e,h1]at I
   injection I with I
   injection I with I
   injection I with I
   rcases h6 q hq with g|g
   .exact g I.symm
   .rcases hr with hr|hr
    .rw[hr]at g;cases g.1
    .rw[hr]at g;cases g.2
  rcases xX.1 hx with e1|hx
  .rcases xX.1 O with e2|O
   .rw[e1,e2]
   .exact(h8 y O (by rw[hyc,<-hxc,e1]) (.inl (by rw[<-e1];exact J))).elim
  .rcases xX.1 O with e2|O
   .exact(h8 x hx (by rw[hxc,<-hyc,e2]) (.inr J)).elim
   .exact qJ.one J h7 hx O hxc hyc
theorem StS.turn(h:StS S w0 K B n ds a w){c:Nat}{x:Bx}(hB:zHF B c=some x)(J:x.r=false){w':WB}{vs:List WD}{C:CU}(hg:w.grownBy w' (some x.b))(h7:w'.heap[x.b]?=some (.cells vs.toArray x.e (0,0)))(hc:C.p vs w')(hn:vs.all z9=true):StS S w0 K (zF3 B c C) n ds a w':=by
 obtain⟨hx,O⟩:=zBo hB
 obtain⟨cs,h1,h2,h3,h4,h5⟩:=h.bx.mem x hx
 have hk:y4 w w':=fun q u I=>by
  have ha:=xJ w _ I
  by_cases e:q.block=x.b
  .exfalso
   have h6:w.cell? q=if q.spot.isSome then none else cs.toArray[q.off]?:=by
    unfold World.cell?
    rw[e,h3]
   rw[h6]at I
   split at I
   .cases I
   .have:=xR.1 h5 _ (lJ (by simpa using I))
    cases this
  .exact(bO (hg.block _ ha (fun e'=>e (fM e')))).trans I
 exact⟨h.gr.grown hg (h2.resolve_left (by rw[J];decide)),h.size,h.nd,fun q I=>KF.us (h.sl q I) hk,h.bx.turn J hc hn h7 (fun k hd h8=>hg.block k hd (fun e=>h8 (fM e))) hk B hx O fun y hy h9=>qJ.one J h.bx hx hy O h9,zIo h.mks hg h3,h.so⟩
theorem zDl(w:WB)(b:Nat)(vs:Array WD):w.grownBy (w.setRow b vs) (some b):=⟨rfl,rfl,rfl,by rw[size_setRow];exact vR _,fun k _ h=>setRow_other w b k vs (fun e=>h (by rw[e]))⟩
theorem zBs(C:CU)(f:SF)(ho:ops[k]?=some ⟨none,.store t (.tmp c) x,ty,pos,aft,none⟩)(h:StS S w0 K B n ds a w)(I:zAj P t=some kk){y:Bx}(hB:zHF B c=some y)(h6:y.r=false)(h7:y.e=t)(h8:∀cs W,y.c.p cs W->cs.length=kk)
  (hx:∀v W,(Wd.fct (zAt K B) x).p v W->f.p v W)(hv:∀v W,f.p v W->∃vs:List WD,v=.agg vs.toArray/\vs.length=kk/\(∀u,u∈vs->u.oneCell'=true)/\vs.all z9=true/\C.p vs W)
  (fin:∀a w,StS S w0 K (zF3 B c C) n ds a w->zBj F m P ops Q (k+1) a w):zBj F m P ops Q k a w:=by
 obtain⟨hy,h0⟩:=zBo hB
 obtain⟨cs,h1,h2,O,h4,h5⟩:=h.bx.mem y hy
 obtain⟨vs,e,hl,h9,J,hC⟩:=hv _ _ (hx _ _ (h.fct x))
 rw[h0]at h1
 have hk:y4 w (w.setRow y.b vs.toArray):=zDO O (by simpa using h5)
 exact zAO ho rfl (zNS I h7 (h8 _ _ h4) h1 O e hl h9 (fin _ _ (h.turn hB h6 (zDl w y.b vs.toArray) (fX w y.b cs.toArray vs.toArray y.e (0,0) O) (C.us _ _ _ hC hk) J)))
theorem yI(f:UF)(ho:ops[k]?=some ⟨none,.store t (.tmp c) x,ty,pos,aft,none⟩)(h:StS S w0 K B n ds a w){y:Bx}(hv:∀v W,f.p v W->∃vs:List WD,v=.agg vs.toArray/\vs.length=kk/\(∀u,u∈vs->u.oneCell'=true)/\vs.all z9=true/\(CU.agg f).p vs W)(fin:∀a w,StS S w0 K (zF3 B c (CU.agg f)) n ds a w->zBj F m P ops Q (k+1) a w)(J:zAj P t=some kk:=by kernel_rfl)(hB:zHF B c=some y:=by rfl)(O:y.r=false:=by rfl)(h0:y.e=t:=by rfl)(I:∀cs W,y.c.p cs W->cs.length=kk:=by exact fun _ _ h=>h)(hx:∀v W,(Wd.fct (zAt K B) x).p v W->f.tS.p v W:=by exact fun _ _ h=>h):zBj F m P ops Q k a w:=zBs (CU.agg f) f.tS ho h J hB O h0 I hx hv fin
theorem zBD(f:UF)(ho:ops[k]?=some ⟨some d,op,ty,pos,aft,none⟩)(h:StS S w0 K B n ds a w)(hf:zAw K B n d=true)(J:qR F m P w ops (upd (zAt K B) [(d,f.tS)]) ⟨some d,op,ty,pos,aft,none⟩)
  (I:(zCY ⟨some d,op,ty,pos,aft,none⟩).contains d=false)(fin:∀a w,StS S w0 ((d,.u f)::K) B n ds a w->zBj F m P ops Q (k+1) a w):zBj F m P ops Q k a w:=by
 refine zAO ho rfl (J a w _ Q (xF _ _) (fun t ht=>?_) fun v W' hv hb=>fin _ _ (h.set hf hb ?_))
 .have O:Nat.beq d t=false:=by
   cases e:Nat.beq d t with
   |false=>rfl
   |true=>
    have:=cG e
    subst this
    rw[bV.2 ht]at I
    cases I
  show(bif Nat.beq d t then f.tS else zAt K B t).p _ _
  rw[O]
  exact h.at.sl t
 .have:=hv d rfl
  have e:(upd (zAt K B) [(d,f.tS)]) d=f.tS:=by
   show(bif Nat.beq d d then f.tS else _)=_
   rw[show Nat.beq d d=true from fY d]
   rfl
  rw[e]at this
  exact this
theorem zBK{b:Nat}:∀(vs:List WD) (o i:Nat),storeCells ⟨b,o,none⟩ vs i=storeCells ⟨b,0,none⟩ vs (o+i)
 | [],_,_=>rfl
 |v::vs,o,i=>by
  unfold storeCells
  rw[zBK vs o (i+1),xH,xH,uK,uV]
def j7(cs:List WD)(o:Nat)(vs:List WD):List WD:=cs.take o++vs++cs.drop (o+vs.length)
theorem zAQ{b:Nat}{t:WE}:∀(vs:List WD) (i:Nat) (cs:List WD) (w:WB),w.heap[b]?=some (.cells cs.toArray t (0,0))->i+vs.length<=cs.length->(∀v,v∈vs->v.oneCell'=true)->
  (storeCells ⟨b,0,none⟩ vs i).run P w=.ok () (w.setRow b (j7 cs i vs).toArray)
 | [],i,cs,w,hg,hl,_=>by
  have:j7 cs i []=cs:=by unfold j7;simp
  rw[this]
  unfold storeCells
  rw[setRow_self w b _ t (0,0) hg]
  rfl
 | v::vs,i,cs,w,hg,hl,J=>by
  simp only[fN]at hl
  unfold storeCells
  have h:w.cell? ⟨b,i,none⟩=some cs[i]:=by
   unfold World.cell?
   rw[hg]
   simp[fL (oA:i<cs.length)]
  have h3:w.frozen? ⟨b,i,none⟩=false:=by simp[World.frozen?,hg]
  have hs:(store ⟨b,i,none⟩ v).run P w=.ok () (w.setCell ⟨b,i,none⟩ v):=by
   rw[run_store _ _ _ _ _ (J v eN),h]
   simp[h3]
  rw[xH,uK]
  simp only[bW,hs,cN]
  have I:w.setCell ⟨b,i,none⟩ v=w.setRow b (cs.set i v).toArray:=by
   have O:b<w.heap.size:=(xP.1 hg).1
   have hv:w.heap[b]=.cells cs.toArray t (0,0):=(xP.1 hg).2
   unfold World.setCell World.setRow
   congr 1
   refine cV eN fun j J h2=>?_
   by_cases e:j=b
   .subst e
    simp[lB,hv]
   .simp[lB,xY e]
  rw[I]
  have h0:=fX w b cs.toArray (cs.set i v).toArray t (0,0) hg
  rw[zAQ vs (i+1) (cs.set i v) _ h0 (by rw[uC];omega) (fun u hu=>J u (by simp[hu]))]
  congr 1
  have e1:j7 (cs.set i v) (i+1) vs=j7 cs i (v::vs):=by
   unfold j7
   rw[List.take_set,fT oA,lC _ _ sB]
   have:i-(List.take i cs).length=0:=sB
   rw[this,List.drop_set_of_lt oA]
   simp[gL,Nat.add_left_comm]
  rw[e1]
  have O:b<w.heap.size:=(xP.1 hg).1
  have hv:w.heap[b]=.cells cs.toArray t (0,0):=(xP.1 hg).2
  unfold World.setRow
  congr 1
  refine cV eN fun j J h2=>?_
  by_cases e:j=b
  .subst e
   simp[lB,hv]
  .simp[lB,xY e]
def zFS(P:WG)(t:WE):Option Nat:=(P.info? t).map (·.size)
theorem zCB{o:Nat}(C:CU)(f:SF)(ho:ops[k]?=some ⟨none,.store t x y,ty,pos,aft,none⟩)(h:StS S w0 K B n ds a w)(I:zFS P t=some kk){z:Bx}(hB:zHF B c=some z)(h7:z.r=false)
  (hp:∀v W,(Wd.fct (zAt K B) x).p v W->v= pO z.b o)(hy:∀v W,(Wd.fct (zAt K B) y).p v W->f.p v W)
  (hv:∀v W,f.p v W->v.cells.size=kk/\(∀u,u∈v.cells.toList->u.oneCell'=true)/\v.cells.toList.all z9=true/\∀cs,z.c.p cs W->o+kk<=cs.length/\C.p (j7 cs o v.cells.toList) W)
  (fin:∀a w,StS S w0 K (zF3 B c C) n ds a w->zBj F m P ops Q (k+1) a w):zBj F m P ops Q k a w:=by
 obtain⟨hz,hzc⟩:=zBo hB
 obtain⟨cs,h1,h2,h3,h4,O⟩:=h.bx.mem z hz
 have e1:=hp _ _ (h.fct x)
 obtain⟨g1,g2,g3,g4⟩:=hv _ _ (hy _ _ (h.fct y))
 obtain⟨g5,g6⟩:=g4 cs h4
 have hk:y4 w (w.setRow z.b (j7 cs o (a.eval y).cells.toList).toArray):=zDO h3 (by simpa using O)
 have J:(execOp a.eval ⟨none,.store t x y,ty,pos,aft,none⟩).run P w=.ok .skip (w.setRow z.b (j7 cs o (a.eval y).cells.toList).toArray):=by
  unfold zFS at I
  cases hi:P.info? t with
  |none=>rw[hi]at I;cases I
  |some i=>
   rw[hi]at I
   simp only[fO,fP]at I
   have hr:=zAQ (P:=P) (a.eval y).cells.toList o cs w h3 sB g2
   have hs:=zBK (b:=z.b) (a.eval y).cells.toList o 0
   rw[uM]at hs
   simp[execOp,Instr.storeAt,Instr.sureAddr,e1,storeVar,sizeOf,typeInfo,hi,I,g1,hs,hr]
 refine zAO ho rfl ⟨fun f hf=>(by cases hf),?_⟩
 rw[bG _ _ _ (fun _ e=>by cases e),J]
 refine fin _ _ (h.turn hB h7 (zDl w z.b _) (fX w z.b cs.toArray _ z.e (0,0) h3) (C.us _ _ _ g6 hk) ?_)
 unfold j7
 simp only[lD,xU]
 refine⟨⟨xR.2 fun u hu=>xR.1 O u (gA hu),g3⟩,xR.2 fun u hu=>xR.1 O u (gP hu)⟩
def zMX(W:WB)(b:Nat)(te:WE)(C:CU)(f:SF):Ending->WB->Prop:=fun e W'=>∃v,e=.returned v/\f.p v W'/\W.grownBy W' (some b)/\∃cs:List WD,W'.heap[b]?=some (.cells cs.toArray te (0,0))/\C.p cs W'/\cs.all z9=true
theorem zPK(C:CU)(g:UF)(ho:ops[k]?=some ⟨some d,.call ⟨.value (.func f),xs,ats⟩,ty,pos,aft,none⟩)(hF:zHT F m P)(O:Enters P f)(h:StS S w0 K B n ds a w)(hf:zAw K B n d=true){z:Bx}(hB:zHF B c=some z)(J:z.r=false)
  (hc:∀cs,w.heap[z.b]?=some (.cells cs.toArray z.e (0,0))->z.c.p cs w->cs.all z9=true->(∀x,x∈xs.toList->(Wd.fct (zAt K B) x).p (a.eval x) w)->Calls P f (xs.map a.eval) w (zMX w z.b z.e C g.tS))
  (fin:∀a w,StS S w0 ((d,.u g)::K) (zF3 B c C) n ds a w->zBj F m P ops Q (k+1) a w):zBj F m P ops Q k a w:=by
 obtain⟨hz,hzc⟩:=zBo hB
 obtain⟨cs,h1,h2,h3,h4,h5⟩:=h.bx.mem z hz
 have h0:=hc cs h3 h4 h5 fun x _=>h.fct x
 refine zAO ho rfl ⟨fun g _=>hF.1 g,?_⟩
 rw[bG _ _ _ (fun _ e=>by cases e),execOp_call_go,O]
 simp only[fV]
 refine⟨hF.2.1,bC (hF.2.2 _ _ _ (zMX w z.b z.e C g.tS) (by simpa using h0)) fun e W' O=>?_⟩
 obtain⟨v,rfl,hv,hg,cs',hh,hC,hn⟩:=O
 have s1:=h.turn hB J hg hh hC hn
 have h6:zAw K (zF3 B c C) n d=true:=by
  have:(zF3 B c C).map (·.t)=B.map (·.t):=by
   have I:∀B:List Bx,(zF3 B c C).map (·.t)=B.map (·.t):=fun B=>by
    induction B with
    |nil=>rfl
    |cons x B ih=>
     unfold zF3
     cases Nat.beq x.t c with
     |true=>rfl
     |false=>simp[ih]
   exact I B
  unfold zAw at hf ⊢
  rw[this]
  exact hf
 exact fin _ _ (s1.set h6 (xF _ _) hv)
theorem zIP(C:CU)(g:UF)(ho:ops[k]?=some ⟨some d,.call ⟨.value (.func f),#[x],ats⟩,ty,pos,aft,none⟩)(hF:zHT F m P)(he:Enters P f)(h:StS S w0 K B n ds a w)(hf:zAw K B n d=true){z:Bx}(hB:zHF B c=some z)(I:z.r=false)
  (hp:∀v W,(Wd.fct (zAt K B) x).p v W->v= pO z.b 0)
  (hc:∀cs:List WD,w.heap[z.b]?=some (.cells cs.toArray z.e (0,0))->z.c.p cs w->Calls P f #[pO z.b 0] w (zMX w z.b z.e C g.tS))
  (fin:∀a w,StS S w0 ((d,.u g)::K) (zF3 B c C) n ds a w->zBj F m P ops Q (k+1) a w):zBj F m P ops Q k a w:=
 zPK C g ho hF he h hf hB I (fun cs h1 J _ O=>by
  have e:=hp _ _ (O x eN)
  have:=hc cs h1 J
  rw[<-e]at this
  simpa using this) fin
def zRd:List Bx->Nat->Nat->List Bx
 | [],_,_=> []
 |x::B,c,d=>bif Nat.beq x.t c then⟨d,x.e,x.c,x.b,x.r⟩::B else x::zRd B c d
theorem zO3:∀(B:List Bx) (c d:Nat),(zRd B c d).map (fun x=>(x.b,x.r))=B.map (fun x=>(x.b,x.r))
 | [],_,_=>rfl
 |x::B,c,d=>by
  unfold zRd
  cases Nat.beq x.t c with
  |true=>rfl
  |false=>simp[zO3 B c d]
theorem qJ.ren{c d:Nat}{J:Act}(hs:∀x,x∈B->J.tmps.getD x.t undef=a.tmps.getD x.t undef)(hd:J.tmps.getD d undef=a.tmps.getD c undef):∀(l:List Bx),(∀x,x∈l->x∈B)->qJ S w0 a w l->qJ S w0 J w (zRd l c d)
 | [],_,_=>trivial
 | x::l,hl,⟨⟨cs,h1,h2,h3,h4,h5,h6⟩,h7⟩=>by
  have I:qJ S w0 J w l:=qJ.keep (xF _ _) (fun _ _ h=>h) l (fun y O=>hs y (hl y (by simp[O]))) h7
  unfold zRd
  cases e:Nat.beq x.t c with
  |true=>
   have e2:=cG e
   exact⟨⟨cs,by show J.tmps.getD d undef=_;rw[hd,<-e2];exact h1,h2,h3,h4,h5,h6⟩,I⟩
  |false=>
   refine⟨⟨cs,by rw[hs x (hl x eN)];exact h1,h2,h3,h4,h5,fun y O=>?_⟩,qJ.ren hs hd l (fun y O=>hl y (by simp[O])) h7⟩
   have h8:(y.b,y.r)∈l.map (fun x=>(x.b,x.r)):=by rw[<-zO3 l c d];exact xG.2 ⟨y,O,rfl⟩
   obtain⟨z,hz,e3⟩:=xG.1 h8
   injection e3 with e3 e4
   rw[<-e3,<-e4]
   exact h6 z hz
theorem zSQ(O:ops[k]?=some ⟨some d,.assign (.tmp c),ty,pos,aft,none⟩)(h:StS S w0 K B n ds a w)(hf:zAw K B n d=true)
  (fin:∀a w,StS S w0 K (zRd B c d) n ds a w->zBj F m P ops Q (k+1) a w):zBj F m P ops Q k a w:=by
 refine zAO O rfl (zBI (fun _ e=>by cases e) (fun _ e=>by cases e) (W':=w) (v:=a.tmps.getD c undef) rfl (fin _ _ ⟨h.gr,by rw[zBZ];exact h.size,by rw[zA5];exact h.nd,fun q J=>?_,h.bx.ren (fun x I=>zAf (zCL hf (cR _ (xG.2 ⟨x,I,rfl⟩))) _) (jL (by rw[h.size];exact zGD hf) _) B (fun x I=>I),h.mks,h.so⟩))
 rw[zAf (zCL hf (cK _ (xG.2 ⟨q,J,rfl⟩)))]
 exact h.sl q J
theorem zIS(l:List SF)(hn:Nat.ble args.size fn.ntmps=true)(I:zFk w l args.toList):St w ((zKw 0 l).map fun q=>(q.1,KF.o q.2)) [] fn.ntmps [] { tmps:=args++Array.replicate (fn.ntmps-args.size) undef,defers:=[] } w:=by
 have I:=zOF l hn I
 refine⟨⟨I.gr.os,I.gr.tape,I.gr.output,I.gr.size,fun k hk _=>I.gr.block k hk⟩,I.size,I.nd,fun q hq=>?_,trivial,⟨[],Marks.nil _ _⟩,.inr fun _ h=>h⟩
 obtain⟨p,hp,rfl⟩:=xG.1 hq
 have O:∀(l:List SF) (k:Nat),(∀t,t∈(zKw k l).map (·.1)->k<=t)/\j9 ((zKw k l).map (·.1))=true:=by
  intro l
  induction l with
  |nil=>intro k;exact⟨fun t J=>(by cases J),rfl⟩
  | cons f l ih=>
   intro k
   obtain⟨h1,h2⟩:=ih (k+1)
   refine⟨fun t J=>?_,?_⟩
   .rcases xX.1 J with rfl|J
    .exact vR _
    .have:=h1 t J;omega
   .show(!((zKw (k+1) l).map (·.1)).contains k&&j9 _)=true
    rw[h2]
    cases hc:((zKw (k+1) l).map (·.1)).contains k with
    |false=>rfl
    |true=>
     have:=h1 k (bV.1 hc)
     omega
 have:=I.sl p.1
 rw[zCV (O l 0).2 hp]at this
 exact this
theorem y2{c:Code}(l:List SF)
  (hf:P.funcs[f]?=some fn)(O:fn.body=some c)(I:Nat.ble args.size fn.ntmps=true)(J:zFk w l args.toList)
  (h:∀a,St w ((zKw 0 l).map fun q=>(q.1,KF.o q.2)) [] fn.ntmps [] a w->c.wpIn Fence.wide 0 P (bodyPost P fn R) a w):Calls P f args w R:=
 zBr hf O (h _ (zIS l I J))
theorem zPT{c:Code}(l:List SF)
  (hf:P.funcs[f]?=some fn)(O:fn.body=some c)(I:Nat.ble args.size fn.ntmps=true)(J:zFk w l args.toList)
  (h:∀a,St w ((zKw 0 l).map fun q=>(q.1,KF.o q.2)) [] fn.ntmps [] a w->c.wpIn Fence.wide 0 P (bodyPostM Fence.wide 0 P fn R) a w):Calls P f args w R:=
 bB.1 (callsIn_of_wp_marks hf O trivial (h _ (zIS l I J)))
def wK(W:WB)(te:WE)(C:CU):SF:=⟨fun v w=>∃(b:Nat) (cs:List WD),v= pO b 0/\W.heap.size<=b/\w.heap[b]?=some (.cells cs.toArray te (0,0))/\C.p cs w/\cs.all z9=true,fun _ _ _ ⟨b,cs,h1,h2,h3,h4,h5⟩ hb=>⟨b,cs,h1,h2,(hb.block b (xP.1 h3).1).trans h3,C.us _ _ _ h4 (zN hb),h5⟩⟩
theorem zFJ{C:CU}(v:WD)(w:WB)(h:(wK W te C).p v w):(wB C.cf).p v w:=by
 obtain⟨b,cs,J,_,O,I,_⟩:=h
 exact⟨b,0,cs,J,I,zAe O⟩
theorem zCK{C:CU}(h:W.heap.size<=W'.heap.size)(v:WD)(w:WB)(I:(wK W' te C).p v w):(wK W te C).p v w:=by
 obtain⟨b,cs,O,J,h3⟩:=I
 exact⟨b,cs,O,xQ h J,h3⟩
theorem StS.adopt(h:StS S w0 K B n ds a w){W:WB}{te:WE}{C:CU}(r:Bool)(t:Nat)(O:(wK W te C).p (a.tmps.getD t undef) w)(hW:BlS S w0 W)(hB:∀y,y∈B->y.b<W.heap.size∨(r=true/\y.r=true)):∃b,W.heap.size<=b/\StS S w0 K (⟨t,te,C,b,r⟩::B) n ds a w:=by
 obtain⟨b,cs,h1,I,h3,h4,h5⟩:=O
 refine⟨b,I,h.gr,h.size,h.nd,h.sl,⟨⟨cs,h1,.inr (.inl (xQ hW.size I)),h3,h4,h5,fun y J=>?_⟩,h.bx⟩,h.mks,h.so⟩
 rcases hB y J with e|e
 .left
  show y.b≠b
  omega
 .exact .inr e
theorem StS.old(h:StS S w0 K B n ds a w):∀y,y∈B->y.b<w.heap.size:=fun y J=>by
 obtain⟨_,_,_,I,_⟩:=h.bx.mem y J
 exact(xP.1 I).1
theorem vL(h:St w0 K B n [] a w){fn:Func}{t c:Nat}{z:Bx}(hr:fn.results=#[.tmp t])(hB:zHF B c=some z)(I:z.r=false)(hd:∀v W,(zAt K B t).p v W->v= pO z.b 0):bodyPost P fn (Ret w0 (wK w0 z.e z.c)) .ret a w:=by
 obtain⟨O,_⟩:=zBo hB
 obtain⟨cs,h1,J,h3,h4,h5⟩:=h.bx.mem z O
 have h6:w0.heap.size<=z.b:=by
  rcases J with e|e|e
  .rw[I]at e;cases e
  .exact e
  .exact e.elim
 refine⟨h.nd,a.tmps.getD t undef,?_,⟨_,rfl,⟨z.b,cs,hd _ _ (h.at.sl t),h6,h3,h4,h5⟩,h.gr.below⟩⟩
 simp[results,hr]
theorem zIc{c:Code}(b:Nat)(K0:List (Nat×UF))(B0:List Bx)
  (hf:P.funcs[f]?=some fn)(hb:fn.body=some c)(O:Nat.ble args.size fn.ntmps=true)(hK:∀q,q∈K0->q.1<args.size/\q.2.p (args.getD q.1 undef) w)
  (hB:qJ (fun k=>k=b) w ⟨args, []⟩ w B0)(I:∀x,x∈B0->x.t<args.size)
  (h:∀a,StS (fun k=>k=b) w (K0.map fun q=>(q.1,KF.u q.2)) B0 fn.ntmps [] a w->c.wpIn Fence.wide 0 P (bodyPost P fn R) a w):Calls P f args w R:=by
 have O:=hH O
 refine zBr hf hb (h _ ⟨BlS.refl _ _,sB,rfl,fun q J=>?_,qJ.keep (a:=⟨args, []⟩) (xF _ _) (fun _ _ h=>h) B0 (fun x hx=>?_) hB,⟨[],Marks.nil _ _⟩,.inl fun q J=>?_⟩)
 .obtain⟨p,hp,rfl⟩:=xG.1 J
  obtain⟨h1,h2⟩:=hK p hp
  have:(args++Array.replicate (fn.ntmps-args.size) undef).getD p.1 undef=args.getD p.1 undef:=by
   rw[xS,xS,lE h1]
  show p.2.p ((args++Array.replicate (fn.ntmps-args.size) undef).getD p.1 undef) w
  rw[this]
  exact h2
 .show(args++Array.replicate (fn.ntmps-args.size) undef).getD x.t undef=args.getD x.t undef
  rw[xS,xS,lE (I x hx)]
 .obtain⟨p,hp,rfl⟩:=xG.1 J
  exact⟨_,rfl⟩
theorem StS.grown{J:Nat}(h:StS (fun k=>k=J) w0 K B n ds a w){b:Nat}(hb:J=b):w0.grownBy w (some b):=by
 subst hb
 exact⟨h.gr.os,h.gr.tape,h.gr.output,h.gr.size,fun k O I=>h.gr.block k O fun e=>I (by rw[e])⟩
theorem StS.retS(h:StS (fun k=>k=b) w0 K B n [] a w){fn:Func}{f:SF}{C:CU}{c:Nat}{z:Bx}(hB:zHF B c=some z)(J:z.b=b)(I:z.c=C){v:WD}(hr:(results fn a.tmps).run P w=.ok v w)(hv:f.p v w):bodyPost P fn (zMX w0 b z.e C f) .ret a w:=by
 obtain⟨O,_⟩:=zBo hB
 obtain⟨cs,h1,h2,h3,h4,h5⟩:=h.bx.mem z O
 subst J
 subst I
 exact⟨h.nd,v,hr,_,rfl,hv,h.grown rfl,cs,h3,h4,h5⟩
theorem vH(h:StS (fun k=>k=b) w0 K B n [] a w){fn:Func}{f:SF}{C:CU}{c t:Nat}{z:Bx}(hB:zHF B c=some z)(J:z.b=b)(I:z.c=C)(O:fn.results=#[.tmp t])(hd:∀v W,(zAt K B t).p v W->f.p v W):bodyPost P fn (zMX w0 b z.e C f) .ret a w:=
 h.retS hB J I (v:=a.tmps.getD t undef) (by simp[results,O]) (hd _ _ (h.at.sl t))
theorem vK(h:StS (fun k=>k=b) w0 K B n [] a w){fn:Func}{f:SF}{C:CU}{c:Nat}{z:Bx}(hB:zHF B c=some z)(J:z.b=b)(I:z.c=C)(O:fn.results=#[])(hd:∀W,f.p (.tuple #[]) W):bodyPost P fn (zMX w0 b z.e C f) .ret a w:=
 h.retS hB J I (v:=.tuple #[]) (by simp[results,O]) (hd _)
def zTR(K:List (Nat×KF))(ts:List Nat):List (Nat×KF):=K.filter fun q=> !ts.contains q.1
theorem StS.drop(h:StS S w0 K B n ds a w)(O:List Nat):StS S w0 (zTR K O) B n ds a w:=⟨h.gr,h.size,h.nd,fun q I=>h.sl q (lF.1 I).1,h.bx,h.mks,h.so.imp (fun J q I=>J q (lF.1 I).1) (fun x=>x)⟩
theorem StS.keepK(h:StS S w0 K B n ds a w)(J:List (Nat×KF))(O:∀q,q∈J->q∈K):StS S w0 J B n ds a w:=⟨h.gr,h.size,h.nd,fun q I=>h.sl q (O q I),h.bx,h.mks,h.so.imp (fun hu q I=>hu q (O q I)) (fun x=>x)⟩
theorem StS.cond(h:StS S w0 K B n ds a w){c:WK}{x y:Code}(I:Bool)(J:∀v W,(Wd.fct (zAt K B) c).p v W->v=.bool I)(O:I=true->x.wpIn F m P Q a w)(hf:I=false->y.wpIn F m P Q a w):(Code.cond c x y).wpIn F m P Q a w:=
 wpIn_cond_split (J _ _ (h.fct c)) O hf
theorem wG(h:St w0 K B n [] a w){fn:Func}{f:SF}{t:Nat}(I:fn.results=#[.tmp t])(hd:∀v W,(zAt K B t).p v W->f.p v W):bodyPost P fn (Ret w0 f) .ret a w:=by
 refine⟨h.nd,_,?_,⟨_,rfl,hd _ _ (h.at.sl t),h.gr.below⟩⟩
 simp[results,I]
theorem StS.cellv(h:StS S w0 K B n ds a w){t kk:Nat}{e:WE}{C:CU}(J:zAj P e=some kk){y:Bx}(hB:zHF B t=some y)(O:y.c=C)(I:∀cs W,C.p cs W->cs.length=kk):∃(cs:List WD) (b:Nat),a.tmps[t]?.getD undef= pO b 0/\(loadVar e ⟨b,0,none⟩).run P w=.ok (.agg cs.toArray) w/\C.p cs w:=by
 obtain⟨hy,rfl⟩:=zBo hB
 subst O
 obtain⟨cs,h1,h2,h3,h4,h5⟩:=h.bx.mem y hy
 exact⟨cs,y.b,by rw[<-xS];exact h1,zEf J (I _ _ h4) h3,h4⟩
theorem wP(h:St w0 K B n [] a w){fn:Func}{f:SF}{t kk:Nat}{e:WE}(C:CU)(hr:fn.results=#[.cell t e])(J:zAj P e=some kk){y:Bx}(hB:zHF B t=some y)(O:y.c=C)(I:∀cs W,C.p cs W->cs.length=kk)
  (hd:∀cs W,C.p cs W->f.p (.agg cs.toArray) W):bodyPost P fn (Ret w0 f) .ret a w:=by
 obtain⟨cs,b,h0,h1,h2⟩:=h.cellv J hB O I
 refine⟨h.nd,.agg cs.toArray,?_,⟨_,rfl,hd _ _ h2,h.gr.below⟩⟩
 simp[results,hr,asAddr,h0,h1]
theorem vF(h:St w0 K B n [] a w){fn:Func}{f:SF}{t r kk:Nat}{e:WE}(C:CU)(hr:fn.results=#[.cell t e,.tmp r])(J:zAj P e=some kk){y:Bx}(hB:zHF B t=some y)(O:y.c=C)(I:∀cs W,C.p cs W->cs.length=kk)
  (hd:∀cs v W,C.p cs W->(zAt K B r).p v W->f.p (.tuple #[.agg cs.toArray,v]) W):bodyPost P fn (Ret w0 f) .ret a w:=by
 obtain⟨cs,b,h0,h1,h2⟩:=h.cellv J hB O I
 refine⟨h.nd,.tuple #[.agg cs.toArray,a.tmps.getD r undef],?_,⟨_,rfl,hd _ _ _ h2 (h.at.sl r),h.gr.below⟩⟩
 simp[results,hr,asAddr,h0,h1]
end
set_option maxHeartbeats 800000
section
variable {F:Fence}{m:Nat}{P:WG}{ops:Array Oper}{Q:Exit->Act->WB->Prop}
def zDp(ops:Array Oper)(i:Nat):Bool:=match ops[i]? with
 |some ⟨some _,.move _,_,_,_,none⟩|some ⟨some _,.extract _ _,_,_,_,none⟩=>true
 |_=>false
def zCh(ops:Array Oper)(listed:Array Bool)(i:Nat):Bool:=zDp ops i&&Region.free .any ops listed i&&(Region.ready .any ops listed).contains i
def zIY(listed:Array Bool):List Nat->Array Bool
 | []=>listed
 |i::l=>zIY (listed.setIfInBounds i true) l
def zRR(ops:Array Oper):Array Bool->List Nat->Bool
 |_, []=>true
 |listed,i::l=>(match ops[i]? with|some ⟨some _,.move _,_,_,_,none⟩=>true|_=>false)&&zCh ops listed i&&zRR ops (listed.setIfInBounds i true) l
theorem zCi(v:WD)(j:Nat)(w w':WB){r:WD}(h:(Instr.extract v j).run P w=.ok r w):(Instr.extract v j).run P w'=.ok r w':=by
 unfold Instr.extract at h ⊢
 split at h
 .rename_i vs
  cases hv:vs[j]? with
  |none=>rw[hv]at h;simp at h
  |some u=>
   rw[hv]at h
   simp at h
   simp[h]
 .simp at h
theorem zIx(h6:zAn ops=true)(h3:Region.noSelect ops=true){k:Nat}(h0:∀r,r<ops.size-k->Region.ready .any ops (yM ops.size (k+r))=[k+r]∨zCh ops (yM ops.size (k+r)) (k+r)=true):
  ∀(f r:Nat) (a:Act) (w:WB),k+r+f=ops.size->wpOpsIn F m P ops (qV Q) (List.range' (k+r) f) a w->jP F m P .any ops ops.size (fun _=>True) (qV Q) f (yM ops.size (k+r)) a w
 | 0,r,a,w,hf,h=>by
  refine⟨eV.2 fun i hi=>?_,h⟩
  have h1:=(cC.1 hi).1
  have J:i<ops.size:=by
   obtain⟨_,o,ho,_⟩:=cC.1 hi
   exact(xP.1 ho).1
  rw[xS,zCr J]at h1
  simp at h1
  omega
 | f+1,r,a,w,hf,h=>by
  rw[eD,eL]at h
  have J:k+r<ops.size:=oA
  rcases h0 r oA with hr|ht
  .refine⟨fun e=>(by rw[hr]at e;cases e),fun i hi=>?_⟩
   rw[hr]at hi
   obtain rfl:i=k+r:=by simpa using hi
   refine cW (fun a w h=>⟨.inr trivial,?_⟩) h
   rw[zCq J]
   exact zIx h6 h3 h0 f (r+1) a w oA h
  .unfold zCh at ht
   simp only[xU]at ht
   obtain⟨⟨I,hb⟩,h9⟩:=ht
   have ho:ops[k+r]?=some ops[k+r]:=bR J
   have ha:∃d v,ops[k+r].dst=some d/\zAk P ops (fun _=>True) ops[k+r] v a/\wpOpsIn F m P ops (qV Q) (List.range' (k+r+1) f) (a.put (some d) v) w:=by
    unfold zDp at I
    rw[ho]at I
    unfold wpOpIn at h
    rw[ho]at h
    generalize ops[k+r]=o at I h
    split at I
    .rename_i d x ty pos aft he
     cases he
     refine⟨d,a.eval x,rfl,⟨.inl ⟨rfl,fun w _=>rfl⟩,fun w=>rfl⟩,?_⟩
     have O:=h.2
     rw[bG _ _ _ (fun _ e=>by cases e)]at O
     exact O
    .rename_i d x j ty pos aft he
     cases he
     have O:=h.2
     rw[bG _ _ _ (fun _ e=>by cases e)]at O
     cases hrun:(Instr.extract (a.eval x) j).run P w with
     |halt y w'=>
      have he:(execOp a.eval ⟨some d,.extract x j,ty,pos,aft,none⟩).run P w=.halt y w':=by simp[execOp,hrun]
      rw[he]at O
      cases y<;>exact O.elim
     | ok v w'=>
      have hw:w'=w:=by
       unfold Instr.extract at hrun
       split at hrun
       .split at hrun
        .simp at hrun;exact hrun.2.symm
        .simp at hrun
       .simp at hrun
      subst hw
      have he:(execOp a.eval ⟨some d,.extract x j,ty,pos,aft,none⟩).run P w'=.ok (.value v) w':=by simp[execOp,hrun]
      rw[he]at O
      exact⟨d,v,rfl,⟨.inl ⟨rfl,fun w _=>by simp[execOp,zCi _ _ _ w hrun]⟩,fun w=>rfl⟩,O⟩
    .cases I
   obtain⟨d,v,hd,hy,h4⟩:=ha
   refine zQ (i:=k+r) (v:=v) h6 ?_ ho h3 hb h9 (fun _ _ _ h=>h) trivial hy ?_
   .unfold zBy
    rw[bY (vR _)]
   .rw[hd,zCq J]
    exact zIx h6 h3 h0 f (r+1) _ w oA h4
def zCl(ops:Array Oper)(pre:List Nat)(t:Nat):Bool:=pre.any fun i=>zY ops i==some t
def zHn(ops:Array Oper)(k i:Nat):Bool:=match ops[i]? with
 |some ⟨some _,.move x,_,_,_,none⟩=>(match x with| .tmp t=>(List.range k).all fun j=> !(zY ops j==some t)|_=>true)
 |_=>false
def zGf(ops:Array Oper)(k:Nat):Array Bool->List Nat->Bool
 |_, []=>true
 |listed,i::l=>zHn ops k i&&zCh ops listed i&&zGf ops k (listed.setIfInBounds i true) l
theorem zPb{w0:WB}{G G1:Nat->SF}{n k:Nat}(hd:zAn ops=true)(h8:Region.noSelect ops=true)(hh:jZ ops n=true)(hr:q8 ops=true)(hG:∀t,(∀j,j<k->zY ops j≠some t)->G1 t=G t)(J:∀i o,ops[i]?=some o->zDp ops i=true->i<k->qR F m P w0 ops G1 o):
  ∀(pre done:List Nat) (listed:Array Bool) (f:Nat) (a:Act) (w:WB),(∀i,i∈done->i<k)->zGf ops k listed pre=true->(∀i,i∈pre->i<k)->Below w0.heap.size w0 w->a.tmps.size=n->(∀t,zCl ops done t=true->(G1 t).p (a.tmps.getD t undef) w)->(∀t,zCl ops done t=false->(G t).p (a.tmps.getD t undef) w)->
  (∀a',a'.tmps.size=n->a'.defers=a.defers->(∀t,zCl ops (done++pre) t=true->(G1 t).p (a'.tmps.getD t undef) w)->(∀t,zCl ops (done++pre) t=false->(G t).p (a'.tmps.getD t undef) w)->jP F m P .any ops ops.size (fun _=>True) (qV Q) f (zIY listed pre) a' w)->
  jP F m P .any ops ops.size (fun _=>True) (qV Q) (f+pre.length) listed a w
 | [],done,listed,f,a,w,_,_,_,_,hs,h1,h2,h=>h a hs rfl (by simpa using h1) (by simpa using h2)
 | i::l,done,listed,f,a,w,hdk,hc,hik,hb,hs,h1,h2,h=>by
  rw[zGf,xU,xU]at hc
  obtain⟨⟨hm,I⟩,hl⟩:=hc
  have h7:zDp ops i=true:=by
   unfold zCh at I
   simp only[xU]at I
   exact I.1.1
  unfold zCh at I
  simp only[xU]at I
  obtain⟨⟨_,hk⟩,hn⟩:=I
  unfold zHn at hm
  cases ho:ops[i]? with
  |none=>rw[ho]at hm;cases hm
  | some o=>
   rw[ho]at hm
   have hg:=J i o ho h7 (hik i eN)
   obtain⟨d,x,ty,pos,aft,rfl,hx⟩:∃d x ty pos aft,o=⟨some d,.move x,ty,pos,aft,none⟩/\(match x with| .tmp t=>(List.range k).all fun j=> !(zY ops j==some t)|_=>true)=true:=by
    split at hm
    .rename_i d x ty pos aft he
     cases he
     exact⟨_,_,_,_,_,rfl,hm⟩
    .cases hm
   have O:d<n:=qG hh ho rfl
   have h0:(G1 d).p (a.eval x) w:=by
    have:=hg a w (fun a' w'=>(G1 d).p (a'.tmps.getD d undef) w') Q hb (fun t I=>by
     have hu:x=.tmp t:=by
      simp only[zCY,Op.operands,eW]at I
      obtain⟨y,hy,he⟩:=I
      simp at hy
      subst hy
      cases y with
      |tmp u=>simp at he;rw[he]
      |_=>simp at he
     subst hu
     have h6:∀j,j<k->zY ops j≠some t:=fun j hq hj=>by
      have:=xR.1 hx j (xV.2 hq)
      rw[hj]at this
      simp at this
     rw[hG t h6]
     refine h2 t ?_
     unfold zCl
     refine cS.2 fun j hj=>?_
     simp[h6 j (hdk j hj)]) fun v W' hv _=>(by
      rw[jL (by rw[hs];exact O)]
      exact hv d rfl)
    have h3:=this.2
    rw[bG _ _ _ (fun _ e=>by cases e)]at h3
    have h4:(G1 d).p ((a.put (some d) (a.eval x)).tmps.getD d undef) w:=h3
    rwa [jL (by rw[hs];exact O)]at h4
   have h9:f+(i::l).length=(f+l.length)+1:=sB
   rw[h9]
   refine zQ (i:=i) (v:=a.eval x) hd ?_ ho h8 hk hn (fun _ _ _ h=>h) trivial ⟨.inl ⟨rfl,fun w _=>rfl⟩,fun w=>rfl⟩ ?_
   .unfold zBy
    rw[bY (vR _)]
   .have hi:∀t,zCl ops (done++ [i]) t=(zCl ops done t||(d==t)):=fun t=>by
     unfold zCl
     rw[List.any_append]
     simp[jE ho]
    refine zPb hd h8 hh hr hG J l (done++ [i]) _ f _ w (fun j hj=>by
     rcases uL.1 hj with hj|hj
     .exact hdk j hj
     .simp at hj;subst hj;exact hik j eN) hl (fun j hj=>hik j (by simp[hj])) hb (by rw[zBZ];exact hs) (fun t I=>?_) (fun t I=>?_) fun a' g1 g2 g3 g4=>?_
    .rw[hi,bZ]at I
     by_cases e:d=t
     .subst e
      rw[jL (by rw[hs];exact O)]
      exact h0
     .rw[zAf e]
      exact h1 t (I.resolve_right (by simpa using e))
    .rw[hi,bL]at I
     have e:d≠t:=by simpa using I.2
     rw[zAf e]
     exact h2 t I.1
    .rw[fU]at g3 g4
     exact h a' g1 (by rw[g2,zA5]) g3 g4
theorem zIX:∀(pre:List Nat) (listed:Array Bool) (j:Nat),j<listed.size->(zIY listed pre)[j]?=some (listed.getD j false||pre.contains j)
 | [],listed,j,hj=>by simp[zIY,hj]
 | i::l,listed,j,hj=>by
  show(zIY (listed.setIfInBounds i true) l)[j]?=_
  rw[zIX l _ j (by simpa using hj)]
  by_cases e:i=j
  .subst e
   simp[hj]
  .rw[bF false e]
   have: ¬j=i:=fun h=>e h.symm
   simp[this]
theorem zG0:∀(pre:List Nat) (listed:Array Bool),(zIY listed pre).size=listed.size
 | [],_=>rfl
 |i::l,listed=>by
  show(zIY (listed.setIfInBounds i true) l).size=_
  rw[zG0 l]
  simp
def zCM(ops:Array Oper)(pre:List Nat)(k n:Nat)(keys:List Nat):Bool:=
 q8 ops&&jZ ops n&&zAn ops&&Region.noSelect ops&&decide (k<=ops.size)&&
 keys.all (fun t=>(List.range k).any fun i=>zY ops i==some t)&&
 zGf ops k (Array.replicate ops.size false) pre&&pre.all (fun i=>decide (i<k))&&
 (List.range k).all (fun i=>pre.contains i||match ops[i]? with
  |none=>true
  |some o=>(looks ops o).all fun t=>(List.range ops.size).all fun j=> !(zY ops j==some t)||pre.contains j||o.after.any fun e=>Region.binds .any e&&e.on==j)&&
 zA9 ops&&zCX ops (zIY (Array.replicate ops.size false) pre) k&&zDM ops (zIY (Array.replicate ops.size false) pre)&&zJm (zIY (Array.replicate ops.size false) pre) k&&
 ((zIY (Array.replicate ops.size false) pre).count false==ops.size-pre.length)&&decide (pre.length<=ops.size)&&
 (List.range (ops.size-k)).all fun r=>Region.ready .any ops (yM ops.size (k+r))==[k+r]||zCh ops (yM ops.size (k+r)) (k+r)
theorem zHa{G:Nat->SF}(pre:List Nat)(k:Nat)(L:List (Nat×SF))(hmix:P.follows .mixedOrders=true)
  (ha:zCM ops pre k n (L.map (·.1))=true)(h:At w0 G n ds a w)(hX:Obs F m P w0 ops (upd G L) (ops.toList.take k))
  (hP:∀a w,At w0 (zE1 ops k (upd G L)) n ds a w->wpOpsIn F m P ops (qV Q) (List.range' k (ops.size-k)) a w):(Code.region id ops true).wpIn F m P Q a w:=by
 unfold zCM at ha
 simp only[xU]at ha
 obtain⟨⟨⟨⟨⟨⟨⟨⟨⟨⟨⟨⟨⟨⟨⟨hT,hD⟩,hW⟩,hM⟩,hk⟩,hy⟩,hV⟩,hZ⟩,q4⟩,hJ⟩,qc⟩,qe⟩,qa⟩,hO⟩,hu⟩,q2⟩:=ha
 have hk:=xW hk
 have hu:=xW hu
 have hz:∀i,i∈pre->i<k:=fun i hi=>xW (xR.1 hZ i hi)
 have hn:∀i o,i<k->ops[i]?=some o->qR F m P w0 ops (upd G L) o:=fun i o hi ho=>hX.get i o (by rw[cZ hi];simpa using ho)
 have hs:∀t,(∀j,j<k->zY ops j≠some t)->upd G L t=G t:=fun t ht=>by
  refine zAu ?_
  cases hc:(L.map (·.1)).contains t with
  |false=>rfl
  |true=>
   exfalso
   have hm:=bV.1 hc
   obtain⟨i,hi,he⟩:=bU.1 (xR.1 hy t hm)
   exact ht i (xV.1 hi) (by simpa using he)
 have hS:∀r,r<ops.size-k->Region.ready .any ops (yM ops.size (k+r))=[k+r]∨zCh ops (yM ops.size (k+r)) (k+r)=true:=fun r hr=>by
  have:=xR.1 q2 r (xV.2 hr)
  simpa using this
 have O:Below w.heap.size w w.drew:=(xF _ w).drew
 refine zZ ops.size (fun _=>True) hmix ?_
 rw[show ops.size=(ops.size-pre.length)+pre.length from oA]
 rw[show(ops.size-pre.length)+pre.length=ops.size from oA]
 have q6:jP F m P .any ops ops.size (fun _=>True) (qV Q) (ops.size-pre.length+pre.length) (Array.replicate ops.size false) a w.drew:=by
  refine zPb (w0:=w0) (G:=G) (G1:=upd G L) (n:=n) (k:=k) hW hM hD hT hs (fun i o ho _ hi=>hn i o hi ho) pre [] _ _ a w.drew (fun i hi=>by cases hi) hV hz (h.gr.trans (O.mono h.gr.size)) h.size (fun t ht=>by cases ht) (fun t _=>(G t).st _ _ _ (h.sl t) O) ?_
  intro a1 hB qf h1 h2
  rw[fS]at h1 h2
  have h6:∀j,j<ops.size->(zIY (Array.replicate ops.size false) pre).getD j true=pre.contains j:=fun j hj=>by
   rw[xS,zIX pre _ j (by simpa using hj)]
   simp[hj]
  have hL:∀t,(∀j,zY ops j=some t->pre.contains j=true)->zBz ops (zIY (Array.replicate ops.size false) pre) t=false:=fun t ht=>by
   cases hd:zBz ops (zIY (Array.replicate ops.size false) pre) t with
   |false=>rfl
   |true=>
    exfalso
    unfold zBz at hd
    obtain⟨i,hi,hp⟩:=bU.1 hd
    simp only[xU,bH]at hp
    have h3:=ht i (by rw[<-zEs];exact hp.2)
    rw[h6 i (xV.1 hi),h3]at hp
    exact absurd hp.1 rY
  have h8:∀t,(∀j,zY ops j=some t->pre.contains j=true)->(upd G L t).p (a1.tmps.getD t undef) w.drew:=fun t ht=>by
   by_cases hp:zCl ops pre t=true
   .exact h1 t hp
   .have hw:zCl ops pre t=false:=by simpa using hp
    have q3:∀j,zY ops j≠some t:=fun j hj=>by
     have h3:=ht j hj
     unfold zCl at hw
     have:=cS.1 hw j (bV.1 h3)
     rw[hj]at this
     simp at this
    rw[hs t fun j _=>q3 j]
    exact h2 t hw
  refine zGE (k:=k) (z:=ops.size) (w:=w.drew) (fun _=>false) (fun i v W=>∀o,ops[i]?=some o->∀d,o.dst=some d->(upd G L d).p v W) (fun W=>Below w0.heap.size w0 W/\Below w.drew.heap.size w.drew W) hJ qc hT (by rw[hB];exact hD) (by simpa using hk) (by simpa using hO) (by rw[zG0];simp) qe qa (fun W W' hC hb=>⟨hC.1.trans (hb.mono hC.1.size),hC.2.trans (hb.mono hC.2.size)⟩) (fun i v W W' hE hb o ho d hd=>(upd G L d).st _ _ _ (hE o ho d hd) hb) ⟨h.gr.trans (O.mono h.gr.size),xF _ _⟩ ?spec ?fin
  case spec=>
   intro i hQ hl o ho b W hf K hK
   have q5:pre.contains i=false:=by rw[<-h6 i (xP.1 ho).1];exact hl
   refine zAc ho (hn i o hQ ho) (fun j g hj=>?_) hf.at_.cls.1 (fun t ht=>?_) (fun v W' hv hb=>hK v W' (fun o' hR d hd=>by rw[ho]at hR;cases hR;exact hv d hd) hb sF)
   .rw[hf.at_.size,hB]
    obtain⟨oj,I,h0⟩:=qE hj
    exact qG hD I h0
   .by_cases hex:∃j,zY ops j=some t/\pre.contains j=false
    .obtain⟨j,hj,hg⟩:=hex
     obtain⟨oj,I,h0⟩:=qE hj
     have h3:=xR.1 q4 i (xV.2 hQ)
     rw[q5,cM,ho]at h3
     have h4:=xR.1 (xR.1 h3 t ht) j (xV.2 (xP.1 I).1)
     rw[hj,hg]at h4
     simp only[fZ,eT,cM]at h4
     obtain⟨x,hx,he⟩:=eK.1 h4
     simp only[xU,bH]at he
     exact hf.at_.vals j oj t ⟨by rw[h6 j (xP.1 I).1];exact hg,_,cU hx,he.1,he.2⟩ I h0 oj I t h0
    .have J:∀j,zY ops j=some t->pre.contains j=true:=fun j hj=>by
      cases hc:pre.contains j with
      |true=>rfl
      |false=>exact(hex ⟨j,hj,hc⟩).elim
     rw[hf.at_.keep t (hL t J)]
     exact(upd G L t).st _ _ _ (h8 t J) hf.at_.cls.2
  case fin=>
   intro b W hf
   have hA:At w0 (zE1 ops k (upd G L)) n ds b W:=⟨hf.at_.cls.1,by rw[hf.at_.size];exact hB,by rw[hf.at_.defers,qf];exact h.nd,fun t=>by
    unfold zE1
    cases hc:(List.range ops.size).any fun i=>decide (k<=i)&&(zY ops i==some t)with
    |true=>trivial
    | false=>
     show(upd G L t).p _ _
     by_cases hex:∃j,zY ops j=some t/\pre.contains j=false
     .obtain⟨j,hj,hg⟩:=hex
      obtain⟨oj,I,h0⟩:=qE hj
      have hY:=(xP.1 I).1
      have h3:=cS.1 hc j (xV.2 hY)
      simp[hj]at h3
      exact hf.at_.vals j oj t ⟨oA,by rw[h6 j hY];exact hg⟩ I h0 oj I t h0
     .have J:∀j,zY ops j=some t->pre.contains j=true:=fun j hj=>by
       cases hc:pre.contains j with
       |true=>rfl
       |false=>exact(hex ⟨j,hj,hc⟩).elim
      rw[hf.at_.keep t (hL t J)]
      exact(upd G L t).st _ _ _ (h8 t J) hf.at_.cls.2⟩
   have h5:=zIx (Q:=Q) hW hM hS (ops.size-k) 0 b W oA (by simpa using hP b W hA)
   simpa using h5
 rwa [show ops.size-pre.length+pre.length=ops.size from oA]at q6
theorem zHb{B:List Bx}(K0:List (Nat×KF))(pre:List Nat)(k:Nat)(L:List (Nat×Rw))(hmix:P.follows .mixedOrders=true)(h:StS S w0 (K0++K) B n ds a w)
  (I:(zCM ops pre k n (L.map (·.1))&&jQ ops (K.map (·.1)++B.map (·.t))&&j9 (L.map (·.1)))=true)
  (O:Obs F m P w ops (upd (zAt (K0++K) B) (zR L)) (ops.toList.take k))
  (h1:∀Q',(∀a w,Q .normal a w->Q' .normal a w)->∀a w,StS S w0 (zAL L++K) B n ds a w->(∀q,q∈zR L->q.2.p (a.tmps.getD q.1 undef) w)->zBj F m P ops Q' k a w):(Code.region id ops true).wpIn F m P Q a w:=by
 simp only[xU]at I
 have J:(zR L).map (·.1)=L.map (·.1):=by simp[zR]
 have h0:=I.1.1
 unfold zCM at h0
 simp only[xU]at h0
 obtain⟨⟨⟨⟨⟨⟨⟨⟨⟨⟨⟨⟨⟨⟨⟨h3,_⟩,_⟩,_⟩,_⟩,h2⟩,_⟩,_⟩,_⟩,_⟩,_⟩,_⟩,_⟩,_⟩,_⟩,_⟩:=h0
 exact zEE K0 k L h (fun G' hA hO hF=>zHa pre k (zR L) hmix (by rw[J];exact I.1.1) hA hO hF) h3 h2 I.1.2 I.2 O (fun a w h hr=>h1 (qV Q) (fun a w h=>h) a w h hr)
theorem zIe{B:List Bx}(K0:List (Nat×KF))(pre:List Nat)(k:Nat)(L:List (Nat×Rw))(hmix:P.follows .mixedOrders=true)(h:StS S w0 (K0++K) B n ds a w)
  (J:(zCM ops pre k n (L.map (·.1))&&jQ ops (K.map (·.1)++B.map (·.t))&&j9 (L.map (·.1)))=true)
  (I:Obs F m P w ops (upd (zAt (K0++K) B) (zR L)) (ops.toList.take k))
  (O:∀Q',(∀a w,Q .normal a w->Q' .normal a w)->∀a w,StS S w0 (zAL L++K) B n ds a w->zBj F m P ops Q' k a w):(Code.region id ops true).wpIn F m P Q a w:=
 zHb K0 pre k L hmix h J I fun Q hq a w h _=>O Q hq a w h
theorem jR{B:List Bx}(pre:List Nat)(k:Nat)(L:List (Nat×Rw))(hmix:P.follows .mixedOrders=true)(h:StS S w0 K B n ds a w)
  (J:(zCM ops pre k n (L.map (·.1))&&jQ ops (K.map (·.1)++B.map (·.t))&&j9 (L.map (·.1)))=true)
  (I:Obs F m P w ops (upd (zAt K B) (zR L)) (ops.toList.take k))
  (O:∀Q',(∀a w,Q .normal a w->Q' .normal a w)->∀a w,StS S w0 (zAL L++K) B n ds a w->zBj F m P ops Q' k a w):(Code.region id ops true).wpIn F m P Q a w:=
 zIe [] pre k L hmix h J I O
theorem zIZ{w0:WB}{G:Nat->SF}{n k:Nat}{a0:Act}{wA:WB}(hl:q8 ops=true)(h8:jZ ops n=true)(hk:k<=ops.size)
  (hg:∀i o,i<k->ops[i]?=some o->∀t,t∈looks ops o->∀j,zY ops j=some t->j<i∨k<=j)
  (h6:∀t,(∀j,j<k->zY ops j≠some t)->(G t).p (a0.tmps.getD t undef) wA)
  (h4:∀i o,i<k->ops[i]?=some o->qR F m P w0 ops G o)
  (O:∀a w,Below w0.heap.size w0 w->a.tmps.size=n->a.defers=a0.defers->(∀t,(G t).p (a.tmps.getD t undef) w)->wpOpsIn F m P ops Q (List.range' k (ops.size-k)) a w):
  ∀(r i:Nat) (a:Act) (w:WB),i+r=k->Below wA.heap.size wA w->Below w0.heap.size w0 w->a.tmps.size=n->a.defers=a0.defers->
   (∀t,(∃j,j<i/\zY ops j=some t)->(G t).p (a.tmps.getD t undef) w)->(∀t,(∀j,j<i->zY ops j≠some t)->a.tmps.getD t undef=a0.tmps.getD t undef)->
   wpOpsIn F m P ops Q (List.range' i (ops.size-i)) a w
 | 0,i,a,w,hi,hA,h0,hs,hd,h1,h2=>by
  obtain rfl:i=k:=oA
  refine O a w h0 hs hd fun t=>?_
  by_cases I:∃j,j<i/\zY ops j=some t
  .exact h1 t I
  .have J:∀j,j<i->zY ops j≠some t:=fun j hj he=>I ⟨j,hj,he⟩
   rw[h2 t J]
   exact(G t).st _ _ _ (h6 t J) hA
 | r+1,i,a,w,hi,hA,h0,hs,hd,h1,h2=>by
  have hh:i<k:=oA
  have hn:i<ops.size:=oA
  rw[show ops.size-i=(ops.size-(i+1))+1 from oA,eD,eL]
  have ho:ops[i]?=some ops[i]:=bR hn
  refine zAc ho (h4 i _ hh ho) (fun j g hj=>?_) h0 (fun t I=>?_) fun v W' hv hb=>?_
  .rw[hs]
   obtain⟨oj,h5,h7⟩:=qE hj
   exact qG h8 h5 h7
  .by_cases hex:∃j,j<i/\zY ops j=some t
   .exact h1 t hex
   .have J:∀j,j<i->zY ops j≠some t:=fun j hj he=>hex ⟨j,hj,he⟩
    have hc:∀j,j<k->zY ops j≠some t:=fun j hj he=>by
     rcases hg i _ hh ho t I j he with h3|h3
     .exact J j h3 he
     .omega
    rw[h2 t J]
    exact(G t).st _ _ _ (h6 t hc) hA
  .refine zIZ hl h8 hk hg h6 h4 O r (i+1) _ W' oA (hA.trans (hb.mono hA.size)) (h0.trans (hb.mono h0.size)) (by rw[zBZ];exact hs) (by rw[zA5];exact hd) (fun t ⟨j,hj,I⟩=>?_) (fun t I=>?_)
   .by_cases hji:j=i
    .subst hji
     rw[jE ho]at I
     have h:ops[j].dst=some t:=I
     have h3:=hv t h
     rw[h,jL (by rw[hs];exact qG h8 ho h)]
     exact h3
    .rw[zB7]
     .exact(G t).st _ _ _ (h1 t ⟨j,oA,I⟩) hb
     .intro h
      obtain⟨oj,h5,h7⟩:=qE I
      exact jM hl ho h5 (xY hji) h h7
   .rw[zB7]
    .exact h2 t (fun j hj=>I j oA)
    .intro h
     exact I i oA (by rw[jE ho];exact h)
def zGF(ops:Array Oper)(k n:Nat)(keys:List Nat):Bool:=
 q8 ops&&jZ ops n&&zAn ops&&decide (k<=ops.size)&&
 keys.all (fun t=>(List.range k).any fun i=>zY ops i==some t)&&
 (List.range k).all (fun i=>match ops[i]? with
  |none=>true
  |some o=>(looks ops o).all fun t=>(List.range ops.size).all fun j=> !(zY ops j==some t)||decide (j<i)||decide (k<=j))
def zFu(ops:Array Oper)(k:Nat)(ts:List Nat):Bool:=ts.all fun t=>(List.range k).all fun i=> !(zY ops i==some t)
theorem zA1{B:List Bx}(k:Nat)(L:List (Nat×Rw))(h:StS S w0 K B n ds a w)
  (I:(zGF ops k n (L.map (·.1))&&zFu ops k (K.map (·.1)++B.map (·.t))&&j9 (L.map (·.1)))=true)
  (hK:Obs F m P w ops (upd (zAt K B) (zR L)) (ops.toList.take k))
  (hF:∀a w,StS S w0 (zAL L++K) B n ds a w->(∀q,q∈zR L->q.2.p (a.tmps.getD q.1 undef) w)->zBj F m P ops Q k a w):(Code.region id ops false).wpIn F m P Q a w:=by
 simp only[xU]at I
 obtain⟨⟨I,hU⟩,hE⟩:=I
 unfold zGF at I
 simp only[xU]at I
 obtain⟨⟨⟨⟨⟨hW,hX⟩,hpl⟩,hk⟩,ha⟩,hM⟩:=I
 have hk:=xW hk
 have hl:(zR L).map (·.1)=L.map (·.1):=by simp[zR]
 have hB:∀t,t∈K.map (·.1)++B.map (·.t)->∀i,i<k->zY ops i≠some t:=fun t O i hi he=>by
  have h2:=xR.1 (xR.1 hU t O) i (xV.2 hi)
  rw[he]at h2
  simp at h2
 have hA:=h.at
 have hO:∀t,(∀j,j<k->zY ops j≠some t)->upd (zAt K B) (zR L) t=zAt K B t:=fun t O=>by
  refine zAu ?_
  cases hc:((zR L).map (·.1)).contains t with
  |false=>rfl
  |true=>
   exfalso
   have hm:=bV.1 hc
   rw[hl]at hm
   obtain⟨i,hi,he⟩:=bU.1 (xR.1 ha t hm)
   exact O i (xV.1 hi) (by simpa using he)
 refine wpIn_region ?_
 rw[List.range_eq_range']
 -- the table, the kept slots' values said
 let G1:Nat->SF:=fun t=>if t∈K.map (·.1)++B.map (·.t)then⟨fun v W=>(upd (zAt K B) (zR L) t).p v W/\v=a.tmps.getD t undef,fun _ _ _ h hb=>⟨(upd (zAt K B) (zR L) t).st _ _ _ h.1 hb,h.2⟩⟩else upd (zAt K B) (zR L) t
 have h8:∀t v W,(G1 t).p v W->(upd (zAt K B) (zR L) t).p v W:=fun t v W hh=>by
  by_cases O:t∈K.map (·.1)++B.map (·.t)
  .simp only[G1,if_pos O]at hh
   exact hh.1
  .simp only[G1,if_neg O]at hh
   exact hh
 have hG:∀t,(∃i,i<k/\zY ops i=some t)->G1 t=upd (zAt K B) (zR L) t:=fun t ⟨i,hi,he⟩=>by
  simp only[G1]
  rw[if_neg fun O=>hB t O i hi he]
 have hy:∀i o,i<k->ops[i]?=some o->qR F m P w ops G1 o:=fun i o hi ho=>by
  have hg:=hK.get i o (by rw[cZ hi];simpa using ho)
  have hop:zMR F m P w (upd (zAt K B) (zR L)) o->zMR F m P w G1 o:=fun J b W K' Q' hb hr hT=>
   J b W K' Q' hb (fun t O=>h8 t _ _ (hr t O)) fun v W' hv hQ=>hT v W' (fun d hd=>by rw[hG d ⟨i,hi,by rw[jE ho];exact hd⟩];exact hv d hd) hQ
  unfold qR at hg ⊢
  cases hgd:o.guard with
  |none=>rw[hgd]at hg;exact hop hg
  |some q=>
   rw[hgd]at hg
   obtain⟨g,bv,J,h2,h3,h4⟩:=hg
   exact⟨g,bv,J,fun v W hh=>h2 v W (h8 g v W hh),fun e=>hop (h3 e),fun e=>⟨fun d hd W=>by rw[hG d ⟨i,hi,by rw[jE ho];exact hd⟩];exact(h4 e).1 d hd W,(h4 e).2⟩⟩
 refine zIZ (G:=G1) (k:=k) (n:=n) (a0:=a) (wA:=w) (w0:=w) hW hX hk (fun i o hi ho t O j hj=>?_) (fun t O=>?_) hy (fun a' w' hb hs hd hh=>?_) k 0 a w oA (xF _ _) (xF _ _) h.size rfl (fun t ⟨j,hj,_⟩=>absurd hj oA) (fun t _=>rfl)
 .have J:=xR.1 hM i (xV.2 hi)
  rw[ho]at J
  obtain⟨oj,hS,_⟩:=qE hj
  have h2:=xR.1 (xR.1 J t O) j (xV.2 (xP.1 hS).1)
  rw[hj]at h2
  simpa using h2
 .have J:=hA.sl t
  rw[<-hO t O]at J
  by_cases hm:t∈K.map (·.1)++B.map (·.t)
  .simp only[G1,if_pos hm]
   exact⟨J,by first|rfl|trivial⟩
  .simp only[G1,if_neg hm]
   exact J
 .have h6:∀t,t∈K.map (·.1)++B.map (·.t)->a'.tmps.getD t undef=a.tmps.getD t undef:=fun t O=>by
   have J:=hh t
   simp only[G1,if_pos O]at J
   exact J.2
  have hD:∀q,q∈zR L->q.2.p (a'.tmps.getD q.1 undef) w':=fun q hw=>by
   have J:=h8 q.1 _ _ (hh q.1)
   rwa [zCV (q:=q) (by rw[hl];exact hE) hw]at J
  refine hF a' w' ⟨h.gr.trans hb,hs,by rw[hd];exact h.nd,fun q hq=>?_,h.bx.keep hb (zN hb) B fun x hx=>h6 _ (cR _ (xG.2 ⟨x,hx,rfl⟩)),zA3 h.mks hb,h.so.imp (fun hu q hq=>(by
   rcases uL.1 hq with hq|hq
   .obtain⟨f,e,_⟩:=zAJ hq;exact⟨f,e⟩
   .exact hu q hq)) (fun x=>x)⟩ hD
  rcases uL.1 hq with hq|hq
  .obtain⟨f,hR,hm⟩:=zAJ hq
   have hw:((q.1,f.tS):Nat×SF)∈zR L:=xG.2 ⟨_,hm,rfl⟩
   have J:=h8 q.1 _ _ (hh q.1)
   rw[zCV (q:=(q.1,f.tS)) (by rw[hl];exact hE) hw]at J
   rw[hR]
   exact J
  .rw[h6 q.1 (cK _ (xG.2 ⟨q,hq,rfl⟩))]
   exact KF.us (h.sl q hq) (zN hb)
theorem zP{B:List Bx}(k:Nat)(L:List (Nat×Rw))(h:StS S w0 K B n ds a w)
  (J:(zGF ops k n (L.map (·.1))&&zFu ops k (K.map (·.1)++B.map (·.t))&&j9 (L.map (·.1)))=true)
  (I:Obs F m P w ops (upd (zAt K B) (zR L)) (ops.toList.take k))
  (O:∀a w,StS S w0 (zAL L++K) B n ds a w->zBj F m P ops Q k a w):(Code.region id ops false).wpIn F m P Q a w:=
 zA1 k L h J I fun a w h _=>O a w h
end
end Go.Proofs.Wd
