/- The calculus of walks by facts: the single operations; The calculus of and what it needs. -/
import Derived.Test.YtencnknhnckpaaaGreatDoorMRM3
import Derived.Great.BuildSlice
import Derived.Shelf.Abstract
theorem oD {P:Prop} (h:P:=by omega):P:=h
abbrev xC:=@List.all_eq_true
abbrev xD:=@Array.getElem?_eq_some_iff
abbrev xE:=@List.mem_map
abbrev xF:=@Bool.and_eq_true
abbrev xG:=@Go.RowKit.Below.refl
abbrev xH:=@List.mem_range
abbrev xI:=@List.mem_cons
abbrev xJ:=@List.contains_iff_mem
abbrev xK:=@Go.Oper.semAt_eq
abbrev xL:=@Nat.eq_of_beq_eq_true
abbrev xM:=@Array.getD_eq_getD_getElem?
abbrev xN:=@Nat.le_refl
abbrev xO:=@List.mem_append_right
abbrev xP:=@List.any_eq_true
abbrev xQ:=@Go.Addr.add_lit
abbrev xR:=@List.any_eq_false
abbrev xS:=@List.mem_append
abbrev xT:=@List.mem_append_left
abbrev xU:=@Nat.le_trans
abbrev xV:=@Array.getElem_modify
abbrev xW:=@of_decide_eq_true
abbrev xX:=@Go.World.block_lt_of_cell?
abbrev xY:=@Go.World.alloc_heap_new
abbrev xZ:=@Option.map_some
abbrev bB:=@Option.some.injEq
abbrev bC:=@Go.Result.andThen_ok
abbrev bD:=@List.range'_succ
abbrev bE:=@Array.getElem?_append_left
abbrev bF:=@Array.getElem?_eq_getElem
abbrev bG:=@List.getElem?_take_of_lt
abbrev WH:=Go.World
abbrev WI:=Go.Value
abbrev WJ:=Go.TypeId
abbrev WK:=Go.Operand
abbrev WL:=Go.Program
namespace Go.Proofs.Wd
open Go.RowKit
section
variable {F:Fence} {m:Nat} {P:WL} {w0:WH} {ops:Array Oper} {G:Nat->SF} {d:Tmp} {ty:WJ} {pos:String} {aft:Array Edge}
def fct (G:Nat->SF):WK->SF
 | .tmp t=>G t
 | .const v=>SF.eq v
 | .func f=>SF.eq (.func (.func f) #[] #[])
 | .global g=>SF.eq (.pointer (some ⟨g,0,none⟩))
theorem y6 {b:Act} {W:WH} {o:Oper} (h: ∀t,t∈zCL o->(G t).p (b.tmps.getD t undef) W) {x:WK} (hx:x∈o.op.operands.toList):(fct G x).p (b.eval x) W:=by
 cases x with
 |tmp t=>exact h t (List.mem_filterMap.2 ⟨_,hx,rfl⟩)
 |const v=>rfl
 |func f=>rfl
 |global g=>rfl
theorem zBy {o:Oper} {b:Act} {W W':WH} {v:WI} {K:Act->WH->Prop} {Q:Exit->Act->WH->Prop} (hd: ∀c,o.op≠ .defer c) (hc: ∀c,o.op≠ .call c) (hrun:(execOp b.eval o).run P W= .ok (.value v) W') (hK:K (b.put o.dst v) W'):o.wpIn F m P b W K Q:=by
 refine ⟨fun f hf=> ?_, ?_⟩
 ·unfold Oper.about at hf
  split at hf
  ·rename_i c hcc;exact absurd hcc (hc c)
  ·cases hf
 ·rw [xK _ _ _ hd,hrun]
  exact hK
theorem qQ {op:Op} (hd: ∀c,op≠ .defer c) (hc: ∀c,op≠ .call c)
  (h: ∀(b:Act) (W:WH),Below w0.heap.size w0 W->(∀x,x∈op.operands.toList->(fct G x).p (b.eval x) W)-> ∃v,(execOp b.eval ⟨some d,op,ty,pos,aft,none⟩).run P W= .ok (.value v) W/\(G d).p v W):
  qB F m P w0 ops G ⟨some d,op,ty,pos,aft,none⟩:=by
 intro b W K Q hb hr hK
 obtain ⟨v,hrun,hv⟩:=h b W hb fun x hx=>y6 hr hx
 exact zBy hd hc hrun (hK v W (fun d' e=>by cases e;exact hv) (xG _ _))
theorem zA {x:WK} (h: ∀v W,Below w0.heap.size w0 W->(fct G x).p v W->(G d).p v W:=by exact fun _ _ _ h=>h):qB F m P w0 ops G ⟨some d, .move x,ty,pos,aft,none⟩:=
 qQ (fun _ e=>by cases e) (fun _ e=>by cases e) fun b W hb hx=>⟨_,rfl,h _ _ hb (hx x (by simp [Op.operands]))⟩
theorem zG {x:WK} (h: ∀v W,Below w0.heap.size w0 W->(fct G x).p v W->(G d).p v W:=by exact fun _ _ _ h=>h):qB F m P w0 ops G ⟨some d, .assign x,ty,pos,aft,none⟩:=
 qQ (fun _ e=>by cases e) (fun _ e=>by cases e) fun b W hb hx=>⟨_,rfl,h _ _ hb (hx x (by simp [Op.operands]))⟩
def Mem (W:WH) (b o:Nat) (cs:List WI):Prop:= ∀j u,cs[j]?=some u->W.cell? ⟨b,o+j,none⟩=some u
theorem Mem.below {W W':WH} {b o:Nat} {cs:List WI} (h:Mem W b o cs) (hb:Below W.heap.size W W'):Mem W' b o cs:=fun j u hj=>by
 have h1:=h j u hj
 exact (hb.cell (p:=⟨b,o+j,none⟩) (xX W _ h1)).trans h1
theorem Mem.drop {W:WH} {b o:Nat} {cs:List WI} (h:Mem W b o cs) (k:Nat):Mem W b (o+k) (cs.drop k):=fun j u hj=>by
 rw [List.getElem?_drop] at hj
 rw [Nat.add_assoc]
 exact h (k+j) u hj
structure CF where
 p:List WI->WH->Prop
 st: ∀cs w w',p cs w->Below w.heap.size w w'->p cs w'
def wC (C:CF):SF:=⟨fun v W=> ∃b o cs,v= .pointer (some ⟨b,o,none⟩)/\C.p cs W/\Mem W b o cs,fun _ _ _ ⟨b,o,cs,h1,h2,h3⟩ hb=>⟨b,o,cs,h1,C.st _ _ _ h2 hb,h3.below hb⟩⟩
theorem zA7 {x:WK} {C:CF} (hx: ∀v W,(fct G x).p v W->(wC C).p v W:=by first|exact fun _ _ h=>h|exact fun _ _ h=>h.2) (h: ∀v W,(wC C).p v W->(G d).p v W:=by exact fun _ _ h=>h):qB F m P w0 ops G ⟨some d, .nilCheck x,ty,pos,aft,none⟩:=
 qQ (fun _ e=>by cases e) (fun _ e=>by cases e) fun b W hb hh=>by
  have h1:=hx _ _ (hh x (by simp [Op.operands]))
  obtain ⟨_,_,cs,e,_⟩:=id h1
  exact ⟨b.eval x,by simp [execOp,e],h _ _ h1⟩
def zBz (P:WL) (s:WJ) (f:Nat):Option Nat:=match P.underlying s with
 | some (.struct fs)=>match fs[f]? with
  |some f=>match P.info? f.type with
   |some i=>if i.size=0 then none else some f.offset
   |none=>none
  |none=>none
 |_=>none
theorem zIL {x:WK} {s:WJ} {f:Nat} {C C':CF} (k:Nat) (hk:zBz P s f=some k) (hx: ∀v W,(fct G x).p v W->(wC C).p v W) (h: ∀cs W,C.p cs W->C'.p (cs.drop k) W) (hd: ∀v W,(wC C').p v W->(G d).p v W:=by exact fun _ _ h=>h):qB F m P w0 ops G ⟨some d, .fieldAddr s x f,ty,pos,aft,none⟩:=
 qQ (fun _ e=>by cases e) (fun _ e=>by cases e) fun b W hb hh=>by
  obtain ⟨a,q,cs,e,h2,h3⟩:=hx _ _ (hh x (by simp [Op.operands]))
  refine ⟨.pointer (some ⟨a,q+k,none⟩), ?_,hd _ _ ⟨_,_,_,rfl,h _ _ h2,h3.drop k⟩⟩
  unfold zBz at hk
  split at hk<;>try cases hk
  rename_i fs hu
  split at hk<;>try cases hk
  rename_i f' hf
  split at hk<;>try cases hk
  rename_i i hi
  split at hk<;>try cases hk
  rename_i hz
  simp [execOp,Instr.fieldAt,run_underlying hu,hf,e,Instr.sureAddr,fieldPlace,sizeOf,typeInfo,hi,hz,xQ]
def zAx (P:WL) (t:WJ):Option Nat:=match P.underlying t with
 |some (.struct _)|some (.array _ _)=>(P.info? t).map (·.size)
 |_=>none
def zBX (P:WL) (t:WJ):Bool:=match P.underlying t with
 |some (.struct _)|some (.array _ _)|none=>false
 |_=>true
theorem zCX {t:WJ} {k:Nat} (h:zAx P t=some k) (W:WH):(isAgg t).run P W= .ok true W/\ ∃i,P.info? t=some i/\i.size=k:=by
 unfold zAx at h
 split at h<;>try cases h
 all_goals
  rename_i hu
  cases hi:P.info? t with
  |none=>rw [hi] at h;cases h
  |some i=>rw [hi] at h;cases h;exact ⟨by simp [isAgg,run_underlying hu],i,rfl,rfl⟩
theorem zDM {t:WJ} (h:zBX P t=true) (W:WH):(isAgg t).run P W= .ok false W:=by
 unfold zBX at h
 split at h<;>try cases h
 rename_i h1 h2 h3
 cases hu:P.underlying t with
 |none=>exact absurd hu h3
 |some d=>cases d<;>simp_all [isAgg,run_underlying hu]
theorem zBm {t:WJ} {k:Nat} (h:zAx P t=some k) {a q:Nat} {cs:List WI} {W:WH} (hc:Mem W a q cs) (hk:k<=cs.length):(loadVar t ⟨a,q,none⟩).run P W= .ok (.agg (cs.take k).toArray) W:=by
 obtain ⟨h1,i,hi,hs⟩:=zCX h W
 have h2:=run_loadCells_list (P:=P) W ⟨a,q,none⟩ (cs.take k) (fun j v hj=>by rw [xQ];exact hc j v (by
  rw [List.getElem?_take] at hj
  split at hj
  ·exact hj
  ·cases hj))
 rw [List.length_take,Nat.min_eq_left hk] at h2
 simp [loadVar,h1,sizeOf,typeInfo,hi,hs,h2]
theorem qT {t:WJ} (h:zBX P t=true) {a q:Nat} {cs:List WI} {W:WH} (hc:Mem W a q cs) {u:WI} (hu:cs[0]?=some u):(loadVar t ⟨a,q,none⟩).run P W= .ok u W:=by
 have h1:=hc 0 u hu
 have h2:W.cell? ⟨a,q,none⟩=some u:=h1
 simp [loadVar,zDM h W,h2]
theorem zFT {x:WK} {t:WJ} {C:CF} (k:Nat) (hk:zAx P t=some k) (hx: ∀v W,(fct G x).p v W->(wC C).p v W) (h: ∀cs W,C.p cs W->k<=cs.length/\(G d).p (.agg (cs.take k).toArray) W):qB F m P w0 ops G ⟨some d, .load t x,ty,pos,aft,none⟩:=
 qQ (fun _ e=>by cases e) (fun _ e=>by cases e) fun b W hb hh=>by
  obtain ⟨a,q,cs,e,h2,h3⟩:=hx _ _ (hh x (by simp [Op.operands]))
  obtain ⟨h4,h5⟩:=h cs W h2
  exact ⟨_,by simp [execOp,Instr.loadAt,e,Instr.sureAddr,zBm hk h3 h4],h5⟩
theorem yR {x:WK} {t:WJ} {C:CF} (hk:zBX P t=true) (hx: ∀v W,(fct G x).p v W->(wC C).p v W) (h: ∀cs W,C.p cs W-> ∃u,cs[0]?=some u/\(G d).p u W):qB F m P w0 ops G ⟨some d, .load t x,ty,pos,aft,none⟩:=
 qQ (fun _ e=>by cases e) (fun _ e=>by cases e) fun b W hb hh=>by
  obtain ⟨a,q,cs,e,h2,h3⟩:=hx _ _ (hh x (by simp [Op.operands]))
  obtain ⟨u,h4,h5⟩:=h cs W h2
  exact ⟨_,by simp [execOp,Instr.loadAt,e,Instr.sureAddr,qT hk h3 h4],h5⟩
theorem zK1 {op:Op} (hd: ∀c,op≠ .defer c) (hc: ∀c,op≠ .call c)
  (h: ∀(b:Act) (W:WH),Below w0.heap.size w0 W->(∀x,x∈op.operands.toList->(fct G x).p (b.eval x) W)-> ∃v o,(execOp b.eval ⟨some d,op,ty,pos,aft,none⟩).run P W= .ok (.value v) (W.alloc o)/\(G d).p v (W.alloc o)):
  qB F m P w0 ops G ⟨some d,op,ty,pos,aft,none⟩:=by
 intro b W K Q hb hr hK
 obtain ⟨v,o,hrun,hv⟩:=h b W hb fun x hx=>y6 hr hx
 exact zBy hd hc hrun (hK v _ (fun d' e=>by cases e;exact hv) ((xG _ _).alloc (xN _) _))
theorem zCe (W:WH) (cs:Array WI) (t:WJ):Mem (W.alloc (.cells cs t)) W.heap.size 0 cs.toList:=fun j u hj=>by
 have hh:(W.alloc (.cells cs t)).heap[W.heap.size]?=some (.cells cs t):=xY W _
 unfold World.cell?
 rw [hh]
 simp only [Nat.zero_add,Option.isSome_none,Bool.false_eq_true,if_false]
 simpa using hj
theorem jQ (W:WH) (o:Obj):Below W.heap.size W (W.alloc o):=(xG _ _).alloc (xN _) _
def zeroCells (P:WL) (t:WJ):Option (List WI):=((P.info? t).bind (·.zero)).map (·.cells.toList)
def wQ (w0:WH) (t:WJ) (cs:List WI):SF:=⟨fun v W=> ∃b,v= .pointer (some ⟨b,0,none⟩)/\w0.heap.size<=b/\W.heap[b]?=some (.cells cs.toArray t (0,0)),fun _ _ _ ⟨b,h1,h2,h3⟩ hb=>⟨b,h1,h2,(hb.block b (xD.1 h3).1).trans h3⟩⟩
theorem zIO {e:WJ} {cs:List WI} (hz:zeroCells P e=some cs) (hd: ∀v W,(wQ w0 e cs).p v W->(G d).p v W:=by exact fun _ _ h=>h):qB F m P w0 ops G ⟨some d, .alloc e,ty,pos,aft,none⟩:=
 zK1 (fun _ e=>by cases e) (fun _ e=>by cases e) fun b W hb hh=>by
  unfold zeroCells at hz
  cases hi:P.info? e with
  |none=>rw [hi] at hz;cases hz
  | some i=>
   rw [hi] at hz
   simp only [Option.bind_some] at hz
   cases hzz:i.zero with
   |none=>rw [hzz] at hz;cases hz
   | some z=>
    rw [hzz] at hz
    simp only [xZ,bB] at hz
    subst hz
    refine ⟨.pointer (some ⟨W.heap.size,0,none⟩), .cells z.cells e, ?_,hd _ _ ⟨W.heap.size,rfl,hb.size, ?_⟩⟩
    ·simp [execOp,Instr.alloc,zeroValue,typeInfo,hi,hzz,newVar,newRow]
    ·have:=xY W (.cells z.cells e)
     simpa using this
def wI (A B:SF):SF:=⟨fun v W=> ∃x y,v= .tuple #[x,y]/\A.p x W/\B.p y W,fun _ _ _ ⟨x,y,h1,h2,h3⟩ hb=>⟨x,y,h1,A.st _ _ _ h2 hb,B.st _ _ _ h3 hb⟩⟩
def wM (A B C:SF):SF:=⟨fun v W=> ∃x y z,v= .tuple #[x,y,z]/\A.p x W/\B.p y W/\C.p z W,fun _ _ _ ⟨x,y,z,h1,h2,h3,h4⟩ hb=>⟨x,y,z,h1,A.st _ _ _ h2 hb,B.st _ _ _ h3 hb,C.st _ _ _ h4 hb⟩⟩
theorem zGZ {x:WK} {i:Nat} (h: ∀v W,(fct G x).p v W-> ∃vs u,v= .tuple vs/\vs[i]?=some u/\(G d).p u W):qB F m P w0 ops G ⟨some d, .extract x i,ty,pos,aft,none⟩:=
 qQ (fun _ e=>by cases e) (fun _ e=>by cases e) fun b W hb hh=>by
  obtain ⟨vs,u,e,h1,h2⟩:=h _ _ (hh x (by simp [Op.operands]))
  exact ⟨u,by simp [execOp,Instr.extract,e,h1],h2⟩
theorem zAK {x:WK} {A B:SF} (hx: ∀v W,(fct G x).p v W->(wI A B).p v W) (hd: ∀v W,A.p v W->(G d).p v W:=by exact fun _ _ h=>h):qB F m P w0 ops G ⟨some d, .extract x 0,ty,pos,aft,none⟩:=
 zGZ fun v W h=>let ⟨a,_,e,h1,_⟩:=hx v W h;⟨_,a,e,rfl,hd _ _ h1⟩
theorem zAJ {x:WK} {A B:SF} (hx: ∀v W,(fct G x).p v W->(wI A B).p v W) (hd: ∀v W,B.p v W->(G d).p v W:=by exact fun _ _ h=>h):qB F m P w0 ops G ⟨some d, .extract x 1,ty,pos,aft,none⟩:=
 zGZ fun v W h=>let ⟨_,b,e,_,h1⟩:=hx v W h;⟨_,b,e,rfl,hd _ _ h1⟩
theorem zD5 {x:WK} {A B C:SF} (hx: ∀v W,(fct G x).p v W->(wM A B C).p v W) (hd: ∀v W,A.p v W->(G d).p v W:=by exact fun _ _ h=>h):qB F m P w0 ops G ⟨some d, .extract x 0,ty,pos,aft,none⟩:=
 zGZ fun v W h=>let ⟨a,_,_,e,h1,_⟩:=hx v W h;⟨_,a,e,rfl,hd _ _ h1⟩
theorem zD4 {x:WK} {A B C:SF} (hx: ∀v W,(fct G x).p v W->(wM A B C).p v W) (hd: ∀v W,B.p v W->(G d).p v W:=by exact fun _ _ h=>h):qB F m P w0 ops G ⟨some d, .extract x 1,ty,pos,aft,none⟩:=
 zGZ fun v W h=>let ⟨_,b,_,e,_,h1,_⟩:=hx v W h;⟨_,b,e,rfl,hd _ _ h1⟩
theorem zD3 {x:WK} {A B C:SF} (hx: ∀v W,(fct G x).p v W->(wM A B C).p v W) (hd: ∀v W,C.p v W->(G d).p v W:=by exact fun _ _ h=>h):qB F m P w0 ops G ⟨some d, .extract x 2,ty,pos,aft,none⟩:=
 zGZ fun v W h=>let ⟨_,_,c,e,_,_,h1⟩:=hx v W h;⟨_,c,e,rfl,hd _ _ h1⟩
theorem zFY {t:WJ} {parts:Array (Nat×WK)} (h: ∀(b:Act) (W:WH),Below w0.heap.size w0 W->(∀x,x∈parts.toList.map (·.2)->(fct G x).p (b.eval x) W)-> ∃cells,P.built t (parts.map fun (i,x)=>(i,b.eval x)).toList=some cells/\(G d).p (.agg cells) W):qB F m P w0 ops G ⟨some d, .build t parts,ty,pos,aft,none⟩:=
 qQ (fun _ e=>by cases e) (fun _ e=>by cases e) fun b W hb hh=>by
  obtain ⟨cells,h1,h2⟩:=h b W hb fun x hx=>hh x (by simpa [Op.operands] using hx)
  exact ⟨_,by simp only [execOp,Sem.run_bind,run_build W t _ cells h1,bC,Sem.run_pure],h2⟩
theorem zAo {t:WJ} {i j:Nat} {x y:WK} (h: ∀u v W,(fct G x).p u W->(fct G y).p v W-> ∃cells,P.built t [(i,u),(j,v)]=some cells/\(G d).p (.agg cells) W):qB F m P w0 ops G ⟨some d, .build t #[(i,x),(j,y)],ty,pos,aft,none⟩:=
 zFY fun b W hb hh=>by
  obtain ⟨cells,h1,h2⟩:=h _ _ W (hh x (by simp)) (hh y (by simp))
  exact ⟨cells,by simpa using h1,h2⟩
theorem zEE {t:WJ} {i:Nat} {x:WK} (h: ∀u W,(fct G x).p u W-> ∃cells,P.built t [(i,u)]=some cells/\(G d).p (.agg cells) W):qB F m P w0 ops G ⟨some d, .build t #[(i,x)],ty,pos,aft,none⟩:=
 zFY fun b W hb hh=>by
  obtain ⟨cells,h1,h2⟩:=h _ W (hh x (by simp))
  exact ⟨cells,by simpa using h1,h2⟩
def zS (P:WL) (t:WJ) (len:Nat) (parts:List (Nat×WI)):Option (WJ×Array WI):=match P.underlying t with
 | some (.slice e)=>match P.info? e with
  |some ie=>match ie.zero with
   |some z=>if len*ie.size>2^24∨len*ie.size=0 then none else (Instr.fill (fun i=>some (i*ie.size,ie.size)) ((Array.range (len*ie.size)).map (z.cells[· % z.cells.size]!)) parts).map fun cs=>(e,cs)
   |none=>none
  |none=>none
 |_=>none
theorem zDE {t e:WJ} {len:Nat} {parts:Array (Nat×WI)} {cs:Array WI} (h:zS P t len parts.toList=some (e,cs)) (W:WH):(Instr.buildSlice t len parts).run P W= .ok (.slice (some ⟨W.heap.size,0,none⟩) len len) (W.alloc (.cells cs e)):=by
 unfold zS at h
 split at h<;>try cases h
 rename_i e' hu
 split at h<;>try cases h
 rename_i ie hi
 split at h<;>try cases h
 rename_i z hz
 split at h<;>try cases h
 rename_i hn
 simp only [Option.map_eq_some_iff] at h
 obtain ⟨cs',h1,h2⟩:=h
 cases h2
 exact run_buildSlice W t _ len parts cs ie z hu hi hz (fun h=>hn (.inl h)) (fun h=>hn (.inr h)) h1
theorem zBU {t:WJ} {len:Nat} {parts:Array (Nat×WK)} (h: ∀(b:Act) (W:WH),Below w0.heap.size w0 W->(∀x,x∈parts.toList.map (·.2)->(fct G x).p (b.eval x) W)-> ∃e cs,zS P t len (parts.map fun (i,x)=>(i,b.eval x)).toList=some (e,cs)/\(G d).p (.slice (some ⟨W.heap.size,0,none⟩) len len) (W.alloc (.cells cs e))):qB F m P w0 ops G ⟨some d, .buildSlice t len parts,ty,pos,aft,none⟩:=
 zK1 (fun _ e=>by cases e) (fun _ e=>by cases e) fun b W hb hh=>by
  obtain ⟨e,cs,h1,h2⟩:=h b W hb fun x hx=>hh x (by simpa [Op.operands] using hx)
  exact ⟨_,_,by simp only [execOp,Sem.run_bind,zDE h1 W,bC,Sem.run_pure],h2⟩
theorem zC3 {t:WJ} {x:WK} (h: ∀u W,(fct G x).p u W-> ∃e cs,zS P t 1 [(0,u)]=some (e,cs)/\(G d).p (.slice (some ⟨W.heap.size,0,none⟩) 1 1) (W.alloc (.cells cs e))):qB F m P w0 ops G ⟨some d, .buildSlice t 1 #[(0,x)],ty,pos,aft,none⟩:=
 zBU fun b W hb hh=>by
  obtain ⟨e,cs,h1,h2⟩:=h _ W (hh x (by simp))
  exact ⟨e,cs,by simpa using h1,h2⟩
theorem qD {t:WJ} {x y:WK} (h: ∀u v W,(fct G x).p u W->(fct G y).p v W-> ∃e cs,zS P t 2 [(0,u),(1,v)]=some (e,cs)/\(G d).p (.slice (some ⟨W.heap.size,0,none⟩) 2 2) (W.alloc (.cells cs e))):qB F m P w0 ops G ⟨some d, .buildSlice t 2 #[(0,x),(1,y)],ty,pos,aft,none⟩:=
 zBU fun b W hb hh=>by
  obtain ⟨e,cs,h1,h2⟩:=h _ _ W (hh x (by simp)) (hh y (by simp))
  exact ⟨e,cs,by simpa using h1,h2⟩
theorem zGX {t:WJ} {x y z:WK} (h: ∀u v q W,(fct G x).p u W->(fct G y).p v W->(fct G z).p q W-> ∃e cs,zS P t 3 [(0,u),(1,v),(2,q)]=some (e,cs)/\(G d).p (.slice (some ⟨W.heap.size,0,none⟩) 3 3) (W.alloc (.cells cs e))):qB F m P w0 ops G ⟨some d, .buildSlice t 3 #[(0,x),(1,y),(2,z)],ty,pos,aft,none⟩:=
 zBU fun b W hb hh=>by
  obtain ⟨e,cs,h1,h2⟩:=h _ _ _ W (hh x (by simp)) (hh y (by simp)) (hh z (by simp))
  exact ⟨e,cs,by simpa using h1,h2⟩
def Ret (W:WH) (f:SF):Ending->WH->Prop:=fun e W'=> ∃v,e= .returned v/\f.p v W'/\Below W.heap.size W W'
def zHl (F:Fence) (m:Nat) (P:WL):Prop:=(∀f,F.fn f)/\(F.depth.isSome=true->1<=m)/\ ∀f args w R,Calls P f args w R->CallsIn F (m - 1) P f args w R
theorem zF:zHl Fence.wide m P:=⟨fun _=>trivial,fun h=>(by cases h),fun _ _ _ _ h=>callsIn_wide.2 h⟩
theorem zCu {f:FuncId} {xs:Array WK} {ats:Array WJ} (hF:zHl F m P) (he:Enters P f)
  (h: ∀(b:Act) (W:WH),Below w0.heap.size w0 W->(∀x,x∈xs.toList->(fct G x).p (b.eval x) W)->Calls P f (xs.map b.eval) W (Ret W (G d))):
  qB F m P w0 ops G ⟨some d, .call ⟨.value (.func f),xs,ats⟩,ty,pos,aft,none⟩:=by
 intro b W K Q hb hr hK
 have h1:=h b W hb fun x hx=>y6 hr (x:=x) (by simp [Op.operands,Call.operands];right;simpa using hx)
 refine ⟨fun g _=>hF.1 g, ?_⟩
 rw [xK _ _ _ (fun _ e=>by cases e),execOp_call_go]
 rw [he]
 simp only [Oper.uponIn_enter]
 refine ⟨hF.2.1,CallsIn.mono (hF.2.2 _ _ _ (Ret W (G d)) ?_) fun e W' he=> ?_⟩
 ·simpa using h1
 ·obtain ⟨v,rfl,hv,hb'⟩:=he
  exact hK v W' (fun d' e=>by cases e;exact hv) hb'
theorem zIN {f:FuncId} {ats:Array WJ} (hF:zHl F m P) (he:Enters P f) (h: ∀W,Below w0.heap.size w0 W->Calls P f #[] W (Ret W (G d))):qB F m P w0 ops G ⟨some d, .call ⟨.value (.func f),#[],ats⟩,ty,pos,aft,none⟩:=
 zCu hF he fun b W hb _=>by simpa using h W hb
theorem zM {f:FuncId} {x:WK} {ats:Array WJ} (hF:zHl F m P) (he:Enters P f) (h: ∀u W,Below w0.heap.size w0 W->(fct G x).p u W->Calls P f #[u] W (Ret W (G d))):qB F m P w0 ops G ⟨some d, .call ⟨.value (.func f),#[x],ats⟩,ty,pos,aft,none⟩:=
 zCu hF he fun b W hb hh=>by simpa using h _ W hb (hh x (by simp))
theorem yB {f:FuncId} {x y:WK} {ats:Array WJ} (hF:zHl F m P) (he:Enters P f) (h: ∀u v W,Below w0.heap.size w0 W->(fct G x).p u W->(fct G y).p v W->Calls P f #[u,v] W (Ret W (G d))):qB F m P w0 ops G ⟨some d, .call ⟨.value (.func f),#[x,y],ats⟩,ty,pos,aft,none⟩:=
 zCu hF he fun b W hb hh=>by simpa using h _ _ W hb (hh x (by simp)) (hh y (by simp))
theorem zD7 {f:FuncId} {x y z:WK} {ats:Array WJ} (hF:zHl F m P) (he:Enters P f) (h: ∀u v q W,Below w0.heap.size w0 W->(fct G x).p u W->(fct G y).p v W->(fct G z).p q W->Calls P f #[u,v,q] W (Ret W (G d))):qB F m P w0 ops G ⟨some d, .call ⟨.value (.func f),#[x,y,z],ats⟩,ty,pos,aft,none⟩:=
 zCu hF he fun b W hb hh=>by simpa using h _ _ _ W hb (hh x (by simp)) (hh y (by simp)) (hh z (by simp))
theorem zD {op:Op} {j:Nat} {want:Bool} (g:Nat) (bv:Bool) (hj:zX ops j=some g) (hg: ∀v W,(G g).p v W->v= .bool bv) (h1:bv=want->qB F m P w0 ops G ⟨some d,op,ty,pos,aft,none⟩) (h2:bv≠want-> ∀W,(G d).p undef W)
  (h3:bv≠want-> ∀W ρ f,(⟨some d,op,ty,pos,aft,none⟩:Oper).about P W ρ=some f->F.fn f:=by first|exact fun e=>absurd rfl e|exact fun _ _ _ _ h=>by cases h|exact fun _ _ _ _ _=>trivial):qB F m P w0 ops G ⟨some d,op,ty,pos,aft,some (j,want)⟩:=
 ⟨g, .bool bv,hj,hg,fun e=>h1 (by injection e),fun e=>⟨fun d' hd W=>by cases hd;exact h2 (fun k=>e (by rw [k])) W,h3 (fun k=>e (by rw [k]))⟩⟩
theorem qM {op:Op} {j:Nat} {want:Bool} (g:Nat) (u:WI) (hj:zX ops j=some g) (hg: ∀v W,(G g).p v W->v=u) (hne:u≠ .bool want) (h2: ∀W,(G d).p undef W)
  (h3: ∀W ρ f,(⟨some d,op,ty,pos,aft,none⟩:Oper).about P W ρ=some f->F.fn f:=by first|exact fun _ _ _ h=>by cases h|exact fun _ _ _ _=>trivial):qB F m P w0 ops G ⟨some d,op,ty,pos,aft,some (j,want)⟩:=
 ⟨g,u,hj,hg,fun e=>absurd e hne,fun _=>⟨fun d' hd W=>by cases hd;exact h2 W,h3⟩⟩
theorem yE {c x y:WK} (bv:Bool) (hc: ∀v W,(fct G c).p v W->v= .bool bv) (h1:bv=true-> ∀v W,(fct G x).p v W->(G d).p v W) (h2:bv=false-> ∀v W,(fct G y).p v W->(G d).p v W):qB F m P w0 ops G ⟨some d, .pick c x y,ty,pos,aft,none⟩:=
 qQ (fun _ e=>by cases e) (fun _ e=>by cases e) fun b W hb hh=>by
  have e:=hc _ _ (hh c (by simp [Op.operands]))
  cases bv with
  |true=>exact ⟨_,by simp [execOp,e,asBool],h1 rfl _ _ (hh x (by simp [Op.operands]))⟩
  |false=>exact ⟨_,by simp [execOp,e,asBool],h2 rfl _ _ (hh y (by simp [Op.operands]))⟩
theorem zAT {x:WK} {t:WJ} (bv:Bool) (hx: ∀v W,(fct G x).p v W->v= .bool bv) (hd: ∀W,(G d).p (.bool (!bv)) W):qB F m P w0 ops G ⟨some d, .unOp .not t x,ty,pos,aft,none⟩:=
 qQ (fun _ e=>by cases e) (fun _ e=>by cases e) fun b W hb hh=>by
  have e:=hx _ _ (hh x (by simp [Op.operands]))
  exact ⟨_,by simp [execOp,e,Op.unary],hd W⟩
theorem zDI {op:BinOp} {t:WJ} {x y:WK} {t':WJ} (u v r:WI) (hx: ∀q W,(fct G x).p q W->q=u) (hy: ∀q W,(fct G y).p q W->q=v) (hg: ∀W,(eqGuard op t x y u v).run P W= .ok () W) (hr: ∀W,(binOp op t u v).run P W= .ok r W) (hd: ∀W,(G d).p r W):qB F m P w0 ops G ⟨some d, .binOp op t x y t',ty,pos,aft,none⟩:=
 qQ (fun _ e=>by cases e) (fun _ e=>by cases e) fun b W hb hh=>by
  have e1:=hx _ _ (hh x (by simp [Op.operands]))
  have e2:=hy _ _ (hh y (by simp [Op.operands]))
  exact ⟨r,by simp [execOp,e1,e2,hg,hr],hd W⟩
end
end Go.Proofs.Wd

namespace Go.Proofs.Wd
open Go.RowKit
def zP0:Nat->SF:=fun _=>SF.any
def zJK:Nat->List SF->List (Nat×SF)
 |_, []=> []
 |k,f::l=>(k,f)::zJK (k+1) l
def zEZ (w:WH):List SF->List WI->Prop
 | [],_=>True
 |f::l,v::vs=>f.p v w/\zEZ w l vs
 |_::_, []=>False
theorem zL1 {w:WH}: ∀(l:List SF) (vs:List WI) (k t:Nat),zEZ w l vs-> ∀u,(∀j,k+j=t->u=vs.getD j undef)->(upd zP0 (zJK k l) t).p u w
 | [],_,_,_,_,_,_=>trivial
 |f::l, [],_,_,h,_,_=>h.elim
 | f::l,v::vs,k,t,h,u,hu=>by
  show (bif Nat.beq k t then f else upd zP0 (zJK (k+1) l) t).p u w
  cases e:Nat.beq k t with
  |true=>
   have:=xL e
   rw [hu 0 oD]
   exact h.1
  |false=>
   refine zL1 l vs (k+1) t h.2 u fun j hj=> ?_
   rw [hu (j+1) oD]
   rfl
structure UF extends tS:SF where
 us: ∀v w w',p v w->(∀q x,w.cell? q=some (.int .u32 x)->w'.cell? q=some (.int .u32 x))->p v w'
theorem zNU {fn:Func} {args:Array WI} {w:WH} (l:List SF) (hn:Nat.ble args.size fn.ntmps=true) (hA:zEZ w l args.toList):At w (upd zP0 (zJK 0 l)) fn.ntmps [] { tmps:=args++Array.replicate (fn.ntmps - args.size) undef,defers:= [] } w:=by
 have hn:=Nat.le_of_ble_eq_true hn
 refine ⟨xG _ _,by simp;omega,rfl,fun t=> ?_⟩
 by_cases ht:t<args.toList.length
 ·refine zL1 l _ 0 t hA _ fun j hj=> ?_
  obtain rfl:j=t:=by omega
  have ht':j<args.size:=by simpa using ht
  simp [Array.getElem?_append,ht',List.getD]
 ·have: ∀(l:List SF) (vs:List WI) (k:Nat),zEZ w l vs->k+vs.length<=t->upd zP0 (zJK k l) t=SF.any:=by
   intro l
   induction l with
   |nil=>intro vs k _ _;rfl
   | cons f l ih=>
    intro vs k h hk
    cases vs with
    |nil=>exact h.elim
    | cons v vs=>
     simp only [List.length_cons] at hk
     have hne:Nat.beq k t=false:=by
      cases e:Nat.beq k t with
      |false=>rfl
      |true=>have:=xL e;omega
     show (bif Nat.beq k t then f else upd zP0 (zJK (k+1) l) t)=_
     rw [hne]
     exact ih vs (k+1) h.2 oD
  rw [this l args.toList 0 hA oD]
  trivial
section
variable {F:Fence} {m:Nat} {P:WL} {Q:Exit->Act->WH->Prop} {w0:WH} {G:Nat->SF} {n:Nat} {ds:List Deferred} {a:Act} {w:WH}
theorem zTz {c:Code} (N:Nat) (i:Nat) (Gf:Nat->Nat->SF) (hi: ∀k v W,(Gf k i).p v W->v= .int .i64 (k:Int)) (h0:At w0 (Gf 0) n ds a w)
  (round: ∀k a w,k<=N->At w0 (Gf k) n ds a w->c.wpIn F m P (Exit.then (fun a' w'=>k<N/\At w0 (Gf (k+1)) n ds a' w') Q) a w):(Code.loop c).wpIn F m P Q a w:=by
 refine wpIn_loop (fun a w=> ∃k,k<=N/\At w0 (Gf k) n ds a w) (fun a _=>N+1 - (match a.tmps.getD i undef with| .int _ z=>z.toNat|_=>0)) ⟨0,Nat.zero_le _,h0⟩ ?_
 rintro a w ⟨k,hk,hA⟩
 refine Code.wpIn_mono ?_ (round k a w hk hA)
 intro e a' w' h
 cases e with
 |normal=>
  obtain ⟨h1,h2⟩:k<N/\At w0 (Gf (k+1)) n ds a' w':=h
  refine ⟨⟨k+1,h1,h2⟩, ?_⟩
  have e1:=hi _ _ _ (hA.sl i)
  have e2:=hi _ _ _ (h2.sl i)
  simp only [e1,e2,Int.toNat_natCast]
  have h3:N+1 - (k+1)<N+1 - k:=by omega
  exact h3
 |_=>exact h
def yL (w w':WH):Prop:= ∀p x,w.cell? p=some (.int .u32 x)->w'.cell? p=some (.int .u32 x)
theorem yL.trans {u v w:WH} (h:yL u v) (k:yL v w):yL u w:=fun p x hp=>k p x (h p x hp)
theorem Rd.keepU {w w':WH} {A:Option Addr} {n c:Nat} {l:List Nat} (h:Rd w A n c l) (hk:yL w w'):Rd w' A n c l:=
 ⟨h.len,h.le,h.cap,h.nil,fun i hi=>let ⟨b,o,e,hc⟩:=h.cells i hi;⟨b,o,e,hk _ _ hc⟩⟩
def yA:WI->Bool
 | .int .u32 _=>false
 |_=>true
theorem zDC {b:Nat} {t:WJ} {cs vs:Array WI} (hb:w.heap[b]?=some (.cells cs t (0,0))) (hn:cs.all yA=true):yL w (w.setRow b vs):=fun p x hp=>by
 rw [cell_setRow_other]
 ·exact hp
 ·intro e
  have h1:w.cell? p=if p.spot.isSome then none else cs[p.off]?:=by
   unfold World.cell?
   rw [e,hb]
  rw [h1] at hp
  split at hp
  ·cases hp
  ·have:=Array.all_eq_true_iff_forall_mem.1 hn _ (Array.mem_of_getElem? hp)
   cases this
theorem zFB {b:Nat} {t:WJ} {k:Nat} (hsz:zAx P t=some k) {cs vs:List WI} (hl:vs.length=k) (hc:cs.length=k) (h1: ∀u,u∈vs->u.oneCell'=true) (hb:w.heap[b]?=some (.cells cs.toArray t (0,0))):
  (storeVar t ⟨b,0,none⟩ (.agg vs.toArray)).run P w= .ok () (w.setRow b vs.toArray):=by
 obtain ⟨_,i,hi,his⟩:=zCX hsz w
 have:=run_storeCells_from (P:=P) b t vs 0 cs.toArray w hb (by simp;omega) h1
 simp only [List.take_zero,List.nil_append] at this
 simp [storeVar,sizeOf,typeInfo,hi,his,Value.cells,hl,this]
theorem zNb {t:WJ} {k:Nat} {c:Nat} {x:WK} {ty:WJ} {pos:String} {aft:Array Edge} {K:Act->WH->Prop} {te:WJ} {cs:List WI} (hsz:zAx P t=some k) (hte:te=t) (hc:cs.length=k)
  {b:Nat} {vs:List WI} (hp:a.tmps.getD c undef= .pointer (some ⟨b,0,none⟩)) (hb:w.heap[b]?=some (.cells cs.toArray te (0,0))) (hx:a.eval x= .agg vs.toArray) (hl:vs.length=k) (h1: ∀u,u∈vs->u.oneCell'=true)
  (hK:K a (w.setRow b vs.toArray)):(⟨none, .store t (.tmp c) x,ty,pos,aft,none⟩:Oper).wpIn F m P a w K Q:=by
 subst hte
 refine ⟨fun f hf=>(by cases hf), ?_⟩
 rw [xK _ _ _ (fun _ e=>by cases e)]
 have:(execOp a.eval ⟨none, .store te (.tmp c) x,ty,pos,aft,none⟩).run P w= .ok .skip (w.setRow b vs.toArray):=by
  have hp':a.eval (.tmp c)= .pointer (some ⟨b,0,none⟩):=hp
  simp [execOp,hp',hx,Instr.storeAt,Instr.sureAddr,zFB hsz hl hc h1 hb]
 rw [this]
 exact hK
theorem zFD {t:WJ} {k:Nat} (hsz:zAx P t=some k) {b:Nat} {te:WJ} {vs:List WI} (hl:vs.length=k) (hb:w.heap[b]?=some (.cells vs.toArray te (0,0))):(loadVar t ⟨b,0,none⟩).run P w= .ok (.agg vs.toArray) w:=by
 have hm:Mem w b 0 vs:=fun j u hj=>by
  unfold World.cell?
  rw [hb]
  simpa using hj
 have:=zBm hsz hm oD
 rwa [List.take_of_length_le oD] at this
end
end Go.Proofs.Wd

namespace Go.Proofs.Wd
open Go.RowKit
theorem zK {w w':WH} (hb:Below w.heap.size w w'):yL w w':=fun q x hq=>(hb.cell (p:=q) (xX w _ hq)).trans hq
def UF.mk' (p:WI->WH->Prop) (us: ∀v w w',p v w->yL w w'->p v w'):UF:=⟨⟨p,fun v w w' h hb=>us v w w' h (zK hb)⟩,us⟩
def UF.any:UF:= .mk' (fun _ _=>True) fun _ _ _ _ _=>trivial
def UF.eq (u:WI):UF:= .mk' (fun v _=>v=u) fun _ _ _ h _=>h
abbrev uI (z:Int):UF:=UF.eq (.int .i64 z)
abbrev uB (b:Bool):UF:=UF.eq (.bool b)
def zCR (A B:UF):UF:= .mk' (wI A.tS B.tS).p fun _ _ _ ⟨x,y,h1,h2,h3⟩ k=>⟨x,y,h1,A.us _ _ _ h2 k,B.us _ _ _ h3 k⟩
def zLH (A B C:UF):UF:= .mk' (wM A.tS B.tS C.tS).p fun _ _ _ ⟨x,y,z,h1,h2,h3,h4⟩ k=>⟨x,y,z,h1,A.us _ _ _ h2 k,B.us _ _ _ h3 k,C.us _ _ _ h4 k⟩
inductive KF where
 |u (f:UF)
 |o (f:SF)
def KF.sf:KF->SF
 | .u f=>f.tS
 | .o f=>f
def KF.p (w0:WH):KF->WI->WH->Prop
 | .u f,v,w=>f.p v w
 | .o f,v,_=>f.p v w0
theorem KF.us {w0:WH} {k:KF} {v:WI} {w w':WH} (h:k.p w0 v w) (hk:yL w w'):k.p w0 v w':=by
 cases k with
 |u f=>exact f.us _ _ _ h hk
 |o f=>exact h
theorem vO {w0:WH} {k:KF} {v:WI} {w:WH} (h:k.p w0 v w) (hb:Below w0.heap.size w0 w):k.sf.p v w:=by
 cases k with
 |u f=>exact h
 |o f=>exact f.st _ _ _ h hb
structure CU where
 p:List WI->WH->Prop
 us: ∀cs w w',p cs w->yL w w'->p cs w'
def CU.cf (C:CU):CF:=⟨C.p,fun cs w w' h hb=>C.us cs w w' h (zK hb)⟩
def CU.agg (f:UF):CU:=⟨fun cs w=>f.p (.agg cs.toArray) w,fun _ _ _ h k=>f.us _ _ _ h k⟩
abbrev cg (f:UF):CF:=(CU.agg f).cf
def CU.len (k:Nat):CU:=⟨fun cs _=>cs.length=k,fun _ _ _ h _=>h⟩
structure Bx where
 t:Nat
 e:WJ
 c:CU
 b:Nat
 r:Bool
def y5 (S:Nat->Prop) (w0:WH) (a:Act) (w:WH):List Bx->Prop
 | []=>True
 |x::B=>(∃cs:List WI,a.tmps.getD x.t undef= .pointer (some ⟨x.b,0,none⟩)/\(x.r=true∨w0.heap.size<=x.b∨S x.b)/\w.heap[x.b]?=some (.cells cs.toArray x.e (0,0))/\x.c.p cs w/\cs.all yA=true/\ ∀y,y∈B->y.b≠x.b∨(x.r=true/\y.r=true))/\y5 S w0 a w B
structure BlS (S:Nat->Prop) (w w':World):Prop where
 os:w'.os=w.os
 tape:w'.tape=w.tape
 output:w'.output=w.output
 size:w.heap.size<=w'.heap.size
 block: ∀k,k<w.heap.size-> ¬S k->w'.heap[k]?=w.heap[k]?
def noS:Nat->Prop:=fun _=>False
theorem BlS.below {w w':WH} (h:BlS noS w w'):Below w.heap.size w w':=⟨h.os,h.tape,h.output,h.size,fun k hk=>h.block k hk (fun x=>x)⟩
theorem BlS.trans {S:Nat->Prop} {u w w':WH} (h:BlS S u w) (hb:Below w.heap.size w w'):BlS S u w':=⟨hb.os.trans h.os,hb.tape.trans h.tape,hb.output.trans h.output,xU h.size hb.size,fun k hk hs=>(hb.block k (Nat.lt_of_lt_of_le hk h.size)).trans (h.block k hk hs)⟩
theorem BlS.refl (S:Nat->Prop) (w:WH):BlS S w w:=⟨rfl,rfl,rfl,xN _,fun _ _ _=>rfl⟩
theorem BlS.row {S:Nat->Prop} {u w:WH} (h:BlS S u w) {b:Nat} (hb:u.heap.size<=b∨S b) (vs:Array WI):BlS S u (w.setRow b vs):=
 ⟨h.os,h.tape,h.output,by rw [size_setRow];exact h.size,fun k hk hs=>(setRow_other w b k vs (fun e=>by subst e;rcases hb with hb|hb;omega;exact hs hb)).trans (h.block k hk hs)⟩
theorem BlS.grown {S:Nat->Prop} {u w w':WH} (h:BlS S u w) {b:Nat} (hg:w.grownBy w' (some b)) (hb:u.heap.size<=b∨S b):BlS S u w':=
 ⟨hg.os.trans h.os,hg.tape.trans h.tape,hg.output.trans h.output,xU h.size hg.size,fun k hk hs=>(hg.block k (Nat.lt_of_lt_of_le hk h.size) (fun e=>by cases e;rcases hb with hb|hb;omega;exact hs hb)).trans (h.block k hk hs)⟩
structure StS (S:Nat->Prop) (w0:World) (K:List (Nat×KF)) (B:List Bx) (n:Nat) (ds:List Deferred) (a:Act) (w:World):Prop where
 gr:BlS S w0 w
 size:a.tmps.size=n
 nd:a.defers=ds
 sl: ∀q,q∈K->q.2.p w0 (a.tmps.getD q.1 undef) w
 bx:y5 S w0 a w B
 mks: ∃Ds,Marks w0.heap.size w ds Ds
 so:(∀q,q∈K-> ∃f,q.2= .u f)∨ ∀k, ¬S k
abbrev St:=StS noS
theorem zAW {w0 w w':WH} {ds:List Deferred} (h: ∃Ds,Marks w0.heap.size w ds Ds) (hb:Below w.heap.size w w'): ∃Ds,Marks w0.heap.size w' ds Ds:=h.imp fun _ h=>h.keep fun k _ hk _=>(hb.block k (xD.1 hk).1).trans hk
theorem zHQ {w0 w w':WH} {ds:List Deferred} (h: ∃Ds,Marks w0.heap.size w ds Ds) {b:Nat} (hg:w.grownBy w' (some b)) {cs:Array WI} {t:WJ} {z:Nat×Nat} (hc:w.heap[b]?=some (.cells cs t z)): ∃Ds,Marks w0.heap.size w' ds Ds:=h.imp fun _ h=>h.keep fun k o hk ho=>(hg.block k (xD.1 hk).1 (fun e=>by cases e;rw [hc] at hk;cases hk;cases ho)).trans hk
inductive Rw where
 |u (f:UF)
 |s (f:SF)
abbrev pO (b o:Nat):WI:=.pointer (some ⟨b,o,none⟩)
abbrev Rw.Z (f:UF):Rw:=.s f.tS
def Rw.sf:Rw->SF
 | .u f=>f.tS
 | .s f=>f
def zR (L:List (Nat×Rw)):List (Nat×SF):=L.map fun q=>(q.1,q.2.sf)
def zBq:List (Nat×Rw)->List (Nat×KF)
 | []=> []
 |(t, .u f)::l=>(t, .u f)::zBq l
 |(_, .s _)::l=>zBq l
def wH (b:Nat) (C:CF):SF:=⟨fun v W=>v= pO b 0/\(wC C).p v W,fun v W W' h hb=>⟨h.1,(wC C).st v W W' h.2 hb⟩⟩
def zSL:List (Nat×KF)->List (Nat×SF)
 | []=> []
 |q::l=>(q.1,q.2.sf)::zSL l
def zSM:List Bx->List (Nat×SF)
 | []=> []
 |x::l=>(x.t,wH x.b x.c.cf)::zSM l
def zAD (K:List (Nat×KF)) (B:List Bx):Nat->SF:=upd (upd zP0 (zSL K)) (zSM B)
theorem zEf {a:Act} {w:WH} {G:Nat->SF} (hG: ∀t,(G t).p (a.tmps.getD t undef) w): ∀(l:List (Nat×SF)),(∀q,q∈l->q.2.p (a.tmps.getD q.1 undef) w)-> ∀t,(upd G l t).p (a.tmps.getD t undef) w
 | [],_,t=>hG t
 | q::l,h,t=>by
  show (bif Nat.beq q.1 t then q.2 else upd G l t).p (a.tmps.getD t undef) w
  cases e:Nat.beq q.1 t with
  |true=>
   have:=xL e
   rw [<-this]
   exact h q (by simp)
  |false=>exact zEf hG l (fun p hp=>h p (by simp [hp])) t
theorem zIU {q:Nat×SF}: ∀{l:List (Nat×KF)},q∈zSL l-> ∃p,p∈l/\q=(p.1,p.2.sf)
 | [],h=>by cases h
 | p::l,h=>by
  rcases xI.1 h with rfl|h
  ·exact ⟨p,by simp,rfl⟩
  ·obtain ⟨r,h1,h2⟩:=zIU h
   exact ⟨r,by simp [h1],h2⟩
theorem zIV {q:Nat×SF}: ∀{l:List Bx},q∈zSM l-> ∃p,p∈l/\q=(p.t,wH p.b p.c.cf)
 | [],h=>by cases h
 | p::l,h=>by
  rcases xI.1 h with rfl|h
  ·exact ⟨p,by simp,rfl⟩
  ·obtain ⟨r,h1,h2⟩:=zIV h
   exact ⟨r,by simp [h1],h2⟩
theorem zAz {q:Nat×KF}: ∀{l:List (Nat×Rw)},q∈zBq l-> ∃f,q.2= .u f/\(q.1,Rw.u f)∈l
 | [],h=>by cases h
 | (t, .u f)::l,h=>by
  rcases xI.1 h with rfl|h
  ·exact ⟨f,rfl,by simp⟩
  ·obtain ⟨g,h1,h2⟩:=zAz h
   exact ⟨g,h1,by simp [h2]⟩
 |(_, .s _)::l,h=>by
  obtain ⟨g,h1,h2⟩:=zAz (l:=l) h
  exact ⟨g,h1,by simp [h2]⟩
theorem y5.mem {S:Nat->Prop} {w0:WH} {a:Act} {w:WH}: ∀{B:List Bx},y5 S w0 a w B-> ∀x,x∈B-> ∃cs:List WI,a.tmps.getD x.t undef= pO x.b 0/\(x.r=true∨w0.heap.size<=x.b∨S x.b)/\w.heap[x.b]?=some (.cells cs.toArray x.e (0,0))/\x.c.p cs w/\cs.all yA=true
 | [],_,_,h=>by cases h
 | y::B,h,x,hx=>by
  rcases xI.1 hx with rfl|hx
  ·obtain ⟨cs,h1,h2,h3,h4,h5,_⟩:=h.1
   exact ⟨cs,h1,h2,h3,h4,h5⟩
  ·exact y5.mem h.2 x hx
theorem jW {w:WH} {b:Nat} {cs:List WI} {t:WJ} (h:w.heap[b]?=some (.cells cs.toArray t (0,0))):Mem w b 0 cs:=fun j u hj=>by
 unfold World.cell?
 rw [h]
 simpa using hj
section
variable {S:Nat->Prop} {F:Fence} {m:Nat} {P:WL} {Q:Exit->Act->WH->Prop} {w0:WH} {K:List (Nat×KF)} {B:List Bx} {n:Nat} {ds:List Deferred} {a:Act} {w:WH}
theorem StS.kn (h:StS S w0 K B n ds a w) {q:Nat×KF} (hq:q∈K):q.2.sf.p (a.tmps.getD q.1 undef) w:=by
 have h1:=h.sl q hq
 rcases h.so with hu|hs
 ·obtain ⟨f,e⟩:=hu q hq
  rw [e] at h1 ⊢
  exact h1
 ·exact vO h1 ⟨h.gr.os,h.gr.tape,h.gr.output,h.gr.size,fun k hk=>h.gr.block k hk (hs k)⟩
theorem StS.at (h:StS S w0 K B n ds a w):At w (zAD K B) n ds a w:=
 ⟨xG _ _,h.size,h.nd,zEf (zEf (fun _=>trivial) _ fun q hq=>(by
  obtain ⟨p,hp,rfl⟩:=zIU hq
  exact h.kn hp)) _ fun q hq=>(by
  obtain ⟨p,hp,rfl⟩:=zIV hq
  obtain ⟨cs,h1,_,h3,h4,_⟩:=h.bx.mem p hp
  exact ⟨h1,p.b,0,cs,h1,h4,jW h3⟩)⟩
theorem StS.up (h:St w0 K B n ds a w) {W:WH} (hb:Below w.heap.size w W):Below w0.heap.size w0 W:=(h.gr.trans hb).below
def zA4 (ops:Array Oper) (ts:List Nat):Bool:=ts.all fun t=>(List.range ops.size).all fun i=> !(zX ops i==some t)
theorem y5.keep {a':Act} {w':WH} (hb:Below w.heap.size w w') (hk:yL w w'): ∀(B:List Bx),(∀x,x∈B->a'.tmps.getD x.t undef=a.tmps.getD x.t undef)->y5 S w0 a w B->y5 S w0 a' w' B
 | [],_,_=>trivial
 |x::B,hs,⟨⟨cs,h1,h2,h3,h4,h5,h6⟩,h7⟩=>
  ⟨⟨cs,by rw [hs x (by simp)];exact h1,h2,(hb.block _ (xD.1 h3).1).trans h3,x.c.us _ _ _ h4 hk,h5,h6⟩,y5.keep hb hk B (fun y hy=>hs y (by simp [hy])) h7⟩
def zAw (K:List (Nat×KF)) (B:List Bx) (a:Act) (t:Nat):SF:=if t∈K.map (·.1)++B.map (·.t) then ⟨fun v W=>(zAD K B t).p v W/\v=a.tmps.getD t undef,fun _ _ _ h hb=>⟨(zAD K B t).st _ _ _ h.1 hb,h.2⟩⟩ else zAD K B t
def zAL:List Nat->Bool
 | []=>true
 |x::l=> !l.contains x&&zAL l
theorem zCH {G:Nat->SF} {q:Nat×SF}: ∀{l:List (Nat×SF)},zAL (l.map (·.1))=true->q∈l->upd G l q.1=q.2
 | [],_,h=>by cases h
 | x::l,hn,h=>by
  rw [List.map_cons,zAL,xF] at hn
  show (bif Nat.beq x.1 q.1 then x.2 else upd G l q.1)=q.2
  rcases xI.1 h with rfl|h
  ·simp
  ·have:Nat.beq x.1 q.1=false:=by
    cases e:Nat.beq x.1 q.1 with
    |false=>rfl
    |true=>
     exfalso
     have e2:=xL e
     have h1:=hn.1
     rw [e2,xJ.2 (xE.2 ⟨q,h,rfl⟩)] at h1
     cases h1
   rw [this]
   exact zCH hn.2 h
def zAG (K0 K:List (Nat×KF)) (B:List Bx) (a:Act) (t:Nat):SF:=if t∈K.map (·.1)++B.map (·.t) then ⟨fun v W=>(zAD (K0++K) B t).p v W/\v=a.tmps.getD t undef,fun _ _ _ h hb=>⟨(zAD (K0++K) B t).st _ _ _ h.1 hb,h.2⟩⟩ else zAD (K0++K) B t
theorem zEk {ops:Array Oper} (K0:List (Nat×KF)) (k:Nat) (L:List (Nat×Rw)) (h:StS S w0 (K0++K) B n ds a w) {Goal:Prop} {Fin:Act->WH->Prop}
  (hT: ∀G':Nat->SF,At w G' n ds a w->Obs F m P w ops (upd G' (zR L)) (ops.toList.take k)->(∀a' w',At w (zEH ops k (upd G' (zR L))) n ds a' w'->Fin a' w')->Goal)
  (hap:qS ops=true) (hks:((L.map (·.1)).all fun t=>(List.range k).any fun i=>zX ops i==some t)=true) (hun:zA4 ops (K.map (·.1)++B.map (·.t))=true) (hnd:zAL (L.map (·.1))=true)
  (hobs:Obs F m P w ops (upd (zAD (K0++K) B) (zR L)) (ops.toList.take k))
  (hfin: ∀a w,StS S w0 (zBq L++K) B n ds a w->(∀q,q∈zR L->q.2.p (a.tmps.getD q.1 undef) w)->Fin a w):Goal:=by
 have hkeys:(zR L).map (·.1)=L.map (·.1):=by simp [zR]
 have hsame: ∀t,t∈K.map (·.1)++B.map (·.t)-> ∀i,zX ops i≠some t:=fun t ht i hi=>by
  have h1:=xC.1 hun t ht
  obtain ⟨o,ho,_⟩:=yZ hi
  have h2:=xC.1 h1 i (xH.2 (xD.1 ho).1)
  rw [hi] at h2
  simp at h2
 have hv: ∀t,t∈K.map (·.1)++B.map (·.t)->a.tmps.getD t undef=a.tmps.getD t undef:=fun _ _=>rfl
 -- the slots of K and B stay: a table that says so
 have hA:=h.at
 refine hT (zAG K0 K B a) ⟨hA.gr,hA.size,hA.nd,fun t=> ?_⟩ ?_ fun a' w' hA'=> ?_
 ·by_cases ht:t∈K.map (·.1)++B.map (·.t)
  ·unfold zAG;rw [if_pos ht];exact ⟨hA.sl t,rfl⟩
  ·unfold zAG;rw [if_neg ht];exact hA.sl t
 ·-- the obligations hold with the stronger table
  have hkn: ∀t,t∈K.map (·.1)++B.map (·.t)->((zR L).map (·.1)).contains t=false:=fun t ht=>by
   cases hc:((zR L).map (·.1)).contains t with
   |false=>rfl
   |true=>
    exfalso
    have hm:=xJ.1 hc
    rw [hkeys] at hm
    obtain ⟨i,_,he⟩:=xP.1 (xC.1 hks t hm)
    exact hsame t ht i (by simpa using he)
  have hle: ∀t v W,(upd (zAG K0 K B a) (zR L) t).p v W->(upd (zAD (K0++K) B) (zR L) t).p v W:=fun t v W hh=>by
   by_cases ht:t∈K.map (·.1)++B.map (·.t)
   ·rw [zAl (hkn t ht)] at hh ⊢
    unfold zAG at hh
    rw [if_pos ht] at hh
    exact hh.1
   ·have: ∀l:List (Nat×SF),upd (zAG K0 K B a) l t=upd (zAD (K0++K) B) l t:=fun l=>by
     induction l with
     |nil=>exact if_neg ht
     |cons q l ih=>
      show (bif Nat.beq q.1 t then q.2 else upd _ l t)=(bif Nat.beq q.1 t then q.2 else upd _ l t)
      rw [ih]
    rwa [this] at hh
  have hge: ∀t,(∃i,zX ops i=some t)-> ∀v W,(upd (zAD (K0++K) B) (zR L) t).p v W->(upd (zAG K0 K B a) (zR L) t).p v W:=fun t ⟨i,hi⟩ v W hh=>by
   have ht: ¬t∈K.map (·.1)++B.map (·.t):=fun ht=>hsame t ht i hi
   have: ∀l:List (Nat×SF),upd (zAG K0 K B a) l t=upd (zAD (K0++K) B) l t:=fun l=>by
    induction l with
    |nil=>exact if_neg ht
    |cons q l ih=>
     show (bif Nat.beq q.1 t then q.2 else upd _ l t)=(bif Nat.beq q.1 t then q.2 else upd _ l t)
     rw [ih]
   rwa [this]
  have hconv: ∀(o:Oper),o∈ops.toList->qB F m P w ops (upd (zAD (K0++K) B) (zR L)) o->qB F m P w ops (upd (zAG K0 K B a) (zR L)) o:=by
   intro o ho hg
   have hdst: ∀d,o.dst=some d-> ∃i,zX ops i=some d:=fun d hd=>by
    obtain ⟨i,hi⟩:=List.getElem?_of_mem ho
    exact ⟨i,by rw [qZ (o:=o) (by simpa using hi)];exact hd⟩
   have hop:zMe F m P w (upd (zAD (K0++K) B) (zR L)) o->zMe F m P w (upd (zAG K0 K B a) (zR L)) o:=fun h1 b W K' Q' hb hr hK'=>
    h1 b W K' Q' hb (fun t ht=>hle t _ _ (hr t ht)) fun v W' hv hb'=>hK' v W' (fun d hd=>hge d (hdst d hd) _ _ (hv d hd)) hb'
   unfold qB at hg ⊢
   cases hgd:o.guard with
   |none=>rw [hgd] at hg;exact hop hg
   |some q=>
    rw [hgd] at hg
    obtain ⟨g,bv,h1,h2,h3,h4⟩:=hg
    exact ⟨g,bv,h1,fun v W hh=>h2 v W (hle g v W hh),fun e=>hop (h3 e),fun e=>⟨fun d hd W=>hge d (hdst d hd) _ _ ((h4 e).1 d hd W),(h4 e).2⟩⟩
  have hall: ∀l:List Oper,(∀o,o∈l->o∈ops.toList)->Obs F m P w ops (upd (zAD (K0++K) B) (zR L)) l->Obs F m P w ops (upd (zAG K0 K B a) (zR L)) l:=by
   intro l
   induction l with
   |nil=>intro _ _;trivial
   |cons o l ih=>intro hm ho;exact ⟨hconv o (hm o (by simp)) ho.1,ih (fun o' ho'=>hm o' (by simp [ho'])) ho.2⟩
  exact hall _ (fun o ho=>List.mem_of_mem_take ho) hobs
 ·have hg:=hA'.gr
  have hslot: ∀t,t∈K.map (·.1)++B.map (·.t)->a'.tmps.getD t undef=a.tmps.getD t undef:=fun t ht=>by
   have h1:=hA'.sl t
   unfold zEH at h1
   have h2:((List.range ops.size).any fun i=>decide (k<=i)&&(zX ops i==some t))=false:=by
    refine xR.2 fun i _=> ?_
    have:=hsame t ht i
    simp [this]
   rw [h2] at h1
   have h3:((zR L).map (·.1)).contains t=false:=by
    cases hc:((zR L).map (·.1)).contains t with
    |false=>rfl
    |true=>
     exfalso
     have hm:=xJ.1 hc
     rw [hkeys] at hm
     obtain ⟨i,_,he⟩:=xP.1 (xC.1 hks t hm)
     exact hsame t ht i (by simpa using he)
   rw [show (bif false then SF.any else upd _ (zR L) t)=upd _ (zR L) t from rfl,zAl h3,zAG,if_pos ht] at h1
   exact h1.2
  have hrow: ∀q,q∈zR L->q.2.p (a'.tmps.getD q.1 undef) w':=fun q hm2=>by
   have h1:=hA'.sl q.1
   obtain ⟨i,hi,he⟩:=xP.1 (xC.1 hks q.1 (by rw [<-hkeys];exact xE.2 ⟨_,hm2,rfl⟩))
   have hik:=xH.1 hi
   have he:zX ops i=some q.1:=by simpa using he
   unfold zEH at h1
   have h2:((List.range ops.size).any fun j=>decide (k<=j)&&(zX ops j==some q.1))=false:=by
    refine xR.2 fun j _=> ?_
    by_cases hj:k<=j
    ·have:zX ops j≠some q.1:=fun e=>by
      obtain ⟨oi,ho1,hd1⟩:=yZ he
      obtain ⟨oj,ho2,hd2⟩:=yZ e
      exact jD hap ho1 ho2 oD hd1 hd2
     simp [this]
    ·simp [hj]
   rw [h2,show (bif false then SF.any else upd (zAG K0 K B a) (zR L) q.1)=upd (zAG K0 K B a) (zR L) q.1 from rfl,zCH (q:=q) (by rw [hkeys];exact hnd) hm2] at h1
   exact h1
  refine hfin a' w' ⟨h.gr.trans hg,hA'.size,hA'.nd,fun q hq=> ?_,h.bx.keep hg (zK hg) B fun x hx=>hslot _ (xO _ (xE.2 ⟨x,hx,rfl⟩)),zAW h.mks hg,h.so.imp (fun hu q hq=>(by
   rcases xS.1 hq with hq|hq
   ·obtain ⟨f,e,_⟩:=zAz hq;exact ⟨f,e⟩
   ·exact hu q (xO _ hq))) (fun x=>x)⟩ hrow
  rcases xS.1 hq with hq|hq
  ·obtain ⟨f,hqf,hm⟩:=zAz hq
   have h1:=hrow (q.1,f.tS) (xE.2 ⟨_,hm,rfl⟩)
   rw [hqf]
   exact h1
  ·rw [hslot q.1 (xT _ (xE.2 ⟨q,hq,rfl⟩))]
   exact KF.us (h.sl q (xO _ hq)) (zK hg)
theorem zFb {ops:Array Oper} (k:Nat) (L:List (Nat×Rw)) (h:StS S w0 K B n ds a w) {Goal:Prop} {Fin:Act->WH->Prop}
  (hT: ∀G':Nat->SF,At w G' n ds a w->Obs F m P w ops (upd G' (zR L)) (ops.toList.take k)->(∀a' w',At w (zEH ops k (upd G' (zR L))) n ds a' w'->Fin a' w')->Goal)
  (hap:qS ops=true) (hks:((L.map (·.1)).all fun t=>(List.range k).any fun i=>zX ops i==some t)=true) (hun:zA4 ops (K.map (·.1)++B.map (·.t))=true) (hnd:zAL (L.map (·.1))=true)
  (hobs:Obs F m P w ops (upd (zAD K B) (zR L)) (ops.toList.take k))
  (hfin: ∀a w,StS S w0 (zBq L++K) B n ds a w->(∀q,q∈zR L->q.2.p (a.tmps.getD q.1 undef) w)->Fin a w):Goal:=
 zEk [] k L h hT hap hks hun hnd hobs hfin
theorem zKv {ops:Array Oper} {id:Nat} {draw:Bool} (k:Nat) (L:List (Nat×Rw)) (hmix:P.follows .mixedOrders=true) (h:StS S w0 K B n ds a w)
  (hchk:zCQ ops draw k n (L.map (·.1))=true) (hun:zA4 ops (K.map (·.1)++B.map (·.t))=true) (hnd:zAL (L.map (·.1))=true)
  (hobs:Obs F m P w ops (upd (zAD K B) (zR L)) (ops.toList.take k))
  (hfin: ∀a w,StS S w0 (zBq L++K) B n ds a w->wpOpsIn F m P ops Q (List.range' k (ops.size - k)) a w):(Code.region id ops draw).wpIn F m P Q a w:=by
 have hkeys:(zR L).map (·.1)=L.map (·.1):=by simp [zR]
 have h0:=hchk
 unfold zCQ at h0
 simp only [xF] at h0
 exact zFb k L h (fun G' hA hO hF=>zEw k (zR L) hmix (by rw [hkeys];exact hchk) hA hO hF) h0.1.1.1.1.1.1 h0.1.1.2 hun hnd hobs (fun a w h _=>hfin a w h)
def zBt (F:Fence) (m:Nat) (P:WL) (ops:Array Oper) (Q:Exit->Act->WH->Prop) (k:Nat) (a:Act) (w:WH):Prop:=wpOpsIn F m P ops Q (List.range' k (ops.size - k)) a w
theorem zC {ops:Array Oper} {id:Nat} {draw:Bool} (k:Nat) (L:List (Nat×Rw)) (hmix:P.follows .mixedOrders=true) (h:StS S w0 K B n ds a w)
  (hchk:(zCQ ops draw k n (L.map (·.1))&&zA4 ops (K.map (·.1)++B.map (·.t))&&zAL (L.map (·.1)))=true)
  (hobs:Obs F m P w ops (upd (zAD K B) (zR L)) (ops.toList.take k))
  (hfin: ∀a w,StS S w0 (zBq L++K) B n ds a w->zBt F m P ops Q k a w):(Code.region id ops draw).wpIn F m P Q a w:=by
 simp only [xF] at hchk
 exact zKv k L hmix h hchk.1.1 hchk.1.2 hchk.2 hobs hfin
theorem qU {ops:Array Oper} {id:Nat} {draw:Bool} (k:Nat) (L:List (Nat×Rw)) (hmix:P.follows .mixedOrders=true) (h:StS S w0 K B n ds a w)
  (hchk:(zCQ ops draw k n (L.map (·.1))&&zA4 ops (K.map (·.1)++B.map (·.t))&&zAL (L.map (·.1)))=true)
  (hobs:Obs F m P w ops (upd (zAD K B) (zR L)) (ops.toList.take k))
  (hfin: ∀a w,StS S w0 (zBq L++K) B n ds a w->(∀q,q∈zR L->q.2.p (a.tmps.getD q.1 undef) w)->zBt F m P ops Q k a w):(Code.region id ops draw).wpIn F m P Q a w:=by
 simp only [xF] at hchk
 have hkeys:(zR L).map (·.1)=L.map (·.1):=by simp [zR]
 have h0:=hchk.1.1
 unfold zCQ at h0
 simp only [xF] at h0
 exact zFb k L h (fun G' hA hO hF=>zEw k (zR L) hmix (by rw [hkeys];exact hchk.1.1) hA hO hF) h0.1.1.1.1.1.1 h0.1.1.2 hchk.1.2 hchk.2 hobs hfin
theorem zB {ops:Array Oper} {k:Nat} (hk:ops.size=k) (h:Q .normal a w):zBt F m P ops Q k a w:=by
 unfold zBt
 rw [hk,Nat.sub_self]
 exact h
theorem zAF {ops:Array Oper} {k:Nat} {o:Oper} (ho:ops[k]?=some o) (hg:o.guard=none) (h:o.wpIn F m P a w (zBt F m P ops Q (k+1)) Q):zBt F m P ops Q k a w:=by
 have hlt:=(xD.1 ho).1
 unfold zBt
 rw [show ops.size - k=(ops.size - (k+1))+1 from by omega,bD,wpOpsIn_cons]
 unfold wpOpIn
 rw [ho]
 have hw:Region.wanted o (yielded ops a.tmps)=true:=by unfold Region.wanted;rw [hg]
 show (if Region.wanted o (yielded ops a.tmps)=true then _ else _)
 rw [if_pos hw]
 exact h
theorem StS.fct (h:StS S w0 K B n ds a w) (x:WK):(fct (zAD K B) x).p (a.eval x) w:=by
 cases x with
 |tmp t=>exact h.at.sl t
 |const v=>rfl
 |func f=>rfl
 |global g=>rfl
def zAp (K:List (Nat×KF)) (B:List Bx) (n d:Nat):Bool:= !(K.map (·.1)++B.map (·.t)).contains d&&decide (d<n)
theorem jC {a:Act} {d:Nat} (hd:d<a.tmps.size) (v:WI):(a.put (some d) v).tmps.getD d undef=v:=by
 show (a.tmps.setIfInBounds d v).getD d undef=v
 rw [xM,Array.getElem?_setIfInBounds_self_of_lt hd]
 rfl
theorem jY {a:Act} {d t:Nat} (hd:d≠t) (v:WI):(a.put (some d) v).tmps.getD t undef=a.tmps.getD t undef:=zBs hd
theorem zCw {d t:Nat} (hf:zAp K B n d=true) (ht:t∈K.map (·.1)++B.map (·.t)):d≠t:=fun e=>by
 subst e
 unfold zAp at hf
 rw [xJ.2 ht] at hf
 cases hf
theorem zGd {d:Nat} (hf:zAp K B n d=true):d<n:=by
 unfold zAp at hf
 simp only [xF,decide_eq_true_eq] at hf
 exact hf.2
theorem StS.set (h:StS S w0 K B n ds a w) {d:Nat} {v:WI} (hf:zAp K B n d=true) {w':WH} (hb:Below w.heap.size w w') {f:UF} (hv:f.p v w'):StS S w0 ((d, .u f)::K) B n ds (a.put (some d) v) w':=by
 refine ⟨h.gr.trans hb,by rw [zBP];exact h.size,by rw [zA0];exact h.nd,fun q hq=> ?_,h.bx.keep hb (zK hb) B fun x hx=>jY (zCw hf (xO _ (xE.2 ⟨x,hx,rfl⟩))) v,zAW h.mks hb,h.so.imp (fun hu q hq=>(by
  rcases xI.1 hq with rfl|hq
  ·exact ⟨f,rfl⟩
  ·exact hu q hq)) (fun x=>x)⟩
 rcases xI.1 hq with rfl|hq
 ·rw [jC (by rw [h.size];exact zGd hf)]
  exact hv
 ·rw [jY (zCw hf (xT _ (xE.2 ⟨q,hq,rfl⟩)))]
  exact KF.us (h.sl q hq) (zK hb)
theorem StS.lay (h:StS S w0 K B n ds a w) {d:Nat} {e:WJ} {cs:List WI} (hf:zAp K B n d=true) {C:CU} (hc:C.p cs w) (hn:cs.all yA=true):StS S w0 K (⟨d,e,C,w.heap.size,false⟩::B) n ds (a.put (some d) (pO w.heap.size 0)) (w.alloc (.cells cs.toArray e (0,0))):=by
 have hb:=jQ w (.cells cs.toArray e (0,0))
 have hne: ∀x,x∈B->(a.put (some d) (pO w.heap.size 0)).tmps.getD x.t undef=a.tmps.getD x.t undef:=fun x hx=>jY (zCw hf (xO _ (xE.2 ⟨x,hx,rfl⟩))) _
 refine ⟨h.gr.trans hb,by rw [zBP];exact h.size,by rw [zA0];exact h.nd,fun q hq=> ?_,⟨⟨cs,jC (by rw [h.size];exact zGd hf) _, .inr (.inl h.gr.size),xY w _,C.us _ _ _ hc (zK hb),hn,fun y hy=> ?_⟩,h.bx.keep hb (zK hb) B hne⟩,zAW h.mks hb,h.so⟩
 ·rw [jY (zCw hf (xT _ (xE.2 ⟨q,hq,rfl⟩)))]
  exact KF.us (h.sl q hq) (zK hb)
 ·obtain ⟨_,_,_,h3,_⟩:=h.bx.mem y hy
  have:=(xD.1 h3).1
  left
  show y.b≠w.heap.size
  omega
theorem qN {ops:Array Oper} {k d:Nat} {x:WK} {ty:WJ} {pos:String} {aft:Array Edge} (f:UF) (ho:ops[k]?=some ⟨some d, .assign x,ty,pos,aft,none⟩) (h:StS S w0 K B n ds a w) (hf:zAp K B n d=true) (hx: ∀v W,(Wd.fct (zAD K B) x).p v W->f.p v W)
  (fin: ∀a w,StS S w0 ((d, .u f)::K) B n ds a w->zBt F m P ops Q (k+1) a w):zBt F m P ops Q k a w:=
 zAF ho rfl (zBy (fun _ e=>by cases e) (fun _ e=>by cases e) (W':=w) (v:=a.eval x) rfl (fin _ _ (h.set hf (xG _ _) (hx _ _ (h.fct x)))))
theorem zA8 {ops:Array Oper} {k d:Nat} {e:WJ} {x:WK} {ty:WJ} {pos:String} {aft:Array Edge} (C:CU) (ho:ops[k]?=some ⟨some d, .box e x,ty,pos,aft,none⟩) (h:StS S w0 K B n ds a w) (hf:zAp K B n d=true) (hx: ∀v W,(Wd.fct (zAD K B) x).p v W->C.p v.cells.toList W/\v.cells.toList.all yA=true)
  (fin: ∀b a w,StS S w0 K (⟨d,e,C,b,false⟩::B) n ds a w->zBt F m P ops Q (k+1) a w):zBt F m P ops Q k a w:=
 zAF ho rfl (zBy (fun _ e=>by cases e) (fun _ e=>by cases e) (W':=w.alloc (.cells (a.eval x).cells e (0,0))) (v:= pO w.heap.size 0) (by simp [execOp,Instr.box,newVar,newRow]) (by
  have h1:=hx _ _ (h.fct x)
  have:=h.lay (e:=e) hf h1.1 h1.2
  rw [Array.toArray_toList] at this
  exact fin _ _ _ this))
theorem qJ {ops:Array Oper} {k d:Nat} {e:WJ} {ty:WJ} {pos:String} {aft:Array Edge} (C:CU) {cs:List WI} (hz:zeroCells P e=some cs) (ho:ops[k]?=some ⟨some d, .alloc e,ty,pos,aft,none⟩) (h:StS S w0 K B n ds a w) (hf:zAp K B n d=true) (hx: ∀W,C.p cs W) (hn:cs.all yA=true)
  (fin: ∀b a w,StS S w0 K (⟨d,e,C,b,false⟩::B) n ds a w->zBt F m P ops Q (k+1) a w):zBt F m P ops Q k a w:=by
 have hrun:(Instr.alloc e true (.tuple #[])).run P w= .ok (pO w.heap.size 0) (w.alloc (.cells cs.toArray e (0,0))):=by
  unfold zeroCells at hz
  cases hi:P.info? e with
  |none=>rw [hi] at hz;cases hz
  | some i=>
   rw [hi] at hz
   simp only [Option.bind_some] at hz
   cases hzz:i.zero with
   |none=>rw [hzz] at hz;cases hz
   |some z=>
    rw [hzz] at hz
    simp only [xZ,bB] at hz
    subst hz
    simp [Instr.alloc,zeroValue,typeInfo,hi,hzz,newVar,newRow]
 exact zAF ho rfl (zBy (fun _ e=>by cases e) (fun _ e=>by cases e) (W':=w.alloc (.cells cs.toArray e (0,0))) (v:= pO w.heap.size 0) (by simp [execOp,hrun]) (fin _ _ _ (h.lay hf (hx _) hn)))
def zGm:List Bx->Nat->CU->List Bx
 | [],_,_=> []
 |x::B,c,C=>bif Nat.beq x.t c then ⟨x.t,x.e,C,x.b,x.r⟩::B else x::zGm B c C
theorem zOh: ∀(B:List Bx) (c:Nat) (C:CU),(zGm B c C).map (fun x=>(x.b,x.r))=B.map (fun x=>(x.b,x.r))
 | [],_,_=>rfl
 |x::B,c,C=>by
  unfold zGm
  cases Nat.beq x.t c with
  |true=>rfl
  |false=>simp [zOh B c C]
theorem y5.turn {w':WH} {c:Nat} {vs:List WI} {C:CU} {x:Bx} (hro:x.r=false) (hc:C.p vs w') (hn:vs.all yA=true) (hx':w'.heap[x.b]?=some (.cells vs.toArray x.e (0,0))) (ho: ∀k,k<w.heap.size->k≠x.b->w'.heap[k]?=w.heap[k]?) (hk:yL w w'): ∀(B:List Bx),y5 S w0 a w B->x∈B->x.t=c->(∀y,y∈B->y.t=c->y=x)->y5 S w0 a w' (zGm B c C)
 | [],_,h,_,_=>by cases h
 | y::B,⟨⟨cs,h1,h2,h3,h4,h5,h6⟩,h7⟩,hx,hxc,hu=>by
  unfold zGm
  cases e:Nat.beq y.t c with
  | true=>
   have e2:=xL e
   obtain rfl:y=x:=hu y (by simp) e2
   refine ⟨⟨vs,h1,h2,hx',hc,hn,h6⟩, ?_⟩
   have: ∀B:List Bx,y5 S w0 a w B->(∀z,z∈B->z.b≠y.b∨(y.r=true/\z.r=true))->y5 S w0 a w' B:=by
    intro B
    induction B with
    |nil=>intro _ _;trivial
    |cons z B ih=>
     intro hB hz
     obtain ⟨⟨c2,g1,g2,g3,g4,g5,g6⟩,g7⟩:=hB
     exact ⟨⟨c2,g1,g2,(ho _ (xD.1 g3).1 ((hz z (by simp)).resolve_right (fun e=>by rw [hro] at e;cases e.1))).trans g3,z.c.us _ _ _ g4 hk,g5,g6⟩,ih g7 fun z' hz'=>hz z' (by simp [hz'])⟩
   exact this B h7 h6
  | false=>
   have hxB:x∈B:=by
    rcases xI.1 hx with rfl|hx
    ·rw [hxc] at e;simp at e
    ·exact hx
   refine ⟨⟨cs,h1,h2,(ho _ (xD.1 h3).1 (fun e'=>((h6 x hxB).resolve_right (fun e=>by rw [hro] at e;cases e.2)) e'.symm)).trans h3,y.c.us _ _ _ h4 hk,h5,fun z hz=> ?_⟩,y5.turn hro hc hn hx' ho hk B h7 hxB hxc fun z hz=>hu z (by simp [hz])⟩
   have hz2:(z.b,z.r)∈B.map (fun x=>(x.b,x.r)):=by rw [<-zOh B c C];exact xE.2 ⟨z,hz,rfl⟩
   obtain ⟨z',hz',e3⟩:=xE.1 hz2
   injection e3 with e3 e4
   rw [<-e3, <-e4]
   exact h6 z' hz'
def zHq:List Bx->Nat->Option Bx
 | [],_=>none
 |x::B,c=>bif Nat.beq x.t c then some x else zHq B c
theorem zBg: ∀{B:List Bx} {c:Nat} {x:Bx},zHq B c=some x->x∈B/\x.t=c
 | [],_,_,h=>by cases h
 | y::B,c,x,h=>by
  unfold zHq at h
  cases e:Nat.beq y.t c with
  |true=>
   rw [e] at h
   obtain rfl:y=x:=by injection h
   exact ⟨by simp,xL e⟩
  |false=>
   rw [e] at h
   obtain ⟨h1,h2⟩:=zBg h
   exact ⟨by simp [h1],h2⟩
theorem y5.one {c:Nat} {x y:Bx} (hro:x.r=false): ∀{B:List Bx},y5 S w0 a w B->x∈B->y∈B->x.t=c->y.t=c->y=x
 | [],_,h,_,_,_=>by cases h
 | z::B,⟨⟨cs,h1,h2,h3,h4,h5,h6⟩,h7⟩,hx,hy,hxc,hyc=>by
  have key: ∀q,q∈B->q.t=z.t->(z.r=false∨q.r=false)->False:=fun q hq e hr=>by
   obtain ⟨_,g1,_⟩:=y5.mem h7 q hq
   rw [e,h1] at g1
   injection g1 with g1
   injection g1 with g1
   injection g1 with g1
   rcases h6 q hq with g|g
   ·exact g g1.symm
   ·rcases hr with hr|hr
    ·rw [hr] at g;cases g.1
    ·rw [hr] at g;cases g.2
  rcases xI.1 hx with e1|hx
  ·rcases xI.1 hy with e2|hy
   ·rw [e1,e2]
   ·exact (key y hy (by rw [hyc, <-hxc,e1]) (.inl (by rw [<-e1];exact hro))).elim
  ·rcases xI.1 hy with e2|hy
   ·exact (key x hx (by rw [hxc, <-hyc,e2]) (.inr hro)).elim
   ·exact y5.one hro h7 hx hy hxc hyc
theorem StS.turn (h:StS S w0 K B n ds a w) {c:Nat} {x:Bx} (hB:zHq B c=some x) (hro:x.r=false) {w':WH} {vs:List WI} {C:CU} (hg:w.grownBy w' (some x.b)) (hx':w'.heap[x.b]?=some (.cells vs.toArray x.e (0,0))) (hc:C.p vs w') (hn:vs.all yA=true):StS S w0 K (zGm B c C) n ds a w':=by
 obtain ⟨hx,hxc⟩:=zBg hB
 obtain ⟨cs,h1,h2,h3,h4,h5⟩:=h.bx.mem x hx
 have hk:yL w w':=fun q u hq=>by
  have hlt:=xX w _ hq
  by_cases e:q.block=x.b
  ·exfalso
   have h6:w.cell? q=if q.spot.isSome then none else cs.toArray[q.off]?:=by
    unfold World.cell?
    rw [e,h3]
   rw [h6] at hq
   split at hq
   ·cases hq
   ·have:=xC.1 h5 _ (List.mem_of_getElem? (by simpa using hq))
    cases this
  ·exact (World.cell?_of_block (hg.block _ hlt (fun e'=>e (Option.some.inj e')))).trans hq
 exact ⟨h.gr.grown hg (h2.resolve_left (by rw [hro];decide)),h.size,h.nd,fun q hq=>KF.us (h.sl q hq) hk,h.bx.turn hro hc hn hx' (fun k hk' hne=>hg.block k hk' (fun e=>hne (Option.some.inj e))) hk B hx hxc fun y hy hyc=>y5.one hro h.bx hx hy hxc hyc,zHQ h.mks hg h3,h.so⟩
theorem zDa (w:WH) (b:Nat) (vs:Array WI):w.grownBy (w.setRow b vs) (some b):=⟨rfl,rfl,rfl,by rw [size_setRow];exact xN _,fun k _ hne=>setRow_other w b k vs (fun e=>hne (by rw [e]))⟩
theorem yY {ops:Array Oper} {k c kk:Nat} {t:WJ} {x:WK} {ty:WJ} {pos:String} {aft:Array Edge} (C:CU) (f:SF) (ho:ops[k]?=some ⟨none, .store t (.tmp c) x,ty,pos,aft,none⟩) (h:StS S w0 K B n ds a w) (hsz:zAx P t=some kk) {y:Bx} (hB:zHq B c=some y) (hro:y.r=false) (hye:y.e=t) (hyl: ∀cs W,y.c.p cs W->cs.length=kk)
  (hx: ∀v W,(Wd.fct (zAD K B) x).p v W->f.p v W) (hv: ∀v W,f.p v W-> ∃vs:List WI,v= .agg vs.toArray/\vs.length=kk/\(∀u,u∈vs->u.oneCell'=true)/\vs.all yA=true/\C.p vs W)
  (fin: ∀a w,StS S w0 K (zGm B c C) n ds a w->zBt F m P ops Q (k+1) a w):zBt F m P ops Q k a w:=by
 obtain ⟨hy,hyc⟩:=zBg hB
 obtain ⟨cs,h1,h2,h3,h4,h5⟩:=h.bx.mem y hy
 obtain ⟨vs,e,hl,ho1,hnl,hC⟩:=hv _ _ (hx _ _ (h.fct x))
 rw [hyc] at h1
 have hk:yL w (w.setRow y.b vs.toArray):=zDC h3 (by simpa using h5)
 exact zAF ho rfl (zNb hsz hye (hyl _ _ h4) h1 h3 e hl ho1 (fin _ _ (h.turn hB hro (zDa w y.b vs.toArray) (setRow_heap w y.b cs.toArray vs.toArray y.e (0,0) h3) (C.us _ _ _ hC hk) hnl)))
theorem zCr {ops:Array Oper} {k d:Nat} {op:Op} {ty:WJ} {pos:String} {aft:Array Edge} (f:UF) (ho:ops[k]?=some ⟨some d,op,ty,pos,aft,none⟩) (h:StS S w0 K B n ds a w) (hf:zAp K B n d=true) (hob:qB F m P w ops (upd (zAD K B) [(d,f.tS)]) ⟨some d,op,ty,pos,aft,none⟩)
  (hrd:(zCL ⟨some d,op,ty,pos,aft,none⟩).contains d=false) (fin: ∀a w,StS S w0 ((d, .u f)::K) B n ds a w->zBt F m P ops Q (k+1) a w):zBt F m P ops Q k a w:=by
 refine zAF ho rfl (hob a w _ Q (xG _ _) (fun t ht=> ?_) fun v W' hv hb=>fin _ _ (h.set hf hb ?_))
 ·have hne:Nat.beq d t=false:=by
   cases e:Nat.beq d t with
   |false=>rfl
   |true=>
    have:=xL e
    subst this
    rw [xJ.2 ht] at hrd
    cases hrd
  show (bif Nat.beq d t then f.tS else zAD K B t).p _ _
  rw [hne]
  exact h.at.sl t
 ·have:=hv d rfl
  have e:(upd (zAD K B) [(d,f.tS)]) d=f.tS:=by
   show (bif Nat.beq d d then f.tS else _)=_
   rw [show Nat.beq d d=true from Nat.beq_refl d]
   rfl
  rw [e] at this
  exact this
theorem zBB {b:Nat}: ∀(vs:List WI) (o i:Nat),storeCells ⟨b,o,none⟩ vs i=storeCells ⟨b,0,none⟩ vs (o+i)
 | [],_,_=>rfl
 |v::vs,o,i=>by
  unfold storeCells
  rw [zBB vs o (i+1),xQ,xQ,Nat.zero_add,Nat.add_assoc]
def jR (cs:List WI) (o:Nat) (vs:List WI):List WI:=cs.take o++vs++cs.drop (o+vs.length)
theorem zAH {b:Nat} {t:WJ}: ∀(vs:List WI) (i:Nat) (cs:List WI) (w:WH),w.heap[b]?=some (.cells cs.toArray t (0,0))->i+vs.length<=cs.length->(∀v,v∈vs->v.oneCell'=true)->
  (storeCells ⟨b,0,none⟩ vs i).run P w= .ok () (w.setRow b (jR cs i vs).toArray)
 | [],i,cs,w,hg,hl,_=>by
  have:jR cs i []=cs:=by unfold jR;simp
  rw [this]
  unfold storeCells
  rw [setRow_self w b _ t (0,0) hg]
  rfl
 | v::vs,i,cs,w,hg,hl,h1=>by
  simp only [List.length_cons] at hl
  unfold storeCells
  have hcell:w.cell? ⟨b,i,none⟩=some cs[i]:=by
   unfold World.cell?
   rw [hg]
   simp [List.getElem?_eq_getElem (by omega:i<cs.length)]
  have hfr:w.frozen? ⟨b,i,none⟩=false:=by simp [World.frozen?,hg]
  have hs:(store ⟨b,i,none⟩ v).run P w= .ok () (w.setCell ⟨b,i,none⟩ v):=by
   rw [run_store _ _ _ _ _ (h1 v (by simp)),hcell]
   simp [hfr]
  rw [xQ,Nat.zero_add]
  simp only [Sem.run_bind,hs,bC]
  have hrow:w.setCell ⟨b,i,none⟩ v=w.setRow b (cs.set i v).toArray:=by
   have hlt:b<w.heap.size:=(xD.1 hg).1
   have hv:w.heap[b]= .cells cs.toArray t (0,0):=(xD.1 hg).2
   unfold World.setCell World.setRow
   congr 1
   refine Array.ext (by simp) fun j h1 h2=> ?_
   by_cases e:j=b
   ·subst e
    simp [xV,hv]
   ·simp [xV,Ne.symm e]
  rw [hrow]
  have hg2:=setRow_heap w b cs.toArray (cs.set i v).toArray t (0,0) hg
  rw [zAH vs (i+1) (cs.set i v) _ hg2 (by rw [List.length_set];omega) (fun u hu=>h1 u (by simp [hu]))]
  congr 1
  have e1:jR (cs.set i v) (i+1) vs=jR cs i (v::vs):=by
   unfold jR
   rw [List.take_set,List.take_succ_eq_append_getElem oD,List.set_append_right _ _ (by simp;omega)]
   have:i - (List.take i cs).length=0:=by simp;omega
   rw [this,List.drop_set_of_lt oD]
   simp [Nat.add_comm,Nat.add_left_comm]
  rw [e1]
  have hlt:b<w.heap.size:=(xD.1 hg).1
  have hv:w.heap[b]= .cells cs.toArray t (0,0):=(xD.1 hg).2
  unfold World.setRow
  congr 1
  refine Array.ext (by simp) fun j h1 h2=> ?_
  by_cases e:j=b
  ·subst e
   simp [xV,hv]
  ·simp [xV,Ne.symm e]
def zFr (P:WL) (t:WJ):Option Nat:=(P.info? t).map (·.size)
theorem zCq {ops:Array Oper} {k c kk o:Nat} {t:WJ} {x y:WK} {ty:WJ} {pos:String} {aft:Array Edge} (C:CU) (f:SF) (ho:ops[k]?=some ⟨none, .store t x y,ty,pos,aft,none⟩) (h:StS S w0 K B n ds a w) (hsz:zFr P t=some kk) {z:Bx} (hB:zHq B c=some z) (hro:z.r=false)
  (hp: ∀v W,(Wd.fct (zAD K B) x).p v W->v= pO z.b o) (hy: ∀v W,(Wd.fct (zAD K B) y).p v W->f.p v W)
  (hv: ∀v W,f.p v W->v.cells.size=kk/\(∀u,u∈v.cells.toList->u.oneCell'=true)/\v.cells.toList.all yA=true/\ ∀cs,z.c.p cs W->o+kk<=cs.length/\C.p (jR cs o v.cells.toList) W)
  (fin: ∀a w,StS S w0 K (zGm B c C) n ds a w->zBt F m P ops Q (k+1) a w):zBt F m P ops Q k a w:=by
 obtain ⟨hz,hzc⟩:=zBg hB
 obtain ⟨cs,h1,h2,h3,h4,h5⟩:=h.bx.mem z hz
 have e1:=hp _ _ (h.fct x)
 obtain ⟨g1,g2,g3,g4⟩:=hv _ _ (hy _ _ (h.fct y))
 obtain ⟨g5,g6⟩:=g4 cs h4
 have hk:yL w (w.setRow z.b (jR cs o (a.eval y).cells.toList).toArray):=zDC h3 (by simpa using h5)
 have hrun:(execOp a.eval ⟨none, .store t x y,ty,pos,aft,none⟩).run P w= .ok .skip (w.setRow z.b (jR cs o (a.eval y).cells.toList).toArray):=by
  unfold zFr at hsz
  cases hi:P.info? t with
  |none=>rw [hi] at hsz;cases hsz
  |some i=>
   rw [hi] at hsz
   simp only [xZ,bB] at hsz
   have hr:=zAH (P:=P) (a.eval y).cells.toList o cs w h3 (by simp;omega) g2
   have hs:=zBB (b:=z.b) (a.eval y).cells.toList o 0
   rw [Nat.add_zero] at hs
   simp [execOp,Instr.storeAt,Instr.sureAddr,e1,storeVar,sizeOf,typeInfo,hi,hsz,g1,hs,hr]
 refine zAF ho rfl ⟨fun f hf=>(by cases hf), ?_⟩
 rw [xK _ _ _ (fun _ e=>by cases e),hrun]
 refine fin _ _ (h.turn hB hro (zDa w z.b _) (setRow_heap w z.b cs.toArray _ z.e (0,0) h3) (C.us _ _ _ g6 hk) ?_)
 unfold jR
 simp only [List.all_append,xF]
 refine ⟨⟨xC.2 fun u hu=>xC.1 h5 u (List.mem_of_mem_take hu),g3⟩,xC.2 fun u hu=>xC.1 h5 u (List.mem_of_mem_drop hu)⟩
def zMi (W:WH) (b:Nat) (te:WJ) (C:CU) (f:SF):Ending->WH->Prop:=fun e W'=> ∃v,e= .returned v/\f.p v W'/\W.grownBy W' (some b)/\ ∃cs:List WI,W'.heap[b]?=some (.cells cs.toArray te (0,0))/\C.p cs W'/\cs.all yA=true
theorem zPa {ops:Array Oper} {k c d:Nat} {f:FuncId} {xs:Array WK} {ats:Array WJ} {ty:WJ} {pos:String} {aft:Array Edge} (C:CU) (g:UF) (ho:ops[k]?=some ⟨some d, .call ⟨.value (.func f),xs,ats⟩,ty,pos,aft,none⟩) (hF:zHl F m P) (he:Enters P f) (h:StS S w0 K B n ds a w) (hf:zAp K B n d=true) {z:Bx} (hB:zHq B c=some z) (hro:z.r=false)
  (hc: ∀cs,w.heap[z.b]?=some (.cells cs.toArray z.e (0,0))->z.c.p cs w->cs.all yA=true->(∀x,x∈xs.toList->(Wd.fct (zAD K B) x).p (a.eval x) w)->Calls P f (xs.map a.eval) w (zMi w z.b z.e C g.tS))
  (fin: ∀a w,StS S w0 ((d, .u g)::K) (zGm B c C) n ds a w->zBt F m P ops Q (k+1) a w):zBt F m P ops Q k a w:=by
 obtain ⟨hz,hzc⟩:=zBg hB
 obtain ⟨cs,h1,h2,h3,h4,h5⟩:=h.bx.mem z hz
 have hcl:=hc cs h3 h4 h5 fun x _=>h.fct x
 refine zAF ho rfl ⟨fun g _=>hF.1 g, ?_⟩
 rw [xK _ _ _ (fun _ e=>by cases e),execOp_call_go,he]
 simp only [Oper.uponIn_enter]
 refine ⟨hF.2.1,CallsIn.mono (hF.2.2 _ _ _ (zMi w z.b z.e C g.tS) (by simpa using hcl)) fun e W' he=> ?_⟩
 obtain ⟨v,rfl,hv,hg,cs',hh,hC,hn⟩:=he
 have s1:=h.turn hB hro hg hh hC hn
 have hf':zAp K (zGm B c C) n d=true:=by
  have:(zGm B c C).map (·.t)=B.map (·.t):=by
   have key: ∀B:List Bx,(zGm B c C).map (·.t)=B.map (·.t):=fun B=>by
    induction B with
    |nil=>rfl
    |cons x B ih=>
     unfold zGm
     cases Nat.beq x.t c with
     |true=>rfl
     |false=>simp [ih]
   exact key B
  unfold zAp at hf ⊢
  rw [this]
  exact hf
 exact fin _ _ (s1.set hf' (xG _ _) hv)
theorem zIc {ops:Array Oper} {k c d:Nat} {f:FuncId} {x:WK} {ats:Array WJ} {ty:WJ} {pos:String} {aft:Array Edge} (C:CU) (g:UF) (ho:ops[k]?=some ⟨some d, .call ⟨.value (.func f),#[x],ats⟩,ty,pos,aft,none⟩) (hF:zHl F m P) (he:Enters P f) (h:StS S w0 K B n ds a w) (hf:zAp K B n d=true) {z:Bx} (hB:zHq B c=some z) (hro:z.r=false)
  (hp: ∀v W,(Wd.fct (zAD K B) x).p v W->v= pO z.b 0)
  (hc: ∀cs:List WI,w.heap[z.b]?=some (.cells cs.toArray z.e (0,0))->z.c.p cs w->Calls P f #[pO z.b 0] w (zMi w z.b z.e C g.tS))
  (fin: ∀a w,StS S w0 ((d, .u g)::K) (zGm B c C) n ds a w->zBt F m P ops Q (k+1) a w):zBt F m P ops Q k a w:=
 zPa C g ho hF he h hf hB hro (fun cs h1 h2 _ h4=>by
  have e:=hp _ _ (h4 x (by simp))
  have:=hc cs h1 h2
  rw [<-e] at this
  simpa using this) fin
def zQA:List Bx->Nat->Nat->List Bx
 | [],_,_=> []
 |x::B,c,d=>bif Nat.beq x.t c then ⟨d,x.e,x.c,x.b,x.r⟩::B else x::zQA B c d
theorem zOm: ∀(B:List Bx) (c d:Nat),(zQA B c d).map (fun x=>(x.b,x.r))=B.map (fun x=>(x.b,x.r))
 | [],_,_=>rfl
 |x::B,c,d=>by
  unfold zQA
  cases Nat.beq x.t c with
  |true=>rfl
  |false=>simp [zOm B c d]
theorem y5.ren {c d:Nat} {a':Act} (hs: ∀x,x∈B->a'.tmps.getD x.t undef=a.tmps.getD x.t undef) (hd:a'.tmps.getD d undef=a.tmps.getD c undef): ∀(l:List Bx),(∀x,x∈l->x∈B)->y5 S w0 a w l->y5 S w0 a' w (zQA l c d)
 | [],_,_=>trivial
 | x::l,hl,⟨⟨cs,h1,h2,h3,h4,h5,h6⟩,h7⟩=>by
  have hrest:y5 S w0 a' w l:=y5.keep (xG _ _) (fun _ _ h=>h) l (fun y hy=>hs y (hl y (by simp [hy]))) h7
  unfold zQA
  cases e:Nat.beq x.t c with
  |true=>
   have e2:=xL e
   exact ⟨⟨cs,by show a'.tmps.getD d undef=_;rw [hd, <-e2];exact h1,h2,h3,h4,h5,h6⟩,hrest⟩
  |false=>
   refine ⟨⟨cs,by rw [hs x (hl x (by simp))];exact h1,h2,h3,h4,h5,fun y hy=> ?_⟩,y5.ren hs hd l (fun y hy=>hl y (by simp [hy])) h7⟩
   have hy2:(y.b,y.r)∈l.map (fun x=>(x.b,x.r)):=by rw [<-zOm l c d];exact xE.2 ⟨y,hy,rfl⟩
   obtain ⟨z,hz,e3⟩:=xE.1 hy2
   injection e3 with e3 e4
   rw [<-e3, <-e4]
   exact h6 z hz
theorem zSe {ops:Array Oper} {k c d:Nat} {ty:WJ} {pos:String} {aft:Array Edge} (ho:ops[k]?=some ⟨some d, .assign (.tmp c),ty,pos,aft,none⟩) (h:StS S w0 K B n ds a w) (hf:zAp K B n d=true)
  (fin: ∀a w,StS S w0 K (zQA B c d) n ds a w->zBt F m P ops Q (k+1) a w):zBt F m P ops Q k a w:=by
 refine zAF ho rfl (zBy (fun _ e=>by cases e) (fun _ e=>by cases e) (W':=w) (v:=a.tmps.getD c undef) rfl (fin _ _ ⟨h.gr,by rw [zBP];exact h.size,by rw [zA0];exact h.nd,fun q hq=> ?_,h.bx.ren (fun x hx=>jY (zCw hf (xO _ (xE.2 ⟨x,hx,rfl⟩))) _) (jC (by rw [h.size];exact zGd hf) _) B (fun x hx=>hx),h.mks,h.so⟩))
 rw [jY (zCw hf (xT _ (xE.2 ⟨q,hq,rfl⟩)))]
 exact h.sl q hq
theorem zIf {fn:Func} {args:Array WI} (l:List SF) (hn:Nat.ble args.size fn.ntmps=true) (hA:zEZ w l args.toList):St w ((zJK 0 l).map fun q=>(q.1,KF.o q.2)) [] fn.ntmps [] { tmps:=args++Array.replicate (fn.ntmps - args.size) undef,defers:= [] } w:=by
 have hA:=zNU l hn hA
 refine ⟨⟨hA.gr.os,hA.gr.tape,hA.gr.output,hA.gr.size,fun k hk _=>hA.gr.block k hk⟩,hA.size,hA.nd,fun q hq=> ?_,trivial,⟨[],Marks.nil _ _⟩, .inr fun _ h=>h⟩
 obtain ⟨p,hp,rfl⟩:=xE.1 hq
 have hnd: ∀(l:List SF) (k:Nat),(∀t,t∈(zJK k l).map (·.1)->k<=t)/\zAL ((zJK k l).map (·.1))=true:=by
  intro l
  induction l with
  |nil=>intro k;exact ⟨fun t ht=>(by cases ht),rfl⟩
  | cons f l ih=>
   intro k
   obtain ⟨h1,h2⟩:=ih (k+1)
   refine ⟨fun t ht=> ?_, ?_⟩
   ·rcases xI.1 ht with rfl|ht
    ·exact xN _
    ·have:=h1 t ht;omega
   ·show (!((zJK (k+1) l).map (·.1)).contains k&&zAL _)=true
    rw [h2]
    cases hc:((zJK (k+1) l).map (·.1)).contains k with
    |false=>rfl
    |true=>
     have:=h1 k (xJ.1 hc)
     omega
 have:=hA.sl p.1
 rw [zCH (hnd l 0).2 hp] at this
 exact this
theorem qH {f:FuncId} {fn:Func} {c:Code} {args:Array WI} {R:Ending->WH->Prop} (l:List SF)
  (hf:P.funcs[f]?=some fn) (hb:fn.body=some c) (hn:Nat.ble args.size fn.ntmps=true) (hA:zEZ w l args.toList)
  (h: ∀a,St w ((zJK 0 l).map fun q=>(q.1,KF.o q.2)) [] fn.ntmps [] a w->c.wpIn Fence.wide 0 P (bodyPost P fn R) a w):Calls P f args w R:=
 zBj hf hb (h _ (zIf l hn hA))
theorem zPi {f:FuncId} {fn:Func} {c:Code} {args:Array WI} {R:Ending->WH->Prop} (l:List SF)
  (hf:P.funcs[f]?=some fn) (hb:fn.body=some c) (hn:Nat.ble args.size fn.ntmps=true) (hA:zEZ w l args.toList)
  (h: ∀a,St w ((zJK 0 l).map fun q=>(q.1,KF.o q.2)) [] fn.ntmps [] a w->c.wpIn Fence.wide 0 P (bodyPostM Fence.wide 0 P fn R) a w):Calls P f args w R:=
 callsIn_wide.1 (callsIn_of_wp_marks hf hb trivial (h _ (zIf l hn hA)))
def wK (W:WH) (te:WJ) (C:CU):SF:=⟨fun v w=> ∃(b:Nat) (cs:List WI),v= pO b 0/\W.heap.size<=b/\w.heap[b]?=some (.cells cs.toArray te (0,0))/\C.p cs w/\cs.all yA=true,fun _ _ _ ⟨b,cs,h1,h2,h3,h4,h5⟩ hb=>⟨b,cs,h1,h2,(hb.block b (xD.1 h3).1).trans h3,C.us _ _ _ h4 (zK hb),h5⟩⟩
theorem zFl {W:WH} {te:WJ} {C:CU} (v:WI) (w:WH) (h:(wK W te C).p v w):(wC C.cf).p v w:=by
 obtain ⟨b,cs,h1,_,h3,h4,_⟩:=h
 exact ⟨b,0,cs,h1,h4,jW h3⟩
theorem zCv {W W':WH} {te:WJ} {C:CU} (h:W.heap.size<=W'.heap.size) (v:WI) (w:WH) (hv:(wK W' te C).p v w):(wK W te C).p v w:=by
 obtain ⟨b,cs,h1,h2,h3⟩:=hv
 exact ⟨b,cs,h1,xU h h2,h3⟩
theorem StS.adopt (h:StS S w0 K B n ds a w) {W:WH} {te:WJ} {C:CU} (r:Bool) (t:Nat) (hv:(wK W te C).p (a.tmps.getD t undef) w) (hW:BlS S w0 W) (hB: ∀y,y∈B->y.b<W.heap.size∨(r=true/\y.r=true)): ∃b,W.heap.size<=b/\StS S w0 K (⟨t,te,C,b,r⟩::B) n ds a w:=by
 obtain ⟨b,cs,h1,h2,h3,h4,h5⟩:=hv
 refine ⟨b,h2,h.gr,h.size,h.nd,h.sl,⟨⟨cs,h1, .inr (.inl (xU hW.size h2)),h3,h4,h5,fun y hy=> ?_⟩,h.bx⟩,h.mks,h.so⟩
 rcases hB y hy with e|e
 ·left
  show y.b≠b
  omega
 ·exact .inr e
theorem StS.old (h:StS S w0 K B n ds a w): ∀y,y∈B->y.b<w.heap.size:=fun y hy=>by
 obtain ⟨_,_,_,h3,_⟩:=h.bx.mem y hy
 exact (xD.1 h3).1
theorem vK (h:St w0 K B n [] a w) {fn:Func} {t c:Nat} {z:Bx} (hr:fn.results=#[.tmp t]) (hB:zHq B c=some z) (hro:z.r=false) (hd: ∀v W,(zAD K B t).p v W->v= pO z.b 0):bodyPost P fn (Ret w0 (wK w0 z.e z.c)) .ret a w:=by
 obtain ⟨hz,_⟩:=zBg hB
 obtain ⟨cs,h1,h2,h3,h4,h5⟩:=h.bx.mem z hz
 have h6:w0.heap.size<=z.b:=by
  rcases h2 with e|e|e
  ·rw [hro] at e;cases e
  ·exact e
  ·exact e.elim
 refine ⟨h.nd,a.tmps.getD t undef, ?_,⟨_,rfl,⟨z.b,cs,hd _ _ (h.at.sl t),h6,h3,h4,h5⟩,h.gr.below⟩⟩
 simp [results,hr]
theorem zHE {f:FuncId} {fn:Func} {c:Code} {args:Array WI} {R:Ending->WH->Prop} (b:Nat) (K0:List (Nat×UF)) (B0:List Bx)
  (hf:P.funcs[f]?=some fn) (hb:fn.body=some c) (hn:Nat.ble args.size fn.ntmps=true) (hK: ∀q,q∈K0->q.1<args.size/\q.2.p (args.getD q.1 undef) w)
  (hB:y5 (fun k=>k=b) w ⟨args, []⟩ w B0) (hBs: ∀x,x∈B0->x.t<args.size)
  (h: ∀a,StS (fun k=>k=b) w (K0.map fun q=>(q.1,KF.u q.2)) B0 fn.ntmps [] a w->c.wpIn Fence.wide 0 P (bodyPost P fn R) a w):Calls P f args w R:=by
 have hn:=Nat.le_of_ble_eq_true hn
 refine zBj hf hb (h _ ⟨BlS.refl _ _,by simp;omega,rfl,fun q hq=> ?_,y5.keep (a:=⟨args, []⟩) (xG _ _) (fun _ _ h=>h) B0 (fun x hx=> ?_) hB,⟨[],Marks.nil _ _⟩, .inl fun q hq=> ?_⟩)
 ·obtain ⟨p,hp,rfl⟩:=xE.1 hq
  obtain ⟨h1,h2⟩:=hK p hp
  have:(args++Array.replicate (fn.ntmps - args.size) undef).getD p.1 undef=args.getD p.1 undef:=by
   rw [xM,xM,bE h1]
  show p.2.p ((args++Array.replicate (fn.ntmps - args.size) undef).getD p.1 undef) w
  rw [this]
  exact h2
 ·show (args++Array.replicate (fn.ntmps - args.size) undef).getD x.t undef=args.getD x.t undef
  rw [xM,xM,bE (hBs x hx)]
 ·obtain ⟨p,hp,rfl⟩:=xE.1 hq
  exact ⟨_,rfl⟩
theorem StS.grown {b':Nat} (h:StS (fun k=>k=b') w0 K B n ds a w) {b:Nat} (hb:b'=b):w0.grownBy w (some b):=by
 subst hb
 exact ⟨h.gr.os,h.gr.tape,h.gr.output,h.gr.size,fun k hk hne=>h.gr.block k hk fun e=>hne (by rw [e])⟩
theorem StS.retS {b:Nat} (h:StS (fun k=>k=b) w0 K B n [] a w) {fn:Func} {f:SF} {C:CU} {c:Nat} {z:Bx} (hB:zHq B c=some z) (hzb:z.b=b) (hzC:z.c=C) {v:WI} (hr:(results fn a.tmps).run P w= .ok v w) (hv:f.p v w):bodyPost P fn (zMi w0 b z.e C f) .ret a w:=by
 obtain ⟨hz,_⟩:=zBg hB
 obtain ⟨cs,h1,h2,h3,h4,h5⟩:=h.bx.mem z hz
 subst hzb
 subst hzC
 exact ⟨h.nd,v,hr,_,rfl,hv,h.grown rfl,cs,h3,h4,h5⟩
theorem vF {b:Nat} (h:StS (fun k=>k=b) w0 K B n [] a w) {fn:Func} {f:SF} {C:CU} {c t:Nat} {z:Bx} (hB:zHq B c=some z) (hzb:z.b=b) (hzC:z.c=C) (hr:fn.results=#[.tmp t]) (hd: ∀v W,(zAD K B t).p v W->f.p v W):bodyPost P fn (zMi w0 b z.e C f) .ret a w:=
 h.retS hB hzb hzC (v:=a.tmps.getD t undef) (by simp [results,hr]) (hd _ _ (h.at.sl t))
theorem vJ {b:Nat} (h:StS (fun k=>k=b) w0 K B n [] a w) {fn:Func} {f:SF} {C:CU} {c:Nat} {z:Bx} (hB:zHq B c=some z) (hzb:z.b=b) (hzC:z.c=C) (hr:fn.results=#[]) (hd: ∀W,f.p (.tuple #[]) W):bodyPost P fn (zMi w0 b z.e C f) .ret a w:=
 h.retS hB hzb hzC (v:= .tuple #[]) (by simp [results,hr]) (hd _)
def zTe (K:List (Nat×KF)) (ts:List Nat):List (Nat×KF):=K.filter fun q=> !ts.contains q.1
theorem StS.drop (h:StS S w0 K B n ds a w) (ts:List Nat):StS S w0 (zTe K ts) B n ds a w:=⟨h.gr,h.size,h.nd,fun q hq=>h.sl q (List.mem_filter.1 hq).1,h.bx,h.mks,h.so.imp (fun hu q hq=>hu q (List.mem_filter.1 hq).1) (fun x=>x)⟩
theorem StS.keepK (h:StS S w0 K B n ds a w) (K':List (Nat×KF)) (hs: ∀q,q∈K'->q∈K):StS S w0 K' B n ds a w:=⟨h.gr,h.size,h.nd,fun q hq=>h.sl q (hs q hq),h.bx,h.mks,h.so.imp (fun hu q hq=>hu q (hs q hq)) (fun x=>x)⟩
theorem StS.cond (h:StS S w0 K B n ds a w) {c:WK} {x y:Code} (bv:Bool) (hc: ∀v W,(Wd.fct (zAD K B) c).p v W->v= .bool bv) (ht:bv=true->x.wpIn F m P Q a w) (hf:bv=false->y.wpIn F m P Q a w):(Code.cond c x y).wpIn F m P Q a w:=
 wpIn_cond_split (hc _ _ (h.fct c)) ht hf
theorem wF (h:St w0 K B n [] a w) {fn:Func} {f:SF} {t:Nat} (hr:fn.results=#[.tmp t]) (hd: ∀v W,(zAD K B t).p v W->f.p v W):bodyPost P fn (Ret w0 f) .ret a w:=by
 refine ⟨h.nd,_, ?_,⟨_,rfl,hd _ _ (h.at.sl t),h.gr.below⟩⟩
 simp [results,hr]
theorem StS.cellv (h:StS S w0 K B n ds a w) {t kk:Nat} {e:WJ} {C:CU} (hsz:zAx P e=some kk) {y:Bx} (hB:zHq B t=some y) (hyC:y.c=C) (hyl: ∀cs W,C.p cs W->cs.length=kk): ∃(cs:List WI) (b:Nat),a.tmps[t]?.getD undef= pO b 0/\(loadVar e ⟨b,0,none⟩).run P w= .ok (.agg cs.toArray) w/\C.p cs w:=by
 obtain ⟨hy,rfl⟩:=zBg hB
 subst hyC
 obtain ⟨cs,h1,h2,h3,h4,h5⟩:=h.bx.mem y hy
 exact ⟨cs,y.b,by rw [<-xM];exact h1,zFD hsz (hyl _ _ h4) h3,h4⟩
theorem wP (h:St w0 K B n [] a w) {fn:Func} {f:SF} {t kk:Nat} {e:WJ} (C:CU) (hr:fn.results=#[.cell t e]) (hsz:zAx P e=some kk) {y:Bx} (hB:zHq B t=some y) (hyC:y.c=C) (hyl: ∀cs W,C.p cs W->cs.length=kk)
  (hd: ∀cs W,C.p cs W->f.p (.agg cs.toArray) W):bodyPost P fn (Ret w0 f) .ret a w:=by
 obtain ⟨cs,b,h0,h1,h2⟩:=h.cellv hsz hB hyC hyl
 refine ⟨h.nd, .agg cs.toArray, ?_,⟨_,rfl,hd _ _ h2,h.gr.below⟩⟩
 simp [results,hr,asAddr,h0,h1]
theorem vD (h:St w0 K B n [] a w) {fn:Func} {f:SF} {t r kk:Nat} {e:WJ} (C:CU) (hr:fn.results=#[.cell t e, .tmp r]) (hsz:zAx P e=some kk) {y:Bx} (hB:zHq B t=some y) (hyC:y.c=C) (hyl: ∀cs W,C.p cs W->cs.length=kk)
  (hd: ∀cs v W,C.p cs W->(zAD K B r).p v W->f.p (.tuple #[.agg cs.toArray,v]) W):bodyPost P fn (Ret w0 f) .ret a w:=by
 obtain ⟨cs,b,h0,h1,h2⟩:=h.cellv hsz hB hyC hyl
 refine ⟨h.nd, .tuple #[.agg cs.toArray,a.tmps.getD r undef], ?_,⟨_,rfl,hd _ _ _ h2 (h.at.sl r),h.gr.below⟩⟩
 simp [results,hr,asAddr,h0,h1]
end
end Go.Proofs.Wd

namespace Go.Proofs.Wd
set_option maxHeartbeats 800000
open Go.RowKit
section
variable {F:Fence} {m:Nat} {P:WL} {ops:Array Oper} {Q:Exit->Act->WH->Prop}
def zDd (ops:Array Oper) (i:Nat):Bool:=match ops[i]? with
 |some ⟨some _, .move _,_,_,_,none⟩|some ⟨some _, .extract _ _,_,_,_,none⟩=>true
 |_=>false
def zB5 (ops:Array Oper) (listed:Array Bool) (i:Nat):Bool:=zDd ops i&&Region.free .any ops listed i&&(Region.ready .any ops listed).contains i
def zIl (listed:Array Bool):List Nat->Array Bool
 | []=>listed
 |i::l=>zIl (listed.setIfInBounds i true) l
def zRc (ops:Array Oper):Array Bool->List Nat->Bool
 |_, []=>true
 |listed,i::l=>(match ops[i]? with|some ⟨some _, .move _,_,_,_,none⟩=>true|_=>false)&&zB5 ops listed i&&zRc ops (listed.setIfInBounds i true) l
theorem zB6 (v:WI) (j:Nat) (w w':WH) {r:WI} (h:(Instr.extract v j).run P w= .ok r w):(Instr.extract v j).run P w'= .ok r w':=by
 unfold Instr.extract at h ⊢
 split at h
 ·rename_i vs
  cases hv:vs[j]? with
  |none=>rw [hv] at h;simp at h
  |some u=>
   rw [hv] at h
   simp at h
   simp [h]
 ·simp at h
theorem zHY (hpl:zAd ops=true) (hns:Region.noSelect ops=true) {k:Nat} (hch: ∀r,r<ops.size - k->Region.ready .any ops (yF ops.size (k+r))= [k+r]∨zB5 ops (yF ops.size (k+r)) (k+r)=true):
  ∀(f r:Nat) (a:Act) (w:WH),k+r+f=ops.size->wpOpsIn F m P ops (qL Q) (List.range' (k+r) f) a w->jJ F m P .any ops ops.size (fun _=>True) (qL Q) f (yF ops.size (k+r)) a w
 | 0,r,a,w,hf,h=>by
  refine ⟨List.eq_nil_iff_forall_not_mem.2 fun i hi=> ?_,h⟩
  have h1:=(mem_ready.1 hi).1
  have hlt:i<ops.size:=by
   obtain ⟨_,o,ho,_⟩:=mem_ready.1 hi
   exact (xD.1 ho).1
  rw [xM,zCg hlt] at h1
  simp at h1
  omega
 | f+1,r,a,w,hf,h=>by
  rw [bD,wpOpsIn_cons] at h
  have hlt:k+r<ops.size:=by omega
  rcases hch r oD with hr|ht
  ·refine ⟨fun e=>(by rw [hr] at e;cases e),fun i hi=> ?_⟩
   rw [hr] at hi
   obtain rfl:i=k+r:=by simpa using hi
   refine wpOpIn_mono (fun a w h=>⟨.inr trivial, ?_⟩) h
   rw [zCf hlt]
   exact zHY hpl hns hch f (r+1) a w oD h
  ·unfold zB5 at ht
   simp only [xF] at ht
   obtain ⟨⟨hfl,hfr⟩,hrd⟩:=ht
   have ho:ops[k+r]?=some ops[k+r]:=bF hlt
   have key: ∃d v,ops[k+r].dst=some d/\j9 P ops (fun _=>True) ops[k+r] v a/\wpOpsIn F m P ops (qL Q) (List.range' (k+r+1) f) (a.put (some d) v) w:=by
    unfold zDd at hfl
    rw [ho] at hfl
    unfold wpOpIn at h
    rw [ho] at h
    generalize ops[k+r]=o at hfl h
    split at hfl
    ·rename_i d x ty pos aft he
     cases he
     refine ⟨d,a.eval x,rfl,⟨.inl ⟨rfl,fun w _=>rfl⟩,fun w=>rfl⟩, ?_⟩
     have h2:=h.2
     rw [xK _ _ _ (fun _ e=>by cases e)] at h2
     exact h2
    ·rename_i d x j ty pos aft he
     cases he
     have h2:=h.2
     rw [xK _ _ _ (fun _ e=>by cases e)] at h2
     cases hrun:(Instr.extract (a.eval x) j).run P w with
     |halt y w'=>
      have he:(execOp a.eval ⟨some d, .extract x j,ty,pos,aft,none⟩).run P w= .halt y w':=by simp [execOp,hrun]
      rw [he] at h2
      cases y<;>exact h2.elim
     | ok v w'=>
      have hw:w'=w:=by
       unfold Instr.extract at hrun
       split at hrun
       ·split at hrun
        ·simp at hrun;exact hrun.2.symm
        ·simp at hrun
       ·simp at hrun
      subst hw
      have he:(execOp a.eval ⟨some d, .extract x j,ty,pos,aft,none⟩).run P w'= .ok (.value v) w':=by simp [execOp,hrun]
      rw [he] at h2
      exact ⟨d,v,rfl,⟨.inl ⟨rfl,fun w _=>by simp [execOp,zB6 _ _ _ w hrun]⟩,fun w=>rfl⟩,h2⟩
    ·cases hfl
   obtain ⟨d,v,hd,hy,hrest⟩:=key
   refine zO (i:=k+r) (v:=v) hpl ?_ ho hns hfr hrd (fun _ _ _ h=>h) trivial hy ?_
   ·unfold zBp
    rw [Array.getElem?_eq_none (xN _)]
   ·rw [hd,zCf hlt]
    exact zHY hpl hns hch f (r+1) _ w oD hrest
def zB9 (ops:Array Oper) (pre:List Nat) (t:Nat):Bool:=pre.any fun i=>zX ops i==some t
def zGT (ops:Array Oper) (k i:Nat):Bool:=match ops[i]? with
 |some ⟨some _, .move x,_,_,_,none⟩=>(match x with| .tmp t=>(List.range k).all fun j=> !(zX ops j==some t)|_=>true)
 |_=>false
def zFO (ops:Array Oper) (k:Nat):Array Bool->List Nat->Bool
 |_, []=>true
 |listed,i::l=>zGT ops k i&&zB5 ops listed i&&zFO ops k (listed.setIfInBounds i true) l
theorem zOx {w0:WH} {G G1:Nat->SF} {n k:Nat} (hpl:zAd ops=true) (hns:Region.noSelect ops=true) (hfr:jP ops n=true) (hap:qS ops=true) (hG: ∀t,(∀j,j<k->zX ops j≠some t)->G1 t=G t) (hobs: ∀i o,ops[i]?=some o->zDd ops i=true->i<k->qB F m P w0 ops G1 o):
  ∀(pre done:List Nat) (listed:Array Bool) (f:Nat) (a:Act) (w:WH),(∀i,i∈done->i<k)->zFO ops k listed pre=true->(∀i,i∈pre->i<k)->Below w0.heap.size w0 w->a.tmps.size=n->(∀t,zB9 ops done t=true->(G1 t).p (a.tmps.getD t undef) w)->(∀t,zB9 ops done t=false->(G t).p (a.tmps.getD t undef) w)->
  (∀a',a'.tmps.size=n->a'.defers=a.defers->(∀t,zB9 ops (done++pre) t=true->(G1 t).p (a'.tmps.getD t undef) w)->(∀t,zB9 ops (done++pre) t=false->(G t).p (a'.tmps.getD t undef) w)->jJ F m P .any ops ops.size (fun _=>True) (qL Q) f (zIl listed pre) a' w)->
  jJ F m P .any ops ops.size (fun _=>True) (qL Q) (f+pre.length) listed a w
 | [],done,listed,f,a,w,_,_,_,_,hs,h1,h2,h=>h a hs rfl (by simpa using h1) (by simpa using h2)
 | i::l,done,listed,f,a,w,hdk,hc,hik,hb,hs,h1,h2,h=>by
  rw [zFO,xF,xF] at hc
  obtain ⟨⟨hm,ht⟩,hl⟩:=hc
  have hflo:zDd ops i=true:=by
   unfold zB5 at ht
   simp only [xF] at ht
   exact ht.1.1
  unfold zB5 at ht
  simp only [xF] at ht
  obtain ⟨⟨_,hfr'⟩,hrd⟩:=ht
  unfold zGT at hm
  cases ho:ops[i]? with
  |none=>rw [ho] at hm;cases hm
  | some o=>
   rw [ho] at hm
   have hg:=hobs i o ho hflo (hik i (by simp))
   obtain ⟨d,x,ty,pos,aft,rfl,hx⟩: ∃d x ty pos aft,o=⟨some d, .move x,ty,pos,aft,none⟩/\(match x with| .tmp t=>(List.range k).all fun j=> !(zX ops j==some t)|_=>true)=true:=by
    split at hm
    ·rename_i d x ty pos aft he
     cases he
     exact ⟨_,_,_,_,_,rfl,hm⟩
    ·cases hm
   have hdl:d<n:=y4 hfr ho rfl
   have hfact:(G1 d).p (a.eval x) w:=by
    have:=hg a w (fun a' w'=>(G1 d).p (a'.tmps.getD d undef) w') Q hb (fun t ht=>by
     have hxt:x= .tmp t:=by
      simp only [zCL,Op.operands,List.mem_filterMap] at ht
      obtain ⟨y,hy,he⟩:=ht
      simp at hy
      subst hy
      cases y with
      |tmp u=>simp at he;rw [he]
      |_=>simp at he
     subst hxt
     have hno: ∀j,j<k->zX ops j≠some t:=fun j hjk hj=>by
      have:=xC.1 hx j (xH.2 hjk)
      rw [hj] at this
      simp at this
     rw [hG t hno]
     refine h2 t ?_
     unfold zB9
     refine xR.2 fun j hj=> ?_
     simp [hno j (hdk j hj)]) fun v W' hv _=>(by
      rw [jC (by rw [hs];exact hdl)]
      exact hv d rfl)
    have h3:=this.2
    rw [xK _ _ _ (fun _ e=>by cases e)] at h3
    have h4:(G1 d).p ((a.put (some d) (a.eval x)).tmps.getD d undef) w:=h3
    rwa [jC (by rw [hs];exact hdl)] at h4
   have hlen:f+(i::l).length=(f+l.length)+1:=by simp;omega
   rw [hlen]
   refine zO (i:=i) (v:=a.eval x) hpl ?_ ho hns hfr' hrd (fun _ _ _ h=>h) trivial ⟨.inl ⟨rfl,fun w _=>rfl⟩,fun w=>rfl⟩ ?_
   ·unfold zBp
    rw [Array.getElem?_eq_none (xN _)]
   ·have hdd: ∀t,zB9 ops (done++ [i]) t=(zB9 ops done t||(d==t)):=fun t=>by
     unfold zB9
     rw [List.any_append]
     simp [qZ ho]
    refine zOx hpl hns hfr hap hG hobs l (done++ [i]) _ f _ w (fun j hj=>by
     rcases xS.1 hj with hj|hj
     ·exact hdk j hj
     ·simp at hj;subst hj;exact hik j (by simp)) hl (fun j hj=>hik j (by simp [hj])) hb (by rw [zBP];exact hs) (fun t ht=> ?_) (fun t ht=> ?_) fun a' g1 g2 g3 g4=> ?_
    ·rw [hdd,Bool.or_eq_true] at ht
     by_cases e:d=t
     ·subst e
      rw [jC (by rw [hs];exact hdl)]
      exact hfact
     ·rw [jY e]
      exact h1 t (ht.resolve_right (by simpa using e))
    ·rw [hdd,Bool.or_eq_false_iff] at ht
     have e:d≠t:=by simpa using ht.2
     rw [jY e]
     exact h2 t ht.1
    ·rw [List.append_assoc] at g3 g4
     exact h a' g1 (by rw [g2,zA0]) g3 g4
theorem zIk: ∀(pre:List Nat) (listed:Array Bool) (j:Nat),j<listed.size->(zIl listed pre)[j]?=some (listed.getD j false||pre.contains j)
 | [],listed,j,hj=>by simp [zIl,hj]
 | i::l,listed,j,hj=>by
  show (zIl (listed.setIfInBounds i true) l)[j]?=_
  rw [zIk l _ j (by simpa using hj)]
  by_cases e:i=j
  ·subst e
   simp [hj]
  ·rw [getD_set_ne false e]
   have: ¬j=i:=fun h=>e h.symm
   simp [this]
theorem zGB: ∀(pre:List Nat) (listed:Array Bool),(zIl listed pre).size=listed.size
 | [],_=>rfl
 |i::l,listed=>by
  show (zIl (listed.setIfInBounds i true) l).size=_
  rw [zGB l]
  simp
def zCx (ops:Array Oper) (pre:List Nat) (k n:Nat) (keys:List Nat):Bool:=
 qS ops&&jP ops n&&zAd ops&&Region.noSelect ops&&decide (k<=ops.size)&&
 keys.all (fun t=>(List.range k).any fun i=>zX ops i==some t)&&
 zFO ops k (Array.replicate ops.size false) pre&&pre.all (fun i=>decide (i<k))&&
 (List.range k).all (fun i=>pre.contains i||match ops[i]? with
  |none=>true
  |some o=>(looks ops o).all fun t=>(List.range ops.size).all fun j=> !(zX ops j==some t)||pre.contains j||o.after.any fun e=>Region.binds .any e&&e.on==j)&&
 zA3 ops&&zCJ ops (zIl (Array.replicate ops.size false) pre) k&&zDB ops (zIl (Array.replicate ops.size false) pre)&&zII (zIl (Array.replicate ops.size false) pre) k&&
 ((zIl (Array.replicate ops.size false) pre).count false==ops.size - pre.length)&&decide (pre.length<=ops.size)&&
 (List.range (ops.size - k)).all fun r=>Region.ready .any ops (yF ops.size (k+r))== [k+r]||zB5 ops (yF ops.size (k+r)) (k+r)
theorem zGK {id:Nat} {w0:WH} {G:Nat->SF} {n:Nat} {ds:List Deferred} {a:Act} {w:WH} (pre:List Nat) (k:Nat) (L:List (Nat×SF)) (hmix:P.follows .mixedOrders=true)
  (hchk:zCx ops pre k n (L.map (·.1))=true) (h:At w0 G n ds a w) (hobs:Obs F m P w0 ops (upd G L) (ops.toList.take k))
  (hfin: ∀a w,At w0 (zEH ops k (upd G L)) n ds a w->wpOpsIn F m P ops (qL Q) (List.range' k (ops.size - k)) a w):(Code.region id ops true).wpIn F m P Q a w:=by
 unfold zCx at hchk
 simp only [xF] at hchk
 obtain ⟨⟨⟨⟨⟨⟨⟨⟨⟨⟨⟨⟨⟨⟨⟨hap,hfr⟩,hpl⟩,hns⟩,hk⟩,hkeys⟩,hpre⟩,hprk⟩,hrd⟩,hear⟩,htl⟩,hcl⟩,hto⟩,hcnt⟩,hpl2⟩,hch⟩:=hchk
 have hk:=xW hk
 have hpl2:=xW hpl2
 have hprk': ∀i,i∈pre->i<k:=fun i hi=>xW (xC.1 hprk i hi)
 have hget: ∀i o,i<k->ops[i]?=some o->qB F m P w0 ops (upd G L) o:=fun i o hi ho=>hobs.get i o (by rw [bG hi];simpa using ho)
 have hkey: ∀t,(∀j,j<k->zX ops j≠some t)->upd G L t=G t:=fun t ht=>by
  refine zAl ?_
  cases hc:(L.map (·.1)).contains t with
  |false=>rfl
  |true=>
   exfalso
   have hm:=xJ.1 hc
   obtain ⟨i,hi,he⟩:=xP.1 (xC.1 hkeys t hm)
   exact ht i (xH.1 hi) (by simpa using he)
 have hch': ∀r,r<ops.size - k->Region.ready .any ops (yF ops.size (k+r))= [k+r]∨zB5 ops (yF ops.size (k+r)) (k+r)=true:=fun r hr=>by
  have:=xC.1 hch r (xH.2 hr)
  simpa using this
 have hdrew:Below w.heap.size w w.drew:=(xG _ w).drew
 refine zY ops.size (fun _=>True) hmix ?_
 rw [show ops.size=(ops.size - pre.length)+pre.length from by omega]
 rw [show (ops.size - pre.length)+pre.length=ops.size from by omega]
 have hsz:jJ F m P .any ops ops.size (fun _=>True) (qL Q) (ops.size - pre.length+pre.length) (Array.replicate ops.size false) a w.drew:=by
  refine zOx (w0:=w0) (G:=G) (G1:=upd G L) (n:=n) (k:=k) hpl hns hfr hap hkey (fun i o ho _ hi=>hget i o hi ho) pre [] _ _ a w.drew (fun i hi=>by cases hi) hpre hprk' (h.gr.trans (hdrew.mono h.gr.size)) h.size (fun t ht=>by cases ht) (fun t _=>(G t).st _ _ _ (h.sl t) hdrew) ?_
  intro a1 hs1 hd1 h1 h2
  rw [List.nil_append] at h1 h2
  have hlt0: ∀j,j<ops.size->(zIl (Array.replicate ops.size false) pre).getD j true=pre.contains j:=fun j hj=>by
   rw [xM,zIk pre _ j (by simpa using hj)]
   simp [hj]
  have hnd: ∀t,(∀j,zX ops j=some t->pre.contains j=true)->zBr ops (zIl (Array.replicate ops.size false) pre) t=false:=fun t ht=>by
   cases hd:zBr ops (zIl (Array.replicate ops.size false) pre) t with
   |false=>rfl
   |true=>
    exfalso
    unfold zBr at hd
    obtain ⟨i,hi,hp⟩:=xP.1 hd
    simp only [xF,beq_iff_eq] at hp
    have h3:=ht i (by rw [<-zD9];exact hp.2)
    rw [hlt0 i (xH.1 hi),h3] at hp
    exact absurd hp.1 (by decide)
  have hstay: ∀t,(∀j,zX ops j=some t->pre.contains j=true)->(upd G L t).p (a1.tmps.getD t undef) w.drew:=fun t ht=>by
   by_cases hp:zB9 ops pre t=true
   ·exact h1 t hp
   ·have hp':zB9 ops pre t=false:=by simpa using hp
    have hno: ∀j,zX ops j≠some t:=fun j hj=>by
     have h3:=ht j hj
     unfold zB9 at hp'
     have:=xR.1 hp' j (xJ.1 h3)
     rw [hj] at this
     simp at this
    rw [hkey t fun j _=>hno j]
    exact h2 t hp'
  refine zGe (k:=k) (z:=ops.size) (w:=w.drew) (fun _=>false) (fun i v W=> ∀o,ops[i]?=some o-> ∀d,o.dst=some d->(upd G L d).p v W) (fun W=>Below w0.heap.size w0 W/\Below w.drew.heap.size w.drew W) hear htl hap (by rw [hs1];exact hfr) (by simpa using hk) (by simpa using hcnt) (by rw [zGB];simp) hcl hto (fun W W' hC hb=>⟨hC.1.trans (hb.mono hC.1.size),hC.2.trans (hb.mono hC.2.size)⟩) (fun i v W W' hE hb o ho d hd=>(upd G L d).st _ _ _ (hE o ho d hd) hb) ⟨h.gr.trans (hdrew.mono h.gr.size),xG _ _⟩ ?spec ?fin
  case spec=>
   intro i hik hl o ho b W hf K hK
   have hip:pre.contains i=false:=by rw [<-hlt0 i (xD.1 ho).1];exact hl
   refine jT ho (hget i o hik ho) (fun j g hj=> ?_) hf.at_.cls.1 (fun t ht=> ?_) (fun v W' hv hb=>hK v W' (fun o' ho' d hd=>by rw [ho] at ho';cases ho';exact hv d hd) hb (fun e=>by cases e))
   ·rw [hf.at_.size,hs1]
    obtain ⟨oj,hoj,hdj⟩:=yZ hj
    exact y4 hfr hoj hdj
   ·by_cases hex: ∃j,zX ops j=some t/\pre.contains j=false
    ·obtain ⟨j,hj,hjp⟩:=hex
     obtain ⟨oj,hoj,hdj⟩:=yZ hj
     have h3:=xC.1 hrd i (xH.2 hik)
     rw [hip,Bool.false_or,ho] at h3
     have h4:=xC.1 (xC.1 h3 t ht) j (xH.2 (xD.1 hoj).1)
     rw [hj,hjp] at h4
     simp only [beq_self_eq_true,Bool.not_true,Bool.false_or] at h4
     obtain ⟨x,hx,he⟩:=Array.any_eq_true.1 h4
     simp only [xF,beq_iff_eq] at he
     exact hf.at_.vals j oj t ⟨by rw [hlt0 j (xD.1 hoj).1];exact hjp,_,Array.getElem_mem hx,he.1,he.2⟩ hoj hdj oj hoj t hdj
    ·have hall: ∀j,zX ops j=some t->pre.contains j=true:=fun j hj=>by
      cases hc:pre.contains j with
      |true=>rfl
      |false=>exact (hex ⟨j,hj,hc⟩).elim
     rw [hf.at_.keep t (hnd t hall)]
     exact (upd G L t).st _ _ _ (hstay t hall) hf.at_.cls.2
  case fin=>
   intro b W hf
   have hA:At w0 (zEH ops k (upd G L)) n ds b W:=⟨hf.at_.cls.1,by rw [hf.at_.size];exact hs1,by rw [hf.at_.defers,hd1];exact h.nd,fun t=>by
    unfold zEH
    cases hc:(List.range ops.size).any fun i=>decide (k<=i)&&(zX ops i==some t) with
    |true=>trivial
    | false=>
     show (upd G L t).p _ _
     by_cases hex: ∃j,zX ops j=some t/\pre.contains j=false
     ·obtain ⟨j,hj,hjp⟩:=hex
      obtain ⟨oj,hoj,hdj⟩:=yZ hj
      have hlt:=(xD.1 hoj).1
      have h3:=xR.1 hc j (xH.2 hlt)
      simp [hj] at h3
      exact hf.at_.vals j oj t ⟨by omega,by rw [hlt0 j hlt];exact hjp⟩ hoj hdj oj hoj t hdj
     ·have hall: ∀j,zX ops j=some t->pre.contains j=true:=fun j hj=>by
       cases hc:pre.contains j with
       |true=>rfl
       |false=>exact (hex ⟨j,hj,hc⟩).elim
      rw [hf.at_.keep t (hnd t hall)]
      exact (upd G L t).st _ _ _ (hstay t hall) hf.at_.cls.2⟩
   have h5:=zHY (Q:=Q) hpl hns hch' (ops.size - k) 0 b W oD (by simpa using hfin b W hA)
   simpa using h5
 rwa [show ops.size - pre.length+pre.length=ops.size from by omega] at hsz
theorem zB7 {S:Nat->Prop} {w0:WH} {K:List (Nat×KF)} {B:List Bx} {n:Nat} {ds:List Deferred} {a:Act} {w:WH} {id:Nat} (K0:List (Nat×KF)) (pre:List Nat) (k:Nat) (L:List (Nat×Rw)) (hmix:P.follows .mixedOrders=true) (h:StS S w0 (K0++K) B n ds a w)
  (hchk:(zCx ops pre k n (L.map (·.1))&&zA4 ops (K.map (·.1)++B.map (·.t))&&zAL (L.map (·.1)))=true)
  (hobs:Obs F m P w ops (upd (zAD (K0++K) B) (zR L)) (ops.toList.take k))
  (hfin: ∀Q',(∀a w,Q .normal a w->Q' .normal a w)-> ∀a w,StS S w0 (zBq L++K) B n ds a w->(∀q,q∈zR L->q.2.p (a.tmps.getD q.1 undef) w)->zBt F m P ops Q' k a w):(Code.region id ops true).wpIn F m P Q a w:=by
 simp only [xF] at hchk
 have hkeys:(zR L).map (·.1)=L.map (·.1):=by simp [zR]
 have h0:=hchk.1.1
 unfold zCx at h0
 simp only [xF] at h0
 obtain ⟨⟨⟨⟨⟨⟨⟨⟨⟨⟨⟨⟨⟨⟨⟨hap,_⟩,_⟩,_⟩,_⟩,hks⟩,_⟩,_⟩,_⟩,_⟩,_⟩,_⟩,_⟩,_⟩,_⟩,_⟩:=h0
 exact zEk K0 k L h (fun G' hA hO hF=>zGK pre k (zR L) hmix (by rw [hkeys];exact hchk.1.1) hA hO hF) hap hks hchk.1.2 hchk.2 hobs (fun a w h hr=>hfin (qL Q) (fun a w h=>h) a w h hr)
theorem zHI {S:Nat->Prop} {w0:WH} {K:List (Nat×KF)} {B:List Bx} {n:Nat} {ds:List Deferred} {a:Act} {w:WH} {id:Nat} (K0:List (Nat×KF)) (pre:List Nat) (k:Nat) (L:List (Nat×Rw)) (hmix:P.follows .mixedOrders=true) (h:StS S w0 (K0++K) B n ds a w)
  (hchk:(zCx ops pre k n (L.map (·.1))&&zA4 ops (K.map (·.1)++B.map (·.t))&&zAL (L.map (·.1)))=true)
  (hobs:Obs F m P w ops (upd (zAD (K0++K) B) (zR L)) (ops.toList.take k))
  (hfin: ∀Q',(∀a w,Q .normal a w->Q' .normal a w)-> ∀a w,StS S w0 (zBq L++K) B n ds a w->zBt F m P ops Q' k a w):(Code.region id ops true).wpIn F m P Q a w:=
 zB7 K0 pre k L hmix h hchk hobs fun Q hq a w h _=>hfin Q hq a w h
theorem zAb {S:Nat->Prop} {w0:WH} {K:List (Nat×KF)} {B:List Bx} {n:Nat} {ds:List Deferred} {a:Act} {w:WH} {id:Nat} (pre:List Nat) (k:Nat) (L:List (Nat×Rw)) (hmix:P.follows .mixedOrders=true) (h:StS S w0 K B n ds a w)
  (hchk:(zCx ops pre k n (L.map (·.1))&&zA4 ops (K.map (·.1)++B.map (·.t))&&zAL (L.map (·.1)))=true)
  (hobs:Obs F m P w ops (upd (zAD K B) (zR L)) (ops.toList.take k))
  (hfin: ∀Q',(∀a w,Q .normal a w->Q' .normal a w)-> ∀a w,StS S w0 (zBq L++K) B n ds a w->zBt F m P ops Q' k a w):(Code.region id ops true).wpIn F m P Q a w:=
 zHI [] pre k L hmix h hchk hobs hfin
theorem zIm {w0:WH} {G:Nat->SF} {n k:Nat} {a0:Act} {wA:WH} (hap:qS ops=true) (hfr:jP ops n=true) (hk:k<=ops.size)
  (hrd: ∀i o,i<k->ops[i]?=some o-> ∀t,t∈looks ops o-> ∀j,zX ops j=some t->j<i∨k<=j)
  (hst: ∀t,(∀j,j<k->zX ops j≠some t)->(G t).p (a0.tmps.getD t undef) wA)
  (hobs: ∀i o,i<k->ops[i]?=some o->qB F m P w0 ops G o)
  (hfin: ∀a w,Below w0.heap.size w0 w->a.tmps.size=n->a.defers=a0.defers->(∀t,(G t).p (a.tmps.getD t undef) w)->wpOpsIn F m P ops Q (List.range' k (ops.size - k)) a w):
  ∀(r i:Nat) (a:Act) (w:WH),i+r=k->Below wA.heap.size wA w->Below w0.heap.size w0 w->a.tmps.size=n->a.defers=a0.defers->
   (∀t,(∃j,j<i/\zX ops j=some t)->(G t).p (a.tmps.getD t undef) w)->(∀t,(∀j,j<i->zX ops j≠some t)->a.tmps.getD t undef=a0.tmps.getD t undef)->
   wpOpsIn F m P ops Q (List.range' i (ops.size - i)) a w
 | 0,i,a,w,hi,hA,h0,hs,hd,h1,h2=>by
  obtain rfl:i=k:=by omega
  refine hfin a w h0 hs hd fun t=> ?_
  by_cases ht: ∃j,j<i/\zX ops j=some t
  ·exact h1 t ht
  ·have hno: ∀j,j<i->zX ops j≠some t:=fun j hj he=>ht ⟨j,hj,he⟩
   rw [h2 t hno]
   exact (G t).st _ _ _ (hst t hno) hA
 | r+1,i,a,w,hi,hA,h0,hs,hd,h1,h2=>by
  have hik:i<k:=by omega
  have hlt:i<ops.size:=by omega
  rw [show ops.size - i=(ops.size - (i+1))+1 from by omega,bD,wpOpsIn_cons]
  have ho:ops[i]?=some ops[i]:=bF hlt
  refine jT ho (hobs i _ hik ho) (fun j g hj=> ?_) h0 (fun t ht=> ?_) fun v W' hv hb=> ?_
  ·rw [hs]
   obtain ⟨oj,hoj,hdj⟩:=yZ hj
   exact y4 hfr hoj hdj
  ·by_cases hex: ∃j,j<i/\zX ops j=some t
   ·exact h1 t hex
   ·have hno: ∀j,j<i->zX ops j≠some t:=fun j hj he=>hex ⟨j,hj,he⟩
    have hno2: ∀j,j<k->zX ops j≠some t:=fun j hj he=>by
     rcases hrd i _ hik ho t ht j he with h3|h3
     ·exact hno j h3 he
     ·omega
    rw [h2 t hno]
    exact (G t).st _ _ _ (hst t hno2) hA
  ·refine zIm hap hfr hk hrd hst hobs hfin r (i+1) _ W' oD (hA.trans (hb.mono hA.size)) (h0.trans (hb.mono h0.size)) (by rw [zBP];exact hs) (by rw [zA0];exact hd) (fun t ⟨j,hj,ht⟩=> ?_) (fun t ht=> ?_)
   ·by_cases hji:j=i
    ·subst hji
     rw [qZ ho] at ht
     have hdt:ops[j].dst=some t:=ht
     have h3:=hv t hdt
     rw [hdt,jC (by rw [hs];exact y4 hfr ho hdt)]
     exact h3
    ·rw [zBV]
     ·exact (G t).st _ _ _ (h1 t ⟨j,by omega,ht⟩) hb
     ·intro hdt
      obtain ⟨oj,hoj,hdj⟩:=yZ ht
      exact jD hap ho hoj (Ne.symm hji) hdt hdj
   ·rw [zBV]
    ·exact h2 t (fun j hj=>ht j oD)
    ·intro hdt
     exact ht i oD (by rw [qZ ho];exact hdt)
def zGf (ops:Array Oper) (k n:Nat) (keys:List Nat):Bool:=
 qS ops&&jP ops n&&zAd ops&&decide (k<=ops.size)&&
 keys.all (fun t=>(List.range k).any fun i=>zX ops i==some t)&&
 (List.range k).all (fun i=>match ops[i]? with
  |none=>true
  |some o=>(looks ops o).all fun t=>(List.range ops.size).all fun j=> !(zX ops j==some t)||decide (j<i)||decide (k<=j))
def zE9 (ops:Array Oper) (k:Nat) (ts:List Nat):Bool:=ts.all fun t=>(List.range k).all fun i=> !(zX ops i==some t)
theorem zBn {S:Nat->Prop} {w0:WH} {K:List (Nat×KF)} {B:List Bx} {n:Nat} {ds:List Deferred} {a:Act} {w:WH} {id:Nat} (k:Nat) (L:List (Nat×Rw)) (h:StS S w0 K B n ds a w)
  (hchk:(zGf ops k n (L.map (·.1))&&zE9 ops k (K.map (·.1)++B.map (·.t))&&zAL (L.map (·.1)))=true)
  (hobs:Obs F m P w ops (upd (zAD K B) (zR L)) (ops.toList.take k))
  (hfin: ∀a w,StS S w0 (zBq L++K) B n ds a w->(∀q,q∈zR L->q.2.p (a.tmps.getD q.1 undef) w)->zBt F m P ops Q k a w):(Code.region id ops false).wpIn F m P Q a w:=by
 simp only [xF] at hchk
 obtain ⟨⟨hchk,hun⟩,hnd⟩:=hchk
 unfold zGf at hchk
 simp only [xF] at hchk
 obtain ⟨⟨⟨⟨⟨hap,hfr⟩,hpl⟩,hk⟩,hkeys⟩,hrd⟩:=hchk
 have hk:=xW hk
 have hks:(zR L).map (·.1)=L.map (·.1):=by simp [zR]
 have hsame: ∀t,t∈K.map (·.1)++B.map (·.t)-> ∀i,i<k->zX ops i≠some t:=fun t ht i hi he=>by
  have h2:=xC.1 (xC.1 hun t ht) i (xH.2 hi)
  rw [he] at h2
  simp at h2
 have hA:=h.at
 have hkn: ∀t,(∀j,j<k->zX ops j≠some t)->upd (zAD K B) (zR L) t=zAD K B t:=fun t ht=>by
  refine zAl ?_
  cases hc:((zR L).map (·.1)).contains t with
  |false=>rfl
  |true=>
   exfalso
   have hm:=xJ.1 hc
   rw [hks] at hm
   obtain ⟨i,hi,he⟩:=xP.1 (xC.1 hkeys t hm)
   exact ht i (xH.1 hi) (by simpa using he)
 refine wpIn_region ?_
 rw [List.range_eq_range']
 -- the table, the kept slots' values said
 let G1:Nat->SF:=fun t=>if t∈K.map (·.1)++B.map (·.t) then ⟨fun v W=>(upd (zAD K B) (zR L) t).p v W/\v=a.tmps.getD t undef,fun _ _ _ h hb=>⟨(upd (zAD K B) (zR L) t).st _ _ _ h.1 hb,h.2⟩⟩ else upd (zAD K B) (zR L) t
 have hle: ∀t v W,(G1 t).p v W->(upd (zAD K B) (zR L) t).p v W:=fun t v W hh=>by
  by_cases ht:t∈K.map (·.1)++B.map (·.t)
  ·simp only [G1,if_pos ht] at hh
   exact hh.1
  ·simp only [G1,if_neg ht] at hh
   exact hh
 have hge: ∀t,(∃i,i<k/\zX ops i=some t)->G1 t=upd (zAD K B) (zR L) t:=fun t ⟨i,hi,he⟩=>by
  simp only [G1]
  rw [if_neg fun ht=>hsame t ht i hi he]
 have hobs': ∀i o,i<k->ops[i]?=some o->qB F m P w ops G1 o:=fun i o hi ho=>by
  have hg:=hobs.get i o (by rw [bG hi];simpa using ho)
  have hop:zMe F m P w (upd (zAD K B) (zR L)) o->zMe F m P w G1 o:=fun h1 b W K' Q' hb hr hK'=>
   h1 b W K' Q' hb (fun t ht=>hle t _ _ (hr t ht)) fun v W' hv hb'=>hK' v W' (fun d hd=>by rw [hge d ⟨i,hi,by rw [qZ ho];exact hd⟩];exact hv d hd) hb'
  unfold qB at hg ⊢
  cases hgd:o.guard with
  |none=>rw [hgd] at hg;exact hop hg
  |some q=>
   rw [hgd] at hg
   obtain ⟨g,bv,h1,h2,h3,h4⟩:=hg
   exact ⟨g,bv,h1,fun v W hh=>h2 v W (hle g v W hh),fun e=>hop (h3 e),fun e=>⟨fun d hd W=>by rw [hge d ⟨i,hi,by rw [qZ ho];exact hd⟩];exact (h4 e).1 d hd W,(h4 e).2⟩⟩
 refine zIm (G:=G1) (k:=k) (n:=n) (a0:=a) (wA:=w) (w0:=w) hap hfr hk (fun i o hi ho t ht j hj=> ?_) (fun t ht=> ?_) hobs' (fun a' w' hb hs hd hh=> ?_) k 0 a w oD (xG _ _) (xG _ _) h.size rfl (fun t ⟨j,hj,_⟩=>absurd hj oD) (fun t _=>rfl)
 ·have h1:=xC.1 hrd i (xH.2 hi)
  rw [ho] at h1
  obtain ⟨oj,hoj,_⟩:=yZ hj
  have h2:=xC.1 (xC.1 h1 t ht) j (xH.2 (xD.1 hoj).1)
  rw [hj] at h2
  simpa using h2
 ·have h1:=hA.sl t
  rw [<-hkn t ht] at h1
  by_cases hm:t∈K.map (·.1)++B.map (·.t)
  ·simp only [G1,if_pos hm]
   exact ⟨h1,by first|rfl|trivial⟩
  ·simp only [G1,if_neg hm]
   exact h1
 ·have hslot: ∀t,t∈K.map (·.1)++B.map (·.t)->a'.tmps.getD t undef=a.tmps.getD t undef:=fun t ht=>by
   have h1:=hh t
   simp only [G1,if_pos ht] at h1
   exact h1.2
  have hrow: ∀q,q∈zR L->q.2.p (a'.tmps.getD q.1 undef) w':=fun q hm2=>by
   have h1:=hle q.1 _ _ (hh q.1)
   rwa [zCH (q:=q) (by rw [hks];exact hnd) hm2] at h1
  refine hfin a' w' ⟨h.gr.trans hb,hs,by rw [hd];exact h.nd,fun q hq=> ?_,h.bx.keep hb (zK hb) B fun x hx=>hslot _ (xO _ (xE.2 ⟨x,hx,rfl⟩)),zAW h.mks hb,h.so.imp (fun hu q hq=>(by
   rcases xS.1 hq with hq|hq
   ·obtain ⟨f,e,_⟩:=zAz hq;exact ⟨f,e⟩
   ·exact hu q hq)) (fun x=>x)⟩ hrow
  rcases xS.1 hq with hq|hq
  ·obtain ⟨f,hqf,hm⟩:=zAz hq
   have hm2:((q.1,f.tS):Nat×SF)∈zR L:=xE.2 ⟨_,hm,rfl⟩
   have h1:=hle q.1 _ _ (hh q.1)
   rw [zCH (q:=(q.1,f.tS)) (by rw [hks];exact hnd) hm2] at h1
   rw [hqf]
   exact h1
  ·rw [hslot q.1 (xT _ (xE.2 ⟨q,hq,rfl⟩))]
   exact KF.us (h.sl q hq) (zK hb)
theorem yI {S:Nat->Prop} {w0:WH} {K:List (Nat×KF)} {B:List Bx} {n:Nat} {ds:List Deferred} {a:Act} {w:WH} {id:Nat} (k:Nat) (L:List (Nat×Rw)) (h:StS S w0 K B n ds a w)
  (hchk:(zGf ops k n (L.map (·.1))&&zE9 ops k (K.map (·.1)++B.map (·.t))&&zAL (L.map (·.1)))=true)
  (hobs:Obs F m P w ops (upd (zAD K B) (zR L)) (ops.toList.take k))
  (hfin: ∀a w,StS S w0 (zBq L++K) B n ds a w->zBt F m P ops Q k a w):(Code.region id ops false).wpIn F m P Q a w:=
 zBn k L h hchk hobs fun a w h _=>hfin a w h
end
end Go.Proofs.Wd
