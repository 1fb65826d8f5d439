/- The calculus of walks by facts: the single operations; The calculus of and what it needs. -/
import Derived.Test.YthegekeodchhiaaGreatDoorMLR3
import Derived.Great.BuildSlice
import Derived.Shelf.Abstract
theorem oD {P:Prop} (h:P:=by omega):P:=h
abbrev xL:=@List.all_eq_true
abbrev xM:=@Array.getElem?_eq_some_iff
abbrev xN:=@List.mem_map
abbrev xO:=@Bool.and_eq_true
abbrev xP:=@Go.RowKit.Below.refl
abbrev xQ:=@List.mem_range
abbrev xR:=@List.mem_cons
abbrev xS:=@List.contains_iff_mem
abbrev xT:=@Go.Oper.semAt_eq
abbrev xU:=@Nat.eq_of_beq_eq_true
abbrev xV:=@Array.getD_eq_getD_getElem?
abbrev xW:=@Nat.le_refl
abbrev xX:=@List.mem_append_right
abbrev xY:=@List.any_eq_true
abbrev xZ:=@Go.Addr.add_lit
abbrev bB:=@List.any_eq_false
abbrev bC:=@List.mem_append
abbrev bD:=@List.mem_append_left
abbrev bE:=@Nat.le_trans
abbrev bF:=@Array.getElem_modify
abbrev bG:=@of_decide_eq_true
abbrev bH:=@Go.World.block_lt_of_cell?
abbrev bI:=@Go.World.alloc_heap_new
abbrev bJ:=@Option.map_some
abbrev bK:=@Option.some.injEq
abbrev bL:=@Go.Result.andThen_ok
abbrev bN:=@List.range'_succ
abbrev bO:=@Array.getElem?_append_left
abbrev bP:=@Array.getElem?_eq_getElem
abbrev bQ:=@List.getElem?_take_of_lt
abbrev WH:=Go.World
abbrev WI:=Go.Value
abbrev WJ:=Go.TypeId
abbrev WK:=Go.Operand
abbrev WL:=Go.Program
namespace Go.Proofs.Wd
open Go.RowKit
section
variable {F:Fence} {m:Nat} {P:WL} {w0:WH} {ops:Array Oper} {G:Nat->SF} {d:Tmp} {ty:WJ} {pos:String} {aft:Array Edge}
def fct (G:Nat->SF):WK->SF
 | .tmp t=>G t
 | .const v=>SF.eq v
 | .func f=>SF.eq (.func (.func f) #[] #[])
 | .global g=>SF.eq (.pointer (some ⟨g,0,none⟩))
theorem qK {b:Act} {W:WH} {o:Oper} (h: ∀t,t∈zC9 o->(G t).p (b.tmps.getD t undef) W) {x:WK} (hx:x∈o.op.operands.toList):(fct G x).p (b.eval x) W:=by
 cases x with
 |tmp t=>exact h t (List.mem_filterMap.2 ⟨_,hx,rfl⟩)
 |const v=>rfl
 |func f=>rfl
 |global g=>rfl
theorem zB3 {o:Oper} {b:Act} {W W':WH} {v:WI} {K:Act->WH->Prop} {Q:Exit->Act->WH->Prop} (hd: ∀c,o.op≠ .defer c) (hc: ∀c,o.op≠ .call c) (hrun:(execOp b.eval o).run P W= .ok (.value v) W') (hK:K (b.put o.dst v) W'):o.wpIn F m P b W K Q:=by
 refine ⟨fun f hf=> ?_, ?_⟩
 ·unfold Oper.about at hf
  split at hf
  ·rename_i c hcc;exact absurd hcc (hc c)
  ·cases hf
 ·rw [xT _ _ _ hd,hrun]
  exact hK
theorem jG {op:Op} (hd: ∀c,op≠ .defer c) (hc: ∀c,op≠ .call c)
  (h: ∀(b:Act) (W:WH),Below w0.heap.size w0 W->(∀x,x∈op.operands.toList->(fct G x).p (b.eval x) W)-> ∃v,(execOp b.eval ⟨some d,op,ty,pos,aft,none⟩).run P W= .ok (.value v) W/\(G d).p v W):
  qX F m P w0 ops G ⟨some d,op,ty,pos,aft,none⟩:=by
 intro b W K Q hb hr hK
 obtain ⟨v,hrun,hv⟩:=h b W hb fun x hx=>qK hr hx
 exact zB3 hd hc hrun (hK v W (fun d' e=>by cases e;exact hv) (xP _ _))
theorem zB {x:WK} (h: ∀v W,Below w0.heap.size w0 W->(fct G x).p v W->(G d).p v W:=by exact fun _ _ _ h=>h):qX F m P w0 ops G ⟨some d, .move x,ty,pos,aft,none⟩:=
 jG (fun _ e=>by cases e) (fun _ e=>by cases e) fun b W hb hx=>⟨_,rfl,h _ _ hb (hx x (by simp [Op.operands]))⟩
theorem zF {x:WK} (h: ∀v W,Below w0.heap.size w0 W->(fct G x).p v W->(G d).p v W:=by exact fun _ _ _ h=>h):qX F m P w0 ops G ⟨some d, .assign x,ty,pos,aft,none⟩:=
 jG (fun _ e=>by cases e) (fun _ e=>by cases e) fun b W hb hx=>⟨_,rfl,h _ _ hb (hx x (by simp [Op.operands]))⟩
def Mem (W:WH) (b o:Nat) (cs:List WI):Prop:= ∀j u,cs[j]?=some u->W.cell? ⟨b,o+j,none⟩=some u
theorem Mem.below {W W':WH} {b o:Nat} {cs:List WI} (h:Mem W b o cs) (hb:Below W.heap.size W W'):Mem W' b o cs:=fun j u hj=>by
 have h1:=h j u hj
 exact (hb.cell (p:=⟨b,o+j,none⟩) (bH W _ h1)).trans h1
theorem Mem.drop {W:WH} {b o:Nat} {cs:List WI} (h:Mem W b o cs) (k:Nat):Mem W b (o+k) (cs.drop k):=fun j u hj=>by
 rw [List.getElem?_drop] at hj
 rw [Nat.add_assoc]
 exact h (k+j) u hj
structure CF where
 p:List WI->WH->Prop
 st: ∀cs w w',p cs w->Below w.heap.size w w'->p cs w'
def wB (C:CF):SF:=⟨fun v W=> ∃b o cs,v= .pointer (some ⟨b,o,none⟩)/\C.p cs W/\Mem W b o cs,fun _ _ _ ⟨b,o,cs,h1,h2,h3⟩ hb=>⟨b,o,cs,h1,C.st _ _ _ h2 hb,h3.below hb⟩⟩
theorem qI {x:WK} {C:CF} (hx: ∀v W,(fct G x).p v W->(wB C).p v W:=by first|exact fun _ _ h=>h|exact fun _ _ h=>h.2) (h: ∀v W,(wB C).p v W->(G d).p v W:=by exact fun _ _ h=>h):qX F m P w0 ops G ⟨some d, .nilCheck x,ty,pos,aft,none⟩:=
 jG (fun _ e=>by cases e) (fun _ e=>by cases e) fun b W hb hh=>by
  have h1:=hx _ _ (hh x (by simp [Op.operands]))
  obtain ⟨_,_,cs,e,_⟩:=id h1
  exact ⟨b.eval x,by simp [execOp,e],h _ _ h1⟩
def zCX (P:WL) (s:WJ) (f:Nat):Option Nat:=match P.underlying s with
 | some (.struct fs)=>match fs[f]? with
  |some f=>match P.info? f.type with
   |some i=>if i.size=0 then none else some f.offset
   |none=>none
  |none=>none
 |_=>none
theorem zJE {x:WK} {s:WJ} {f:Nat} {C C':CF} (k:Nat) (hk:zCX P s f=some k) (hx: ∀v W,(fct G x).p v W->(wB C).p v W) (h: ∀cs W,C.p cs W->C'.p (cs.drop k) W) (hd: ∀v W,(wB C').p v W->(G d).p v W:=by exact fun _ _ h=>h):qX F m P w0 ops G ⟨some d, .fieldAddr s x f,ty,pos,aft,none⟩:=
 jG (fun _ e=>by cases e) (fun _ e=>by cases e) fun b W hb hh=>by
  obtain ⟨a,q,cs,e,h2,h3⟩:=hx _ _ (hh x (by simp [Op.operands]))
  refine ⟨.pointer (some ⟨a,q+k,none⟩), ?_,hd _ _ ⟨_,_,_,rfl,h _ _ h2,h3.drop k⟩⟩
  unfold zCX at hk
  split at hk<;>try cases hk
  rename_i fs hu
  split at hk<;>try cases hk
  rename_i f' hf
  split at hk<;>try cases hk
  rename_i i hi
  split at hk<;>try cases hk
  rename_i hz
  simp [execOp,Instr.fieldAt,run_underlying hu,hf,e,Instr.sureAddr,fieldPlace,sizeOf,typeInfo,hi,hz,xZ]
def zAn (P:WL) (t:WJ):Option Nat:=match P.underlying t with
 |some (.struct _)|some (.array _ _)=>(P.info? t).map (·.size)
 |_=>none
def zFi (P:WL) (t:WJ):Bool:=match P.underlying t with
 |some (.struct _)|some (.array _ _)|none=>false
 |_=>true
theorem zDu {t:WJ} {k:Nat} (h:zAn P t=some k) (W:WH):(isAgg t).run P W= .ok true W/\ ∃i,P.info? t=some i/\i.size=k:=by
 unfold zAn at h
 split at h<;>try cases h
 all_goals
  rename_i hu
  cases hi:P.info? t with
  |none=>rw [hi] at h;cases h
  |some i=>rw [hi] at h;cases h;exact ⟨by simp [isAgg,run_underlying hu],i,rfl,rfl⟩
theorem zEr {t:WJ} (h:zFi P t=true) (W:WH):(isAgg t).run P W= .ok false W:=by
 unfold zFi at h
 split at h<;>try cases h
 rename_i h1 h2 h3
 cases hu:P.underlying t with
 |none=>exact absurd hu h3
 |some d=>cases d<;>simp_all [isAgg,run_underlying hu]
theorem zCp {t:WJ} {k:Nat} (h:zAn P t=some k) {a q:Nat} {cs:List WI} {W:WH} (hc:Mem W a q cs) (hk:k<=cs.length):(loadVar t ⟨a,q,none⟩).run P W= .ok (.agg (cs.take k).toArray) W:=by
 obtain ⟨h1,i,hi,hs⟩:=zDu h W
 have h2:=run_loadCells_list (P:=P) W ⟨a,q,none⟩ (cs.take k) (fun j v hj=>by rw [xZ];exact hc j v (by
  rw [List.getElem?_take] at hj
  split at hj
  ·exact hj
  ·cases hj))
 rw [List.length_take,Nat.min_eq_left hk] at h2
 simp [loadVar,h1,sizeOf,typeInfo,hi,hs,h2]
theorem zD2 {t:WJ} (h:zFi P t=true) {a q:Nat} {cs:List WI} {W:WH} (hc:Mem W a q cs) {u:WI} (hu:cs[0]?=some u):(loadVar t ⟨a,q,none⟩).run P W= .ok u W:=by
 have h1:=hc 0 u hu
 have h2:W.cell? ⟨a,q,none⟩=some u:=h1
 simp [loadVar,zEr h W,h2]
theorem zDG {x:WK} {t:WJ} {C:CF} (k:Nat) (hk:zAn P t=some k) (hx: ∀v W,(fct G x).p v W->(wB C).p v W) (h: ∀cs W,C.p cs W->k<=cs.length/\(G d).p (.agg (cs.take k).toArray) W):qX F m P w0 ops G ⟨some d, .load t x,ty,pos,aft,none⟩:=
 jG (fun _ e=>by cases e) (fun _ e=>by cases e) fun b W hb hh=>by
  obtain ⟨a,q,cs,e,h2,h3⟩:=hx _ _ (hh x (by simp [Op.operands]))
  obtain ⟨h4,h5⟩:=h cs W h2
  exact ⟨_,by simp [execOp,Instr.loadAt,e,Instr.sureAddr,zCp hk h3 h4],h5⟩
theorem jS {x:WK} {t:WJ} {C:CF} (hk:zFi P t=true) (hx: ∀v W,(fct G x).p v W->(wB C).p v W) (h: ∀cs W,C.p cs W-> ∃u,cs[0]?=some u/\(G d).p u W):qX F m P w0 ops G ⟨some d, .load t x,ty,pos,aft,none⟩:=
 jG (fun _ e=>by cases e) (fun _ e=>by cases e) fun b W hb hh=>by
  obtain ⟨a,q,cs,e,h2,h3⟩:=hx _ _ (hh x (by simp [Op.operands]))
  obtain ⟨u,h4,h5⟩:=h cs W h2
  exact ⟨_,by simp [execOp,Instr.loadAt,e,Instr.sureAddr,zD2 hk h3 h4],h5⟩
theorem zMi {op:Op} (hd: ∀c,op≠ .defer c) (hc: ∀c,op≠ .call c)
  (h: ∀(b:Act) (W:WH),Below w0.heap.size w0 W->(∀x,x∈op.operands.toList->(fct G x).p (b.eval x) W)-> ∃v o,(execOp b.eval ⟨some d,op,ty,pos,aft,none⟩).run P W= .ok (.value v) (W.alloc o)/\(G d).p v (W.alloc o)):
  qX F m P w0 ops G ⟨some d,op,ty,pos,aft,none⟩:=by
 intro b W K Q hb hr hK
 obtain ⟨v,o,hrun,hv⟩:=h b W hb fun x hx=>qK hr hx
 exact zB3 hd hc hrun (hK v _ (fun d' e=>by cases e;exact hv) ((xP _ _).alloc (xW _) _))
theorem zB6 (W:WH) (cs:Array WI) (t:WJ):Mem (W.alloc (.cells cs t)) W.heap.size 0 cs.toList:=fun j u hj=>by
 have hh:(W.alloc (.cells cs t)).heap[W.heap.size]?=some (.cells cs t):=bI W _
 unfold World.cell?
 rw [hh]
 simp only [Nat.zero_add,Option.isSome_none,Bool.false_eq_true,if_false]
 simpa using hj
theorem zCd (W:WH) (o:Obj):Below W.heap.size W (W.alloc o):=(xP _ _).alloc (xW _) _
def zeroCells (P:WL) (t:WJ):Option (List WI):=((P.info? t).bind (·.zero)).map (·.cells.toList)
def wT (w0:WH) (t:WJ) (cs:List WI):SF:=⟨fun v W=> ∃b,v= .pointer (some ⟨b,0,none⟩)/\w0.heap.size<=b/\W.heap[b]?=some (.cells cs.toArray t (0,0)),fun _ _ _ ⟨b,h1,h2,h3⟩ hb=>⟨b,h1,h2,(hb.block b (xM.1 h3).1).trans h3⟩⟩
theorem zAL {e:WJ} {cs:List WI} (hz:zeroCells P e=some cs) (hd: ∀v W,(wT w0 e cs).p v W->(G d).p v W:=by exact fun _ _ h=>h):qX F m P w0 ops G ⟨some d, .alloc e,ty,pos,aft,none⟩:=
 zMi (fun _ e=>by cases e) (fun _ e=>by cases e) fun b W hb hh=>by
  unfold zeroCells at hz
  cases hi:P.info? e with
  |none=>rw [hi] at hz;cases hz
  | some i=>
   rw [hi] at hz
   simp only [Option.bind_some] at hz
   cases hzz:i.zero with
   |none=>rw [hzz] at hz;cases hz
   | some z=>
    rw [hzz] at hz
    simp only [bJ,bK] at hz
    subst hz
    refine ⟨.pointer (some ⟨W.heap.size,0,none⟩), .cells z.cells e, ?_,hd _ _ ⟨W.heap.size,rfl,hb.size, ?_⟩⟩
    ·simp [execOp,Instr.alloc,zeroValue,typeInfo,hi,hzz,newVar,newRow]
    ·have:=bI W (.cells z.cells e)
     simpa using this
def vC (A B:SF):SF:=⟨fun v W=> ∃x y,v= .tuple #[x,y]/\A.p x W/\B.p y W,fun _ _ _ ⟨x,y,h1,h2,h3⟩ hb=>⟨x,y,h1,A.st _ _ _ h2 hb,B.st _ _ _ h3 hb⟩⟩
def wR (A B C:SF):SF:=⟨fun v W=> ∃x y z,v= .tuple #[x,y,z]/\A.p x W/\B.p y W/\C.p z W,fun _ _ _ ⟨x,y,z,h1,h2,h3,h4⟩ hb=>⟨x,y,z,h1,A.st _ _ _ h2 hb,B.st _ _ _ h3 hb,C.st _ _ _ h4 hb⟩⟩
theorem zHB {x:WK} {i:Nat} (h: ∀v W,(fct G x).p v W-> ∃vs u,v= .tuple vs/\vs[i]?=some u/\(G d).p u W):qX F m P w0 ops G ⟨some d, .extract x i,ty,pos,aft,none⟩:=
 jG (fun _ e=>by cases e) (fun _ e=>by cases e) fun b W hb hh=>by
  obtain ⟨vs,u,e,h1,h2⟩:=h _ _ (hh x (by simp [Op.operands]))
  exact ⟨u,by simp [execOp,Instr.extract,e,h1],h2⟩
theorem yY {x:WK} {A B:SF} (hx: ∀v W,(fct G x).p v W->(vC A B).p v W) (hd: ∀v W,A.p v W->(G d).p v W:=by exact fun _ _ h=>h):qX F m P w0 ops G ⟨some d, .extract x 0,ty,pos,aft,none⟩:=
 zHB fun v W h=>let ⟨a,_,e,h1,_⟩:=hx v W h;⟨_,a,e,rfl,hd _ _ h1⟩
theorem yX {x:WK} {A B:SF} (hx: ∀v W,(fct G x).p v W->(vC A B).p v W) (hd: ∀v W,B.p v W->(G d).p v W:=by exact fun _ _ h=>h):qX F m P w0 ops G ⟨some d, .extract x 1,ty,pos,aft,none⟩:=
 zHB fun v W h=>let ⟨_,b,e,_,h1⟩:=hx v W h;⟨_,b,e,rfl,hd _ _ h1⟩
theorem zBr {x:WK} {A B C:SF} (hx: ∀v W,(fct G x).p v W->(wR A B C).p v W) (hd: ∀v W,A.p v W->(G d).p v W:=by exact fun _ _ h=>h):qX F m P w0 ops G ⟨some d, .extract x 0,ty,pos,aft,none⟩:=
 zHB fun v W h=>let ⟨a,_,_,e,h1,_⟩:=hx v W h;⟨_,a,e,rfl,hd _ _ h1⟩
theorem zBq {x:WK} {A B C:SF} (hx: ∀v W,(fct G x).p v W->(wR A B C).p v W) (hd: ∀v W,B.p v W->(G d).p v W:=by exact fun _ _ h=>h):qX F m P w0 ops G ⟨some d, .extract x 1,ty,pos,aft,none⟩:=
 zHB fun v W h=>let ⟨_,b,_,e,_,h1,_⟩:=hx v W h;⟨_,b,e,rfl,hd _ _ h1⟩
theorem zBp {x:WK} {A B C:SF} (hx: ∀v W,(fct G x).p v W->(wR A B C).p v W) (hd: ∀v W,C.p v W->(G d).p v W:=by exact fun _ _ h=>h):qX F m P w0 ops G ⟨some d, .extract x 2,ty,pos,aft,none⟩:=
 zHB fun v W h=>let ⟨_,_,c,e,_,_,h1⟩:=hx v W h;⟨_,c,e,rfl,hd _ _ h1⟩
theorem zGl {t:WJ} {parts:Array (Nat×WK)} (h: ∀(b:Act) (W:WH),Below w0.heap.size w0 W->(∀x,x∈parts.toList.map (·.2)->(fct G x).p (b.eval x) W)-> ∃cells,P.built t (parts.map fun (i,x)=>(i,b.eval x)).toList=some cells/\(G d).p (.agg cells) W):qX F m P w0 ops G ⟨some d, .build t parts,ty,pos,aft,none⟩:=
 jG (fun _ e=>by cases e) (fun _ e=>by cases e) fun b W hb hh=>by
  obtain ⟨cells,h1,h2⟩:=h b W hb fun x hx=>hh x (by simpa [Op.operands] using hx)
  exact ⟨_,by simp only [execOp,Sem.run_bind,run_build W t _ cells h1,bL,Sem.run_pure],h2⟩
theorem yS {t:WJ} {i j:Nat} {x y:WK} (h: ∀u v W,(fct G x).p u W->(fct G y).p v W-> ∃cells,P.built t [(i,u),(j,v)]=some cells/\(G d).p (.agg cells) W):qX F m P w0 ops G ⟨some d, .build t #[(i,x),(j,y)],ty,pos,aft,none⟩:=
 zGl fun b W hb hh=>by
  obtain ⟨cells,h1,h2⟩:=h _ _ W (hh x (by simp)) (hh y (by simp))
  exact ⟨cells,by simpa using h1,h2⟩
theorem zBB {t:WJ} {i:Nat} {x:WK} (h: ∀u W,(fct G x).p u W-> ∃cells,P.built t [(i,u)]=some cells/\(G d).p (.agg cells) W):qX F m P w0 ops G ⟨some d, .build t #[(i,x)],ty,pos,aft,none⟩:=
 zGl fun b W hb hh=>by
  obtain ⟨cells,h1,h2⟩:=h _ W (hh x (by simp))
  exact ⟨cells,by simpa using h1,h2⟩
def yA (P:WL) (t:WJ) (len:Nat) (parts:List (Nat×WI)):Option (WJ×Array WI):=match P.underlying t with
 | some (.slice e)=>match P.info? e with
  |some ie=>match ie.zero with
   |some z=>if len*ie.size>2^24∨len*ie.size=0 then none else (Instr.fill (fun i=>some (i*ie.size,ie.size)) ((Array.range (len*ie.size)).map (z.cells[· % z.cells.size]!)) parts).map fun cs=>(e,cs)
   |none=>none
  |none=>none
 |_=>none
theorem zG5 {t e:WJ} {len:Nat} {parts:Array (Nat×WI)} {cs:Array WI} (h:yA P t len parts.toList=some (e,cs)) (W:WH):(Instr.buildSlice t len parts).run P W= .ok (.slice (some ⟨W.heap.size,0,none⟩) len len) (W.alloc (.cells cs e)):=by
 unfold yA at h
 split at h<;>try cases h
 rename_i e' hu
 split at h<;>try cases h
 rename_i ie hi
 split at h<;>try cases h
 rename_i z hz
 split at h<;>try cases h
 rename_i hn
 simp only [Option.map_eq_some_iff] at h
 obtain ⟨cs',h1,h2⟩:=h
 cases h2
 exact run_buildSlice W t _ len parts cs ie z hu hi hz (fun h=>hn (.inl h)) (fun h=>hn (.inr h)) h1
theorem zEI {t:WJ} {len:Nat} {parts:Array (Nat×WK)} (h: ∀(b:Act) (W:WH),Below w0.heap.size w0 W->(∀x,x∈parts.toList.map (·.2)->(fct G x).p (b.eval x) W)-> ∃e cs,yA P t len (parts.map fun (i,x)=>(i,b.eval x)).toList=some (e,cs)/\(G d).p (.slice (some ⟨W.heap.size,0,none⟩) len len) (W.alloc (.cells cs e))):qX F m P w0 ops G ⟨some d, .buildSlice t len parts,ty,pos,aft,none⟩:=
 zMi (fun _ e=>by cases e) (fun _ e=>by cases e) fun b W hb hh=>by
  obtain ⟨e,cs,h1,h2⟩:=h b W hb fun x hx=>hh x (by simpa [Op.operands] using hx)
  exact ⟨_,_,by simp only [execOp,Sem.run_bind,zG5 h1 W,bL,Sem.run_pure],h2⟩
theorem qB {t:WJ} {x:WK} (h: ∀u W,(fct G x).p u W-> ∃e cs,yA P t 1 [(0,u)]=some (e,cs)/\(G d).p (.slice (some ⟨W.heap.size,0,none⟩) 1 1) (W.alloc (.cells cs e))):qX F m P w0 ops G ⟨some d, .buildSlice t 1 #[(0,x)],ty,pos,aft,none⟩:=
 zEI fun b W hb hh=>by
  obtain ⟨e,cs,h1,h2⟩:=h _ W (hh x (by simp))
  exact ⟨e,cs,by simpa using h1,h2⟩
theorem yK {t:WJ} {x y:WK} (h: ∀u v W,(fct G x).p u W->(fct G y).p v W-> ∃e cs,yA P t 2 [(0,u),(1,v)]=some (e,cs)/\(G d).p (.slice (some ⟨W.heap.size,0,none⟩) 2 2) (W.alloc (.cells cs e))):qX F m P w0 ops G ⟨some d, .buildSlice t 2 #[(0,x),(1,y)],ty,pos,aft,none⟩:=
 zEI fun b W hb hh=>by
  obtain ⟨e,cs,h1,h2⟩:=h _ _ W (hh x (by simp)) (hh y (by simp))
  exact ⟨e,cs,by simpa using h1,h2⟩
theorem zMh {t:WJ} {x y z:WK} (h: ∀u v q W,(fct G x).p u W->(fct G y).p v W->(fct G z).p q W-> ∃e cs,yA P t 3 [(0,u),(1,v),(2,q)]=some (e,cs)/\(G d).p (.slice (some ⟨W.heap.size,0,none⟩) 3 3) (W.alloc (.cells cs e))):qX F m P w0 ops G ⟨some d, .buildSlice t 3 #[(0,x),(1,y),(2,z)],ty,pos,aft,none⟩:=
 zEI fun b W hb hh=>by
  obtain ⟨e,cs,h1,h2⟩:=h _ _ _ W (hh x (by simp)) (hh y (by simp)) (hh z (by simp))
  exact ⟨e,cs,by simpa using h1,h2⟩
def Ret (W:WH) (f:SF):Ending->WH->Prop:=fun e W'=> ∃v,e= .returned v/\f.p v W'/\Below W.heap.size W W'
def zIU (F:Fence) (m:Nat) (P:WL):Prop:=(∀f,F.fn f)/\(F.depth.isSome=true->1<=m)/\ ∀f args w R,Calls P f args w R->CallsIn F (m - 1) P f args w R
theorem zE:zIU Fence.wide m P:=⟨fun _=>trivial,fun h=>(by cases h),fun _ _ _ _ h=>callsIn_wide.2 h⟩
theorem zCT {f:FuncId} {xs:Array WK} {ats:Array WJ} (hF:zIU F m P) (he:Enters P f)
  (h: ∀(b:Act) (W:WH),Below w0.heap.size w0 W->(∀x,x∈xs.toList->(fct G x).p (b.eval x) W)->Calls P f (xs.map b.eval) W (Ret W (G d))):
  qX F m P w0 ops G ⟨some d, .call ⟨.value (.func f),xs,ats⟩,ty,pos,aft,none⟩:=by
 intro b W K Q hb hr hK
 have h1:=h b W hb fun x hx=>qK hr (x:=x) (by simp [Op.operands,Call.operands];right;simpa using hx)
 refine ⟨fun g _=>hF.1 g, ?_⟩
 rw [xT _ _ _ (fun _ e=>by cases e),execOp_call_go]
 rw [he]
 simp only [Oper.uponIn_enter]
 refine ⟨hF.2.1,CallsIn.mono (hF.2.2 _ _ _ (Ret W (G d)) ?_) fun e W' he=> ?_⟩
 ·simpa using h1
 ·obtain ⟨v,rfl,hv,hb'⟩:=he
  exact hK v W' (fun d' e=>by cases e;exact hv) hb'
theorem zDH {f:FuncId} {ats:Array WJ} (hF:zIU F m P) (he:Enters P f) (h: ∀W,Below w0.heap.size w0 W->Calls P f #[] W (Ret W (G d))):qX F m P w0 ops G ⟨some d, .call ⟨.value (.func f),#[],ats⟩,ty,pos,aft,none⟩:=
 zCT hF he fun b W hb _=>by simpa using h W hb
theorem zH {f:FuncId} {x:WK} {ats:Array WJ} (hF:zIU F m P) (he:Enters P f) (h: ∀u W,Below w0.heap.size w0 W->(fct G x).p u W->Calls P f #[u] W (Ret W (G d))):qX F m P w0 ops G ⟨some d, .call ⟨.value (.func f),#[x],ats⟩,ty,pos,aft,none⟩:=
 zCT hF he fun b W hb hh=>by simpa using h _ W hb (hh x (by simp))
theorem zJ {f:FuncId} {x y:WK} {ats:Array WJ} (hF:zIU F m P) (he:Enters P f) (h: ∀u v W,Below w0.heap.size w0 W->(fct G x).p u W->(fct G y).p v W->Calls P f #[u,v] W (Ret W (G d))):qX F m P w0 ops G ⟨some d, .call ⟨.value (.func f),#[x,y],ats⟩,ty,pos,aft,none⟩:=
 zCT hF he fun b W hb hh=>by simpa using h _ _ W hb (hh x (by simp)) (hh y (by simp))
theorem zBK {f:FuncId} {x y z:WK} {ats:Array WJ} (hF:zIU F m P) (he:Enters P f) (h: ∀u v q W,Below w0.heap.size w0 W->(fct G x).p u W->(fct G y).p v W->(fct G z).p q W->Calls P f #[u,v,q] W (Ret W (G d))):qX F m P w0 ops G ⟨some d, .call ⟨.value (.func f),#[x,y,z],ats⟩,ty,pos,aft,none⟩:=
 zCT hF he fun b W hb hh=>by simpa using h _ _ _ W hb (hh x (by simp)) (hh y (by simp)) (hh z (by simp))
theorem zG {op:Op} {j:Nat} {want:Bool} (g:Nat) (bv:Bool) (hj:yF ops j=some g) (hg: ∀v W,(G g).p v W->v= .bool bv) (h1:bv=want->qX F m P w0 ops G ⟨some d,op,ty,pos,aft,none⟩) (h2:bv≠want-> ∀W,(G d).p undef W)
  (h3:bv≠want-> ∀W ρ f,(⟨some d,op,ty,pos,aft,none⟩:Oper).about P W ρ=some f->F.fn f:=by first|exact fun e=>absurd rfl e|exact fun _ _ _ _ h=>by cases h|exact fun _ _ _ _ _=>trivial):qX F m P w0 ops G ⟨some d,op,ty,pos,aft,some (j,want)⟩:=
 ⟨g, .bool bv,hj,hg,fun e=>h1 (by injection e),fun e=>⟨fun d' hd W=>by cases hd;exact h2 (fun k=>e (by rw [k])) W,h3 (fun k=>e (by rw [k]))⟩⟩
theorem zBU {op:Op} {j:Nat} {want:Bool} (g:Nat) (u:WI) (hj:yF ops j=some g) (hg: ∀v W,(G g).p v W->v=u) (hne:u≠ .bool want) (h2: ∀W,(G d).p undef W)
  (h3: ∀W ρ f,(⟨some d,op,ty,pos,aft,none⟩:Oper).about P W ρ=some f->F.fn f:=by first|exact fun _ _ _ h=>by cases h|exact fun _ _ _ _=>trivial):qX F m P w0 ops G ⟨some d,op,ty,pos,aft,some (j,want)⟩:=
 ⟨g,u,hj,hg,fun e=>absurd e hne,fun _=>⟨fun d' hd W=>by cases hd;exact h2 W,h3⟩⟩
theorem yO {c x y:WK} (bv:Bool) (hc: ∀v W,(fct G c).p v W->v= .bool bv) (h1:bv=true-> ∀v W,(fct G x).p v W->(G d).p v W) (h2:bv=false-> ∀v W,(fct G y).p v W->(G d).p v W):qX F m P w0 ops G ⟨some d, .pick c x y,ty,pos,aft,none⟩:=
 jG (fun _ e=>by cases e) (fun _ e=>by cases e) fun b W hb hh=>by
  have e:=hc _ _ (hh c (by simp [Op.operands]))
  cases bv with
  |true=>exact ⟨_,by simp [execOp,e,asBool],h1 rfl _ _ (hh x (by simp [Op.operands]))⟩
  |false=>exact ⟨_,by simp [execOp,e,asBool],h2 rfl _ _ (hh y (by simp [Op.operands]))⟩
theorem zCA {x:WK} {t:WJ} (bv:Bool) (hx: ∀v W,(fct G x).p v W->v= .bool bv) (hd: ∀W,(G d).p (.bool (!bv)) W):qX F m P w0 ops G ⟨some d, .unOp .not t x,ty,pos,aft,none⟩:=
 jG (fun _ e=>by cases e) (fun _ e=>by cases e) fun b W hb hh=>by
  have e:=hx _ _ (hh x (by simp [Op.operands]))
  exact ⟨_,by simp [execOp,e,Op.unary],hd W⟩
theorem zAC {op:BinOp} {t:WJ} {x y:WK} {t':WJ} (u v r:WI) (hx: ∀q W,(fct G x).p q W->q=u) (hy: ∀q W,(fct G y).p q W->q=v) (hg: ∀W,(eqGuard op t x y u v).run P W= .ok () W) (hr: ∀W,(binOp op t u v).run P W= .ok r W) (hd: ∀W,(G d).p r W):qX F m P w0 ops G ⟨some d, .binOp op t x y t',ty,pos,aft,none⟩:=
 jG (fun _ e=>by cases e) (fun _ e=>by cases e) fun b W hb hh=>by
  have e1:=hx _ _ (hh x (by simp [Op.operands]))
  have e2:=hy _ _ (hh y (by simp [Op.operands]))
  exact ⟨r,by simp [execOp,e1,e2,hg,hr],hd W⟩
end
end Go.Proofs.Wd

namespace Go.Proofs.Wd
open Go.RowKit
def zRV:Nat->SF:=fun _=>SF.any
def zKZ:Nat->List SF->List (Nat×SF)
 |_, []=> []
 |k,f::l=>(k,f)::zKZ (k+1) l
def zFY (w:WH):List SF->List WI->Prop
 | [],_=>True
 |f::l,v::vs=>f.p v w/\zFY w l vs
 |_::_, []=>False
theorem zNh {w:WH}: ∀(l:List SF) (vs:List WI) (k t:Nat),zFY w l vs-> ∀u,(∀j,k+j=t->u=vs.getD j undef)->(upd zRV (zKZ k l) t).p u w
 | [],_,_,_,_,_,_=>trivial
 |f::l, [],_,_,h,_,_=>h.elim
 | f::l,v::vs,k,t,h,u,hu=>by
  show (bif Nat.beq k t then f else upd zRV (zKZ (k+1) l) t).p u w
  cases e:Nat.beq k t with
  |true=>
   have:=xU e
   rw [hu 0 oD]
   exact h.1
  |false=>
   refine zNh l vs (k+1) t h.2 u fun j hj=> ?_
   rw [hu (j+1) oD]
   rfl
structure UF extends tS:SF where
 us: ∀v w w',p v w->(∀q x,w.cell? q=some (.int .u32 x)->w'.cell? q=some (.int .u32 x))->p v w'
theorem zPi {fn:Func} {args:Array WI} {w:WH} (l:List SF) (hn:Nat.ble args.size fn.ntmps=true) (hA:zFY w l args.toList):At w (upd zRV (zKZ 0 l)) fn.ntmps [] { tmps:=args++Array.replicate (fn.ntmps - args.size) undef,defers:= [] } w:=by
 have hn:=Nat.le_of_ble_eq_true hn
 refine ⟨xP _ _,by simp;omega,rfl,fun t=> ?_⟩
 by_cases ht:t<args.toList.length
 ·refine zNh l _ 0 t hA _ fun j hj=> ?_
  obtain rfl:j=t:=by omega
  have ht':j<args.size:=by simpa using ht
  simp [Array.getElem?_append,ht',List.getD]
 ·have: ∀(l:List SF) (vs:List WI) (k:Nat),zFY w l vs->k+vs.length<=t->upd zRV (zKZ k l) t=SF.any:=by
   intro l
   induction l with
   |nil=>intro vs k _ _;rfl
   | cons f l ih=>
    intro vs k h hk
    cases vs with
    |nil=>exact h.elim
    | cons v vs=>
     simp only [List.length_cons] at hk
     have hne:Nat.beq k t=false:=by
      cases e:Nat.beq k t with
      |false=>rfl
      |true=>have:=xU e;omega
     show (bif Nat.beq k t then f else upd zRV (zKZ (k+1) l) t)=_
     rw [hne]
     exact ih vs (k+1) h.2 oD
  rw [this l args.toList 0 hA oD]
  trivial
section
variable {F:Fence} {m:Nat} {P:WL} {Q:Exit->Act->WH->Prop} {w0:WH} {G:Nat->SF} {n:Nat} {ds:List Deferred} {a:Act} {w:WH}
theorem zVd {c:Code} (N:Nat) (i:Nat) (Gf:Nat->Nat->SF) (hi: ∀k v W,(Gf k i).p v W->v= .int .i64 (k:Int)) (h0:At w0 (Gf 0) n ds a w)
  (round: ∀k a w,k<=N->At w0 (Gf k) n ds a w->c.wpIn F m P (Exit.then (fun a' w'=>k<N/\At w0 (Gf (k+1)) n ds a' w') Q) a w):(Code.loop c).wpIn F m P Q a w:=by
 refine wpIn_loop (fun a w=> ∃k,k<=N/\At w0 (Gf k) n ds a w) (fun a _=>N+1 - (match a.tmps.getD i undef with| .int _ z=>z.toNat|_=>0)) ⟨0,Nat.zero_le _,h0⟩ ?_
 rintro a w ⟨k,hk,hA⟩
 refine Code.wpIn_mono ?_ (round k a w hk hA)
 intro e a' w' h
 cases e with
 |normal=>
  obtain ⟨h1,h2⟩:k<N/\At w0 (Gf (k+1)) n ds a' w':=h
  refine ⟨⟨k+1,h1,h2⟩, ?_⟩
  have e1:=hi _ _ _ (hA.sl i)
  have e2:=hi _ _ _ (h2.sl i)
  simp only [e1,e2,Int.toNat_natCast]
  have h3:N+1 - (k+1)<N+1 - k:=by omega
  exact h3
 |_=>exact h
def zAo (w w':WH):Prop:= ∀p x,w.cell? p=some (.int .u32 x)->w'.cell? p=some (.int .u32 x)
theorem zAo.trans {u v w:WH} (h:zAo u v) (k:zAo v w):zAo u w:=fun p x hp=>k p x (h p x hp)
theorem Rd.keepU {w w':WH} {A:Option Addr} {n c:Nat} {l:List Nat} (h:Rd w A n c l) (hk:zAo w w'):Rd w' A n c l:=
 ⟨h.len,h.le,h.cap,h.nil,fun i hi=>let ⟨b,o,e,hc⟩:=h.cells i hi;⟨b,o,e,hk _ _ hc⟩⟩
def yR:WI->Bool
 | .int .u32 _=>false
 |_=>true
theorem zCo {b:Nat} {t:WJ} {cs vs:Array WI} (hb:w.heap[b]?=some (.cells cs t (0,0))) (hn:cs.all yR=true):zAo w (w.setRow b vs):=fun p x hp=>by
 rw [cell_setRow_other]
 ·exact hp
 ·intro e
  have h1:w.cell? p=if p.spot.isSome then none else cs[p.off]?:=by
   unfold World.cell?
   rw [e,hb]
  rw [h1] at hp
  split at hp
  ·cases hp
  ·have:=Array.all_eq_true_iff_forall_mem.1 hn _ (Array.mem_of_getElem? hp)
   cases this
theorem zF7 {b:Nat} {t:WJ} {k:Nat} (hsz:zAn P t=some k) {cs vs:List WI} (hl:vs.length=k) (hc:cs.length=k) (h1: ∀u,u∈vs->u.oneCell'=true) (hb:w.heap[b]?=some (.cells cs.toArray t (0,0))):
  (storeVar t ⟨b,0,none⟩ (.agg vs.toArray)).run P w= .ok () (w.setRow b vs.toArray):=by
 obtain ⟨_,i,hi,his⟩:=zDu hsz w
 have:=run_storeCells_from (P:=P) b t vs 0 cs.toArray w hb (by simp;omega) h1
 simp only [List.take_zero,List.nil_append] at this
 simp [storeVar,sizeOf,typeInfo,hi,his,Value.cells,hl,this]
theorem zOG {t:WJ} {k:Nat} {c:Nat} {x:WK} {ty:WJ} {pos:String} {aft:Array Edge} {K:Act->WH->Prop} {te:WJ} {cs:List WI} (hsz:zAn P t=some k) (hte:te=t) (hc:cs.length=k)
  {b:Nat} {vs:List WI} (hp:a.tmps.getD c undef= .pointer (some ⟨b,0,none⟩)) (hb:w.heap[b]?=some (.cells cs.toArray te (0,0))) (hx:a.eval x= .agg vs.toArray) (hl:vs.length=k) (h1: ∀u,u∈vs->u.oneCell'=true)
  (hK:K a (w.setRow b vs.toArray)):(⟨none, .store t (.tmp c) x,ty,pos,aft,none⟩:Oper).wpIn F m P a w K Q:=by
 subst hte
 refine ⟨fun f hf=>(by cases hf), ?_⟩
 rw [xT _ _ _ (fun _ e=>by cases e)]
 have:(execOp a.eval ⟨none, .store te (.tmp c) x,ty,pos,aft,none⟩).run P w= .ok .skip (w.setRow b vs.toArray):=by
  have hp':a.eval (.tmp c)= .pointer (some ⟨b,0,none⟩):=hp
  simp [execOp,hp',hx,Instr.storeAt,Instr.sureAddr,zF7 hsz hl hc h1 hb]
 rw [this]
 exact hK
theorem zF9 {t:WJ} {k:Nat} (hsz:zAn P t=some k) {b:Nat} {te:WJ} {vs:List WI} (hl:vs.length=k) (hb:w.heap[b]?=some (.cells vs.toArray te (0,0))):(loadVar t ⟨b,0,none⟩).run P w= .ok (.agg vs.toArray) w:=by
 have hm:Mem w b 0 vs:=fun j u hj=>by
  unfold World.cell?
  rw [hb]
  simpa using hj
 have:=zCp hsz hm oD
 rwa [List.take_of_length_le oD] at this
end
end Go.Proofs.Wd

namespace Go.Proofs.Wd
open Go.RowKit
theorem yN {w w':WH} (hb:Below w.heap.size w w'):zAo w w':=fun q x hq=>(hb.cell (p:=q) (bH w _ hq)).trans hq
def UF.mk' (p:WI->WH->Prop) (us: ∀v w w',p v w->zAo w w'->p v w'):UF:=⟨⟨p,fun v w w' h hb=>us v w w' h (yN hb)⟩,us⟩
def UF.any:UF:= .mk' (fun _ _=>True) fun _ _ _ _ _=>trivial
def UF.eq (u:WI):UF:= .mk' (fun v _=>v=u) fun _ _ _ h _=>h
abbrev uI (z:Int):UF:=UF.eq (.int .i64 z)
abbrev uB (b:Bool):UF:=UF.eq (.bool b)
def yU (A B:UF):UF:= .mk' (vC A.tS B.tS).p fun _ _ _ ⟨x,y,h1,h2,h3⟩ k=>⟨x,y,h1,A.us _ _ _ h2 k,B.us _ _ _ h3 k⟩
def zBu (A B C:UF):UF:= .mk' (wR A.tS B.tS C.tS).p fun _ _ _ ⟨x,y,z,h1,h2,h3,h4⟩ k=>⟨x,y,z,h1,A.us _ _ _ h2 k,B.us _ _ _ h3 k,C.us _ _ _ h4 k⟩
inductive KF where
 |u (f:UF)
 |o (f:SF)
def KF.sf:KF->SF
 | .u f=>f.tS
 | .o f=>f
def KF.p (w0:WH):KF->WI->WH->Prop
 | .u f,v,w=>f.p v w
 | .o f,v,_=>f.p v w0
theorem KF.us {w0:WH} {k:KF} {v:WI} {w w':WH} (h:k.p w0 v w) (hk:zAo w w'):k.p w0 v w':=by
 cases k with
 |u f=>exact f.us _ _ _ h hk
 |o f=>exact h
theorem vS {w0:WH} {k:KF} {v:WI} {w:WH} (h:k.p w0 v w) (hb:Below w0.heap.size w0 w):k.sf.p v w:=by
 cases k with
 |u f=>exact h
 |o f=>exact f.st _ _ _ h hb
structure CU where
 p:List WI->WH->Prop
 us: ∀cs w w',p cs w->zAo w w'->p cs w'
def CU.cf (C:CU):CF:=⟨C.p,fun cs w w' h hb=>C.us cs w w' h (yN hb)⟩
def CU.agg (f:UF):CU:=⟨fun cs w=>f.p (.agg cs.toArray) w,fun _ _ _ h k=>f.us _ _ _ h k⟩
abbrev cg (f:UF):CF:=(CU.agg f).cf
def CU.len (k:Nat):CU:=⟨fun cs _=>cs.length=k,fun _ _ _ h _=>h⟩
structure Bx where
 t:Nat
 e:WJ
 c:CU
 b:Nat
 r:Bool
def qW (S:Nat->Prop) (w0:WH) (a:Act) (w:WH):List Bx->Prop
 | []=>True
 |x::B=>(∃cs:List WI,a.tmps.getD x.t undef= .pointer (some ⟨x.b,0,none⟩)/\(x.r=true∨w0.heap.size<=x.b∨S x.b)/\w.heap[x.b]?=some (.cells cs.toArray x.e (0,0))/\x.c.p cs w/\cs.all yR=true/\ ∀y,y∈B->y.b≠x.b∨(x.r=true/\y.r=true))/\qW S w0 a w B
structure BlS (S:Nat->Prop) (w w':World):Prop where
 os:w'.os=w.os
 tape:w'.tape=w.tape
 output:w'.output=w.output
 size:w.heap.size<=w'.heap.size
 block: ∀k,k<w.heap.size-> ¬S k->w'.heap[k]?=w.heap[k]?
def noS:Nat->Prop:=fun _=>False
theorem BlS.below {w w':WH} (h:BlS noS w w'):Below w.heap.size w w':=⟨h.os,h.tape,h.output,h.size,fun k hk=>h.block k hk (fun x=>x)⟩
theorem BlS.trans {S:Nat->Prop} {u w w':WH} (h:BlS S u w) (hb:Below w.heap.size w w'):BlS S u w':=⟨hb.os.trans h.os,hb.tape.trans h.tape,hb.output.trans h.output,bE h.size hb.size,fun k hk hs=>(hb.block k (Nat.lt_of_lt_of_le hk h.size)).trans (h.block k hk hs)⟩
theorem BlS.refl (S:Nat->Prop) (w:WH):BlS S w w:=⟨rfl,rfl,rfl,xW _,fun _ _ _=>rfl⟩
theorem BlS.row {S:Nat->Prop} {u w:WH} (h:BlS S u w) {b:Nat} (hb:u.heap.size<=b∨S b) (vs:Array WI):BlS S u (w.setRow b vs):=
 ⟨h.os,h.tape,h.output,by rw [size_setRow];exact h.size,fun k hk hs=>(setRow_other w b k vs (fun e=>by subst e;rcases hb with hb|hb;omega;exact hs hb)).trans (h.block k hk hs)⟩
theorem BlS.grown {S:Nat->Prop} {u w w':WH} (h:BlS S u w) {b:Nat} (hg:w.grownBy w' (some b)) (hb:u.heap.size<=b∨S b):BlS S u w':=
 ⟨hg.os.trans h.os,hg.tape.trans h.tape,hg.output.trans h.output,bE h.size hg.size,fun k hk hs=>(hg.block k (Nat.lt_of_lt_of_le hk h.size) (fun e=>by cases e;rcases hb with hb|hb;omega;exact hs hb)).trans (h.block k hk hs)⟩
structure StS (S:Nat->Prop) (w0:World) (K:List (Nat×KF)) (B:List Bx) (n:Nat) (ds:List Deferred) (a:Act) (w:World):Prop where
 gr:BlS S w0 w
 size:a.tmps.size=n
 nd:a.defers=ds
 sl: ∀q,q∈K->q.2.p w0 (a.tmps.getD q.1 undef) w
 bx:qW S w0 a w B
 mks: ∃Ds,Marks w0.heap.size w ds Ds
 so:(∀q,q∈K-> ∃f,q.2= .u f)∨ ∀k, ¬S k
abbrev St:=StS noS
theorem zA9 {w0 w w':WH} {ds:List Deferred} (h: ∃Ds,Marks w0.heap.size w ds Ds) (hb:Below w.heap.size w w'): ∃Ds,Marks w0.heap.size w' ds Ds:=h.imp fun _ h=>h.keep fun k _ hk _=>(hb.block k (xM.1 hk).1).trans hk
theorem zID {w0 w w':WH} {ds:List Deferred} (h: ∃Ds,Marks w0.heap.size w ds Ds) {b:Nat} (hg:w.grownBy w' (some b)) {cs:Array WI} {t:WJ} {z:Nat×Nat} (hc:w.heap[b]?=some (.cells cs t z)): ∃Ds,Marks w0.heap.size w' ds Ds:=h.imp fun _ h=>h.keep fun k o hk ho=>(hg.block k (xM.1 hk).1 (fun e=>by cases e;rw [hc] at hk;cases hk;cases ho)).trans hk
inductive Rw where
 |u (f:UF)
 |s (f:SF)
abbrev pO (b o:Nat):WI:=.pointer (some ⟨b,o,none⟩)
abbrev Rw.Z (f:UF):Rw:=.s f.tS
def Rw.sf:Rw->SF
 | .u f=>f.tS
 | .s f=>f
def zY (L:List (Nat×Rw)):List (Nat×SF):=L.map fun q=>(q.1,q.2.sf)
def zBl:List (Nat×Rw)->List (Nat×KF)
 | []=> []
 |(t, .u f)::l=>(t, .u f)::zBl l
 |(_, .s _)::l=>zBl l
def wG (b:Nat) (C:CF):SF:=⟨fun v W=>v= pO b 0/\(wB C).p v W,fun v W W' h hb=>⟨h.1,(wB C).st v W W' h.2 hb⟩⟩
def zUk:List (Nat×KF)->List (Nat×SF)
 | []=> []
 |q::l=>(q.1,q.2.sf)::zUk l
def zUl:List Bx->List (Nat×SF)
 | []=> []
 |x::l=>(x.t,wG x.b x.c.cf)::zUl l
def zAc (K:List (Nat×KF)) (B:List Bx):Nat->SF:=upd (upd zRV (zUk K)) (zUl B)
theorem zET {a:Act} {w:WH} {G:Nat->SF} (hG: ∀t,(G t).p (a.tmps.getD t undef) w): ∀(l:List (Nat×SF)),(∀q,q∈l->q.2.p (a.tmps.getD q.1 undef) w)-> ∀t,(upd G l t).p (a.tmps.getD t undef) w
 | [],_,t=>hG t
 | q::l,h,t=>by
  show (bif Nat.beq q.1 t then q.2 else upd G l t).p (a.tmps.getD t undef) w
  cases e:Nat.beq q.1 t with
  |true=>
   have:=xU e
   rw [<-this]
   exact h q (by simp)
  |false=>exact zET hG l (fun p hp=>h p (by simp [hp])) t
theorem zJJ {q:Nat×SF}: ∀{l:List (Nat×KF)},q∈zUk l-> ∃p,p∈l/\q=(p.1,p.2.sf)
 | [],h=>by cases h
 | p::l,h=>by
  rcases xR.1 h with rfl|h
  ·exact ⟨p,by simp,rfl⟩
  ·obtain ⟨r,h1,h2⟩:=zJJ h
   exact ⟨r,by simp [h1],h2⟩
theorem zJK {q:Nat×SF}: ∀{l:List Bx},q∈zUl l-> ∃p,p∈l/\q=(p.t,wG p.b p.c.cf)
 | [],h=>by cases h
 | p::l,h=>by
  rcases xR.1 h with rfl|h
  ·exact ⟨p,by simp,rfl⟩
  ·obtain ⟨r,h1,h2⟩:=zJK h
   exact ⟨r,by simp [h1],h2⟩
theorem zAT {q:Nat×KF}: ∀{l:List (Nat×Rw)},q∈zBl l-> ∃f,q.2= .u f/\(q.1,Rw.u f)∈l
 | [],h=>by cases h
 | (t, .u f)::l,h=>by
  rcases xR.1 h with rfl|h
  ·exact ⟨f,rfl,by simp⟩
  ·obtain ⟨g,h1,h2⟩:=zAT h
   exact ⟨g,h1,by simp [h2]⟩
 |(_, .s _)::l,h=>by
  obtain ⟨g,h1,h2⟩:=zAT (l:=l) h
  exact ⟨g,h1,by simp [h2]⟩
theorem qW.mem {S:Nat->Prop} {w0:WH} {a:Act} {w:WH}: ∀{B:List Bx},qW S w0 a w B-> ∀x,x∈B-> ∃cs:List WI,a.tmps.getD x.t undef= pO x.b 0/\(x.r=true∨w0.heap.size<=x.b∨S x.b)/\w.heap[x.b]?=some (.cells cs.toArray x.e (0,0))/\x.c.p cs w/\cs.all yR=true
 | [],_,_,h=>by cases h
 | y::B,h,x,hx=>by
  rcases xR.1 hx with rfl|hx
  ·obtain ⟨cs,h1,h2,h3,h4,h5,_⟩:=h.1
   exact ⟨cs,h1,h2,h3,h4,h5⟩
  ·exact qW.mem h.2 x hx
theorem zBd {w:WH} {b:Nat} {cs:List WI} {t:WJ} (h:w.heap[b]?=some (.cells cs.toArray t (0,0))):Mem w b 0 cs:=fun j u hj=>by
 unfold World.cell?
 rw [h]
 simpa using hj
section
variable {S:Nat->Prop} {F:Fence} {m:Nat} {P:WL} {Q:Exit->Act->WH->Prop} {w0:WH} {K:List (Nat×KF)} {B:List Bx} {n:Nat} {ds:List Deferred} {a:Act} {w:WH}
theorem StS.kn (h:StS S w0 K B n ds a w) {q:Nat×KF} (hq:q∈K):q.2.sf.p (a.tmps.getD q.1 undef) w:=by
 have h1:=h.sl q hq
 rcases h.so with hu|hs
 ·obtain ⟨f,e⟩:=hu q hq
  rw [e] at h1 ⊢
  exact h1
 ·exact vS h1 ⟨h.gr.os,h.gr.tape,h.gr.output,h.gr.size,fun k hk=>h.gr.block k hk (hs k)⟩
theorem StS.at (h:StS S w0 K B n ds a w):At w (zAc K B) n ds a w:=
 ⟨xP _ _,h.size,h.nd,zET (zET (fun _=>trivial) _ fun q hq=>(by
  obtain ⟨p,hp,rfl⟩:=zJJ hq
  exact h.kn hp)) _ fun q hq=>(by
  obtain ⟨p,hp,rfl⟩:=zJK hq
  obtain ⟨cs,h1,_,h3,h4,_⟩:=h.bx.mem p hp
  exact ⟨h1,p.b,0,cs,h1,h4,zBd h3⟩)⟩
theorem StS.up (h:St w0 K B n ds a w) {W:WH} (hb:Below w.heap.size w W):Below w0.heap.size w0 W:=(h.gr.trans hb).below
def zBb (ops:Array Oper) (ts:List Nat):Bool:=ts.all fun t=>(List.range ops.size).all fun i=> !(yF ops i==some t)
theorem qW.keep {a':Act} {w':WH} (hb:Below w.heap.size w w') (hk:zAo w w'): ∀(B:List Bx),(∀x,x∈B->a'.tmps.getD x.t undef=a.tmps.getD x.t undef)->qW S w0 a w B->qW S w0 a' w' B
 | [],_,_=>trivial
 |x::B,hs,⟨⟨cs,h1,h2,h3,h4,h5,h6⟩,h7⟩=>
  ⟨⟨cs,by rw [hs x (by simp)];exact h1,h2,(hb.block _ (xM.1 h3).1).trans h3,x.c.us _ _ _ h4 hk,h5,h6⟩,qW.keep hb hk B (fun y hy=>hs y (by simp [hy])) h7⟩
def zAN (K:List (Nat×KF)) (B:List Bx) (a:Act) (t:Nat):SF:=if t∈K.map (·.1)++B.map (·.t) then ⟨fun v W=>(zAc K B t).p v W/\v=a.tmps.getD t undef,fun _ _ _ h hb=>⟨(zAc K B t).st _ _ _ h.1 hb,h.2⟩⟩ else zAc K B t
def zBk:List Nat->Bool
 | []=>true
 |x::l=> !l.contains x&&zBk l
theorem zC6 {G:Nat->SF} {q:Nat×SF}: ∀{l:List (Nat×SF)},zBk (l.map (·.1))=true->q∈l->upd G l q.1=q.2
 | [],_,h=>by cases h
 | x::l,hn,h=>by
  rw [List.map_cons,zBk,xO] at hn
  show (bif Nat.beq x.1 q.1 then x.2 else upd G l q.1)=q.2
  rcases xR.1 h with rfl|h
  ·simp
  ·have:Nat.beq x.1 q.1=false:=by
    cases e:Nat.beq x.1 q.1 with
    |false=>rfl
    |true=>
     exfalso
     have e2:=xU e
     have h1:=hn.1
     rw [e2,xS.2 (xN.2 ⟨q,h,rfl⟩)] at h1
     cases h1
   rw [this]
   exact zC6 hn.2 h
def zAX (K0 K:List (Nat×KF)) (B:List Bx) (a:Act) (t:Nat):SF:=if t∈K.map (·.1)++B.map (·.t) then ⟨fun v W=>(zAc (K0++K) B t).p v W/\v=a.tmps.getD t undef,fun _ _ _ h hb=>⟨(zAc (K0++K) B t).st _ _ _ h.1 hb,h.2⟩⟩ else zAc (K0++K) B t
theorem zEX {ops:Array Oper} (K0:List (Nat×KF)) (k:Nat) (L:List (Nat×Rw)) (h:StS S w0 (K0++K) B n ds a w) {Goal:Prop} {Fin:Act->WH->Prop}
  (hT: ∀G':Nat->SF,At w G' n ds a w->Obs F m P w ops (upd G' (zY L)) (ops.toList.take k)->(∀a' w',At w (zFe ops k (upd G' (zY L))) n ds a' w'->Fin a' w')->Goal)
  (hap:jU ops=true) (hks:((L.map (·.1)).all fun t=>(List.range k).any fun i=>yF ops i==some t)=true) (hun:zBb ops (K.map (·.1)++B.map (·.t))=true) (hnd:zBk (L.map (·.1))=true)
  (hobs:Obs F m P w ops (upd (zAc (K0++K) B) (zY L)) (ops.toList.take k))
  (hfin: ∀a w,StS S w0 (zBl L++K) B n ds a w->(∀q,q∈zY L->q.2.p (a.tmps.getD q.1 undef) w)->Fin a w):Goal:=by
 have hkeys:(zY L).map (·.1)=L.map (·.1):=by simp [zY]
 have hsame: ∀t,t∈K.map (·.1)++B.map (·.t)-> ∀i,yF ops i≠some t:=fun t ht i hi=>by
  have h1:=xL.1 hun t ht
  obtain ⟨o,ho,_⟩:=jE hi
  have h2:=xL.1 h1 i (xQ.2 (xM.1 ho).1)
  rw [hi] at h2
  simp at h2
 have hv: ∀t,t∈K.map (·.1)++B.map (·.t)->a.tmps.getD t undef=a.tmps.getD t undef:=fun _ _=>rfl
 -- the slots of K and B stay: a table that says so
 have hA:=h.at
 refine hT (zAX K0 K B a) ⟨hA.gr,hA.size,hA.nd,fun t=> ?_⟩ ?_ fun a' w' hA'=> ?_
 ·by_cases ht:t∈K.map (·.1)++B.map (·.t)
  ·unfold zAX;rw [if_pos ht];exact ⟨hA.sl t,rfl⟩
  ·unfold zAX;rw [if_neg ht];exact hA.sl t
 ·-- the obligations hold with the stronger table
  have hkn: ∀t,t∈K.map (·.1)++B.map (·.t)->((zY L).map (·.1)).contains t=false:=fun t ht=>by
   cases hc:((zY L).map (·.1)).contains t with
   |false=>rfl
   |true=>
    exfalso
    have hm:=xS.1 hc
    rw [hkeys] at hm
    obtain ⟨i,_,he⟩:=xY.1 (xL.1 hks t hm)
    exact hsame t ht i (by simpa using he)
  have hle: ∀t v W,(upd (zAX K0 K B a) (zY L) t).p v W->(upd (zAc (K0++K) B) (zY L) t).p v W:=fun t v W hh=>by
   by_cases ht:t∈K.map (·.1)++B.map (·.t)
   ·rw [zAA (hkn t ht)] at hh ⊢
    unfold zAX at hh
    rw [if_pos ht] at hh
    exact hh.1
   ·have: ∀l:List (Nat×SF),upd (zAX K0 K B a) l t=upd (zAc (K0++K) B) l t:=fun l=>by
     induction l with
     |nil=>exact if_neg ht
     |cons q l ih=>
      show (bif Nat.beq q.1 t then q.2 else upd _ l t)=(bif Nat.beq q.1 t then q.2 else upd _ l t)
      rw [ih]
    rwa [this] at hh
  have hge: ∀t,(∃i,yF ops i=some t)-> ∀v W,(upd (zAc (K0++K) B) (zY L) t).p v W->(upd (zAX K0 K B a) (zY L) t).p v W:=fun t ⟨i,hi⟩ v W hh=>by
   have ht: ¬t∈K.map (·.1)++B.map (·.t):=fun ht=>hsame t ht i hi
   have: ∀l:List (Nat×SF),upd (zAX K0 K B a) l t=upd (zAc (K0++K) B) l t:=fun l=>by
    induction l with
    |nil=>exact if_neg ht
    |cons q l ih=>
     show (bif Nat.beq q.1 t then q.2 else upd _ l t)=(bif Nat.beq q.1 t then q.2 else upd _ l t)
     rw [ih]
   rwa [this]
  have hconv: ∀(o:Oper),o∈ops.toList->qX F m P w ops (upd (zAc (K0++K) B) (zY L)) o->qX F m P w ops (upd (zAX K0 K B a) (zY L)) o:=by
   intro o ho hg
   have hdst: ∀d,o.dst=some d-> ∃i,yF ops i=some d:=fun d hd=>by
    obtain ⟨i,hi⟩:=List.getElem?_of_mem ho
    exact ⟨i,by rw [jT (o:=o) (by simpa using hi)];exact hd⟩
   have hop:zNy F m P w (upd (zAc (K0++K) B) (zY L)) o->zNy F m P w (upd (zAX K0 K B a) (zY L)) o:=fun h1 b W K' Q' hb hr hK'=>
    h1 b W K' Q' hb (fun t ht=>hle t _ _ (hr t ht)) fun v W' hv hb'=>hK' v W' (fun d hd=>hge d (hdst d hd) _ _ (hv d hd)) hb'
   unfold qX at hg ⊢
   cases hgd:o.guard with
   |none=>rw [hgd] at hg;exact hop hg
   |some q=>
    rw [hgd] at hg
    obtain ⟨g,bv,h1,h2,h3,h4⟩:=hg
    exact ⟨g,bv,h1,fun v W hh=>h2 v W (hle g v W hh),fun e=>hop (h3 e),fun e=>⟨fun d hd W=>hge d (hdst d hd) _ _ ((h4 e).1 d hd W),(h4 e).2⟩⟩
  have hall: ∀l:List Oper,(∀o,o∈l->o∈ops.toList)->Obs F m P w ops (upd (zAc (K0++K) B) (zY L)) l->Obs F m P w ops (upd (zAX K0 K B a) (zY L)) l:=by
   intro l
   induction l with
   |nil=>intro _ _;trivial
   |cons o l ih=>intro hm ho;exact ⟨hconv o (hm o (by simp)) ho.1,ih (fun o' ho'=>hm o' (by simp [ho'])) ho.2⟩
  exact hall _ (fun o ho=>List.mem_of_mem_take ho) hobs
 ·have hg:=hA'.gr
  have hslot: ∀t,t∈K.map (·.1)++B.map (·.t)->a'.tmps.getD t undef=a.tmps.getD t undef:=fun t ht=>by
   have h1:=hA'.sl t
   unfold zFe at h1
   have h2:((List.range ops.size).any fun i=>decide (k<=i)&&(yF ops i==some t))=false:=by
    refine bB.2 fun i _=> ?_
    have:=hsame t ht i
    simp [this]
   rw [h2] at h1
   have h3:((zY L).map (·.1)).contains t=false:=by
    cases hc:((zY L).map (·.1)).contains t with
    |false=>rfl
    |true=>
     exfalso
     have hm:=xS.1 hc
     rw [hkeys] at hm
     obtain ⟨i,_,he⟩:=xY.1 (xL.1 hks t hm)
     exact hsame t ht i (by simpa using he)
   rw [show (bif false then SF.any else upd _ (zY L) t)=upd _ (zY L) t from rfl,zAA h3,zAX,if_pos ht] at h1
   exact h1.2
  have hrow: ∀q,q∈zY L->q.2.p (a'.tmps.getD q.1 undef) w':=fun q hm2=>by
   have h1:=hA'.sl q.1
   obtain ⟨i,hi,he⟩:=xY.1 (xL.1 hks q.1 (by rw [<-hkeys];exact xN.2 ⟨_,hm2,rfl⟩))
   have hik:=xQ.1 hi
   have he:yF ops i=some q.1:=by simpa using he
   unfold zFe at h1
   have h2:((List.range ops.size).any fun j=>decide (k<=j)&&(yF ops j==some q.1))=false:=by
    refine bB.2 fun j _=> ?_
    by_cases hj:k<=j
    ·have:yF ops j≠some q.1:=fun e=>by
      obtain ⟨oi,ho1,hd1⟩:=jE he
      obtain ⟨oj,ho2,hd2⟩:=jE e
      exact zAu hap ho1 ho2 oD hd1 hd2
     simp [this]
    ·simp [hj]
   rw [h2,show (bif false then SF.any else upd (zAX K0 K B a) (zY L) q.1)=upd (zAX K0 K B a) (zY L) q.1 from rfl,zC6 (q:=q) (by rw [hkeys];exact hnd) hm2] at h1
   exact h1
  refine hfin a' w' ⟨h.gr.trans hg,hA'.size,hA'.nd,fun q hq=> ?_,h.bx.keep hg (yN hg) B fun x hx=>hslot _ (xX _ (xN.2 ⟨x,hx,rfl⟩)),zA9 h.mks hg,h.so.imp (fun hu q hq=>(by
   rcases bC.1 hq with hq|hq
   ·obtain ⟨f,e,_⟩:=zAT hq;exact ⟨f,e⟩
   ·exact hu q (xX _ hq))) (fun x=>x)⟩ hrow
  rcases bC.1 hq with hq|hq
  ·obtain ⟨f,hqf,hm⟩:=zAT hq
   have h1:=hrow (q.1,f.tS) (xN.2 ⟨_,hm,rfl⟩)
   rw [hqf]
   exact h1
  ·rw [hslot q.1 (bD _ (xN.2 ⟨q,hq,rfl⟩))]
   exact KF.us (h.sl q (xX _ hq)) (yN hg)
theorem zFF {ops:Array Oper} (k:Nat) (L:List (Nat×Rw)) (h:StS S w0 K B n ds a w) {Goal:Prop} {Fin:Act->WH->Prop}
  (hT: ∀G':Nat->SF,At w G' n ds a w->Obs F m P w ops (upd G' (zY L)) (ops.toList.take k)->(∀a' w',At w (zFe ops k (upd G' (zY L))) n ds a' w'->Fin a' w')->Goal)
  (hap:jU ops=true) (hks:((L.map (·.1)).all fun t=>(List.range k).any fun i=>yF ops i==some t)=true) (hun:zBb ops (K.map (·.1)++B.map (·.t))=true) (hnd:zBk (L.map (·.1))=true)
  (hobs:Obs F m P w ops (upd (zAc K B) (zY L)) (ops.toList.take k))
  (hfin: ∀a w,StS S w0 (zBl L++K) B n ds a w->(∀q,q∈zY L->q.2.p (a.tmps.getD q.1 undef) w)->Fin a w):Goal:=
 zEX [] k L h hT hap hks hun hnd hobs hfin
theorem zLD {ops:Array Oper} {id:Nat} {draw:Bool} (k:Nat) (L:List (Nat×Rw)) (hmix:P.follows .mixedOrders=true) (h:StS S w0 K B n ds a w)
  (hchk:zDh ops draw k n (L.map (·.1))=true) (hun:zBb ops (K.map (·.1)++B.map (·.t))=true) (hnd:zBk (L.map (·.1))=true)
  (hobs:Obs F m P w ops (upd (zAc K B) (zY L)) (ops.toList.take k))
  (hfin: ∀a w,StS S w0 (zBl L++K) B n ds a w->wpOpsIn F m P ops Q (List.range' k (ops.size - k)) a w):(Code.region id ops draw).wpIn F m P Q a w:=by
 have hkeys:(zY L).map (·.1)=L.map (·.1):=by simp [zY]
 have h0:=hchk
 unfold zDh at h0
 simp only [xO] at h0
 exact zFF k L h (fun G' hA hO hF=>zE3 k (zY L) hmix (by rw [hkeys];exact hchk) hA hO hF) h0.1.1.1.1.1.1 h0.1.1.2 hun hnd hobs (fun a w h _=>hfin a w h)
def zBx (F:Fence) (m:Nat) (P:WL) (ops:Array Oper) (Q:Exit->Act->WH->Prop) (k:Nat) (a:Act) (w:WH):Prop:=wpOpsIn F m P ops Q (List.range' k (ops.size - k)) a w
theorem zC {ops:Array Oper} {id:Nat} {draw:Bool} (k:Nat) (L:List (Nat×Rw)) (hmix:P.follows .mixedOrders=true) (h:StS S w0 K B n ds a w)
  (hchk:(zDh ops draw k n (L.map (·.1))&&zBb ops (K.map (·.1)++B.map (·.t))&&zBk (L.map (·.1)))=true)
  (hobs:Obs F m P w ops (upd (zAc K B) (zY L)) (ops.toList.take k))
  (hfin: ∀a w,StS S w0 (zBl L++K) B n ds a w->zBx F m P ops Q k a w):(Code.region id ops draw).wpIn F m P Q a w:=by
 simp only [xO] at hchk
 exact zLD k L hmix h hchk.1.1 hchk.1.2 hchk.2 hobs hfin
theorem qZ {ops:Array Oper} {id:Nat} {draw:Bool} (k:Nat) (L:List (Nat×Rw)) (hmix:P.follows .mixedOrders=true) (h:StS S w0 K B n ds a w)
  (hchk:(zDh ops draw k n (L.map (·.1))&&zBb ops (K.map (·.1)++B.map (·.t))&&zBk (L.map (·.1)))=true)
  (hobs:Obs F m P w ops (upd (zAc K B) (zY L)) (ops.toList.take k))
  (hfin: ∀a w,StS S w0 (zBl L++K) B n ds a w->(∀q,q∈zY L->q.2.p (a.tmps.getD q.1 undef) w)->zBx F m P ops Q k a w):(Code.region id ops draw).wpIn F m P Q a w:=by
 simp only [xO] at hchk
 have hkeys:(zY L).map (·.1)=L.map (·.1):=by simp [zY]
 have h0:=hchk.1.1
 unfold zDh at h0
 simp only [xO] at h0
 exact zFF k L h (fun G' hA hO hF=>zE3 k (zY L) hmix (by rw [hkeys];exact hchk.1.1) hA hO hF) h0.1.1.1.1.1.1 h0.1.1.2 hchk.1.2 hchk.2 hobs hfin
theorem zA {ops:Array Oper} {k:Nat} (hk:ops.size=k) (h:Q .normal a w):zBx F m P ops Q k a w:=by
 unfold zBx
 rw [hk,Nat.sub_self]
 exact h
theorem zBe {ops:Array Oper} {k:Nat} {o:Oper} (ho:ops[k]?=some o) (hg:o.guard=none) (h:o.wpIn F m P a w (zBx F m P ops Q (k+1)) Q):zBx F m P ops Q k a w:=by
 have hlt:=(xM.1 ho).1
 unfold zBx
 rw [show ops.size - k=(ops.size - (k+1))+1 from by omega,bN,wpOpsIn_cons]
 unfold wpOpIn
 rw [ho]
 have hw:Region.wanted o (yielded ops a.tmps)=true:=by unfold Region.wanted;rw [hg]
 show (if Region.wanted o (yielded ops a.tmps)=true then _ else _)
 rw [if_pos hw]
 exact h
theorem StS.fct (h:StS S w0 K B n ds a w) (x:WK):(fct (zAc K B) x).p (a.eval x) w:=by
 cases x with
 |tmp t=>exact h.at.sl t
 |const v=>rfl
 |func f=>rfl
 |global g=>rfl
def zAD (K:List (Nat×KF)) (B:List Bx) (n d:Nat):Bool:= !(K.map (·.1)++B.map (·.t)).contains d&&decide (d<n)
theorem zAa {a:Act} {d:Nat} (hd:d<a.tmps.size) (v:WI):(a.put (some d) v).tmps.getD d undef=v:=by
 show (a.tmps.setIfInBounds d v).getD d undef=v
 rw [xV,Array.getElem?_setIfInBounds_self_of_lt hd]
 rfl
theorem zAj {a:Act} {d t:Nat} (hd:d≠t) (v:WI):(a.put (some d) v).tmps.getD t undef=a.tmps.getD t undef:=zBW hd
theorem zCV {d t:Nat} (hf:zAD K B n d=true) (ht:t∈K.map (·.1)++B.map (·.t)):d≠t:=fun e=>by
 subst e
 unfold zAD at hf
 rw [xS.2 ht] at hf
 cases hf
theorem zGC {d:Nat} (hf:zAD K B n d=true):d<n:=by
 unfold zAD at hf
 simp only [xO,decide_eq_true_eq] at hf
 exact hf.2
theorem StS.set (h:StS S w0 K B n ds a w) {d:Nat} {v:WI} (hf:zAD K B n d=true) {w':WH} (hb:Below w.heap.size w w') {f:UF} (hv:f.p v w'):StS S w0 ((d, .u f)::K) B n ds (a.put (some d) v) w':=by
 refine ⟨h.gr.trans hb,by rw [zCO];exact h.size,by rw [zBz];exact h.nd,fun q hq=> ?_,h.bx.keep hb (yN hb) B fun x hx=>zAj (zCV hf (xX _ (xN.2 ⟨x,hx,rfl⟩))) v,zA9 h.mks hb,h.so.imp (fun hu q hq=>(by
  rcases xR.1 hq with rfl|hq
  ·exact ⟨f,rfl⟩
  ·exact hu q hq)) (fun x=>x)⟩
 rcases xR.1 hq with rfl|hq
 ·rw [zAa (by rw [h.size];exact zGC hf)]
  exact hv
 ·rw [zAj (zCV hf (bD _ (xN.2 ⟨q,hq,rfl⟩)))]
  exact KF.us (h.sl q hq) (yN hb)
theorem StS.lay (h:StS S w0 K B n ds a w) {d:Nat} {e:WJ} {cs:List WI} (hf:zAD K B n d=true) {C:CU} (hc:C.p cs w) (hn:cs.all yR=true):StS S w0 K (⟨d,e,C,w.heap.size,false⟩::B) n ds (a.put (some d) (pO w.heap.size 0)) (w.alloc (.cells cs.toArray e (0,0))):=by
 have hb:=zCd w (.cells cs.toArray e (0,0))
 have hne: ∀x,x∈B->(a.put (some d) (pO w.heap.size 0)).tmps.getD x.t undef=a.tmps.getD x.t undef:=fun x hx=>zAj (zCV hf (xX _ (xN.2 ⟨x,hx,rfl⟩))) _
 refine ⟨h.gr.trans hb,by rw [zCO];exact h.size,by rw [zBz];exact h.nd,fun q hq=> ?_,⟨⟨cs,zAa (by rw [h.size];exact zGC hf) _, .inr (.inl h.gr.size),bI w _,C.us _ _ _ hc (yN hb),hn,fun y hy=> ?_⟩,h.bx.keep hb (yN hb) B hne⟩,zA9 h.mks hb,h.so⟩
 ·rw [zAj (zCV hf (bD _ (xN.2 ⟨q,hq,rfl⟩)))]
  exact KF.us (h.sl q hq) (yN hb)
 ·obtain ⟨_,_,_,h3,_⟩:=h.bx.mem y hy
  have:=(xM.1 h3).1
  left
  show y.b≠w.heap.size
  omega
theorem zS {ops:Array Oper} {k d:Nat} {x:WK} {ty:WJ} {pos:String} {aft:Array Edge} (f:UF) (ho:ops[k]?=some ⟨some d, .assign x,ty,pos,aft,none⟩) (h:StS S w0 K B n ds a w) (hf:zAD K B n d=true) (hx: ∀v W,(Wd.fct (zAc K B) x).p v W->f.p v W)
  (fin: ∀a w,StS S w0 ((d, .u f)::K) B n ds a w->zBx F m P ops Q (k+1) a w):zBx F m P ops Q k a w:=
 zBe ho rfl (zB3 (fun _ e=>by cases e) (fun _ e=>by cases e) (W':=w) (v:=a.eval x) rfl (fin _ _ (h.set hf (xP _ _) (hx _ _ (h.fct x)))))
theorem yD {ops:Array Oper} {k d:Nat} {e:WJ} {x:WK} {ty:WJ} {pos:String} {aft:Array Edge} (C:CU) (ho:ops[k]?=some ⟨some d, .box e x,ty,pos,aft,none⟩) (h:StS S w0 K B n ds a w) (hf:zAD K B n d=true) (hx: ∀v W,(Wd.fct (zAc K B) x).p v W->C.p v.cells.toList W/\v.cells.toList.all yR=true)
  (fin: ∀b a w,StS S w0 K (⟨d,e,C,b,false⟩::B) n ds a w->zBx F m P ops Q (k+1) a w):zBx F m P ops Q k a w:=
 zBe ho rfl (zB3 (fun _ e=>by cases e) (fun _ e=>by cases e) (W':=w.alloc (.cells (a.eval x).cells e (0,0))) (v:= pO w.heap.size 0) (by simp [execOp,Instr.box,newVar,newRow]) (by
  have h1:=hx _ _ (h.fct x)
  have:=h.lay (e:=e) hf h1.1 h1.2
  rw [Array.toArray_toList] at this
  exact fin _ _ _ this))
theorem z4 {ops:Array Oper} {k d:Nat} {e:WJ} {ty:WJ} {pos:String} {aft:Array Edge} (C:CU) {cs:List WI} (hz:zeroCells P e=some cs) (ho:ops[k]?=some ⟨some d, .alloc e,ty,pos,aft,none⟩) (h:StS S w0 K B n ds a w) (hf:zAD K B n d=true) (hx: ∀W,C.p cs W) (hn:cs.all yR=true)
  (fin: ∀b a w,StS S w0 K (⟨d,e,C,b,false⟩::B) n ds a w->zBx F m P ops Q (k+1) a w):zBx F m P ops Q k a w:=by
 have hrun:(Instr.alloc e true (.tuple #[])).run P w= .ok (pO w.heap.size 0) (w.alloc (.cells cs.toArray e (0,0))):=by
  unfold zeroCells at hz
  cases hi:P.info? e with
  |none=>rw [hi] at hz;cases hz
  | some i=>
   rw [hi] at hz
   simp only [Option.bind_some] at hz
   cases hzz:i.zero with
   |none=>rw [hzz] at hz;cases hz
   |some z=>
    rw [hzz] at hz
    simp only [bJ,bK] at hz
    subst hz
    simp [Instr.alloc,zeroValue,typeInfo,hi,hzz,newVar,newRow]
 exact zBe ho rfl (zB3 (fun _ e=>by cases e) (fun _ e=>by cases e) (W':=w.alloc (.cells cs.toArray e (0,0))) (v:= pO w.heap.size 0) (by simp [execOp,hrun]) (fin _ _ _ (h.lay hf (hx _) hn)))
def zF6:List Bx->Nat->CU->List Bx
 | [],_,_=> []
 |x::B,c,C=>bif Nat.beq x.t c then ⟨x.t,x.e,C,x.b,x.r⟩::B else x::zF6 B c C
theorem zPu: ∀(B:List Bx) (c:Nat) (C:CU),(zF6 B c C).map (fun x=>(x.b,x.r))=B.map (fun x=>(x.b,x.r))
 | [],_,_=>rfl
 |x::B,c,C=>by
  unfold zF6
  cases Nat.beq x.t c with
  |true=>rfl
  |false=>simp [zPu B c C]
theorem qW.turn {w':WH} {c:Nat} {vs:List WI} {C:CU} {x:Bx} (hro:x.r=false) (hc:C.p vs w') (hn:vs.all yR=true) (hx':w'.heap[x.b]?=some (.cells vs.toArray x.e (0,0))) (ho: ∀k,k<w.heap.size->k≠x.b->w'.heap[k]?=w.heap[k]?) (hk:zAo w w'): ∀(B:List Bx),qW S w0 a w B->x∈B->x.t=c->(∀y,y∈B->y.t=c->y=x)->qW S w0 a w' (zF6 B c C)
 | [],_,h,_,_=>by cases h
 | y::B,⟨⟨cs,h1,h2,h3,h4,h5,h6⟩,h7⟩,hx,hxc,hu=>by
  unfold zF6
  cases e:Nat.beq y.t c with
  | true=>
   have e2:=xU e
   obtain rfl:y=x:=hu y (by simp) e2
   refine ⟨⟨vs,h1,h2,hx',hc,hn,h6⟩, ?_⟩
   have: ∀B:List Bx,qW S w0 a w B->(∀z,z∈B->z.b≠y.b∨(y.r=true/\z.r=true))->qW S w0 a w' B:=by
    intro B
    induction B with
    |nil=>intro _ _;trivial
    |cons z B ih=>
     intro hB hz
     obtain ⟨⟨c2,g1,g2,g3,g4,g5,g6⟩,g7⟩:=hB
     exact ⟨⟨c2,g1,g2,(ho _ (xM.1 g3).1 ((hz z (by simp)).resolve_right (fun e=>by rw [hro] at e;cases e.1))).trans g3,z.c.us _ _ _ g4 hk,g5,g6⟩,ih g7 fun z' hz'=>hz z' (by simp [hz'])⟩
   exact this B h7 h6
  | false=>
   have hxB:x∈B:=by
    rcases xR.1 hx with rfl|hx
    ·rw [hxc] at e;simp at e
    ·exact hx
   refine ⟨⟨cs,h1,h2,(ho _ (xM.1 h3).1 (fun e'=>((h6 x hxB).resolve_right (fun e=>by rw [hro] at e;cases e.2)) e'.symm)).trans h3,y.c.us _ _ _ h4 hk,h5,fun z hz=> ?_⟩,qW.turn hro hc hn hx' ho hk B h7 hxB hxc fun z hz=>hu z (by simp [hz])⟩
   have hz2:(z.b,z.r)∈B.map (fun x=>(x.b,x.r)):=by rw [<-zPu B c C];exact xN.2 ⟨z,hz,rfl⟩
   obtain ⟨z',hz',e3⟩:=xN.1 hz2
   injection e3 with e3 e4
   rw [<-e3, <-e4]
   exact h6 z' hz'
def zFT:List Bx->Nat->Option Bx
 | [],_=>none
 |x::B,c=>bif Nat.beq x.t c then some x else zFT B c
theorem zBs: ∀{B:List Bx} {c:Nat} {x:Bx},zFT B c=some x->x∈B/\x.t=c
 | [],_,_,h=>by cases h
 | y::B,c,x,h=>by
  unfold zFT at h
  cases e:Nat.beq y.t c with
  |true=>
   rw [e] at h
   obtain rfl:y=x:=by injection h
   exact ⟨by simp,xU e⟩
  |false=>
   rw [e] at h
   obtain ⟨h1,h2⟩:=zBs h
   exact ⟨by simp [h1],h2⟩
theorem qW.one {c:Nat} {x y:Bx} (hro:x.r=false): ∀{B:List Bx},qW S w0 a w B->x∈B->y∈B->x.t=c->y.t=c->y=x
 | [],_,h,_,_,_=>by cases h
 | z::B,⟨⟨cs,h1,h2,h3,h4,h5,h6⟩,h7⟩,hx,hy,hxc,hyc=>by
  have key: ∀q,q∈B->q.t=z.t->(z.r=false∨q.r=false)->False:=fun q hq e hr=>by
   obtain ⟨_,g1,_⟩:=qW.mem h7 q hq
   rw [e,h1] at g1
   injection g1 with g1
   injection g1 with g1
   injection g1 with g1
   rcases h6 q hq with g|g
   ·exact g g1.symm
   ·rcases hr with hr|hr
    ·rw [hr] at g;cases g.1
    ·rw [hr] at g;cases g.2
  rcases xR.1 hx with e1|hx
  ·rcases xR.1 hy with e2|hy
   ·rw [e1,e2]
   ·exact (key y hy (by rw [hyc, <-hxc,e1]) (.inl (by rw [<-e1];exact hro))).elim
  ·rcases xR.1 hy with e2|hy
   ·exact (key x hx (by rw [hxc, <-hyc,e2]) (.inr hro)).elim
   ·exact qW.one hro h7 hx hy hxc hyc
theorem StS.turn (h:StS S w0 K B n ds a w) {c:Nat} {x:Bx} (hB:zFT B c=some x) (hro:x.r=false) {w':WH} {vs:List WI} {C:CU} (hg:w.grownBy w' (some x.b)) (hx':w'.heap[x.b]?=some (.cells vs.toArray x.e (0,0))) (hc:C.p vs w') (hn:vs.all yR=true):StS S w0 K (zF6 B c C) n ds a w':=by
 obtain ⟨hx,hxc⟩:=zBs hB
 obtain ⟨cs,h1,h2,h3,h4,h5⟩:=h.bx.mem x hx
 have hk:zAo w w':=fun q u hq=>by
  have hlt:=bH w _ hq
  by_cases e:q.block=x.b
  ·exfalso
   have h6:w.cell? q=if q.spot.isSome then none else cs.toArray[q.off]?:=by
    unfold World.cell?
    rw [e,h3]
   rw [h6] at hq
   split at hq
   ·cases hq
   ·have:=xL.1 h5 _ (List.mem_of_getElem? (by simpa using hq))
    cases this
  ·exact (World.cell?_of_block (hg.block _ hlt (fun e'=>e (Option.some.inj e')))).trans hq
 exact ⟨h.gr.grown hg (h2.resolve_left (by rw [hro];decide)),h.size,h.nd,fun q hq=>KF.us (h.sl q hq) hk,h.bx.turn hro hc hn hx' (fun k hk' hne=>hg.block k hk' (fun e=>hne (Option.some.inj e))) hk B hx hxc fun y hy hyc=>qW.one hro h.bx hx hy hxc hyc,zID h.mks hg h3,h.so⟩
theorem zCH (w:WH) (b:Nat) (vs:Array WI):w.grownBy (w.setRow b vs) (some b):=⟨rfl,rfl,rfl,by rw [size_setRow];exact xW _,fun k _ hne=>setRow_other w b k vs (fun e=>hne (by rw [e]))⟩
theorem zN {ops:Array Oper} {k c kk:Nat} {t:WJ} {x:WK} {ty:WJ} {pos:String} {aft:Array Edge} (C:CU) (f:SF) (ho:ops[k]?=some ⟨none, .store t (.tmp c) x,ty,pos,aft,none⟩) (h:StS S w0 K B n ds a w) (hsz:zAn P t=some kk) {y:Bx} (hB:zFT B c=some y) (hro:y.r=false) (hye:y.e=t) (hyl: ∀cs W,y.c.p cs W->cs.length=kk)
  (hx: ∀v W,(Wd.fct (zAc K B) x).p v W->f.p v W) (hv: ∀v W,f.p v W-> ∃vs:List WI,v= .agg vs.toArray/\vs.length=kk/\(∀u,u∈vs->u.oneCell'=true)/\vs.all yR=true/\C.p vs W)
  (fin: ∀a w,StS S w0 K (zF6 B c C) n ds a w->zBx F m P ops Q (k+1) a w):zBx F m P ops Q k a w:=by
 obtain ⟨hy,hyc⟩:=zBs hB
 obtain ⟨cs,h1,h2,h3,h4,h5⟩:=h.bx.mem y hy
 obtain ⟨vs,e,hl,ho1,hnl,hC⟩:=hv _ _ (hx _ _ (h.fct x))
 rw [hyc] at h1
 have hk:zAo w (w.setRow y.b vs.toArray):=zCo h3 (by simpa using h5)
 exact zBe ho rfl (zOG hsz hye (hyl _ _ h4) h1 h3 e hl ho1 (fin _ _ (h.turn hB hro (zCH w y.b vs.toArray) (setRow_heap w y.b cs.toArray vs.toArray y.e (0,0) h3) (C.us _ _ _ hC hk) hnl)))
theorem zC0 {ops:Array Oper} {k d:Nat} {op:Op} {ty:WJ} {pos:String} {aft:Array Edge} (f:UF) (ho:ops[k]?=some ⟨some d,op,ty,pos,aft,none⟩) (h:StS S w0 K B n ds a w) (hf:zAD K B n d=true) (hob:qX F m P w ops (upd (zAc K B) [(d,f.tS)]) ⟨some d,op,ty,pos,aft,none⟩)
  (hrd:(zC9 ⟨some d,op,ty,pos,aft,none⟩).contains d=false) (fin: ∀a w,StS S w0 ((d, .u f)::K) B n ds a w->zBx F m P ops Q (k+1) a w):zBx F m P ops Q k a w:=by
 refine zBe ho rfl (hob a w _ Q (xP _ _) (fun t ht=> ?_) fun v W' hv hb=>fin _ _ (h.set hf hb ?_))
 ·have hne:Nat.beq d t=false:=by
   cases e:Nat.beq d t with
   |false=>rfl
   |true=>
    have:=xU e
    subst this
    rw [xS.2 ht] at hrd
    cases hrd
  show (bif Nat.beq d t then f.tS else zAc K B t).p _ _
  rw [hne]
  exact h.at.sl t
 ·have:=hv d rfl
  have e:(upd (zAc K B) [(d,f.tS)]) d=f.tS:=by
   show (bif Nat.beq d d then f.tS else _)=_
   rw [show Nat.beq d d=true from Nat.beq_refl d]
   rfl
  rw [e] at this
  exact this
theorem zBN {b:Nat}: ∀(vs:List WI) (o i:Nat),storeCells ⟨b,o,none⟩ vs i=storeCells ⟨b,0,none⟩ vs (o+i)
 | [],_,_=>rfl
 |v::vs,o,i=>by
  unfold storeCells
  rw [zBN vs o (i+1),xZ,xZ,Nat.zero_add,Nat.add_assoc]
def jQ (cs:List WI) (o:Nat) (vs:List WI):List WI:=cs.take o++vs++cs.drop (o+vs.length)
theorem zAY {b:Nat} {t:WJ}: ∀(vs:List WI) (i:Nat) (cs:List WI) (w:WH),w.heap[b]?=some (.cells cs.toArray t (0,0))->i+vs.length<=cs.length->(∀v,v∈vs->v.oneCell'=true)->
  (storeCells ⟨b,0,none⟩ vs i).run P w= .ok () (w.setRow b (jQ cs i vs).toArray)
 | [],i,cs,w,hg,hl,_=>by
  have:jQ cs i []=cs:=by unfold jQ;simp
  rw [this]
  unfold storeCells
  rw [setRow_self w b _ t (0,0) hg]
  rfl
 | v::vs,i,cs,w,hg,hl,h1=>by
  simp only [List.length_cons] at hl
  unfold storeCells
  have hcell:w.cell? ⟨b,i,none⟩=some cs[i]:=by
   unfold World.cell?
   rw [hg]
   simp [List.getElem?_eq_getElem (by omega:i<cs.length)]
  have hfr:w.frozen? ⟨b,i,none⟩=false:=by simp [World.frozen?,hg]
  have hs:(store ⟨b,i,none⟩ v).run P w= .ok () (w.setCell ⟨b,i,none⟩ v):=by
   rw [run_store _ _ _ _ _ (h1 v (by simp)),hcell]
   simp [hfr]
  rw [xZ,Nat.zero_add]
  simp only [Sem.run_bind,hs,bL]
  have hrow:w.setCell ⟨b,i,none⟩ v=w.setRow b (cs.set i v).toArray:=by
   have hlt:b<w.heap.size:=(xM.1 hg).1
   have hv:w.heap[b]= .cells cs.toArray t (0,0):=(xM.1 hg).2
   unfold World.setCell World.setRow
   congr 1
   refine Array.ext (by simp) fun j h1 h2=> ?_
   by_cases e:j=b
   ·subst e
    simp [bF,hv]
   ·simp [bF,Ne.symm e]
  rw [hrow]
  have hg2:=setRow_heap w b cs.toArray (cs.set i v).toArray t (0,0) hg
  rw [zAY vs (i+1) (cs.set i v) _ hg2 (by rw [List.length_set];omega) (fun u hu=>h1 u (by simp [hu]))]
  congr 1
  have e1:jQ (cs.set i v) (i+1) vs=jQ cs i (v::vs):=by
   unfold jQ
   rw [List.take_set,List.take_succ_eq_append_getElem oD,List.set_append_right _ _ (by simp;omega)]
   have:i - (List.take i cs).length=0:=by simp;omega
   rw [this,List.drop_set_of_lt oD]
   simp [Nat.add_comm,Nat.add_left_comm]
  rw [e1]
  have hlt:b<w.heap.size:=(xM.1 hg).1
  have hv:w.heap[b]= .cells cs.toArray t (0,0):=(xM.1 hg).2
  unfold World.setRow
  congr 1
  refine Array.ext (by simp) fun j h1 h2=> ?_
  by_cases e:j=b
  ·subst e
   simp [bF,hv]
  ·simp [bF,Ne.symm e]
def zKb (P:WL) (t:WJ):Option Nat:=(P.info? t).map (·.size)
theorem zBn {ops:Array Oper} {k c kk o:Nat} {t:WJ} {x y:WK} {ty:WJ} {pos:String} {aft:Array Edge} (C:CU) (f:SF) (ho:ops[k]?=some ⟨none, .store t x y,ty,pos,aft,none⟩) (h:StS S w0 K B n ds a w) (hsz:zKb P t=some kk) {z:Bx} (hB:zFT B c=some z) (hro:z.r=false)
  (hp: ∀v W,(Wd.fct (zAc K B) x).p v W->v= pO z.b o) (hy: ∀v W,(Wd.fct (zAc K B) y).p v W->f.p v W)
  (hv: ∀v W,f.p v W->v.cells.size=kk/\(∀u,u∈v.cells.toList->u.oneCell'=true)/\v.cells.toList.all yR=true/\ ∀cs,z.c.p cs W->o+kk<=cs.length/\C.p (jQ cs o v.cells.toList) W)
  (fin: ∀a w,StS S w0 K (zF6 B c C) n ds a w->zBx F m P ops Q (k+1) a w):zBx F m P ops Q k a w:=by
 obtain ⟨hz,hzc⟩:=zBs hB
 obtain ⟨cs,h1,h2,h3,h4,h5⟩:=h.bx.mem z hz
 have e1:=hp _ _ (h.fct x)
 obtain ⟨g1,g2,g3,g4⟩:=hv _ _ (hy _ _ (h.fct y))
 obtain ⟨g5,g6⟩:=g4 cs h4
 have hk:zAo w (w.setRow z.b (jQ cs o (a.eval y).cells.toList).toArray):=zCo h3 (by simpa using h5)
 have hrun:(execOp a.eval ⟨none, .store t x y,ty,pos,aft,none⟩).run P w= .ok .skip (w.setRow z.b (jQ cs o (a.eval y).cells.toList).toArray):=by
  unfold zKb at hsz
  cases hi:P.info? t with
  |none=>rw [hi] at hsz;cases hsz
  |some i=>
   rw [hi] at hsz
   simp only [bJ,bK] at hsz
   have hr:=zAY (P:=P) (a.eval y).cells.toList o cs w h3 (by simp;omega) g2
   have hs:=zBN (b:=z.b) (a.eval y).cells.toList o 0
   rw [Nat.add_zero] at hs
   simp [execOp,Instr.storeAt,Instr.sureAddr,e1,storeVar,sizeOf,typeInfo,hi,hsz,g1,hs,hr]
 refine zBe ho rfl ⟨fun f hf=>(by cases hf), ?_⟩
 rw [xT _ _ _ (fun _ e=>by cases e),hrun]
 refine fin _ _ (h.turn hB hro (zCH w z.b _) (setRow_heap w z.b cs.toArray _ z.e (0,0) h3) (C.us _ _ _ g6 hk) ?_)
 unfold jQ
 simp only [List.all_append,xO]
 refine ⟨⟨xL.2 fun u hu=>xL.1 h5 u (List.mem_of_mem_take hu),g3⟩,xL.2 fun u hu=>xL.1 h5 u (List.mem_of_mem_drop hu)⟩
def zNp (W:WH) (b:Nat) (te:WJ) (C:CU) (f:SF):Ending->WH->Prop:=fun e W'=> ∃v,e= .returned v/\f.p v W'/\W.grownBy W' (some b)/\ ∃cs:List WI,W'.heap[b]?=some (.cells cs.toArray te (0,0))/\C.p cs W'/\cs.all yR=true
theorem zQr {ops:Array Oper} {k c d:Nat} {f:FuncId} {xs:Array WK} {ats:Array WJ} {ty:WJ} {pos:String} {aft:Array Edge} (C:CU) (g:UF) (ho:ops[k]?=some ⟨some d, .call ⟨.value (.func f),xs,ats⟩,ty,pos,aft,none⟩) (hF:zIU F m P) (he:Enters P f) (h:StS S w0 K B n ds a w) (hf:zAD K B n d=true) {z:Bx} (hB:zFT B c=some z) (hro:z.r=false)
  (hc: ∀cs,w.heap[z.b]?=some (.cells cs.toArray z.e (0,0))->z.c.p cs w->cs.all yR=true->(∀x,x∈xs.toList->(Wd.fct (zAc K B) x).p (a.eval x) w)->Calls P f (xs.map a.eval) w (zNp w z.b z.e C g.tS))
  (fin: ∀a w,StS S w0 ((d, .u g)::K) (zF6 B c C) n ds a w->zBx F m P ops Q (k+1) a w):zBx F m P ops Q k a w:=by
 obtain ⟨hz,hzc⟩:=zBs hB
 obtain ⟨cs,h1,h2,h3,h4,h5⟩:=h.bx.mem z hz
 have hcl:=hc cs h3 h4 h5 fun x _=>h.fct x
 refine zBe ho rfl ⟨fun g _=>hF.1 g, ?_⟩
 rw [xT _ _ _ (fun _ e=>by cases e),execOp_call_go,he]
 simp only [Oper.uponIn_enter]
 refine ⟨hF.2.1,CallsIn.mono (hF.2.2 _ _ _ (zNp w z.b z.e C g.tS) (by simpa using hcl)) fun e W' he=> ?_⟩
 obtain ⟨v,rfl,hv,hg,cs',hh,hC,hn⟩:=he
 have s1:=h.turn hB hro hg hh hC hn
 have hf':zAD K (zF6 B c C) n d=true:=by
  have:(zF6 B c C).map (·.t)=B.map (·.t):=by
   have key: ∀B:List Bx,(zF6 B c C).map (·.t)=B.map (·.t):=fun B=>by
    induction B with
    |nil=>rfl
    |cons x B ih=>
     unfold zF6
     cases Nat.beq x.t c with
     |true=>rfl
     |false=>simp [ih]
   exact key B
  unfold zAD at hf ⊢
  rw [this]
  exact hf
 exact fin _ _ (s1.set hf' (xP _ _) hv)
theorem zDr {ops:Array Oper} {k c d:Nat} {f:FuncId} {x:WK} {ats:Array WJ} {ty:WJ} {pos:String} {aft:Array Edge} (C:CU) (g:UF) (ho:ops[k]?=some ⟨some d, .call ⟨.value (.func f),#[x],ats⟩,ty,pos,aft,none⟩) (hF:zIU F m P) (he:Enters P f) (h:StS S w0 K B n ds a w) (hf:zAD K B n d=true) {z:Bx} (hB:zFT B c=some z) (hro:z.r=false)
  (hp: ∀v W,(Wd.fct (zAc K B) x).p v W->v= pO z.b 0)
  (hc: ∀cs:List WI,w.heap[z.b]?=some (.cells cs.toArray z.e (0,0))->z.c.p cs w->Calls P f #[pO z.b 0] w (zNp w z.b z.e C g.tS))
  (fin: ∀a w,StS S w0 ((d, .u g)::K) (zF6 B c C) n ds a w->zBx F m P ops Q (k+1) a w):zBx F m P ops Q k a w:=
 zQr C g ho hF he h hf hB hro (fun cs h1 h2 _ h4=>by
  have e:=hp _ _ (h4 x (by simp))
  have:=hc cs h1 h2
  rw [<-e] at this
  simpa using this) fin
def zRT:List Bx->Nat->Nat->List Bx
 | [],_,_=> []
 |x::B,c,d=>bif Nat.beq x.t c then ⟨d,x.e,x.c,x.b,x.r⟩::B else x::zRT B c d
theorem zPx: ∀(B:List Bx) (c d:Nat),(zRT B c d).map (fun x=>(x.b,x.r))=B.map (fun x=>(x.b,x.r))
 | [],_,_=>rfl
 |x::B,c,d=>by
  unfold zRT
  cases Nat.beq x.t c with
  |true=>rfl
  |false=>simp [zPx B c d]
theorem qW.ren {c d:Nat} {a':Act} (hs: ∀x,x∈B->a'.tmps.getD x.t undef=a.tmps.getD x.t undef) (hd:a'.tmps.getD d undef=a.tmps.getD c undef): ∀(l:List Bx),(∀x,x∈l->x∈B)->qW S w0 a w l->qW S w0 a' w (zRT l c d)
 | [],_,_=>trivial
 | x::l,hl,⟨⟨cs,h1,h2,h3,h4,h5,h6⟩,h7⟩=>by
  have hrest:qW S w0 a' w l:=qW.keep (xP _ _) (fun _ _ h=>h) l (fun y hy=>hs y (hl y (by simp [hy]))) h7
  unfold zRT
  cases e:Nat.beq x.t c with
  |true=>
   have e2:=xU e
   exact ⟨⟨cs,by show a'.tmps.getD d undef=_;rw [hd, <-e2];exact h1,h2,h3,h4,h5,h6⟩,hrest⟩
  |false=>
   refine ⟨⟨cs,by rw [hs x (hl x (by simp))];exact h1,h2,h3,h4,h5,fun y hy=> ?_⟩,qW.ren hs hd l (fun y hy=>hl y (by simp [hy])) h7⟩
   have hy2:(y.b,y.r)∈l.map (fun x=>(x.b,x.r)):=by rw [<-zPx l c d];exact xN.2 ⟨y,hy,rfl⟩
   obtain ⟨z,hz,e3⟩:=xN.1 hy2
   injection e3 with e3 e4
   rw [<-e3, <-e4]
   exact h6 z hz
theorem zQp {ops:Array Oper} {k c d:Nat} {ty:WJ} {pos:String} {aft:Array Edge} (ho:ops[k]?=some ⟨some d, .assign (.tmp c),ty,pos,aft,none⟩) (h:StS S w0 K B n ds a w) (hf:zAD K B n d=true)
  (fin: ∀a w,StS S w0 K (zRT B c d) n ds a w->zBx F m P ops Q (k+1) a w):zBx F m P ops Q k a w:=by
 refine zBe ho rfl (zB3 (fun _ e=>by cases e) (fun _ e=>by cases e) (W':=w) (v:=a.tmps.getD c undef) rfl (fin _ _ ⟨h.gr,by rw [zCO];exact h.size,by rw [zBz];exact h.nd,fun q hq=> ?_,h.bx.ren (fun x hx=>zAj (zCV hf (xX _ (xN.2 ⟨x,hx,rfl⟩))) _) (zAa (by rw [h.size];exact zGC hf) _) B (fun x hx=>hx),h.mks,h.so⟩))
 rw [zAj (zCV hf (bD _ (xN.2 ⟨q,hq,rfl⟩)))]
 exact h.sl q hq
theorem zNO {fn:Func} {args:Array WI} (l:List SF) (hn:Nat.ble args.size fn.ntmps=true) (hA:zFY w l args.toList):St w ((zKZ 0 l).map fun q=>(q.1,KF.o q.2)) [] fn.ntmps [] { tmps:=args++Array.replicate (fn.ntmps - args.size) undef,defers:= [] } w:=by
 have hA:=zPi l hn hA
 refine ⟨⟨hA.gr.os,hA.gr.tape,hA.gr.output,hA.gr.size,fun k hk _=>hA.gr.block k hk⟩,hA.size,hA.nd,fun q hq=> ?_,trivial,⟨[],Marks.nil _ _⟩, .inr fun _ h=>h⟩
 obtain ⟨p,hp,rfl⟩:=xN.1 hq
 have hnd: ∀(l:List SF) (k:Nat),(∀t,t∈(zKZ k l).map (·.1)->k<=t)/\zBk ((zKZ k l).map (·.1))=true:=by
  intro l
  induction l with
  |nil=>intro k;exact ⟨fun t ht=>(by cases ht),rfl⟩
  | cons f l ih=>
   intro k
   obtain ⟨h1,h2⟩:=ih (k+1)
   refine ⟨fun t ht=> ?_, ?_⟩
   ·rcases xR.1 ht with rfl|ht
    ·exact xW _
    ·have:=h1 t ht;omega
   ·show (!((zKZ (k+1) l).map (·.1)).contains k&&zBk _)=true
    rw [h2]
    cases hc:((zKZ (k+1) l).map (·.1)).contains k with
    |false=>rfl
    |true=>
     have:=h1 k (xS.1 hc)
     omega
 have:=hA.sl p.1
 rw [zC6 (hnd l 0).2 hp] at this
 exact this
theorem z9 {f:FuncId} {fn:Func} {c:Code} {args:Array WI} {R:Ending->WH->Prop} (l:List SF)
  (hf:P.funcs[f]?=some fn) (hb:fn.body=some c) (hn:Nat.ble args.size fn.ntmps=true) (hA:zFY w l args.toList)
  (h: ∀a,St w ((zKZ 0 l).map fun q=>(q.1,KF.o q.2)) [] fn.ntmps [] a w->c.wpIn Fence.wide 0 P (bodyPost P fn R) a w):Calls P f args w R:=
 zBL hf hb (h _ (zNO l hn hA))
def wH (W:WH) (te:WJ) (C:CU):SF:=⟨fun v w=> ∃(b:Nat) (cs:List WI),v= pO b 0/\W.heap.size<=b/\w.heap[b]?=some (.cells cs.toArray te (0,0))/\C.p cs w/\cs.all yR=true,fun _ _ _ ⟨b,cs,h1,h2,h3,h4,h5⟩ hb=>⟨b,cs,h1,h2,(hb.block b (xM.1 h3).1).trans h3,C.us _ _ _ h4 (yN hb),h5⟩⟩
theorem zKD {W:WH} {te:WJ} {C:CU} (v:WI) (w:WH) (h:(wH W te C).p v w):(wB C.cf).p v w:=by
 obtain ⟨b,cs,h1,_,h3,h4,_⟩:=h
 exact ⟨b,0,cs,h1,h4,zBd h3⟩
theorem zBy {W W':WH} {te:WJ} {C:CU} (h:W.heap.size<=W'.heap.size) (v:WI) (w:WH) (hv:(wH W' te C).p v w):(wH W te C).p v w:=by
 obtain ⟨b,cs,h1,h2,h3⟩:=hv
 exact ⟨b,cs,h1,bE h h2,h3⟩
theorem StS.adopt (h:StS S w0 K B n ds a w) {W:WH} {te:WJ} {C:CU} (r:Bool) (t:Nat) (hv:(wH W te C).p (a.tmps.getD t undef) w) (hW:BlS S w0 W) (hB: ∀y,y∈B->y.b<W.heap.size∨(r=true/\y.r=true)): ∃b,W.heap.size<=b/\StS S w0 K (⟨t,te,C,b,r⟩::B) n ds a w:=by
 obtain ⟨b,cs,h1,h2,h3,h4,h5⟩:=hv
 refine ⟨b,h2,h.gr,h.size,h.nd,h.sl,⟨⟨cs,h1, .inr (.inl (bE hW.size h2)),h3,h4,h5,fun y hy=> ?_⟩,h.bx⟩,h.mks,h.so⟩
 rcases hB y hy with e|e
 ·left
  show y.b≠b
  omega
 ·exact .inr e
theorem StS.old (h:StS S w0 K B n ds a w): ∀y,y∈B->y.b<w.heap.size:=fun y hy=>by
 obtain ⟨_,_,_,h3,_⟩:=h.bx.mem y hy
 exact (xM.1 h3).1
theorem vM (h:St w0 K B n [] a w) {fn:Func} {t c:Nat} {z:Bx} (hr:fn.results=#[.tmp t]) (hB:zFT B c=some z) (hro:z.r=false) (hd: ∀v W,(zAc K B t).p v W->v= pO z.b 0):bodyPost P fn (Ret w0 (wH w0 z.e z.c)) .ret a w:=by
 obtain ⟨hz,_⟩:=zBs hB
 obtain ⟨cs,h1,h2,h3,h4,h5⟩:=h.bx.mem z hz
 have h6:w0.heap.size<=z.b:=by
  rcases h2 with e|e|e
  ·rw [hro] at e;cases e
  ·exact e
  ·exact e.elim
 refine ⟨h.nd,a.tmps.getD t undef, ?_,⟨_,rfl,⟨z.b,cs,hd _ _ (h.at.sl t),h6,h3,h4,h5⟩,h.gr.below⟩⟩
 simp [results,hr]
theorem zF8 {f:FuncId} {fn:Func} {c:Code} {args:Array WI} {R:Ending->WH->Prop} (b:Nat) (K0:List (Nat×UF)) (B0:List Bx)
  (hf:P.funcs[f]?=some fn) (hb:fn.body=some c) (hn:Nat.ble args.size fn.ntmps=true) (hK: ∀q,q∈K0->q.1<args.size/\q.2.p (args.getD q.1 undef) w)
  (hB:qW (fun k=>k=b) w ⟨args, []⟩ w B0) (hBs: ∀x,x∈B0->x.t<args.size)
  (h: ∀a,StS (fun k=>k=b) w (K0.map fun q=>(q.1,KF.u q.2)) B0 fn.ntmps [] a w->c.wpIn Fence.wide 0 P (bodyPost P fn R) a w):Calls P f args w R:=by
 have hn:=Nat.le_of_ble_eq_true hn
 refine zBL hf hb (h _ ⟨BlS.refl _ _,by simp;omega,rfl,fun q hq=> ?_,qW.keep (a:=⟨args, []⟩) (xP _ _) (fun _ _ h=>h) B0 (fun x hx=> ?_) hB,⟨[],Marks.nil _ _⟩, .inl fun q hq=> ?_⟩)
 ·obtain ⟨p,hp,rfl⟩:=xN.1 hq
  obtain ⟨h1,h2⟩:=hK p hp
  have:(args++Array.replicate (fn.ntmps - args.size) undef).getD p.1 undef=args.getD p.1 undef:=by
   rw [xV,xV,bO h1]
  show p.2.p ((args++Array.replicate (fn.ntmps - args.size) undef).getD p.1 undef) w
  rw [this]
  exact h2
 ·show (args++Array.replicate (fn.ntmps - args.size) undef).getD x.t undef=args.getD x.t undef
  rw [xV,xV,bO (hBs x hx)]
 ·obtain ⟨p,hp,rfl⟩:=xN.1 hq
  exact ⟨_,rfl⟩
theorem StS.grown {b':Nat} (h:StS (fun k=>k=b') w0 K B n ds a w) {b:Nat} (hb:b'=b):w0.grownBy w (some b):=by
 subst hb
 exact ⟨h.gr.os,h.gr.tape,h.gr.output,h.gr.size,fun k hk hne=>h.gr.block k hk fun e=>hne (by rw [e])⟩
theorem StS.retS {b:Nat} (h:StS (fun k=>k=b) w0 K B n [] a w) {fn:Func} {f:SF} {C:CU} {c:Nat} {z:Bx} (hB:zFT B c=some z) (hzb:z.b=b) (hzC:z.c=C) {v:WI} (hr:(results fn a.tmps).run P w= .ok v w) (hv:f.p v w):bodyPost P fn (zNp w0 b z.e C f) .ret a w:=by
 obtain ⟨hz,_⟩:=zBs hB
 obtain ⟨cs,h1,h2,h3,h4,h5⟩:=h.bx.mem z hz
 subst hzb
 subst hzC
 exact ⟨h.nd,v,hr,_,rfl,hv,h.grown rfl,cs,h3,h4,h5⟩
theorem vJ {b:Nat} (h:StS (fun k=>k=b) w0 K B n [] a w) {fn:Func} {f:SF} {C:CU} {c t:Nat} {z:Bx} (hB:zFT B c=some z) (hzb:z.b=b) (hzC:z.c=C) (hr:fn.results=#[.tmp t]) (hd: ∀v W,(zAc K B t).p v W->f.p v W):bodyPost P fn (zNp w0 b z.e C f) .ret a w:=
 h.retS hB hzb hzC (v:=a.tmps.getD t undef) (by simp [results,hr]) (hd _ _ (h.at.sl t))
theorem vK {b:Nat} (h:StS (fun k=>k=b) w0 K B n [] a w) {fn:Func} {f:SF} {C:CU} {c:Nat} {z:Bx} (hB:zFT B c=some z) (hzb:z.b=b) (hzC:z.c=C) (hr:fn.results=#[]) (hd: ∀W,f.p (.tuple #[]) W):bodyPost P fn (zNp w0 b z.e C f) .ret a w:=
 h.retS hB hzb hzC (v:= .tuple #[]) (by simp [results,hr]) (hd _)
def zUS (K:List (Nat×KF)) (ts:List Nat):List (Nat×KF):=K.filter fun q=> !ts.contains q.1
theorem StS.drop (h:StS S w0 K B n ds a w) (ts:List Nat):StS S w0 (zUS K ts) B n ds a w:=⟨h.gr,h.size,h.nd,fun q hq=>h.sl q (List.mem_filter.1 hq).1,h.bx,h.mks,h.so.imp (fun hu q hq=>hu q (List.mem_filter.1 hq).1) (fun x=>x)⟩
theorem StS.keepK (h:StS S w0 K B n ds a w) (K':List (Nat×KF)) (hs: ∀q,q∈K'->q∈K):StS S w0 K' B n ds a w:=⟨h.gr,h.size,h.nd,fun q hq=>h.sl q (hs q hq),h.bx,h.mks,h.so.imp (fun hu q hq=>hu q (hs q hq)) (fun x=>x)⟩
theorem StS.cond (h:StS S w0 K B n ds a w) {c:WK} {x y:Code} (bv:Bool) (hc: ∀v W,(Wd.fct (zAc K B) c).p v W->v= .bool bv) (ht:bv=true->x.wpIn F m P Q a w) (hf:bv=false->y.wpIn F m P Q a w):(Code.cond c x y).wpIn F m P Q a w:=
 wpIn_cond_split (hc _ _ (h.fct c)) ht hf
theorem wJ (h:St w0 K B n [] a w) {fn:Func} {f:SF} {t:Nat} (hr:fn.results=#[.tmp t]) (hd: ∀v W,(zAc K B t).p v W->f.p v W):bodyPost P fn (Ret w0 f) .ret a w:=by
 refine ⟨h.nd,_, ?_,⟨_,rfl,hd _ _ (h.at.sl t),h.gr.below⟩⟩
 simp [results,hr]
theorem StS.cellv (h:StS S w0 K B n ds a w) {t kk:Nat} {e:WJ} {C:CU} (hsz:zAn P e=some kk) {y:Bx} (hB:zFT B t=some y) (hyC:y.c=C) (hyl: ∀cs W,C.p cs W->cs.length=kk): ∃(cs:List WI) (b:Nat),a.tmps[t]?.getD undef= pO b 0/\(loadVar e ⟨b,0,none⟩).run P w= .ok (.agg cs.toArray) w/\C.p cs w:=by
 obtain ⟨hy,rfl⟩:=zBs hB
 subst hyC
 obtain ⟨cs,h1,h2,h3,h4,h5⟩:=h.bx.mem y hy
 exact ⟨cs,y.b,by rw [<-xV];exact h1,zF9 hsz (hyl _ _ h4) h3,h4⟩
theorem wI (h:St w0 K B n [] a w) {fn:Func} {f:SF} {t kk:Nat} {e:WJ} (C:CU) (hr:fn.results=#[.cell t e]) (hsz:zAn P e=some kk) {y:Bx} (hB:zFT B t=some y) (hyC:y.c=C) (hyl: ∀cs W,C.p cs W->cs.length=kk)
  (hd: ∀cs W,C.p cs W->f.p (.agg cs.toArray) W):bodyPost P fn (Ret w0 f) .ret a w:=by
 obtain ⟨cs,b,h0,h1,h2⟩:=h.cellv hsz hB hyC hyl
 refine ⟨h.nd, .agg cs.toArray, ?_,⟨_,rfl,hd _ _ h2,h.gr.below⟩⟩
 simp [results,hr,asAddr,h0,h1]
theorem wK (h:St w0 K B n [] a w) {fn:Func} {f:SF} {t r kk:Nat} {e:WJ} (C:CU) (hr:fn.results=#[.cell t e, .tmp r]) (hsz:zAn P e=some kk) {y:Bx} (hB:zFT B t=some y) (hyC:y.c=C) (hyl: ∀cs W,C.p cs W->cs.length=kk)
  (hd: ∀cs v W,C.p cs W->(zAc K B r).p v W->f.p (.tuple #[.agg cs.toArray,v]) W):bodyPost P fn (Ret w0 f) .ret a w:=by
 obtain ⟨cs,b,h0,h1,h2⟩:=h.cellv hsz hB hyC hyl
 refine ⟨h.nd, .tuple #[.agg cs.toArray,a.tmps.getD r undef], ?_,⟨_,rfl,hd _ _ _ h2 (h.at.sl r),h.gr.below⟩⟩
 simp [results,hr,asAddr,h0,h1]
theorem wZ (h:St w0 K B n [] a w) {fn:Func} {f:SF} {t s r kk kk':Nat} {e e':WJ} (C C':CU) (hr:fn.results=#[.cell t e, .cell s e', .tmp r]) (hsz:zAn P e=some kk) (hsz':zAn P e'=some kk') {y:Bx} (hB:zFT B t=some y) (hyC:y.c=C) (hyl: ∀cs W,C.p cs W->cs.length=kk) {y':Bx} (hB':zFT B s=some y') (hyC':y'.c=C') (hyl': ∀cs W,C'.p cs W->cs.length=kk')
  (hd: ∀cs cs' v W,C.p cs W->C'.p cs' W->(zAc K B r).p v W->f.p (.tuple #[.agg cs.toArray, .agg cs'.toArray,v]) W):bodyPost P fn (Ret w0 f) .ret a w:=by
 obtain ⟨cs,b,h0,h1,h2⟩:=h.cellv hsz hB hyC hyl
 obtain ⟨cs',b',h0',h1',h2'⟩:=h.cellv hsz' hB' hyC' hyl'
 refine ⟨h.nd, .tuple #[.agg cs.toArray, .agg cs'.toArray,a.tmps.getD r undef], ?_,⟨_,rfl,hd _ _ _ _ h2 h2' (h.at.sl r),h.gr.below⟩⟩
 simp [results,hr,asAddr,h0,h1,h0',h1']
end
end Go.Proofs.Wd

namespace Go.Proofs.Wd
set_option maxHeartbeats 800000
open Go.RowKit
section
variable {F:Fence} {m:Nat} {P:WL} {ops:Array Oper} {Q:Exit->Act->WH->Prop}
def zDR (ops:Array Oper) (i:Nat):Bool:=match ops[i]? with
 |some ⟨some _, .move _,_,_,_,none⟩|some ⟨some _, .extract _ _,_,_,_,none⟩=>true
 |_=>false
def zCl (ops:Array Oper) (listed:Array Bool) (i:Nat):Bool:=zDR ops i&&Region.free .any ops listed i&&(Region.ready .any ops listed).contains i
def zJd (listed:Array Bool):List Nat->Array Bool
 | []=>listed
 |i::l=>zJd (listed.setIfInBounds i true) l
def zSz (ops:Array Oper):Array Bool->List Nat->Bool
 |_, []=>true
 |listed,i::l=>(match ops[i]? with|some ⟨some _, .move _,_,_,_,none⟩=>true|_=>false)&&zCl ops listed i&&zSz ops (listed.setIfInBounds i true) l
theorem zCq (v:WI) (j:Nat) (w w':WH) {r:WI} (h:(Instr.extract v j).run P w= .ok r w):(Instr.extract v j).run P w'= .ok r w':=by
 unfold Instr.extract at h ⊢
 split at h
 ·rename_i vs
  cases hv:vs[j]? with
  |none=>rw [hv] at h;simp at h
  |some u=>
   rw [hv] at h
   simp at h
   simp [h]
 ·simp at h
theorem zIL (hpl:zAr ops=true) (hns:Region.noSelect ops=true) {k:Nat} (hch: ∀r,r<ops.size - k->Region.ready .any ops (yV ops.size (k+r))= [k+r]∨zCl ops (yV ops.size (k+r)) (k+r)=true):
  ∀(f r:Nat) (a:Act) (w:WH),k+r+f=ops.size->wpOpsIn F m P ops (jW Q) (List.range' (k+r) f) a w->zAd F m P .any ops ops.size (fun _=>True) (jW Q) f (yV ops.size (k+r)) a w
 | 0,r,a,w,hf,h=>by
  refine ⟨List.eq_nil_iff_forall_not_mem.2 fun i hi=> ?_,h⟩
  have h1:=(mem_ready.1 hi).1
  have hlt:i<ops.size:=by
   obtain ⟨_,o,ho,_⟩:=mem_ready.1 hi
   exact (xM.1 ho).1
  rw [xV,zCF hlt] at h1
  simp at h1
  omega
 | f+1,r,a,w,hf,h=>by
  rw [bN,wpOpsIn_cons] at h
  have hlt:k+r<ops.size:=by omega
  rcases hch r oD with hr|ht
  ·refine ⟨fun e=>(by rw [hr] at e;cases e),fun i hi=> ?_⟩
   rw [hr] at hi
   obtain rfl:i=k+r:=by simpa using hi
   refine wpOpIn_mono (fun a w h=>⟨.inr trivial, ?_⟩) h
   rw [zCE hlt]
   exact zIL hpl hns hch f (r+1) a w oD h
  ·unfold zCl at ht
   simp only [xO] at ht
   obtain ⟨⟨hfl,hfr⟩,hrd⟩:=ht
   have ho:ops[k+r]?=some ops[k+r]:=bP hlt
   have key: ∃d v,ops[k+r].dst=some d/\zAf P ops (fun _=>True) ops[k+r] v a/\wpOpsIn F m P ops (jW Q) (List.range' (k+r+1) f) (a.put (some d) v) w:=by
    unfold zDR at hfl
    rw [ho] at hfl
    unfold wpOpIn at h
    rw [ho] at h
    generalize ops[k+r]=o at hfl h
    split at hfl
    ·rename_i d x ty pos aft he
     cases he
     refine ⟨d,a.eval x,rfl,⟨.inl ⟨rfl,fun w _=>rfl⟩,fun w=>rfl⟩, ?_⟩
     have h2:=h.2
     rw [xT _ _ _ (fun _ e=>by cases e)] at h2
     exact h2
    ·rename_i d x j ty pos aft he
     cases he
     have h2:=h.2
     rw [xT _ _ _ (fun _ e=>by cases e)] at h2
     cases hrun:(Instr.extract (a.eval x) j).run P w with
     |halt y w'=>
      have he:(execOp a.eval ⟨some d, .extract x j,ty,pos,aft,none⟩).run P w= .halt y w':=by simp [execOp,hrun]
      rw [he] at h2
      cases y<;>exact h2.elim
     | ok v w'=>
      have hw:w'=w:=by
       unfold Instr.extract at hrun
       split at hrun
       ·split at hrun
        ·simp at hrun;exact hrun.2.symm
        ·simp at hrun
       ·simp at hrun
      subst hw
      have he:(execOp a.eval ⟨some d, .extract x j,ty,pos,aft,none⟩).run P w'= .ok (.value v) w':=by simp [execOp,hrun]
      rw [he] at h2
      exact ⟨d,v,rfl,⟨.inl ⟨rfl,fun w _=>by simp [execOp,zCq _ _ _ w hrun]⟩,fun w=>rfl⟩,h2⟩
    ·cases hfl
   obtain ⟨d,v,hd,hy,hrest⟩:=key
   refine zW (i:=k+r) (v:=v) hpl ?_ ho hns hfr hrd (fun _ _ _ h=>h) trivial hy ?_
   ·unfold zBD
    rw [Array.getElem?_eq_none (xW _)]
   ·rw [hd,zCE hlt]
    exact zIL hpl hns hch f (r+1) _ w oD hrest
def zCx (ops:Array Oper) (pre:List Nat) (t:Nat):Bool:=pre.any fun i=>yF ops i==some t
def zHx (ops:Array Oper) (k i:Nat):Bool:=match ops[i]? with
 |some ⟨some _, .move x,_,_,_,none⟩=>(match x with| .tmp t=>(List.range k).all fun j=> !(yF ops j==some t)|_=>true)
 |_=>false
def zGh (ops:Array Oper) (k:Nat):Array Bool->List Nat->Bool
 |_, []=>true
 |listed,i::l=>zHx ops k i&&zCl ops listed i&&zGh ops k (listed.setIfInBounds i true) l
theorem zPF {w0:WH} {G G1:Nat->SF} {n k:Nat} (hpl:zAr ops=true) (hns:Region.noSelect ops=true) (hfr:zA3 ops n=true) (hap:jU ops=true) (hG: ∀t,(∀j,j<k->yF ops j≠some t)->G1 t=G t) (hobs: ∀i o,ops[i]?=some o->zDR ops i=true->i<k->qX F m P w0 ops G1 o):
  ∀(pre done:List Nat) (listed:Array Bool) (f:Nat) (a:Act) (w:WH),(∀i,i∈done->i<k)->zGh ops k listed pre=true->(∀i,i∈pre->i<k)->Below w0.heap.size w0 w->a.tmps.size=n->(∀t,zCx ops done t=true->(G1 t).p (a.tmps.getD t undef) w)->(∀t,zCx ops done t=false->(G t).p (a.tmps.getD t undef) w)->
  (∀a',a'.tmps.size=n->a'.defers=a.defers->(∀t,zCx ops (done++pre) t=true->(G1 t).p (a'.tmps.getD t undef) w)->(∀t,zCx ops (done++pre) t=false->(G t).p (a'.tmps.getD t undef) w)->zAd F m P .any ops ops.size (fun _=>True) (jW Q) f (zJd listed pre) a' w)->
  zAd F m P .any ops ops.size (fun _=>True) (jW Q) (f+pre.length) listed a w
 | [],done,listed,f,a,w,_,_,_,_,hs,h1,h2,h=>h a hs rfl (by simpa using h1) (by simpa using h2)
 | i::l,done,listed,f,a,w,hdk,hc,hik,hb,hs,h1,h2,h=>by
  rw [zGh,xO,xO] at hc
  obtain ⟨⟨hm,ht⟩,hl⟩:=hc
  have hflo:zDR ops i=true:=by
   unfold zCl at ht
   simp only [xO] at ht
   exact ht.1.1
  unfold zCl at ht
  simp only [xO] at ht
  obtain ⟨⟨_,hfr'⟩,hrd⟩:=ht
  unfold zHx at hm
  cases ho:ops[i]? with
  |none=>rw [ho] at hm;cases hm
  | some o=>
   rw [ho] at hm
   have hg:=hobs i o ho hflo (hik i (by simp))
   obtain ⟨d,x,ty,pos,aft,rfl,hx⟩: ∃d x ty pos aft,o=⟨some d, .move x,ty,pos,aft,none⟩/\(match x with| .tmp t=>(List.range k).all fun j=> !(yF ops j==some t)|_=>true)=true:=by
    split at hm
    ·rename_i d x ty pos aft he
     cases he
     exact ⟨_,_,_,_,_,rfl,hm⟩
    ·cases hm
   have hdl:d<n:=jB hfr ho rfl
   have hfact:(G1 d).p (a.eval x) w:=by
    have:=hg a w (fun a' w'=>(G1 d).p (a'.tmps.getD d undef) w') Q hb (fun t ht=>by
     have hxt:x= .tmp t:=by
      simp only [zC9,Op.operands,List.mem_filterMap] at ht
      obtain ⟨y,hy,he⟩:=ht
      simp at hy
      subst hy
      cases y with
      |tmp u=>simp at he;rw [he]
      |_=>simp at he
     subst hxt
     have hno: ∀j,j<k->yF ops j≠some t:=fun j hjk hj=>by
      have:=xL.1 hx j (xQ.2 hjk)
      rw [hj] at this
      simp at this
     rw [hG t hno]
     refine h2 t ?_
     unfold zCx
     refine bB.2 fun j hj=> ?_
     simp [hno j (hdk j hj)]) fun v W' hv _=>(by
      rw [zAa (by rw [hs];exact hdl)]
      exact hv d rfl)
    have h3:=this.2
    rw [xT _ _ _ (fun _ e=>by cases e)] at h3
    have h4:(G1 d).p ((a.put (some d) (a.eval x)).tmps.getD d undef) w:=h3
    rwa [zAa (by rw [hs];exact hdl)] at h4
   have hlen:f+(i::l).length=(f+l.length)+1:=by simp;omega
   rw [hlen]
   refine zW (i:=i) (v:=a.eval x) hpl ?_ ho hns hfr' hrd (fun _ _ _ h=>h) trivial ⟨.inl ⟨rfl,fun w _=>rfl⟩,fun w=>rfl⟩ ?_
   ·unfold zBD
    rw [Array.getElem?_eq_none (xW _)]
   ·have hdd: ∀t,zCx ops (done++ [i]) t=(zCx ops done t||(d==t)):=fun t=>by
     unfold zCx
     rw [List.any_append]
     simp [jT ho]
    refine zPF hpl hns hfr hap hG hobs l (done++ [i]) _ f _ w (fun j hj=>by
     rcases bC.1 hj with hj|hj
     ·exact hdk j hj
     ·simp at hj;subst hj;exact hik j (by simp)) hl (fun j hj=>hik j (by simp [hj])) hb (by rw [zCO];exact hs) (fun t ht=> ?_) (fun t ht=> ?_) fun a' g1 g2 g3 g4=> ?_
    ·rw [hdd,Bool.or_eq_true] at ht
     by_cases e:d=t
     ·subst e
      rw [zAa (by rw [hs];exact hdl)]
      exact hfact
     ·rw [zAj e]
      exact h1 t (ht.resolve_right (by simpa using e))
    ·rw [hdd,Bool.or_eq_false_iff] at ht
     have e:d≠t:=by simpa using ht.2
     rw [zAj e]
     exact h2 t ht.1
    ·rw [List.append_assoc] at g3 g4
     exact h a' g1 (by rw [g2,zBz]) g3 g4
theorem zJc: ∀(pre:List Nat) (listed:Array Bool) (j:Nat),j<listed.size->(zJd listed pre)[j]?=some (listed.getD j false||pre.contains j)
 | [],listed,j,hj=>by simp [zJd,hj]
 | i::l,listed,j,hj=>by
  show (zJd (listed.setIfInBounds i true) l)[j]?=_
  rw [zJc l _ j (by simpa using hj)]
  by_cases e:i=j
  ·subst e
   simp [hj]
  ·rw [getD_set_ne false e]
   have: ¬j=i:=fun h=>e h.symm
   simp [this]
theorem zG3: ∀(pre:List Nat) (listed:Array Bool),(zJd listed pre).size=listed.size
 | [],_=>rfl
 |i::l,listed=>by
  show (zJd (listed.setIfInBounds i true) l).size=_
  rw [zG3 l]
  simp
def zCW (ops:Array Oper) (pre:List Nat) (k n:Nat) (keys:List Nat):Bool:=
 jU ops&&zA3 ops n&&zAr ops&&Region.noSelect ops&&decide (k<=ops.size)&&
 keys.all (fun t=>(List.range k).any fun i=>yF ops i==some t)&&
 zGh ops k (Array.replicate ops.size false) pre&&pre.all (fun i=>decide (i<k))&&
 (List.range k).all (fun i=>pre.contains i||match ops[i]? with
  |none=>true
  |some o=>(looks ops o).all fun t=>(List.range ops.size).all fun j=> !(yF ops j==some t)||pre.contains j||o.after.any fun e=>Region.binds .any e&&e.on==j)&&
 zCc ops&&zF2 ops (zJd (Array.replicate ops.size false) pre) k&&zEi ops (zJd (Array.replicate ops.size false) pre)&&zJD (zJd (Array.replicate ops.size false) pre) k&&
 ((zJd (Array.replicate ops.size false) pre).count false==ops.size - pre.length)&&decide (pre.length<=ops.size)&&
 (List.range (ops.size - k)).all fun r=>Region.ready .any ops (yV ops.size (k+r))== [k+r]||zCl ops (yV ops.size (k+r)) (k+r)
theorem zHb {id:Nat} {w0:WH} {G:Nat->SF} {n:Nat} {ds:List Deferred} {a:Act} {w:WH} (pre:List Nat) (k:Nat) (L:List (Nat×SF)) (hmix:P.follows .mixedOrders=true)
  (hchk:zCW ops pre k n (L.map (·.1))=true) (h:At w0 G n ds a w) (hobs:Obs F m P w0 ops (upd G L) (ops.toList.take k))
  (hfin: ∀a w,At w0 (zFe ops k (upd G L)) n ds a w->wpOpsIn F m P ops (jW Q) (List.range' k (ops.size - k)) a w):(Code.region id ops true).wpIn F m P Q a w:=by
 unfold zCW at hchk
 simp only [xO] at hchk
 obtain ⟨⟨⟨⟨⟨⟨⟨⟨⟨⟨⟨⟨⟨⟨⟨hap,hfr⟩,hpl⟩,hns⟩,hk⟩,hkeys⟩,hpre⟩,hprk⟩,hrd⟩,hear⟩,htl⟩,hcl⟩,hto⟩,hcnt⟩,hpl2⟩,hch⟩:=hchk
 have hk:=bG hk
 have hpl2:=bG hpl2
 have hprk': ∀i,i∈pre->i<k:=fun i hi=>bG (xL.1 hprk i hi)
 have hget: ∀i o,i<k->ops[i]?=some o->qX F m P w0 ops (upd G L) o:=fun i o hi ho=>hobs.get i o (by rw [bQ hi];simpa using ho)
 have hkey: ∀t,(∀j,j<k->yF ops j≠some t)->upd G L t=G t:=fun t ht=>by
  refine zAA ?_
  cases hc:(L.map (·.1)).contains t with
  |false=>rfl
  |true=>
   exfalso
   have hm:=xS.1 hc
   obtain ⟨i,hi,he⟩:=xY.1 (xL.1 hkeys t hm)
   exact ht i (xQ.1 hi) (by simpa using he)
 have hch': ∀r,r<ops.size - k->Region.ready .any ops (yV ops.size (k+r))= [k+r]∨zCl ops (yV ops.size (k+r)) (k+r)=true:=fun r hr=>by
  have:=xL.1 hch r (xQ.2 hr)
  simpa using this
 have hdrew:Below w.heap.size w w.drew:=(xP _ w).drew
 refine yH ops.size (fun _=>True) hmix ?_
 rw [show ops.size=(ops.size - pre.length)+pre.length from by omega]
 rw [show (ops.size - pre.length)+pre.length=ops.size from by omega]
 have hsz:zAd F m P .any ops ops.size (fun _=>True) (jW Q) (ops.size - pre.length+pre.length) (Array.replicate ops.size false) a w.drew:=by
  refine zPF (w0:=w0) (G:=G) (G1:=upd G L) (n:=n) (k:=k) hpl hns hfr hap hkey (fun i o ho _ hi=>hget i o hi ho) pre [] _ _ a w.drew (fun i hi=>by cases hi) hpre hprk' (h.gr.trans (hdrew.mono h.gr.size)) h.size (fun t ht=>by cases ht) (fun t _=>(G t).st _ _ _ (h.sl t) hdrew) ?_
  intro a1 hs1 hd1 h1 h2
  rw [List.nil_append] at h1 h2
  have hlt0: ∀j,j<ops.size->(zJd (Array.replicate ops.size false) pre).getD j true=pre.contains j:=fun j hj=>by
   rw [xV,zJc pre _ j (by simpa using hj)]
   simp [hj]
  have hnd: ∀t,(∀j,yF ops j=some t->pre.contains j=true)->zBE ops (zJd (Array.replicate ops.size false) pre) t=false:=fun t ht=>by
   cases hd:zBE ops (zJd (Array.replicate ops.size false) pre) t with
   |false=>rfl
   |true=>
    exfalso
    unfold zBE at hd
    obtain ⟨i,hi,hp⟩:=xY.1 hd
    simp only [xO,beq_iff_eq] at hp
    have h3:=ht i (by rw [<-zCY];exact hp.2)
    rw [hlt0 i (xQ.1 hi),h3] at hp
    exact absurd hp.1 (by decide)
  have hstay: ∀t,(∀j,yF ops j=some t->pre.contains j=true)->(upd G L t).p (a1.tmps.getD t undef) w.drew:=fun t ht=>by
   by_cases hp:zCx ops pre t=true
   ·exact h1 t hp
   ·have hp':zCx ops pre t=false:=by simpa using hp
    have hno: ∀j,yF ops j≠some t:=fun j hj=>by
     have h3:=ht j hj
     unfold zCx at hp'
     have:=bB.1 hp' j (xS.1 h3)
     rw [hj] at this
     simp at this
    rw [hkey t fun j _=>hno j]
    exact h2 t hp'
  refine zGD (k:=k) (z:=ops.size) (w:=w.drew) (fun _=>false) (fun i v W=> ∀o,ops[i]?=some o-> ∀d,o.dst=some d->(upd G L d).p v W) (fun W=>Below w0.heap.size w0 W/\Below w.drew.heap.size w.drew W) hear htl hap (by rw [hs1];exact hfr) (by simpa using hk) (by simpa using hcnt) (by rw [zG3];simp) hcl hto (fun W W' hC hb=>⟨hC.1.trans (hb.mono hC.1.size),hC.2.trans (hb.mono hC.2.size)⟩) (fun i v W W' hE hb o ho d hd=>(upd G L d).st _ _ _ (hE o ho d hd) hb) ⟨h.gr.trans (hdrew.mono h.gr.size),xP _ _⟩ ?spec ?fin
  case spec=>
   intro i hik hl o ho b W hf K hK
   have hip:pre.contains i=false:=by rw [<-hlt0 i (xM.1 ho).1];exact hl
   refine zAP ho (hget i o hik ho) (fun j g hj=> ?_) hf.at_.cls.1 (fun t ht=> ?_) (fun v W' hv hb=>hK v W' (fun o' ho' d hd=>by rw [ho] at ho';cases ho';exact hv d hd) hb (fun e=>by cases e))
   ·rw [hf.at_.size,hs1]
    obtain ⟨oj,hoj,hdj⟩:=jE hj
    exact jB hfr hoj hdj
   ·by_cases hex: ∃j,yF ops j=some t/\pre.contains j=false
    ·obtain ⟨j,hj,hjp⟩:=hex
     obtain ⟨oj,hoj,hdj⟩:=jE hj
     have h3:=xL.1 hrd i (xQ.2 hik)
     rw [hip,Bool.false_or,ho] at h3
     have h4:=xL.1 (xL.1 h3 t ht) j (xQ.2 (xM.1 hoj).1)
     rw [hj,hjp] at h4
     simp only [beq_self_eq_true,Bool.not_true,Bool.false_or] at h4
     obtain ⟨x,hx,he⟩:=Array.any_eq_true.1 h4
     simp only [xO,beq_iff_eq] at he
     exact hf.at_.vals j oj t ⟨by rw [hlt0 j (xM.1 hoj).1];exact hjp,_,Array.getElem_mem hx,he.1,he.2⟩ hoj hdj oj hoj t hdj
    ·have hall: ∀j,yF ops j=some t->pre.contains j=true:=fun j hj=>by
      cases hc:pre.contains j with
      |true=>rfl
      |false=>exact (hex ⟨j,hj,hc⟩).elim
     rw [hf.at_.keep t (hnd t hall)]
     exact (upd G L t).st _ _ _ (hstay t hall) hf.at_.cls.2
  case fin=>
   intro b W hf
   have hA:At w0 (zFe ops k (upd G L)) n ds b W:=⟨hf.at_.cls.1,by rw [hf.at_.size];exact hs1,by rw [hf.at_.defers,hd1];exact h.nd,fun t=>by
    unfold zFe
    cases hc:(List.range ops.size).any fun i=>decide (k<=i)&&(yF ops i==some t) with
    |true=>trivial
    | false=>
     show (upd G L t).p _ _
     by_cases hex: ∃j,yF ops j=some t/\pre.contains j=false
     ·obtain ⟨j,hj,hjp⟩:=hex
      obtain ⟨oj,hoj,hdj⟩:=jE hj
      have hlt:=(xM.1 hoj).1
      have h3:=bB.1 hc j (xQ.2 hlt)
      simp [hj] at h3
      exact hf.at_.vals j oj t ⟨by omega,by rw [hlt0 j hlt];exact hjp⟩ hoj hdj oj hoj t hdj
     ·have hall: ∀j,yF ops j=some t->pre.contains j=true:=fun j hj=>by
       cases hc:pre.contains j with
       |true=>rfl
       |false=>exact (hex ⟨j,hj,hc⟩).elim
      rw [hf.at_.keep t (hnd t hall)]
      exact (upd G L t).st _ _ _ (hstay t hall) hf.at_.cls.2⟩
   have h5:=zIL (Q:=Q) hpl hns hch' (ops.size - k) 0 b W oD (by simpa using hfin b W hA)
   simpa using h5
 rwa [show ops.size - pre.length+pre.length=ops.size from by omega] at hsz
theorem qH {S:Nat->Prop} {w0:WH} {K:List (Nat×KF)} {B:List Bx} {n:Nat} {ds:List Deferred} {a:Act} {w:WH} {id:Nat} (K0:List (Nat×KF)) (pre:List Nat) (k:Nat) (L:List (Nat×Rw)) (hmix:P.follows .mixedOrders=true) (h:StS S w0 (K0++K) B n ds a w)
  (hchk:(zCW ops pre k n (L.map (·.1))&&zBb ops (K.map (·.1)++B.map (·.t))&&zBk (L.map (·.1)))=true)
  (hobs:Obs F m P w ops (upd (zAc (K0++K) B) (zY L)) (ops.toList.take k))
  (hfin: ∀Q',(∀a w,Q .normal a w->Q' .normal a w)-> ∀a w,StS S w0 (zBl L++K) B n ds a w->(∀q,q∈zY L->q.2.p (a.tmps.getD q.1 undef) w)->zBx F m P ops Q' k a w):(Code.region id ops true).wpIn F m P Q a w:=by
 simp only [xO] at hchk
 have hkeys:(zY L).map (·.1)=L.map (·.1):=by simp [zY]
 have h0:=hchk.1.1
 unfold zCW at h0
 simp only [xO] at h0
 obtain ⟨⟨⟨⟨⟨⟨⟨⟨⟨⟨⟨⟨⟨⟨⟨hap,_⟩,_⟩,_⟩,_⟩,hks⟩,_⟩,_⟩,_⟩,_⟩,_⟩,_⟩,_⟩,_⟩,_⟩,_⟩:=h0
 exact zEX K0 k L h (fun G' hA hO hF=>zHb pre k (zY L) hmix (by rw [hkeys];exact hchk.1.1) hA hO hF) hap hks hchk.1.2 hchk.2 hobs (fun a w h hr=>hfin (jW Q) (fun a w h=>h) a w h hr)
theorem zE4 {S:Nat->Prop} {w0:WH} {K:List (Nat×KF)} {B:List Bx} {n:Nat} {ds:List Deferred} {a:Act} {w:WH} {id:Nat} (K0:List (Nat×KF)) (pre:List Nat) (k:Nat) (L:List (Nat×Rw)) (hmix:P.follows .mixedOrders=true) (h:StS S w0 (K0++K) B n ds a w)
  (hchk:(zCW ops pre k n (L.map (·.1))&&zBb ops (K.map (·.1)++B.map (·.t))&&zBk (L.map (·.1)))=true)
  (hobs:Obs F m P w ops (upd (zAc (K0++K) B) (zY L)) (ops.toList.take k))
  (hfin: ∀Q',(∀a w,Q .normal a w->Q' .normal a w)-> ∀a w,StS S w0 (zBl L++K) B n ds a w->zBx F m P ops Q' k a w):(Code.region id ops true).wpIn F m P Q a w:=
 qH K0 pre k L hmix h hchk hobs fun Q hq a w h _=>hfin Q hq a w h
theorem yC {S:Nat->Prop} {w0:WH} {K:List (Nat×KF)} {B:List Bx} {n:Nat} {ds:List Deferred} {a:Act} {w:WH} {id:Nat} (pre:List Nat) (k:Nat) (L:List (Nat×Rw)) (hmix:P.follows .mixedOrders=true) (h:StS S w0 K B n ds a w)
  (hchk:(zCW ops pre k n (L.map (·.1))&&zBb ops (K.map (·.1)++B.map (·.t))&&zBk (L.map (·.1)))=true)
  (hobs:Obs F m P w ops (upd (zAc K B) (zY L)) (ops.toList.take k))
  (hfin: ∀Q',(∀a w,Q .normal a w->Q' .normal a w)-> ∀a w,StS S w0 (zBl L++K) B n ds a w->zBx F m P ops Q' k a w):(Code.region id ops true).wpIn F m P Q a w:=
 zE4 [] pre k L hmix h hchk hobs hfin
theorem zJe {w0:WH} {G:Nat->SF} {n k:Nat} {a0:Act} {wA:WH} (hap:jU ops=true) (hfr:zA3 ops n=true) (hk:k<=ops.size)
  (hrd: ∀i o,i<k->ops[i]?=some o-> ∀t,t∈looks ops o-> ∀j,yF ops j=some t->j<i∨k<=j)
  (hst: ∀t,(∀j,j<k->yF ops j≠some t)->(G t).p (a0.tmps.getD t undef) wA)
  (hobs: ∀i o,i<k->ops[i]?=some o->qX F m P w0 ops G o)
  (hfin: ∀a w,Below w0.heap.size w0 w->a.tmps.size=n->a.defers=a0.defers->(∀t,(G t).p (a.tmps.getD t undef) w)->wpOpsIn F m P ops Q (List.range' k (ops.size - k)) a w):
  ∀(r i:Nat) (a:Act) (w:WH),i+r=k->Below wA.heap.size wA w->Below w0.heap.size w0 w->a.tmps.size=n->a.defers=a0.defers->
   (∀t,(∃j,j<i/\yF ops j=some t)->(G t).p (a.tmps.getD t undef) w)->(∀t,(∀j,j<i->yF ops j≠some t)->a.tmps.getD t undef=a0.tmps.getD t undef)->
   wpOpsIn F m P ops Q (List.range' i (ops.size - i)) a w
 | 0,i,a,w,hi,hA,h0,hs,hd,h1,h2=>by
  obtain rfl:i=k:=by omega
  refine hfin a w h0 hs hd fun t=> ?_
  by_cases ht: ∃j,j<i/\yF ops j=some t
  ·exact h1 t ht
  ·have hno: ∀j,j<i->yF ops j≠some t:=fun j hj he=>ht ⟨j,hj,he⟩
   rw [h2 t hno]
   exact (G t).st _ _ _ (hst t hno) hA
 | r+1,i,a,w,hi,hA,h0,hs,hd,h1,h2=>by
  have hik:i<k:=by omega
  have hlt:i<ops.size:=by omega
  rw [show ops.size - i=(ops.size - (i+1))+1 from by omega,bN,wpOpsIn_cons]
  have ho:ops[i]?=some ops[i]:=bP hlt
  refine zAP ho (hobs i _ hik ho) (fun j g hj=> ?_) h0 (fun t ht=> ?_) fun v W' hv hb=> ?_
  ·rw [hs]
   obtain ⟨oj,hoj,hdj⟩:=jE hj
   exact jB hfr hoj hdj
  ·by_cases hex: ∃j,j<i/\yF ops j=some t
   ·exact h1 t hex
   ·have hno: ∀j,j<i->yF ops j≠some t:=fun j hj he=>hex ⟨j,hj,he⟩
    have hno2: ∀j,j<k->yF ops j≠some t:=fun j hj he=>by
     rcases hrd i _ hik ho t ht j he with h3|h3
     ·exact hno j h3 he
     ·omega
    rw [h2 t hno]
    exact (G t).st _ _ _ (hst t hno2) hA
  ·refine zJe hap hfr hk hrd hst hobs hfin r (i+1) _ W' oD (hA.trans (hb.mono hA.size)) (h0.trans (hb.mono h0.size)) (by rw [zCO];exact hs) (by rw [zBz];exact hd) (fun t ⟨j,hj,ht⟩=> ?_) (fun t ht=> ?_)
   ·by_cases hji:j=i
    ·subst hji
     rw [jT ho] at ht
     have hdt:ops[j].dst=some t:=ht
     have h3:=hv t hdt
     rw [hdt,zAa (by rw [hs];exact jB hfr ho hdt)]
     exact h3
    ·rw [zEM]
     ·exact (G t).st _ _ _ (h1 t ⟨j,by omega,ht⟩) hb
     ·intro hdt
      obtain ⟨oj,hoj,hdj⟩:=jE ht
      exact zAu hap ho hoj (Ne.symm hji) hdt hdj
   ·rw [zEM]
    ·exact h2 t (fun j hj=>ht j oD)
    ·intro hdt
     exact ht i oD (by rw [jT ho];exact hdt)
def zGE (ops:Array Oper) (k n:Nat) (keys:List Nat):Bool:=
 jU ops&&zA3 ops n&&zAr ops&&decide (k<=ops.size)&&
 keys.all (fun t=>(List.range k).any fun i=>yF ops i==some t)&&
 (List.range k).all (fun i=>match ops[i]? with
  |none=>true
  |some o=>(looks ops o).all fun t=>(List.range ops.size).all fun j=> !(yF ops j==some t)||decide (j<i)||decide (k<=j))
def zFE (ops:Array Oper) (k:Nat) (ts:List Nat):Bool:=ts.all fun t=>(List.range k).all fun i=> !(yF ops i==some t)
theorem zA8 {S:Nat->Prop} {w0:WH} {K:List (Nat×KF)} {B:List Bx} {n:Nat} {ds:List Deferred} {a:Act} {w:WH} {id:Nat} (k:Nat) (L:List (Nat×Rw)) (h:StS S w0 K B n ds a w)
  (hchk:(zGE ops k n (L.map (·.1))&&zFE ops k (K.map (·.1)++B.map (·.t))&&zBk (L.map (·.1)))=true)
  (hobs:Obs F m P w ops (upd (zAc K B) (zY L)) (ops.toList.take k))
  (hfin: ∀a w,StS S w0 (zBl L++K) B n ds a w->(∀q,q∈zY L->q.2.p (a.tmps.getD q.1 undef) w)->zBx F m P ops Q k a w):(Code.region id ops false).wpIn F m P Q a w:=by
 simp only [xO] at hchk
 obtain ⟨⟨hchk,hun⟩,hnd⟩:=hchk
 unfold zGE at hchk
 simp only [xO] at hchk
 obtain ⟨⟨⟨⟨⟨hap,hfr⟩,hpl⟩,hk⟩,hkeys⟩,hrd⟩:=hchk
 have hk:=bG hk
 have hks:(zY L).map (·.1)=L.map (·.1):=by simp [zY]
 have hsame: ∀t,t∈K.map (·.1)++B.map (·.t)-> ∀i,i<k->yF ops i≠some t:=fun t ht i hi he=>by
  have h2:=xL.1 (xL.1 hun t ht) i (xQ.2 hi)
  rw [he] at h2
  simp at h2
 have hA:=h.at
 have hkn: ∀t,(∀j,j<k->yF ops j≠some t)->upd (zAc K B) (zY L) t=zAc K B t:=fun t ht=>by
  refine zAA ?_
  cases hc:((zY L).map (·.1)).contains t with
  |false=>rfl
  |true=>
   exfalso
   have hm:=xS.1 hc
   rw [hks] at hm
   obtain ⟨i,hi,he⟩:=xY.1 (xL.1 hkeys t hm)
   exact ht i (xQ.1 hi) (by simpa using he)
 refine wpIn_region ?_
 rw [List.range_eq_range']
 -- the table, the kept slots' values said
 let G1:Nat->SF:=fun t=>if t∈K.map (·.1)++B.map (·.t) then ⟨fun v W=>(upd (zAc K B) (zY L) t).p v W/\v=a.tmps.getD t undef,fun _ _ _ h hb=>⟨(upd (zAc K B) (zY L) t).st _ _ _ h.1 hb,h.2⟩⟩ else upd (zAc K B) (zY L) t
 have hle: ∀t v W,(G1 t).p v W->(upd (zAc K B) (zY L) t).p v W:=fun t v W hh=>by
  by_cases ht:t∈K.map (·.1)++B.map (·.t)
  ·simp only [G1,if_pos ht] at hh
   exact hh.1
  ·simp only [G1,if_neg ht] at hh
   exact hh
 have hge: ∀t,(∃i,i<k/\yF ops i=some t)->G1 t=upd (zAc K B) (zY L) t:=fun t ⟨i,hi,he⟩=>by
  simp only [G1]
  rw [if_neg fun ht=>hsame t ht i hi he]
 have hobs': ∀i o,i<k->ops[i]?=some o->qX F m P w ops G1 o:=fun i o hi ho=>by
  have hg:=hobs.get i o (by rw [bQ hi];simpa using ho)
  have hop:zNy F m P w (upd (zAc K B) (zY L)) o->zNy F m P w G1 o:=fun h1 b W K' Q' hb hr hK'=>
   h1 b W K' Q' hb (fun t ht=>hle t _ _ (hr t ht)) fun v W' hv hb'=>hK' v W' (fun d hd=>by rw [hge d ⟨i,hi,by rw [jT ho];exact hd⟩];exact hv d hd) hb'
  unfold qX at hg ⊢
  cases hgd:o.guard with
  |none=>rw [hgd] at hg;exact hop hg
  |some q=>
   rw [hgd] at hg
   obtain ⟨g,bv,h1,h2,h3,h4⟩:=hg
   exact ⟨g,bv,h1,fun v W hh=>h2 v W (hle g v W hh),fun e=>hop (h3 e),fun e=>⟨fun d hd W=>by rw [hge d ⟨i,hi,by rw [jT ho];exact hd⟩];exact (h4 e).1 d hd W,(h4 e).2⟩⟩
 refine zJe (G:=G1) (k:=k) (n:=n) (a0:=a) (wA:=w) (w0:=w) hap hfr hk (fun i o hi ho t ht j hj=> ?_) (fun t ht=> ?_) hobs' (fun a' w' hb hs hd hh=> ?_) k 0 a w oD (xP _ _) (xP _ _) h.size rfl (fun t ⟨j,hj,_⟩=>absurd hj oD) (fun t _=>rfl)
 ·have h1:=xL.1 hrd i (xQ.2 hi)
  rw [ho] at h1
  obtain ⟨oj,hoj,_⟩:=jE hj
  have h2:=xL.1 (xL.1 h1 t ht) j (xQ.2 (xM.1 hoj).1)
  rw [hj] at h2
  simpa using h2
 ·have h1:=hA.sl t
  rw [<-hkn t ht] at h1
  by_cases hm:t∈K.map (·.1)++B.map (·.t)
  ·simp only [G1,if_pos hm]
   exact ⟨h1,by first|rfl|trivial⟩
  ·simp only [G1,if_neg hm]
   exact h1
 ·have hslot: ∀t,t∈K.map (·.1)++B.map (·.t)->a'.tmps.getD t undef=a.tmps.getD t undef:=fun t ht=>by
   have h1:=hh t
   simp only [G1,if_pos ht] at h1
   exact h1.2
  have hrow: ∀q,q∈zY L->q.2.p (a'.tmps.getD q.1 undef) w':=fun q hm2=>by
   have h1:=hle q.1 _ _ (hh q.1)
   rwa [zC6 (q:=q) (by rw [hks];exact hnd) hm2] at h1
  refine hfin a' w' ⟨h.gr.trans hb,hs,by rw [hd];exact h.nd,fun q hq=> ?_,h.bx.keep hb (yN hb) B fun x hx=>hslot _ (xX _ (xN.2 ⟨x,hx,rfl⟩)),zA9 h.mks hb,h.so.imp (fun hu q hq=>(by
   rcases bC.1 hq with hq|hq
   ·obtain ⟨f,e,_⟩:=zAT hq;exact ⟨f,e⟩
   ·exact hu q hq)) (fun x=>x)⟩ hrow
  rcases bC.1 hq with hq|hq
  ·obtain ⟨f,hqf,hm⟩:=zAT hq
   have hm2:((q.1,f.tS):Nat×SF)∈zY L:=xN.2 ⟨_,hm,rfl⟩
   have h1:=hle q.1 _ _ (hh q.1)
   rw [zC6 (q:=(q.1,f.tS)) (by rw [hks];exact hnd) hm2] at h1
   rw [hqf]
   exact h1
  ·rw [hslot q.1 (bD _ (xN.2 ⟨q,hq,rfl⟩))]
   exact KF.us (h.sl q hq) (yN hb)
theorem zR {S:Nat->Prop} {w0:WH} {K:List (Nat×KF)} {B:List Bx} {n:Nat} {ds:List Deferred} {a:Act} {w:WH} {id:Nat} (k:Nat) (L:List (Nat×Rw)) (h:StS S w0 K B n ds a w)
  (hchk:(zGE ops k n (L.map (·.1))&&zFE ops k (K.map (·.1)++B.map (·.t))&&zBk (L.map (·.1)))=true)
  (hobs:Obs F m P w ops (upd (zAc K B) (zY L)) (ops.toList.take k))
  (hfin: ∀a w,StS S w0 (zBl L++K) B n ds a w->zBx F m P ops Q k a w):(Code.region id ops false).wpIn F m P Q a w:=
 zA8 k L h hchk hobs fun a w h _=>hfin a w h
end
end Go.Proofs.Wd
