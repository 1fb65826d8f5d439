/- Natural numbers as values, and what prod and the references answer of  and what it needs. -/
import Derived.Test.YthjkmdblifmkoaaGreatDoorMCQ13
import Derived.Test.YthjkmdblifmkoaaGreatDoorMCQ7
import Derived.Test.YthjkmdblifmkoaaGreatDoorMCQ17
import Derived.Test.YthjkmdblifmkoaaGreatDoorMCQ6
import Derived.Test.YthjkmdblifmkoaaGreatDoorMCQ9
import Derived.Test.YthjkmdblifmkoaaGreatDoorMCQ3
import Derived.Test.YthjkmdblifmkoaaGreatDoorMCQ1
theorem kG {P:Prop} (h:P:=by kernel_rfl):P:=h
theorem oN {P:Prop} (h:P:=by omega):P:=h
theorem fK {P:Prop} (h:P:=by simp):P:=h
abbrev pK:=@List.all_eq_true
abbrev pL:=@List.mem_range
abbrev pM:=@Go.getD_set_ne
abbrev pN:=@Bool.and_eq_true
abbrev pP:=@List.mem_map
abbrev pQ:=@Array.getElem?_eq_some_iff
abbrev pR:=@Go.RowKit.Below.refl
abbrev pS:=@Array.getD_eq_getD_getElem?
abbrev pT:=@Go.World.putObj_heap_other
abbrev pU:=@List.any_eq_true
abbrev pV:=@Nat.le_trans
abbrev pW:=@List.contains_iff_mem
abbrev pX:=@Nat.lt_or_ge
abbrev pY:=@List.mem_cons
abbrev pZ:=@Array.getElem?_eq_none
abbrev rA:=@Go.Oper.semAt_eq
abbrev rB:=@beq_iff_eq
abbrev rC:=@Nat.le_refl
abbrev rD:=@Array.getElem?_eq_getElem
abbrev rE:=@Go.mem_ready
abbrev rF:=@List.map_cons
abbrev rG:=@congrArg
abbrev rH:=@List.getElem?_eq_some_iff
abbrev rI:=@List.mem_append
abbrev rJ:=@Go.World.cell?_of_block
abbrev rK:=@Nat.lt_of_lt_of_le
abbrev rL:=@Nat.eq_of_beq_eq_true
abbrev rM:=@List.any_eq_false
abbrev rN:=@Nat.add_mul
abbrev rO:=@List.length_append
abbrev rP:=@Bool.not_eq_true'
abbrev rQ:=@Go.Addr.add_lit
abbrev rR:=@decide_eq_true_eq
abbrev rS:=@Go.Sem.run_bind
abbrev rT:=@Go.Code.wpIn_mono
abbrev rU:=@List.mem_append_right
abbrev rV:=@Prod.mk.injEq
abbrev rW:=@List.mem_cons_self
abbrev rX:=@List.mem_cons_of_mem
abbrev rY:=@Go.run_underlying
abbrev rZ:=@Classical.choose_spec
abbrev sA:=@Classical.not_forall
abbrev sB:=@Array.getElem?_replicate
abbrev sC:=@Nat.mul_le_mul_right
abbrev sD:=@List.getElem?_eq_getElem
abbrev sE:=@List.length_drop
abbrev sF:=@List.take_of_length_le
abbrev sG:=@Option.some.injEq
abbrev sH:=@List.mem_of_mem_take
abbrev sI:=@List.mem_append_left
abbrev sJ:=@Go.World.block_lt_of_cell?
abbrev sK:=@Go.World.putObj_size
abbrev sL:=@List.foldl_cons
abbrev sM:=@List.nodup_cons
abbrev sN:=@Nat.lt_irrefl
abbrev sO:=@Array.getElem_mem
abbrev sP:=@of_decide_eq_true
abbrev sQ:=@Bool.or_eq_true
abbrev sR:=@List.all_append
abbrev sS:=@List.nil_append
abbrev sT:=@List.length_take
abbrev sU:=@Classical.byContradiction
abbrev sV:=@List.getElem?_take_of_lt
abbrev sW:=@Array.count_replicate_self
abbrev sX:=@Array.getElem?_append_left
abbrev sY:=@List.getElem?_append_left
abbrev sZ:=@List.getElem?_append_right
abbrev tA:=@List.take_append_of_le_length
abbrev tB:=@List.getD_eq_getElem?_getD
abbrev Wb:=Go.World
abbrev Wc:=Go.Value
abbrev We:=Go.TypeId
abbrev Wf:=Option
abbrev Wg:=Go.Operand
abbrev Wh:=Go.Program
namespace Go.Proofs.Wd
open Tryz
open Go.RowKit Lb
def LV (W:Wb) (m:Nat) (v:Wc) (x:Nat):Prop:= ∃A n c l,v= .slice A n c/\Rd W A n c l/\Lt l/\n<=m/\val l=x
theorem LV.below {W W':Wb} {m:Nat} {v:Wc} {x:Nat} (h:LV W m v x) (hb:Below W.heap.size W W'):LV W' m v x:=by
 obtain ⟨A,n,c,l,rfl,h1,h2⟩:=h
 exact ⟨A,n,c,l,rfl,h1.below hb,h2⟩
theorem LV.mono {W:Wb} {m m':Nat} {v:Wc} {x:Nat} (h:LV W m v x) (hm:m<=m'):LV W m' v x:=by
 obtain ⟨A,n,c,l,rfl,h1,h2,h3,h4⟩:=h
 exact ⟨A,n,c,l,rfl,h1,h2,by omega,h4⟩
theorem LV.bound {W:Wb} {m:Nat} {v:Wc} {x:Nat} (h:LV W m v x):x<BB^m:=by
 obtain ⟨A,n,c,l,rfl,h1,h2,h3,rfl⟩:=h
 exact rK (qS h2) (Nat.pow_le_pow_right y8 (by rw [h1.len];exact h3))
theorem qH.lv {W:Wb} {v:Wc} {x m:Nat} (h:qH W v x) (hx:x<BB^m):LV W m v x:=by
 obtain ⟨A,n,c,l,rfl,h1,h2⟩:=h
 exact ⟨A,n,c,l,rfl,h2,h1.lt,by rw [<-h2.len];exact h1.len hx,h1.val⟩
def zMO (w:Wb) (x:Nat):Ending->Wb->Prop:=fun e w'=> ∃v,e= .returned v/\qH w' v x/\Below w.heap.size w w'
theorem jL.v {w:Wb} {x:Nat} {e:Ending} {w':Wb} (h:jL w x e w'):zMO w x e w':=by
 obtain ⟨A,n,c,l,rfl,h1,h2,h3⟩:=h
 exact ⟨_,rfl,⟨A,n,c,l,rfl,h1,h2⟩,h3⟩
theorem zQB {W:Wb} {m:Nat} {v v':Wc} {a b:Nat} (h:LV W m v a) (h':LV W m v' b) (hm:m<=40000):Calls prog 96 #[v,v'] W (zMO W (a*b)):=by
 obtain ⟨A,n,c,l,rfl,h1,h2,h3,rfl⟩:=h
 obtain ⟨A',n',c',l',rfl,h1',h2',h3',rfl⟩:=h'
 exact (zLI A n c l A' n' c' l' W h1 h1' h2 h2' oN oN).mono fun _ _=>jL.v
def zUA (w:Wb) (x y:Nat):Ending->Wb->Prop:=fun e w'=> ∃v v',e= .returned (.tuple #[v,v'])/\qH w' v x/\qH w' v' y/\Below w.heap.size w w'
theorem LV.open {W:Wb} {m:Nat} {v:Wc} {x:Nat} (h:LV W m v x): ∃A n c,v= .slice A n c/\n<=m/\n<=c/\c<=9223372036854775807/\LV W m (.slice A n c) x:=by
 obtain ⟨A,n,c,l,rfl,h1,h2,h3,h4⟩:=h
 exact ⟨A,n,c,rfl,h3,h1.le,h1.cap,⟨A,n,c,l,rfl,h1,h2,h3,h4⟩⟩
def zUB (w:Wb) (a b:Nat):Ending->Wb->Prop:=fun e w'=> ∃v v',e= .returned (.tuple #[v,v', .int .i64 0])/\qH w' v (a / b)/\qH w' v' (a % b)/\Below w.heap.size w w'
theorem zRL {W:Wb} {m:Nat} {v v':Wc} {a b:Nat} (h:LV W m v a) (h':LV W m v' b) (hm:m<=10000) (h0:0<b):Calls prog 79 #[v,v'] W (zUB W a b):=by
 obtain ⟨A,n,c,l,rfl,h1,h2,h3,rfl⟩:=h
 obtain ⟨A',n',c',l',rfl,h1',h2',h3',rfl⟩:=h'
 refine (zNx A n c l A' n' c' l' W h1 h1' h2 h2' oN oN h0).mono ?_
 rintro e w' ⟨A1,n1,c1,l1,A2,n2,c2,l2,rfl,i1,r1,i2,r2,hb⟩
 exact ⟨_,_,rfl,⟨A1,n1,c1,l1,rfl,i1,r1⟩,⟨A2,n2,c2,l2,rfl,i2,r2⟩,hb⟩
theorem zRM {W:Wb} {m:Nat} {v v':Wc} {a b:Nat} (h:LV W m v a) (h':LV W m v' b):Calls prog 105 #[v,v'] W fun e w'=>e= .returned (.int .i64 (zAB a b))/\W=w':=by
 obtain ⟨A,n,c,l,rfl,h1,h2,h3,rfl⟩:=h
 obtain ⟨A',n',c',l',rfl,h1',h2',h3',rfl⟩:=h'
 exact zEf A n c l A' n' c' l' W h1 h1' h2 h2'
theorem zQa {W:Wb} {m:Nat} {A:Wf Addr} {n c:Nat} {A':Wf Addr} {n' c':Nat} {x y:Nat} (h:LV W m (.slice A n c) x) (h':LV W m (.slice A' n' c') y) (hm:m<=10000) (t:We):
  Calls prog 102 #[.slice (some ⟨W.heap.size,0,none⟩) 2 2] (W.alloc (.cells #[.slice A n c, .slice A' n' c'] t)) (zMO (W.alloc (.cells #[.slice A n c, .slice A' n' c'] t)) (x+y)):=by
 obtain ⟨A1,n1,c1,l,e1,h1,h2,h3,rfl⟩:=h
 obtain ⟨A2,n2,c2,l',e2,h1',h2',h3',rfl⟩:=h'
 cases e1
 cases e2
 have:=zEg _ 2 2 _ _ (Rds.two h1 h2 oN h1' h2' oN t) (by decide)
 simp only [rF,List.map_nil,List.sum_cons,List.sum_nil,Nat.add_zero] at this
 exact this.mono fun _ _=>jL.v
def qW (x:Nat):UF:= .mk' (fun v w=>qH w v x) fun _ _ _ ⟨A,n,c,l,e,h1,h2⟩ k=>⟨A,n,c,l,e,h1,h2.keepU k⟩
def fLV (m x:Nat):UF:= .mk' (fun v w=>LV w m v x) fun _ _ _ ⟨A,n,c,l,e,h1,h2⟩ k=>⟨A,n,c,l,e,h1.keepU k,h2⟩
def fNV (k:Int):UF:= .mk' (fun v w=>NV w v k) fun _ _ _ ⟨A,n,c,l,e,h1,h2⟩ k=>⟨A,n,c,l,e,h1,h2.keepU k⟩
def fUV (m:Nat) (k:Int):UF:= .mk' (fun v w=>UV w m v k) fun _ _ _ ⟨s,A,n,c,l,e,h1,h2⟩ k=>⟨s,A,n,c,l,e,h1.keepU k,h2⟩
def fB (b:Bool):UF:= .eq (.bool b)
def fI (z:Int):UF:= .eq (.int .i64 z)
theorem zS9 {F:Fence} {m:Nat} {P:Wh} {w0:Wb} {ops:Array Oper} {G:Nat->SF} {o:Oper} {l:List Oper} (h:qP F m P w0 ops G o) (k:Obs F m P w0 ops G l):Obs F m P w0 ops G (o::l):=⟨h,k⟩
theorem oc {F:Fence} {m:Nat} {P:Wh} {w0:Wb} {ops:Array Oper} {G:Nat->SF} {o:Oper} {l:List Oper} (h:qP F m P w0 ops G o) (k:Obs F m P w0 ops G l):Obs F m P w0 ops G (o::l):=⟨h,k⟩
theorem lr {n:Nat}:n<=n:=rC n
theorem arf {α:Sort _} {a:α} {p:Prop}:a≠a->p:=fun e=>absurd rfl e
abbrev zP6:List Wc:= [.bool false, .slice none 0 0, .slice none 0 0, .bool false, .slice none 0 0, .slice none 0 0]
abbrev zR3:List Wc:= [.bool false, .slice none 0 0, .slice none 0 0]
theorem fmz {α:Type} {p:α->Prop} {a:α} {l:List α} (h:p a/\ ∀x,x∈l->p x): ∀x,x∈a::l->p x:=List.forall_mem_cons.2 h
theorem fnz {α:Type} {p:α->Prop}: ∀x,x∈([]:List α)->p x:=List.forall_mem_nil p
theorem iiz {α β:Type} {p:α->β->Prop}: ∀a b,p a b->p a b:=fun _ _ h=>h
theorem mz1 {α:Type} {a b0:α} {l:List α}:a∈b0::a::l:= .tail _ (.head _)
theorem mz2 {α:Type} {a b0 b1:α} {l:List α}:a∈b0::b1::a::l:= .tail _ (.tail _ (.head _))
theorem mz3 {α:Type} {a b0 b1 b2:α} {l:List α}:a∈b0::b1::b2::a::l:= .tail _ (.tail _ (.tail _ (.head _)))
theorem mz4 {α:Type} {a b0 b1 b2 b3:α} {l:List α}:a∈b0::b1::b2::b3::a::l:= .tail _ (.tail _ (.tail _ (.tail _ (.head _))))
theorem mz5 {α:Type} {a b0 b1 b2 b3 b4:α} {l:List α}:a∈b0::b1::b2::b3::b4::a::l:= .tail _ (.tail _ (.tail _ (.tail _ (.tail _ (.head _)))))
theorem mz6 {α:Type} {a b0 b1 b2 b3 b4 b5:α} {l:List α}:a∈b0::b1::b2::b3::b4::b5::a::l:= .tail _ (.tail _ (.tail _ (.tail _ (.tail _ (.tail _ (.head _))))))
theorem mz7 {α:Type} {a b0 b1 b2 b3 b4 b5 b6:α} {l:List α}:a∈b0::b1::b2::b3::b4::b5::b6::a::l:= .tail _ (.tail _ (.tail _ (.tail _ (.tail _ (.tail _ (.tail _ (.head _)))))))
theorem mz8 {α:Type} {a b0 b1 b2 b3 b4 b5 b6 b7:α} {l:List α}:a∈b0::b1::b2::b3::b4::b5::b6::b7::a::l:= .tail _ (.tail _ (.tail _ (.tail _ (.tail _ (.tail _ (.tail _ (.tail _ (.head _))))))))
theorem mz9 {α:Type} {a b0 b1 b2 b3 b4 b5 b6 b7 b8:α} {l:List α}:a∈b0::b1::b2::b3::b4::b5::b6::b7::b8::a::l:= .tail _ (.tail _ (.tail _ (.tail _ (.tail _ (.tail _ (.tail _ (.tail _ (.tail _ (.head _)))))))))
theorem zD8 {α:Type} {a b0 b1 b2 b3 b4 b5 b6 b7 b8 b9:α} {l:List α}:a∈b0::b1::b2::b3::b4::b5::b6::b7::b8::b9::a::l:= .tail _ (.tail _ (.tail _ (.tail _ (.tail _ (.tail _ (.tail _ (.tail _ (.tail _ (.tail _ (.head _))))))))))
theorem zH8 {α:Type} {a b0 b1 b2 b3 b4 b5 b6 b7 b8 b9 b10:α} {l:List α}:a∈b0::b1::b2::b3::b4::b5::b6::b7::b8::b9::b10::a::l:= .tail _ (.tail _ (.tail _ (.tail _ (.tail _ (.tail _ (.tail _ (.tail _ (.tail _ (.tail _ (.tail _ (.head _)))))))))))
theorem zKd {α:Type} {a b0 b1 b2 b3 b4 b5 b6 b7 b8 b9 b10 b11:α} {l:List α}:a∈b0::b1::b2::b3::b4::b5::b6::b7::b8::b9::b10::b11::a::l:= .tail _ (.tail _ (.tail _ (.tail _ (.tail _ (.tail _ (.tail _ (.tail _ (.tail _ (.tail _ (.tail _ (.tail _ (.head _))))))))))))
theorem zMT {α:Type} {a b0 b1 b2 b3 b4 b5 b6 b7 b8 b9 b10 b11 b12:α} {l:List α}:a∈b0::b1::b2::b3::b4::b5::b6::b7::b8::b9::b10::b11::b12::a::l:= .tail _ (.tail _ (.tail _ (.tail _ (.tail _ (.tail _ (.tail _ (.tail _ (.tail _ (.tail _ (.tail _ (.tail _ (.tail _ (.head _)))))))))))))
theorem zSc {α:Type} {a b0 b1 b2 b3 b4 b5 b6 b7 b8 b9 b10 b11 b12 b13:α} {l:List α}:a∈b0::b1::b2::b3::b4::b5::b6::b7::b8::b9::b10::b11::b12::b13::a::l:= .tail _ (.tail _ (.tail _ (.tail _ (.tail _ (.tail _ (.tail _ (.tail _ (.tail _ (.tail _ (.tail _ (.tail _ (.tail _ (.tail _ (.head _))))))))))))))
theorem zCQ {α:Type} {a b0 b1 b2 b3 b4 b5 b6 b7 b8 b9 b10 b11 b12 b13 b14:α} {l:List α}:a∈b0::b1::b2::b3::b4::b5::b6::b7::b8::b9::b10::b11::b12::b13::b14::a::l:= .tail _ (.tail _ (.tail _ (.tail _ (.tail _ (.tail _ (.tail _ (.tail _ (.tail _ (.tail _ (.tail _ (.tail _ (.tail _ (.tail _ (.tail _ (.head _)))))))))))))))
theorem zD {F:Fence} {m:Nat} {P:Wh} {w0:Wb} {ops:Array Oper} {G:Nat->SF}:Obs F m P w0 ops G []:=trivial
def CF.at (C:CF) (k:Nat):CF:=⟨fun cs w=> ∃ds,C.p ds w/\cs=ds.drop k,fun _ _ _ ⟨ds,h1,h2⟩ hb=>⟨ds,C.st _ _ _ h1 hb,h2⟩⟩
abbrev Rw.X (f:UF) (n:Nat):Rw:=.s (wB ((CU.agg f).cf.at n))
abbrev Rw.Y (f:UF):Rw:=.s (wB (cg f))
section
variable {F:Fence} {m:Nat} {P:Wh} {w0:Wb} {ops:Array Oper} {G:Nat->SF} {d:Tmp} {ty:We} {pos:String} {aft:Array Edge}
theorem zO {x:Wg} {s:We} {f:Nat} {C:CF} (k:Nat) (hk:zBM P s f=some k) (hx: ∀v W,(fct G x).p v W->(wB C).p v W:=by first|exact fun _ _ h=>h|exact fun _ _ h=>h.2) (hd: ∀v W,(wB (C.at k)).p v W->(G d).p v W:=by exact fun _ _ h=>h):qP F m P w0 ops G ⟨some d, .fieldAddr s x f,ty,pos,aft,none⟩:=
 zI3 (C':=C.at k) k hk hx (fun cs _ h=>⟨cs,h,rfl⟩) hd
theorem yZ {x:Wg} {s:We} {f:Nat} {C:CF} (i k:Nat) (hk:zBM P s f=some k) (hx: ∀v W,(fct G x).p v W->(wB (C.at i)).p v W:=by exact fun _ _ h=>h) (hd: ∀v W,(wB (C.at (i+k))).p v W->(G d).p v W:=by exact fun _ _ h=>h):qP F m P w0 ops G ⟨some d, .fieldAddr s x f,ty,pos,aft,none⟩:=
 zI3 (C':=C.at (i+k)) k hk hx (fun cs _ ⟨ds,h1,h2⟩=>⟨ds,h1,by rw [h2,List.drop_drop]⟩) hd
theorem jD {x:Wg} {t:We} {C:CF} {k:Nat} (hk:zB5 P t=true) (hx: ∀v W,(fct G x).p v W->(wB (C.at k)).p v W:=by exact fun _ _ h=>h) (h: ∀cs W,C.p cs W-> ∃u,cs[k]?=some u/\(G d).p u W):qP F m P w0 ops G ⟨some d, .load t x,ty,pos,aft,none⟩:=
 qY hk hx fun cs W ⟨ds,h1,h2⟩=>let ⟨u,h3,h4⟩:=h ds W h1;⟨u,by rw [h2,List.getElem?_drop];exact h3,h4⟩
theorem yH {x:Wg} {t:We} {C:CF} {k:Nat} (z:Nat) (hk:zAb P t=some z) (hx: ∀v W,(fct G x).p v W->(wB (C.at k)).p v W:=by exact fun _ _ h=>h) (h: ∀cs W,C.p cs W->k+z<=cs.length/\(G d).p (.agg ((cs.drop k).take z).toArray) W):qP F m P w0 ops G ⟨some d, .load t x,ty,pos,aft,none⟩:=
 qL z hk hx fun cs W ⟨ds,h1,h2⟩=>let ⟨h3,h4⟩:=h ds W h1;⟨by rw [h2,sE];omega,by rw [h2];exact h4⟩
theorem zI {x:Wg} {t:We} {f:UF} (z:Nat) (hk:zAb P t=some z) (hx: ∀v W,(fct G x).p v W->(wB (cg f)).p v W:=by first|exact fun _ _ h=>h|exact fun _ _ h=>h.2) (hz: ∀cs:List Wc, ∀W,f.p (.agg cs.toArray) W->cs.length=z) (hd: ∀v W,f.p v W->(G d).p v W:=by exact fun _ _ h=>h):qP F m P w0 ops G ⟨some d, .load t x,ty,pos,aft,none⟩:=
 qL z hk hx fun cs W h=>⟨by rw [hz cs W h];exact rC _,by
  have h1:=hz cs W h
  rw [sF oN]
  exact hd _ _ h⟩
theorem zBd {x:Wg} {a:Addr} (hx: ∀v W,(fct G x).p v W->v= .pointer (some a)) (hd: ∀W,(G d).p (.pointer (some a)) W:=by exact fun _=>rfl):qP F m P w0 ops G ⟨some d, .nilCheck x,ty,pos,aft,none⟩:=
 qU (fun _ e=>by cases e) (fun _ e=>by cases e) fun b W hb hh=>by
  have e:=hx _ _ (hh x (by simp [Op.operands]))
  exact ⟨.pointer (some a),by simp [execOp,e],hd W⟩
theorem jM {x:Wg} {s:We} {f:Nat} {b o:Nat} (k:Nat) (hk:zBM P s f=some k) (hx: ∀v W,(fct G x).p v W->v= pO b o) (hd: ∀W,(G d).p (.pointer (some ⟨b,o+k,none⟩)) W:=by exact fun _=>rfl):qP F m P w0 ops G ⟨some d, .fieldAddr s x f,ty,pos,aft,none⟩:=
 qU (fun _ e=>by cases e) (fun _ e=>by cases e) fun c W hb hh=>by
  have e:=hx _ _ (hh x (by simp [Op.operands]))
  refine ⟨.pointer (some ⟨b,o+k,none⟩), ?_,hd W⟩
  unfold zBM at hk
  split at hk<;>try cases hk
  rename_i fs hu
  split at hk<;>try cases hk
  rename_i f' hf
  split at hk<;>try cases hk
  rename_i i hi
  split at hk<;>try cases hk
  rename_i hz
  simp [execOp,Instr.fieldAt,rY hu,hf,e,Instr.sureAddr,fieldPlace,sizeOf,typeInfo,hi,hz,rQ]
theorem wI {W:Wb} {f g:SF} (h: ∀v W,f.p v W->g.p v W): ∀e W',Ret W f e W'->Ret W g e W':=fun _ _ ⟨v,e,h1,h2⟩=>⟨v,e,h _ _ h1,h2⟩
end
theorem jJ {xs ys:Array Wc} (h:Value.agg xs=Value.agg ys):xs=ys:=by injection h
theorem zM3 {cs:List Wc} {W:Wb} {m:Nat} {k:Int} (h:(fUV m k).p (.agg cs.toArray) W): ∃s A n c,cs= [.bool s, .slice A n c]/\ ∃l,Rd W A n c l/\Lt l/\n<=m/\iv s l=k:=by
 obtain ⟨s,A,n,c,l,e,h1⟩:=h
 have:=rG Array.toList (jJ e)
 exact ⟨s,A,n,c,by simpa using this,l,h1⟩
theorem zGa {cs:List Wc} {W:Wb} {k:Int} (h:(fNV k).p (.agg cs.toArray) W): ∃A n c,cs= [.bool (decide (k<0)), .slice A n c]/\ ∃l,Is l k.natAbs/\Rd W A n c l:=by
 obtain ⟨A,n,c,l,e,h1⟩:=h
 have:=rG Array.toList (jJ e)
 exact ⟨A,n,c,by simpa using this,l,h1⟩
theorem zIv (m:Nat) (k:Int): ∀cs:List Wc, ∀W,(fUV m k).p (.agg cs.toArray) W->cs.length=2:=fun cs W h=>by
 obtain ⟨s,A,n,c,rfl,_⟩:=zM3 h
 rfl
theorem zPf (k:Int): ∀cs:List Wc, ∀W,(fNV k).p (.agg cs.toArray) W->cs.length=2:=fun cs W h=>by
 obtain ⟨A,n,c,rfl,_⟩:=zGa h
 rfl
theorem zG8 {k:Int} (cs:List Wc) (W:Wb) (h:(CU.agg (fNV k)).p cs W): ∃u,cs[1]?=some u/\qH W u k.natAbs:=by
 obtain ⟨A,n,c,rfl,l,h1,h2⟩:=zGa h
 exact ⟨_,rfl,A,n,c,l,rfl,h1,h2⟩
theorem zLF {k:Int} (cs:List Wc) (W:Wb) (h:(CU.agg (fNV k)).p cs W): ∃u,cs[0]?=some u/\u= .bool (decide (k<0)):=by
 obtain ⟨A,n,c,rfl,l,h1,h2⟩:=zGa h
 exact ⟨_,rfl,rfl⟩
theorem zIw {m:Nat} {k:Int} {v:Wc} {W:Wb} (h:(fUV m k).p v W):(CU.agg (fUV m k)).p v.cells.toList W/\v.cells.toList.all zY=true:=by
 obtain ⟨s,A,n,c,l,rfl,h1⟩:=h
 exact ⟨⟨s,A,n,c,l,rfl,h1⟩,rfl⟩
theorem zF8 {k:Int} (v:Wc) (W:Wb) (h:(fNV k).p v W): ∃vs:List Wc,v= .agg vs.toArray/\vs.length=2/\(∀u,u∈vs->u.oneCell'=true)/\vs.all zY=true/\(CU.agg (fNV k)).p vs W:=by
 obtain ⟨A,n,c,l,rfl,h1⟩:=h
 exact ⟨[_,_],rfl,rfl,fun u hu=>by simp at hu;rcases hu with rfl|rfl<;>rfl,rfl,A,n,c,l,rfl,h1⟩
theorem NV.nat {W:Wb} {v:Wc} {k:Int} (h:NV W v k): ∃A n c,v= .agg #[.bool (decide (k<0)), .slice A n c]/\qH W (.slice A n c) k.natAbs:=by
 obtain ⟨A,n,c,l,rfl,h1,h2⟩:=h
 exact ⟨A,n,c,rfl,A,n,c,l,rfl,h1,h2⟩
theorem zVl (s:Bool) (A:Wf Addr) (n c:Nat):prog.built 27 [(0, .bool s),(1, .slice A n c)]=some #[.bool s, .slice A n c]:=by kernel_rfl
theorem zOB {s:Bool} {u v:Wc} {W:Wb} {m x:Nat} (hu:u= .bool s) (hv:qH W v x) (hx:x<BB^m): ∃cells,prog.built 27 [(0,u),(1,v)]=some cells/\UV W m (.agg cells) (if s then -(x:Int) else x):=by
 obtain ⟨A,n,c,l,rfl,h1,h2⟩:=hv
 subst hu
 refine ⟨_,zVl s A n c,s,A,n,c,l,rfl,h2,h1.lt,by rw [<-h2.len];exact h1.len hx, ?_⟩
 unfold iv
 rw [h1.val]
theorem zRJ (s s':Bool) (A A':Wf Addr) (n n' c c':Nat):yD prog 88 2 [(0, .agg #[.bool s, .slice A n c]),(1, .agg #[.bool s', .slice A' n' c'])]=some (27,#[.bool s, .slice A n c, .bool s', .slice A' n' c']):=by kernel_rfl
theorem zAW {u v:Wc} {W:Wb} {m:Nat} {k k':Int} (hu:UV W m u k) (hv:UV W m v k'): ∃e cs,yD prog 88 2 [(0,u),(1,v)]=some (e,cs)/\ISV (W.alloc (.cells cs e)) m (.slice (some ⟨W.heap.size,0,none⟩) 2 2) [k,k']:=by
 obtain ⟨s,A,n,c,l,rfl,h1,h2,h3,rfl⟩:=hu
 obtain ⟨s',A',n',c',l',rfl,h1',h2',h3',rfl⟩:=hv
 exact ⟨_,_,zRJ s s' A A' n n' c c',ISV.two ⟨s,A,n,c,l,rfl,h1,h2,h3,rfl⟩ ⟨s',A',n',c',l',rfl,h1',h2',h3',rfl⟩ _⟩
def zJh (m:Nat) (ks:List Int):SF:=⟨fun v W=>ISV W m v ks,fun _ _ _ h hb=>h.below hb⟩
def zPl (x:Nat):SF:=⟨fun v _=> ∃n:Nat,v= .int .i64 n/\(x=0↔n=0),fun _ _ _ h _=>h⟩
section
variable {F:Fence} {m:Nat} {P:Wh} {w0:Wb} {ops:Array Oper} {G:Nat->SF} {d:Tmp} {ty:We} {pos:String} {aft:Array Edge}
theorem zDZ {x:Wg} {t:We} (ht:P.underlying t=some (.slice (P.elem t))) (h: ∀v W,(fct G x).p v W-> ∃A n c,v= .slice A n c/\(G d).p (.int .i64 (n:Nat)) W):qP F m P w0 ops G ⟨some d, .call ⟨.builtin .len,#[x],#[t]⟩,ty,pos,aft,none⟩:=by
 intro b W K Q hb hr hK
 obtain ⟨A,n,c,e,hd⟩:=h _ _ (qA hr (x:=x) (by simp [Op.operands,Call.operands]))
 refine ⟨fun f hf=>(by
  unfold Oper.about at hf
  simp [resolve,go_sem] at hf), ?_⟩
 rw [rA _ _ _ (fun _ e=>by cases e)]
 have:(execOp b.eval ⟨some d, .call ⟨.builtin .len,#[x],#[t]⟩,ty,pos,aft,none⟩).run P W= .ok (.value (.int .i64 (n:Nat))) W:=by
  simp [execOp,resolve,invoke,builtin,e,run_len_slice _ _ _ _ _ _ ht,goInt]
 rw [this]
 exact hK _ _ (fun d' e'=>by cases e';exact hd) (pR _ _)
theorem zDN {x:Wg} {t:We} {k:Nat} (ht:P.underlying t=some (.slice (P.elem t))) (hx: ∀v W,(fct G x).p v W->qH W v k) (hd: ∀v W,(zPl k).p v W->(G d).p v W:=by exact fun _ _ h=>h):qP F m P w0 ops G ⟨some d, .call ⟨.builtin .len,#[x],#[t]⟩,ty,pos,aft,none⟩:=
 zDZ ht fun v W h=>by
  obtain ⟨A,n,c,l,e,h1,h2⟩:=hx v W h
  exact ⟨A,n,c,e,hd _ _ ⟨n,rfl,by rw [<-h2.len];exact h1.zero_iff⟩⟩
theorem zQx {op:BinOp} {t:We} {x y:Wg} {t':We} (h: ∀u v W,(fct G x).p u W->(fct G y).p v W-> ∃r,(∀W,(eqGuard op t x y u v).run P W= .ok () W)/\(∀W,(binOp op t u v).run P W= .ok r W)/\(G d).p r W):qP F m P w0 ops G ⟨some d, .binOp op t x y t',ty,pos,aft,none⟩:=
 qU (fun _ e=>by cases e) (fun _ e=>by cases e) fun b W hb hh=>by
  obtain ⟨r,h1,h2,h3⟩:=h _ _ W (hh x (by simp [Op.operands])) (hh y (by simp [Op.operands]))
  exact ⟨r,by simp [execOp,h1,h2],h3⟩
theorem zDO {t:We} {x:Wg} {t':We} {k:Nat} {b:Bool} (hb:b=decide (k=0)) (hx: ∀v W,(fct G x).p v W->(zPl k).p v W:=by exact fun _ _ h=>h) (hd: ∀W,(G d).p (.bool b) W:=by exact fun _=>rfl):qP F m P w0 ops G ⟨some d, .binOp .eql t x (.const (.int .i64 0)) t',ty,pos,aft,none⟩:=
 zQx fun u v W hu hv=>by
  obtain ⟨n,rfl,h1⟩:=hx u W hu
  obtain rfl:v= .int .i64 0:=hv
  refine ⟨.bool b,fun _=>rfl,fun _=> ?_,hd W⟩
  have h2:((n:Int)==0)=b:=by
   rw [hb,Bool.eq_iff_iff]
   simp only [rB,rR]
   omega
  simp only [binOp,Op.intCmp]
  rw [h2]
  rfl
end
def QVp (m:Nat) (k:Int) (d:Nat) (v:Wc) (w:Wb):Prop:= ∃b s t,v= .agg #[b,s,t]/\UV w m (.agg #[b,s]) k/\LV w m t d
def QNp (q:Rat) (v:Wc) (w:Wb):Prop:= ∃b s t,v= .agg #[b,s,t]/\NV w (.agg #[b,s]) q.num/\qH w t q.den
def QMp (m:Nat) (k:Int) (d:Nat) (v:Wc) (w:Wb):Prop:= ∃b s t,v= .agg #[b,s,t]/\NV w (.agg #[b,s]) k/\LV w m t d
def QAp (m:Nat) (sg:Bool) (x:Nat) (d:Nat) (v:Wc) (w:Wb):Prop:= ∃s t,v= .agg #[.bool sg,s,t]/\qH w s x/\LV w m t d
def fQV (m:Nat) (k:Int) (d:Nat):UF:= .mk' (QVp m k d) fun _ _ _ ⟨b,s,t,e,h1,h2⟩ u=>⟨b,s,t,e,(fUV m k).us _ _ _ h1 u,(fLV m d).us _ _ _ h2 u⟩
def fQN (q:Rat):UF:= .mk' (QNp q) fun _ _ _ ⟨b,s,t,e,h1,h2⟩ u=>⟨b,s,t,e,(fNV q.num).us _ _ _ h1 u,(qW q.den).us _ _ _ h2 u⟩
def fQM (m:Nat) (k:Int) (d:Nat):UF:= .mk' (QMp m k d) fun _ _ _ ⟨b,s,t,e,h1,h2⟩ u=>⟨b,s,t,e,(fNV k).us _ _ _ h1 u,(fLV m d).us _ _ _ h2 u⟩
def fQA (m:Nat) (sg:Bool) (x d:Nat):UF:= .mk' (QAp m sg x d) fun _ _ _ ⟨s,t,e,h1,h2⟩ u=>⟨s,t,e,(qW x).us _ _ _ h1 u,(fLV m d).us _ _ _ h2 u⟩
theorem zAE {cs:List Wc} {b s t:Wc} (h:Value.agg cs.toArray= .agg #[b,s,t]):cs= [b,s,t]:=by
 have:=rG Array.toList (jJ h)
 simpa using this
theorem zO3 (m:Nat) (k:Int) (d:Nat): ∀cs:List Wc, ∀W,(fQV m k d).p (.agg cs.toArray) W->cs.length=3:=fun cs W ⟨b,s,t,e,_⟩=>by rw [zAE e];rfl
theorem yO (q:Rat): ∀cs:List Wc, ∀W,(fQN q).p (.agg cs.toArray) W->cs.length=3:=fun cs W ⟨b,s,t,e,_⟩=>by rw [zAE e];rfl
theorem zLb {m:Nat} {k:Int} {d:Nat} (cs:List Wc) (W:Wb) (h:(CU.agg (fQV m k d)).p cs W):0+2<=cs.length/\UV W m (.agg ((cs.drop 0).take 2).toArray) k:=by
 obtain ⟨b,s,t,e,h1,_⟩:=h
 rw [zAE e]
 exact ⟨by simp,h1⟩
theorem zGX {m:Nat} {k:Int} {d:Nat} (cs:List Wc) (W:Wb) (h:(CU.agg (fQV m k d)).p cs W): ∃u,cs[2]?=some u/\LV W m u d:=by
 obtain ⟨b,s,t,e,_,h1⟩:=h
 rw [zAE e]
 exact ⟨t,rfl,h1⟩
theorem zRV {m:Nat} {k:Int} {d:Nat} (cs:List Wc) (W:Wb) (h:(CU.agg (fQV m k d)).p cs W): ∃u,cs[0]?=some u/\ ∃s:Bool,u= .bool s:=by
 obtain ⟨b,s,t,e,⟨s',A,n,c,l,e',_⟩,_⟩:=h
 rw [zAE e]
 have:=rG Array.toList (jJ e')
 exact ⟨b,rfl,s',by simp at this;exact this.1⟩
theorem zBh {q:Rat} (cs:List Wc) (W:Wb) (h:(CU.agg (fQN q)).p cs W):0+2<=cs.length/\NV W (.agg ((cs.drop 0).take 2).toArray) q.num:=by
 obtain ⟨b,s,t,e,h1,_⟩:=h
 rw [zAE e]
 exact ⟨by simp,h1⟩
theorem zAP {q:Rat} (cs:List Wc) (W:Wb) (h:(CU.agg (fQN q)).p cs W): ∃u,cs[2]?=some u/\qH W u q.den:=by
 obtain ⟨b,s,t,e,_,h1⟩:=h
 rw [zAE e]
 exact ⟨t,rfl,h1⟩
theorem zO7 {q:Rat} (cs:List Wc) (W:Wb) (h:(CU.agg (fQN q)).p cs W): ∃u,cs[1]?=some u/\qH W u q.num.natAbs:=by
 obtain ⟨b,s,t,e,h1,_⟩:=h
 rw [zAE e]
 exact zG8 [b,s] W h1
theorem zO5 {q:Rat} (cs:List Wc) (W:Wb) (h:(CU.agg (fQN q)).p cs W): ∃u,cs[0]?=some u/\u= .bool (decide (q.num<0)):=by
 obtain ⟨b,s,t,e,h1,_⟩:=h
 rw [zAE e]
 exact zLF [b,s] W h1
theorem zF0 {q:Rat} (cs:List Wc) (W:Wb) (h:(CU.agg (fQN q)).p cs W):0+3<=cs.length/\QNp q (.agg ((cs.drop 0).take 3).toArray) W:=by
 have h1:=yO q cs W h
 exact ⟨by omega,by rw [List.drop_zero,sF oN];exact h⟩
theorem zR1 {m:Nat} {k:Int} {d:Nat} (cs:List Wc) (W:Wb) (h:(CU.agg (fQM m k d)).p cs W): ∃u,cs[1]?=some u/\qH W u k.natAbs:=by
 obtain ⟨b,s,t,e,h1,_⟩:=h
 rw [zAE e]
 exact zG8 [b,s] W h1
theorem zR0 {m:Nat} {k:Int} {d:Nat} (cs:List Wc) (W:Wb) (h:(CU.agg (fQM m k d)).p cs W): ∃u,cs[2]?=some u/\LV W m u d:=by
 obtain ⟨b,s,t,e,_,h1⟩:=h
 rw [zAE e]
 exact ⟨t,rfl,h1⟩
theorem LV.form {W:Wb} {m:Nat} {v:Wc} {x:Nat} (h:LV W m v x): ∃A n c,v= .slice A n c:=by
 obtain ⟨A,n,c,l,e,_⟩:=h
 exact ⟨A,n,c,e⟩
theorem qH.form {W:Wb} {v:Wc} {x:Nat} (h:qH W v x): ∃A n c,v= .slice A n c:=by
 obtain ⟨A,n,c,l,e,_⟩:=h
 exact ⟨A,n,c,e⟩
theorem UV.form {W:Wb} {m:Nat} {b s:Wc} {k:Int} (h:UV W m (.agg #[b,s]) k): ∃sg A n c,b= .bool sg/\s= .slice A n c:=by
 obtain ⟨s',A,n,c,l,e,_⟩:=h
 have:=rG Array.toList (jJ e)
 simp at this
 exact ⟨s',A,n,c,this.1,this.2⟩
theorem NV.form {W:Wb} {b s:Wc} {k:Int} (h:NV W (.agg #[b,s]) k): ∃A n c,b= .bool (decide (k<0))/\s= .slice A n c:=by
 obtain ⟨A,n,c,l,e,_⟩:=h
 have:=rG Array.toList (jJ e)
 simp at this
 exact ⟨A,n,c,this.1,this.2⟩
theorem zCl {m:Nat} {k:Int} {d:Nat} {v:Wc} {W:Wb} (h:(fQV m k d).p v W): ∃sg A n c A' n' c',v= .agg #[.bool sg, .slice A n c, .slice A' n' c']:=by
 obtain ⟨b,s,t,rfl,h1,h2⟩:=h
 obtain ⟨sg,A,n,c,rfl,rfl⟩:=h1.form
 obtain ⟨A',n',c',rfl⟩:=h2.form
 exact ⟨_,_,_,_,_,_,_,rfl⟩
theorem zCm {q:Rat} {v:Wc} {W:Wb} (h:(fQN q).p v W): ∃A n c A' n' c',v= .agg #[.bool (decide (q.num<0)), .slice A n c, .slice A' n' c']:=by
 obtain ⟨b,s,t,rfl,h1,h2⟩:=h
 obtain ⟨A,n,c,rfl,rfl⟩:=h1.form
 obtain ⟨A',n',c',rfl⟩:=h2.form
 exact ⟨_,_,_,_,_,_,rfl⟩
theorem zDf {m:Nat} {k:Int} {d:Nat} {v:Wc} {W:Wb} (h:(fQV m k d).p v W):(CU.agg (fQV m k d)).p v.cells.toList W/\v.cells.toList.all zY=true:=by
 obtain ⟨sg,A,n,c,A',n',c',rfl⟩:=zCl h
 exact ⟨h,rfl⟩
theorem zO6 {q:Rat} {v:Wc} {W:Wb} (h:(fQN q).p v W):(CU.agg (fQN q)).p v.cells.toList W/\v.cells.toList.all zY=true:=by
 obtain ⟨A,n,c,A',n',c',rfl⟩:=zCm h
 exact ⟨h,rfl⟩
theorem zCf {sg:Bool} {A A':Wf Addr} {n c n' c':Nat} (u:Wc) (hu:u∈ [Value.bool sg, .slice A n c, .slice A' n' c']):u.oneCell'=true:=by
 simp at hu
 rcases hu with rfl|rfl|rfl<;>rfl
theorem zV {q:Rat} (v:Wc) (W:Wb) (h:(fQN q).p v W): ∃vs:List Wc,v= .agg vs.toArray/\vs.length=3/\(∀u,u∈vs->u.oneCell'=true)/\vs.all zY=true/\(CU.agg (fQN q)).p vs W:=by
 obtain ⟨A,n,c,A',n',c',rfl⟩:=zCm h
 exact ⟨[_,_,_],rfl,rfl,zCf,rfl,h⟩
theorem zNI {m:Nat} {k:Int} {d:Nat} (v:Wc) (W:Wb) (h:(fQV m k d).p v W): ∃vs:List Wc,v= .agg vs.toArray/\vs.length=3/\(∀u,u∈vs->u.oneCell'=true)/\vs.all zY=true/\(CU.agg (fQV m k d)).p vs W:=by
 obtain ⟨sg,A,n,c,A',n',c',rfl⟩:=zCl h
 exact ⟨[_,_,_],rfl,rfl,zCf,rfl,h⟩
theorem zHY {q:Rat} {m:Nat} {v:Wc} {W:Wb} (h:QNp q v W) (hq:QB q m):QVp m q.num q.den v W:=by
 obtain ⟨b,s,t,e,h1,h2⟩:=h
 exact ⟨b,s,t,e,h1.uv' hq.1,h2.lv hq.2⟩
theorem zQn {m m':Nat} {k:Int} {d:Nat} {v:Wc} {W:Wb} (h:QVp m k d v W) (hm:m<=m'):QVp m' k d v W:=by
 obtain ⟨b,s,t,e,h1,h2⟩:=h
 exact ⟨b,s,t,e,h1.mono hm,h2.mono hm⟩
theorem zUQ (s:Bool) (A A':Wf Addr) (n n' c c':Nat):prog.built 29 [(0, .agg #[.bool s, .slice A n c]),(1, .slice A' n' c')]=some #[.bool s, .slice A n c, .slice A' n' c']:=by kernel_rfl
theorem zHw {u v:Wc} {W:Wb} {q:Rat} (hu:NV W u q.num) (hv:qH W v q.den): ∃cells,prog.built 29 [(0,u),(1,v)]=some cells/\QNp q (.agg cells) W:=by
 obtain ⟨A,n,c,rfl,h1⟩:=hu.nat
 obtain ⟨A',n',c',rfl⟩:=hv.form
 exact ⟨_,zUQ _ _ _ _ _ _ _,_,_,_,rfl,hu,hv⟩
theorem zPu {u v:Wc} {W:Wb} {m:Nat} {k:Int} {d:Nat} (hu:UV W m u k) (hv:LV W m v d): ∃cells,prog.built 29 [(0,u),(1,v)]=some cells/\QVp m k d (.agg cells) W:=by
 obtain ⟨s,A,n,c,l,rfl,h1⟩:=id hu
 obtain ⟨A',n',c',rfl⟩:=hv.form
 exact ⟨_,zUQ _ _ _ _ _ _ _,_,_,_,rfl,hu,hv⟩
theorem zUu:yD prog 25 1 [(0, .int .u32 1)]=some (62,#[.int .u32 1]):=by kernel_rfl
theorem zOX {u:Wc} {W:Wb} (hu:u= .int .u32 1): ∃e cs,yD prog 25 1 [(0,u)]=some (e,cs)/\qH (W.alloc (.cells cs e)) (.slice (some ⟨W.heap.size,0,none⟩) 1 1) 1:=by
 subst hu
 refine ⟨_,_,zUu,_,1,1, [1],rfl,⟨fun y hy=>by simp at hy;subst hy;decide,fun hn=>by simp, ?_⟩,Rd.new W [1] _ _ (by simp [zBo]) fK⟩
 show sm (lm [1]) 1=1
 simp [sm,lm]
theorem zUv (A:Wf Addr) (n c:Nat):prog.built 27 [(1, .slice A n c)]=some #[.bool false, .slice A n c]:=by kernel_rfl
theorem zMC {v:Wc} {W:Wb} {x:Nat} (hv:qH W v x): ∃cells,prog.built 27 [(1,v)]=some cells/\NV W (.agg cells) x:=by
 obtain ⟨A,n,c,l,rfl,h1,h2⟩:=hv
 refine ⟨_,zUv _ _ _,A,n,c,l,by rw [decide_eq_false oN],by rw [Int.natAbs_natCast];exact h1,h2⟩
theorem zVk (s:Bool) (A A':Wf Addr) (n n' c c':Nat):prog.built 103 [(0, .agg #[.bool s, .slice A n c, .slice A' n' c'])]=some #[.bool s, .slice A n c, .slice A' n' c']:=by kernel_rfl
theorem zMD {v:Wc} {W:Wb} {m:Nat} {k:Int} {d:Nat} (hv:QVp m k d v W): ∃cells,prog.built 103 [(0,v)]=some cells/\QVp m k d (.agg cells) W:=by
 obtain ⟨sg,A,n,c,A',n',c',rfl⟩:=zCl hv
 exact ⟨_,zVk _ _ _ _ _ _ _,hv⟩
def QKp (k:Int) (d:Nat) (v:Wc) (w:Wb):Prop:= ∃b s t,v= .agg #[b,s,t]/\NV w (.agg #[b,s]) k/\qH w t d
def fQK (k:Int) (d:Nat):UF:= .mk' (QKp k d) fun _ _ _ ⟨b,s,t,e,h1,h2⟩ u=>⟨b,s,t,e,(fNV k).us _ _ _ h1 u,(qW d).us _ _ _ h2 u⟩
theorem zR2 {k:Int} {d m:Nat} {v:Wc} {W:Wb} (h:QKp k d v W) (hk:Bd k m) (hd:d<BB^m):QVp m k d v W:=by
 obtain ⟨b,s,t,e,h1,h2⟩:=h
 exact ⟨b,s,t,e,h1.uv' hk,h2.lv hd⟩
theorem zR4 {k:Int} {d:Nat} (cs:List Wc) (W:Wb) (h:(CU.agg (fQK k d)).p cs W): ∃u,cs[2]?=some u/\qH W u d:=by
 obtain ⟨b,s,t,e,_,h1⟩:=h
 rw [zAE e]
 exact ⟨t,rfl,h1⟩
theorem zEZ {v:Wc} {W:Wb} {x:Nat} (h:qH W v x):v.cells=#[v]/\v.oneCell'=true/\zY v=true:=by
 obtain ⟨A,n,c,rfl⟩:=h.form
 exact ⟨rfl,rfl,rfl⟩
theorem zNg {m:Nat} {k:Int} {d:Nat} {q:Rat} (v:Wc) (W:Wb) (h:(fQN q).p v W):v.cells.size=3/\(∀u,u∈v.cells.toList->u.oneCell'=true)/\v.cells.toList.all zY=true/\ ∀cs,(CU.agg (fQV m k d)).p cs W->0+3<=cs.length/\(CU.agg (fQN q)).p (jW cs 0 v.cells.toList) W:=by
 obtain ⟨A,n,c,A',n',c',rfl⟩:=zCm h
 refine ⟨rfl,zCf,rfl,fun cs hc=> ?_⟩
 obtain ⟨b,s,t,e,_⟩:=hc
 rw [zAE e]
 exact ⟨by simp,h⟩
theorem zPP {m:Nat} {k0 k:Int} {d:Nat} (v:Wc) (W:Wb) (h:(fNV k).p v W):v.cells.size=2/\(∀u,u∈v.cells.toList->u.oneCell'=true)/\v.cells.toList.all zY=true/\ ∀cs,(CU.agg (fQV m k0 d)).p cs W->0+2<=cs.length/\(CU.agg (fQM m k d)).p (jW cs 0 v.cells.toList) W:=by
 obtain ⟨A,n,c,rfl,h1⟩:=NV.nat h
 refine ⟨rfl,fun u hu=>by simp [Value.cells] at hu;rcases hu with rfl|rfl<;>rfl,rfl,fun cs hc=> ?_⟩
 obtain ⟨b,s,t,e,_,h2⟩:=hc
 rw [zAE e]
 exact ⟨by simp,_,_,t,rfl,h,h2⟩
theorem zHK {k0 k:Int} {d:Nat} (v:Wc) (W:Wb) (h:(fNV k).p v W):v.cells.size=2/\(∀u,u∈v.cells.toList->u.oneCell'=true)/\v.cells.toList.all zY=true/\ ∀cs,(CU.agg (fQK k0 d)).p cs W->0+2<=cs.length/\(CU.agg (fQK k d)).p (jW cs 0 v.cells.toList) W:=by
 obtain ⟨A,n,c,rfl,h1⟩:=NV.nat h
 refine ⟨rfl,fun u hu=>by simp [Value.cells] at hu;rcases hu with rfl|rfl<;>rfl,rfl,fun cs hc=> ?_⟩
 obtain ⟨b,s,t,e,_,h2⟩:=hc
 rw [zAE e]
 exact ⟨by simp,_,_,t,rfl,h,h2⟩
theorem zKy {k:Int} {d0 d:Nat} (v:Wc) (W:Wb) (h:(qW d).p v W):v.cells.size=1/\(∀u,u∈v.cells.toList->u.oneCell'=true)/\v.cells.toList.all zY=true/\ ∀cs,(CU.agg (fQK k d0)).p cs W->2+1<=cs.length/\(CU.agg (fQK k d)).p (jW cs 2 v.cells.toList) W:=by
 obtain ⟨h1,h2,h3⟩:=zEZ h
 rw [h1]
 refine ⟨rfl,fun u hu=>by simp at hu;rw [hu];exact h2,by simp [h3],fun cs hc=> ?_⟩
 obtain ⟨b,s,t,e,h4,_⟩:=hc
 rw [zAE e]
 exact ⟨by simp,b,s,v,rfl,h4,h⟩
theorem zRC {m:Nat} {k:Int} {x d:Nat} (v:Wc) (W:Wb) (h:(qW x).p v W):v.cells.size=1/\(∀u,u∈v.cells.toList->u.oneCell'=true)/\v.cells.toList.all zY=true/\ ∀cs,(CU.agg (fQM m k d)).p cs W->1+1<=cs.length/\(CU.agg (fQA m (decide (k<0)) x d)).p (jW cs 1 v.cells.toList) W:=by
 obtain ⟨h1,h2,h3⟩:=zEZ h
 rw [h1]
 refine ⟨rfl,fun u hu=>by simp at hu;rw [hu];exact h2,by simp [h3],fun cs hc=> ?_⟩
 obtain ⟨b,s,t,e,h4,h5⟩:=hc
 obtain ⟨A,n,c,rfl,rfl⟩:=h4.form
 rw [zAE e]
 exact ⟨by simp,v,t,rfl,h,h5⟩
theorem zRB {m:Nat} {sg:Bool} {q:Rat} {x y d:Nat} (hs:sg=decide (q.num<0)) (hx:x=q.num.natAbs) (hy:y=q.den) (v:Wc) (W:Wb) (h:(qW y).p v W):v.cells.size=1/\(∀u,u∈v.cells.toList->u.oneCell'=true)/\v.cells.toList.all zY=true/\ ∀cs,(CU.agg (fQA m sg x d)).p cs W->2+1<=cs.length/\(CU.agg (fQN q)).p (jW cs 2 v.cells.toList) W:=by
 obtain ⟨h1,h2,h3⟩:=zEZ h
 rw [h1]
 refine ⟨rfl,fun u hu=>by simp at hu;rw [hu];exact h2,by simp [h3],fun cs hc=> ?_⟩
 obtain ⟨s,t,e,h4,_⟩:=hc
 rw [zAE e]
 refine ⟨by simp, .bool sg,s,v,rfl, ?_,by rw [<-hy];exact h⟩
 obtain ⟨A,n,c,l,rfl,g1,g2⟩:=h4
 exact ⟨A,n,c,l,by rw [hs],by rw [<-hx];exact g1,g2⟩
def RVp (m:Nat) (q:Rat) (v:Wc) (w:Wb):Prop:= ∃k d,QVp m k d v w/\mkRat k d=q
def fRV (m:Nat) (q:Rat):UF:= .mk' (RVp m q) fun _ _ _ ⟨k,d,h,e⟩ u=>⟨k,d,(fQV m k d).us _ _ _ h u,e⟩
theorem wD {m:Nat} {q:Rat} {v:Wc} {W:Wb} (h:QNp q v W) (hq:QB q m):RVp m q v W:=⟨_,_,zHY h hq,Rat.mkRat_self q⟩
theorem RVp.mono {m m':Nat} {q:Rat} {v:Wc} {W:Wb} (h:RVp m q v W) (hm:m<=m'):RVp m' q v W:=by
 obtain ⟨k,d,h1,h2⟩:=h
 exact ⟨k,d,zQn h1 hm,h2⟩
theorem RVp.qb {m:Nat} {q:Rat} {v:Wc} {W:Wb} (h:RVp m q v W) (hm:0<m):QB q m:=by
 obtain ⟨k,d,⟨b,s,t,_,h1,h2⟩,rfl⟩:=h
 exact vE h1.bd h2.bound hm
theorem yW (m:Nat) (q:Rat): ∀cs:List Wc, ∀W,(fRV m q).p (.agg cs.toArray) W->cs.length=3:=fun cs W ⟨k,d,h,_⟩=>zO3 m k d cs W h
theorem zAc {m:Nat} {q:Rat} {v:Wc} {W:Wb} (h:(fRV m q).p v W):(CU.agg (fRV m q)).p v.cells.toList W/\v.cells.toList.all zY=true:=by
 obtain ⟨k,d,h1,h2⟩:=h
 obtain ⟨g1,g2⟩:=zDf h1
 exact ⟨⟨k,d,g1,h2⟩,g2⟩
theorem zEx {P:Wh} {f:FuncId} {args:Array Wc} {W:Wb} {u:Wc} (h:Calls P f args W fun e w'=>e= .returned u/\Below W.heap.size W w'):Calls P f args W (Ret W (UF.eq u).tS):=h.mono fun _ _ ⟨h1,h2⟩=>⟨u,h1,rfl,h2⟩
attribute [local go_sem] Oper.semAt_some qF yF
theorem zVc {W:Wb} (k:Int) (h: -9223372036854775808<=k/\k<=9223372036854775807):Calls prog 61 #[.int .i64 k] W (zGA W k):=
 (zIG k h.1 h.2 W).mono fun _ _=>qR.v
def SF.row (z:Nat) (Cs:List CU):SF:=⟨fun v W=> ∃A c,v= .slice A Cs.length c/\Cs.length<=c/\c<=9223372036854775807/\(A=none->c=0)/\ ∀i C,Cs[i]?=some C-> ∃b o cs,A=some ⟨b,o,none⟩/\Mem W b (o+i*z) cs/\C.p cs W,
 fun _ _ _ ⟨A,c,h1,h2,h3,h4,h5⟩ hb=>⟨A,c,h1,h2,h3,h4,fun i C hi=>let ⟨b,o,cs,g1,g2,g3⟩:=h5 i C hi;⟨b,o,cs,g1,g2.below hb,C.us _ _ _ g3 (zS hb)⟩⟩⟩
theorem yK {z:Nat} {Cs:List CU} {l v:Wc} {W0 W:Wb} (hl:(SF.row z Cs).p l W0) (h:v=l) (hb:Below W0.heap.size W0 W):(SF.row z Cs).p v W:=by subst h;exact (SF.row z Cs).st _ _ _ hl hb
def zEw (P:Wh) (t:We):Wf Nat:=match P.underlying t with
 |some (.slice e)=>(P.info? e).map (·.size)
 |_=>none
section
variable {F:Fence} {m:Nat} {P:Wh} {w0:Wb} {ops:Array Oper} {G:Nat->SF} {d:Tmp} {ty:We} {pos:String} {aft:Array Edge}
theorem zAZ {x y:Wg} {t:We} {z:Nat} {Cs:List CU} {i:Nat} {C:CU} (hz:zEw P t=some z) (hi:Cs[i]?=some C) (hx: ∀v W,(fct G x).p v W->(SF.row z Cs).p v W) (hy: ∀v W,(fct G y).p v W->v= .int .i64 (i:Int)) (hd: ∀v W,(wB C.cf).p v W->(G d).p v W:=by exact fun _ _ h=>h):qP F m P w0 ops G ⟨some d, .indexAddr t x y,ty,pos,aft,none⟩:=
 qU (fun _ e=>by cases e) (fun _ e=>by cases e) fun b W hb hh=>by
  obtain ⟨A,c,e,h2,h3,h4,h5⟩:=hx _ _ (hh x (by simp [Op.operands]))
  have e2:=hy _ _ (hh y (by simp [Op.operands]))
  obtain ⟨b',o,cs,rfl,h6,h7⟩:=h5 i C hi
  have hlt:i<Cs.length:=(rH.1 hi).1
  unfold zEw at hz
  split at hz<;>try cases hz
  rename_i e' hu
  cases hin:P.info? e' with
  |none=>rw [hin] at hz;cases hz
  |some ie=>
   rw [hin] at hz
   simp only [Option.map_some,sG] at hz
   have hel:P.elem t=e':=by simp [Program.elem,hu]
   refine ⟨.pointer (some ⟨b',o+i*z,none⟩), ?_,hd _ _ ⟨b',o+i*z,cs,rfl,h7,h6⟩⟩
   have hb1:(0:Int)<=(i:Int)/\(i:Int)<(Cs.length:Nat):=by omega
   simp only [execOp,e,e2]
   rw [rS,run_indexAt_slice _ _ _ _ _ _ _ (by rw [hel];exact hu),if_pos hb1,hel]
   simp [sizeOf,typeInfo,hin,hz,rQ]
def SF.imp (c:Prop) (f:SF):SF:=⟨fun v W=>c->f.p v W,fun _ _ _ h hb hc=>f.st _ _ _ (h hc) hb⟩
theorem yG {op:Op} (L:List (Nat×SF)) (f:SF) (hL: ∀q,q∈L-> ∀v W,(G q.1).p v W->q.2.p v W) (hd: ∀v W,f.p v W->(G d).p v W) (hnd:(!(zDK ⟨some d,op,ty,pos,aft,none⟩).contains d&& !(L.map (·.1)).contains d)=true)
  (h:qP F m P w0 ops (upd (upd G [(d,f)]) L) ⟨some d,op,ty,pos,aft,none⟩):qP F m P w0 ops G ⟨some d,op,ty,pos,aft,none⟩:=by
 rw [pN] at hnd
 intro b W K Q hb hr hK
 refine h b W K Q hb (fun t ht=> ?_) fun v W' hv hb'=>hK v W' (fun d' e=> ?_) hb'
 ·have hne:Nat.beq d t=false:=by
   cases e:Nat.beq d t with
   |false=>rfl
   |true=>
    have:=rL e
    subst this
    have h1:=hnd.1
    rw [pW.2 ht] at h1
    cases h1
  have key: ∀l:List (Nat×SF),(∀q,q∈l-> ∀v W,(G q.1).p v W->q.2.p v W)->(upd (upd G [(d,f)]) l t).p (b.tmps.getD t undef) W:=by
   intro l
   induction l with
   |nil=>
    intro _
    show (bif Nat.beq d t then f else G t).p _ _
    rw [hne]
    exact hr t ht
   | cons q l ih=>
    intro hl
    show (bif Nat.beq q.1 t then q.2 else upd (upd G [(d,f)]) l t).p _ _
    cases e:Nat.beq q.1 t with
    |true=>
     have e2:=rL e
     exact hl q fK _ _ (by rw [e2];exact hr t ht)
    |false=>exact ih fun x hx=>hl x (by simp [hx])
  exact key L hL
 ·cases e
  have h1:=hv d rfl
  rw [jP (by simpa using hnd.2)] at h1
  have h2:(bif Nat.beq d d then f else G d).p v W':=h1
  rw [show Nat.beq d d=true from Nat.beq_refl d] at h2
  exact hd v W' h2
theorem zBJ {b c:Bool} {v:Wc} (h:v= .bool c) (e:b=true):v= .bool (b&&c):=by rw [e];exact h
theorem zBi {b c:Bool} {v:Wc} (h:v= .bool false) (e:b=false):v= .bool (b&&c):=by rw [e];exact h
theorem zBc {b c:Bool} {v:Wc} (h:v= .bool true) (e:b=true):v= .bool (b||c):=by rw [e];exact h
theorem zAs {b c:Bool} {v:Wc} (h:v= .bool c) (e:b=false):v= .bool (b||c):=by rw [e];exact h
theorem zR {op:BinOp} {t:We} {x y:Wg} {t':We} (k:IntKind) (u v:Int) (r:Bool) (hx: ∀q W,(fct G x).p q W->q= .int k u) (hy: ∀q W,(fct G y).p q W->q= .int k v) (hr:(match op with| .eql=>u==v| .neq=>u !=v| .lss=>decide (u<v)| .leq=>decide (u<=v)| .gtr=>decide (u>v)| .geq=>decide (u≥v)|_=>false)=r) (ho:(match op with| .eql| .neq| .lss| .leq| .gtr| .geq=>true|_=>false)=true) (hd: ∀W,(G d).p (.bool r) W:=by exact fun _=>rfl):qP F m P w0 ops G ⟨some d, .binOp op t x y t',ty,pos,aft,none⟩:=
 zD0 (.int k u) (.int k v) (.bool r) hx hy (fun W=>by cases op<;>simp [eqGuard]) (fun W=>by
  cases op<;>first
   |exact absurd ho Bool.false_ne_true
   |(subst hr;simp [binOp,Op.intCmp])) hd
theorem yR {t:We} {x y:Wg} {t':We} (k:IntKind) (u v r:Int) (hx: ∀q W,(fct G x).p q W->q= .int k u) (hy: ∀q W,(fct G y).p q W->q= .int k v) (hr:k.wrap (u+v)=r) (hd: ∀W,(G d).p (.int k r) W:=by exact fun _=>rfl):qP F m P w0 ops G ⟨some d, .binOp .add t x y t',ty,pos,aft,none⟩:=
 zD0 (.int k u) (.int k v) (.int k r) hx hy (fun W=>by simp [eqGuard]) (fun W=>by simp [binOp,Op.intArith,hr]) hd
theorem zQv {x y:Wg} {ats:Array We} (u v:Int) (hx: ∀q W,(fct G x).p q W->q= .int .i64 u) (hy: ∀q W,(fct G y).p q W->q= .int .i64 v) (hd: ∀W,(G d).p (.int .i64 (min u v)) W:=by exact fun _=>rfl):qP F m P w0 ops G ⟨some d, .call ⟨.builtin .min,#[x,y],ats⟩,ty,pos,aft,none⟩:=by
 intro b W K Q hb hr hK
 have e1:=hx _ _ (qA hr (x:=x) (by simp [Op.operands,Call.operands]))
 have e2:=hy _ _ (qA hr (x:=y) (by simp [Op.operands,Call.operands]))
 refine ⟨fun f hf=>(by
  unfold Oper.about at hf
  simp [resolve,go_sem] at hf), ?_⟩
 rw [rA _ _ _ (fun _ e=>by cases e)]
 have:(execOp b.eval ⟨some d, .call ⟨.builtin .min,#[x,y],ats⟩,ty,pos,aft,none⟩).run P W= .ok (.value (.int .i64 (min u v))) W:=by
  have h:min u v=if v<u then v else u:=by split<;>omega
  simp [execOp,resolve,invoke,builtin,e1,e2,Builtin.min_,Builtin.min2,h]
 rw [this]
 exact hK _ _ (fun d' e'=>by cases e';exact hd _) (pR _ _)
theorem zBk {x:Wg} {t:We} {z:Nat} {Cs:List CU} (ht:P.underlying t=some (.slice (P.elem t))) (hx: ∀v W,(fct G x).p v W->(SF.row z Cs).p v W:=by exact fun _ _ h=>h) (hd: ∀W,(G d).p (.int .i64 (Cs.length:Nat)) W:=by exact fun _=>rfl):qP F m P w0 ops G ⟨some d, .call ⟨.builtin .len,#[x],#[t]⟩,ty,pos,aft,none⟩:=
 zDZ ht fun v W h=>by
  obtain ⟨A,c,e,_⟩:=hx v W h
  exact ⟨A,Cs.length,c,e,hd W⟩
end
section
variable {S:Nat->Prop} {F:Fence} {m:Nat} {P:Wh} {Q:Exit->Act->Wb->Prop} {w0:Wb} {K:List (Nat×KF)} {B:List Bx} {n:Nat} {ds:List Deferred} {a:Act} {w:Wb}
theorem zPN {c:Code} (N i:Nat) (Kf:Nat->List (Nat×KF)) (hi: ∀k,(i,KF.u (fI (k:Nat)))∈Kf k) (h0:StS S w0 (Kf 0) B n ds a w)
  (round: ∀k a w,k<=N->StS S w0 (Kf k) B n ds a w->c.wpIn F m P (Exit.then (fun a' w'=>k<N/\StS S w0 (Kf (k+1)) B n ds a' w') Q) a w):(Code.loop c).wpIn F m P Q a w:=by
 refine wpIn_loop (fun a w=> ∃k,k<=N/\StS S w0 (Kf k) B n ds a w) (fun a _=>N+1 - (match a.tmps.getD i undef with| .int _ z=>z.toNat|_=>0)) ⟨0,Nat.zero_le _,h0⟩ ?_
 rintro a w ⟨k,hk,hA⟩
 refine rT ?_ (round k a w hk hA)
 intro e a' w' h
 cases e with
 |normal=>
  obtain ⟨h1,h2⟩:k<N/\StS S w0 (Kf (k+1)) B n ds a' w':=h
  refine ⟨⟨k+1,h1,h2⟩, ?_⟩
  have e1:a.tmps.getD i undef= .int .i64 (k:Nat):=hA.sl _ (hi k)
  have e2:a'.tmps.getD i undef= .int .i64 ((k+1:Nat):Int):=h2.sl _ (hi (k+1))
  simp only [e1,e2,Int.toNat_natCast]
  have h3:N+1 - (k+1)<N+1 - k:=by omega
  exact h3
 |_=>exact h
end
theorem zQi {W:Wb} {m:Nat} {v:Wc} {k:Int} (h:UV W m v k) (hm:m<=90000):Calls prog 52 #[v] W (zGA W (-k)):=by
 obtain ⟨s,A,n,c,l,rfl,h1,h2,h3,rfl⟩:=h
 exact (zGU s A n c l W h1 h2 oN).mono fun _ _=>qR.v
theorem zFZ {W:Wb} {m:Nat} {v:Wc} {k:Int} (h:UV W m v k) (hm:m<=90000):Calls prog 49 #[v] W (zGA W k):=by
 obtain ⟨s,A,n,c,l,rfl,h1,h2,h3,rfl⟩:=h
 exact (zAr s A n c l W h1 h2 oN).mono fun _ _=>qR.v
theorem zIS {W:Wb} {m:Nat} {v:Wc} {k:Int} (h:UV W m v k) (hm:m<=90000):Calls prog 25 #[v] W fun e w'=>e= .returned (.int .i64 k.sign)/\Below W.heap.size W w':=by
 obtain ⟨s,A,n,c,l,rfl,h1,h2,h3,rfl⟩:=h
 exact zJF s A n c l W h1 h2 oN
theorem zQh {W:Wb} {m:Nat} {v v':Wc} {k k':Int} (h:UV W m v k) (h':UV W m v' k') (hm:m<=90000):Calls prog 27 #[v,v'] W (zGA W (k - k')):=by
 obtain ⟨s,A,n,c,l,rfl,h1,h2,h3,rfl⟩:=h
 obtain ⟨s',A',n',c',l',rfl,h1',h2',h3',rfl⟩:=h'
 exact (zK6 s A n c l s' A' n' c' l' W h1 h2 h1' h2' m h3 h3' hm).mono fun _ _=>qR.v
theorem zRT {W:Wb} (k:Int) (h: -9223372036854775808<=k/\k<=9223372036854775807):Calls prog 30 #[.int .i64 k] W (zGA W k):=
 (zIT k h.1 h.2 W).mono fun _ _=>qR.v
theorem zQk {W:Wb} {m:Nat} {v:Wc} {ks:List Int} {k:Int} (h:ISV W m v ks) (hm:m<=2000) (hn:ks.length<=1000) (hk:ks.sum=k):Calls prog 51 #[v] W (zGA W k):=by
 obtain ⟨is,h1,h2⟩:=h
 have hl:is.length=ks.length:=by rw [<-h2,List.length_map]
 obtain ⟨A,c,e,h3,h4,h5⟩:=h1
 have hb: ∀j,j<=is.length->(zDF is j).natAbs<BB^(m+1000):=by
  intro j hj
  have key: ∀j,Bd (zDF is j) (m+j):=by
   intro j
   induction j with
   |zero=>exact Nat.pow_pos y8
   |succ j ih=>
    have e1:zDF is (j+1)=zDF is j+zDP is j:=rfl
    rw [e1]
    exact (ih.add ((show Bd (zDP is j) m from zGe h5 j).mono oN)).mono oN
  exact (key j).mono oN
 have:=zQl (m+1000) (⟨A,c,e,h3,h4,h5⟩:IS W m v is) oN oN oN hb
 rw [zE2 is is.length (rC _),List.take_length,h2,hk] at this
 exact this
theorem zDL {W:Wb} {m:Nat} {v:Wc} {ks:List Int} {k:Int} (h:ISV W m v ks) (hn:m*ks.length+m+1<=40000) (hk:ks.foldl (·*·) 1=k) (hl:ks.length<=1000):Calls prog 28 #[v] W (zGA W k):=by
 obtain ⟨is,h1,h2⟩:=h
 have hl2:is.length=ks.length:=by rw [<-h2,List.length_map]
 obtain ⟨A,c,e,h3,h4,h5⟩:=h1
 have:=zQj (m*ks.length+m+1) (⟨A,c,e,h3,h4,h5⟩:IS W m v is) oN oN oN (fun k hk=>(zGg h5 k).mono (by
  have:m*k<=m*ks.length:=Nat.mul_le_mul_left _ oN
  omega))
 rw [zDR is is.length (rC _),List.take_length,h2,hk] at this
 exact this
end Go.Proofs.Wd

namespace Go.Proofs.Wd
open Tryz
open Go.RowKit
section
variable {S:Nat->Prop} {w0:Wb} {K:List (Nat×KF)} {B:List Bx} {n:Nat} {ds:List Deferred} {a:Act} {w:Wb}
theorem zT {c:Prop} {f:SF} {v:Wc} {W:Wb} (e:c) (h:(SF.imp c f).p v W):f.p v W:=h e
def zAU (K0 K:List (Nat×KF)) (B:List Bx) (a:Act) (t:Nat):SF:=if t∈K.map (·.1)++B.map (·.t) then ⟨fun v W=>(jZ (K0++K) B t).p v W/\v=a.tmps.getD t undef,fun _ _ _ h hb=>⟨(jZ (K0++K) B t).st _ _ _ h.1 hb,h.2⟩⟩ else jZ (K0++K) B t
variable {F:Fence} {m:Nat} {P:Wh} {ops:Array Oper} {Q:Exit->Act->Wb->Prop}
theorem zEH (K0:List (Nat×KF)) (k:Nat) (L:List (Nat×Rw)) (h:StS S w0 (K0++K) B n ds a w) {Goal:Prop} {Fin:Act->Wb->Prop}
  (hT: ∀G':Nat->SF,At w G' n ds a w->Obs F m P w ops (upd G' (zM L)) (ops.toList.take k)->(∀a' w',At w (zCs ops k (upd G' (zM L))) n ds a' w'->Fin a' w')->Goal)
  (hap:jF ops=true) (hks:((L.map (·.1)).all fun t=>(List.range k).any fun i=>zW ops i==some t)=true) (hun:zAT ops (K.map (·.1)++B.map (·.t))=true) (hnd:zAD (L.map (·.1))=true)
  (hobs:Obs F m P w ops (upd (jZ (K0++K) B) (zM L)) (ops.toList.take k))
  (hfin: ∀a w,StS S w0 (zBB L++K) B n ds a w->(∀q,q∈zM L->q.2.p (a.tmps.getD q.1 undef) w)->Fin a w):Goal:=by
 have hkeys:(zM L).map (·.1)=L.map (·.1):=by simp [zM]
 have hsame: ∀t,t∈K.map (·.1)++B.map (·.t)-> ∀i,zW ops i≠some t:=fun t ht i hi=>by
  have h1:=pK.1 hun t ht
  obtain ⟨o,ho,_⟩:=y9 hi
  have h2:=pK.1 h1 i (pL.2 (pQ.1 ho).1)
  rw [hi] at h2
  simp at h2
 have hv: ∀t,t∈K.map (·.1)++B.map (·.t)->a.tmps.getD t undef=a.tmps.getD t undef:=fun _ _=>rfl
 -- the slots of K and B stay: a table that says so
 have hA:=h.at
 refine hT (zAU K0 K B a) ⟨hA.gr,hA.size,hA.nd,fun t=> ?_⟩ ?_ fun a' w' hA'=> ?_
 ·by_cases ht:t∈K.map (·.1)++B.map (·.t)
  ·unfold zAU;rw [if_pos ht];exact ⟨hA.sl t,rfl⟩
  ·unfold zAU;rw [if_neg ht];exact hA.sl t
 ·-- the obligations hold with the stronger table
  have hkn: ∀t,t∈K.map (·.1)++B.map (·.t)->((zM L).map (·.1)).contains t=false:=fun t ht=>by
   cases hc:((zM L).map (·.1)).contains t with
   |false=>rfl
   |true=>
    exfalso
    have hm:=pW.1 hc
    rw [hkeys] at hm
    obtain ⟨i,_,he⟩:=pU.1 (pK.1 hks t hm)
    exact hsame t ht i (by simpa using he)
  have hle: ∀t v W,(upd (zAU K0 K B a) (zM L) t).p v W->(upd (jZ (K0++K) B) (zM L) t).p v W:=fun t v W hh=>by
   by_cases ht:t∈K.map (·.1)++B.map (·.t)
   ·rw [jP (hkn t ht)] at hh ⊢
    unfold zAU at hh
    rw [if_pos ht] at hh
    exact hh.1
   ·have: ∀l:List (Nat×SF),upd (zAU K0 K B a) l t=upd (jZ (K0++K) B) l t:=fun l=>by
     induction l with
     |nil=>exact if_neg ht
     |cons q l ih=>
      show (bif Nat.beq q.1 t then q.2 else upd _ l t)=(bif Nat.beq q.1 t then q.2 else upd _ l t)
      rw [ih]
    rwa [this] at hh
  have hge: ∀t,(∃i,zW ops i=some t)-> ∀v W,(upd (jZ (K0++K) B) (zM L) t).p v W->(upd (zAU K0 K B a) (zM L) t).p v W:=fun t ⟨i,hi⟩ v W hh=>by
   have ht: ¬t∈K.map (·.1)++B.map (·.t):=fun ht=>hsame t ht i hi
   have: ∀l:List (Nat×SF),upd (zAU K0 K B a) l t=upd (jZ (K0++K) B) l t:=fun l=>by
    induction l with
    |nil=>exact if_neg ht
    |cons q l ih=>
     show (bif Nat.beq q.1 t then q.2 else upd _ l t)=(bif Nat.beq q.1 t then q.2 else upd _ l t)
     rw [ih]
   rwa [this]
  have hconv: ∀(o:Oper),o∈ops.toList->qP F m P w ops (upd (jZ (K0++K) B) (zM L)) o->qP F m P w ops (upd (zAU K0 K B a) (zM L)) o:=by
   intro o ho hg
   have hdst: ∀d,o.dst=some d-> ∃i,zW ops i=some d:=fun d hd=>by
    obtain ⟨i,hi⟩:=List.getElem?_of_mem ho
    exact ⟨i,by rw [qM (o:=o) (by simpa using hi)];exact hd⟩
   have hop:zKe F m P w (upd (jZ (K0++K) B) (zM L)) o->zKe F m P w (upd (zAU K0 K B a) (zM L)) o:=fun h1 b W K' Q' hb hr hK'=>
    h1 b W K' Q' hb (fun t ht=>hle t _ _ (hr t ht)) fun v W' hv hb'=>hK' v W' (fun d hd=>hge d (hdst d hd) _ _ (hv d hd)) hb'
   unfold qP at hg ⊢
   cases hgd:o.guard with
   |none=>rw [hgd] at hg;exact hop hg
   |some q=>
    rw [hgd] at hg
    obtain ⟨g,bv,h1,h2,h3,h4⟩:=hg
    exact ⟨g,bv,h1,fun v W hh=>h2 v W (hle g v W hh),fun e=>hop (h3 e),fun e=>⟨fun d hd W=>hge d (hdst d hd) _ _ ((h4 e).1 d hd W),(h4 e).2⟩⟩
  have hall: ∀l:List Oper,(∀o,o∈l->o∈ops.toList)->Obs F m P w ops (upd (jZ (K0++K) B) (zM L)) l->Obs F m P w ops (upd (zAU K0 K B a) (zM L)) l:=by
   intro l
   induction l with
   |nil=>intro _ _;trivial
   |cons o l ih=>intro hm ho;exact ⟨hconv o (hm o fK) ho.1,ih (fun o' ho'=>hm o' (by simp [ho'])) ho.2⟩
  exact hall _ (fun o ho=>sH ho) hobs
 ·have hg:=hA'.gr
  have hslot: ∀t,t∈K.map (·.1)++B.map (·.t)->a'.tmps.getD t undef=a.tmps.getD t undef:=fun t ht=>by
   have h1:=hA'.sl t
   unfold zCs at h1
   have h2:((List.range ops.size).any fun i=>decide (k<=i)&&(zW ops i==some t))=false:=by
    refine rM.2 fun i _=> ?_
    have:=hsame t ht i
    simp [this]
   rw [h2] at h1
   have h3:((zM L).map (·.1)).contains t=false:=by
    cases hc:((zM L).map (·.1)).contains t with
    |false=>rfl
    |true=>
     exfalso
     have hm:=pW.1 hc
     rw [hkeys] at hm
     obtain ⟨i,_,he⟩:=pU.1 (pK.1 hks t hm)
     exact hsame t ht i (by simpa using he)
   rw [show (bif false then SF.any else upd _ (zM L) t)=upd _ (zM L) t from rfl,jP h3,zAU,if_pos ht] at h1
   exact h1.2
  have hrow: ∀q,q∈zM L->q.2.p (a'.tmps.getD q.1 undef) w':=fun q hm2=>by
   have h1:=hA'.sl q.1
   obtain ⟨i,hi,he⟩:=pU.1 (pK.1 hks q.1 (by rw [<-hkeys];exact pP.2 ⟨_,hm2,rfl⟩))
   have hik:=pL.1 hi
   have he:zW ops i=some q.1:=by simpa using he
   unfold zCs at h1
   have h2:((List.range ops.size).any fun j=>decide (k<=j)&&(zW ops j==some q.1))=false:=by
    refine rM.2 fun j _=> ?_
    by_cases hj:k<=j
    ·have:zW ops j≠some q.1:=fun e=>by
      obtain ⟨oi,ho1,hd1⟩:=y9 he
      obtain ⟨oj,ho2,hd2⟩:=y9 e
      exact zAa hap ho1 ho2 oN hd1 hd2
     simp [this]
    ·simp [hj]
   rw [h2,show (bif false then SF.any else upd (zAU K0 K B a) (zM L) q.1)=upd (zAU K0 K B a) (zM L) q.1 from rfl,zBY (q:=q) (by rw [hkeys];exact hnd) hm2] at h1
   exact h1
  refine hfin a' w' ⟨h.gr.trans hg,hA'.size,hA'.nd,fun q hq=> ?_,h.bx.keep hg (zS hg) B fun x hx=>hslot _ (rU _ (pP.2 ⟨x,hx,rfl⟩)),zAl h.mks hg,h.so.imp (fun hu q hq=>(by
   rcases rI.1 hq with hq|hq
   ·obtain ⟨f,e,_⟩:=jO hq;exact ⟨f,e⟩
   ·exact hu q (rU _ hq))) (fun x=>x)⟩ hrow
  rcases rI.1 hq with hq|hq
  ·obtain ⟨f,hqf,hm⟩:=jO hq
   have h1:=hrow (q.1,f.tS) (pP.2 ⟨_,hm,rfl⟩)
   rw [hqf]
   exact h1
  ·rw [hslot q.1 (sI _ (pP.2 ⟨q,hq,rfl⟩))]
   exact KF.us (h.sl q (rU _ hq)) (zS hg)
theorem zHR {id:Nat} (K0:List (Nat×KF)) (pre:List Nat) (k:Nat) (L:List (Nat×Rw)) (hmix:P.follows .mixedOrders=true) (h:StS S w0 (K0++K) B n ds a w)
  (hchk:(zBL ops pre k n (L.map (·.1))&&zAT ops (K.map (·.1)++B.map (·.t))&&zAD (L.map (·.1)))=true)
  (hobs:Obs F m P w ops (upd (jZ (K0++K) B) (zM L)) (ops.toList.take k))
  (hfin: ∀Q',(∀a w,Q .normal a w->Q' .normal a w)-> ∀a w,StS S w0 (zBB L++K) B n ds a w->zB9 F m P ops Q' k a w):(Code.region id ops true).wpIn F m P Q a w:=by
 simp only [pN] at hchk
 have hkeys:(zM L).map (·.1)=L.map (·.1):=by simp [zM]
 have h0:=hchk.1.1
 unfold zBL at h0
 simp only [pN] at h0
 obtain ⟨⟨⟨⟨⟨⟨⟨⟨⟨⟨⟨⟨⟨⟨⟨hap,_⟩,_⟩,_⟩,_⟩,hks⟩,_⟩,_⟩,_⟩,_⟩,_⟩,_⟩,_⟩,_⟩,_⟩,_⟩:=h0
 exact zEH K0 k L h (fun G' hA hO hF=>zCj pre k (zM L) hmix (by rw [hkeys];exact hchk.1.1) hA hO hF) hap hks hchk.1.2 hchk.2 hobs (fun a w h _=>hfin (qE Q) (fun a w h=>h) a w h)
end
theorem zDs {p:Nat->Prop}: ∀n,p n-> ∃s,p s/\ ∀k,k<s-> ¬p k:=by
 intro n
 induction n using Nat.strongRecOn with
 | _ n ih=>
  intro hn
  by_cases h: ∃k,k<n/\p k
  ·obtain ⟨k,hk,hp⟩:=h
   exact ih k hk hp
  ·exact ⟨n,hn,fun k hk hp=>h ⟨k,hk,hp⟩⟩
section
variable {S:Nat->Prop} {F:Fence} {m:Nat} {P:Wh} {Q:Exit->Act->Wb->Prop} {w0:Wb} {K:List (Nat×KF)} {B:List Bx} {n:Nat} {ds:List Deferred} {a:Act} {w:Wb}
theorem zFN {σ:Type} {c:Code} (I:σ->Prop) (Kf:σ->List (Nat×KF)) (Bf:σ->List Bx) (Df:σ->List Deferred) (mu:σ->Nat) (x0:σ) (hI:I x0) (h0:StS S w0 (Kf x0) (Bf x0) n (Df x0) a w)
  (round: ∀x a w,I x->StS S w0 (Kf x) (Bf x) n (Df x) a w->c.wpIn F m P (Exit.then (fun a' w'=> ∃y,I y/\mu y<mu x/\StS S w0 (Kf y) (Bf y) n (Df y) a' w') Q) a w):(Code.loop c).wpIn F m P Q a w:=by
 have low: ∀a w,(∃k, ∃x,I x/\mu x=k/\StS S w0 (Kf x) (Bf x) n (Df x) a w)-> ∃k,(∃x,I x/\mu x=k/\StS S w0 (Kf x) (Bf x) n (Df x) a w)/\ ∀j,j<k-> ¬ ∃x,I x/\mu x=j/\StS S w0 (Kf x) (Bf x) n (Df x) a w:=
  fun a w ⟨k,hk⟩=>zDs k hk
 open Classical in
 refine wpIn_loop (fun a w=> ∃k, ∃x,I x/\mu x=k/\StS S w0 (Kf x) (Bf x) n (Df x) a w) (fun a w=>if h: ∃k, ∃x,I x/\mu x=k/\StS S w0 (Kf x) (Bf x) n (Df x) a w then Classical.choose (low a w h) else 0) ⟨_,x0,hI,rfl,h0⟩ ?_
 rintro a w hA
 have e0:=rZ (low a w hA)
 obtain ⟨x,hx,hm,hst⟩:=e0.1
 refine rT ?_ (round x a w hx hst)
 intro e a' w' h
 cases e with
 |normal=>
  obtain ⟨y,h1,h2,h3⟩: ∃y,I y/\mu y<mu x/\StS S w0 (Kf y) (Bf y) n (Df y) a' w':=h
  have hA': ∃k, ∃x,I x/\mu x=k/\StS S w0 (Kf x) (Bf x) n (Df x) a' w':=⟨_,y,h1,rfl,h3⟩
  refine ⟨hA', ?_⟩
  simp only [dif_pos hA,dif_pos hA']
  have e1:=rZ (low a' w' hA')
  have:Classical.choose (low a' w' hA')<=mu y:=Nat.not_lt.1 fun hlt=>e1.2 _ hlt ⟨y,h1,rfl,h3⟩
  omega
 |_=>exact h
theorem zDa {σ:Type} {c:Code} (t:Nat) (Cf:σ->CU) (I:σ->Prop) (Kf:σ->List (Nat×KF)) (mu:σ->Nat) (x0:σ) (hI:I x0) (h0:StS S w0 (Kf x0) B n ds a w) (hB:zD5 B t (Cf x0)=B)
  (round: ∀x a w,I x->StS S w0 (Kf x) (zD5 B t (Cf x)) n ds a w->c.wpIn F m P (Exit.then (fun a' w'=> ∃y,I y/\mu y<mu x/\StS S w0 (Kf y) (zD5 B t (Cf y)) n ds a' w') Q) a w):(Code.loop c).wpIn F m P Q a w:=
 zFN I Kf (fun x=>zD5 B t (Cf x)) (fun _=>ds) mu x0 hI (by rw [hB];exact h0) round
theorem zAV {σ:Type} {c:Code} (I:σ->Prop) (Kf:σ->List (Nat×KF)) (mu:σ->Nat) (x0:σ) (hI:I x0) (h0:StS S w0 (Kf x0) B n ds a w)
  (round: ∀x a w,I x->StS S w0 (Kf x) B n ds a w->c.wpIn F m P (Exit.then (fun a' w'=> ∃y,I y/\mu y<mu x/\StS S w0 (Kf y) B n ds a' w') Q) a w):(Code.loop c).wpIn F m P Q a w:=
 zFN I Kf (fun _=>B) (fun _=>ds) mu x0 hI h0 round
theorem StS.popB {x:Bx} (h:StS S w0 K (x::B) n ds a w):StS S w0 K B n ds a w:=⟨h.gr,h.size,h.nd,h.sl,h.bx.2,h.mks,h.so⟩
theorem StS.renew (h:St w0 K B n ds a w) (K':List (Nat×KF)) (hK: ∀q,q∈K'->q∈K∨ ∃g,q.2=KF.u g/\(q.1,KF.o g.tS)∈K):St w0 K' B n ds a w:=
 ⟨h.gr,h.size,h.nd,fun q hq=>by
  rcases hK q hq with h1|⟨g,e,h1⟩
  ·exact h.sl q h1
  ·have:=h.sl _ h1
   rw [e]
   exact g.us _ _ _ this (zS h.gr.below),h.bx,h.mks, .inr fun _ h=>h⟩
end
end Go.Proofs.Wd

namespace Go.Proofs.Wd
open Tryz
open Go.RowKit
structure NewB where
 i:Nat
 d:Nat
 e:We
 cs:List Wc
 f:SF
def SF.isIn (f:SF) (L:List (Nat×SF)) (d:Nat):Prop:=(d,f)∈L
def zMS (al:List NewB) (a:Act):Prop:= ∀q q',q∈al->q'∈al->q.i≠q'.i-> ∀b b',blk (a.tmps.getD q.d undef)=some b->blk (a.tmps.getD q'.d undef)=some b'->b≠b'
section
variable {S:Nat->Prop} {w0:Wb} {K:List (Nat×KF)} {B:List Bx} {n:Nat} {ds:List Deferred} {a:Act} {w:Wb} {F:Fence} {m:Nat} {P:Wh} {ops:Array Oper} {Q:Exit->Act->Wb->Prop}
theorem qT {te:We} {cs:List Wc} {W:Wb} {C:CU} (hC: ∀W,C.p cs W) (hn:cs.all zY=true) (v:Wc) (w:Wb) (h:(SF.own W te cs).p v w):(wF W te C).p v w:=by
 obtain ⟨b,h1,h2,h3⟩:=h
 exact ⟨b,cs,h1,h2,h3,hC w,hn⟩
theorem StS.adoptA (h:StS S w0 K B n ds a w) {W:Wb} {te:We} {C:CU} (r:Bool) (t:Nat) (hv:(wF W te C).p (a.tmps.getD t undef) w) (hW:BlS S w0 W) (hB: ∀y,y∈B->y.b<W.heap.size∨(r=true/\y.r=true)∨ ∀b,blk (a.tmps.getD t undef)=some b->y.b≠b): ∃b,W.heap.size<=b/\blk (a.tmps.getD t undef)=some b/\StS S w0 K (⟨t,te,C,b,r⟩::B) n ds a w:=by
 obtain ⟨b,cs,h1,h2,h3,h4,h5⟩:=hv
 refine ⟨b,h2,by rw [h1];rfl,h.gr,h.size,h.nd,h.sl,⟨⟨cs,h1, .inr (.inl (pV hW.size h2)),h3,h4,h5,fun y hy=> ?_⟩,h.bx⟩,h.mks,h.so⟩
 rcases hB y hy with e|e|e
 ·left
  show y.b≠b
  omega
 ·exact .inr e
 ·exact .inl (e b (by rw [h1];rfl))
end
/-! ### Answers of a function that ranges over functions -/
theorem zLZ {B:Nat} {W W':Wb} (h:Oth B W W'):jS W W':=fun p _ hp=>(h.cell p).trans hp
theorem UF.oth (f:UF) {B:Nat} {v:Wc} {W W':Wb} (h:Oth B W W') (hv:f.p v W):f.p v W':=f.us _ _ _ hv (zLZ h)
theorem zES {B b:Nat} {W W':Wb} (h:Oth B W W') {cs:Array Wc} {t:We} {z:Nat×Nat} (hc:W.heap[b]?=some (.cells cs t z)):W'.heap[b]?=some (.cells cs t z):=by
 rcases h.block b with e|⟨_,⟨o,ho,hn⟩,_⟩
 ·exact e.trans hc
 ·rw [hc] at ho
  cases ho
  cases hn
section
variable {S:Nat->Prop} {F:Fence} {m:Nat} {P:Wh} {Q:Exit->Act->Wb->Prop} {w0:Wb} {K:List (Nat×KF)} {B:List Bx} {n:Nat} {ds:List Deferred} {a:Act} {w:Wb}
theorem StS.resM (h:St w0 K B n ds a w) {fn:Func} {f:SF} {v:Wc} (hr: ∀w',Oth w0.heap.size w w'->(results fn a.tmps).run P w'= .ok v w') (hv: ∀w',Oth w0.heap.size w w'->f.p v w'):bodyPostM Fence.wide 0 P fn (Ret w0 f) .ret a w:=by
 obtain ⟨Ds,hm⟩:=h.mks
 show LeavesInM Fence.wide 0 P fn a.tmps (Ret w0 f) a.defers .returning w
 rw [h.nd]
 exact qD w hr Ds _ w hm (Oth.refl _ _) fun w' ho=>⟨v,rfl,hv w' ho,zAf h.gr.below ho lr⟩
theorem StS.cellM (h:StS S w0 K B n ds a w) {t kk:Nat} {e:We} {C:CU} (hsz:zAb P e=some kk) {y:Bx} (hB:zDw B t=some y) (hyC:y.c=C) (hyl: ∀cs W,C.p cs W->cs.length=kk) {N:Nat}: ∃(cs:List Wc) (b:Nat),a.tmps[t]?.getD undef= pO b 0/\C.p cs w/\ ∀w',Oth N w w'->(loadVar e ⟨b,0,none⟩).run P w'= .ok (.agg cs.toArray) w':=by
 obtain ⟨hy,rfl⟩:=jE hB
 subst hyC
 obtain ⟨cs,h1,h2,h3,h4,h5⟩:=h.bx.mem y hy
 exact ⟨cs,y.b,by rw [<-pS];exact h1,h4,fun w' ho=>zEe hsz (hyl _ _ h4) (zES ho h3)⟩
def inB (B:List Bx) (k:Nat):Prop:= ∃x,x∈B/\x.b=k/\x.r=false
structure Rnd (N:Nat) (C:Nat->Prop) (W W':World):Prop where
 os:W'.os=W.os
 tape:W'.tape=W.tape
 output:W'.output=W.output
 size:W.heap.size<=W'.heap.size
 low: ∀k:Nat,k<N-> ¬C k->W'.heap[k]?=W.heap[k]?
 cells: ∀(k:Nat) (o:Obj),W.heap[k]?=some o->o.isCells=true-> ¬C k->W'.heap[k]?=some o
 keep:jS W W'
structure Itr (N:Nat) (W W':World):Prop where
 os:W'.os=W.os
 tape:W'.tape=W.tape
 output:W'.output=W.output
 size:W.heap.size<=W'.heap.size
 low: ∀k:Nat,k<N->W'.heap[k]?=W.heap[k]?
 oth: ∀(k:Nat) (o:Obj),W.heap[k]?=some o->o.isCells=false->W'.heap[k]?=some o
 keep:jS W W'
def Ev (Ef:Nat->List UF) (k:Nat) (xs:Array Wc) (W:Wb):Prop:=xs.size=(Ef k).length/\ ∀(j:Nat) (f:UF),(Ef k)[j]?=some f->f.p (xs.getD j undef) W
def ItC (P:Wh) (gf:Nat) (lb:Array Wc) (Ef:Nat->List UF) (N:Nat) (endless:Prop) (C:Nat->Prop) (w:Wb):Prop:=
 ∀(l:Nat) (J:Nat->Wb->Prop) (Z:Wb->Prop) (W:Wb),w.heap.size<=W.heap.size->Below w.heap.size w W->jS w W->
  (∀k W1 W2,J k W1->Itr W.heap.size W1 W2->J k W2)->(∀W1 W2,Z W1->Itr W.heap.size W1 W2->Z W2)->(endless-> ∀W, ¬J N W)->
  (∀k W1 xs,k<N->J k W1->Ev Ef k xs W1->YieldAt Fence.wide 0 P l xs W1 fun e W'=>((e= .returned (.bool true)/\J (k+1) W')∨(e= .returned (.bool false)/\Z W'))/\Rnd w.heap.size C W1 W')->
  J 0 W->Calls P gf (#[.func (.yield l) #[] #[]]++lb) W fun e W'=>(∃v,e= .returned v)/\(J N W'∨Z W')
theorem vG {S':Nat->Prop} {w1 W W':Wb} {a1:Act}: ∀(B B':List Bx),B'.map (fun x=>(x.t,x.e,x.b,x.r))=B.map (fun x=>(x.t,x.e,x.b,x.r))->yQ S w0 a W B->yQ S' w1 a1 W' B'->yQ S w0 a W' B'
 | [], [],_,_,_=>trivial
 | [],_::_,e,_,_=>by cases e
 |_::_, [],e,_,_=>by cases e
 |x::B,x'::B',e,h,h'=>by
  simp only [rF,List.cons.injEq,rV] at e
  obtain ⟨⟨e1,e2,e3,e4⟩,e5⟩:=e
  obtain ⟨⟨cs,h1,h2,_⟩,hr⟩:=h
  obtain ⟨⟨cs',_,_,g3,g4,g5,g6⟩,gr⟩:=h'
  exact ⟨⟨cs',by rw [e1,e3];exact h1,by rw [e3,e4];exact h2,g3,g4,g5,g6⟩,vG B B' e5 hr gr⟩
theorem wS {S':Nat->Prop} {w1 W:Wb} {a1:Act}: ∀(B:List Bx),(∀x,x∈B->x.r=true∨w1.heap.size<=x.b∨S' x.b)->(∀x,x∈B->a1.tmps.getD x.t undef=a.tmps.getD x.t undef)->yQ S w0 a W B->yQ S' w1 a1 W B
 | [],_,_,_=>trivial
 |x::B,hS,hsl,h=>by
  obtain ⟨⟨cs,h1,_,h3⟩,hr⟩:=h
  exact ⟨⟨cs,(hsl x (rW ..)).trans h1,hS x (rW ..),h3⟩,wS B (fun y hy=>hS y (rX _ hy)) (fun y hy=>hsl y (rX _ hy)) hr⟩
theorem wR {W W':Wb} (hk:jS W W'): ∀(B:List Bx),(∀x,x∈B->W'.heap[x.b]?=W.heap[x.b]?)->yQ S w0 a W B->yQ S w0 a W' B
 | [],_,_=>trivial
 |x::B,hs,h=>by
  obtain ⟨⟨cs,h1,h2,h3,h4,h5⟩,hr⟩:=h
  exact ⟨⟨cs,h1,h2,(hs x (rW ..)).trans h3,x.c.us _ _ _ h4 hk,h5⟩,wR hk B (fun y hy=>hs y (rX _ hy)) hr⟩
theorem zDW {W:Wb} {b:Nat} {cs:List Wc} {t:We} {z:Nat×Nat} (h3:W.heap[b]?=some (.cells cs.toArray t z)) (h5:cs.all zY=true) {q:Addr} (hq:q.block=b) {u:Wc} (hu:W.cell? q=some u):zY u=true:=by
 have h6:W.cell? q=if q.spot.isSome then none else cs.toArray[q.off]?:=by
  unfold World.cell?
  rw [hq,h3]
 rw [h6] at hu
 split at hu
 ·cases hu
 ·exact pK.1 h5 _ (List.mem_of_getElem? (by simpa using hu))
theorem zBy {W:Wb} {b:Nat} {o:Obj} (h:W.heap[b]?=some o) (hc:o.isCells=false) {q:Addr} (hq:q.block=b):W.cell? q=none:=zDC (a:=q) (by rw [hq];exact h) hc
theorem zE1 {W W':Wb} {l:Nat} {o:Obj} (hb:BlS (fun k=>inB B k∨k=l) W W') (hbx:yQ S w0 a W B) (ho:W.heap[l]?=some o) (hc:o.isCells=false):jS W W':=fun q u hq=>by
 have hlt:=sJ W _ hq
 by_cases e:inB B q.block∨q.block=l
 ·exfalso
  rcases e with ⟨x,hx,e1,_⟩|e1
  ·obtain ⟨cs,_,_,h3,_,h5⟩:=hbx.mem x hx
   have:=zDW h3 h5 e1.symm hq
   cases this
  ·rw [zBy ho hc e1] at hq
   cases hq
 ·exact (rJ (hb.block _ hlt e)).trans hq
theorem StS.itr (h:StS S w0 K B n ds a w) {N:Nat} {w':Wb} (hi:Itr N w w') (hN:w0.heap.size<=N) (hB: ∀x,x∈B->x.b<N):StS S w0 K B n ds a w':=
 ⟨⟨hi.os.trans h.gr.os,hi.tape.trans h.gr.tape,hi.output.trans h.gr.output,pV h.gr.size hi.size,fun k hk hs=>(hi.low k (rK hk hN)).trans (h.gr.block k hk hs)⟩,h.size,h.nd,fun q hq=>KF.us (h.sl q hq) hi.keep,
  wR hi.keep B (fun x hx=>hi.low _ (hB x hx)) h.bx,h.mks.imp fun _ hm=>hm.keep fun k o ho hc=>hi.oth k o ho hc,h.so⟩
theorem zL9 {W W':Wb} {C:Nat->Prop} {N:Nat} (hb:BlS C W W') (_hN: ∀k,C k->k<W.heap.size) (hNW:N<=W.heap.size) {l:Nat} {o:Obj} (hl:N<=l) (ho:W.heap[l]?=some o) (hc:o.isCells=false) {C':Nat->Prop} (hC: ∀k,C k->C' k∨k=l) (hk:jS W W'):Rnd N C' W W':=by
 refine ⟨hb.os,hb.tape,hb.output,hb.size,fun k hk' hn=>hb.block k (rK hk' hNW) fun hc'=> ?_,fun k o' hk' hcc hn=>(hb.block k (pQ.1 hk').1 fun hc'=> ?_).trans hk',hk⟩
 ·rcases hC k hc' with e|e
  ·exact hn e
  ·omega
 ·rcases hC k hc' with e|e
  ·exact hn e
  ·subst e
   rw [ho] at hk'
   cases hk'
   rw [hc] at hcc
   cases hcc
theorem StS.put (h:StS S w0 K B n ds a w) {l:Nat} {o o':Obj} (ho:w.heap[l]?=some o) (hc:o.isCells=false) (hD: ∀Ds,Marks w0.heap.size w ds Ds->l ∉ Ds) (hS:S l∨w0.heap.size<=l):StS S w0 K B n ds a (w.putObj l o'):=by
 have hk:jS w (w.putObj l o'):=fun q u hq=>by
  by_cases e:q.block=l
  ·rw [zBy ho hc e] at hq
   cases hq
  ·exact (rJ (pT e)).trans hq
 refine ⟨⟨h.gr.os,h.gr.tape,h.gr.output,by rw [sK];exact h.gr.size,fun k hk' hs=>(pT (fun e=> ?_)).trans (h.gr.block k hk' hs)⟩,h.size,h.nd,fun q hq=>KF.us (h.sl q hq) hk,wR hk B (fun x hx=>pT fun e=> ?_) h.bx, ?_,h.so⟩
 ·subst e
  rcases hS with hS|hS
  ·exact hs hS
  ·omega
 ·obtain ⟨cs,_,_,h3,_⟩:=h.bx.mem x hx
  rw [e,ho] at h3
  cases h3
  cases hc
 ·obtain ⟨Ds,hm⟩:=h.mks
  refine ⟨Ds,hm.eq,hm.nodup,fun D hd=>⟨(hm.at_ D hd).1,(pT fun e=> ?_).trans (hm.at_ D hd).2⟩⟩
  subst e
  exact hD Ds hm hd
/-! ### The values that a round is handed -/
theorem zEB: ∀(L:List (Nat×Wc)) (t:Array Wc),(L.foldl (fun t (p,v)=>t.setIfInBounds p v) t).size=t.size
 | [],_=>rfl
 |_::L,t=>by rw [sL,zEB L];simp
theorem zBF (q:Nat): ∀(L:List (Nat×Wc)) (t:Array Wc),q ∉ L.map (·.1)->(L.foldl (fun t (p,v)=>t.setIfInBounds p v) t).getD q undef=t.getD q undef
 | [],_,_=>rfl
 |(p,v)::L,t,h=>by
  rw [rF,pY,not_or] at h
  rw [sL,zBF q L _ h.2]
  exact zBC (fun e=>h.1 e.symm)
theorem zGB: ∀(L:List (Nat×Wc)) (t:Array Wc) (p:Nat) (v:Wc),(L.map (·.1)).Nodup->(p,v)∈L->p<t.size->(L.foldl (fun t (p,v)=>t.setIfInBounds p v) t).getD p undef=v
 | (p',v')::L,t,p,v,hn,hm,ht=>by
  rw [rF,sM] at hn
  rw [sL]
  rcases pY.1 hm with e|hm
  ·cases e
   rw [zBF _ L _ hn.1]
   simp [ht]
  ·exact zGB L _ p v hn.2 hm (by simpa using ht)
theorem BlS.sub {S S':Nat->Prop} {w w':Wb} (h:BlS S w w') (hs: ∀k,S k->S' k):BlS S' w w':=⟨h.os,h.tape,h.output,h.size,fun k hk hn=>h.block k hk fun hh=>hn (hs k hh)⟩
theorem zHd: ∀{Ds Ds':List Nat},Ds.map mark=Ds'.map mark->Ds=Ds'
 | [], [],_=>rfl
 | [],_::_,e=>by cases e
 |_::_, [],e=>by cases e
 |D::Ds,D'::Ds',e=>by
  simp only [rF,List.cons.injEq] at e
  rw [zHd e.2,show D=D' from by simpa [mark] using e.1]
theorem StS.rebase {w':Wb} (h:StS S w0 K B n [] a w) (hk:jS w w') (hS: ∀q,w0.heap.size<=q->S q) (hb: ∀x,x∈B->w'.heap[x.b]?=w.heap[x.b]?):StS S w' K B n [] a w':=by
 have hu: ∀q,q∈K-> ∃f,q.2= .u f:=by
  rcases h.so with hu|hs
  ·exact hu
  ·exact absurd (hS w0.heap.size lr) (hs _)
 refine ⟨BlS.refl _ _,h.size,h.nd,fun q hq=> ?_,wR hk B hb (wS B (fun x hx=> ?_) (fun _ _=>rfl) h.bx),⟨[],Marks.nil _ _⟩, .inl hu⟩
 ·obtain ⟨f,e⟩:=hu q hq
  have:=h.sl q hq
  rw [e] at this ⊢
  exact f.us _ _ _ this hk
 ·obtain ⟨_,_,hc,_⟩:=h.bx.mem x hx
  rcases hc with hc|hc|hc
  ·exact .inl hc
  ·exact .inr (.inr (hS _ hc))
  ·exact .inr (.inr hc)
theorem jY: ∀{l:List Nat},zAD l=true->l.Nodup
 | [],_=>List.nodup_nil
 |x::l,h=>by
  unfold zAD at h
  rw [pN] at h
  refine sM.2 ⟨fun hm=> ?_,jY h.2⟩
  rw [pW.2 hm] at h
  exact absurd h.1 (by decide)
/-! ### The range -/
def zTa:KF->Bool
 | .u _=>true
 | .o _=>false
def zU7 (R1:Act->Wb->Prop) (cz:Code) (R2:Act->Wb->Prop):Exit->Act->Wb->Prop
 | .normal,a,W=>R1 a W
 | .exit id,a,W=>cz= .exit id/\R2 a W
 | .ret,a,W=>cz= .ret/\R2 a W
 | .goto t,a,W=>cz= .goto t/\R2 a W
 | .panic _,_,_=>False
 | .outgrown,_,_=>False
abbrev zGy (x:Bx):Nat×We×Nat×Bool:=(x.t,x.e,x.b,x.r)
theorem zIi {B B':List Bx} (e:B'.map zGy=B.map zGy) {k:Nat} (h:inB B' k):inB B k:=by
 obtain ⟨x,hx,h1,h2⟩:=h
 have:zGy x∈B.map zGy:=by rw [<-e];exact pP.2 ⟨x,hx,rfl⟩
 obtain ⟨y,hy,hxy⟩:=pP.1 this
 simp only [zGy,rV] at hxy
 exact ⟨y,hy,hxy.2.2.1.trans h1,hxy.2.2.2.trans h2⟩
theorem zIo {B B':List Bx} (e:B'.map zGy=B.map zGy) {x:Bx} (hx:x∈B'): ∃y,y∈B/\y.t=x.t/\y.b=x.b/\y.r=x.r:=by
 have:zGy x∈B.map zGy:=by rw [<-e];exact pP.2 ⟨x,hx,rfl⟩
 obtain ⟨y,hy,hxy⟩:=pP.1 this
 simp only [zGy,rV] at hxy
 exact ⟨y,hy,hxy.1,hxy.2.2.1,hxy.2.2.2⟩
theorem StS.turned (h:StS S w0 K B n ds a w) {B':List Bx} {S':Nat->Prop} {w1 w':Wb} {a1:Act} {l:Nat} {o:Obj} (hb:BlS (fun q=>inB B q∨q=l) w w') (ho:w.heap[l]?=some o) (hc:o.isCells=false) (hl:w0.heap.size<=l)
  (hD: ∀Ds,Marks w0.heap.size w ds Ds->l ∉ Ds) (hk:B'.map zGy=B.map zGy) (hx:yQ S' w1 a1 w' B'):StS S w0 K B' n ds a w':=by
 have hU:=zE1 hb h.bx ho hc
 have hin: ∀k,k<w0.heap.size-> ¬S k-> ¬(inB B k∨k=l):=fun k hk hs hh=>by
  rcases hh with ⟨x,hx,h1,h2⟩|hh
  ·obtain ⟨_,_,hc,_⟩:=h.bx.mem x hx
   rcases hc with hc|hc|hc
   ·rw [h2] at hc;cases hc
   ·omega
   ·exact hs (h1▸hc)
  ·omega
 refine ⟨⟨hb.os.trans h.gr.os,hb.tape.trans h.gr.tape,hb.output.trans h.gr.output,pV h.gr.size hb.size,fun k hk hs=>(hb.block k (rK hk h.gr.size) (hin k hk hs)).trans (h.gr.block k hk hs)⟩,
  h.size,h.nd,fun q hq=>KF.us (h.sl q hq) hU,vG B B' hk h.bx hx, ?_,h.so⟩
 obtain ⟨Ds,hm⟩:=h.mks
 refine ⟨Ds,hm.eq,hm.nodup,fun D hd=>⟨(hm.at_ D hd).1,(hb.block D (hm.lt D hd) fun hh=> ?_).trans (hm.at_ D hd).2⟩⟩
 rcases hh with ⟨x,hx,h1,_⟩|hh
 ·obtain ⟨cs,_,_,h3,_⟩:=h.bx.mem x hx
  rw [h1,(hm.at_ D hd).2] at h3
  cases h3
 ·subst hh
  exact hD Ds hm hd
theorem StS.more (h:StS S w0 K B n ds a w) {D:Nat} (hB:w0.heap.size<=D) (hD:w.heap[D]?=some (.deferred (some []))) (hn: ∀Ds,Marks w0.heap.size w ds Ds->D ∉ Ds):StS S w0 K B n (mark D::ds) { a with defers:=mark D::a.defers } w:=
 ⟨h.gr,h.size,by rw [h.nd],h.sl,wS (a:=a) B (fun x hx=>(h.bx.mem x hx).elim fun _ hh=>hh.2.1) (fun _ _=>rfl) h.bx,(h.mks.elim fun Ds hm=>⟨D::Ds,hm.more (hn Ds hm) hB hD⟩),h.so⟩
theorem zIC {g:Wg} {ps:Array Tmp} {assign body:Code} {gf:Nat} {lb:Array Wc} {Ef:Nat->List UF} {N:Nat} {endless:Prop}
  (Bf:Nat->List Bx) (Bz:List Bx) (cz:Code) (Kr:Nat->List (Nat×KF)) (h:StS S w0 K (Bf 0) n ds a w)
  (hg: ∀v W,(Wd.fct (jZ K (Bf 0)) g).p v W->v= .func (.func gf) #[] lb) (eg: ∀args w,(callFunc gf args).run P w= .ok (.enter gf args) w)
  (hit:ItC P gf lb Ef N endless (inB (Bf 0)) w) (hEl: ∀k,(Ef k).length=ps.size)
  (hKr: ∀k q,q∈Kr k->(q∈K/\zTa q.2=true/\ps.toList.contains q.1=false)∨ ∃(j:Nat) (f:UF),ps[j]?=some q.1/\(Ef k)[j]?=some f/\q.2= .u f)
  (hps:zAD ps.toList=true) (hpl:(ps.toList.all fun p=>Nat.blt p n)=true) (hpB:((Bf 0).all fun x=> !ps.toList.contains x.t)=true)
  (hBf: ∀k,(Bf k).map zGy=(Bf 0).map zGy) (hBz:Bz.map zGy=(Bf 0).map zGy) (hE0:endless->0<N)
  (rounds: ∀l k xs W,k<N->StS S w0 K (Bf k) n ds a W->StS (fun q=>inB (Bf 0) q∨W.heap.size<=q) W (Kr k) (Bf k) n [] { tmps:=(ps.zip xs).foldl (fun t (p,v)=>t.setIfInBounds p v) a.tmps,defers:= [] } W->
   assign.wpIn (Fence.wide.inRound l) 0 P (Exit.then (fun a1 W1=>BlS (fun q=>inB (Bf 0) q∨W.heap.size<=q) W W1/\ ∀W2,(∀p,W2.cell? p=W1.cell? p)->(∀K B,StS (fun q=>inB (Bf 0) q∨W.heap.size<=q) W K B n [] a1 W1->StS (fun q=>inB (Bf 0) q∨W.heap.size<=q) W2 K B n [] a1 W2)->
    body.wpIn (Fence.wide.inRound l) 0 P (zU7 (fun a2 W3=>StS (fun q=>inB (Bf 0) q∨W.heap.size<=q) W2 [] (Bf (k+1)) n [] a2 W3/\(endless->k+1<N)) cz (fun a2 W3=>StS (fun q=>inB (Bf 0) q∨W.heap.size<=q) W2 [] Bz n [] a2 W3)) a1 W2) (fun _ _ _=>False))
    { tmps:=(ps.zip xs).foldl (fun t (p,v)=>t.setIfInBounds p v) a.tmps,defers:= [] } W)
  (done: ¬endless-> ∀D W,StS S w0 K (Bf N) n (mark D::ds) { a with defers:=mark D::a.defers } W->Q .normal { a with defers:=mark D::a.defers } W)
  (stop: ∀D W,StS S w0 K Bz n (mark D::ds) { a with defers:=mark D::a.defers } W->cz.wpIn Fence.wide 0 P Q { a with defers:=mark D::a.defers } W):
  (Code.rangeFunc g ps assign body).wpIn Fence.wide 0 P Q a w:=by
 refine wpIn_rangeFunc ?_
 intro fn hfn
 show ∃l mark w₁ d w₁' f args w₂,(Instr.enterLoop fn a.tmps ps assign body none).run P w=_/\_
 obtain ⟨rec,hrec⟩: ∃rec:LoopState->Wf Code->Loop,rec=fun st pe=>{ state:=st,pending:=pe,fn,tmps:=a.tmps,params:=ps,assign,body,defers:=w.heap.size }:=⟨_,rfl⟩
 obtain ⟨W1,hW1⟩: ∃W1,(w.alloc (.deferred (some []))).alloc (.loop (rec .ready none))=W1:=⟨_,rfl⟩
 have hL1:W1.heap[w.heap.size+1]?=some (.loop (rec .ready none)):=by
  rw [<-hW1];have:=World.alloc_heap_new (w.alloc (.deferred (some []))) (.loop (rec .ready none));rwa [World.size_alloc] at this
 have hK1:W1.heap[w.heap.size]?=some (.deferred (some [])):=by
  rw [<-hW1];exact (Below.heap_alloc _ _ _ fK).trans (World.alloc_heap_new w _)
 have hb1:Below w.heap.size w W1:=by
  rw [<-hW1];exact ((pR _ w).alloc lr _).alloc fK _
 have hz1:W1.heap.size=w.heap.size+2:=by rw [<-hW1];simp
 have hgv:a.eval g= .func (.func gf) #[] lb:=hg _ _ (h.fct g)
 have hold:=h.old
 have hw0:=h.gr.size
 have hi1:Itr w.heap.size w W1:=⟨hb1.os,hb1.tape,hb1.output,hb1.size,fun k hk=>hb1.block k hk,fun k o ho _=>(hb1.block k (pQ.1 ho).1).trans ho,zS hb1⟩
 have hs1:=h.itr hi1 hw0 hold
 have hbk: ∀{k:Nat} {x:Bx},x∈Bf k->x.b<w.heap.size:=fun {k x} hx=>by
  obtain ⟨y,hy,_,e,_⟩:=zIo (hBf k) hx
  rw [<-e]
  exact hold y hy
 have hbz: ∀{x:Bx},x∈Bz->x.b<w.heap.size:=fun {x} hx=>by
  obtain ⟨y,hy,_,e,_⟩:=zIo hBz hx
  rw [<-e]
  exact hold y hy
 have hin: ∀{q:Nat},inB (Bf 0) q->q<w.heap.size:=fun {q} ⟨x,hx,e,_⟩=>by rw [<-e];exact hold x hx
 have hinz: ∀(k:Nat) {q:Nat},inB (Bf k) q->inB (Bf 0) q:=fun k _ hq=>zIi (hBf k) hq
 have hDl: ∀{W:Wb} {o:Obj},W.heap[w.heap.size+1]?=some o->(∃r,o= .loop r)-> ∀Ds,Marks w0.heap.size W ds Ds->w.heap.size+1 ∉ Ds:=fun {W o} ho hr Ds hm hh=>by
  obtain ⟨r,rfl⟩:=hr
  rw [(hm.at_ _ hh).2] at ho
  cases ho
 have hDs: ∀{W:Wb} Ds,Marks w0.heap.size W ds Ds-> ∀D,D∈Ds->D<w.heap.size:=fun {W} Ds hm D hd=>by
  obtain ⟨Ds',hm'⟩:=h.mks
  have:Ds=Ds':=by
   have e:=hm.eq.symm.trans hm'.eq
   exact zHd e
  subst this
  exact hm'.lt D hd
 refine ⟨w.heap.size+1, [{ target:= .collected w.heap.size,args:=#[] }],W1,{ target:= .fn (.func gf) lb,args:=#[.func (.yield (w.heap.size+1)) #[] #[]] },W1,gf,
  #[.func (.yield (w.heap.size+1)) #[] #[]]++lb,W1, ?_, ?_, ?_, ?_,fun h=>absurd h (by simp [Fence.wide]), ?_⟩
 ·rw [<-hW1,hrec];exact run_enterLoop_outer _ _ _ _ _
 ·simp only [resolve,hgv]
  simp [go_sem]
 ·intro f' _;trivial
 ·simp [invoke,go_sem,eg]
 ·refine callsIn_wide.2 ((hit (w.heap.size+1)
   (fun k W=>StS S w0 K (Bf k) n ds a W/\(endless->k<N)/\W.heap[w.heap.size+1]?=some (.loop (rec .ready none))/\W.heap[w.heap.size]?=some (.deferred (some [])))
   (fun W=>StS S w0 K Bz n ds a W/\W.heap[w.heap.size+1]?=some (.loop (rec .done (some cz)))/\W.heap[w.heap.size]?=some (.deferred (some [])))
   W1 oN hb1 (zS hb1)
   (fun k A B ⟨h1,h2,h3,h4⟩ hi=>⟨h1.itr hi oN (fun x hx=>by have:=hbk hx;omega),h2,hi.oth _ _ h3 rfl,hi.oth _ _ h4 rfl⟩)
   (fun A B ⟨h1,h3,h4⟩ hi=>⟨h1.itr hi oN (fun x hx=>by have:=hbz hx;omega),hi.oth _ _ h3 rfl,hi.oth _ _ h4 rfl⟩)
   (fun he W hJ=>absurd (hJ.2.1 he) (sN _)) ?_ ⟨hs1,hE0,hL1,hK1⟩).mono ?_)
  ·rintro k W xs hk ⟨hs,hend,hl,hd⟩ ⟨hxs,hev⟩
   have hlt:w.heap.size+1<W.heap.size:=(pQ.1 hl).1
   have hy:=run_yield (P:=P) (args:=xs) hl (by rw [hrec];exact hxs.trans (hEl k))
   rw [hrec] at hy
   have hxs':xs.size=ps.size:=hxs.trans (hEl k)
   have hzip:(ps.zip xs).foldl (fun t (p,v)=>t.setIfInBounds p v) a.tmps=(ps.toList.zip xs.toList).foldl (fun t (p,v)=>t.setIfInBounds p v) a.tmps:=by
    rw [<-Array.foldl_toList,Array.toList_zip]
   have hzf:(ps.toList.zip xs.toList).map (·.1)=ps.toList:=by
    rw [List.map_fst_zip]
    simp [hxs']
   have hnd:ps.toList.Nodup:=jY hps
   have hs0:StS (fun q=>inB (Bf 0) q∨W.heap.size<=q) W (Kr k) (Bf k) n [] { tmps:=(ps.zip xs).foldl (fun t (p,v)=>t.setIfInBounds p v) a.tmps,defers:= [] } W:=by
    refine ⟨BlS.refl _ _, ?_,rfl,fun q hq=> ?_, ?_,⟨[],Marks.nil _ _⟩, .inl fun q hq=> ?_⟩
    ·show ((ps.zip xs).foldl (fun t (p,v)=>t.setIfInBounds p v) a.tmps).size=n
     rw [hzip,zEB]
     exact h.size
    ·show q.2.p W (((ps.zip xs).foldl (fun t (p,v)=>t.setIfInBounds p v) a.tmps).getD q.1 undef) W
     rw [hzip]
     rcases hKr k q hq with ⟨h1,h2,h3⟩|⟨j,f,h1,h2,h3⟩
     ·rw [zBF q.1 _ _ (by rw [hzf];intro hc;rw [pW.2 hc] at h3;cases h3)]
      have:=hs.sl q h1
      cases hq2:q.2 with
      |u f=>rw [hq2] at this;exact this
      |o f=>rw [hq2] at h2;cases h2
     ·have hj:j<ps.size:=(pQ.1 h1).1
      have hjx:j<xs.size:=by omega
      have e1:=hev j f h2
      have e2:xs.getD j undef=xs[j]:=by rw [pS,rD hjx];rfl
      have e3:ps[j]=q.1:=(pQ.1 h1).2
      rw [zGB _ _ q.1 xs[j] (by rw [hzf];exact hnd) (by
       refine List.mem_iff_getElem?.2 ⟨j, ?_⟩
       rw [List.getElem?_zip_eq_some]
       exact ⟨by rw [Array.getElem?_toList];exact h1,by rw [Array.getElem?_toList,rD hjx]⟩) (by
       have:=pK.1 hpl q.1 (by rw [<-e3];exact Array.mem_toList_iff.2 (sO hj))
       rw [h.size]
       simpa using this)]
      rw [h3]
      rw [e2] at e1
      exact e1
    ·refine wS (Bf k) (fun x hx=> ?_) (fun x hx=> ?_) hs.bx
     ·cases hr:x.r with
      |true=>exact .inl rfl
      |false=>exact .inr (.inr (.inl (hinz k ⟨x,hx,rfl,hr⟩)))
     ·show ((ps.zip xs).foldl (fun t (p,v)=>t.setIfInBounds p v) a.tmps).getD x.t undef=_
      rw [hzip]
      obtain ⟨y,hy,e,_⟩:=zIo (hBf k) hx
      refine zBF _ _ _ ?_
      rw [hzf, <-e]
      intro hc
      have:=pK.1 hpB y hy
      rw [pW.2 hc] at this
      cases this
    ·rcases hKr k q hq with ⟨h1,h2,h3⟩|⟨j,f,h1,h2,h3⟩
     ·cases hq2:q.2 with
      |u f=>exact ⟨f,rfl⟩
      |o f=>rw [hq2] at h2;cases h2
     ·exact ⟨f,h3⟩
   have hnl: ¬(inB (Bf 0) (w.heap.size+1)∨W.heap.size<=w.heap.size+1):=fun hh=>by
    rcases hh with hh|hh
    ·have:=hin hh;omega
    ·omega
   have hnd2: ¬(inB (Bf 0) w.heap.size∨W.heap.size<=w.heap.size):=fun hh=>by
    rcases hh with hh|hh
    ·have:=hin hh;omega
    ·omega
   refine ⟨fn,_,assign,body,hy,roundIn_of_wpIn hfn (rT ?_ (rounds (w.heap.size+1) k xs W hk hs hs0))⟩
   intro e a1 Wa hp
   cases e with
   | normal=>
    obtain ⟨hgr,hcont⟩:=hp
    have hla:Wa.heap[w.heap.size+1]?=some (.loop (rec .ready none)):=(hgr.block _ hlt hnl).trans hl
    have hda:Wa.heap[w.heap.size]?=some (.deferred (some [])):=(hgr.block _ oN hnd2).trans hd
    have hlta:w.heap.size+1<Wa.heap.size:=(pQ.1 hla).1
    refine ⟨_,run_beginRound hla (by rw [hrec]), ?_⟩
    obtain ⟨W2,hW2⟩: ∃W2,Wa.putObj (w.heap.size+1) (.loop { rec .ready none with state:= .busy })=W2:=⟨_,rfl⟩
    rw [hW2]
    have hl2:W2.heap[w.heap.size+1]?=some (.loop { rec .ready none with state:= .busy }):=by rw [<-hW2];exact World.putObj_heap_same hlta
    have hd2:W2.heap[w.heap.size]?=some (.deferred (some [])):=by rw [<-hW2];exact (pT oN).trans hda
    have hz2:W2.heap.size=Wa.heap.size:=by rw [<-hW2,sK]
    have hk2:jS Wa W2:=fun q u hq=>by
     by_cases e:q.block=w.heap.size+1
     ·rw [zBy hla rfl e] at hq
      cases hq
     ·rw [<-hW2]
      exact (rJ (pT e)).trans hq
    have hcell: ∀p,W2.cell? p=Wa.cell? p:=fun p=>by
     by_cases e:p.block=w.heap.size+1
     ·rw [zBy hla rfl e,zBy hl2 rfl e]
     ·rw [<-hW2]
      exact rJ (pT e)
    have hbody:=hcont W2 hcell (fun K' B' hs'=>hs'.rebase hk2 (fun _ hq=> .inr hq) (fun x hx=>by
     obtain ⟨cs,_,_,h3,_⟩:=hs'.bx.mem x hx
     rw [<-hW2]
     refine pT fun e=> ?_
     rw [e,hla] at h3
     cases h3))
    refine rT ?_ hbody
    intro e a3 W3 hp3
    have fin: ∀(jump:Wf Code) (B':List Bx),StS (fun q=>inB (Bf 0) q∨W.heap.size<=q) W2 [] B' n [] a3 W3->B'.map zGy=(Bf 0).map zGy-> ∃W4,(Instr.endRound (w.heap.size+1) jump).run P W3= .ok (.bool jump.isNone) W4/\W4.heap[w.heap.size+1]?=some (.loop (rec (if jump.isNone then .ready else .done) jump))/\W4.heap[w.heap.size]?=some (.deferred (some []))/\Rnd w.heap.size (inB (Bf 0)) W W4/\StS S w0 K B' n ds a W4:=by
     intro jump B' h3 hB'
     have hl3:W3.heap[w.heap.size+1]?=some (.loop { rec .ready none with state:= .busy }):=(h3.gr.block _ oN hnl).trans hl2
     have hd3:W3.heap[w.heap.size]?=some (.deferred (some [])):=(h3.gr.block _ oN hnd2).trans hd2
     have hlt3:w.heap.size+1<W3.heap.size:=(pQ.1 hl3).1
     have hrun:=run_endRound (P:=P) jump hl3
     have hbx3: ∀x,x∈B'->x.b≠w.heap.size+1:=fun x hx e=>by
      obtain ⟨cs,_,_,h4,_⟩:=h3.bx.mem x hx
      rw [e,hl3] at h4
      cases h4
     obtain ⟨W4,hW4⟩: ∃W4,W3.putObj (w.heap.size+1) (.loop (rec (if jump.isNone then .ready else .done) jump))=W4:=⟨_,rfl⟩
     have hrun4:(Instr.endRound (w.heap.size+1) jump).run P W3= .ok (.bool jump.isNone) W4:=by rw [hrun, <-hW4,hrec]
     have hz3:=h3.gr.size
     have hz4:W4.heap.size=W3.heap.size:=by rw [<-hW4,sK]
     have hza:=hgr.size
     have hk4:jS W3 W4:=fun q u hq=>by
      by_cases e:q.block=w.heap.size+1
      ·rw [zBy hl3 rfl e] at hq
       cases hq
      ·rw [<-hW4]
       exact (rJ (pT e)).trans hq
     have hb4:BlS (fun q=>inB (Bf 0) q∨q=w.heap.size+1) W W4:=by
      refine ⟨?_, ?_, ?_,by omega,fun q hq hns=> ?_⟩
      ·rw [<-hW4];exact h3.gr.os.trans (by rw [<-hW2];exact hgr.os)
      ·rw [<-hW4];exact h3.gr.tape.trans (by rw [<-hW2];exact hgr.tape)
      ·rw [<-hW4];exact h3.gr.output.trans (by rw [<-hW2];exact hgr.output)
      ·have hne:q≠w.heap.size+1:=fun e=>hns (.inr e)
       have hni: ¬(inB (Bf 0) q∨W.heap.size<=q):=fun hh=>by
        rcases hh with hh|hh
        ·exact hns (.inl hh)
        ·omega
       rw [<-hW4,pT hne,h3.gr.block q oN hni, <-hW2,pT hne]
       exact hgr.block q hq hni
     refine ⟨W4,hrun4,by rw [<-hW4];exact World.putObj_heap_same hlt3,by rw [<-hW4];exact (pT oN).trans hd3, ?_, ?_⟩
     ·exact zL9 hb4 (fun q hq=>by
       rcases hq with hq|hq
       ·have:=hin hq;omega
       ·omega) oN (l:=w.heap.size+1) oN hl rfl (fun q hq=>hq) (zE1 (B:=Bf k) (hb4.sub fun q hq=>hq.imp (zIi (hBf k).symm) id) hs.bx hl rfl)
     ·exact hs.turned (hb4.sub fun q hq=>hq.imp (zIi (hBf k).symm) id) hl rfl oN (hDl hl ⟨_,rfl⟩) (hB'.trans (hBf k).symm) (wR hk4 B' (fun x hx=>by rw [<-hW4];exact pT (hbx3 x hx)) h3.bx)
    cases e with
    |normal=>
     obtain ⟨h3,hend3⟩:=hp3
     obtain ⟨W4,hr,hl4,hd4,hrn,hs4⟩:=fin none _ h3 (hBf _)
     exact ⟨_,W4,hr, .inl ⟨rfl,hs4,hend3,hl4,hd4⟩,hrn⟩
    |ret=>
     obtain ⟨hc,h3⟩:=hp3
     obtain ⟨W4,hr,hl4,hd4,hrn,hs4⟩:=fin (some .ret) _ h3 hBz
     exact ⟨_,W4,hr, .inr ⟨rfl,hs4,by rw [hc];exact hl4,hd4⟩,hrn⟩
    |exit id=>
     obtain ⟨hc,h3⟩:=hp3
     obtain ⟨W4,hr,hl4,hd4,hrn,hs4⟩:=fin (some (.exit id)) _ h3 hBz
     exact ⟨_,W4,hr, .inr ⟨rfl,hs4,by rw [hc];exact hl4,hd4⟩,hrn⟩
    |goto t=>
     obtain ⟨hc,h3⟩:=hp3
     obtain ⟨W4,hr,hl4,hd4,hrn,hs4⟩:=fin (some (.goto t)) _ h3 hBz
     exact ⟨_,W4,hr, .inr ⟨rfl,hs4,by rw [hc];exact hl4,hd4⟩,hrn⟩
    |panic ch=>exact hp3.elim
    |outgrown=>exact hp3.elim
   |_=>exact hp.elim
  ·have hend: ∀{W2:Wb} {B':List Bx} {pe:Wf Code} {st:LoopState},StS S w0 K B' n ds a W2->W2.heap[w.heap.size+1]?=some (.loop (rec st pe))->W2.heap[w.heap.size]?=some (.deferred (some []))-> ∀o':Obj,StS S w0 K B' n (mark w.heap.size::ds) { a with defers:=mark w.heap.size::a.defers } (W2.putObj (w.heap.size+1) o'):=fun {W2 B' pe st} hs hl hd o'=>by
    have h1:=hs.put (o':=o') hl rfl (hDl hl ⟨_,rfl⟩) (.inr oN)
    exact h1.more hw0 ((pT oN).trans hd) (fun Ds hm hh=>absurd (hDs Ds hm _ hh) (sN _))
   rintro e W2 ⟨⟨v,rfl⟩,(⟨hs,hend2,hl,hd⟩|⟨hs,hl,hd⟩)⟩
   ·exact ⟨none,_,by have:=run_endLoop (P:=P) hl (by rw [hrec];simp);rw [hrec] at this;exact this,done (fun he=>absurd (hend2 he) (sN _)) _ _ (hend hs hl hd _)⟩
   ·exact ⟨some cz,_,by have:=run_endLoop (P:=P) hl (by rw [hrec];simp);rw [hrec] at this;exact this,stop _ _ (hend hs hl hd _)⟩
end
section
variable {F:Fence} {n:Nat} {P:Wh} {ops:Array Oper} {Q:Exit->Act->Wb->Prop}
def zFJ (ops:Array Oper) (listed0:Array Bool) (fl:Nat->Bool) (k:Nat):Bool:=(List.range ops.size).all fun j=>decide (j<k)||(List.range k).all fun i=>fl i||listed0.getD i true||zCy ops ops.size i j
def zBp (ops:Array Oper) (i:Nat):Array Bool:=((List.range ops.size).map fun j=>zCy ops ops.size j i).toArray
theorem zJe {i:Nat} {listed:Array Bool} (hs: ∀j,j<ops.size->zCy ops ops.size j i=true->listed.getD j true=true) (h:Region.free .any ops (zBp ops i) i=true):Region.free .any ops listed i=true:=by
 unfold Region.free at h ⊢
 split at h
 ·exact h
 ·refine pK.2 fun j hj=> ?_
  have h1:=pK.1 h j hj
  have h2:(zBp ops i).getD j true=zCy ops ops.size j i:=by
   unfold zBp
   rw [pS]
   simp [pL.1 hj]
  rw [h2] at h1
  cases hc:zCy ops ops.size j i with
  |true=>rw [hs j (pL.1 hj) hc,Bool.or_true,Bool.true_or]
  |false=>
   rw [hc,Bool.or_false] at h1
   rw [Bool.or_assoc,Bool.or_comm (listed.getD j true), <-Bool.or_assoc,h1,Bool.true_or]
theorem zMe {i:Nat} {o:Oper} {a:Act} {w:Wb} {K:Act->Wb->Prop} (ho:ops[i]?=some o) (hfl:zDx ops i=true) (h:wpOpIn F n P ops (qE Q) i K a w): ∃d v,o.dst=some d/\zAp P ops (fun _=>True) o v a/\K (a.put (some d) v) w:=by
 unfold zDx at hfl
 rw [ho] at hfl
 unfold wpOpIn at h
 rw [ho] at h
 split at hfl
 ·rename_i d x ty pos aft he
  cases he
  refine ⟨d,a.eval x,rfl,⟨.inl ⟨rfl,fun w _=>rfl⟩,fun w=>rfl⟩, ?_⟩
  have h2:=h.2
  rw [rA _ _ _ (fun _ e=>by cases e)] at h2
  exact h2
 ·rename_i d x j ty pos aft he
  cases he
  have h2:=h.2
  rw [rA _ _ _ (fun _ e=>by cases e)] at h2
  cases hrun:(Instr.extract (a.eval x) j).run P w with
  |halt y w'=>
   have he:(execOp a.eval ⟨some d, .extract x j,ty,pos,aft,none⟩).run P w= .halt y w':=by simp [execOp,hrun]
   rw [he] at h2
   cases y<;>exact h2.elim
  | ok v w'=>
   have hw:w'=w:=by
    unfold Instr.extract at hrun
    split at hrun
    ·split at hrun
     ·simp at hrun;exact hrun.2.symm
     ·simp at hrun
    ·simp at hrun
   subst hw
   have he:(execOp a.eval ⟨some d, .extract x j,ty,pos,aft,none⟩).run P w'= .ok (.value v) w':=by simp [execOp,hrun]
   rw [he] at h2
   exact ⟨d,v,rfl,⟨.inl ⟨rfl,fun w _=>by simp [execOp,zCh _ _ _ w hrun]⟩,fun w=>rfl⟩,h2⟩
 ·cases hfl
variable {listed0:Array Bool} {A:Nat->Bool} {E:Nat->Wc->Wb->Prop} {C:Wb->Prop} {a0:Act}
theorem zSn {k z:Nat} (fl:Nat->Bool) (hpl:jV ops=true) (hns:Region.noSelect ops=true) (hzs:ops.size<=z) (hfree: ∀i,i<k->fl i=true->zDx ops i=true/\Region.free .any ops (zBp ops i) i=true) (hear:zBg ops=true) (htl:zFJ ops listed0 fl k=true) (hap:jF ops=true) (hfr:zAm ops a0.tmps.size=true) (hkl:decide (k<=ops.size)=true) (hC: ∀w w',C w->Below w.heap.size w w'->C w') (hE: ∀i v w w',E i v w->Below w.heap.size w w'->E i v w')
  (hspec: ∀i,i<k->listed0.getD i true=false-> ∀o,ops[i]?=some o-> ∀a w,FlowB ops listed0 A E C a0 (fun j=>listed0.getD j true=false/\ ∃e∈o.after,Region.binds .any e=true/\e.on=j) a w-> ∀K:Act->Wb->Prop,(∀v w',E i v w'->Below w.heap.size w w'->(A i=true-> ∀b,blk v=some b->w.heap.size<=b/\b<w'.heap.size)->K (a.put o.dst v) w')->wpOpIn F n P ops (qE Q) i K a w)
  (hfin: ∀a w,FlowB ops listed0 A E C a0 (fun i=>i<k/\listed0.getD i true=false) a w->jK F n P .any ops z (fun _=>True) (qE Q) (ops.size - k) (yE ops.size k) a w):
  ∀(fuel:Nat) (listed:Array Bool) (a:Act) (w:Wb),listed.count false=fuel->listed.size=ops.size->(∀i,k<=i->listed.getD i false=false)->zFD ops listed->(∀i,listed0.getD i true=true->i<ops.size->listed.getD i false=true)->
   FlowB ops listed0 A E C a0 (fun i=>listed0.getD i true=false/\listed.getD i false=true) a w->jK F n P .any ops z (fun _=>True) (qE Q) fuel listed a w:=by
 have hkl':=sP hkl
 intro fuel
 induction fuel with
 | zero=>
  intro listed a w hc hs hlate hcl hsub hf
  have hno: ∀i,listed.getD i true=true:=fun i=>by
   cases hg:listed.getD i true with
   |true=>rfl
   |false=>
    have:=jR hg
    omega
  have hk2:k=ops.size:=by
   rcases pX k ops.size with hlt|hge
   ·exfalso
    have h1:=hno k
    have h2:=hlate k lr
    have hlt2:k<listed.size:=by omega
    simp [hlt2] at h1 h2
    rw [h1] at h2
    cases h2
   ·omega
  have hl:listed=yE ops.size k:=by
   refine Array.ext (by simp [yE,hs]) fun i h1 h2=> ?_
   have:=hno i
   simp [h1] at this
   simp [yE,this]
   omega
  have:=hfin a w (hf.mono fun i hi=>⟨hi.2,by
   have h1:=hno i
   have hlt:i<listed.size:=by omega
   simp [hlt] at h1 ⊢
   exact h1⟩)
  rw [hl]
  rwa [show ops.size - k=0 from by omega] at this
 | succ fuel ih=>
  intro listed a w hc hs hlate hcl hsub hf
  by_cases hall: ∀i,i<k->listed.getD i false=true
  ·have hl:listed=yE ops.size k:=by
    refine Array.ext (by simp [yE,hs]) fun i h1 h2=> ?_
    by_cases hik:i<k
    ·have:=hall i hik
     simp [h1] at this
     simp [yE,this,hik]
    ·have:=hlate i oN
     simp [h1] at this
     simp [yE,this,hik]
   have hcnt:listed.count false=ops.size - k:=by
    rw [hl]
    unfold yE
    rw [List.count_toArray,List.count_eq_countP,List.countP_map]
    have: ∀m,k<=m->List.countP ((fun x=>x==false) ∘ fun i=>decide (i<k)) (List.range m)=m - k:=by
     intro m
     induction m with
     |zero=>intro h;simp
     | succ m ihm=>
      intro h
      rw [List.range_succ,List.countP_append]
      by_cases e:k=m+1
      ·subst e
       have:List.countP ((fun x=>x==false) ∘ fun i=>decide (i<m+1)) (List.range m)=0:=by
        rw [List.countP_eq_zero]
        intro x hx
        have:=pL.1 hx
        simp;omega
       rw [this];simp
      ·rw [ihm oN]
       have e2:decide (m<k)=false:=decide_eq_false oN
       simp [e2]
       omega
    exact this ops.size hkl'
   have hf':=hfin a w (hf.mono fun i hi=>⟨hi.2,hall i hi.1⟩)
   rw [<-hl, <-hcnt,hc] at hf'
   exact hf'
  ·simp only [sA] at hall
   obtain ⟨u0,huk0,hu0⟩:=hall
   obtain ⟨u,⟨huk,hu⟩,hmin⟩:=zDs (p:=fun u=>u<k/\ ¬listed.getD u false=true) u0 ⟨huk0,hu0⟩
   have hlt:u<listed.size:=by omega
   have hu':listed.getD u true=false:=by
    simp [hlt] at hu ⊢
    exact hu
   have hsome: ∀i,listed.getD i true=false->Region.ready .any ops listed≠ []:=by
    intro i
    induction i using Nat.strongRecOn with
    | _ i ihi=>
     intro hi hnil
     have hlt:i<listed.size:=by
      rcases pX i listed.size with e|e
      ·exact e
      ·simp [pZ e] at hi
     have ho:ops[i]?=some (ops[i]'(by rw [<-hs];exact hlt)):=rD _
     by_cases hall: ∀e∈(ops[i]'(by rw [<-hs];exact hlt)).after,Region.binds .any e=true->listed.getD e.on false=true
     ·have hm:i∈Region.ready .any ops listed:=rE.2 ⟨hi,_,ho,hall⟩
      rw [hnil] at hm
      cases hm
     ·simp only [sA] at hall
      obtain ⟨e,he,hb,hg⟩:=hall
      have hel:=zA4 hear ho he hb
      refine ihi e.on hel ?_ hnil
      have hlt2:e.on<listed.size:=by omega
      simp [hlt2] at hg ⊢
      exact hg
   by_cases hfu:fl u=true
   ·have hul:u<ops.size:=by omega
    have hou:ops[u]?=some ops[u]:=rD hul
    have hdone: ∀e∈ops[u].after,Region.binds .any e=true->listed.getD e.on false=true:=fun e he hb=>by
     have hel:=zA4 hear hou he hb
     exact sU fun hc=>hmin e.on hel ⟨by omega,hc⟩
    have hrd:(Region.ready .any ops listed).contains u=true:=pW.2 (rE.2 ⟨hu',_,hou,hdone⟩)
    have hl0u:listed0.getD u true=false:=by
     cases hg:listed0.getD u true with
     |false=>rfl
     |true=>exact absurd (hsub u hg hul) hu
    obtain ⟨hflo,hfre⟩:=hfree u huk hfu
    have hw:=hspec u huk hl0u _ hou a w (hf.mono fun j hj=>(by
     obtain ⟨hj0,e,he,hb,rfl⟩:=hj
     exact ⟨hj0,hdone e he hb⟩)) (fun a' w'=> ∃v,a'=a.put ops[u].dst v/\E u v w'/\Below w.heap.size w w'/\(A u=true-> ∀b,blk v=some b->w.heap.size<=b/\b<w'.heap.size)) (fun v w' hv hb hA=>⟨v,rfl,hv,hb,hA⟩)
    obtain ⟨d,v0,hd,hy,v,hpe,hv,hb,hA⟩:=zMe hou hflo hw
    refine zP (i:=u) (v:=v0) hpl (by unfold zBj;rw [pZ hzs]) hou hns (zJe (fun j hj hc=>(by
     have h9:=zAv hcl _ j u _ hou hdone hc
     have g:j<listed.size:=by omega
     simp [g] at h9 ⊢
     exact h9)) hfre) hrd (fun _ _ _ h=>h) trivial hy ?_
    rw [hd,hpe]
    refine ih (listed.setIfInBounds u true) (a.put ops[u].dst v) w ?_ (by simpa using hs) (fun j hj=> ?_) (fun j oj hj hoj e he hbe=> ?_) (fun j hj hjl=> ?_) ((hf.put hap hfr hC hE hou hl0u hv hb hA).mono fun j hj=> ?_)
    ·have:=jR hu'
     omega
    ·rw [pM false oN]
     exact hlate j hj
    ·by_cases e2:j=u
     ·subst e2
      rw [hou] at hoj
      cases hoj
      by_cases e3:e.on=j
      ·rw [e3];exact hj
      ·rw [pM false (Ne.symm e3)]
       exact hdone e he hbe
     ·rw [pM false (Ne.symm e2)] at hj
      have:=hcl j oj hj hoj e he hbe
      by_cases e3:e.on=u
      ·rw [e3]
       have hlt:u<listed.size:=by omega
       simp [hlt]
      ·rw [pM false (Ne.symm e3)]
       exact this
    ·by_cases e3:j=u
     ·subst e3
      rw [hl0u] at hj
      cases hj
     ·rw [pM false (Ne.symm e3)]
      exact hsub j hj hjl
    ·by_cases e:j=u
     ·exact .inr e
     ·left
      rw [pM false (Ne.symm e)] at hj
      exact hj
   ·refine ⟨fun hnil=>(hsome u hu' hnil).elim,fun i hi=> ?_⟩
    obtain ⟨hun,o,ho,hall⟩:=rE.1 hi
    have hil:=(pQ.1 ho).1
    have hl0:listed0.getD i true=false:=by
     cases hg:listed0.getD i true with
     |false=>rfl
     |true=>
      have:=hsub i hg hil
      have hlt3:i<listed.size:=by omega
      simp [hlt3] at this hun
      rw [this] at hun
      cases hun
    have hik:i<k:=by
     rcases pX i k with e|e
     ·exact e
     ·exfalso
      have h1:=pK.1 htl i (pL.2 hil)
      simp only [sQ,rR] at h1
      rcases h1 with h1|h1
      ·omega
      ·have h2:=pK.1 h1 u (pL.2 huk)
       simp only [sQ] at h2
       rcases h2 with (h2|h2)|h2
       ·exact hfu h2
       ·exact hu (hsub u h2 oN)
       ·exact hu (zAv hcl _ u i o ho hall h2)
    refine hspec i hik hl0 o ho a w (hf.mono fun j hj=> ?_) _ fun v w' hv hb hA=>⟨.inr trivial, ?_⟩
    ·obtain ⟨hj0,e,he,hb,rfl⟩:=hj
     exact ⟨hj0,hall e he hb⟩
    ·refine ih (listed.setIfInBounds i true) (a.put o.dst v) w' ?_ (by simpa using hs) (fun j hj=> ?_) (fun j oj hj hoj e he hbe=> ?_) (fun j hj hjl=> ?_) ((hf.put hap hfr hC hE ho hl0 hv hb hA).mono fun j hj=> ?_)
     ·have:=jR hun
      omega
     ·rw [pM false oN]
      exact hlate j hj
     ·by_cases e2:j=i
      ·subst e2
       rw [ho] at hoj
       cases hoj
       by_cases e3:e.on=j
       ·rw [e3];exact hj
       ·rw [pM false (Ne.symm e3)]
        exact hall e he hbe
      ·rw [pM false (Ne.symm e2)] at hj
       have:=hcl j oj hj hoj e he hbe
       by_cases e3:e.on=i
       ·rw [e3]
        have hlt:i<listed.size:=by omega
        simp [hlt]
       ·rw [pM false (Ne.symm e3)]
        exact this
     ·by_cases e3:j=i
      ·subst e3
       rw [hl0] at hj
       cases hj
      ·rw [pM false (Ne.symm e3)]
       exact hsub j hj hjl
     ·by_cases e:j=i
      ·exact .inr e
      ·left
       rw [pM false (Ne.symm e)] at hj
       exact hj
theorem zMd {k z fuel:Nat} {w:Wb} (fl:Nat->Bool) (hpl:jV ops=true) (hns:Region.noSelect ops=true) (hzs:ops.size<=z) (hfree: ∀i,i<k->fl i=true->zDx ops i=true/\Region.free .any ops (zBp ops i) i=true) (A:Nat->Bool) (E:Nat->Wc->Wb->Prop) (C:Wb->Prop) (hear:zBg ops=true) (htl:zFJ ops listed0 fl k=true) (hap:jF ops=true) (hfr:zAm ops a0.tmps.size=true) (hkl:decide (k<=ops.size)=true)
    (hcnt:listed0.count false=fuel) (hsz:listed0.size=ops.size) (hcl:zCz ops listed0=true) (hto:zFw listed0 k=true)
    (hC: ∀w w',C w->Below w.heap.size w w'->C w') (hE: ∀i v w w',E i v w->Below w.heap.size w w'->E i v w') (hw:C w)
    (hspec: ∀i,i<k->listed0.getD i true=false-> ∀o,ops[i]?=some o-> ∀a w,FlowB ops listed0 A E C a0 (fun j=>listed0.getD j true=false/\ ∃e∈o.after,Region.binds .any e=true/\e.on=j) a w-> ∀K:Act->Wb->Prop,(∀v w',E i v w'->Below w.heap.size w w'->(A i=true-> ∀b,blk v=some b->w.heap.size<=b/\b<w'.heap.size)->K (a.put o.dst v) w')->wpOpIn F n P ops (qE Q) i K a w)
    (hfin: ∀a w,FlowB ops listed0 A E C a0 (fun i=>i<k/\listed0.getD i true=false) a w->jK F n P .any ops z (fun _=>True) (qE Q) (ops.size - k) (yE ops.size k) a w):
    jK F n P .any ops z (fun _=>True) (qE Q) fuel listed0 a0 w:=by
  have hcontra: ∀i,listed0.getD i true=false->listed0.getD i false=true->False:=fun i h1 h2=>by
    rcases pX i listed0.size with g|g
    . simp [g] at h1 h2
      rw [h1] at h2
      cases h2
    . simp [pZ g] at h2
  exact zSn fl hpl hns hzs hfree hear htl hap hfr hkl hC hE hspec hfin fuel listed0 a0 w hcnt hsz (fun i hi=>zET hto hi) (zBN hcl) (fun i hi hl=>by
      have g:i<listed0.size:=by omega
      simp [g] at hi ⊢
      exact hi)
    ⟨⟨hw,rfl,rfl,fun _ _=>rfl,fun i o t hi=>(hcontra i hi.1 hi.2).elim⟩,fun i o t b hi=>(hcontra i hi.1 hi.2).elim,fun i j oi oj ti tj bi bj hi=>(hcontra i hi.1 hi.2).elim⟩
end
def zEs (ops:Array Oper) (fl:Nat->Bool) (k n:Nat) (keys:List Nat):Bool:=
 jF ops&&zAm ops n&&jV ops&&Region.noSelect ops&&decide (k<=ops.size)&&
 keys.all (fun t=>(List.range k).any fun i=>zW ops i==some t)&&
 (List.range k).all (fun i=>match ops[i]? with
  |none=>true
  |some o=>(looks ops o).all fun t=>(List.range ops.size).all fun j=> !(zW ops j==some t)||o.after.any fun e=>Region.binds .any e&&e.on==j)&&
 (List.range k).all (fun i=> !fl i||(zDx ops i&&Region.free .any ops (zBp ops i) i))&&
 (zBg ops&&zFJ ops (Array.replicate ops.size false) fl k&&(List.range (ops.size - k)).all fun r=>Region.ready .any ops (yE ops.size (k+r))== [k+r])
theorem zFV {F:Fence} {m:Nat} {P:Wh} {ops:Array Oper} {Q:Exit->Act->Wb->Prop} {id:Nat} {w0:Wb} {G:Nat->SF} {n:Nat} {ds:List Deferred} {a:Act} {w:Wb} (fl:Nat->Bool) (al:List NewB) (k:Nat) (L:List (Nat×SF)) (hmix:P.follows .mixedOrders=true)
  (hal: ∀q,q∈al->q.i<k/\q.f.isIn L q.d/\zAD (L.map (·.1))=true/\(∃ty pos aft,ops[q.i]?=some ⟨some q.d, .alloc q.e,ty,pos,aft,none⟩)/\zeroCells P q.e=some q.cs/\ ∀v W,(SF.own w0 q.e q.cs).p v W->q.f.p v W)
  (hchk:zEs ops fl k n (L.map (·.1))=true) (h:At w0 G n ds a w) (hobs:Obs F m P w0 ops (upd G L) (ops.toList.take k))
  (hfin: ∀a w,At w0 (zCs ops k (upd G L)) n ds a w->zMS al a->wpOpsIn F m P ops (qE Q) (List.range' k (ops.size - k)) a w):(Code.region id ops true).wpIn F m P Q a w:=by
 unfold zEs at hchk
 simp only [pN] at hchk
 obtain ⟨⟨⟨⟨⟨⟨⟨⟨hap,hfr⟩,hpl⟩,hns⟩,hk⟩,hkeys⟩,hrd⟩,hflk⟩,hdr⟩:=hchk
 have hk:=sP hk
 have hget: ∀i o,i<k->ops[i]?=some o->qP F m P w0 ops (upd G L) o:=fun i o hi ho=>hobs.get i o (by rw [sV hi];simpa using ho)
 have hkey: ∀t,(∀j,j<k->zW ops j≠some t)->upd G L t=G t:=fun t ht=>by
  refine jP ?_
  cases hc:(L.map (·.1)).contains t with
  |false=>rfl
  |true=>
   exfalso
   have hm:=pW.1 hc
   obtain ⟨i,hi,he⟩:=pU.1 (pK.1 hkeys t hm)
   exact ht i (pL.1 hi) (by simpa using he)
 have hst: ∀t,(∀j,j<k->zW ops j≠some t)->(upd G L t).p (a.tmps.getD t undef) w:=fun t ht=>by rw [hkey t ht];exact h.sl t
 have hmask: ∀(a:Act) (w:Wb),(∀t,(∃j,j<k/\zW ops j=some t)∨(∀j,zW ops j≠some t)->(upd G L t).p (a.tmps.getD t undef) w)-> ∀t,(zCs ops k (upd G L) t).p (a.tmps.getD t undef) w:=fun a w hh t=>by
  unfold zCs
  cases hc:(List.range ops.size).any fun i=>decide (k<=i)&&(zW ops i==some t) with
  |true=>trivial
  | false=>
   refine hh t ?_
   by_cases hex: ∃j,zW ops j=some t
   ·obtain ⟨j,hj⟩:=hex
    left
    refine ⟨j, ?_,hj⟩
    have hlt:j<ops.size:=by
     rcases pX j ops.size with e|e
     ·exact e
     ·rw [zW,pZ e] at hj;cases hj
    have:=rM.1 hc j (pL.2 hlt)
    simp [hj] at this
    omega
   ·exact .inr fun j hj=>hex ⟨j,hj⟩
 have hrd': ∀i o,i<k->ops[i]?=some o-> ∀t,t∈looks ops o-> ∀j,zW ops j=some t->(o.after.any fun e=>Region.binds .any e&&e.on==j)=true:=fun i o hi ho t ht j hj=>by
  have h1:=pK.1 hrd i (pL.2 hi)
  rw [ho] at h1
  have hlt:j<ops.size:=by
   rcases pX j ops.size with e|e
   ·exact e
   ·rw [zW,pZ e] at hj;cases hj
  have h2:=pK.1 (pK.1 h1 t ht) j (pL.2 hlt)
  rw [hj] at h2
  simpa using h2
 obtain ⟨⟨hear,htl⟩,hch⟩:=hdr
 have hch': ∀r,r<ops.size - k->Region.ready .any ops (yE ops.size (k+r))= [k+r]:=fun r hr=>by
  have:=pK.1 hch r (pL.2 hr)
  simpa using this
 have hfl: ∀i,(Array.replicate ops.size false).getD i false=false:=fun i=>by
  rw [pS,sB]
  split<;>rfl
 have hft: ∀i,i<ops.size->(Array.replicate ops.size false).getD i true=false:=fun i hi=>by
  rw [pS,sB,if_pos hi]
  rfl
 have hnd: ∀t,(∀j,zW ops j≠some t)->zA9 ops (Array.replicate ops.size false) t=false:=fun t ht=>by
  cases hd:zA9 ops (Array.replicate ops.size false) t with
  |false=>rfl
  |true=>
   exfalso
   unfold zA9 at hd
   obtain ⟨i,_,hp⟩:=pU.1 hd
   simp only [pN,rB] at hp
   exact ht i (by rw [<-zDy];exact hp.2)
 refine yC ops.size (fun _=>True) hmix ?_
 have hdrew:Below w.heap.size w w.drew:=(pR _ w).drew
 refine zMd (Q:=Q) (k:=k) (z:=ops.size) (w:=w.drew) fl hpl hns lr (fun i hi he=>(by have:=pK.1 hflk i (pL.2 hi);rw [he] at this;simpa using this)) (fun i=>al.any fun q=>q.i==i) (fun i v W=> ∀o,ops[i]?=some o-> ∀d,o.dst=some d->(upd G L d).p v W) (fun W=>Below w0.heap.size w0 W/\Below w.heap.size w W) hear htl hap (by rw [h.size];exact hfr) (by simpa using hk) sW fK ?hcl ?hto (fun W W' hC hb=>⟨hC.1.trans (hb.mono hC.1.size),hC.2.trans (hb.mono hC.2.size)⟩) (fun i v W W' hE hb o ho d hd=>(upd G L d).st _ _ _ (hE o ho d hd) hb) ⟨h.gr.trans (hdrew.mono h.gr.size),hdrew⟩ ?spec ?fin
 case hcl=>
  unfold zCz
  refine pK.2 fun i hi=> ?_
  rw [hfl i]
  rfl
 case hto=>
  unfold zFw
  refine pK.2 fun i hi=> ?_
  rw [hfl i]
  simp
 case spec=>
  intro i hik hl o ho b W hf K hK
  by_cases hAi:(al.any fun q=>q.i==i)=true
  ·obtain ⟨q,hq,hqi⟩:=pU.1 hAi
   obtain rfl:q.i=i:=by simpa using hqi
   obtain ⟨_,hin,hndL,⟨ty,pos,aft,hop⟩,hz,hown⟩:=hal q hq
   rw [ho] at hop
   cases hop
   have hg:qP F m P W ops (fun _=>SF.own W q.e q.cs) ⟨some q.d, .alloc q.e,ty,pos,aft,none⟩:=zAi hz
   refine zAk ho hg (fun j g hj=> ?_) (pR _ _) (fun t ht=>by cases ht) (fun v W' hv hb=> ?_)
   ·rw [hf.at_.size,h.size]
    obtain ⟨oj,hoj,hdj⟩:=y9 hj
    exact qI hfr hoj hdj
   ·obtain ⟨b',e1,h1,h2⟩:=hv q.d rfl
    refine hK v W' (fun o' ho' d hd=> ?_) hb (fun _ b'' hb''=> ?_)
    ·rw [ho] at ho'
     cases ho'
     cases hd
     rw [zBY (q:=(q.d,q.f)) hndL hin]
     exact hown v W' ⟨b',e1,pV hf.at_.cls.1.size h1,h2⟩
    ·subst e1
     cases hb''
     exact ⟨h1,(pQ.1 h2).1⟩
  refine zAk ho (hget i o hik ho) (fun j g hj=> ?_) hf.at_.cls.1 (fun t ht=> ?_) (fun v W' hv hb=>hK v W' (fun o' ho' d hd=>by rw [ho] at ho';cases ho';exact hv d hd) hb (fun e=>absurd e hAi))
  ·rw [hf.at_.size,h.size]
   cases hoj:ops[j]? with
   |none=>rw [zW,hoj] at hj;cases hj
   |some oj=>rw [qM hoj] at hj;exact qI hfr hoj hj
  ·by_cases hex: ∃j,zW ops j=some t
   ·obtain ⟨j,hj⟩:=hex
    have h1:=hrd' i o hik ho t ht j hj
    obtain ⟨x,hx,he⟩:=Array.any_eq_true.1 h1
    simp only [pN,rB] at he
    cases hoj:ops[j]? with
    |none=>rw [zW,hoj] at hj;cases hj
    |some oj=>
     rw [qM hoj] at hj
     exact hf.at_.vals j oj t ⟨hft j (pQ.1 hoj).1,_,sO hx,he.1,he.2⟩ hoj hj oj hoj t hj
   ·have hno: ∀j,zW ops j≠some t:=fun j hj=>hex ⟨j,hj⟩
    rw [hf.at_.keep t (hnd t hno)]
    exact (upd G L t).st _ _ _ (hst t (fun j _=>hno j)) hf.at_.cls.2
 case fin=>
  intro b W hf
  have hA:At w0 (zCs ops k (upd G L)) n ds b W:=⟨hf.at_.cls.1,by rw [hf.at_.size];exact h.size,by rw [hf.at_.defers];exact h.nd,hmask b W fun t ht=>by
   rcases ht with ⟨j,hjk,hj⟩|hno
   ·cases hoj:ops[j]? with
    |none=>rw [zW,hoj] at hj;cases hj
    |some oj=>
     rw [qM hoj] at hj
     exact hf.at_.vals j oj t ⟨hjk,hft j (pQ.1 hoj).1⟩ hoj hj oj hoj t hj
   ·rw [hf.at_.keep t (hnd t hno)]
    exact (upd G L t).st _ _ _ (hst t (fun j _=>hno j)) hf.at_.cls.2⟩
  have h2:=forced (Q:=qE Q) hch' (ops.size - k) 0 b W oN (by simpa using hfin b W hA (fun q q' hq hq' hne b1 b2 e1 e2=>(by
   obtain ⟨g1,_,_,⟨_,_,_,g2⟩,_⟩:=hal q hq
   obtain ⟨g1',_,_,⟨_,_,_,g2'⟩,_⟩:=hal q' hq'
   exact hf.apart q.i q'.i _ _ q.d q'.d b1 b2 ⟨g1,hft _ oN⟩ ⟨g1',hft _ oN⟩ hne (pU.2 ⟨q,hq,by simp⟩) (pU.2 ⟨q',hq',by simp⟩) g2 g2' rfl rfl e1 e2)))
  have h3: ∀(f:Nat) (l:Array Bool) (a:Act) (w:Wb),wpAnyIn F m P .any ops (qE Q) f l a w->jK F m P .any ops ops.size (fun _=>True) (qE Q) f l a w:=by
   intro f
   induction f with
   |zero=>intro l a w hh;exact hh
   |succ f ih=>intro l a w hh;exact ⟨hh.1,fun i hi=>wpOpIn_mono (fun a w h5=>⟨.inr trivial,ih _ _ _ h5⟩) (hh.2 i hi)⟩
  exact h3 _ _ _ _ (by simpa using h2)
section
variable {S:Nat->Prop} {w0:Wb} {K:List (Nat×KF)} {B:List Bx} {n:Nat} {ds:List Deferred} {a:Act} {w:Wb} {F:Fence} {m:Nat} {P:Wh} {ops:Array Oper} {Q:Exit->Act->Wb->Prop}
theorem jT {id:Nat} (fl:Nat->Bool) (al:List NewB) (k:Nat) (L:List (Nat×Rw)) (hmix:P.follows .mixedOrders=true) (h:StS S w0 K B n ds a w)
  (hal: ∀q,q∈al->q.i<k/\q.f.isIn (zM L) q.d/\(∃ty pos aft,ops[q.i]?=some ⟨some q.d, .alloc q.e,ty,pos,aft,none⟩)/\zeroCells P q.e=some q.cs/\ ∀v W,(SF.own w q.e q.cs).p v W->q.f.p v W)
  (hchk:(zEs ops fl k n (L.map (·.1))&&zAT ops (K.map (·.1)++B.map (·.t))&&zAD (L.map (·.1)))=true)
  (hobs:Obs F m P w ops (upd (jZ K B) (zM L)) (ops.toList.take k))
  (hfin: ∀Q',(∀a w,Q .normal a w->Q' .normal a w)-> ∀a w,StS S w0 (zBB L++K) B n ds a w->(∀q,q∈zM L->q.2.p (a.tmps.getD q.1 undef) w)->zMS al a->zB9 F m P ops Q' k a w):(Code.region id ops true).wpIn F m P Q a w:=by
 simp only [pN] at hchk
 have hkeys:(zM L).map (·.1)=L.map (·.1):=by simp [zM]
 have h0:=hchk.1.1
 unfold zEs at h0
 simp only [pN] at h0
 obtain ⟨⟨⟨⟨⟨⟨⟨⟨hap,_⟩,_⟩,_⟩,_⟩,hks⟩,_⟩,_⟩,_⟩:=h0
 exact zCF k L h (Fin:=fun a w=>zMS al a->zB9 F m P ops (qE Q) k a w) (fun G' hA hO hF=>zFV fl al k (zM L) hmix (fun q hq=>let ⟨g1,g2,g3,g4,g5⟩:=hal q hq;⟨g1,g2,by rw [hkeys];exact hchk.2,g3,g4,g5⟩) (by rw [hkeys];exact hchk.1.1) hA hO (fun a w hA hD=>hF a w hA hD)) hap hks hchk.1.2 hchk.2 hobs (fun a w h hr hD=>hfin (qE Q) (fun a w h=>h) a w h hr hD)
end
section
variable {S:Nat->Prop} {F:Fence} {m:Nat} {P:Wh} {Q:Exit->Act->Wb->Prop} {w0:Wb} {K:List (Nat×KF)} {B:List Bx} {n:Nat} {ds:List Deferred} {a:Act} {w:Wb}
theorem zCK {σ:Type} {c:Code} (Inv:σ->Act->Wb->Prop) (mu:σ->Nat) (x0:σ) (h0:Inv x0 a w)
  (round: ∀x a w,Inv x a w->c.wpIn F m P (Exit.then (fun a' w'=> ∃y,mu y<mu x/\Inv y a' w') Q) a w):(Code.loop c).wpIn F m P Q a w:=by
 have low: ∀a w,(∃k, ∃x,mu x=k/\Inv x a w)-> ∃k,(∃x,mu x=k/\Inv x a w)/\ ∀j,j<k-> ¬ ∃x,mu x=j/\Inv x a w:=
  fun a w ⟨k,hk⟩=>zDs k hk
 open Classical in
 refine wpIn_loop (fun a w=> ∃k, ∃x,mu x=k/\Inv x a w) (fun a w=>if h: ∃k, ∃x,mu x=k/\Inv x a w then Classical.choose (low a w h) else 0) ⟨_,x0,rfl,h0⟩ ?_
 rintro a w hA
 have e0:=rZ (low a w hA)
 obtain ⟨x,hm,hst⟩:=e0.1
 refine rT ?_ (round x a w hst)
 intro e a' w' h
 cases e with
 |normal=>
  obtain ⟨y,h2,h3⟩: ∃y,mu y<mu x/\Inv y a' w':=h
  have hA': ∃k, ∃x,mu x=k/\Inv x a' w':=⟨_,y,rfl,h3⟩
  refine ⟨hA', ?_⟩
  simp only [dif_pos hA,dif_pos hA']
  have e1:=rZ (low a' w' hA')
  have:Classical.choose (low a' w' hA')<=mu y:=Nat.not_lt.1 fun hlt=>e1.2 _ hlt ⟨y,rfl,h3⟩
  omega
 |_=>exact h
theorem StS.learn (h:StS S w0 K B n ds a w) (t:Nat) (v:Wc) (e:a.tmps.getD t undef=v):StS S w0 ((t, .u (UF.eq v))::K) B n ds a w:=
 ⟨h.gr,h.size,h.nd,fun q hq=>by
  rcases pY.1 hq with rfl|hq
  ·exact e
  ·exact h.sl q hq,h.bx,h.mks,h.so.imp (fun hu q hq=>(by
   rcases pY.1 hq with rfl|hq
   ·exact ⟨_,rfl⟩
   ·exact hu q hq)) (fun x=>x)⟩
theorem StS.self (h:StS S w0 K B n [] a w) (hu: ∀q,q∈K-> ∃f,q.2= .u f):StS (inB B) w K B n [] a w:=by
 refine ⟨BlS.refl _ _,h.size,h.nd,fun q hq=> ?_,wS (a:=a) B (fun x hx=> ?_) (fun _ _=>rfl) h.bx,⟨[],Marks.nil _ _⟩, .inl hu⟩
 ·obtain ⟨f,e⟩:=hu q hq
  have:=h.sl q hq
  rw [e] at this ⊢
  exact this
 ·cases hr:x.r with
  |true=>exact .inl rfl
  |false=>exact .inr (.inr ⟨x,hx,rfl,hr⟩)
theorem zIf {w1:Wb} (hb:BlS (inB B) w w1) (hbx:yQ S w0 a w B):jS w w1:=fun q u hq=>by
 have hlt:=sJ w _ hq
 by_cases e:inB B q.block
 ·exfalso
  obtain ⟨x,hx,e1,_⟩:=e
  obtain ⟨cs,_,_,h3,_,h5⟩:=hbx.mem x hx
  have:=zDW h3 h5 e1.symm hq
  cases this
 ·exact (rJ (hb.block _ hlt e)).trans hq
theorem StS.itr_to {S':Nat->Prop} {w1:Wb} {K':List (Nat×KF)} {n':Nat} {ds':List Deferred} {a':Act} {N:Nat} (h0:StS S' w0 K' B n' ds' a' w) (h1:BlS (inB B) w w1) (hN: ∀x,x∈B->x.r=false->N<=x.b) (hNw:N<=w.heap.size):Itr N w w1:=
 ⟨h1.os,h1.tape,h1.output,h1.size,fun k hk=>h1.block k (rK hk hNw) fun ⟨x,hx,e,hr⟩=>(by have:=hN x hx hr;omega),
  fun k o ho hc=>(h1.block k (pQ.1 ho).1 fun ⟨x,hx,e,_⟩=>(by
   obtain ⟨cs,_,_,h3,_⟩:=h0.bx.mem x hx
   rw [e,ho] at h3
   cases h3
   cases hc)).trans ho,zIf h1 h0.bx⟩
theorem StS.yielded (h:StS S w0 K B n [] a w) {N:Nat} {C:Nat->Prop} {w':Wb} (hr:Rnd N C w w') (hu: ∀q,q∈K-> ∃f,q.2= .u f) (hC: ∀x,x∈B-> ¬C x.b):StS (inB B) w' K B n [] a w':=by
 refine ⟨BlS.refl _ _,h.size,h.nd,fun q hq=> ?_,wR hr.keep B (fun x hx=> ?_) (wS (a:=a) B (fun x hx=> ?_) (fun _ _=>rfl) h.bx),⟨[],Marks.nil _ _⟩, .inl hu⟩
 ·obtain ⟨f,e⟩:=hu q hq
  have:=h.sl q hq
  rw [e] at this ⊢
  exact f.us _ _ _ this hr.keep
 ·obtain ⟨cs,_,_,h3,_⟩:=h.bx.mem x hx
  rw [h3]
  exact hr.cells _ _ h3 rfl (hC x hx)
 ·cases hrr:x.r with
  |true=>exact .inl rfl
  |false=>exact .inr (.inr ⟨x,hx,rfl,hrr⟩)
theorem zHl {a:Act} {d:Tmp} {y:Wg} {l:Nat} {xs:Array Wg} {ats:Array We} {ty:We} {pos:String} {aft:Array Edge} {w:Wb} (hy:a.eval y= .func (.yield l) #[] #[]):
  (execOp a.eval ⟨some d, .call ⟨.value y,xs,ats⟩,ty,pos,aft,none⟩).run P w=(Instr.yield l (xs.map a.eval)).run P w:=by
 simp only [execOp,resolve,hy]
 simp [invoke,Deferred.ofValue]
theorem zFL {ops:Array Oper} {k d l:Nat} {y:Wg} {xs:Array Wg} {ats:Array We} {ty:We} {pos:String} {aft:Array Edge} {Jn Z:Wb->Prop} {N:Nat} {C:Nat->Prop} (ho:ops[k]?=some ⟨some d, .call ⟨.value y,xs,ats⟩,ty,pos,aft,none⟩)
  (h:StS S w0 K B n [] a w) (hy: ∀v W,(Wd.fct (jZ K B) y).p v W->v= .func (.yield l) #[] #[]) (hf:zBa K B n d=true) (hu: ∀q,q∈K-> ∃f,q.2= .u f) (hC: ∀x,x∈B-> ¬C x.b)
  (Y:YieldAt Fence.wide 0 P l (xs.map a.eval) w fun e W'=>((e= .returned (.bool true)/\Jn W')∨(e= .returned (.bool false)/\Z W'))/\Rnd N C w W')
  (fin: ∀a' w' bv,Rnd N C w w'->((bv=true/\Jn w')∨(bv=false/\Z w'))->StS (inB B) w' ((d, .u (uB bv))::K) B n [] a' w'->zB9 Fence.wide 0 P ops Q (k+1) a' w'):zB9 Fence.wide 0 P ops Q k a w:=by
 have hyv:a.eval y= .func (.yield l) #[] #[]:=hy _ _ (h.fct y)
 obtain ⟨fn,tmps,assign,body,hrun,hR⟩:=Y
 refine zBO ho rfl ⟨fun g _=>trivial, ?_⟩
 rw [rA _ _ _ (fun _ e=>by cases e),zHl hyv,hrun]
 rw [Oper.uponIn_round]
 refine ⟨fun hh=>absurd hh (by simp [Fence.wide]),RoundIn.mono hR fun e W' he=> ?_⟩
 obtain ⟨he,hr⟩:=he
 have s1:=h.yielded hr hu hC
 rcases he with ⟨rfl,hJ⟩|⟨rfl,hZ⟩
 ·exact fin _ _ true hr (.inl ⟨rfl,hJ⟩) (s1.set hf (pR _ _) rfl)
 ·exact fin _ _ false hr (.inr ⟨rfl,hZ⟩) (s1.set hf (pR _ _) rfl)
theorem zTE (f:Wg->Wc) (x y:Wg):(Array.map f #[x,y]).getD 0 undef=f x:=by simp
theorem zTD (f:Wg->Wc) (x y:Wg):(Array.map f #[x,y]).getD 1 undef=f y:=by simp
theorem zJc {f:FuncId} {fn:Func} {c:Code} {args:Array Wc} {R:Ending->Wb->Prop}
  (hf:P.funcs[f]?=some fn) (hb:fn.body=some c) (h:c.wpIn Fence.wide 0 P (bodyPost P fn R) { tmps:=args++Array.replicate (fn.ntmps - args.size) undef,defers:= [] } w):Calls P f args w R:=zBu hf hb h
theorem q8 {K:List (Nat×KF)} (h:(K.all fun q=>zTa q.2)=true): ∀q,q∈K-> ∃f,q.2=KF.u f:=fun q hq=>by
 have:=pK.1 h q hq
 cases hq2:q.2 with
 |u f=>exact ⟨f,rfl⟩
 |o f=>rw [hq2] at this;cases this
theorem zIE {fn:Func} {args:Array Wc} (S:Nat->Prop) (K0:List (Nat×UF)) (B0:List Bx) (hn:Nat.ble args.size fn.ntmps=true) (hK: ∀q,q∈K0->q.1<args.size/\q.2.p (args.getD q.1 undef) w)
  (hB:yQ S w ⟨args, []⟩ w B0) (hBs: ∀x,x∈B0->x.t<args.size):StS S w (K0.map fun q=>(q.1,KF.u q.2)) B0 fn.ntmps [] { tmps:=args++Array.replicate (fn.ntmps - args.size) undef,defers:= [] } w:=by
 have hn:=Nat.le_of_ble_eq_true hn
 refine ⟨BlS.refl _ _,by simp;omega,rfl,fun q hq=> ?_,yQ.keep (a:=⟨args, []⟩) (pR _ _) iiz B0 (fun x hx=> ?_) hB,⟨[],Marks.nil _ _⟩, .inl fun q hq=> ?_⟩
 ·obtain ⟨p,hp,rfl⟩:=pP.1 hq
  obtain ⟨h1,h2⟩:=hK p hp
  have:(args++Array.replicate (fn.ntmps - args.size) undef).getD p.1 undef=args.getD p.1 undef:=by
   rw [pS,pS,sX h1]
  show p.2.p ((args++Array.replicate (fn.ntmps - args.size) undef).getD p.1 undef) w
  rw [this]
  exact h2
 ·show (args++Array.replicate (fn.ntmps - args.size) undef).getD x.t undef=args.getD x.t undef
  rw [pS,pS,sX (hBs x hx)]
 ·obtain ⟨p,hp,rfl⟩:=pP.1 hq
  exact ⟨_,rfl⟩
def zJZ (W:Wb) (gf:Nat) (te:We) (C:CU):SF:=⟨fun v w=> ∃(b:Nat) (cs:List Wc),v= .func (.func gf) #[] #[pO b 0]/\W.heap.size<=b/\w.heap[b]?=some (.cells cs.toArray te (0,0))/\C.p cs w/\cs.all zY=true,fun _ _ _ ⟨b,cs,h1,h2,h3,h4,h5⟩ hb=>⟨b,cs,h1,h2,(hb.block b (pQ.1 h3).1).trans h3,C.us _ _ _ h4 (zS hb),h5⟩⟩
theorem zHk {W W':Wb} {gf:Nat} {te:We} {C:CU} (h:W.heap.size<=W'.heap.size) (v:Wc) (w:Wb) (hv:(zJZ W' gf te C).p v w):(zJZ W gf te C).p v w:=by
 obtain ⟨b,cs,h1,h2,h3⟩:=hv
 exact ⟨b,cs,h1,pV h h2,h3⟩
theorem StS.boxAt (h:StS S w0 K B n ds a w) {c:Nat} {z:Bx} (hB:zDw B c=some z): ∃cs:List Wc,w.heap[z.b]?=some (.cells cs.toArray z.e (0,0))/\z.c.p cs w/\cs.all zY=true:=by
 obtain ⟨cs,_,_,h3,h4,h5⟩:=h.bx.mem z (jE hB).1
 exact ⟨cs,h3,h4,h5⟩
theorem StS.inB_new (h:St w0 K B n ds a w) {q:Nat} (hq:inB B q):w0.heap.size<=q:=by
 obtain ⟨x,hx,e,hr⟩:=hq
 obtain ⟨_,_,hc,_⟩:=h.bx.mem x hx
 rcases hc with hc|hc|hc
 ·rw [hr] at hc;cases hc
 ·omega
 ·exact hc.elim
def wC (vs:List Wc):CU:=⟨fun cs _=>cs=vs,fun _ _ _ h _=>h⟩
end
def CU.ok (z:Nat) (C:CU):Prop:= ∀cs W,C.p cs W->cs.length=z/\cs.all zY=true/\ ∀u,u∈cs->u.oneCell'=true
def zBS (w:Wb) (base:Nat) (e:We) (z:Nat) (v:Wc) (Cs:List CU):Prop:=
 (v= .slice none 0 0/\Cs= [])∨ ∃g cap cur,v= .slice (some ⟨g,0,none⟩) Cs.length cap/\base<=g/\w.heap[g]?=some (.cells cur e (0,0))/\Cs.length<=cap/\cap<=maxLen/\cur.size=cap*z/\cur.toList.all zY=true/\ ∀(i:Nat) (C:CU),Cs[i]?=some C->C.p ((cur.toList.drop (i*z)).take z) w
theorem zBS.nil (w:Wb) (base:Nat) (e:We) (z:Nat):zBS w base e z (.slice none 0 0) []:= .inl ⟨rfl,rfl⟩
theorem zBS.lt {w:Wb} {base e z v Cs} (h:zBS w base e z v Cs): ∀k,v.ownBlock=some k->base<=k/\k<w.heap.size:=by
 intro k hk
 rcases h with ⟨rfl,_⟩|⟨g,cap,cur,rfl,hb,hg,_⟩
 ·simp [Value.ownBlock] at hk
 ·simp [Value.ownBlock] at hk
  subst hk
  exact ⟨hb,(pQ.1 hg).1⟩
theorem zBS.mono {w:Wb} {base base' e z v Cs} (h:zBS w base e z v Cs) (hb:base'<=base):zBS w base' e z v Cs:=
 h.imp id fun ⟨g,cap,cur,h1,h2,h3⟩=>⟨g,cap,cur,h1,pV hb h2,h3⟩
theorem zBS.keep {w w':Wb} {base e z v Cs} (h:zBS w base e z v Cs) (hb: ∀k,v.ownBlock=some k->w'.heap[k]?=w.heap[k]?) (hk:jS w w'):zBS w' base e z v Cs:=by
 rcases h with h|⟨g,cap,cur,rfl,h2,h3,h4,h5,h6,h7,h8⟩
 ·exact .inl h
 ·exact .inr ⟨g,cap,cur,rfl,h2,(hb g rfl).trans h3,h4,h5,h6,h7,fun i C hi=>C.us _ _ _ (h8 i C hi) hk⟩
theorem zBS.below {w w':Wb} {base e z v Cs} (h:zBS w base e z v Cs) (hb:Below w.heap.size w w'):zBS w' base e z v Cs:=
 h.keep (fun k hk=>hb.block k (h.lt k hk).2) (zS hb)
theorem zBS.row {w:Wb} {base e z v Cs} (h:zBS w base e z v Cs):(SF.row z Cs).p v w:=by
 rcases h with ⟨rfl,rfl⟩|⟨g,cap,cur,rfl,h2,h3,h4,h5,h6,h7,h8⟩
 ·exact ⟨none,0,rfl,rC _,by decide,fun _=>rfl,fun i C hi=>by simp at hi⟩
 ·refine ⟨_,cap,rfl,h4,by unfold maxLen at h5;omega,fun e=>(by cases e),fun i C hi=>⟨g,0,_,rfl,fun j u hj=> ?_,h8 i C hi⟩⟩
  rw [List.getElem?_take] at hj
  split at hj
  ·rw [List.getElem?_drop] at hj
   unfold World.cell?
   simp only [h3]
   have:0+i*z+j=i*z+j:=by omega
   rw [this]
   simpa using hj
  ·cases hj
theorem zBS.keepU {w w':Wb} {base e z v Cs} (h:zBS w base e z v Cs) (hg:w.grownBy w' v.ownBlock):jS w w':=fun p x hp=>by
 have hlt:=sJ w _ hp
 by_cases e1:some p.block=v.ownBlock
 ·exfalso
  rcases h with ⟨rfl,_⟩|⟨g,cap,cur,rfl,h2,h3,h4,h5,h6,h7,h8⟩
  ·simp [Value.ownBlock] at e1
  ·simp [Value.ownBlock] at e1
   have:=zDW (cs:=cur.toList) (z:=(0,0)) (by simpa using h3) h7 e1 hp
   cases this
 ·exact (rJ (hg.block _ hlt e1)).trans hp
def zOE (P:Wh) (t:We):Wf (We×Nat×Bool):=match P.underlying t with
 | some (.slice e)=>match P.info? e with
  |some i=>match i.zero with
   |some zv=>some (e,i.size,zv.cells.size==i.size&&zv.cells.toList.all zY&&decide (0<i.size)&&Nat.ble i.bytes 1000)
   |none=>none
  |none=>none
 |_=>none
theorem zKa {P:Wh} {t e:We} {z:Nat} (h:zOE P t=some (e,z,true)):P.underlying t=some (.slice e)/\ ∃i zv,P.info? e=some i/\i.zero=some zv/\i.size=z/\i.bytes<=1000/\zv.cells.size=z/\zv.cells.toList.all zY=true/\0<z:=by
 unfold zOE at h
 split at h<;>try cases h
 rename_i e' hu
 split at h<;>try cases h
 rename_i i hi
 split at h<;>try cases h
 rename_i zv hz
 simp only [sG,rV,pN,rB,rR] at h
 obtain ⟨rfl,rfl,⟨⟨h1,h2⟩,h3⟩,h4⟩:=h
 exact ⟨hu,i,zv,hi,hz,rfl,Nat.le_of_ble_eq_true h4,h1,h2,h3⟩
theorem zD4 {zc:Array Wc} (h:zc.toList.all zY=true) (n:Nat):(Builtin.zeroCells zc n).toList.all zY=true:=by
  refine pK.2 fun u hu=> ?_
  simp only [Builtin.zeroCells,Array.toList_map,pP,Array.toList_range,pL] at hu
  obtain ⟨i,hi,rfl⟩:=hu
  have h0 : 0 < zc.size := by rcases Nat.eq_zero_or_pos zc.size with h|h;· rw [h] at hi;omega
                              . exact h
  have hlt:i % zc.size<zc.size:=Nat.mod_lt _ h0
  have:zc[i % zc.size]!∈zc.toList:=by
    rw [getElem!_pos zc _ hlt]
    exact Array.getElem_mem_toList hlt
  exact pK.1 h _ this
theorem zGR {W:Wb} {b z:Nat}: ∀(Ds:List CU) (o:Nat),(∀C,C∈Ds->CU.ok z C)->(∀(i:Nat) (C:CU),Ds[i]?=some C-> ∃cs,Mem W b (o+i*z) cs/\C.p cs W)->
  ∃news:List Wc,news.length=Ds.length*z/\(∀j u,news[j]?=some u->W.cell? ⟨b,o+j,none⟩=some u)/\(∀u,u∈news->u.oneCell'=true)/\news.all zY=true/\ ∀(i:Nat) (C:CU),Ds[i]?=some C->C.p ((news.drop (i*z)).take z) W
 | [],o,_,_=>⟨[],by simp,by simp,by simp,rfl,by simp⟩
 | D::Ds,o,hok,h=>by
  obtain ⟨cs,h1,h2⟩:=h 0 D rfl
  obtain ⟨hl,hn,h1c⟩:=hok D fK cs W h2
  obtain ⟨ns,g1,g2,g3,g4,g5⟩:=zGR Ds (o+z) (fun C hC=>hok C (by simp [hC])) fun i C hi=>by
   obtain ⟨cs',h3,h4⟩:=h (i+1) C (by simpa using hi)
   refine ⟨cs', ?_,h4⟩
   rwa [show o+(i+1)*z=o+z+i*z by rw [rN];omega] at h3
  refine ⟨cs++ns,by rw [rO,hl,g1,List.length_cons,rN];omega,fun j u hj=> ?_,fun u hu=> ?_,by rw [sR,hn,g4];rfl,fun i C hi=> ?_⟩
  ·rcases pX j z with hlt|hge
   ·rw [sY oN] at hj
    have:=h1 j u hj
    rwa [show o+0*z+j=o+j by omega] at this
   ·rw [sZ oN] at hj
    have:=g2 _ u hj
    rwa [show o+z+(j - cs.length)=o+j by omega] at this
  ·rcases rI.1 hu with hu|hu
   ·exact h1c u hu
   ·exact g3 u hu
  ·cases i with
   |zero=>
    obtain rfl:D=C:=by simpa using hi
    rw [show 0*z=0 by omega,List.drop_zero,tA oN,sF oN]
    exact h2
   |succ i=>
    rw [show (i+1)*z=cs.length+i*z by rw [rN];omega,List.drop_append]
    have e1:cs.drop (cs.length+i*z)= []:=List.drop_eq_nil_of_le oN
    rw [e1,sS,show cs.length+i*z - cs.length=i*z by omega]
    exact g5 i C (by simpa using hi)
theorem zC8 {cs ds:List Wc} {z i n:Nat} (h:cs.length=n*z) (hi:i<n):((cs++ds).drop (i*z)).take z=(cs.drop (i*z)).take z:=by
 have h1:i*z+z<=n*z:=by rw [<-Nat.succ_mul];exact sC _ hi
 rw [List.drop_append_of_le_length oN,tA (by rw [sE];omega)]
theorem zMp {cs ds:List Wc} {z i n:Nat} (h:cs.length=n*z):(cs++ds).drop ((n+i)*z)=ds.drop (i*z):=by
 rw [rN, <-h,List.drop_append]
 have e1:cs.drop (cs.length+i*z)= []:=List.drop_eq_nil_of_le oN
 rw [e1,sS]
 congr 1
 omega
theorem zFv {w w':Wb} {z:Nat} {Cs Ds:List CU} {cs ds es:List Wc} (hl:cs.length=Cs.length*z) (hd:ds.length=Ds.length*z) (h1: ∀(i:Nat) (C:CU),Cs[i]?=some C->C.p ((cs.drop (i*z)).take z) w) (h2: ∀(i:Nat) (C:CU),Ds[i]?=some C->C.p ((ds.drop (i*z)).take z) w) (hk:jS w w'):
  ∀(i:Nat) (C:CU),(Cs++Ds)[i]?=some C->C.p (((cs++ds++es).drop (i*z)).take z) w':=fun i C hi=>by
 rcases pX i Cs.length with hlt|hge
 ·rw [sY hlt] at hi
  rw [List.append_assoc,zC8 hl hlt]
  exact C.us _ _ _ (h1 i C hi) hk
 ·obtain ⟨j,rfl⟩: ∃j,i=Cs.length+j:=⟨i - Cs.length,by omega⟩
  rw [sZ oN,Nat.add_sub_cancel_left] at hi
  have hj:j<Ds.length:=(rH.1 hi).1
  rw [List.append_assoc,zMp hl,zC8 hd hj]
  exact C.us _ _ _ (h2 j C hi) hk
theorem zGu {a b c:List Wc} (ha:a.all zY=true) (hb:b.all zY=true) (hc:c.all zY=true):(a++b++c).all zY=true:=by
 rw [sR,sR,ha,hb,hc];rfl
theorem zPY {P:Wh} {w:Wb} {base:Nat} {t ty e:We} {z:Nat} {v v2:Wc} {Cs Ds:List CU} (happ:zOE P t=some (e,z,true)) (hr:zBS w base e z v Cs) (h2:(SF.row z Ds).p v2 w) (hD: ∀C,C∈Ds->CU.ok z C)
    (hsz:Cs.length+Ds.length<=140000000000) (hbase:base<=w.heap.size):
    ∃v' w',(Builtin.append_ #[t,t] ty #[v,v2]).run P w= .ok v' w'/\zBS w' base e z v' (Cs++Ds)/\w.grownBy w' v.ownBlock/\(v'.ownBlock=v.ownBlock∨v'.ownBlock=some w.heap.size):=by
  obtain ⟨ht,i,zv,hi,hz,hs,hby0,hzs,hzn,hz0⟩:=zKa happ
  have hmx:Cs.length+Ds.length<=maxLen:=by unfold maxLen;omega
  have hbb:(Cs.length+Ds.length)*i.bytes<=140737488355328:=pV (Nat.mul_le_mul hsz hby0) (by decide)
  obtain ⟨A,c,rfl,hlc,hcm,hAn,hel⟩:=h2
  have hsmall:Cs.length+Ds.length<=9223372036854775807:=by unfold maxLen at hmx;omega
  cases A with
  | none=>
    have hD0:Ds= []:=by
      cases Ds with
      |nil=>rfl
      |cons D Ds=>obtain ⟨b,o,cs,e1,_⟩:=hel 0 D rfl;cases e1
    subst hD0
    have hc:=hAn rfl
    subst hc
    rcases hr with ⟨rfl,rfl⟩|⟨g,cap,cur,rfl,g2,g3,g4,g5,g6,g7,g8⟩
    . refine ⟨.slice none 0 0,w, ?_, .inl ⟨rfl,rfl⟩,⟨rfl,rfl,rfl,rC _,fun _ _ _=>rfl⟩, .inl rfl⟩
      simp [Builtin.append_,rY ht,sizeOf,typeInfo,hi,Builtin.lenOf,Builtin.firstCells]
    . refine ⟨_,w, ?_, .inr ⟨g,cap,cur,rfl,g2,g3,by simpa using g4,g5,g6,g7,by simpa using g8⟩,⟨rfl,rfl,rfl,rC _,fun _ _ _=>rfl⟩, .inl rfl⟩
      simp [Builtin.append_,rY ht,sizeOf,typeInfo,hi,Builtin.lenOf,Builtin.firstCells,g4,storeCells]
  | some ad=>
    obtain ⟨news,n1,n2,n3,n4,n5⟩: ∃news:List Wc,news.length=Ds.length*z/\(∀j u,news[j]?=some u->w.cell? (ad.add j)=some u)/\(∀u,u∈news->u.oneCell'=true)/\news.all zY=true/\ ∀(i:Nat) (C:CU),Ds[i]?=some C->C.p ((news.drop (i*z)).take z) w:=by
      cases Ds with
      |nil=>exact ⟨[],by simp,by simp,by simp,rfl,by simp⟩
      | cons D Ds=>
        obtain ⟨b,o,cs,e1,_⟩:=hel 0 D rfl
        cases e1
        obtain ⟨news,k1,k2,k3⟩:=zGR (W:=w) (b:=b) (z:=z) (D::Ds) o hD fun i C hiC=>by
          obtain ⟨b',o',cs',e',m1,m2⟩:=hel i C hiC
          cases e'
          exact ⟨cs',m1,m2⟩
        exact ⟨news,k1,fun j u hj=>by rw [rQ];exact k2 j u hj,k3⟩
    -- what the growing arm leaves
    have grown: ∀(old:Nat) (cs:List Wc) (row:Wf Nat),cs.length=Cs.length*z->cs.all zY=true->(∀(i:Nat) (C:CU),Cs[i]?=some C->C.p ((cs.drop (i*z)).take z) w)->old<Cs.length+Ds.length->
        zBS (w.drew.alloc (.cells (cs.toArray++news.toArray++Builtin.zeroCells zv.cells (grownCap w (Cs.length+Ds.length) old e - (Cs.length+Ds.length))) e)) base e z (.slice (some ⟨w.heap.size,0,none⟩) (Cs.length+Ds.length) (grownCap w (Cs.length+Ds.length) old e)) (Cs++Ds)/\
        w.grownBy (w.drew.alloc (.cells (cs.toArray++news.toArray++Builtin.zeroCells zv.cells (grownCap w (Cs.length+Ds.length) old e - (Cs.length+Ds.length))) e)) row:=by
      intro old cs row hl hn hcs ho
      have hge:=grownCap_ge w (Cs.length+Ds.length) old e
      have hcm:grownCap w (Cs.length+Ds.length) old e<=maxLen:=grownCap_le_maxLen w (Cs.length+Ds.length) old e hmx
      refine ⟨.inr ⟨w.heap.size,_,_,by rw [rO],hbase,heap_alloc_new w.drew _,by rw [rO];exact hge,hcm, ?_, ?_, ?_⟩,⟨rfl,rfl,rfl,by simp,fun k hk _=>heap_alloc_old w.drew _ hk⟩⟩
      . simp only [Array.size_append,List.size_toArray,size_zeroCells,hzs,hl,n1, <-rN]
        congr 1
        omega
      . simp only [Array.toList_append]
        exact zGu hn n4 (zD4 hzn _)
      . simp only [Array.toList_append]
        exact zFv hl n1 hcs n5 (zS ⟨rfl,rfl,rfl,by simp,fun k hk=>heap_alloc_old w.drew _ hk⟩)
    rcases hr with ⟨rfl,rfl⟩|⟨g,cap,cur,rfl,g2,g3,g4,g5,g6,g7,g8⟩
    . by_cases hm:Ds.length=0
      . have hD0:=List.eq_nil_of_length_eq_zero hm
        subst hD0
        refine ⟨.slice none 0 0,w, ?_, .inl ⟨rfl,rfl⟩,⟨rfl,rfl,rfl,rC _,fun _ _ _=>rfl⟩, .inl rfl⟩
        simp [Builtin.append_,rY ht,sizeOf,typeInfo,hi,Builtin.lenOf,Builtin.firstCells,loadCells,loadCellsFrom]
      . have hr:=run_append_nil (P:=P) w t ty e i zv ht hi hz ad Ds.length c news (by rw [hs];exact n1) n2 oN (by simp at hsmall;omega) (by simp at hbb;omega)
        have hgr:=grown 0 [] (Value.ownBlock (.slice none 0 0)) fK rfl fK (by simp;omega)
        simp only [List.length_nil,Nat.zero_add,sS,Array.empty_append] at hgr ⊢
        exact ⟨_,_,hr,hgr.1,hgr.2, .inr rfl⟩
    . by_cases hroom:Cs.length+Ds.length<=cap
      . have hfit:Cs.length*i.size+news.length<=cur.size:=by rw [n1,g6,hs, <-rN];exact sC _ hroom
        have hr:=run_append_room (P:=P) w t ty e i ht hi g Cs.length cap cur g3 ad Ds.length c news (by rw [hs];exact n1) n2 n3 hroom hfit
        rw [hs] at hr hfit
        have hgr:w.grownBy (w.setRow g (cur.toList.take (Cs.length*z)++news++cur.toList.drop (Cs.length*z+news.length)).toArray) (some g):=zCw w g _
        have hk:jS w (w.setRow g (cur.toList.take (Cs.length*z)++news++cur.toList.drop (Cs.length*z+news.length)).toArray):=
          zBS.keepU (v:= .slice (some ⟨g,0,none⟩) Cs.length cap) (Cs:=Cs) (base:=base) (e:=e) (z:=z) (.inr ⟨g,cap,cur,rfl,g2,g3,g4,g5,g6,g7,g8⟩) hgr
        have hcl:cur.toList.length=cap*z:=g6
        have hle:Cs.length*z<=cur.toList.length:=by rw [hcl];exact sC _ g4
        have htl:(cur.toList.take (Cs.length*z)).length=Cs.length*z:=by rw [sT,Nat.min_eq_left hle]
        have hsub: ∀u,u∈cur.toList->zY u=true:=pK.1 g7
        refine ⟨_,_,hr, .inr ⟨g,cap,_,by rw [rO],g2,setRow_heap w g cur _ e _ g3,by rw [rO];exact hroom,g5, ?_, ?_, ?_⟩,hgr, .inl rfl⟩
        . simp only [List.size_toArray,rO,sT,sE,Array.length_toList]
          rw [<-g6]
          omega
        . exact zGu (pK.2 fun u hu=>hsub u (sH hu)) n4 (pK.2 fun u hu=>hsub u (List.mem_of_mem_drop hu))
        . refine zFv htl n1 (fun j C hj=> ?_) n5 hk
          have hlt:j<Cs.length:=(rH.1 hj).1
          have h1:=g8 j C hj
          rw [<-List.take_append_drop (Cs.length*z) cur.toList,zC8 htl hlt] at h1
          exact h1
      . have htl:(cur.toList.take (Cs.length*z)).length=Cs.length*z:=by
          rw [sT,show cur.toList.length=cap*z from g6,Nat.min_eq_left (sC _ g4)]
        have holds: ∀j u,(cur.toList.take (Cs.length*z))[j]?=some u->w.cell? ((⟨g,0,none⟩:Addr).add j)=some u:=fun j u hj=>by
          rw [rQ,Nat.zero_add]
          rw [List.getElem?_take] at hj
          split at hj
          . unfold World.cell?
            simp only [g3]
            simpa using hj
          . cases hj
        have hr:=run_append_grow (P:=P) w t ty e i zv ht hi hz ⟨g,0,none⟩ Cs.length cap (cur.toList.take (Cs.length*z)) (by rw [hs];exact htl) holds ad Ds.length c news (by rw [hs];exact n1) n2 oN oN (growslice_fits oN hbb)
        have hgr:=grown cap (cur.toList.take (Cs.length*z)) (Value.ownBlock (.slice (some ⟨g,0,none⟩) Cs.length cap)) htl (pK.2 fun u hu=>pK.1 g7 u (sH hu)) (fun j C hj=>by
          have hlt:j<Cs.length:=(rH.1 hj).1
          have h1:=g8 j C hj
          rw [<-List.take_append_drop (Cs.length*z) cur.toList,zC8 htl hlt] at h1
          exact h1) oN
        exact ⟨_,_,hr,hgr.1,hgr.2, .inr rfl⟩
section
variable {S:Nat->Prop} {F:Fence} {m:Nat} {P:Wh} {Q:Exit->Act->Wb->Prop} {w0 w1:Wb} {K K0:List (Nat×KF)} {B B0:List Bx} {n n0:Nat} {ds ds0:List Deferred} {a a0:Act} {w:Wb}
theorem wZ {S':Nat->Prop} {w':Wb}: ∀(B:List Bx),(∀x,x∈B->x.r=true)->yQ S w0 a w B->yQ S' w' a w B
 | [],_,_=>trivial
 |x::B,hr,⟨⟨cs,h1,_,h3⟩,h4⟩=>⟨⟨cs,h1, .inl (hr x fK),h3⟩,wZ B (fun y hy=>hr y (by simp [hy])) h4⟩
def frz (B:List Bx):List Bx:=B.map fun x=>⟨x.t,x.e,x.c,x.b,true⟩
theorem yQ.freeze: ∀(B:List Bx),yQ S w0 a w B->yQ S w0 a w (frz B)
 | [],_=>trivial
 |x::B,⟨⟨cs,h1,_,h3,h4,h5,h6⟩,h7⟩=>⟨⟨cs,h1, .inl rfl,h3,h4,h5,fun y hy=>by
  obtain ⟨z,hz,rfl⟩:=pP.1 hy
  exact .inr ⟨rfl,rfl⟩⟩,yQ.freeze B h7⟩
theorem StS.freeze (h:StS S w0 K B n ds a w):StS S w0 K (frz B) n ds a w:=⟨h.gr,h.size,h.nd,h.sl,yQ.freeze B h.bx,h.mks,h.so⟩
theorem StS.below (h:St w0 K B n ds a w):Below w0.heap.size w0 w:=h.gr.below
theorem StS.reb (h:St w0 K B n [] a w) (hB:(B.all fun x=>x.r)=true) (K':List (Nat×KF)) (hK: ∀q,q∈K'->q∈K∨ ∃f,q.2= .o f/\f.p (a.tmps.getD q.1 undef) w):St w K' B n [] a w:=
 ⟨BlS.refl _ _,h.size,h.nd,fun q hq=>by
  rcases hK q hq with hq|⟨f,e,hf⟩
  ·have h1:=h.sl q hq
   cases h2:q.2 with
   |u f=>rw [h2] at h1;exact h1
   |o f=>rw [h2] at h1;exact f.st _ _ _ h1 h.below
  ·rw [e];exact hf,wZ B (fun x hx=>by simpa using pK.1 hB x hx) h.bx,⟨[],Marks.nil _ _⟩, .inr fun _ hh=>hh⟩
theorem StS.val (h:StS S w0 K B n ds a w) {t:Nat} {v:Wc} (hm:(t,KF.u (UF.eq v))∈K):a.tmps.getD t undef=v:=h.sl _ hm
theorem StS.back (h0:StS S w0 K0 B0 n0 ds0 a0 w1) (h:St w1 K B n [] a w) (hu:(K.all fun q=>zTa q.2)=true):StS S w0 K B n [] a w:=
 ⟨h0.gr.trans h.below,h.size,h.nd,fun q hq=>by
  have h1:=h.sl q hq
  obtain ⟨f,e⟩:=q8 hu q hq
  rw [e] at h1 ⊢
  exact h1,by
  have: ∀B:List Bx,yQ noS w1 a w B->yQ S w0 a w B:=fun B=>by
   induction B with
   |nil=>exact fun _=>trivial
   |cons x B ih=>
    intro ⟨⟨cs,h1,h2,h3⟩,h4⟩
    exact ⟨⟨cs,h1,h2.imp id fun h=> .inl (by rcases h with h|h;exact pV h0.gr.size h;exact h.elim),h3⟩,ih h4⟩
  exact this B h.bx,⟨[],Marks.nil _ _⟩, .inl (q8 hu)⟩
theorem StS.resN (h:St w1 K B n [] a w) (hb:Below w0.heap.size w0 w1) {fn:Func} {f:SF} {t:Nat} (hr:fn.results=#[.tmp t]) (hd:f.p (a.tmps.getD t undef) w):bodyPost P fn (Ret w0 f) .ret a w:=by
 refine ⟨h.nd,_, ?_,⟨_,rfl,hd,hb.trans (h.below.mono hb.size)⟩⟩
 simp [results,hr]
theorem vD (h:St w1 K B n [] a w) (hb:Below w0.heap.size w0 w1) {fn:Func} {f:SF} {t:Nat} (hr:fn.results=#[.tmp t]) (hd: ∀v W,(jZ K B t).p v W->f.p v W):bodyPost P fn (Ret w0 f) .ret a w:=
 h.resN hb hr (hd _ _ (h.at.sl t))
def wL (W:Wb) (e:We) (z:Nat) (Cs:List CU):SF:=⟨fun v w=>zBS w W.heap.size e z v Cs,fun _ _ _ h hb=>h.below hb⟩
theorem zBe {W:Wb} {e:We} {z:Nat} {Cs:List CU} (v:Wc) (w:Wb) (h:(wL W e z Cs).p v w):(SF.row z Cs).p v w:=zBS.row h
theorem zJy {ops:Array Oper} {k d:Nat} {x y:Wg} {t ty:We} {pos:String} {aft:Array Edge} {e:We} {z base:Nat} {v:Wc} {Cs:List CU} (Ds:List CU) (h0:StS S w0 K0 B0 n0 ds0 a0 w1) (h:St w1 K B n [] a w) (hb0:w0.heap.size<=base) (hr:base<=w1.heap.size/\zBS w1 base e z v Cs)
  (ho:ops[k]?=some ⟨some d, .call ⟨.builtin .append,#[x,y],#[t,t]⟩,ty,pos,aft,none⟩) (happ:zOE P t=some (e,z,true)) (hf:zBa K B n d=true) (hu:(K.all fun q=>zTa q.2)=true)
  (hx:a.eval x=v) (hy:(SF.row z Ds).p (a.eval y) w) (hD: ∀C,C∈Ds->CU.ok z C) (hsz:Cs.length+Ds.length<=140000000000) (hB: ∀q,q∈B->q.r=true->q.b<base)
  (fin: ∀v' a' w',(base<=w'.heap.size/\zBS w' base e z v' (Cs++Ds))->StS S w0 ((d, .u (UF.eq v'))::K) B n [] a' w'->zB9 F m P ops Q (k+1) a' w'):zB9 F m P ops Q k a w:=by
 have hb1:=h.below
 have hr':zBS w base e z v Cs:=hr.2.below hb1
 obtain ⟨v',w',hrun,g1,g2,_⟩:=zPY (P:=P) (ty:=ty) happ hr' hy hD hsz (pV hr.1 hb1.size)
 have hrun2:(execOp a.eval ⟨some d, .call ⟨.builtin .append,#[x,y],#[t,t]⟩,ty,pos,aft,none⟩).run P w= .ok (.value v') w':=by
  simp only [execOp,resolve,invoke,builtin,rS,Sem.run_pure,Result.andThen_ok,List.map_toArray,rF,List.map_nil,hx,hrun]
 refine zBO ho rfl ⟨fun f hf=>(by
  unfold Oper.about at hf
  simp [resolve,go_sem] at hf), ?_⟩
 rw [rA _ _ _ (fun _ e=>by cases e),hrun2]
 have hk:jS w w':=hr'.keepU g2
 have hlt:=hr.2.lt
 have s0:=h0.back h hu
 have s1:StS S w0 K B n [] a w':=by
  refine ⟨?_,s0.size,s0.nd,fun q hq=>KF.us (s0.sl q hq) hk, ?_,⟨[],Marks.nil _ _⟩,s0.so⟩
  ·cases hv:v.ownBlock with
   |none=>
    refine ⟨g2.os.trans s0.gr.os,g2.tape.trans s0.gr.tape,g2.output.trans s0.gr.output,pV s0.gr.size g2.size,fun k hk1 hk2=> ?_⟩
    exact (g2.block k (rK hk1 s0.gr.size) (by rw [hv];simp)).trans (s0.gr.block k hk1 hk2)
   |some g=>exact s0.gr.grown (by rw [hv] at g2;exact g2) (.inl (pV hb0 (hlt g hv).1))
  ·refine wR hk B (fun q hq=> ?_) s0.bx
   obtain ⟨_,_,hc,h3,_⟩:=h.bx.mem q hq
   refine g2.block _ (pQ.1 h3).1 fun e=> ?_
   have h4:=hlt _ e.symm
   rcases hc with hc|hc|hc
   ·have:=hB q hq hc;omega
   ·omega
   ·exact hc
 exact fin v' _ w' ⟨pV (pV hr.1 hb1.size) g2.size,g1⟩ (s1.set hf (pR _ _) rfl)
theorem zDH {σ:Type} {c:Code} (I:σ->Wb->Prop) (Kf:σ->List (Nat×KF)) (mu:σ->Nat) (x0:σ) (hI:I x0 w) (h0:StS S w0 (Kf x0) B n ds a w)
  (round: ∀x a w,I x w->StS S w0 (Kf x) B n ds a w->c.wpIn F m P (Exit.then (fun a' w'=> ∃y,mu y<mu x/\I y w'/\StS S w0 (Kf y) B n ds a' w') Q) a w):(Code.loop c).wpIn F m P Q a w:=
 zCK (fun x a w=>I x w/\StS S w0 (Kf x) B n ds a w) mu x0 ⟨hI,h0⟩ fun x a w h=>round x a w h.1 h.2
end
def SF.fn (P:Wh) (T:Array Wc->Wb->SF->Prop):SF:=⟨fun v W=> ∃f caps,v= .func (.func f) #[] caps/\Enters P f/\ ∀W',Below W.heap.size W W'-> ∀args R,T args W' R->Calls P f (args++caps) W' (Ret W' R),fun _ _ _ ⟨f,caps,h1,h2,h3⟩ hb=>⟨f,caps,h1,h2,fun W' hb'=>h3 W' (hb.trans (hb'.mono hb.size))⟩⟩
section
variable {F:Fence} {m:Nat} {P:Wh} {w0:Wb} {ops:Array Oper} {G:Nat->SF} {d:Tmp} {ty:We} {pos:String} {aft:Array Edge}
theorem zLx {y:Wg} {xs:Array Wg} {ats:Array We} (T:Array Wc->Wb->SF->Prop) (hF:zGz F m P) (hy: ∀v W,Below w0.heap.size w0 W->(fct G y).p v W->(SF.fn P T).p v W)
  (h: ∀(b:Act) (W:Wb),Below w0.heap.size w0 W->(∀x,x∈xs.toList->(fct G x).p (b.eval x) W)->T (xs.map b.eval) W (G d)):
  qP F m P w0 ops G ⟨some d, .call ⟨.value y,xs,ats⟩,ty,pos,aft,none⟩:=by
 intro b W K Q hb hr hK
 have hin: ∀x,x∈(Op.call ⟨.value y,xs,ats⟩).operands.toList->(fct G x).p (b.eval x) W:=fun x hx=>qA hr hx
 obtain ⟨f,caps,e1,he,hc⟩:=hy _ _ hb (hin y (by simp [Op.operands,Call.operands]))
 have h1:=h b W hb fun x hx=>hin x (by simp [Op.operands,Call.operands];right;simpa using hx)
 refine ⟨fun g _=>hF.1 g, ?_⟩
 have hrun:(execOp b.eval ⟨some d, .call ⟨.value y,xs,ats⟩,ty,pos,aft,none⟩).run P W= .ok (.enter f (xs.map b.eval++caps)) W:=by
  simp only [execOp,resolve,e1,Deferred.ofValue,rS,Sem.run_pure,Result.andThen_ok,invoke]
  rw [show (#[]:Array Wc)++xs.map b.eval=xs.map b.eval by simp]
  exact he _ _
 rw [rA _ _ _ (fun _ e=>by cases e),hrun]
 simp only [Oper.uponIn_enter]
 refine ⟨hF.2.1,CallsIn.mono (hF.2.2 _ _ _ (Ret W (G d)) (hc W (pR _ _) _ _ h1)) fun e W' he=> ?_⟩
 obtain ⟨v,rfl,hv,hb'⟩:=he
 exact hK v W' (fun d' e=>by cases e;exact hv) hb'
theorem zLy {y:Wg} {xs:Array Wg} {ats:Array We} (T:Array Wc->Wb->SF->Prop) (hF:zGz F m P) (hy: ∀v W,(fct G y).p v W->(SF.fn P T).p v W)
  (h: ∀(b:Act) (W:Wb),Below w0.heap.size w0 W->(∀x,x∈xs.toList->(fct G x).p (b.eval x) W)->T (xs.map b.eval) W (G d)):
  qP F m P w0 ops G ⟨some d, .call ⟨.value y,xs,ats⟩,ty,pos,aft,none⟩:=zLx T hF (fun v W _ h=>hy v W h) h
theorem zPc {y x:Wg} {ats:Array We} (T:Array Wc->Wb->SF->Prop) (hF:zGz F m P) (hy: ∀v W,(fct G y).p v W->(SF.fn P T).p v W) (h: ∀u W,Below w0.heap.size w0 W->(fct G x).p u W->T #[u] W (G d)):qP F m P w0 ops G ⟨some d, .call ⟨.value y,#[x],ats⟩,ty,pos,aft,none⟩:=
 zLy T hF hy fun b W hb hh=>by simpa using h _ W hb (hh x fK)
theorem zLz {y x x':Wg} {ats:Array We} (T:Array Wc->Wb->SF->Prop) (hF:zGz F m P) (hy: ∀v W,(fct G y).p v W->(SF.fn P T).p v W) (h: ∀u v W,Below w0.heap.size w0 W->(fct G x).p u W->(fct G x').p v W->T #[u,v] W (G d)):qP F m P w0 ops G ⟨some d, .call ⟨.value y,#[x,x'],ats⟩,ty,pos,aft,none⟩:=
 zLy T hF hy fun b W hb hh=>by simpa using h _ _ W hb (hh x fK) (hh x' fK)
end
def zPx (f:UF):Prop:= ∀v W,f.p v W-> ∃s A n c A' n' c',v= .agg #[.bool s, .slice A n c, .slice A' n' c']
theorem zAz (q:Rat):zPx (fQN q):=fun _ _ h=>by
 obtain ⟨A,n,c,A',n',c',e⟩:=zCm h
 exact ⟨_,A,n,c,A',n',c',e⟩
theorem zFW (m:Nat) (q:Rat):zPx (fRV m q):=fun _ _ ⟨_,_,h,_⟩=>zCl h
def PTp (f g:UF) (v:Wc) (w:Wb):Prop:= ∃s A n c A' n' c' s2 B k d B' k' d',v= .agg #[.bool s, .slice A n c, .slice A' n' c', .bool s2, .slice B k d, .slice B' k' d']/\f.p (.agg #[.bool s, .slice A n c, .slice A' n' c']) w/\g.p (.agg #[.bool s2, .slice B k d, .slice B' k' d']) w
def fPT (f g:UF):UF:= .mk' (PTp f g) fun _ _ _ ⟨s,A,n,c,A',n',c',s2,B,k,d,B',k',d',e,h1,h2⟩ u=>⟨s,A,n,c,A',n',c',s2,B,k,d,B',k',d',e,f.us _ _ _ h1 u,g.us _ _ _ h2 u⟩
abbrev fPN (p:V2):UF:=fPT (fQN p.1) (fQN p.2)
abbrev fPV (m:Nat) (p:V2):UF:=fPT (fRV m p.1) (fRV m p.2)
theorem zDB {cs:List Wc} {a b c d e f:Wc} (h:Value.agg cs.toArray= .agg #[a,b,c,d,e,f]):cs= [a,b,c,d,e,f]:=by
 have:=rG Array.toList (jJ h)
 simpa using this
theorem zX (f g:UF): ∀cs:List Wc, ∀W,(fPT f g).p (.agg cs.toArray) W->cs.length=6:=fun cs W ⟨_,_,_,_,_,_,_,_,_,_,_,_,_,_,e,_⟩=>by rw [zDB e];rfl
theorem zFg {f g:UF} (cs:List Wc) (W:Wb) (h:(CU.agg (fPT f g)).p cs W):0+3<=cs.length/\f.p (.agg ((cs.drop 0).take 3).toArray) W:=by
 obtain ⟨_,_,_,_,_,_,_,_,_,_,_,_,_,_,e,h1,_⟩:=h
 rw [zDB e]
 exact ⟨by simp,h1⟩
theorem zFf {f g:UF} (cs:List Wc) (W:Wb) (h:(CU.agg (fPT f g)).p cs W):3+3<=cs.length/\g.p (.agg ((cs.drop 3).take 3).toArray) W:=by
 obtain ⟨_,_,_,_,_,_,_,_,_,_,_,_,_,_,e,_,h1⟩:=h
 rw [zDB e]
 exact ⟨by simp,h1⟩
theorem zNN {f g:UF} (cs:List Wc) (W:Wb) (h:(CU.agg (fPT f g)).p cs W):0+6<=cs.length/\(fPT f g).p (.agg ((cs.drop 0).take 6).toArray) W:=by
 obtain ⟨s,A,n,c,A',n',c',s2,B,k,d,B',k',d',e,h1,h2⟩:=h
 rw [zDB e]
 exact ⟨by simp,s,A,n,c,A',n',c',s2,B,k,d,B',k',d',rfl,h1,h2⟩
theorem qC {f g:UF} {v:Wc} {W:Wb} (h:(fPT f g).p v W):(CU.agg (fPT f g)).p v.cells.toList W/\v.cells.toList.all zY=true:=by
 obtain ⟨s,A,n,c,A',n',c',s2,B,k,d,B',k',d',rfl,h1,h2⟩:=h
 exact ⟨⟨s,A,n,c,A',n',c',s2,B,k,d,B',k',d',rfl,h1,h2⟩,rfl⟩
theorem zKC {s s2:Bool} {A A' B B':Wf Addr} {n c n' c' k d k' d':Nat} (u:Wc) (hu:u∈ [Value.bool s, .slice A n c, .slice A' n' c', .bool s2, .slice B k d, .slice B' k' d']):u.oneCell'=true:=by
 simp only [pY,List.not_mem_nil,or_false] at hu
 rcases hu with rfl|rfl|rfl|rfl|rfl|rfl<;>rfl
theorem qK {f g:UF} (v:Wc) (W:Wb) (h:(fPT f g).p v W): ∃vs:List Wc,v= .agg vs.toArray/\vs.length=6/\(∀u,u∈vs->u.oneCell'=true)/\vs.all zY=true/\(CU.agg (fPT f g)).p vs W:=by
 obtain ⟨s,A,n,c,A',n',c',s2,B,k,d,B',k',d',rfl,h1,h2⟩:=h
 exact ⟨_,rfl,rfl,zKC,rfl,s,A,n,c,A',n',c',s2,B,k,d,B',k',d',rfl,h1,h2⟩
theorem zCM (f g:UF):CU.ok 6 (CU.agg (fPT f g)):=fun cs W ⟨s,A,n,c,A',n',c',s2,B,k,d,B',k',d',e,_⟩=>by
 rw [zDB e]
 exact ⟨rfl,rfl,zKC⟩
theorem zH0 {f g f' g':UF} (hf: ∀v W,f.p v W->f'.p v W) (hg: ∀v W,g.p v W->g'.p v W) {v:Wc} {W:Wb} (h:(fPT f g).p v W):(fPT f' g').p v W:=by
 obtain ⟨s,A,n,c,A',n',c',s2,B,k,d,B',k',d',e,h1,h2⟩:=h
 exact ⟨s,A,n,c,A',n',c',s2,B,k,d,B',k',d',e,hf _ _ h1,hg _ _ h2⟩
theorem zCa {p:V2} {m:Nat} (h1:QB p.1 m) (h2:QB p.2 m) {v:Wc} {W:Wb} (h:(fPN p).p v W):(fPV m p).p v W:=zH0 (fun _ _ h=>wD h h1) (fun _ _ h=>wD h h2) h
theorem jB {p:V2} {m m':Nat} (hm:m<=m') {v:Wc} {W:Wb} (h:(fPV m p).p v W):(fPV m' p).p v W:=zH0 (fun _ _ h=>RVp.mono h hm) (fun _ _ h=>RVp.mono h hm) h
theorem bPt (s:Bool) (A A':Wf Addr) (n n' c c':Nat) (s2:Bool) (B B':Wf Addr) (k k' d d':Nat):prog.built 31 [(0, .agg #[.bool s, .slice A n c, .slice A' n' c']),(1, .agg #[.bool s2, .slice B k d, .slice B' k' d'])]=some #[.bool s, .slice A n c, .slice A' n' c', .bool s2, .slice B k d, .slice B' k' d']:=by kernel_rfl
theorem zSZ {f g:UF} {u v:Wc} {W:Wb} (hf:zPx f) (hg:zPx g) (hu:f.p u W) (hv:g.p v W): ∃cells,prog.built 31 [(0,u),(1,v)]=some cells/\(fPT f g).p (.agg cells) W:=by
 obtain ⟨s,A,n,c,A',n',c',rfl⟩:=hf _ _ hu
 obtain ⟨s2,B,k,d,B',k',d',rfl⟩:=hg _ _ hv
 exact ⟨_,bPt _ _ _ _ _ _ _ _ _ _ _ _ _ _,s,A,n,c,A',n',c',s2,B,k,d,B',k',d',rfl,hu,hv⟩
abbrev pns (ps:List V2):List CU:=ps.map fun p=>CU.agg (fPN p)
abbrev pvs (m:Nat) (ps:List V2):List CU:=ps.map fun p=>CU.agg (fPV m p)
theorem zQs {ps:List V2} {i:Nat} (h:i<ps.length):(pns ps)[i]?=some (CU.agg (fPN (at_ ps i))):=by
 unfold pns at_;rw [List.getElem?_map,tB,sD h];rfl
theorem jA {m:Nat} {ps:List V2} {i:Nat} (h:i<ps.length):(pvs m ps)[i]?=some (CU.agg (fPV m (at_ ps i))):=by
 unfold pvs at_;rw [List.getElem?_map,tB,sD h];rfl
theorem zEM {z:Nat} {Cs Ds:List CU} (hl:Cs.length=Ds.length) (h: ∀(i:Nat) (C D:CU),Cs[i]?=some C->Ds[i]?=some D-> ∀cs W,C.p cs W->D.p cs W) (v:Wc) (W:Wb) (hv:(SF.row z Cs).p v W):(SF.row z Ds).p v W:=by
 obtain ⟨A,c,e,h2,h3,h4,h5⟩:=hv
 rw [hl] at e h2
 refine ⟨A,c,e,h2,h3,h4,fun i D hD=> ?_⟩
 have hi:i<Cs.length:=by rw [hl];exact (rH.1 hD).1
 obtain ⟨b,o,cs,g1,g2,g3⟩:=h5 i _ (sD hi)
 exact ⟨b,o,cs,g1,g2,h i _ _ (sD hi) hD cs W g3⟩
theorem zF3 {ps:List V2} {m:Nat} (hp: ∀p,p∈ps->QB p.1 m/\QB p.2 m) (v:Wc) (W:Wb) (hv:(SF.row 6 (pns ps)).p v W):(SF.row 6 (pvs m ps)).p v W:=
 zEM fK (fun i C D hC hD cs W h=>by
  have hi:i<ps.length:=by have:=(rH.1 hC).1;simpa using this
  rw [zQs hi] at hC
  rw [jA hi] at hD
  cases hC;cases hD
  have:=hp _ (qV hi)
  exact zCa this.1 this.2 h) v W hv
section
variable {F:Fence} {m:Nat} {P:Wh} {w0:Wb} {ops:Array Oper} {G:Nat->SF} {d:Tmp} {ty:We} {pos:String} {aft:Array Edge}
theorem zLu {f:FuncId} {cs:Array Wg} (h: ∀(b:Act) (W:Wb),Below w0.heap.size w0 W->(∀x,x∈cs.toList->(fct G x).p (b.eval x) W)->(G d).p (.func (.func f) #[] (cs.map b.eval)) W):qP F m P w0 ops G ⟨some d, .makeFunc (.func f) #[] cs,ty,pos,aft,none⟩:=
 qU (fun _ e=>by cases e) (fun _ e=>by cases e) fun b W hb hh=>by
  have:=h b W hb fun x hx=>hh x (by simpa [Op.operands] using hx)
  exact ⟨_,by simp [execOp,Instr.makeFunc],this⟩
theorem zDj {f:FuncId} {x:Wg} (h: ∀u W,Below w0.heap.size w0 W->(fct G x).p u W->(G d).p (.func (.func f) #[] #[u]) W):qP F m P w0 ops G ⟨some d, .makeFunc (.func f) #[] #[x],ty,pos,aft,none⟩:=
 zLu fun b W hb hh=>by simpa using h _ W hb (hh x fK)
theorem zNW {f:FuncId} {x y:Wg} (h: ∀u v W,Below w0.heap.size w0 W->(fct G x).p u W->(fct G y).p v W->(G d).p (.func (.func f) #[] #[u,v]) W):qP F m P w0 ops G ⟨some d, .makeFunc (.func f) #[] #[x,y],ty,pos,aft,none⟩:=
 zLu fun b W hb hh=>by simpa using h _ _ W hb (hh x fK) (hh y fK)
theorem yP {x y:Wg} {t:We} {z:Nat} {Cs:List CU} {i:Nat} {C:CU} (hz:zEw P t=some z) (hi:Cs[i]?=some C) (hx: ∀v W,Below w0.heap.size w0 W->(fct G x).p v W->(SF.row z Cs).p v W) (hy: ∀v W,(fct G y).p v W->v= .int .i64 (i:Int)) (hd: ∀v W,(wB C.cf).p v W->(G d).p v W:=by exact fun _ _ h=>h):qP F m P w0 ops G ⟨some d, .indexAddr t x y,ty,pos,aft,none⟩:=
 qU (fun _ e=>by cases e) (fun _ e=>by cases e) fun b W hb hh=>by
  obtain ⟨A,c,e,h2,h3,h4,h5⟩:=hx _ _ hb (hh x (by simp [Op.operands]))
  have e2:=hy _ _ (hh y (by simp [Op.operands]))
  obtain ⟨b',o,cs,rfl,h6,h7⟩:=h5 i C hi
  have hlt:i<Cs.length:=(rH.1 hi).1
  unfold zEw at hz
  split at hz<;>try cases hz
  rename_i e' hu
  cases hin:P.info? e' with
  |none=>rw [hin] at hz;cases hz
  |some ie=>
   rw [hin] at hz
   simp only [Option.map_some,sG] at hz
   have hel:P.elem t=e':=by simp [Program.elem,hu]
   refine ⟨.pointer (some ⟨b',o+i*z,none⟩), ?_,hd _ _ ⟨b',o+i*z,cs,rfl,h7,h6⟩⟩
   have hb1:(0:Int)<=(i:Int)/\(i:Int)<(Cs.length:Nat):=by omega
   simp only [execOp,e,e2]
   rw [rS,run_indexAt_slice _ _ _ _ _ _ _ (by rw [hel];exact hu),if_pos hb1,hel]
   simp [sizeOf,typeInfo,hin,hz,rQ]
theorem jC {x:Wg} {t:We} {z:Nat} {Cs:List CU} (ht:P.underlying t=some (.slice (P.elem t))) (hx: ∀v W,Below w0.heap.size w0 W->(fct G x).p v W->(SF.row z Cs).p v W) (hd: ∀W,(G d).p (.int .i64 (Cs.length:Nat)) W:=by exact fun _=>rfl):qP F m P w0 ops G ⟨some d, .call ⟨.builtin .len,#[x],#[t]⟩,ty,pos,aft,none⟩:=by
 intro b W K Q hb hr hK
 obtain ⟨A,c,e,_⟩:=hx _ _ hb (qA hr (x:=x) (by simp [Op.operands,Call.operands]))
 refine ⟨fun f hf=>(by
  unfold Oper.about at hf
  simp [resolve,go_sem] at hf), ?_⟩
 rw [rA _ _ _ (fun _ e=>by cases e)]
 have:(execOp b.eval ⟨some d, .call ⟨.builtin .len,#[x],#[t]⟩,ty,pos,aft,none⟩).run P W= .ok (.value (.int .i64 (Cs.length:Nat))) W:=by
  simp [execOp,resolve,invoke,builtin,e,run_len_slice _ _ _ _ _ _ ht,goInt]
 rw [this]
 exact hK _ _ (fun d' e'=>by cases e';exact hd _) (pR _ _)
theorem zH6 {t:We} {x y:Wg} {t':We} (k:IntKind) (u v r:Int) (hx: ∀q W,(fct G x).p q W->q= .int k u) (hy: ∀q W,(fct G y).p q W->q= .int k v) (hv:v≠0) (hr:u.tmod v=r) (hd: ∀W,(G d).p (.int k r) W:=by exact fun _=>rfl):qP F m P w0 ops G ⟨some d, .binOp .rem t x y t',ty,pos,aft,none⟩:=
 zD0 (.int k u) (.int k v) (.int k r) hx hy (fun W=>by simp [eqGuard]) (fun W=>by simp [binOp,Op.intDiv,hv,hr]) hd
end
section
variable {F:Fence} {m:Nat} {P:Wh} {ops:Array Oper} {Q:Exit->Act->Wb->Prop}
theorem zBZ {S:Nat->Prop} {w0:Wb} {K:List (Nat×KF)} {B:List Bx} {n:Nat} {ds:List Deferred} {a:Act} {w:Wb} {id:Nat} (k:Nat) (L:List (Nat×Rw)) (h:StS S w0 K B n ds a w)
  (hchk:(zEr ops k n (L.map (·.1))&&zFl ops k (K.map (·.1)++B.map (·.t))&&zAD (L.map (·.1)))=true)
  (hobs:Obs F m P w ops (upd (jZ K B) (zM L)) (ops.toList.take k))
  (hfin: ∀a w,StS S w0 (zBB L++K) B n ds a w->(∀q,q∈zM L->q.2.p (a.tmps.getD q.1 undef) w)->zB9 F m P ops Q k a w):(Code.region id ops false).wpIn F m P Q a w:=by
 simp only [pN] at hchk
 obtain ⟨⟨hchk,hun⟩,hnd⟩:=hchk
 unfold zEr at hchk
 simp only [pN] at hchk
 obtain ⟨⟨⟨⟨⟨hap,hfr⟩,hpl⟩,hk⟩,hkeys⟩,hrd⟩:=hchk
 have hk:=sP hk
 have hks:(zM L).map (·.1)=L.map (·.1):=by simp [zM]
 have hsame: ∀t,t∈K.map (·.1)++B.map (·.t)-> ∀i,i<k->zW ops i≠some t:=fun t ht i hi he=>by
  have h2:=pK.1 (pK.1 hun t ht) i (pL.2 hi)
  rw [he] at h2
  simp at h2
 have hA:=h.at
 have hkn: ∀t,(∀j,j<k->zW ops j≠some t)->upd (jZ K B) (zM L) t=jZ K B t:=fun t ht=>by
  refine jP ?_
  cases hc:((zM L).map (·.1)).contains t with
  |false=>rfl
  |true=>
   exfalso
   have hm:=pW.1 hc
   rw [hks] at hm
   obtain ⟨i,hi,he⟩:=pU.1 (pK.1 hkeys t hm)
   exact ht i (pL.1 hi) (by simpa using he)
 refine wpIn_region ?_
 rw [List.range_eq_range']
 -- the table, the kept slots' values said
 let G1:Nat->SF:=fun t=>if t∈K.map (·.1)++B.map (·.t) then ⟨fun v W=>(upd (jZ K B) (zM L) t).p v W/\v=a.tmps.getD t undef,fun _ _ _ h hb=>⟨(upd (jZ K B) (zM L) t).st _ _ _ h.1 hb,h.2⟩⟩ else upd (jZ K B) (zM L) t
 have hle: ∀t v W,(G1 t).p v W->(upd (jZ K B) (zM L) t).p v W:=fun t v W hh=>by
  by_cases ht:t∈K.map (·.1)++B.map (·.t)
  ·simp only [G1,if_pos ht] at hh
   exact hh.1
  ·simp only [G1,if_neg ht] at hh
   exact hh
 have hge: ∀t,(∃i,i<k/\zW ops i=some t)->G1 t=upd (jZ K B) (zM L) t:=fun t ⟨i,hi,he⟩=>by
  simp only [G1]
  rw [if_neg fun ht=>hsame t ht i hi he]
 have hobs': ∀i o,i<k->ops[i]?=some o->qP F m P w ops G1 o:=fun i o hi ho=>by
  have hg:=hobs.get i o (by rw [sV hi];simpa using ho)
  have hop:zKe F m P w (upd (jZ K B) (zM L)) o->zKe F m P w G1 o:=fun h1 b W K' Q' hb hr hK'=>
   h1 b W K' Q' hb (fun t ht=>hle t _ _ (hr t ht)) fun v W' hv hb'=>hK' v W' (fun d hd=>by rw [hge d ⟨i,hi,by rw [qM ho];exact hd⟩];exact hv d hd) hb'
  unfold qP at hg ⊢
  cases hgd:o.guard with
  |none=>rw [hgd] at hg;exact hop hg
  |some q=>
   rw [hgd] at hg
   obtain ⟨g,bv,h1,h2,h3,h4⟩:=hg
   exact ⟨g,bv,h1,fun v W hh=>h2 v W (hle g v W hh),fun e=>hop (h3 e),fun e=>⟨fun d hd W=>by rw [hge d ⟨i,hi,by rw [qM ho];exact hd⟩];exact (h4 e).1 d hd W,(h4 e).2⟩⟩
 refine zFR (G:=G1) (k:=k) (n:=n) (a0:=a) (wA:=w) (w0:=w) hap hfr hk (fun i o hi ho t ht j hj=> ?_) (fun t ht=> ?_) hobs' (fun a' w' hb hs hd hh=> ?_) k 0 a w oN (pR _ _) (pR _ _) h.size rfl (fun t ⟨j,hj,_⟩=>absurd hj oN) (fun t _=>rfl)
 ·have h1:=pK.1 hrd i (pL.2 hi)
  rw [ho] at h1
  obtain ⟨oj,hoj,_⟩:=y9 hj
  have h2:=pK.1 (pK.1 h1 t ht) j (pL.2 (pQ.1 hoj).1)
  rw [hj] at h2
  simpa using h2
 ·have h1:=hA.sl t
  rw [<-hkn t ht] at h1
  by_cases hm:t∈K.map (·.1)++B.map (·.t)
  ·simp only [G1,if_pos hm]
   exact ⟨h1,by first|rfl|trivial⟩
  ·simp only [G1,if_neg hm]
   exact h1
 ·have hslot: ∀t,t∈K.map (·.1)++B.map (·.t)->a'.tmps.getD t undef=a.tmps.getD t undef:=fun t ht=>by
   have h1:=hh t
   simp only [G1,if_pos ht] at h1
   exact h1.2
  have hrow: ∀q,q∈zM L->q.2.p (a'.tmps.getD q.1 undef) w':=fun q hm2=>by
   have h1:=hle q.1 _ _ (hh q.1)
   rwa [zBY (q:=q) (by rw [hks];exact hnd) hm2] at h1
  refine hfin a' w' ⟨h.gr.trans hb,hs,by rw [hd];exact h.nd,fun q hq=> ?_,h.bx.keep hb (zS hb) B fun x hx=>hslot _ (rU _ (pP.2 ⟨x,hx,rfl⟩)),zAl h.mks hb,h.so.imp (fun hu q hq=>(by
   rcases rI.1 hq with hq|hq
   ·obtain ⟨f,e,_⟩:=jO hq;exact ⟨f,e⟩
   ·exact hu q hq)) (fun x=>x)⟩ hrow
  rcases rI.1 hq with hq|hq
  ·obtain ⟨f,hqf,hm⟩:=jO hq
   have hm2:((q.1,f.tS):Nat×SF)∈zM L:=pP.2 ⟨_,hm,rfl⟩
   have h1:=hle q.1 _ _ (hh q.1)
   rw [zBY (q:=(q.1,f.tS)) (by rw [hks];exact hnd) hm2] at h1
   rw [hqf]
   exact h1
  ·rw [hslot q.1 (sI _ (pP.2 ⟨q,hq,rfl⟩))]
   exact KF.us (h.sl q hq) (zS hb)
end
section
variable {S:Nat->Prop} {F:Fence} {m:Nat} {P:Wh} {ops:Array Oper} {Q:Exit->Act->Wb->Prop} {w0:Wb} {K:List (Nat×KF)} {B:List Bx} {n:Nat} {ds:List Deferred} {a:Act} {w:Wb}
theorem zDY {id:Nat} (K0:List (Nat×KF)) (pre:List Nat) (k:Nat) (L:List (Nat×Rw)) (hmix:P.follows .mixedOrders=true) (h:StS S w0 (K0++K) B n ds a w)
  (hchk:(zBL ops pre k n (L.map (·.1))&&zAT ops (K.map (·.1)++B.map (·.t))&&zAD (L.map (·.1)))=true)
  (hobs:Obs F m P w ops (upd (jZ (K0++K) B) (zM L)) (ops.toList.take k))
  (hfin: ∀Q',(∀a w,Q .normal a w->Q' .normal a w)-> ∀a w,StS S w0 (zBB L++K) B n ds a w->(∀q,q∈zM L->q.2.p (a.tmps.getD q.1 undef) w)->zB9 F m P ops Q' k a w):(Code.region id ops true).wpIn F m P Q a w:=by
 simp only [pN] at hchk
 have hkeys:(zM L).map (·.1)=L.map (·.1):=by simp [zM]
 have h0:=hchk.1.1
 unfold zBL at h0
 simp only [pN] at h0
 obtain ⟨⟨⟨⟨⟨⟨⟨⟨⟨⟨⟨⟨⟨⟨⟨hap,_⟩,_⟩,_⟩,_⟩,hks⟩,_⟩,_⟩,_⟩,_⟩,_⟩,_⟩,_⟩,_⟩,_⟩,_⟩:=h0
 exact zEH K0 k L h (fun G' hA hO hF=>zCj pre k (zM L) hmix (by rw [hkeys];exact hchk.1.1) hA hO hF) hap hks hchk.1.2 hchk.2 hobs (fun a w h hr=>hfin (qE Q) (fun a w h=>h) a w h hr)
end
theorem StS.toSt {S:Nat->Prop} {w0:Wb} {K:List (Nat×KF)} {B:List Bx} {n:Nat} {ds:List Deferred} {a:Act} {w:Wb} (h:StS S w0 K B n ds a w) (hS: ∀k, ¬S k) (hB:(B.all fun x=>x.r)=true):St w0 K B n ds a w:=
 ⟨⟨h.gr.os,h.gr.tape,h.gr.output,h.gr.size,fun k hk _=>h.gr.block k hk (hS k)⟩,h.size,h.nd,h.sl,wZ B (fun x hx=>by simpa using pK.1 hB x hx) h.bx,h.mks, .inr fun _ hh=>hh⟩
section
variable {S:Nat->Prop} {w0:Wb} {K:List (Nat×KF)} {B:List Bx} {n:Nat} {ds:List Deferred} {a:Act} {w:Wb}
theorem zFC {c:Nat} {C:CU}: ∀(B:List Bx),(∀x,x∈B->x.t=c-> ∀cs W,x.c.p cs W->C.p cs W)->yQ S w0 a w B->yQ S w0 a w (zD5 B c C)
 | [],_,_=>trivial
 | x::B,hw,h=>by
  obtain ⟨⟨cs,h1,h2,h3,h4,h5,h6⟩,hr⟩:=h
  unfold zD5
  cases e:Nat.beq x.t c with
  |true=>exact ⟨⟨cs,h1,h2,h3,hw x (rW ..) (rL e) cs w h4,h5,h6⟩,hr⟩
  |false=>
   refine ⟨⟨cs,h1,h2,h3,h4,h5,fun y hy=> ?_⟩,zFC B (fun y hy=>hw y (rX _ hy)) hr⟩
   have:(y.b,y.r)∈(zD5 B c C).map (fun x=>(x.b,x.r)):=pP.2 ⟨y,hy,rfl⟩
   rw [zKE] at this
   obtain ⟨z,hz,ez⟩:=pP.1 this
   simp only [rV] at ez
   have:=h6 z hz
   rw [ez.1,ez.2] at this
   exact this
theorem StS.weakB (h:StS S w0 K B n ds a w) (c:Nat) (C:CU) {z:Bx} (hB:zDw B c=some z) (hu:(B.map (·.t)).Nodup) (hi: ∀cs W,z.c.p cs W->C.p cs W):StS S w0 K (zD5 B c C) n ds a w:=
 ⟨h.gr,h.size,h.nd,h.sl,zFC B (fun x hx e=>by
  obtain ⟨hz,hzc⟩:=jE hB
  have:x=z:=by
   have hinj: ∀(B:List Bx),(B.map (·.t)).Nodup->x∈B->z∈B->x.t=z.t->x=z:=by
    intro B
    induction B with
    |nil=>intro _ h1;cases h1
    | cons y B ih=>
     intro hn h1 h2 e
     rw [rF,sM] at hn
     rcases pY.1 h1 with h3|h3
     ·rcases pY.1 h2 with h4|h4
      ·rw [h3,h4]
      ·exact absurd (pP.2 ⟨z,h4,by rw [<-e,h3]⟩) hn.1
     ·rcases pY.1 h2 with h4|h4
      ·exact absurd (pP.2 ⟨x,h3,by rw [e,h4]⟩) hn.1
      ·exact ih hn.2 h3 h4 e
   exact hinj B hu hx hz (e.trans hzc.symm)
  rw [this]
  exact hi) h.bx,h.mks,h.so⟩
end
theorem zFz {P:Wh} {T:Array Wc->Wb->SF->Prop} {f:FuncId} {caps:Array Wc} {W:Wb} (he:Enters P f) (h: ∀W',Below W.heap.size W W'-> ∀args R,T args W' R->Calls P f (args++caps) W' (Ret W' R)):(SF.fn P T).p (.func (.func f) #[] caps) W:=⟨f,caps,rfl,he,h⟩
end Go.Proofs.Wd

namespace Go.Proofs.Wd
open Tryz
set_option maxRecDepth 100000
open Go.RowKit Lb
def zUE (a b:Nat) (w:Wb) (x y:Wc) (w':Wb):Prop:= ∃p q:Nat,x= .int .u64 p/\y= .int .u64 q/\Nat.gcd p q=Nat.gcd a b/\p<18446744073709551616/\q<18446744073709551616/\Below w.heap.size w w'
theorem zK2 {W:Wb} {u v:Wc} (a b:Nat) (hu:u= .int .u64 (a:Int)) (hv:v= .int .u64 (b:Int)) (ha:a<18446744073709551616) (hb:b<18446744073709551616):Calls prog 77 #[u,v] W (Ret W (UF.eq (.int .u64 ((Nat.gcd a b:Nat):Int))).tS):=by
 subst hu
 subst hv
 have hmix:prog.follows .mixedOrders=true:=by kernel_rfl
 go_enter func77,ntmps77
 go_wp2
 go_loopw [0,1] (zUE a b W) (fun _ y _=>(intOf y).toNat)
 case atStart=>exact ⟨a,b,rfl,rfl,rfl,ha,hb,pR _ _⟩
 case round=>
  obtain ⟨p,q,rfl,rfl,hg,hp,hq,hB⟩:=hrel
  have HG:=hid hg
  clear hg
  by_cases h0:0<q
  ·have hq0:(q:Int)≠0:=by omega
   have hmod:(p:Int).tmod (q:Int)=((p % q:Nat):Int):=by rw [Int.tmod_eq_emod_of_nonneg oN,Int.natCast_emod]
   have hlt:p % q<q:=Nat.mod_lt _ h0
   obtain ⟨r,hr⟩: ∃r,p % q=r:=⟨_,rfl⟩
   rw [hr] at hmod hlt
   have HR:=hid hr
   clear hr
   go_wp2
   refine (wpIn_wide (n:=0)).1 ?_
   refine yC 100 (fun _=>True) hmix ?_
   refine zP (i:=0) (v:= ?vv1) kG kG rfl kG kG kG (fun _ _ _ h=>h) trivial ⟨.inl ⟨rfl, ?yy1⟩,fun _=>rfl⟩ ?_
   case yy1=>
    rintro wx _
    go_simp
    first|done|rfl
   refine zP (i:=1) (v:= ?vv2) kG kG rfl kG kG kG (fun _ _ _ h=>h) trivial ⟨.inl ⟨rfl, ?yy2⟩,fun _=>rfl⟩ ?_
   case yy2=>
    rintro wx _
    go_simp
    first|done|rfl
   refine zP (i:=2) (v:= ?vv3) kG kG rfl kG kG kG (fun _ _ _ h=>h) trivial ⟨.inl ⟨rfl, ?yy3⟩,fun _=>rfl⟩ ?_
   case yy3=>
    rintro wx _
    go_simp
    first|done|rfl
   refine zP (i:=3) (v:= .int .u64 (r:Nat)) kG kG rfl kG kG kG (fun _ _ _ h=>h) trivial ⟨.inl ⟨rfl, ?y3⟩,fun _=>rfl⟩ ?_
   case y3=>
    rintro wx _
    go_simp
    omega
   refine zAA (i:=4) kG rfl (fun K hK=> ?_)
   go_simp
   refine hK _ _ (.inr trivial) ?_
   clear hK K
   refine zAA (i:=5) kG rfl (fun K hK=> ?_)
   go_simp
   refine hK _ _ (.inr trivial) ?_
   clear hK K
   refine zCb kG ?_
   go_wp2
   go_roundw
   case rel=>exact ⟨q,r,rfl,by go_num,by rw [<-HG.out, <-HR.out,Nat.gcd_comm p q,Nat.gcd_rec q p,Nat.gcd_comm],hq,by omega,hB.drew⟩
   case measure=>simp [intOf];omega
  ·obtain rfl:q=0:=by omega
   go_wp2
   go_ret
   have:=HG.out
   rw [Nat.gcd_zero_right] at this
   subst this
   exact ⟨_,rfl,rfl,hB⟩
section
variable {F:Fence} {n:Nat} {P:Wh} {ops:Array Oper} {Q:Exit->Act->Wb->Prop}
theorem zJw {CW:Wb->Prop} {i:Nat} {o:Oper} {v:Wc} {a:Act} {w:Wb} {K:Act->Wb->Prop} (ho:ops[i]?=some o) (hpl:jV ops=true) (hy:zAp P ops CW o v a) (hw:CW w) (h:wpOpIn F n P ops Q i K a w):K (a.put o.dst v) w:=by
 unfold wpOpIn at h
 simp only [ho] at h
 rcases hy.1 with ⟨hw',hv⟩|⟨hw',rfl⟩
 ·simp only [hw',if_true,Oper.wpIn,rA _ _ _ (zB2 hpl ho),hv w hw,Oper.uponIn] at h
  exact h.2
 ·simp only [hw',Bool.false_eq_true,if_false] at h
  exact h.2
variable {listed0:Array Bool} {A:Nat->Bool} {E:Nat->Wc->Wb->Prop} {C:Wb->Prop} {a0:Act}
end
section
variable {S:Nat->Prop} {w0:Wb} {K:List (Nat×KF)} {B:List Bx} {n:Nat} {ds:List Deferred} {a:Act} {w:Wb} {F:Fence} {m:Nat} {P:Wh} {ops:Array Oper} {Q:Exit->Act->Wb->Prop}
end
section
variable {w0:Wb} {P:Wh} {ops:Array Oper} {G:Nat->SF} {d:Tmp} {ty:We} {pos:String} {aft:Array Edge}
section
variable {l:Wc} {x y:Wg} {t:We} {z:Nat} {Cs:List CU} {i:Nat} {C:CU}
end
end
section
variable {S:Nat->Prop} {w0:Wb} {K:List (Nat×KF)} {B:List Bx} {n:Nat} {ds:List Deferred} {a:Act} {w:Wb} {F:Fence} {m:Nat} {P:Wh} {ops:Array Oper} {Q:Exit->Act->Wb->Prop}
end
def inL:List Nat->Nat->Bool
 | [],_=>false
 |k::l,i=>bif Nat.beq k i then true else inL l i
theorem zGi (l m:List Nat) (i:Nat):inL (l++m) i=(inL l i||inL m i):=by
 induction l with
 |nil=>rfl
 |cons k l ih=>
  show (bif Nat.beq k i then true else inL (l++m) i)=((bif Nat.beq k i then true else inL l i)||inL m i)
  cases Nat.beq k i with
  |true=>rfl
  |false=>exact ih
theorem zQI {l:List Nat} {i:Nat} (h:inL l i=true):i∈l:=by
 induction l with
 |nil=>cases h
 |cons k l ih=>
  have h:(bif Nat.beq k i then true else inL l i)=true:=h
  cases e:Nat.beq k i with
  |true=>rw [rL e];exact rW ..
  |false=>rw [e] at h;exact rX _ (ih h)
def lst (n:Nat) (D:List Nat):Array Bool:=((List.range n).map (inL D)).toArray
theorem zEn (n:Nat) (D:List Nat):(lst n D).size=n:=by simp [lst]
theorem zBl {n i:Nat} {D:List Nat} {d:Bool} (h:i<n):(lst n D).getD i d=inL D i:=by simp [lst,h]
theorem zQC {n i:Nat} {D:List Nat} {d:Bool} (h:n<=i):(lst n D).getD i d=d:=by
 rw [pS,pZ (by rw [zEn];exact h)]
 rfl
theorem zD2 {n i:Nat} {D:List Nat} (h:(lst n D).getD i true=false):i<n/\inL D i=false:=by
 rcases pX i n with g|g
 ·rw [zBl g] at h;exact ⟨g,h⟩
 ·rw [zQC g] at h;cases h
theorem zHf {l:Array Bool} {n:Nat} {D:List Nat} (hs:l.size=n) (h: ∀i,i<n->l.getD i false=inL D i):l=lst n D:=by
 refine Array.ext (by rw [hs,zEn]) fun i h1 h2=> ?_
 have:=h i oN
 rw [pS,rD h1] at this
 have e:l[i]=inL D i:=this
 rw [e]
 simp [lst]
theorem zLO {n i:Nat} {D:List Nat} (hi:i<n):(lst n D).setIfInBounds i true=lst n (i::D):=by
 refine zHf (by simp [lst]) fun j hj=> ?_
 show _=(bif Nat.beq i j then true else inL D j)
 by_cases e:i=j
 ·subst e
  rw [pS,Array.getElem?_setIfInBounds_self_of_lt (by rw [zEn];exact hi),Nat.beq_refl]
  rfl
 ·rw [pM false e,zBl hj]
  cases h:Nat.beq i j with
  |true=>exact absurd (rL h) e
  |false=>rfl
def zRz (ops:Array Oper) (D fl D':List Nat):Bool:=(List.range ops.size).all fun j=>inL D' j||(List.range ops.size).all fun i=> !inL D' i||inL fl i||inL D i||zCy ops ops.size i j
section
variable {F:Fence} {n:Nat} {P:Wh} {ops:Array Oper} {Q:Exit->Act->Wb->Prop}
variable {A:Nat->Bool} {E:Nat->Wc->Wb->Prop} {C:Wb->Prop} {a0:Act}
theorem zTC {D D':List Nat} {z:Nat} (fl:List Nat) (hpl:jV ops=true) (hns:Region.noSelect ops=true) (hzs:ops.size<=z) (CW:Wb->Prop) (hCW: ∀w,C w->CW w) (hfree: ∀i,inL D i=false->inL D' i=true->inL fl i=true->Region.free .any ops (zBp ops i) i=true)
  (hfk: ∀i,inL D' i=true->inL fl i=true->(lst ops.size D).getD i true=false-> ∀o,ops[i]?=some o-> ∀a w,FlowB ops (lst ops.size D) A E C a0 (fun j=>(lst ops.size D).getD j true=false/\ ∃e∈o.after,Region.binds .any e=true/\e.on=j) a w-> ∃v,zAp P ops CW o v a)
  (hear:zBg ops=true) (htl:zRz ops D fl D'=true) (hap:jF ops=true) (hfr:zAm ops a0.tmps.size=true) (hcl':zFD ops (lst ops.size D')) (hC: ∀w w',C w->Below w.heap.size w w'->C w') (hE: ∀i v w w',E i v w->Below w.heap.size w w'->E i v w')
  (hspec: ∀i,inL D' i=true->(lst ops.size D).getD i true=false-> ∀o,ops[i]?=some o-> ∀a w,FlowB ops (lst ops.size D) A E C a0 (fun j=>(lst ops.size D).getD j true=false/\ ∃e∈o.after,Region.binds .any e=true/\e.on=j) a w-> ∀K:Act->Wb->Prop,(∀v w',E i v w'->Below w.heap.size w w'->(A i=true-> ∀b,blk v=some b->w.heap.size<=b/\b<w'.heap.size)->K (a.put o.dst v) w')->wpOpIn F n P ops (qE Q) i K a w)
  (hfin: ∀a w,FlowB ops (lst ops.size D) A E C a0 (fun i=>inL D' i=true/\(lst ops.size D).getD i true=false) a w->jK F n P .any ops z CW (qE Q) ((lst ops.size D').count false) (lst ops.size D') a w):
  ∀(fuel:Nat) (listed:Array Bool) (a:Act) (w:Wb),listed.count false=fuel->listed.size=ops.size->(∀i,i<ops.size->inL D' i=false->listed.getD i false=false)->zFD ops listed->(∀i,i<ops.size->inL D i=true->listed.getD i false=true)->
   FlowB ops (lst ops.size D) A E C a0 (fun i=>(lst ops.size D).getD i true=false/\listed.getD i false=true) a w->jK F n P .any ops z CW (qE Q) fuel listed a w:=by
 intro fuel
 induction fuel with
 | zero=>
  intro listed a w hc hs hlate hcl hsub hf
  have hno: ∀i,listed.getD i true=true:=fun i=>by
   cases hg:listed.getD i true with
   |true=>rfl
   |false=>have:=jR hg;omega
  have hall: ∀i,i<ops.size->listed.getD i false=true:=fun i hi=>by
   have h1:=hno i
   have hlt:i<listed.size:=by omega
   simp [hlt] at h1 ⊢
   exact h1
  have hl:listed=lst ops.size D':=zHf hs fun i hi=>by
   rw [hall i hi]
   cases h:inL D' i with
   |true=>rfl
   |false=>have:=hlate i hi h;rw [hall i hi] at this;cases this
  have:=hfin a w (hf.mono fun i hi=>⟨hi.2,hall i (zD2 hi.2).1⟩)
  rw [<-hl,hc] at this
  exact this
 | succ fuel ih=>
  intro listed a w hc hs hlate hcl hsub hf
  by_cases hall: ∀i,i<ops.size->inL D' i=true->listed.getD i false=true
  ·have hl:listed=lst ops.size D':=zHf hs fun i hi=>by
    cases h:inL D' i with
    |true=>exact hall i hi h
    |false=>exact hlate i hi h
   have:=hfin a w (hf.mono fun i hi=>⟨hi.2,hall i (zD2 hi.2).1 hi.1⟩)
   rw [<-hl,hc] at this
   exact this
  ·simp only [sA] at hall
   obtain ⟨u0,hu0l,hu0p,hu0⟩:=hall
   obtain ⟨u,⟨hul,hup,hu⟩,hmin⟩:=zDs (p:=fun u=>u<ops.size/\inL D' u=true/\ ¬listed.getD u false=true) u0 ⟨hu0l,hu0p,hu0⟩
   have hlt:u<listed.size:=by omega
   have hu':listed.getD u true=false:=by
    simp [hlt] at hu ⊢
    exact hu
   have hl0u:(lst ops.size D).getD u true=false:=by
    rw [zBl hul]
    cases hg:inL D u with
    |false=>rfl
    |true=>exact absurd (hsub u hul hg) hu
   have hsome: ∀i,listed.getD i true=false->Region.ready .any ops listed≠ []:=by
    intro i
    induction i using Nat.strongRecOn with
    | _ i ihi=>
     intro hi hnil
     have hlt:i<listed.size:=by
      rcases pX i listed.size with e|e
      ·exact e
      ·simp [pZ e] at hi
     have ho:ops[i]?=some (ops[i]'(by rw [<-hs];exact hlt)):=rD _
     by_cases hall: ∀e∈(ops[i]'(by rw [<-hs];exact hlt)).after,Region.binds .any e=true->listed.getD e.on false=true
     ·have hm:i∈Region.ready .any ops listed:=rE.2 ⟨hi,_,ho,hall⟩
      rw [hnil] at hm
      cases hm
     ·simp only [sA] at hall
      obtain ⟨e,he,hb,hg⟩:=hall
      have hel:=zA4 hear ho he hb
      refine ihi e.on hel ?_ hnil
      have hlt2:e.on<listed.size:=by omega
      simp [hlt2] at hg ⊢
      exact hg
   by_cases hfu:inL fl u=true
   ·have hou:ops[u]?=some ops[u]:=rD hul
    have hdone: ∀e∈ops[u].after,Region.binds .any e=true->listed.getD e.on false=true:=fun e he hb=>by
     have hel:=zA4 hear hou he hb
     have hpe:inL D' e.on=true:=by
      have:=hcl' u _ (by rw [zBl hul];exact hup) hou e he hb
      rwa [zBl oN] at this
     exact sU fun hc=>hmin e.on hel ⟨by omega,hpe,hc⟩
    have hrd:(Region.ready .any ops listed).contains u=true:=pW.2 (rE.2 ⟨hu',_,hou,hdone⟩)
    have hfre:=hfree u (zD2 hl0u).2 hup hfu
    obtain ⟨v0,hy⟩:=hfk u hup hfu hl0u _ hou a w (hf.mono fun j hj=>(by
     obtain ⟨hj0,e,he,hb,rfl⟩:=hj
     exact ⟨hj0,hdone e he hb⟩))
    have hw:=hspec u hup hl0u _ hou a w (hf.mono fun j hj=>(by
     obtain ⟨hj0,e,he,hb,rfl⟩:=hj
     exact ⟨hj0,hdone e he hb⟩)) (fun a' w'=> ∃v,a'=a.put ops[u].dst v/\E u v w'/\Below w.heap.size w w'/\(A u=true-> ∀b,blk v=some b->w.heap.size<=b/\b<w'.heap.size)) (fun v w' hv hb hA=>⟨v,rfl,hv,hb,hA⟩)
    obtain ⟨v,hpe,hv,hb,hA⟩:=zJw hou hpl hy (hCW _ hf.at_.cls) hw
    refine zP (i:=u) (v:=v0) hpl (by unfold zBj;rw [pZ hzs]) hou hns (zJe (fun j hj hc=>(by
     have h9:=zAv hcl _ j u _ hou hdone hc
     have g:j<listed.size:=by omega
     simp [g] at h9 ⊢
     exact h9)) hfre) hrd (fun _ _ _ h=>h) (hCW _ hf.at_.cls) hy ?_
    rw [hpe]
    refine ih (listed.setIfInBounds u true) (a.put ops[u].dst v) w ?_ (by simpa using hs) (fun j hj hjp=> ?_) (fun j oj hj hoj e he hbe=> ?_) (fun j hj hjl=> ?_) ((hf.put hap hfr hC hE hou hl0u hv hb hA).mono fun j hj=> ?_)
    ·have:=jR hu'
     omega
    ·rw [pM false (fun e=>by subst e;rw [hup] at hjp;cases hjp)]
     exact hlate j hj hjp
    ·by_cases e2:j=u
     ·subst e2
      rw [hou] at hoj
      cases hoj
      by_cases e3:e.on=j
      ·rw [e3];exact hj
      ·rw [pM false (Ne.symm e3)]
       exact hdone e he hbe
     ·rw [pM false (Ne.symm e2)] at hj
      have:=hcl j oj hj hoj e he hbe
      by_cases e3:e.on=u
      ·rw [e3]
       simp [hlt]
      ·rw [pM false (Ne.symm e3)]
       exact this
    ·by_cases e3:j=u
     ·rw [e3];simp [hlt]
     ·rw [pM false (Ne.symm e3)]
      exact hsub j hj hjl
    ·by_cases e:j=u
     ·exact .inr e
     ·left
      rw [pM false (Ne.symm e)] at hj
      exact hj
   ·refine ⟨fun hnil=>(hsome u hu' hnil).elim,fun i hi=> ?_⟩
    obtain ⟨hun,o,ho,hall⟩:=rE.1 hi
    have hil:=(pQ.1 ho).1
    have hl0:(lst ops.size D).getD i true=false:=by
     rw [zBl hil]
     cases hg:inL D i with
     |false=>rfl
     |true=>
      have:=hsub i hil hg
      have hlt3:i<listed.size:=by omega
      simp [hlt3] at hun
      simp [hlt3] at this
      rw [this] at hun
      cases hun
    have hip:inL D' i=true:=by
     cases hg:inL D' i with
     |true=>rfl
     |false=>
      exfalso
      have h1:=pK.1 htl i (pL.2 hil)
      rw [hg,Bool.false_or] at h1
      have h2:=pK.1 h1 u (pL.2 hul)
      simp only [sQ,rP] at h2
      rcases h2 with ((h2|h2)|h2)|h2
      ·rw [hup] at h2;cases h2
      ·exact hfu h2
      ·exact hu (hsub u hul h2)
      ·exact hu (zAv hcl _ u i o ho hall h2)
    refine hspec i hip hl0 o ho a w (hf.mono fun j hj=> ?_) _ fun v w' hv hb hA=>⟨.inr (hCW _ (hC _ _ hf.at_.cls hb)), ?_⟩
    ·obtain ⟨hj0,e,he,hb,rfl⟩:=hj
     exact ⟨hj0,hall e he hb⟩
    ·refine ih (listed.setIfInBounds i true) (a.put o.dst v) w' ?_ (by simpa using hs) (fun j hj hjp=> ?_) (fun j oj hj hoj e he hbe=> ?_) (fun j hj hjl=> ?_) ((hf.put hap hfr hC hE ho hl0 hv hb hA).mono fun j hj=> ?_)
     ·have:=jR hun
      omega
     ·rw [pM false (fun e=>by subst e;rw [hip] at hjp;cases hjp)]
      exact hlate j hj hjp
     ·by_cases e2:j=i
      ·subst e2
       rw [ho] at hoj
       cases hoj
       by_cases e3:e.on=j
       ·rw [e3];exact hj
       ·rw [pM false (Ne.symm e3)]
        exact hall e he hbe
      ·rw [pM false (Ne.symm e2)] at hj
       have:=hcl j oj hj hoj e he hbe
       by_cases e3:e.on=i
       ·rw [e3]
        have hlt:i<listed.size:=by omega
        simp [hlt]
       ·rw [pM false (Ne.symm e3)]
        exact this
     ·by_cases e3:j=i
      ·have hlt:i<listed.size:=by omega
       rw [e3];simp [hlt]
      ·rw [pM false (Ne.symm e3)]
       exact hsub j hj hjl
     ·by_cases e:j=i
      ·exact .inr e
      ·left
       rw [pM false (Ne.symm e)] at hj
       exact hj
end
def zIr (F:Fence) (m:Nat) (P:Wh) (ops:Array Oper) (CW:Wb->Prop) (Q:Exit->Act->Wb->Prop) (D:List Nat) (a:Act) (w:Wb):Prop:=
 jK F m P .any ops ops.size CW (qE Q) ((lst ops.size D).count false) (lst ops.size D) a w
def Gr (CW:Wb->Prop) (w:Wb):Prop:= ∀w',Below w.heap.size w w'->CW w'
def FdC (P:Wh) (CW:Wb->Prop) (w:Wb) (ops:Array Oper) (G:Nat->SF) (o:Oper):Prop:=
 ∀(b:Act) (W:Wb),Below w.heap.size w W->(∀t,t∈looks ops o->(G t).p (b.tmps.getD t undef) W)-> ∃v,zAp P ops CW o v b
def zN3 (ops:Array Oper) (D':List Nat) (G:Nat->SF) (t:Nat):SF:=bif (List.range ops.size).any (fun i=> !inL D' i&&(zW ops i==some t)) then SF.any else G t
def zTb (ops:Array Oper) (fl D is:List Nat) (n:Nat) (keys ts:List Nat):Bool:=
 jF ops&&zAm ops n&&jV ops&&Region.noSelect ops&&zBg ops&&zAD keys&&
 zCz ops (lst ops.size D)&&zCz ops (lst ops.size (is++D))&&
 keys.all (fun t=>is.any fun i=> !inL D i&&(zW ops i==some t))&&
 ts.all (fun t=>(List.range ops.size).all fun i=>inL D i|| !(zW ops i==some t))&&
 is.all (fun i=>decide (i<ops.size)&& !inL D i&&(!inL fl i||Region.free .any ops (zBp ops i) i)&&match ops[i]? with
  |none=>true
  |some o=>(looks ops o).all fun t=>(List.range ops.size).all fun j=>inL D j|| !(zW ops j==some t)||o.after.any fun e=>Region.binds .any e&&e.on==j)&&
 zRz ops D fl (is++D)
def zNn (ops:Array Oper) (is:List Nat):List Oper:=is.filterMap fun i=>ops[i]?
theorem zFS {F:Fence} {m:Nat} {P:Wh} {w0:Wb} {ops ops':Array Oper} {G:Nat->SF}: ∀{is:List Nat},Obs F m P w0 ops' G (zNn ops is)-> ∀i,i∈is-> ∀o,ops[i]?=some o->qP F m P w0 ops' G o
 | [],_,i,hi,_,_=>by cases hi
 | k::is,h,i,hi,o,ho=>by
  unfold zNn at h
  rw [List.filterMap_cons] at h
  cases hk:ops[k]? with
  |none=>
   rw [hk] at h
   rcases pY.1 hi with rfl|hi
   ·rw [ho] at hk;cases hk
   ·exact zFS h i hi o ho
  |some ok=>
   rw [hk] at h
   rcases pY.1 hi with rfl|hi
   ·rw [ho] at hk;cases hk;exact h.1
   ·exact zFS h.2 i hi o ho
theorem zP5 {F:Fence} {m:Nat} {P:Wh} {ops:Array Oper} {Q:Exit->Act->Wb->Prop} {CW:Wb->Prop} {G:Nat->SF} {n:Nat} {ds:List Deferred} {a:Act} {w:Wb} {D:List Nat} (fl is ts:List Nat) (L:List (Nat×SF))
  (hcw:Gr CW w) (hchk:zTb ops fl D is n (L.map (·.1)) ts=true) (h:At w G n ds a w) (hobs:Obs F m P w ops (upd G L) (zNn ops is))
  (hfd: ∀i o,inL fl i=true->ops[i]?=some o->FdC P CW w ops (upd G L) o)
  (hfin: ∀a w',At w (zN3 ops (is++D) (upd G L)) n ds a w'->zIr F m P ops CW Q (is++D) a w'):zIr F m P ops CW Q D a w:=by
 unfold zTb at hchk
 simp only [pN] at hchk
 obtain ⟨⟨⟨⟨⟨⟨⟨⟨⟨⟨⟨hap,hfr⟩,hpl⟩,hns⟩,hear⟩,hndk⟩,hc1⟩,hc2⟩,hkeys⟩,hts⟩,his⟩,htl⟩:=hchk
 have hisD: ∀i,inL (is++D) i=true->inL D i=false->i∈is:=fun i h1 h2=>by
  rw [zGi,h2,Bool.or_false] at h1
  exact zQI h1
 have hkey: ∀t,(∀j,inL D j=false->j∈is->zW ops j≠some t)->upd G L t=G t:=fun t ht=>by
  refine jP ?_
  cases hc:(L.map (·.1)).contains t with
  |false=>rfl
  |true=>
   exfalso
   obtain ⟨i,hi,he⟩:=pU.1 (pK.1 hkeys t (pW.1 hc))
   simp only [pN,rP,rB] at he
   exact ht i he.1 hi he.2
 have hst: ∀t,(∀j,inL D j=false->j∈is->zW ops j≠some t)->(upd G L t).p (a.tmps.getD t undef) w:=fun t ht=>by rw [hkey t ht];exact h.sl t
 have hspecs: ∀i,i∈is->i<ops.size/\(inL fl i=true->Region.free .any ops (zBp ops i) i=true)/\ ∀o,ops[i]?=some o-> ∀t,t∈looks ops o-> ∀j,inL D j=false->zW ops j=some t->(o.after.any fun e=>Region.binds .any e&&e.on==j)=true:=fun i hi=>by
  have h1:=pK.1 his i hi
  simp only [pN,rR] at h1
  refine ⟨h1.1.1.1,fun hf=>(by have h2:=h1.1.2;rw [hf] at h2;simpa using h2),fun o ho t ht j hj hjd=> ?_⟩
  have h2:=h1.2
  rw [ho] at h2
  have hlt:j<ops.size:=by
   rcases pX j ops.size with e|e
   ·exact e
   ·rw [zW,pZ e] at hjd;cases hjd
  have h3:=pK.1 (pK.1 h2 t ht) j (pL.2 hlt)
  rw [hj,hjd] at h3
  simpa using h3
 have hnd: ∀t,(∀j,inL D j=false->zW ops j≠some t)->zA9 ops (lst ops.size D) t=false:=fun t ht=>by
  cases hd:zA9 ops (lst ops.size D) t with
  |false=>rfl
  |true=>
   exfalso
   unfold zA9 at hd
   obtain ⟨i,hi,hp⟩:=pU.1 hd
   simp only [pN,rB,rP] at hp
   have hp1:=hp.1
   rw [zBl (pL.1 hi)] at hp1
   exact ht i hp1 (by rw [<-zDy];exact hp.2)
 -- what an operation looks at holds where those it waits for have run
 have hlook: ∀i o,i∈is->ops[i]?=some o-> ∀b W,FlowB ops (lst ops.size D) (fun _=>false) (fun i v W=> ∀o,ops[i]?=some o-> ∀d,o.dst=some d->(upd G L d).p v W) (fun W=>Below w.heap.size w W) a (fun j=>(lst ops.size D).getD j true=false/\ ∃e∈o.after,Region.binds .any e=true/\e.on=j) b W-> ∀t,t∈looks ops o->(upd G L t).p (b.tmps.getD t undef) W:=fun i o hi ho b W hf t ht=>by
  by_cases hex: ∃j,inL D j=false/\zW ops j=some t
  ·obtain ⟨j,hjD,hj⟩:=hex
   have h1:=(hspecs i hi).2.2 o ho t ht j hjD hj
   obtain ⟨x,hx,he⟩:=Array.any_eq_true.1 h1
   simp only [pN,rB] at he
   cases hoj:ops[j]? with
   |none=>rw [zW,hoj] at hj;cases hj
   |some oj=>
    rw [qM hoj] at hj
    exact hf.at_.vals j oj t ⟨by rw [zBl (pQ.1 hoj).1];exact hjD,_,sO hx,he.1,he.2⟩ hoj hj oj hoj t hj
  ·have hno: ∀j,inL D j=false->zW ops j≠some t:=fun j h1 h2=>hex ⟨j,h1,h2⟩
   rw [hf.at_.keep t (hnd t hno)]
   exact (upd G L t).st _ _ _ (hst t (fun j hj _=>hno j hj)) hf.at_.cls
 refine zTC (Q:=Q) (D:=D) (D':=is++D) (z:=ops.size) (a0:=a) (A:=fun _=>false) (E:=fun i v W=> ∀o,ops[i]?=some o-> ∀d,o.dst=some d->(upd G L d).p v W) (C:=fun W=>Below w.heap.size w W) fl hpl hns lr CW hcw ?hfree ?hfk hear htl hap (by rw [h.size];exact hfr) (zBN hc2) (fun W W' hC hb=>hC.trans (hb.mono hC.size)) (fun i v W W' hE hb o ho d hd=>(upd G L d).st _ _ _ (hE o ho d hd) hb) ?spec ?fin _ (lst ops.size D) a w rfl (zEn _ _) (fun i hi hp=> ?_) (zBN hc1) (fun i hi hp=>by rw [zBl hi];exact hp) ⟨⟨pR _ _,rfl,rfl,fun _ _=>rfl,fun i o t hi=> ?_⟩,fun i o t b hi hA=>(by cases hA),fun i j oi oj ti tj bi bj hi hj hne hA=>(by cases hA)⟩
 case hfree=>exact fun i hD hp hf=>(hspecs i (hisD i hp hD)).2.1 hf
 case hfk=>
  intro i hp hf hl o ho b W hfl
  have hi:=hisD i hp (zD2 hl).2
  exact hfd i o hf ho b W hfl.at_.cls (hlook i o hi ho b W hfl)
 case spec=>
  intro i hp hl o ho b W hfl K hK
  have hi:=hisD i hp (zD2 hl).2
  refine zAk ho (zFS hobs i hi o ho) (fun j g hj=> ?_) hfl.at_.cls (hlook i o hi ho b W hfl) (fun v W' hv hb=>hK v W' (fun o' ho' d hd=>by rw [ho] at ho';cases ho';exact hv d hd) hb (fun e=>by cases e))
  rw [hfl.at_.size,h.size]
  obtain ⟨oj,hoj,hdj⟩:=y9 hj
  exact qI hfr hoj hdj
 case fin=>
  intro b W hfl
  refine hfin b W ⟨hfl.at_.cls,by rw [hfl.at_.size];exact h.size,by rw [hfl.at_.defers];exact h.nd,fun t=> ?_⟩
  unfold zN3
  cases hc:(List.range ops.size).any fun i=> !inL (is++D) i&&(zW ops i==some t) with
  |true=>trivial
  | false=>
   show (upd G L t).p _ _
   by_cases hex: ∃j,inL D j=false/\zW ops j=some t
   ·obtain ⟨j,hjD,hj⟩:=hex
    have hlt:j<ops.size:=by
     rcases pX j ops.size with e|e
     ·exact e
     ·rw [zW,pZ e] at hj;cases hj
    have h1:=rM.1 hc j (pL.2 hlt)
    rw [hj] at h1
    have hjp:inL (is++D) j=true:=by simpa using h1
    cases hoj:ops[j]? with
    |none=>rw [zW,hoj] at hj;cases hj
    |some oj=>
     rw [qM hoj] at hj
     exact hfl.at_.vals j oj t ⟨hjp,by rw [zBl hlt];exact hjD⟩ hoj hj oj hoj t hj
   ·have hno: ∀j,inL D j=false->zW ops j≠some t:=fun j h1 h2=>hex ⟨j,h1,h2⟩
    rw [hfl.at_.keep t (hnd t hno)]
    exact (upd G L t).st _ _ _ (hst t (fun j hj _=>hno j hj)) hfl.at_.cls
 ·rw [zBl hi]
  cases h:inL D i with
  |false=>rfl
  |true=>rw [zGi,h,Bool.or_true] at hp;cases hp
 ·have h1:=zD2 hi.1
  have h2:=hi.2
  rw [zBl h1.1,h1.2] at h2
  cases h2
section
variable {S:Nat->Prop} {w0:Wb} {K:List (Nat×KF)} {B:List Bx} {n:Nat} {ds:List Deferred} {a:Act} {w:Wb} {F:Fence} {m:Nat} {P:Wh} {ops:Array Oper} {Q:Exit->Act->Wb->Prop} {wb:Wb} {CW:Wb->Prop} {D:List Nat}
theorem StS.later (h:StS S w0 K B n ds a w) {w':Wb} (hb:Below w.heap.size w w'):StS S w0 K B n ds a w':=
 ⟨h.gr.trans hb,h.size,h.nd,fun q hq=>KF.us (h.sl q hq) (zS hb),h.bx.keep hb (zS hb) B (fun _ _=>rfl),zAl h.mks hb,h.so⟩
theorem zP3 {id:Nat} (CW:Wb->Prop) (hmix:P.follows .mixedOrders=true) (h:StS S w0 K B n ds a w) (fin: ∀w1,Below w.heap.size w w1->StS S w0 K B n ds a w1->zIr F m P ops CW Q [] a w1):(Code.region id ops true).wpIn F m P Q a w:=by
 refine yC ops.size CW hmix ?_
 have hd:Below w.heap.size w w.drew:=(pR _ w).drew
 have:=fin w.drew hd (h.later hd)
 unfold zIr at this
 have e:lst ops.size []=Array.replicate ops.size false:=by
  refine (zHf fK fun i hi=> ?_).symm
  rw [pS,sB,if_pos hi]
  rfl
 rw [e,sW] at this
 exact this
theorem zNv (h:(List.range ops.size).all (inL D)=true) (hQ:Q .normal a w):zIr F m P ops CW Q D a w:=by
 have e:lst ops.size D=Array.replicate ops.size true:=(zHf fK fun i hi=>by
  rw [pS,sB,if_pos hi]
  exact (pK.1 h i (pL.2 hi)).symm).symm
 have hc:(lst ops.size D).count false=0:=by rw [e];simp [Array.count_replicate]
 unfold zIr
 rw [hc]
 refine ⟨List.eq_nil_iff_forall_not_mem.2 fun i hi=> ?_,hQ⟩
 have h1:=(rE.1 hi).1
 have h2:=zD2 h1
 rw [pK.1 h i (pL.2 h2.1)] at h2
 cases h2.2
theorem zED {o:Oper} (h:o.guard=none):Region.wanted o (yielded ops a.tmps)=true:=by unfold Region.wanted;rw [h]
theorem zIR {i:Nat} {o:Oper} (hr:Region.ready .any ops (lst ops.size D)= [i]) (ho:ops[i]?=some o) (hw:Region.wanted o (yielded ops a.tmps)=true) (h:o.wpIn F m P a w (fun a' w'=>CW w'/\zIr F m P ops CW Q (i::D) a' w') (qE Q)):zIr F m P ops CW Q D a w:=by
 have hi:=(rE.1 (show i∈Region.ready .any ops (lst ops.size D) by rw [hr];simp)).1
 have hlt:=(zD2 hi).1
 have hc:=jR hi
 rw [zLO hlt] at hc
 unfold zIr
 rw [<-hc]
 refine ⟨fun e=>(by rw [hr] at e;cases e),fun j hj=> ?_⟩
 rw [hr] at hj
 obtain rfl:j=i:=by simpa using hj
 unfold wpOpIn
 rw [ho]
 show (if Region.wanted o (yielded ops a.tmps)=true then _ else _)
 rw [if_pos hw]
 refine Oper.wpIn_mono (fun a' w' hh=>⟨.inr hh.1, ?_⟩) h
 rw [zLO hlt]
 exact hh.2
theorem zP4 (fl is:List Nat) (L:List (Nat×Rw)) (hcw:Gr CW w) (h:StS S w0 K B n ds a w)
  (hchk:zTb ops fl D is n (L.map (·.1)) (K.map (·.1)++B.map (·.t))=true)
  (hobs:Obs F m P w ops (upd (jZ K B) (zM L)) (zNn ops is))
  (hfd: ∀i o,inL fl i=true->ops[i]?=some o->FdC P CW w ops (upd (jZ K B) (zM L)) o)
  (hfin: ∀a' w',Below w.heap.size w w'->StS S w0 (zBB L++K) B n ds a' w'->(∀q,q∈zM L->q.2.p (a'.tmps.getD q.1 undef) w')->zIr F m P ops CW Q (is++D) a' w'):zIr F m P ops CW Q D a w:=by
 have hchk0:=hchk
 unfold zTb at hchk0
 simp only [pN] at hchk0
 obtain ⟨⟨⟨⟨⟨⟨⟨⟨⟨⟨⟨hap,hfr⟩,hpl⟩,hns⟩,hear⟩,hndk⟩,hc1⟩,hc2⟩,hks⟩,hts⟩,his⟩,htl⟩:=hchk0
 have hkeys:(zM L).map (·.1)=L.map (·.1):=by simp [zM]
 have hsame: ∀t,t∈K.map (·.1)++B.map (·.t)-> ∀i,inL D i=false->zW ops i≠some t:=fun t ht i hD hi=>by
  have h1:=pK.1 hts t ht
  obtain ⟨o,ho,_⟩:=y9 hi
  have h2:=pK.1 h1 i (pL.2 (pQ.1 ho).1)
  rw [hi,hD] at h2
  simp at h2
 have hkn: ∀t,t∈K.map (·.1)++B.map (·.t)->((zM L).map (·.1)).contains t=false:=fun t ht=>by
  cases hc:((zM L).map (·.1)).contains t with
  |false=>rfl
  |true=>
   exfalso
   have hm:=pW.1 hc
   rw [hkeys] at hm
   obtain ⟨i,_,he⟩:=pU.1 (pK.1 hks t hm)
   simp only [pN,rP,rB] at he
   exact hsame t ht i he.1 he.2
 have hno: ∀(l:List (Nat×SF)) t, ¬t∈K.map (·.1)++B.map (·.t)->upd (qG K B a) l t=upd (jZ K B) l t:=fun l t ht=>by
  induction l with
  |nil=>exact if_neg ht
  |cons q l ih=>
   show (bif Nat.beq q.1 t then q.2 else upd _ l t)=(bif Nat.beq q.1 t then q.2 else upd _ l t)
   rw [ih]
 have hle: ∀t v W,(upd (qG K B a) (zM L) t).p v W->(upd (jZ K B) (zM L) t).p v W:=fun t v W hh=>by
  by_cases ht:t∈K.map (·.1)++B.map (·.t)
  ·rw [jP (hkn t ht)] at hh ⊢
   unfold qG at hh
   rw [if_pos ht] at hh
   exact hh.1
  ·rwa [hno _ t ht] at hh
 have hA:=h.at
 refine zP5 fl is (K.map (·.1)++B.map (·.t)) (zM L) hcw (by rw [hkeys];exact hchk) (G:=qG K B a) (ds:=ds) ⟨hA.gr,hA.size,hA.nd,fun t=> ?_⟩ ?_ (fun i o hi ho b W hb hr=>hfd i o hi ho b W hb (fun t ht=>hle t _ _ (hr t ht))) fun a' w' hA'=> ?_
 ·by_cases ht:t∈K.map (·.1)++B.map (·.t)
  ·unfold qG;rw [if_pos ht];exact ⟨hA.sl t,rfl⟩
  ·unfold qG;rw [if_neg ht];exact hA.sl t
 ·have hge: ∀t,(∃i,inL D i=false/\zW ops i=some t)-> ∀v W,(upd (jZ K B) (zM L) t).p v W->(upd (qG K B a) (zM L) t).p v W:=fun t ⟨i,hD,hi⟩ v W hh=>by
   rw [hno _ t (fun ht=>hsame t ht i hD hi)]
   exact hh
  have hconv: ∀(i:Nat) (o:Oper),inL D i=false->ops[i]?=some o->qP F m P w ops (upd (jZ K B) (zM L)) o->qP F m P w ops (upd (qG K B a) (zM L)) o:=by
   intro i o hD ho hg
   have hdst: ∀d,o.dst=some d-> ∃i,inL D i=false/\zW ops i=some d:=fun d hd=>⟨i,hD,by rw [qM ho];exact hd⟩
   have hop:zKe F m P w (upd (jZ K B) (zM L)) o->zKe F m P w (upd (qG K B a) (zM L)) o:=fun h1 b W K' Q' hb hr hK'=>
    h1 b W K' Q' hb (fun t ht=>hle t _ _ (hr t ht)) fun v W' hv hb'=>hK' v W' (fun d hd=>hge d (hdst d hd) _ _ (hv d hd)) hb'
   unfold qP at hg ⊢
   cases hgd:o.guard with
   |none=>rw [hgd] at hg;exact hop hg
   |some q=>
    rw [hgd] at hg
    obtain ⟨g,bv,h1,h2,h3,h4⟩:=hg
    exact ⟨g,bv,h1,fun v W hh=>h2 v W (hle g v W hh),fun e=>hop (h3 e),fun e=>⟨fun d hd W=>hge d (hdst d hd) _ _ ((h4 e).1 d hd W),(h4 e).2⟩⟩
  have hall: ∀l:List Nat,(∀i,i∈l->inL D i=false/\i<ops.size)->Obs F m P w ops (upd (jZ K B) (zM L)) (zNn ops l)->Obs F m P w ops (upd (qG K B a) (zM L)) (zNn ops l):=by
   intro l
   induction l with
   |nil=>intro _ _;trivial
   |cons i l ih=>
    intro hm ho
    obtain ⟨hD,hlt⟩:=hm i fK
    have hoi:ops[i]?=some ops[i]:=rD hlt
    have e:zNn ops (i::l)=ops[i]::zNn ops l:=by unfold zNn;rw [List.filterMap_cons,hoi]
    rw [e] at ho ⊢
    exact ⟨hconv i _ hD hoi ho.1,ih (fun j hj=>hm j (by simp [hj])) ho.2⟩
  refine hall is (fun i hi=> ?_) hobs
  have h1:=pK.1 his i hi
  simp only [pN,rR,rP] at h1
  exact ⟨h1.1.1.2,h1.1.1.1⟩
 ·have hg:=hA'.gr
  have hslot: ∀t,t∈K.map (·.1)++B.map (·.t)->a'.tmps.getD t undef=a.tmps.getD t undef:=fun t ht=>by
   have h1:=hA'.sl t
   unfold zN3 at h1
   have h2:((List.range ops.size).any fun i=> !inL (is++D) i&&(zW ops i==some t))=false:=by
    refine rM.2 fun i _=> ?_
    cases hD:inL D i with
    |true=>simp [zGi,hD]
    |false=>have:=hsame t ht i hD;simp [this]
   rw [h2,show (bif false then SF.any else upd (qG K B a) (zM L) t)=upd (qG K B a) (zM L) t from rfl,jP (hkn t ht),qG,if_pos ht] at h1
   exact h1.2
  have hrow: ∀q,q∈zM L->q.2.p (a'.tmps.getD q.1 undef) w':=fun q hm2=>by
   have h1:=hA'.sl q.1
   obtain ⟨i,hi,he⟩:=pU.1 (pK.1 hks q.1 (by rw [<-hkeys];exact pP.2 ⟨_,hm2,rfl⟩))
   simp only [pN,rP,rB] at he
   have hiL:inL (is++D) i=true:=by
    rw [zGi]
    have:inL is i=true:=by
     have: ∀l:List Nat,i∈l->inL l i=true:=fun l hl=>by
      induction l with
      |nil=>cases hl
      |cons k l ih=>
       show (bif Nat.beq k i then true else inL l i)=true
       rcases pY.1 hl with rfl|hl
       ·rw [Nat.beq_refl];rfl
       ·rw [ih hl];cases Nat.beq k i<;>rfl
     exact this is hi
    rw [this,Bool.true_or]
   unfold zN3 at h1
   have h2:((List.range ops.size).any fun j=> !inL (is++D) j&&(zW ops j==some q.1))=false:=by
    refine rM.2 fun j _=> ?_
    by_cases hj:j=i
    ·subst hj;simp [hiL]
    ·have:zW ops j≠some q.1:=fun e=>by
      obtain ⟨oi,ho1,hd1⟩:=y9 he.2
      obtain ⟨oj,ho2,hd2⟩:=y9 e
      exact zAa hap ho1 ho2 (Ne.symm hj) hd1 hd2
     simp [this]
   rw [h2,show (bif false then SF.any else upd (qG K B a) (zM L) q.1)=upd (qG K B a) (zM L) q.1 from rfl,zBY (q:=q) (by rw [hkeys];exact hndk) hm2] at h1
   exact h1
  refine hfin a' w' hg ⟨h.gr.trans hg,hA'.size,hA'.nd,fun q hq=> ?_,h.bx.keep hg (zS hg) B fun x hx=>hslot _ (rU _ (pP.2 ⟨x,hx,rfl⟩)),zAl h.mks hg,h.so.imp (fun hu q hq=>(by
   rcases rI.1 hq with hq|hq
   ·obtain ⟨f,e,_⟩:=jO hq;exact ⟨f,e⟩
   ·exact hu q hq)) (fun x=>x)⟩ hrow
  rcases rI.1 hq with hq|hq
  ·obtain ⟨f,hqf,hm⟩:=jO hq
   have h1:=hrow (q.1,f.tS) (pP.2 ⟨_,hm,rfl⟩)
   rw [hqf]
   exact h1
  ·rw [hslot q.1 (sI _ (pP.2 ⟨q,hq,rfl⟩))]
   exact KF.us (h.sl q hq) (zS hg)
theorem zFo {i c kk:Nat} {t:We} {x:Wg} {ty:We} {pos:String} {aft:Array Edge} (C:CU) (f:SF) (h:StS S w0 K B n ds a w) (ho:ops[i]?=some ⟨none, .store t (.tmp c) x,ty,pos,aft,none⟩) (hrd:Region.ready .any ops (lst ops.size D)= [i]) (hsz:zAb P t=some kk) {y:Bx} (hB:zDw B c=some y) (hro:y.r=false) (hye:y.e=t) (hyl: ∀cs W,y.c.p cs W->cs.length=kk)
  (hx: ∀v W,(Wd.fct (jZ K B) x).p v W->f.p v W) (hv: ∀v W,f.p v W-> ∃vs:List Wc,v= .agg vs.toArray/\vs.length=kk/\(∀u,u∈vs->u.oneCell'=true)/\vs.all zY=true/\C.p vs W) (hcw: ∀vs:List Wc,f.p (.agg vs.toArray) w->Gr CW (w.setRow y.b vs.toArray))
  (fin: ∀w',Gr CW w'->(∀k,k≠y.b->w'.heap[k]?=w.heap[k]?)->StS S w0 K (zD5 B c C) n ds a w'->zIr F m P ops CW Q (i::D) a w'):zIr F m P ops CW Q D a w:=by
 obtain ⟨hy,hyc⟩:=jE hB
 obtain ⟨cs,h1,h2,h3,h4,h5⟩:=h.bx.mem y hy
 obtain ⟨vs,e,hl,ho1,hnl,hC⟩:=hv _ _ (hx _ _ (h.fct x))
 rw [hyc] at h1
 have hk:jS w (w.setRow y.b vs.toArray):=zBG h3 (by simpa using h5)
 have hg:=hcw vs (by rw [<-e];exact hx _ _ (h.fct x))
 exact zIR hrd ho (zED rfl) (zI1 hsz hye (hyl _ _ h4) h1 h3 e hl ho1 ⟨hg _ (pR _ _),fin _ hg (fun k hk=>setRow_other w y.b k _ hk) (h.turn hB hro (zCw w y.b vs.toArray) (setRow_heap w y.b cs.toArray vs.toArray y.e (0,0) h3) (C.us _ _ _ hC hk) hnl)⟩)
end
section
variable {F:Fence} {m:Nat} {P:Wh} {w0:Wb} {ops:Array Oper} {G:Nat->SF} {d:Tmp} {ty:We} {pos:String} {aft:Array Edge}
theorem zQQ {CW:Wb->Prop}: ∀i o,inL [] i=true->ops[i]?=some o->FdC P CW w0 ops G o:=fun _ _ h=>by cases h
theorem zEu {k:Nat} {o':Oper} {l:List Nat} (hk:ops[k]?=some o') {CW:Wb->Prop} (h:FdC P CW w0 ops G o') (hl: ∀i o,inL l i=true->ops[i]?=some o->FdC P CW w0 ops G o): ∀i o,inL (k::l) i=true->ops[i]?=some o->FdC P CW w0 ops G o:=fun i o hi ho=>by
 have hi:(bif Nat.beq k i then true else inL l i)=true:=hi
 cases e:Nat.beq k i with
 |true=>
  have:=rL e
  subst this
  rw [hk] at ho
  cases ho
  exact h
 |false=>
  rw [e] at hi
  exact hl i o hi ho
end
section
variable {S:Nat->Prop} {F:Fence} {m:Nat} {P:Wh} {Q:Exit->Act->Wb->Prop} {w0 w1:Wb} {K K0:List (Nat×KF)} {B B0:List Bx} {n n0:Nat} {ds ds0:List Deferred} {a a0:Act} {w:Wb}
end
end Go.Proofs.Wd
