/- Natural numbers as values, and what prod and the references answer of  and what it needs. -/
import Derived.Test.YtencnknhnckpaaaGreatDoorMRM13
import Derived.Test.YtencnknhnckpaaaGreatDoorMRM7
import Derived.Test.YtencnknhnckpaaaGreatDoorMRM17
import Derived.Test.YtencnknhnckpaaaGreatDoorMRM6
import Derived.Test.YtencnknhnckpaaaGreatDoorMRM3
import Derived.Test.YtencnknhnckpaaaGreatDoorMRM9
import Derived.Test.YtencnknhnckpaaaGreatDoorMRM1
theorem kG {P:Prop} (h:P:=by kernel_rfl):P:=h
theorem oN {P:Prop} (h:P:=by omega):P:=h
abbrev nZ:=@List.all_eq_true
abbrev pA:=@List.mem_range
abbrev pB:=@Bool.and_eq_true
abbrev pC:=@Go.getD_set_ne
abbrev pD:=@Go.RowKit.Below.refl
abbrev pE:=@Nat.le_refl
abbrev pF:=@Go.Oper.semAt_eq
abbrev pG:=@Array.getD_eq_getD_getElem?
abbrev pH:=@Go.run_underlying
abbrev pI:=@beq_iff_eq
abbrev pJ:=@decide_eq_true_eq
abbrev pK:=@Nat.le_trans
abbrev pL:=@List.mem_cons
abbrev pM:=@Array.getElem?_eq_some_iff
abbrev pN:=@Bool.not_eq_true'
abbrev pP:=@List.any_eq_true
abbrev pQ:=@Nat.add_mul
abbrev pR:=@Go.Addr.add_lit
abbrev pS:=@congrArg
abbrev pT:=@Nat.lt_or_ge
abbrev pU:=@List.mem_map
abbrev pV:=@List.length_append
abbrev pW:=@List.map_cons
abbrev pX:=@List.getElem?_eq_some_iff
abbrev pY:=@Nat.eq_of_beq_eq_true
abbrev pZ:=@List.contains_iff_mem
abbrev rA:=@Array.getElem?_eq_none
abbrev rB:=@Array.getElem?_eq_getElem
abbrev rC:=@Go.mem_ready
abbrev rD:=@Go.Sem.run_bind
abbrev rE:=@Nat.beq_refl
abbrev rF:=@Classical.choose_spec
abbrev rG:=@Bool.true_or
abbrev rH:=@List.mem_cons_self
abbrev rI:=@List.mem_cons_of_mem
abbrev rJ:=@Go.World.putObj_heap_other
abbrev rK:=@List.all_append
abbrev rL:=@Nat.mul_le_mul_right
abbrev rM:=@Nat.lt_of_lt_of_le
abbrev rN:=@List.length_drop
abbrev rO:=@List.take_of_length_le
abbrev rP:=@Option.some.injEq
abbrev rQ:=@List.any_eq_false
abbrev rR:=@List.mem_append
abbrev rS:=@decide_eq_true
abbrev rT:=@List.foldl_cons
abbrev rU:=@List.nil_append
abbrev rV:=@List.size_toArray
abbrev rW:=@Array.toList_append
abbrev rX:=@List.length_take
abbrev rY:=@Array.getElem?_replicate
abbrev rZ:=@List.getElem?_append_left
abbrev sA:=@List.getElem?_append_right
abbrev sB:=@List.take_append_of_le_length
abbrev W8:=Go.World
abbrev Wb:=Go.Value
abbrev Wc:=Go.TypeId
abbrev We:=Go.Operand
abbrev Wf:=Go.Program
namespace Go.Proofs.Wd
open Tryz
open Go.RowKit Lb
def LV (W:W8) (m:Nat) (v:Wb) (x:Nat):Prop:= ∃A n c l,v= .slice A n c/\Rd W A n c l/\Lt l/\n<=m/\val l=x
theorem LV.below {W W':W8} {m:Nat} {v:Wb} {x:Nat} (h:LV W m v x) (hb:Below W.heap.size W W'):LV W' m v x:=by
 obtain ⟨A,n,c,l,rfl,h1,h2⟩:=h
 exact ⟨A,n,c,l,rfl,h1.below hb,h2⟩
theorem LV.mono {W:W8} {m m':Nat} {v:Wb} {x:Nat} (h:LV W m v x) (hm:m<=m'):LV W m' v x:=by
 obtain ⟨A,n,c,l,rfl,h1,h2,h3,h4⟩:=h
 exact ⟨A,n,c,l,rfl,h1,h2,by omega,h4⟩
theorem LV.bound {W:W8} {m:Nat} {v:Wb} {x:Nat} (h:LV W m v x):x<BB^m:=by
 obtain ⟨A,n,c,l,rfl,h1,h2,h3,rfl⟩:=h
 exact rM (qC h2) (Nat.pow_le_pow_right yU (by rw [h1.len];exact h3))
theorem qV.lv {W:W8} {v:Wb} {x m:Nat} (h:qV W v x) (hx:x<BB^m):LV W m v x:=by
 obtain ⟨A,n,c,l,rfl,h1,h2⟩:=h
 exact ⟨A,n,c,l,rfl,h2,h1.lt,by rw [<-h2.len];exact h1.len hx,h1.val⟩
def zMa (w:W8) (x:Nat):Ending->W8->Prop:=fun e w'=> ∃v,e= .returned v/\qV w' v x/\Below w.heap.size w w'
theorem q7.v {w:W8} {x:Nat} {e:Ending} {w':W8} (h:q7 w x e w'):zMa w x e w':=by
 obtain ⟨A,n,c,l,rfl,h1,h2,h3⟩:=h
 exact ⟨_,rfl,⟨A,n,c,l,rfl,h1,h2⟩,h3⟩
theorem zSu {W:W8} {m:Nat} {v v':Wb} {a b:Nat} (h:LV W m v a) (h':LV W m v' b) (hm:m<=40000):Calls prog 77 #[v,v'] W (zMa W (a*b)):=by
 obtain ⟨A,n,c,l,rfl,h1,h2,h3,rfl⟩:=h
 obtain ⟨A',n',c',l',rfl,h1',h2',h3',rfl⟩:=h'
 exact (zK5 A n c l A' n' c' l' W h1 h1' h2 h2' oN oN).mono fun _ _=>q7.v
def zTp (w:W8) (x y:Nat):Ending->W8->Prop:=fun e w'=> ∃v v',e= .returned (.tuple #[v,v'])/\qV w' v x/\qV w' v' y/\Below w.heap.size w w'
theorem LV.open {W:W8} {m:Nat} {v:Wb} {x:Nat} (h:LV W m v x): ∃A n c,v= .slice A n c/\n<=m/\n<=c/\c<=9223372036854775807/\LV W m (.slice A n c) x:=by
 obtain ⟨A,n,c,l,rfl,h1,h2,h3,h4⟩:=h
 exact ⟨A,n,c,rfl,h3,h1.le,h1.cap,⟨A,n,c,l,rfl,h1,h2,h3,h4⟩⟩
def zTq (w:W8) (a b:Nat):Ending->W8->Prop:=fun e w'=> ∃v v',e= .returned (.tuple #[v,v', .int .i64 0])/\qV w' v (a / b)/\qV w' v' (a % b)/\Below w.heap.size w w'
theorem zQ0 {W:W8} {m:Nat} {v v':Wb} {a b:Nat} (h:LV W m v a) (h':LV W m v' b) (hm:m<=10000) (h0:0<b):Calls prog 81 #[v,v'] W (zTq W a b):=by
 obtain ⟨A,n,c,l,rfl,h1,h2,h3,rfl⟩:=h
 obtain ⟨A',n',c',l',rfl,h1',h2',h3',rfl⟩:=h'
 refine (zMR A n c l A' n' c' l' W h1 h1' h2 h2' oN oN h0).mono ?_
 rintro e w' ⟨A1,n1,c1,l1,A2,n2,c2,l2,rfl,i1,r1,i2,r2,hb⟩
 exact ⟨_,_,rfl,⟨A1,n1,c1,l1,rfl,i1,r1⟩,⟨A2,n2,c2,l2,rfl,i2,r2⟩,hb⟩
theorem zQ1 {W:W8} {m:Nat} {v v':Wb} {a b:Nat} (h:LV W m v a) (h':LV W m v' b):Calls prog 101 #[v,v'] W fun e w'=>e= .returned (.int .i64 (zAj a b))/\W=w':=by
 obtain ⟨A,n,c,l,rfl,h1,h2,h3,rfl⟩:=h
 obtain ⟨A',n',c',l',rfl,h1',h2',h3',rfl⟩:=h'
 exact zDX A n c l A' n' c' l' W h1 h1' h2 h2'
theorem zPs {W:W8} {m:Nat} {A:Option Addr} {n c:Nat} {A':Option Addr} {n' c':Nat} {x y:Nat} (h:LV W m (.slice A n c) x) (h':LV W m (.slice A' n' c') y) (hm:m<=10000) (t:Wc):
  Calls prog 98 #[.slice (some ⟨W.heap.size,0,none⟩) 2 2] (W.alloc (.cells #[.slice A n c, .slice A' n' c'] t)) (zMa (W.alloc (.cells #[.slice A n c, .slice A' n' c'] t)) (x+y)):=by
 obtain ⟨A1,n1,c1,l,e1,h1,h2,h3,rfl⟩:=h
 obtain ⟨A2,n2,c2,l',e2,h1',h2',h3',rfl⟩:=h'
 cases e1
 cases e2
 have:=zDY _ 2 2 _ _ (Rds.two h1 h2 oN h1' h2' oN t) (by decide)
 simp only [pW,List.map_nil,List.sum_cons,List.sum_nil,Nat.add_zero] at this
 exact this.mono fun _ _=>q7.v
def q9 (x:Nat):UF:= .mk' (fun v w=>qV w v x) fun _ _ _ ⟨A,n,c,l,e,h1,h2⟩ k=>⟨A,n,c,l,e,h1,h2.keepU k⟩
def fLV (m x:Nat):UF:= .mk' (fun v w=>LV w m v x) fun _ _ _ ⟨A,n,c,l,e,h1,h2⟩ k=>⟨A,n,c,l,e,h1.keepU k,h2⟩
def fNV (k:Int):UF:= .mk' (fun v w=>NV w v k) fun _ _ _ ⟨A,n,c,l,e,h1,h2⟩ k=>⟨A,n,c,l,e,h1,h2.keepU k⟩
def fUV (m:Nat) (k:Int):UF:= .mk' (fun v w=>UV w m v k) fun _ _ _ ⟨s,A,n,c,l,e,h1,h2⟩ k=>⟨s,A,n,c,l,e,h1.keepU k,h2⟩
def fB (b:Bool):UF:= .eq (.bool b)
def fI (z:Int):UF:= .eq (.int .i64 z)
theorem zR1 {F:Fence} {m:Nat} {P:Wf} {w0:W8} {ops:Array Oper} {G:Nat->SF} {o:Oper} {l:List Oper} (h:qB F m P w0 ops G o) (k:Obs F m P w0 ops G l):Obs F m P w0 ops G (o::l):=⟨h,k⟩
theorem oc {F:Fence} {m:Nat} {P:Wf} {w0:W8} {ops:Array Oper} {G:Nat->SF} {o:Oper} {l:List Oper} (h:qB F m P w0 ops G o) (k:Obs F m P w0 ops G l):Obs F m P w0 ops G (o::l):=⟨h,k⟩
theorem lr {n:Nat}:n<=n:=pE n
theorem arf {α:Sort _} {a:α} {p:Prop}:a≠a->p:=fun e=>absurd rfl e
abbrev zP6:List Wb:= [.bool false, .slice none 0 0, .slice none 0 0, .bool false, .slice none 0 0, .slice none 0 0]
abbrev zR3:List Wb:= [.bool false, .slice none 0 0, .slice none 0 0]
theorem fmz {α:Type} {p:α->Prop} {a:α} {l:List α} (h:p a/\ ∀x,x∈l->p x): ∀x,x∈a::l->p x:=List.forall_mem_cons.2 h
theorem fnz {α:Type} {p:α->Prop}: ∀x,x∈([]:List α)->p x:=List.forall_mem_nil p
theorem iiz {α β:Type} {p:α->β->Prop}: ∀a b,p a b->p a b:=fun _ _ h=>h
theorem mz1 {α:Type} {a b0:α} {l:List α}:a∈b0::a::l:= .tail _ (.head _)
theorem mz2 {α:Type} {a b0 b1:α} {l:List α}:a∈b0::b1::a::l:= .tail _ (.tail _ (.head _))
theorem mz3 {α:Type} {a b0 b1 b2:α} {l:List α}:a∈b0::b1::b2::a::l:= .tail _ (.tail _ (.tail _ (.head _)))
theorem mz4 {α:Type} {a b0 b1 b2 b3:α} {l:List α}:a∈b0::b1::b2::b3::a::l:= .tail _ (.tail _ (.tail _ (.tail _ (.head _))))
theorem mz5 {α:Type} {a b0 b1 b2 b3 b4:α} {l:List α}:a∈b0::b1::b2::b3::b4::a::l:= .tail _ (.tail _ (.tail _ (.tail _ (.tail _ (.head _)))))
theorem mz6 {α:Type} {a b0 b1 b2 b3 b4 b5:α} {l:List α}:a∈b0::b1::b2::b3::b4::b5::a::l:= .tail _ (.tail _ (.tail _ (.tail _ (.tail _ (.tail _ (.head _))))))
theorem mz7 {α:Type} {a b0 b1 b2 b3 b4 b5 b6:α} {l:List α}:a∈b0::b1::b2::b3::b4::b5::b6::a::l:= .tail _ (.tail _ (.tail _ (.tail _ (.tail _ (.tail _ (.tail _ (.head _)))))))
theorem mz8 {α:Type} {a b0 b1 b2 b3 b4 b5 b6 b7:α} {l:List α}:a∈b0::b1::b2::b3::b4::b5::b6::b7::a::l:= .tail _ (.tail _ (.tail _ (.tail _ (.tail _ (.tail _ (.tail _ (.tail _ (.head _))))))))
theorem mz9 {α:Type} {a b0 b1 b2 b3 b4 b5 b6 b7 b8:α} {l:List α}:a∈b0::b1::b2::b3::b4::b5::b6::b7::b8::a::l:= .tail _ (.tail _ (.tail _ (.tail _ (.tail _ (.tail _ (.tail _ (.tail _ (.tail _ (.head _)))))))))
theorem zGo {α:Type} {a b0 b1 b2 b3 b4 b5 b6 b7 b8 b9:α} {l:List α}:a∈b0::b1::b2::b3::b4::b5::b6::b7::b8::b9::a::l:= .tail _ (.tail _ (.tail _ (.tail _ (.tail _ (.tail _ (.tail _ (.tail _ (.tail _ (.tail _ (.head _))))))))))
theorem zF2 {α:Type} {a b0 b1 b2 b3 b4 b5 b6 b7 b8 b9 b10:α} {l:List α}:a∈b0::b1::b2::b3::b4::b5::b6::b7::b8::b9::b10::a::l:= .tail _ (.tail _ (.tail _ (.tail _ (.tail _ (.tail _ (.tail _ (.tail _ (.tail _ (.tail _ (.tail _ (.head _)))))))))))
theorem zG1 {α:Type} {a b0 b1 b2 b3 b4 b5 b6 b7 b8 b9 b10 b11:α} {l:List α}:a∈b0::b1::b2::b3::b4::b5::b6::b7::b8::b9::b10::b11::a::l:= .tail _ (.tail _ (.tail _ (.tail _ (.tail _ (.tail _ (.tail _ (.tail _ (.tail _ (.tail _ (.tail _ (.tail _ (.head _))))))))))))
theorem zK4 {α:Type} {a b0 b1 b2 b3 b4 b5 b6 b7 b8 b9 b10 b11 b12:α} {l:List α}:a∈b0::b1::b2::b3::b4::b5::b6::b7::b8::b9::b10::b11::b12::a::l:= .tail _ (.tail _ (.tail _ (.tail _ (.tail _ (.tail _ (.tail _ (.tail _ (.tail _ (.tail _ (.tail _ (.tail _ (.tail _ (.head _)))))))))))))
theorem zQB {α:Type} {a b0 b1 b2 b3 b4 b5 b6 b7 b8 b9 b10 b11 b12 b13:α} {l:List α}:a∈b0::b1::b2::b3::b4::b5::b6::b7::b8::b9::b10::b11::b12::b13::a::l:= .tail _ (.tail _ (.tail _ (.tail _ (.tail _ (.tail _ (.tail _ (.tail _ (.tail _ (.tail _ (.tail _ (.tail _ (.tail _ (.tail _ (.head _))))))))))))))
theorem zGn {α:Type} {a b0 b1 b2 b3 b4 b5 b6 b7 b8 b9 b10 b11 b12 b13 b14:α} {l:List α}:a∈b0::b1::b2::b3::b4::b5::b6::b7::b8::b9::b10::b11::b12::b13::b14::a::l:= .tail _ (.tail _ (.tail _ (.tail _ (.tail _ (.tail _ (.tail _ (.tail _ (.tail _ (.tail _ (.tail _ (.tail _ (.tail _ (.tail _ (.tail _ (.head _)))))))))))))))
theorem zE {F:Fence} {m:Nat} {P:Wf} {w0:W8} {ops:Array Oper} {G:Nat->SF}:Obs F m P w0 ops G []:=trivial
def CF.at (C:CF) (k:Nat):CF:=⟨fun cs w=> ∃ds,C.p ds w/\cs=ds.drop k,fun _ _ _ ⟨ds,h1,h2⟩ hb=>⟨ds,C.st _ _ _ h1 hb,h2⟩⟩
abbrev Rw.X (f:UF) (n:Nat):Rw:=.s (wC ((CU.agg f).cf.at n))
abbrev Rw.Y (f:UF):Rw:=.s (wC (cg f))
section
variable {F:Fence} {m:Nat} {P:Wf} {w0:W8} {ops:Array Oper} {G:Nat->SF} {d:Tmp} {ty:Wc} {pos:String} {aft:Array Edge}
theorem zW {x:We} {s:Wc} {f:Nat} {C:CF} (k:Nat) (hk:zBz P s f=some k) (hx: ∀v W,(fct G x).p v W->(wC C).p v W:=by first|exact fun _ _ h=>h|exact fun _ _ h=>h.2) (hd: ∀v W,(wC (C.at k)).p v W->(G d).p v W:=by exact fun _ _ h=>h):qB F m P w0 ops G ⟨some d, .fieldAddr s x f,ty,pos,aft,none⟩:=
 zIL (C':=C.at k) k hk hx (fun cs _ h=>⟨cs,h,rfl⟩) hd
theorem qR {x:We} {s:Wc} {f:Nat} {C:CF} (i k:Nat) (hk:zBz P s f=some k) (hx: ∀v W,(fct G x).p v W->(wC (C.at i)).p v W:=by exact fun _ _ h=>h) (hd: ∀v W,(wC (C.at (i+k))).p v W->(G d).p v W:=by exact fun _ _ h=>h):qB F m P w0 ops G ⟨some d, .fieldAddr s x f,ty,pos,aft,none⟩:=
 zIL (C':=C.at (i+k)) k hk hx (fun cs _ ⟨ds,h1,h2⟩=>⟨ds,h1,by rw [h2,List.drop_drop]⟩) hd
theorem yW {x:We} {t:Wc} {C:CF} {k:Nat} (hk:zBX P t=true) (hx: ∀v W,(fct G x).p v W->(wC (C.at k)).p v W:=by exact fun _ _ h=>h) (h: ∀cs W,C.p cs W-> ∃u,cs[k]?=some u/\(G d).p u W):qB F m P w0 ops G ⟨some d, .load t x,ty,pos,aft,none⟩:=
 yR hk hx fun cs W ⟨ds,h1,h2⟩=>let ⟨u,h3,h4⟩:=h ds W h1;⟨u,by rw [h2,List.getElem?_drop];exact h3,h4⟩
theorem zAI {x:We} {t:Wc} {C:CF} {k:Nat} (z:Nat) (hk:zAx P t=some z) (hx: ∀v W,(fct G x).p v W->(wC (C.at k)).p v W:=by exact fun _ _ h=>h) (h: ∀cs W,C.p cs W->k+z<=cs.length/\(G d).p (.agg ((cs.drop k).take z).toArray) W):qB F m P w0 ops G ⟨some d, .load t x,ty,pos,aft,none⟩:=
 zFT z hk hx fun cs W ⟨ds,h1,h2⟩=>let ⟨h3,h4⟩:=h ds W h1;⟨by rw [h2,rN];omega,by rw [h2];exact h4⟩
theorem yP {x:We} {t:Wc} {f:UF} (z:Nat) (hk:zAx P t=some z) (hx: ∀v W,(fct G x).p v W->(wC (cg f)).p v W:=by first|exact fun _ _ h=>h|exact fun _ _ h=>h.2) (hz: ∀cs:List Wb, ∀W,f.p (.agg cs.toArray) W->cs.length=z) (hd: ∀v W,f.p v W->(G d).p v W:=by exact fun _ _ h=>h):qB F m P w0 ops G ⟨some d, .load t x,ty,pos,aft,none⟩:=
 zFT z hk hx fun cs W h=>⟨by rw [hz cs W h];exact pE _,by
  have h1:=hz cs W h
  rw [rO oN]
  exact hd _ _ h⟩
theorem zBo {x:We} {a:Addr} (hx: ∀v W,(fct G x).p v W->v= .pointer (some a)) (hd: ∀W,(G d).p (.pointer (some a)) W:=by exact fun _=>rfl):qB F m P w0 ops G ⟨some d, .nilCheck x,ty,pos,aft,none⟩:=
 qQ (fun _ e=>by cases e) (fun _ e=>by cases e) fun b W hb hh=>by
  have e:=hx _ _ (hh x (by simp [Op.operands]))
  exact ⟨.pointer (some a),by simp [execOp,e],hd W⟩
theorem zBa {x:We} {s:Wc} {f:Nat} {b o:Nat} (k:Nat) (hk:zBz P s f=some k) (hx: ∀v W,(fct G x).p v W->v= pO b o) (hd: ∀W,(G d).p (.pointer (some ⟨b,o+k,none⟩)) W:=by exact fun _=>rfl):qB F m P w0 ops G ⟨some d, .fieldAddr s x f,ty,pos,aft,none⟩:=
 qQ (fun _ e=>by cases e) (fun _ e=>by cases e) fun c W hb hh=>by
  have e:=hx _ _ (hh x (by simp [Op.operands]))
  refine ⟨.pointer (some ⟨b,o+k,none⟩), ?_,hd W⟩
  unfold zBz at hk
  split at hk<;>try cases hk
  rename_i fs hu
  split at hk<;>try cases hk
  rename_i f' hf
  split at hk<;>try cases hk
  rename_i i hi
  split at hk<;>try cases hk
  rename_i hz
  simp [execOp,Instr.fieldAt,pH hu,hf,e,Instr.sureAddr,fieldPlace,sizeOf,typeInfo,hi,hz,pR]
theorem wG {W:W8} {f g:SF} (h: ∀v W,f.p v W->g.p v W): ∀e W',Ret W f e W'->Ret W g e W':=fun _ _ ⟨v,e,h1,h2⟩=>⟨v,e,h _ _ h1,h2⟩
end
theorem zAk {xs ys:Array Wb} (h:Value.agg xs=Value.agg ys):xs=ys:=by injection h
theorem zMq {cs:List Wb} {W:W8} {m:Nat} {k:Int} (h:(fUV m k).p (.agg cs.toArray) W): ∃s A n c,cs= [.bool s, .slice A n c]/\ ∃l,Rd W A n c l/\Lt l/\n<=m/\iv s l=k:=by
 obtain ⟨s,A,n,c,l,e,h1⟩:=h
 have:=pS Array.toList (zAk e)
 exact ⟨s,A,n,c,by simpa using this,l,h1⟩
theorem zF1 {cs:List Wb} {W:W8} {k:Int} (h:(fNV k).p (.agg cs.toArray) W): ∃A n c,cs= [.bool (decide (k<0)), .slice A n c]/\ ∃l,Is l k.natAbs/\Rd W A n c l:=by
 obtain ⟨A,n,c,l,e,h1⟩:=h
 have:=pS Array.toList (zAk e)
 exact ⟨A,n,c,by simpa using this,l,h1⟩
theorem zN5 (m:Nat) (k:Int): ∀cs:List Wb, ∀W,(fUV m k).p (.agg cs.toArray) W->cs.length=2:=fun cs W h=>by
 obtain ⟨s,A,n,c,rfl,_⟩:=zMq h
 rfl
theorem zOC (k:Int): ∀cs:List Wb, ∀W,(fNV k).p (.agg cs.toArray) W->cs.length=2:=fun cs W h=>by
 obtain ⟨A,n,c,rfl,_⟩:=zF1 h
 rfl
theorem zIQ {k:Int} (cs:List Wb) (W:W8) (h:(CU.agg (fNV k)).p cs W): ∃u,cs[1]?=some u/\qV W u k.natAbs:=by
 obtain ⟨A,n,c,rfl,l,h1,h2⟩:=zF1 h
 exact ⟨_,rfl,A,n,c,l,rfl,h1,h2⟩
theorem zOB {k:Int} (cs:List Wb) (W:W8) (h:(CU.agg (fNV k)).p cs W): ∃u,cs[0]?=some u/\u= .bool (decide (k<0)):=by
 obtain ⟨A,n,c,rfl,l,h1,h2⟩:=zF1 h
 exact ⟨_,rfl,rfl⟩
theorem zN6 {m:Nat} {k:Int} {v:Wb} {W:W8} (h:(fUV m k).p v W):(CU.agg (fUV m k)).p v.cells.toList W/\v.cells.toList.all yA=true:=by
 obtain ⟨s,A,n,c,l,rfl,h1⟩:=h
 exact ⟨⟨s,A,n,c,l,rfl,h1⟩,rfl⟩
theorem zFZ {k:Int} (v:Wb) (W:W8) (h:(fNV k).p v W): ∃vs:List Wb,v= .agg vs.toArray/\vs.length=2/\(∀u,u∈vs->u.oneCell'=true)/\vs.all yA=true/\(CU.agg (fNV k)).p vs W:=by
 obtain ⟨A,n,c,l,rfl,h1⟩:=h
 exact ⟨[_,_],rfl,rfl,fun u hu=>by simp at hu;rcases hu with rfl|rfl<;>rfl,rfl,A,n,c,l,rfl,h1⟩
theorem NV.nat {W:W8} {v:Wb} {k:Int} (h:NV W v k): ∃A n c,v= .agg #[.bool (decide (k<0)), .slice A n c]/\qV W (.slice A n c) k.natAbs:=by
 obtain ⟨A,n,c,l,rfl,h1,h2⟩:=h
 exact ⟨A,n,c,rfl,A,n,c,l,rfl,h1,h2⟩
theorem zTQ (s:Bool) (A:Option Addr) (n c:Nat):prog.built 30 [(0, .bool s),(1, .slice A n c)]=some #[.bool s, .slice A n c]:=by kernel_rfl
theorem zRP {s:Bool} {u v:Wb} {W:W8} {m x:Nat} (hu:u= .bool s) (hv:qV W v x) (hx:x<BB^m): ∃cells,prog.built 30 [(0,u),(1,v)]=some cells/\UV W m (.agg cells) (if s then -(x:Int) else x):=by
 obtain ⟨A,n,c,l,rfl,h1,h2⟩:=hv
 subst hu
 refine ⟨_,zTQ s A n c,s,A,n,c,l,rfl,h2,h1.lt,by rw [<-h2.len];exact h1.len hx, ?_⟩
 unfold iv
 rw [h1.val]
theorem zQU (s s':Bool) (A A':Option Addr) (n n' c c':Nat):zS prog 100 2 [(0, .agg #[.bool s, .slice A n c]),(1, .agg #[.bool s', .slice A' n' c'])]=some (30,#[.bool s, .slice A n c, .bool s', .slice A' n' c']):=by kernel_rfl
theorem zBC {u v:Wb} {W:W8} {m:Nat} {k k':Int} (hu:UV W m u k) (hv:UV W m v k'): ∃e cs,zS prog 100 2 [(0,u),(1,v)]=some (e,cs)/\ISV (W.alloc (.cells cs e)) m (.slice (some ⟨W.heap.size,0,none⟩) 2 2) [k,k']:=by
 obtain ⟨s,A,n,c,l,rfl,h1,h2,h3,rfl⟩:=hu
 obtain ⟨s',A',n',c',l',rfl,h1',h2',h3',rfl⟩:=hv
 exact ⟨_,_,zQU s s' A A' n n' c c',ISV.two ⟨s,A,n,c,l,rfl,h1,h2,h3,rfl⟩ ⟨s',A',n',c',l',rfl,h1',h2',h3',rfl⟩ _⟩
def zMg (m:Nat) (ks:List Int):SF:=⟨fun v W=>ISV W m v ks,fun _ _ _ h hb=>h.below hb⟩
def zQC (x:Nat):SF:=⟨fun v _=> ∃n:Nat,v= .int .i64 n/\(x=0↔n=0),fun _ _ _ h _=>h⟩
section
variable {F:Fence} {m:Nat} {P:Wf} {w0:W8} {ops:Array Oper} {G:Nat->SF} {d:Tmp} {ty:Wc} {pos:String} {aft:Array Edge}
theorem jV {x:We} {t:Wc} (ht:P.underlying t=some (.slice (P.elem t))) (h: ∀v W,(fct G x).p v W-> ∃A n c,v= .slice A n c/\(G d).p (.int .i64 (n:Nat)) W):qB F m P w0 ops G ⟨some d, .call ⟨.builtin .len,#[x],#[t]⟩,ty,pos,aft,none⟩:=by
 intro b W K Q hb hr hK
 obtain ⟨A,n,c,e,hd⟩:=h _ _ (y6 hr (x:=x) (by simp [Op.operands,Call.operands]))
 refine ⟨fun f hf=>(by
  unfold Oper.about at hf
  simp [resolve,go_sem] at hf), ?_⟩
 rw [pF _ _ _ (fun _ e=>by cases e)]
 have:(execOp b.eval ⟨some d, .call ⟨.builtin .len,#[x],#[t]⟩,ty,pos,aft,none⟩).run P W= .ok (.value (.int .i64 (n:Nat))) W:=by
  simp [execOp,resolve,invoke,builtin,e,run_len_slice _ _ _ _ _ _ ht,goInt]
 rw [this]
 exact hK _ _ (fun d' e'=>by cases e';exact hd) (pD _ _)
theorem zFV {x:We} {t:Wc} {k:Nat} (ht:P.underlying t=some (.slice (P.elem t))) (hx: ∀v W,(fct G x).p v W->qV W v k) (hd: ∀v W,(zQC k).p v W->(G d).p v W:=by exact fun _ _ h=>h):qB F m P w0 ops G ⟨some d, .call ⟨.builtin .len,#[x],#[t]⟩,ty,pos,aft,none⟩:=
 jV ht fun v W h=>by
  obtain ⟨A,n,c,l,e,h1,h2⟩:=hx v W h
  exact ⟨A,n,c,e,hd _ _ ⟨n,rfl,by rw [<-h2.len];exact h1.zero_iff⟩⟩
theorem zPV {op:BinOp} {t:Wc} {x y:We} {t':Wc} (h: ∀u v W,(fct G x).p u W->(fct G y).p v W-> ∃r,(∀W,(eqGuard op t x y u v).run P W= .ok () W)/\(∀W,(binOp op t u v).run P W= .ok r W)/\(G d).p r W):qB F m P w0 ops G ⟨some d, .binOp op t x y t',ty,pos,aft,none⟩:=
 qQ (fun _ e=>by cases e) (fun _ e=>by cases e) fun b W hb hh=>by
  obtain ⟨r,h1,h2,h3⟩:=h _ _ W (hh x (by simp [Op.operands])) (hh y (by simp [Op.operands]))
  exact ⟨r,by simp [execOp,h1,h2],h3⟩
theorem zFX {t:Wc} {x:We} {t':Wc} {k:Nat} {b:Bool} (hb:b=decide (k=0)) (hx: ∀v W,(fct G x).p v W->(zQC k).p v W:=by exact fun _ _ h=>h) (hd: ∀W,(G d).p (.bool b) W:=by exact fun _=>rfl):qB F m P w0 ops G ⟨some d, .binOp .eql t x (.const (.int .i64 0)) t',ty,pos,aft,none⟩:=
 zPV fun u v W hu hv=>by
  obtain ⟨n,rfl,h1⟩:=hx u W hu
  obtain rfl:v= .int .i64 0:=hv
  refine ⟨.bool b,fun _=>rfl,fun _=> ?_,hd W⟩
  have h2:((n:Int)==0)=b:=by
   rw [hb,Bool.eq_iff_iff]
   simp only [pI,pJ]
   omega
  simp only [binOp,Op.intCmp]
  rw [h2]
  rfl
end
def QVp (m:Nat) (k:Int) (d:Nat) (v:Wb) (w:W8):Prop:= ∃b s t,v= .agg #[b,s,t]/\UV w m (.agg #[b,s]) k/\LV w m t d
def QNp (q:Rat) (v:Wb) (w:W8):Prop:= ∃b s t,v= .agg #[b,s,t]/\NV w (.agg #[b,s]) q.num/\qV w t q.den
def QMp (m:Nat) (k:Int) (d:Nat) (v:Wb) (w:W8):Prop:= ∃b s t,v= .agg #[b,s,t]/\NV w (.agg #[b,s]) k/\LV w m t d
def QAp (m:Nat) (sg:Bool) (x:Nat) (d:Nat) (v:Wb) (w:W8):Prop:= ∃s t,v= .agg #[.bool sg,s,t]/\qV w s x/\LV w m t d
def fQV (m:Nat) (k:Int) (d:Nat):UF:= .mk' (QVp m k d) fun _ _ _ ⟨b,s,t,e,h1,h2⟩ u=>⟨b,s,t,e,(fUV m k).us _ _ _ h1 u,(fLV m d).us _ _ _ h2 u⟩
def fQN (q:Rat):UF:= .mk' (QNp q) fun _ _ _ ⟨b,s,t,e,h1,h2⟩ u=>⟨b,s,t,e,(fNV q.num).us _ _ _ h1 u,(q9 q.den).us _ _ _ h2 u⟩
def fQM (m:Nat) (k:Int) (d:Nat):UF:= .mk' (QMp m k d) fun _ _ _ ⟨b,s,t,e,h1,h2⟩ u=>⟨b,s,t,e,(fNV k).us _ _ _ h1 u,(fLV m d).us _ _ _ h2 u⟩
def fQA (m:Nat) (sg:Bool) (x d:Nat):UF:= .mk' (QAp m sg x d) fun _ _ _ ⟨s,t,e,h1,h2⟩ u=>⟨s,t,e,(q9 x).us _ _ _ h1 u,(fLV m d).us _ _ _ h2 u⟩
theorem zAq {cs:List Wb} {b s t:Wb} (h:Value.agg cs.toArray= .agg #[b,s,t]):cs= [b,s,t]:=by
 have:=pS Array.toList (zAk h)
 simpa using this
theorem zOt (m:Nat) (k:Int) (d:Nat): ∀cs:List Wb, ∀W,(fQV m k d).p (.agg cs.toArray) W->cs.length=3:=fun cs W ⟨b,s,t,e,_⟩=>by rw [zAq e];rfl
theorem jH (q:Rat): ∀cs:List Wb, ∀W,(fQN q).p (.agg cs.toArray) W->cs.length=3:=fun cs W ⟨b,s,t,e,_⟩=>by rw [zAq e];rfl
theorem zOs {m:Nat} {k:Int} {d:Nat} (cs:List Wb) (W:W8) (h:(CU.agg (fQV m k d)).p cs W):0+2<=cs.length/\UV W m (.agg ((cs.drop 0).take 2).toArray) k:=by
 obtain ⟨b,s,t,e,h1,_⟩:=h
 rw [zAq e]
 exact ⟨by simp,h1⟩
theorem zKL {m:Nat} {k:Int} {d:Nat} (cs:List Wb) (W:W8) (h:(CU.agg (fQV m k d)).p cs W): ∃u,cs[2]?=some u/\LV W m u d:=by
 obtain ⟨b,s,t,e,_,h1⟩:=h
 rw [zAq e]
 exact ⟨t,rfl,h1⟩
theorem zQ6 {m:Nat} {k:Int} {d:Nat} (cs:List Wb) (W:W8) (h:(CU.agg (fQV m k d)).p cs W): ∃u,cs[0]?=some u/\ ∃s:Bool,u= .bool s:=by
 obtain ⟨b,s,t,e,⟨s',A,n,c,l,e',_⟩,_⟩:=h
 rw [zAq e]
 have:=pS Array.toList (zAk e')
 exact ⟨b,rfl,s',by simp at this;exact this.1⟩
theorem zB8 {q:Rat} (cs:List Wb) (W:W8) (h:(CU.agg (fQN q)).p cs W):0+2<=cs.length/\NV W (.agg ((cs.drop 0).take 2).toArray) q.num:=by
 obtain ⟨b,s,t,e,h1,_⟩:=h
 rw [zAq e]
 exact ⟨by simp,h1⟩
theorem zBJ {q:Rat} (cs:List Wb) (W:W8) (h:(CU.agg (fQN q)).p cs W): ∃u,cs[2]?=some u/\qV W u q.den:=by
 obtain ⟨b,s,t,e,_,h1⟩:=h
 rw [zAq e]
 exact ⟨t,rfl,h1⟩
theorem zM5 {q:Rat} (cs:List Wb) (W:W8) (h:(CU.agg (fQN q)).p cs W):0+3<=cs.length/\QNp q (.agg ((cs.drop 0).take 3).toArray) W:=by
 have h1:=jH q cs W h
 exact ⟨by omega,by rw [List.drop_zero,rO oN];exact h⟩
theorem zRa {m:Nat} {k:Int} {d:Nat} (cs:List Wb) (W:W8) (h:(CU.agg (fQM m k d)).p cs W): ∃u,cs[1]?=some u/\qV W u k.natAbs:=by
 obtain ⟨b,s,t,e,h1,_⟩:=h
 rw [zAq e]
 exact zIQ [b,s] W h1
theorem zQ9 {m:Nat} {k:Int} {d:Nat} (cs:List Wb) (W:W8) (h:(CU.agg (fQM m k d)).p cs W): ∃u,cs[2]?=some u/\LV W m u d:=by
 obtain ⟨b,s,t,e,_,h1⟩:=h
 rw [zAq e]
 exact ⟨t,rfl,h1⟩
theorem LV.form {W:W8} {m:Nat} {v:Wb} {x:Nat} (h:LV W m v x): ∃A n c,v= .slice A n c:=by
 obtain ⟨A,n,c,l,e,_⟩:=h
 exact ⟨A,n,c,e⟩
theorem qV.form {W:W8} {v:Wb} {x:Nat} (h:qV W v x): ∃A n c,v= .slice A n c:=by
 obtain ⟨A,n,c,l,e,_⟩:=h
 exact ⟨A,n,c,e⟩
theorem UV.form {W:W8} {m:Nat} {b s:Wb} {k:Int} (h:UV W m (.agg #[b,s]) k): ∃sg A n c,b= .bool sg/\s= .slice A n c:=by
 obtain ⟨s',A,n,c,l,e,_⟩:=h
 have:=pS Array.toList (zAk e)
 simp at this
 exact ⟨s',A,n,c,this.1,this.2⟩
theorem NV.form {W:W8} {b s:Wb} {k:Int} (h:NV W (.agg #[b,s]) k): ∃A n c,b= .bool (decide (k<0))/\s= .slice A n c:=by
 obtain ⟨A,n,c,l,e,_⟩:=h
 have:=pS Array.toList (zAk e)
 simp at this
 exact ⟨A,n,c,this.1,this.2⟩
theorem zDr {m:Nat} {k:Int} {d:Nat} {v:Wb} {W:W8} (h:(fQV m k d).p v W): ∃sg A n c A' n' c',v= .agg #[.bool sg, .slice A n c, .slice A' n' c']:=by
 obtain ⟨b,s,t,rfl,h1,h2⟩:=h
 obtain ⟨sg,A,n,c,rfl,rfl⟩:=h1.form
 obtain ⟨A',n',c',rfl⟩:=h2.form
 exact ⟨_,_,_,_,_,_,_,rfl⟩
theorem zBF {q:Rat} {v:Wb} {W:W8} (h:(fQN q).p v W): ∃A n c A' n' c',v= .agg #[.bool (decide (q.num<0)), .slice A n c, .slice A' n' c']:=by
 obtain ⟨b,s,t,rfl,h1,h2⟩:=h
 obtain ⟨A,n,c,rfl,rfl⟩:=h1.form
 obtain ⟨A',n',c',rfl⟩:=h2.form
 exact ⟨_,_,_,_,_,_,rfl⟩
theorem zGP {m:Nat} {k:Int} {d:Nat} {v:Wb} {W:W8} (h:(fQV m k d).p v W):(CU.agg (fQV m k d)).p v.cells.toList W/\v.cells.toList.all yA=true:=by
 obtain ⟨sg,A,n,c,A',n',c',rfl⟩:=zDr h
 exact ⟨h,rfl⟩
theorem zIC {q:Rat} {v:Wb} {W:W8} (h:(fQN q).p v W):(CU.agg (fQN q)).p v.cells.toList W/\v.cells.toList.all yA=true:=by
 obtain ⟨A,n,c,A',n',c',rfl⟩:=zBF h
 exact ⟨h,rfl⟩
theorem zCU {sg:Bool} {A A':Option Addr} {n c n' c':Nat} (u:Wb) (hu:u∈ [Value.bool sg, .slice A n c, .slice A' n' c']):u.oneCell'=true:=by
 simp at hu
 rcases hu with rfl|rfl|rfl<;>rfl
theorem qP {q:Rat} (v:Wb) (W:W8) (h:(fQN q).p v W): ∃vs:List Wb,v= .agg vs.toArray/\vs.length=3/\(∀u,u∈vs->u.oneCell'=true)/\vs.all yA=true/\(CU.agg (fQN q)).p vs W:=by
 obtain ⟨A,n,c,A',n',c',rfl⟩:=zBF h
 exact ⟨[_,_,_],rfl,rfl,zCU,rfl,h⟩
theorem zM6 {q:Rat} {m:Nat} {v:Wb} {W:W8} (h:QNp q v W) (hq:QB q m):QVp m q.num q.den v W:=by
 obtain ⟨b,s,t,e,h1,h2⟩:=h
 exact ⟨b,s,t,e,h1.uv' hq.1,h2.lv hq.2⟩
theorem zTO (s:Bool) (A A':Option Addr) (n n' c c':Nat):prog.built 32 [(0, .agg #[.bool s, .slice A n c]),(1, .slice A' n' c')]=some #[.bool s, .slice A n c, .slice A' n' c']:=by kernel_rfl
theorem zI9 {u v:Wb} {W:W8} {q:Rat} (hu:NV W u q.num) (hv:qV W v q.den): ∃cells,prog.built 32 [(0,u),(1,v)]=some cells/\QNp q (.agg cells) W:=by
 obtain ⟨A,n,c,rfl,h1⟩:=hu.nat
 obtain ⟨A',n',c',rfl⟩:=hv.form
 exact ⟨_,zTO _ _ _ _ _ _ _,_,_,_,rfl,hu,hv⟩
theorem zTi:zS prog 28 1 [(0, .int .u32 1)]=some (81,#[.int .u32 1]):=by kernel_rfl
theorem zOf {u:Wb} {W:W8} (hu:u= .int .u32 1): ∃e cs,zS prog 28 1 [(0,u)]=some (e,cs)/\qV (W.alloc (.cells cs e)) (.slice (some ⟨W.heap.size,0,none⟩) 1 1) 1:=by
 subst hu
 refine ⟨_,_,zTi,_,1,1, [1],rfl,⟨fun y hy=>by simp at hy;subst hy;decide,fun hn=>by simp, ?_⟩,Rd.new W [1] _ _ (by simp [zBd]) (by simp)⟩
 show sm (lm [1]) 1=1
 simp [sm,lm]
theorem zTj (A:Option Addr) (n c:Nat):prog.built 30 [(1, .slice A n c)]=some #[.bool false, .slice A n c]:=by kernel_rfl
theorem zL0 {v:Wb} {W:W8} {x:Nat} (hv:qV W v x): ∃cells,prog.built 30 [(1,v)]=some cells/\NV W (.agg cells) x:=by
 obtain ⟨A,n,c,l,rfl,h1,h2⟩:=hv
 refine ⟨_,zTj _ _ _,A,n,c,l,by rw [decide_eq_false oN],by rw [Int.natAbs_natCast];exact h1,h2⟩
theorem zTP (s:Bool) (A A':Option Addr) (n n' c c':Nat):prog.built 91 [(0, .agg #[.bool s, .slice A n c, .slice A' n' c'])]=some #[.bool s, .slice A n c, .slice A' n' c']:=by kernel_rfl
theorem zRO {v:Wb} {W:W8} {m:Nat} {k:Int} {d:Nat} (hv:QVp m k d v W): ∃cells,prog.built 91 [(0,v)]=some cells/\QVp m k d (.agg cells) W:=by
 obtain ⟨sg,A,n,c,A',n',c',rfl⟩:=zDr hv
 exact ⟨_,zTP _ _ _ _ _ _ _,hv⟩
def QKp (k:Int) (d:Nat) (v:Wb) (w:W8):Prop:= ∃b s t,v= .agg #[b,s,t]/\NV w (.agg #[b,s]) k/\qV w t d
def fQK (k:Int) (d:Nat):UF:= .mk' (QKp k d) fun _ _ _ ⟨b,s,t,e,h1,h2⟩ u=>⟨b,s,t,e,(fNV k).us _ _ _ h1 u,(q9 d).us _ _ _ h2 u⟩
theorem zSt {k:Int} {d m:Nat} {v:Wb} {W:W8} (h:QKp k d v W) (hk:Bd k m) (hd:d<BB^m):QVp m k d v W:=by
 obtain ⟨b,s,t,e,h1,h2⟩:=h
 exact ⟨b,s,t,e,h1.uv' hk,h2.lv hd⟩
theorem zRb {k:Int} {d:Nat} (cs:List Wb) (W:W8) (h:(CU.agg (fQK k d)).p cs W): ∃u,cs[2]?=some u/\qV W u d:=by
 obtain ⟨b,s,t,e,_,h1⟩:=h
 rw [zAq e]
 exact ⟨t,rfl,h1⟩
theorem zEF {v:Wb} {W:W8} {x:Nat} (h:qV W v x):v.cells=#[v]/\v.oneCell'=true/\yA v=true:=by
 obtain ⟨A,n,c,rfl⟩:=h.form
 exact ⟨rfl,rfl,rfl⟩
theorem zMz {m:Nat} {k:Int} {d:Nat} {q:Rat} (v:Wb) (W:W8) (h:(fQN q).p v W):v.cells.size=3/\(∀u,u∈v.cells.toList->u.oneCell'=true)/\v.cells.toList.all yA=true/\ ∀cs,(CU.agg (fQV m k d)).p cs W->0+3<=cs.length/\(CU.agg (fQN q)).p (jR cs 0 v.cells.toList) W:=by
 obtain ⟨A,n,c,A',n',c',rfl⟩:=zBF h
 refine ⟨rfl,zCU,rfl,fun cs hc=> ?_⟩
 obtain ⟨b,s,t,e,_⟩:=hc
 rw [zAq e]
 exact ⟨by simp,h⟩
theorem zPb {m:Nat} {k0 k:Int} {d:Nat} (v:Wb) (W:W8) (h:(fNV k).p v W):v.cells.size=2/\(∀u,u∈v.cells.toList->u.oneCell'=true)/\v.cells.toList.all yA=true/\ ∀cs,(CU.agg (fQV m k0 d)).p cs W->0+2<=cs.length/\(CU.agg (fQM m k d)).p (jR cs 0 v.cells.toList) W:=by
 obtain ⟨A,n,c,rfl,h1⟩:=NV.nat h
 refine ⟨rfl,fun u hu=>by simp [Value.cells] at hu;rcases hu with rfl|rfl<;>rfl,rfl,fun cs hc=> ?_⟩
 obtain ⟨b,s,t,e,_,h2⟩:=hc
 rw [zAq e]
 exact ⟨by simp,_,_,t,rfl,h,h2⟩
theorem zPc {k0 k:Int} {d:Nat} (v:Wb) (W:W8) (h:(fNV k).p v W):v.cells.size=2/\(∀u,u∈v.cells.toList->u.oneCell'=true)/\v.cells.toList.all yA=true/\ ∀cs,(CU.agg (fQK k0 d)).p cs W->0+2<=cs.length/\(CU.agg (fQK k d)).p (jR cs 0 v.cells.toList) W:=by
 obtain ⟨A,n,c,rfl,h1⟩:=NV.nat h
 refine ⟨rfl,fun u hu=>by simp [Value.cells] at hu;rcases hu with rfl|rfl<;>rfl,rfl,fun cs hc=> ?_⟩
 obtain ⟨b,s,t,e,_,h2⟩:=hc
 rw [zAq e]
 exact ⟨by simp,_,_,t,rfl,h,h2⟩
theorem zPd {k:Int} {d0 d:Nat} (v:Wb) (W:W8) (h:(q9 d).p v W):v.cells.size=1/\(∀u,u∈v.cells.toList->u.oneCell'=true)/\v.cells.toList.all yA=true/\ ∀cs,(CU.agg (fQK k d0)).p cs W->2+1<=cs.length/\(CU.agg (fQK k d)).p (jR cs 2 v.cells.toList) W:=by
 obtain ⟨h1,h2,h3⟩:=zEF h
 rw [h1]
 refine ⟨rfl,fun u hu=>by simp at hu;rw [hu];exact h2,by simp [h3],fun cs hc=> ?_⟩
 obtain ⟨b,s,t,e,h4,_⟩:=hc
 rw [zAq e]
 exact ⟨by simp,b,s,v,rfl,h4,h⟩
theorem zQL {m:Nat} {k:Int} {x d:Nat} (v:Wb) (W:W8) (h:(q9 x).p v W):v.cells.size=1/\(∀u,u∈v.cells.toList->u.oneCell'=true)/\v.cells.toList.all yA=true/\ ∀cs,(CU.agg (fQM m k d)).p cs W->1+1<=cs.length/\(CU.agg (fQA m (decide (k<0)) x d)).p (jR cs 1 v.cells.toList) W:=by
 obtain ⟨h1,h2,h3⟩:=zEF h
 rw [h1]
 refine ⟨rfl,fun u hu=>by simp at hu;rw [hu];exact h2,by simp [h3],fun cs hc=> ?_⟩
 obtain ⟨b,s,t,e,h4,h5⟩:=hc
 obtain ⟨A,n,c,rfl,rfl⟩:=h4.form
 rw [zAq e]
 exact ⟨by simp,v,t,rfl,h,h5⟩
theorem zQK {m:Nat} {sg:Bool} {q:Rat} {x y d:Nat} (hs:sg=decide (q.num<0)) (hx:x=q.num.natAbs) (hy:y=q.den) (v:Wb) (W:W8) (h:(q9 y).p v W):v.cells.size=1/\(∀u,u∈v.cells.toList->u.oneCell'=true)/\v.cells.toList.all yA=true/\ ∀cs,(CU.agg (fQA m sg x d)).p cs W->2+1<=cs.length/\(CU.agg (fQN q)).p (jR cs 2 v.cells.toList) W:=by
 obtain ⟨h1,h2,h3⟩:=zEF h
 rw [h1]
 refine ⟨rfl,fun u hu=>by simp at hu;rw [hu];exact h2,by simp [h3],fun cs hc=> ?_⟩
 obtain ⟨s,t,e,h4,_⟩:=hc
 rw [zAq e]
 refine ⟨by simp, .bool sg,s,v,rfl, ?_,by rw [<-hy];exact h⟩
 obtain ⟨A,n,c,l,rfl,g1,g2⟩:=h4
 exact ⟨A,n,c,l,by rw [hs],by rw [<-hx];exact g1,g2⟩
def RVp (m:Nat) (q:Rat) (v:Wb) (w:W8):Prop:= ∃k d,QVp m k d v w/\mkRat k d=q
def fRV (m:Nat) (q:Rat):UF:= .mk' (RVp m q) fun _ _ _ ⟨k,d,h,e⟩ u=>⟨k,d,(fQV m k d).us _ _ _ h u,e⟩
theorem wJ {m:Nat} {q:Rat} {v:Wb} {W:W8} (h:QNp q v W) (hq:QB q m):RVp m q v W:=⟨_,_,zM6 h hq,Rat.mkRat_self q⟩
theorem RVp.qb {m:Nat} {q:Rat} {v:Wb} {W:W8} (h:RVp m q v W) (hm:0<m):QB q m:=by
 obtain ⟨k,d,⟨b,s,t,_,h1,h2⟩,rfl⟩:=h
 exact QB.of h1.bd h2.bound hm
theorem zBe (m:Nat) (q:Rat): ∀cs:List Wb, ∀W,(fRV m q).p (.agg cs.toArray) W->cs.length=3:=fun cs W ⟨k,d,h,_⟩=>zOt m k d cs W h
theorem zDD {m:Nat} {q:Rat} {v:Wb} {W:W8} (h:(fRV m q).p v W):(CU.agg (fRV m q)).p v.cells.toList W/\v.cells.toList.all yA=true:=by
 obtain ⟨k,d,h1,h2⟩:=h
 obtain ⟨g1,g2⟩:=zGP h1
 exact ⟨⟨k,d,g1,h2⟩,g2⟩
theorem zGj {P:Wf} {f:FuncId} {args:Array Wb} {W:W8} {u:Wb} (h:Calls P f args W fun e w'=>e= .returned u/\Below W.heap.size W w'):Calls P f args W (Ret W (UF.eq u).tS):=h.mono fun _ _ ⟨h1,h2⟩=>⟨u,h1,rfl,h2⟩
def SF.row (z:Nat) (Cs:List CU):SF:=⟨fun v W=> ∃A c,v= .slice A Cs.length c/\Cs.length<=c/\c<=9223372036854775807/\(A=none->c=0)/\ ∀i C,Cs[i]?=some C-> ∃b o cs,A=some ⟨b,o,none⟩/\Mem W b (o+i*z) cs/\C.p cs W,
 fun _ _ _ ⟨A,c,h1,h2,h3,h4,h5⟩ hb=>⟨A,c,h1,h2,h3,h4,fun i C hi=>let ⟨b,o,cs,g1,g2,g3⟩:=h5 i C hi;⟨b,o,cs,g1,g2.below hb,C.us _ _ _ g3 (zK hb)⟩⟩⟩
theorem yT {z:Nat} {Cs:List CU} {l v:Wb} {W0 W:W8} (hl:(SF.row z Cs).p l W0) (h:v=l) (hb:Below W0.heap.size W0 W):(SF.row z Cs).p v W:=by subst h;exact (SF.row z Cs).st _ _ _ hl hb
def zA2 (P:Wf) (t:Wc):Option Nat:=match P.underlying t with
 |some (.slice e)=>(P.info? e).map (·.size)
 |_=>none
section
variable {F:Fence} {m:Nat} {P:Wf} {w0:W8} {ops:Array Oper} {G:Nat->SF} {d:Tmp} {ty:Wc} {pos:String} {aft:Array Edge}
theorem zCt {x y:We} {t:Wc} {z:Nat} {Cs:List CU} {i:Nat} {C:CU} (hz:zA2 P t=some z) (hi:Cs[i]?=some C) (hx: ∀v W,(fct G x).p v W->(SF.row z Cs).p v W) (hy: ∀v W,(fct G y).p v W->v= .int .i64 (i:Int)) (hd: ∀v W,(wC C.cf).p v W->(G d).p v W:=by exact fun _ _ h=>h):qB F m P w0 ops G ⟨some d, .indexAddr t x y,ty,pos,aft,none⟩:=
 qQ (fun _ e=>by cases e) (fun _ e=>by cases e) fun b W hb hh=>by
  obtain ⟨A,c,e,h2,h3,h4,h5⟩:=hx _ _ (hh x (by simp [Op.operands]))
  have e2:=hy _ _ (hh y (by simp [Op.operands]))
  obtain ⟨b',o,cs,rfl,h6,h7⟩:=h5 i C hi
  have hlt:i<Cs.length:=(pX.1 hi).1
  unfold zA2 at hz
  split at hz<;>try cases hz
  rename_i e' hu
  cases hin:P.info? e' with
  |none=>rw [hin] at hz;cases hz
  |some ie=>
   rw [hin] at hz
   simp only [Option.map_some,rP] at hz
   have hel:P.elem t=e':=by simp [Program.elem,hu]
   refine ⟨.pointer (some ⟨b',o+i*z,none⟩), ?_,hd _ _ ⟨b',o+i*z,cs,rfl,h7,h6⟩⟩
   have hb1:(0:Int)<=(i:Int)/\(i:Int)<(Cs.length:Nat):=by omega
   simp only [execOp,e,e2]
   rw [rD,run_indexAt_slice _ _ _ _ _ _ _ (by rw [hel];exact hu),if_pos hb1,hel]
   simp [sizeOf,typeInfo,hin,hz,pR]
def SF.imp (c:Prop) (f:SF):SF:=⟨fun v W=>c->f.p v W,fun _ _ _ h hb hc=>f.st _ _ _ (h hc) hb⟩
theorem zL {op:Op} (L:List (Nat×SF)) (f:SF) (hL: ∀q,q∈L-> ∀v W,(G q.1).p v W->q.2.p v W) (hd: ∀v W,f.p v W->(G d).p v W) (hnd:(!(zCL ⟨some d,op,ty,pos,aft,none⟩).contains d&& !(L.map (·.1)).contains d)=true)
  (h:qB F m P w0 ops (upd (upd G [(d,f)]) L) ⟨some d,op,ty,pos,aft,none⟩):qB F m P w0 ops G ⟨some d,op,ty,pos,aft,none⟩:=by
 rw [pB] at hnd
 intro b W K Q hb hr hK
 refine h b W K Q hb (fun t ht=> ?_) fun v W' hv hb'=>hK v W' (fun d' e=> ?_) hb'
 ·have hne:Nat.beq d t=false:=by
   cases e:Nat.beq d t with
   |false=>rfl
   |true=>
    have:=pY e
    subst this
    have h1:=hnd.1
    rw [pZ.2 ht] at h1
    cases h1
  have key: ∀l:List (Nat×SF),(∀q,q∈l-> ∀v W,(G q.1).p v W->q.2.p v W)->(upd (upd G [(d,f)]) l t).p (b.tmps.getD t undef) W:=by
   intro l
   induction l with
   |nil=>
    intro _
    show (bif Nat.beq d t then f else G t).p _ _
    rw [hne]
    exact hr t ht
   | cons q l ih=>
    intro hl
    show (bif Nat.beq q.1 t then q.2 else upd (upd G [(d,f)]) l t).p _ _
    cases e:Nat.beq q.1 t with
    |true=>
     have e2:=pY e
     exact hl q (by simp) _ _ (by rw [e2];exact hr t ht)
    |false=>exact ih fun x hx=>hl x (by simp [hx])
  exact key L hL
 ·cases e
  have h1:=hv d rfl
  rw [zAl (by simpa using hnd.2)] at h1
  have h2:(bif Nat.beq d d then f else G d).p v W':=h1
  rw [show Nat.beq d d=true from rE d] at h2
  exact hd v W' h2
theorem zCs {b c:Bool} {v:Wb} (h:v= .bool c) (e:b=true):v= .bool (b&&c):=by rw [e];exact h
theorem zBK {b c:Bool} {v:Wb} (h:v= .bool false) (e:b=false):v= .bool (b&&c):=by rw [e];exact h
theorem zAV {b c:Bool} {v:Wb} (h:v= .bool true) (e:b=true):v= .bool (b||c):=by rw [e];exact h
theorem zAe {b c:Bool} {v:Wb} (h:v= .bool c) (e:b=false):v= .bool (b||c):=by rw [e];exact h
theorem zP {op:BinOp} {t:Wc} {x y:We} {t':Wc} (k:IntKind) (u v:Int) (r:Bool) (hx: ∀q W,(fct G x).p q W->q= .int k u) (hy: ∀q W,(fct G y).p q W->q= .int k v) (hr:(match op with| .eql=>u==v| .neq=>u !=v| .lss=>decide (u<v)| .leq=>decide (u<=v)| .gtr=>decide (u>v)| .geq=>decide (u≥v)|_=>false)=r) (ho:(match op with| .eql| .neq| .lss| .leq| .gtr| .geq=>true|_=>false)=true) (hd: ∀W,(G d).p (.bool r) W:=by exact fun _=>rfl):qB F m P w0 ops G ⟨some d, .binOp op t x y t',ty,pos,aft,none⟩:=
 zDI (.int k u) (.int k v) (.bool r) hx hy (fun W=>by cases op<;>simp [eqGuard]) (fun W=>by
  cases op<;>first
   |exact absurd ho Bool.false_ne_true
   |(subst hr;simp [binOp,Op.intCmp])) hd
theorem qX {t:Wc} {x y:We} {t':Wc} (k:IntKind) (u v r:Int) (hx: ∀q W,(fct G x).p q W->q= .int k u) (hy: ∀q W,(fct G y).p q W->q= .int k v) (hr:k.wrap (u+v)=r) (hd: ∀W,(G d).p (.int k r) W:=by exact fun _=>rfl):qB F m P w0 ops G ⟨some d, .binOp .add t x y t',ty,pos,aft,none⟩:=
 zDI (.int k u) (.int k v) (.int k r) hx hy (fun W=>by simp [eqGuard]) (fun W=>by simp [binOp,Op.intArith,hr]) hd
theorem zPT {x y:We} {ats:Array Wc} (u v:Int) (hx: ∀q W,(fct G x).p q W->q= .int .i64 u) (hy: ∀q W,(fct G y).p q W->q= .int .i64 v) (hd: ∀W,(G d).p (.int .i64 (min u v)) W:=by exact fun _=>rfl):qB F m P w0 ops G ⟨some d, .call ⟨.builtin .min,#[x,y],ats⟩,ty,pos,aft,none⟩:=by
 intro b W K Q hb hr hK
 have e1:=hx _ _ (y6 hr (x:=x) (by simp [Op.operands,Call.operands]))
 have e2:=hy _ _ (y6 hr (x:=y) (by simp [Op.operands,Call.operands]))
 refine ⟨fun f hf=>(by
  unfold Oper.about at hf
  simp [resolve,go_sem] at hf), ?_⟩
 rw [pF _ _ _ (fun _ e=>by cases e)]
 have:(execOp b.eval ⟨some d, .call ⟨.builtin .min,#[x,y],ats⟩,ty,pos,aft,none⟩).run P W= .ok (.value (.int .i64 (min u v))) W:=by
  have h:min u v=if v<u then v else u:=by split<;>omega
  simp [execOp,resolve,invoke,builtin,e1,e2,Builtin.min_,Builtin.min2,h]
 rw [this]
 exact hK _ _ (fun d' e'=>by cases e';exact hd _) (pD _ _)
theorem zCa {x:We} {t:Wc} {z:Nat} {Cs:List CU} (ht:P.underlying t=some (.slice (P.elem t))) (hx: ∀v W,(fct G x).p v W->(SF.row z Cs).p v W:=by exact fun _ _ h=>h) (hd: ∀W,(G d).p (.int .i64 (Cs.length:Nat)) W:=by exact fun _=>rfl):qB F m P w0 ops G ⟨some d, .call ⟨.builtin .len,#[x],#[t]⟩,ty,pos,aft,none⟩:=
 jV ht fun v W h=>by
  obtain ⟨A,c,e,_⟩:=hx v W h
  exact ⟨A,Cs.length,c,e,hd W⟩
end
section
variable {S:Nat->Prop} {F:Fence} {m:Nat} {P:Wf} {Q:Exit->Act->W8->Prop} {w0:W8} {K:List (Nat×KF)} {B:List Bx} {n:Nat} {ds:List Deferred} {a:Act} {w:W8}
end
theorem zEK {p:Nat->Prop}: ∀n,p n-> ∃s,p s/\ ∀k,k<s-> ¬p k:=by
 intro n
 induction n using Nat.strongRecOn with
 | _ n ih=>
  intro hn
  by_cases h: ∃k,k<n/\p k
  ·obtain ⟨k,hk,hp⟩:=h
   exact ih k hk hp
  ·exact ⟨n,hn,fun k hk hp=>h ⟨k,hk,hp⟩⟩
section
variable {S:Nat->Prop} {F:Fence} {m:Nat} {P:Wf} {Q:Exit->Act->W8->Prop} {w0:W8} {K:List (Nat×KF)} {B:List Bx} {n:Nat} {ds:List Deferred} {a:Act} {w:W8}
theorem zIe {σ:Type} {c:Code} (I:σ->Prop) (Kf:σ->List (Nat×KF)) (Bf:σ->List Bx) (Df:σ->List Deferred) (mu:σ->Nat) (x0:σ) (hI:I x0) (h0:StS S w0 (Kf x0) (Bf x0) n (Df x0) a w)
  (round: ∀x a w,I x->StS S w0 (Kf x) (Bf x) n (Df x) a w->c.wpIn F m P (Exit.then (fun a' w'=> ∃y,I y/\mu y<mu x/\StS S w0 (Kf y) (Bf y) n (Df y) a' w') Q) a w):(Code.loop c).wpIn F m P Q a w:=by
 have low: ∀a w,(∃k, ∃x,I x/\mu x=k/\StS S w0 (Kf x) (Bf x) n (Df x) a w)-> ∃k,(∃x,I x/\mu x=k/\StS S w0 (Kf x) (Bf x) n (Df x) a w)/\ ∀j,j<k-> ¬ ∃x,I x/\mu x=j/\StS S w0 (Kf x) (Bf x) n (Df x) a w:=
  fun a w ⟨k,hk⟩=>zEK k hk
 open Classical in
 refine wpIn_loop (fun a w=> ∃k, ∃x,I x/\mu x=k/\StS S w0 (Kf x) (Bf x) n (Df x) a w) (fun a w=>if h: ∃k, ∃x,I x/\mu x=k/\StS S w0 (Kf x) (Bf x) n (Df x) a w then Classical.choose (low a w h) else 0) ⟨_,x0,hI,rfl,h0⟩ ?_
 rintro a w hA
 have e0:=rF (low a w hA)
 obtain ⟨x,hx,hm,hst⟩:=e0.1
 refine Code.wpIn_mono ?_ (round x a w hx hst)
 intro e a' w' h
 cases e with
 |normal=>
  obtain ⟨y,h1,h2,h3⟩: ∃y,I y/\mu y<mu x/\StS S w0 (Kf y) (Bf y) n (Df y) a' w':=h
  have hA': ∃k, ∃x,I x/\mu x=k/\StS S w0 (Kf x) (Bf x) n (Df x) a' w':=⟨_,y,h1,rfl,h3⟩
  refine ⟨hA', ?_⟩
  simp only [dif_pos hA,dif_pos hA']
  have e1:=rF (low a' w' hA')
  have:Classical.choose (low a' w' hA')<=mu y:=Nat.not_lt.1 fun hlt=>e1.2 _ hlt ⟨y,h1,rfl,h3⟩
  omega
 |_=>exact h
theorem zJ5 {σ:Type} {c:Code} (t:Nat) (Cf:σ->CU) (I:σ->Prop) (Kf:σ->List (Nat×KF)) (mu:σ->Nat) (x0:σ) (hI:I x0) (h0:StS S w0 (Kf x0) B n ds a w) (hB:zGm B t (Cf x0)=B)
  (round: ∀x a w,I x->StS S w0 (Kf x) (zGm B t (Cf x)) n ds a w->c.wpIn F m P (Exit.then (fun a' w'=> ∃y,I y/\mu y<mu x/\StS S w0 (Kf y) (zGm B t (Cf y)) n ds a' w') Q) a w):(Code.loop c).wpIn F m P Q a w:=
 zIe I Kf (fun x=>zGm B t (Cf x)) (fun _=>ds) mu x0 hI (by rw [hB];exact h0) round
theorem zJ4 {σ:Type} {c:Code} (I:σ->Prop) (Kf:σ->List (Nat×KF)) (mu:σ->Nat) (x0:σ) (hI:I x0) (h0:StS S w0 (Kf x0) B n ds a w)
  (round: ∀x a w,I x->StS S w0 (Kf x) B n ds a w->c.wpIn F m P (Exit.then (fun a' w'=> ∃y,I y/\mu y<mu x/\StS S w0 (Kf y) B n ds a' w') Q) a w):(Code.loop c).wpIn F m P Q a w:=
 zIe I Kf (fun _=>B) (fun _=>ds) mu x0 hI h0 round
theorem StS.popB {x:Bx} (h:StS S w0 K (x::B) n ds a w):StS S w0 K B n ds a w:=⟨h.gr,h.size,h.nd,h.sl,h.bx.2,h.mks,h.so⟩
theorem StS.renew (h:St w0 K B n ds a w) (K':List (Nat×KF)) (hK: ∀q,q∈K'->q∈K∨ ∃g,q.2=KF.u g/\(q.1,KF.o g.tS)∈K):St w0 K' B n ds a w:=
 ⟨h.gr,h.size,h.nd,fun q hq=>by
  rcases hK q hq with h1|⟨g,e,h1⟩
  ·exact h.sl q h1
  ·have:=h.sl _ h1
   rw [e]
   exact g.us _ _ _ this (zK h.gr.below),h.bx,h.mks, .inr fun _ h=>h⟩
end
end Go.Proofs.Wd

namespace Go.Proofs.Wd
open Tryz
open Go.RowKit
section
variable {S:Nat->Prop} {w0:W8} {K:List (Nat×KF)} {B:List Bx} {n:Nat} {ds:List Deferred} {a:Act} {w:W8}
theorem zI {c:Prop} {f:SF} {v:Wb} {W:W8} (e:c) (h:(SF.imp c f).p v W):f.p v W:=h e
variable {F:Fence} {m:Nat} {P:Wf} {ops:Array Oper} {Q:Exit->Act->W8->Prop}
end
end Go.Proofs.Wd

namespace Go.Proofs.Wd
open Tryz
open Go.RowKit
structure NewB where
 i:Nat
 d:Nat
 e:Wc
 cs:List Wb
 f:SF
def SF.isIn (f:SF) (L:List (Nat×SF)) (d:Nat):Prop:=(d,f)∈L
def zMf (al:List NewB) (a:Act):Prop:= ∀q q',q∈al->q'∈al->q.i≠q'.i-> ∀b b',blk (a.tmps.getD q.d undef)=some b->blk (a.tmps.getD q'.d undef)=some b'->b≠b'
section
variable {S:Nat->Prop} {w0:W8} {K:List (Nat×KF)} {B:List Bx} {n:Nat} {ds:List Deferred} {a:Act} {w:W8} {F:Fence} {m:Nat} {P:Wf} {ops:Array Oper} {Q:Exit->Act->W8->Prop}
theorem zKX {te:Wc} {cs:List Wb} {W:W8} {C:CU} (hC: ∀W,C.p cs W) (hn:cs.all yA=true) (v:Wb) (w:W8) (h:(wQ W te cs).p v w):(wK W te C).p v w:=by
 obtain ⟨b,h1,h2,h3⟩:=h
 exact ⟨b,cs,h1,h2,h3,hC w,hn⟩
theorem StS.adoptA (h:StS S w0 K B n ds a w) {W:W8} {te:Wc} {C:CU} (r:Bool) (t:Nat) (hv:(wK W te C).p (a.tmps.getD t undef) w) (hW:BlS S w0 W) (hB: ∀y,y∈B->y.b<W.heap.size∨(r=true/\y.r=true)∨ ∀b,blk (a.tmps.getD t undef)=some b->y.b≠b): ∃b,W.heap.size<=b/\blk (a.tmps.getD t undef)=some b/\StS S w0 K (⟨t,te,C,b,r⟩::B) n ds a w:=by
 obtain ⟨b,cs,h1,h2,h3,h4,h5⟩:=hv
 refine ⟨b,h2,by rw [h1];rfl,h.gr,h.size,h.nd,h.sl,⟨⟨cs,h1, .inr (.inl (pK hW.size h2)),h3,h4,h5,fun y hy=> ?_⟩,h.bx⟩,h.mks,h.so⟩
 rcases hB y hy with e|e|e
 ·left
  show y.b≠b
  omega
 ·exact .inr e
 ·exact .inl (e b (by rw [h1];rfl))
end
end Go.Proofs.Wd

namespace Go.Proofs.Wd
open Tryz
set_option maxRecDepth 100000
open Go.RowKit Lb
def zTt (a b:Nat) (w:W8) (x y:Wb) (w':W8):Prop:= ∃p q:Nat,x= .int .u64 p/\y= .int .u64 q/\Nat.gcd p q=Nat.gcd a b/\p<18446744073709551616/\q<18446744073709551616/\Below w.heap.size w w'
theorem zKD {W:W8} {u v:Wb} (a b:Nat) (hu:u= .int .u64 (a:Int)) (hv:v= .int .u64 (b:Int)) (ha:a<18446744073709551616) (hb:b<18446744073709551616):Calls prog 79 #[u,v] W (Ret W (UF.eq (.int .u64 ((Nat.gcd a b:Nat):Int))).tS):=by
 subst hu
 subst hv
 have hmix:prog.follows .mixedOrders=true:=by kernel_rfl
 go_enter func79,ntmps79
 go_wp2
 go_loopw [0,1] (zTt a b W) (fun _ y _=>(intOf y).toNat)
 case atStart=>exact ⟨a,b,rfl,rfl,rfl,ha,hb,pD _ _⟩
 case round=>
  obtain ⟨p,q,rfl,rfl,hg,hp,hq,hB⟩:=hrel
  have HG:=hid hg
  clear hg
  by_cases h0:0<q
  ·have hq0:(q:Int)≠0:=by omega
   have hmod:(p:Int).tmod (q:Int)=((p % q:Nat):Int):=by rw [Int.tmod_eq_emod_of_nonneg oN,Int.natCast_emod]
   have hlt:p % q<q:=Nat.mod_lt _ h0
   obtain ⟨r,hr⟩: ∃r,p % q=r:=⟨_,rfl⟩
   rw [hr] at hmod hlt
   have HR:=hid hr
   clear hr
   go_wp2
   refine (wpIn_wide (n:=0)).1 ?_
   refine zY 100 (fun _=>True) hmix ?_
   refine zO (i:=0) (v:= ?vv1) kG kG rfl kG kG kG (fun _ _ _ h=>h) trivial ⟨.inl ⟨rfl, ?yy1⟩,fun _=>rfl⟩ ?_
   case yy1=>
    rintro wx _
    go_simp
    first|done|rfl
   refine zO (i:=1) (v:= ?vv2) kG kG rfl kG kG kG (fun _ _ _ h=>h) trivial ⟨.inl ⟨rfl, ?yy2⟩,fun _=>rfl⟩ ?_
   case yy2=>
    rintro wx _
    go_simp
    first|done|rfl
   refine zO (i:=2) (v:= ?vv3) kG kG rfl kG kG kG (fun _ _ _ h=>h) trivial ⟨.inl ⟨rfl, ?yy3⟩,fun _=>rfl⟩ ?_
   case yy3=>
    rintro wx _
    go_simp
    first|done|rfl
   refine zO (i:=3) (v:= .int .u64 (r:Nat)) kG kG rfl kG kG kG (fun _ _ _ h=>h) trivial ⟨.inl ⟨rfl, ?y3⟩,fun _=>rfl⟩ ?_
   case y3=>
    rintro wx _
    go_simp
    omega
   refine zAh (i:=4) kG rfl (fun K hK=> ?_)
   go_simp
   refine hK _ _ (.inr trivial) ?_
   clear hK K
   refine zAh (i:=5) kG rfl (fun K hK=> ?_)
   go_simp
   refine hK _ _ (.inr trivial) ?_
   clear hK K
   refine zB2 kG ?_
   go_wp2
   go_roundw
   case rel=>exact ⟨q,r,rfl,by go_num,by rw [<-HG.out, <-HR.out,Nat.gcd_comm p q,Nat.gcd_rec q p,Nat.gcd_comm],hq,by omega,hB.drew⟩
   case measure=>simp [intOf];omega
  ·obtain rfl:q=0:=by omega
   go_wp2
   go_ret
   have:=HG.out
   rw [Nat.gcd_zero_right] at this
   subst this
   exact ⟨_,rfl,rfl,hB⟩
attribute [local go_sem] Oper.semAt_some yX z4
theorem zTK {W:W8} (k:Int) (h: -9223372036854775808<=k/\k<=9223372036854775807):Calls prog 51 #[.int .i64 k] W (zGp W k):=
 (zIg k h.1 h.2 W).mono fun _ _=>qA.v
theorem zSq {W:W8} {m:Nat} {v:Wb} {k:Int} (h:UV W m v k) (hm:m<=90000):Calls prog 61 #[v] W (zGp W (-k)):=by
 obtain ⟨s,A,n,c,l,rfl,h1,h2,h3,rfl⟩:=h
 exact (zGL s A n c l W h1 h2 oN).mono fun _ _=>qA.v
theorem zFL {W:W8} {m:Nat} {v:Wb} {k:Int} (h:UV W m v k) (hm:m<=90000):Calls prog 58 #[v] W (zGp W k):=by
 obtain ⟨s,A,n,c,l,rfl,h1,h2,h3,rfl⟩:=h
 exact (zAc s A n c l W h1 h2 oN).mono fun _ _=>qA.v
theorem zMZ {W:W8} {m:Nat} {v:Wb} {k:Int} (h:UV W m v k) (hm:m<=90000):Calls prog 37 #[v] W fun e w'=>e= .returned (.int .i64 k.sign)/\Below W.heap.size W w':=by
 obtain ⟨s,A,n,c,l,rfl,h1,h2,h3,rfl⟩:=h
 exact zJq s A n c l W h1 h2 oN
theorem zPz {W:W8} {m:Nat} {v v':Wb} {k k':Int} (h:UV W m v k) (h':UV W m v' k') (hm:m<=90000):Calls prog 39 #[v,v'] W (zGp W (k - k')):=by
 obtain ⟨s,A,n,c,l,rfl,h1,h2,h3,rfl⟩:=h
 obtain ⟨s',A',n',c',l',rfl,h1',h2',h3',rfl⟩:=h'
 exact (zKH s A n c l s' A' n' c' l' W h1 h2 h1' h2' m h3 h3' hm).mono fun _ _=>qA.v
theorem zQ4 {W:W8} (k:Int) (h: -9223372036854775808<=k/\k<=9223372036854775807):Calls prog 47 #[.int .i64 k] W (zGp W k):=
 (zIB k h.1 h.2 W).mono fun _ _=>qA.v
theorem zPB {W:W8} {m:Nat} {v:Wb} {ks:List Int} {k:Int} (h:ISV W m v ks) (hm:m<=2000) (hn:ks.length<=1000) (hk:ks.sum=k):Calls prog 60 #[v] W (zGp W k):=by
 obtain ⟨is,h1,h2⟩:=h
 have hl:is.length=ks.length:=by rw [<-h2,List.length_map]
 obtain ⟨A,c,e,h3,h4,h5⟩:=h1
 have hb: ∀j,j<=is.length->(zDi is j).natAbs<BB^(m+1000):=by
  intro j hj
  have key: ∀j,Bd (zDi is j) (m+j):=by
   intro j
   induction j with
   |zero=>exact Nat.pow_pos yU
   |succ j ih=>
    have e1:zDi is (j+1)=zDi is j+zDv is j:=rfl
    rw [e1]
    exact (ih.add ((show Bd (zDv is j) m from zF6 h5 j).mono oN)).mono oN
  exact (key j).mono oN
 have:=zPC (m+1000) (⟨A,c,e,h3,h4,h5⟩:IS W m v is) oN oN oN hb
 rw [zEN is is.length (pE _),List.take_length,h2,hk] at this
 exact this
theorem zFM {W:W8} {m:Nat} {v:Wb} {ks:List Int} {k:Int} (h:ISV W m v ks) (hn:m*ks.length+m+1<=40000) (hk:ks.foldl (·*·) 1=k) (hl:ks.length<=1000):Calls prog 40 #[v] W (zGp W k):=by
 obtain ⟨is,h1,h2⟩:=h
 have hl2:is.length=ks.length:=by rw [<-h2,List.length_map]
 obtain ⟨A,c,e,h3,h4,h5⟩:=h1
 have:=zPA (m*ks.length+m+1) (⟨A,c,e,h3,h4,h5⟩:IS W m v is) oN oN oN (fun k hk=>(zF8 h5 k).mono (by
  have:m*k<=m*ks.length:=Nat.mul_le_mul_left _ oN
  omega))
 rw [zDw is is.length (pE _),List.take_length,h2,hk] at this
 exact this
section
variable {F:Fence} {n:Nat} {P:Wf} {ops:Array Oper} {Q:Exit->Act->W8->Prop}
def zCn (ops:Array Oper) (i:Nat):Array Bool:=((List.range ops.size).map fun j=>zCF ops ops.size j i).toArray
theorem zNz {i:Nat} {listed:Array Bool} (hs: ∀j,j<ops.size->zCF ops ops.size j i=true->listed.getD j true=true) (h:Region.free .any ops (zCn ops i) i=true):Region.free .any ops listed i=true:=by
 unfold Region.free at h ⊢
 split at h
 ·exact h
 ·refine nZ.2 fun j hj=> ?_
  have h1:=nZ.1 h j hj
  have h2:(zCn ops i).getD j true=zCF ops ops.size j i:=by
   unfold zCn
   rw [pG]
   simp [pA.1 hj]
  rw [h2] at h1
  cases hc:zCF ops ops.size j i with
  |true=>rw [hs j (pA.1 hj) hc,Bool.or_true,rG]
  |false=>
   rw [hc,Bool.or_false] at h1
   rw [Bool.or_assoc,Bool.or_comm (listed.getD j true), <-Bool.or_assoc,h1,rG]
theorem zLC {i:Nat} {o:Oper} {a:Act} {w:W8} {K:Act->W8->Prop} (ho:ops[i]?=some o) (hfl:zDd ops i=true) (h:wpOpIn F n P ops (qL Q) i K a w): ∃d v,o.dst=some d/\j9 P ops (fun _=>True) o v a/\K (a.put (some d) v) w:=by
 unfold zDd at hfl
 rw [ho] at hfl
 unfold wpOpIn at h
 rw [ho] at h
 split at hfl
 ·rename_i d x ty pos aft he
  cases he
  refine ⟨d,a.eval x,rfl,⟨.inl ⟨rfl,fun w _=>rfl⟩,fun w=>rfl⟩, ?_⟩
  have h2:=h.2
  rw [pF _ _ _ (fun _ e=>by cases e)] at h2
  exact h2
 ·rename_i d x j ty pos aft he
  cases he
  have h2:=h.2
  rw [pF _ _ _ (fun _ e=>by cases e)] at h2
  cases hrun:(Instr.extract (a.eval x) j).run P w with
  |halt y w'=>
   have he:(execOp a.eval ⟨some d, .extract x j,ty,pos,aft,none⟩).run P w= .halt y w':=by simp [execOp,hrun]
   rw [he] at h2
   cases y<;>exact h2.elim
  | ok v w'=>
   have hw:w'=w:=by
    unfold Instr.extract at hrun
    split at hrun
    ·split at hrun
     ·simp at hrun;exact hrun.2.symm
     ·simp at hrun
    ·simp at hrun
   subst hw
   have he:(execOp a.eval ⟨some d, .extract x j,ty,pos,aft,none⟩).run P w'= .ok (.value v) w':=by simp [execOp,hrun]
   rw [he] at h2
   exact ⟨d,v,rfl,⟨.inl ⟨rfl,fun w _=>by simp [execOp,zB6 _ _ _ w hrun]⟩,fun w=>rfl⟩,h2⟩
 ·cases hfl
theorem zJf {CW:W8->Prop} {i:Nat} {o:Oper} {v:Wb} {a:Act} {w:W8} {K:Act->W8->Prop} (ho:ops[i]?=some o) (hpl:zAd ops=true) (hy:j9 P ops CW o v a) (hw:CW w) (h:wpOpIn F n P ops Q i K a w):K (a.put o.dst v) w:=by
 unfold wpOpIn at h
 simp only [ho] at h
 rcases hy.1 with ⟨hw',hv⟩|⟨hw',rfl⟩
 ·simp only [hw',if_true,Oper.wpIn,pF _ _ _ (zBT hpl ho),hv w hw,Oper.uponIn] at h
  exact h.2
 ·simp only [hw',Bool.false_eq_true,if_false] at h
  exact h.2
end
def inL:List Nat->Nat->Bool
 | [],_=>false
 |k::l,i=>bif Nat.beq k i then true else inL l i
theorem zEP (l m:List Nat) (i:Nat):inL (l++m) i=(inL l i||inL m i):=by
 induction l with
 |nil=>rfl
 |cons k l ih=>
  show (bif Nat.beq k i then true else inL (l++m) i)=((bif Nat.beq k i then true else inL l i)||inL m i)
  cases Nat.beq k i with
  |true=>rfl
  |false=>exact ih
theorem zEO {l:List Nat} {i:Nat} (h:inL l i=true):i∈l:=by
 induction l with
 |nil=>cases h
 |cons k l ih=>
  have h:(bif Nat.beq k i then true else inL l i)=true:=h
  cases e:Nat.beq k i with
  |true=>rw [pY e];exact rH ..
  |false=>rw [e] at h;exact rI _ (ih h)
theorem zFo {l:List Nat} {i:Nat} (h:i∈l):inL l i=true:=by
 induction l with
 |nil=>cases h
 |cons k l ih=>
  show (bif Nat.beq k i then true else inL l i)=true
  rcases pL.1 h with rfl|h
  ·rw [rE];rfl
  ·rw [ih h];cases Nat.beq k i<;>rfl
def lst (n:Nat) (D:List Nat):Array Bool:=((List.range n).map (inL D)).toArray
theorem zD8 (n:Nat) (D:List Nat):(lst n D).size=n:=by simp [lst]
theorem zAM {n i:Nat} {D:List Nat} {d:Bool} (h:i<n):(lst n D).getD i d=inL D i:=by simp [lst,h]
theorem zP1 {n i:Nat} {D:List Nat} {d:Bool} (h:n<=i):(lst n D).getD i d=d:=by
 rw [pG,rA (by rw [zD8];exact h)]
 rfl
theorem zDK {n i:Nat} {D:List Nat} (h:(lst n D).getD i true=false):i<n/\inL D i=false:=by
 rcases pT i n with g|g
 ·rw [zAM g] at h;exact ⟨g,h⟩
 ·rw [zP1 g] at h;cases h
theorem zEI {l:Array Bool} {n:Nat} {D:List Nat} (hs:l.size=n) (h: ∀i,i<n->l.getD i false=inL D i):l=lst n D:=by
 refine Array.ext (by rw [hs,zD8]) fun i h1 h2=> ?_
 have:=h i oN
 rw [pG,rB h1] at this
 have e:l[i]=inL D i:=this
 rw [e]
 simp [lst]
theorem zLd {n i:Nat} {D:List Nat} (hi:i<n):(lst n D).setIfInBounds i true=lst n (i::D):=by
 refine zEI (by simp [lst]) fun j hj=> ?_
 show _=(bif Nat.beq i j then true else inL D j)
 by_cases e:i=j
 ·subst e
  rw [pG,Array.getElem?_setIfInBounds_self_of_lt (by rw [zD8];exact hi),rE]
  rfl
 ·rw [pC false e,zAM hj]
  cases h:Nat.beq i j with
  |true=>exact absurd (pY h) e
  |false=>rfl
def zQI (ops:Array Oper) (D fl D':List Nat):Bool:=(List.range ops.size).all fun j=>inL D' j||(List.range ops.size).all fun i=> !inL D' i||inL fl i||inL D i||zCF ops ops.size i j
section
variable {F:Fence} {n:Nat} {P:Wf} {ops:Array Oper} {Q:Exit->Act->W8->Prop}
variable {A:Nat->Bool} {E:Nat->Wb->W8->Prop} {C:W8->Prop} {a0:Act}
theorem zSJ {D D':List Nat} {z:Nat} (fl:List Nat) (hpl:zAd ops=true) (hns:Region.noSelect ops=true) (hzs:ops.size<=z) (CW:W8->Prop) (hCW: ∀w,C w->CW w) (hfree: ∀i,inL D i=false->inL D' i=true->inL fl i=true->Region.free .any ops (zCn ops i) i=true)
  (hfk: ∀i,inL D' i=true->inL fl i=true->(lst ops.size D).getD i true=false-> ∀o,ops[i]?=some o-> ∀a w,FlowB ops (lst ops.size D) A E C a0 (fun j=>(lst ops.size D).getD j true=false/\ ∃e∈o.after,Region.binds .any e=true/\e.on=j) a w-> ∃v,j9 P ops CW o v a)
  (hear:zA3 ops=true) (htl:zQI ops D fl D'=true) (hap:qS ops=true) (hfr:jP ops a0.tmps.size=true) (hcl':zCG ops (lst ops.size D')) (hC: ∀w w',C w->Below w.heap.size w w'->C w') (hE: ∀i v w w',E i v w->Below w.heap.size w w'->E i v w')
  (hspec: ∀i,inL D' i=true->(lst ops.size D).getD i true=false-> ∀o,ops[i]?=some o-> ∀a w,FlowB ops (lst ops.size D) A E C a0 (fun j=>(lst ops.size D).getD j true=false/\ ∃e∈o.after,Region.binds .any e=true/\e.on=j) a w-> ∀K:Act->W8->Prop,(∀v w',E i v w'->Below w.heap.size w w'->(A i=true-> ∀b,blk v=some b->w.heap.size<=b/\b<w'.heap.size)->K (a.put o.dst v) w')->wpOpIn F n P ops (qL Q) i K a w)
  (hfin: ∀a w,FlowB ops (lst ops.size D) A E C a0 (fun i=>inL D' i=true/\(lst ops.size D).getD i true=false) a w->jJ F n P .any ops z CW (qL Q) ((lst ops.size D').count false) (lst ops.size D') a w):
  ∀(fuel:Nat) (listed:Array Bool) (a:Act) (w:W8),listed.count false=fuel->listed.size=ops.size->(∀i,i<ops.size->inL D' i=false->listed.getD i false=false)->zCG ops listed->(∀i,i<ops.size->inL D i=true->listed.getD i false=true)->
   FlowB ops (lst ops.size D) A E C a0 (fun i=>(lst ops.size D).getD i true=false/\listed.getD i false=true) a w->jJ F n P .any ops z CW (qL Q) fuel listed a w:=by
 intro fuel
 induction fuel with
 | zero=>
  intro listed a w hc hs hlate hcl hsub hf
  have hno: ∀i,listed.getD i true=true:=fun i=>by
   cases hg:listed.getD i true with
   |true=>rfl
   |false=>have:=jK hg;omega
  have hall: ∀i,i<ops.size->listed.getD i false=true:=fun i hi=>by
   have h1:=hno i
   have hlt:i<listed.size:=by omega
   simp [hlt] at h1 ⊢
   exact h1
  have hl:listed=lst ops.size D':=zEI hs fun i hi=>by
   rw [hall i hi]
   cases h:inL D' i with
   |true=>rfl
   |false=>have:=hlate i hi h;rw [hall i hi] at this;cases this
  have:=hfin a w (hf.mono fun i hi=>⟨hi.2,hall i (zDK hi.2).1⟩)
  rw [<-hl,hc] at this
  exact this
 | succ fuel ih=>
  intro listed a w hc hs hlate hcl hsub hf
  by_cases hall: ∀i,i<ops.size->inL D' i=true->listed.getD i false=true
  ·have hl:listed=lst ops.size D':=zEI hs fun i hi=>by
    cases h:inL D' i with
    |true=>exact hall i hi h
    |false=>exact hlate i hi h
   have:=hfin a w (hf.mono fun i hi=>⟨hi.2,hall i (zDK hi.2).1 hi.1⟩)
   rw [<-hl,hc] at this
   exact this
  ·simp only [Classical.not_forall] at hall
   obtain ⟨u0,hu0l,hu0p,hu0⟩:=hall
   obtain ⟨u,⟨hul,hup,hu⟩,hmin⟩:=zEK (p:=fun u=>u<ops.size/\inL D' u=true/\ ¬listed.getD u false=true) u0 ⟨hu0l,hu0p,hu0⟩
   have hlt:u<listed.size:=by omega
   have hu':listed.getD u true=false:=by
    simp [hlt] at hu ⊢
    exact hu
   have hl0u:(lst ops.size D).getD u true=false:=by
    rw [zAM hul]
    cases hg:inL D u with
    |false=>rfl
    |true=>exact absurd (hsub u hul hg) hu
   have hsome: ∀i,listed.getD i true=false->Region.ready .any ops listed≠ []:=by
    intro i
    induction i using Nat.strongRecOn with
    | _ i ihi=>
     intro hi hnil
     have hlt:i<listed.size:=by
      rcases pT i listed.size with e|e
      ·exact e
      ·simp [rA e] at hi
     have ho:ops[i]?=some (ops[i]'(by rw [<-hs];exact hlt)):=rB _
     by_cases hall: ∀e∈(ops[i]'(by rw [<-hs];exact hlt)).after,Region.binds .any e=true->listed.getD e.on false=true
     ·have hm:i∈Region.ready .any ops listed:=rC.2 ⟨hi,_,ho,hall⟩
      rw [hnil] at hm
      cases hm
     ·simp only [Classical.not_forall] at hall
      obtain ⟨e,he,hb,hg⟩:=hall
      have hel:=zAP hear ho he hb
      refine ihi e.on hel ?_ hnil
      have hlt2:e.on<listed.size:=by omega
      simp [hlt2] at hg ⊢
      exact hg
   by_cases hfu:inL fl u=true
   ·have hou:ops[u]?=some ops[u]:=rB hul
    have hdone: ∀e∈ops[u].after,Region.binds .any e=true->listed.getD e.on false=true:=fun e he hb=>by
     have hel:=zAP hear hou he hb
     have hpe:inL D' e.on=true:=by
      have:=hcl' u _ (by rw [zAM hul];exact hup) hou e he hb
      rwa [zAM oN] at this
     exact Classical.byContradiction fun hc=>hmin e.on hel ⟨by omega,hpe,hc⟩
    have hrd:(Region.ready .any ops listed).contains u=true:=pZ.2 (rC.2 ⟨hu',_,hou,hdone⟩)
    have hfre:=hfree u (zDK hl0u).2 hup hfu
    obtain ⟨v0,hy⟩:=hfk u hup hfu hl0u _ hou a w (hf.mono fun j hj=>(by
     obtain ⟨hj0,e,he,hb,rfl⟩:=hj
     exact ⟨hj0,hdone e he hb⟩))
    have hw:=hspec u hup hl0u _ hou a w (hf.mono fun j hj=>(by
     obtain ⟨hj0,e,he,hb,rfl⟩:=hj
     exact ⟨hj0,hdone e he hb⟩)) (fun a' w'=> ∃v,a'=a.put ops[u].dst v/\E u v w'/\Below w.heap.size w w'/\(A u=true-> ∀b,blk v=some b->w.heap.size<=b/\b<w'.heap.size)) (fun v w' hv hb hA=>⟨v,rfl,hv,hb,hA⟩)
    obtain ⟨v,hpe,hv,hb,hA⟩:=zJf hou hpl hy (hCW _ hf.at_.cls) hw
    refine zO (i:=u) (v:=v0) hpl (by unfold zBp;rw [rA hzs]) hou hns (zNz (fun j hj hc=>(by
     have h9:=zAQ hcl _ j u _ hou hdone hc
     have g:j<listed.size:=by omega
     simp [g] at h9 ⊢
     exact h9)) hfre) hrd (fun _ _ _ h=>h) (hCW _ hf.at_.cls) hy ?_
    rw [hpe]
    refine ih (listed.setIfInBounds u true) (a.put ops[u].dst v) w ?_ (by simpa using hs) (fun j hj hjp=> ?_) (fun j oj hj hoj e he hbe=> ?_) (fun j hj hjl=> ?_) ((hf.put hap hfr hC hE hou hl0u hv hb hA).mono fun j hj=> ?_)
    ·have:=jK hu'
     omega
    ·rw [pC false (fun e=>by subst e;rw [hup] at hjp;cases hjp)]
     exact hlate j hj hjp
    ·by_cases e2:j=u
     ·subst e2
      rw [hou] at hoj
      cases hoj
      by_cases e3:e.on=j
      ·rw [e3];exact hj
      ·rw [pC false (Ne.symm e3)]
       exact hdone e he hbe
     ·rw [pC false (Ne.symm e2)] at hj
      have:=hcl j oj hj hoj e he hbe
      by_cases e3:e.on=u
      ·rw [e3]
       simp [hlt]
      ·rw [pC false (Ne.symm e3)]
       exact this
    ·by_cases e3:j=u
     ·rw [e3];simp [hlt]
     ·rw [pC false (Ne.symm e3)]
      exact hsub j hj hjl
    ·by_cases e:j=u
     ·exact .inr e
     ·left
      rw [pC false (Ne.symm e)] at hj
      exact hj
   ·refine ⟨fun hnil=>(hsome u hu' hnil).elim,fun i hi=> ?_⟩
    obtain ⟨hun,o,ho,hall⟩:=rC.1 hi
    have hil:=(pM.1 ho).1
    have hl0:(lst ops.size D).getD i true=false:=by
     rw [zAM hil]
     cases hg:inL D i with
     |false=>rfl
     |true=>
      have:=hsub i hil hg
      have hlt3:i<listed.size:=by omega
      simp [hlt3] at hun
      simp [hlt3] at this
      rw [this] at hun
      cases hun
    have hip:inL D' i=true:=by
     cases hg:inL D' i with
     |true=>rfl
     |false=>
      exfalso
      have h1:=nZ.1 htl i (pA.2 hil)
      rw [hg,Bool.false_or] at h1
      have h2:=nZ.1 h1 u (pA.2 hul)
      simp only [Bool.or_eq_true,pN] at h2
      rcases h2 with ((h2|h2)|h2)|h2
      ·rw [hup] at h2;cases h2
      ·exact hfu h2
      ·exact hu (hsub u hul h2)
      ·exact hu (zAQ hcl _ u i o ho hall h2)
    refine hspec i hip hl0 o ho a w (hf.mono fun j hj=> ?_) _ fun v w' hv hb hA=>⟨.inr (hCW _ (hC _ _ hf.at_.cls hb)), ?_⟩
    ·obtain ⟨hj0,e,he,hb,rfl⟩:=hj
     exact ⟨hj0,hall e he hb⟩
    ·refine ih (listed.setIfInBounds i true) (a.put o.dst v) w' ?_ (by simpa using hs) (fun j hj hjp=> ?_) (fun j oj hj hoj e he hbe=> ?_) (fun j hj hjl=> ?_) ((hf.put hap hfr hC hE ho hl0 hv hb hA).mono fun j hj=> ?_)
     ·have:=jK hun
      omega
     ·rw [pC false (fun e=>by subst e;rw [hip] at hjp;cases hjp)]
      exact hlate j hj hjp
     ·by_cases e2:j=i
      ·subst e2
       rw [ho] at hoj
       cases hoj
       by_cases e3:e.on=j
       ·rw [e3];exact hj
       ·rw [pC false (Ne.symm e3)]
        exact hall e he hbe
      ·rw [pC false (Ne.symm e2)] at hj
       have:=hcl j oj hj hoj e he hbe
       by_cases e3:e.on=i
       ·rw [e3]
        have hlt:i<listed.size:=by omega
        simp [hlt]
       ·rw [pC false (Ne.symm e3)]
        exact this
     ·by_cases e3:j=i
      ·have hlt:i<listed.size:=by omega
       rw [e3];simp [hlt]
      ·rw [pC false (Ne.symm e3)]
       exact hsub j hj hjl
     ·by_cases e:j=i
      ·exact .inr e
      ·left
       rw [pC false (Ne.symm e)] at hj
       exact hj
end
def zJL (F:Fence) (m:Nat) (P:Wf) (ops:Array Oper) (CW:W8->Prop) (Q:Exit->Act->W8->Prop) (D:List Nat) (a:Act) (w:W8):Prop:=
 jJ F m P .any ops ops.size CW (qL Q) ((lst ops.size D).count false) (lst ops.size D) a w
def Gr (CW:W8->Prop) (w:W8):Prop:= ∀w',Below w.heap.size w w'->CW w'
def FdC (P:Wf) (CW:W8->Prop) (w:W8) (ops:Array Oper) (G:Nat->SF) (o:Oper):Prop:=
 ∀(b:Act) (W:W8),Below w.heap.size w W->(∀t,t∈looks ops o->(G t).p (b.tmps.getD t undef) W)-> ∃v,j9 P ops CW o v b
def zNm (ops:Array Oper) (D':List Nat) (G:Nat->SF) (t:Nat):SF:=bif (List.range ops.size).any (fun i=> !inL D' i&&(zX ops i==some t)) then SF.any else G t
def zRL (ops:Array Oper) (fl D is:List Nat) (n:Nat) (keys ts:List Nat):Bool:=
 qS ops&&jP ops n&&zAd ops&&Region.noSelect ops&&zA3 ops&&zAL keys&&
 zDB ops (lst ops.size D)&&zDB ops (lst ops.size (is++D))&&
 keys.all (fun t=>is.any fun i=> !inL D i&&(zX ops i==some t))&&
 ts.all (fun t=>(List.range ops.size).all fun i=>inL D i|| !(zX ops i==some t))&&
 is.all (fun i=>decide (i<ops.size)&& !inL D i&&(!inL fl i||Region.free .any ops (zCn ops i) i)&&match ops[i]? with
  |none=>true
  |some o=>(looks ops o).all fun t=>(List.range ops.size).all fun j=>inL D j|| !(zX ops j==some t)||o.after.any fun e=>Region.binds .any e&&e.on==j)&&
 zQI ops D fl (is++D)
def zJj (ops:Array Oper) (is:List Nat):List Oper:=is.filterMap fun i=>ops[i]?
theorem zDW {F:Fence} {m:Nat} {P:Wf} {w0:W8} {ops ops':Array Oper} {G:Nat->SF}: ∀{is:List Nat},Obs F m P w0 ops' G (zJj ops is)-> ∀i,i∈is-> ∀o,ops[i]?=some o->qB F m P w0 ops' G o
 | [],_,i,hi,_,_=>by cases hi
 | k::is,h,i,hi,o,ho=>by
  unfold zJj at h
  rw [List.filterMap_cons] at h
  cases hk:ops[k]? with
  |none=>
   rw [hk] at h
   rcases pL.1 hi with rfl|hi
   ·rw [ho] at hk;cases hk
   ·exact zDW h i hi o ho
  |some ok=>
   rw [hk] at h
   rcases pL.1 hi with rfl|hi
   ·rw [ho] at hk;cases hk;exact h.1
   ·exact zDW h.2 i hi o ho
theorem zPp {F:Fence} {m:Nat} {P:Wf} {ops:Array Oper} {Q:Exit->Act->W8->Prop} {CW:W8->Prop} {G:Nat->SF} {n:Nat} {ds:List Deferred} {a:Act} {w:W8} {D:List Nat} (fl is ts:List Nat) (al:List NewB) (L:List (Nat×SF))
  (hcw:Gr CW w) (hchk:zRL ops fl D is n (L.map (·.1)) ts=true) (h:At w G n ds a w) (hobs:Obs F m P w ops (upd G L) (zJj ops is))
  (hal: ∀q,q∈al->q.i∈is/\q.f.isIn L q.d/\(∃ty pos aft,ops[q.i]?=some ⟨some q.d, .alloc q.e,ty,pos,aft,none⟩)/\zeroCells P q.e=some q.cs/\ ∀v W,(wQ w q.e q.cs).p v W->q.f.p v W)
  (hfd: ∀i o,inL fl i=true->ops[i]?=some o->FdC P CW w ops (upd G L) o)
  (hfin: ∀a w',At w (zNm ops (is++D) (upd G L)) n ds a w'->zMf al a->zJL F m P ops CW Q (is++D) a w'):zJL F m P ops CW Q D a w:=by
 unfold zRL at hchk
 simp only [pB] at hchk
 obtain ⟨⟨⟨⟨⟨⟨⟨⟨⟨⟨⟨hap,hfr⟩,hpl⟩,hns⟩,hear⟩,hndk⟩,hc1⟩,hc2⟩,hkeys⟩,hts⟩,his⟩,htl⟩:=hchk
 have hisD: ∀i,inL (is++D) i=true->inL D i=false->i∈is:=fun i h1 h2=>by
  rw [zEP,h2,Bool.or_false] at h1
  exact zEO h1
 have hkey: ∀t,(∀j,inL D j=false->j∈is->zX ops j≠some t)->upd G L t=G t:=fun t ht=>by
  refine zAl ?_
  cases hc:(L.map (·.1)).contains t with
  |false=>rfl
  |true=>
   exfalso
   obtain ⟨i,hi,he⟩:=pP.1 (nZ.1 hkeys t (pZ.1 hc))
   simp only [pB,pN,pI] at he
   exact ht i he.1 hi he.2
 have hst: ∀t,(∀j,inL D j=false->j∈is->zX ops j≠some t)->(upd G L t).p (a.tmps.getD t undef) w:=fun t ht=>by rw [hkey t ht];exact h.sl t
 have hspecs: ∀i,i∈is->i<ops.size/\(inL fl i=true->Region.free .any ops (zCn ops i) i=true)/\ ∀o,ops[i]?=some o-> ∀t,t∈looks ops o-> ∀j,inL D j=false->zX ops j=some t->(o.after.any fun e=>Region.binds .any e&&e.on==j)=true:=fun i hi=>by
  have h1:=nZ.1 his i hi
  simp only [pB,pJ] at h1
  refine ⟨h1.1.1.1,fun hf=>(by have h2:=h1.1.2;rw [hf] at h2;simpa using h2),fun o ho t ht j hj hjd=> ?_⟩
  have h2:=h1.2
  rw [ho] at h2
  have hlt:j<ops.size:=by
   rcases pT j ops.size with e|e
   ·exact e
   ·rw [zX,rA e] at hjd;cases hjd
  have h3:=nZ.1 (nZ.1 h2 t ht) j (pA.2 hlt)
  rw [hj,hjd] at h3
  simpa using h3
 have hnd: ∀t,(∀j,inL D j=false->zX ops j≠some t)->zBr ops (lst ops.size D) t=false:=fun t ht=>by
  cases hd:zBr ops (lst ops.size D) t with
  |false=>rfl
  |true=>
   exfalso
   unfold zBr at hd
   obtain ⟨i,hi,hp⟩:=pP.1 hd
   simp only [pB,pI,pN] at hp
   have hp1:=hp.1
   rw [zAM (pA.1 hi)] at hp1
   exact ht i hp1 (by rw [<-zD9];exact hp.2)
 -- what an operation looks at holds where those it waits for have run
 have hlook: ∀i o,i∈is->ops[i]?=some o-> ∀b W,FlowB ops (lst ops.size D) (fun i=>al.any fun q=>q.i==i) (fun i v W=> ∀o,ops[i]?=some o-> ∀d,o.dst=some d->(upd G L d).p v W) (fun W=>Below w.heap.size w W) a (fun j=>(lst ops.size D).getD j true=false/\ ∃e∈o.after,Region.binds .any e=true/\e.on=j) b W-> ∀t,t∈looks ops o->(upd G L t).p (b.tmps.getD t undef) W:=fun i o hi ho b W hf t ht=>by
  by_cases hex: ∃j,inL D j=false/\zX ops j=some t
  ·obtain ⟨j,hjD,hj⟩:=hex
   have h1:=(hspecs i hi).2.2 o ho t ht j hjD hj
   obtain ⟨x,hx,he⟩:=Array.any_eq_true.1 h1
   simp only [pB,pI] at he
   cases hoj:ops[j]? with
   |none=>rw [zX,hoj] at hj;cases hj
   |some oj=>
    rw [qZ hoj] at hj
    exact hf.at_.vals j oj t ⟨by rw [zAM (pM.1 hoj).1];exact hjD,_,Array.getElem_mem hx,he.1,he.2⟩ hoj hj oj hoj t hj
  ·have hno: ∀j,inL D j=false->zX ops j≠some t:=fun j h1 h2=>hex ⟨j,h1,h2⟩
   rw [hf.at_.keep t (hnd t hno)]
   exact (upd G L t).st _ _ _ (hst t (fun j hj _=>hno j hj)) hf.at_.cls
 have hno: ∀i, ¬((lst ops.size D).getD i true=false/\(lst ops.size D).getD i false=true):=fun i hi=>by
  have h1:=zDK hi.1
  have h2:=hi.2
  rw [zAM h1.1,h1.2] at h2
  cases h2
 refine zSJ (Q:=Q) (D:=D) (D':=is++D) (z:=ops.size) (a0:=a) (A:=fun i=>al.any fun q=>q.i==i) (E:=fun i v W=> ∀o,ops[i]?=some o-> ∀d,o.dst=some d->(upd G L d).p v W) (C:=fun W=>Below w.heap.size w W) fl hpl hns lr CW hcw ?hfree ?hfk hear htl hap (by rw [h.size];exact hfr) (zCk hc2) (fun W W' hC hb=>hC.trans (hb.mono hC.size)) (fun i v W W' hE hb o ho d hd=>(upd G L d).st _ _ _ (hE o ho d hd) hb) ?spec ?fin _ (lst ops.size D) a w rfl (zD8 _ _) (fun i hi hp=> ?_) (zCk hc1) (fun i hi hp=>by rw [zAM hi];exact hp) ⟨⟨pD _ _,rfl,rfl,fun _ _=>rfl,fun i o t hi=>(hno i hi).elim⟩,fun i o t b hi=>(hno i hi).elim,fun i j oi oj ti tj bi bj hi=>(hno i hi).elim⟩
 case hfree=>exact fun i hD hp hf=>(hspecs i (hisD i hp hD)).2.1 hf
 case hfk=>
  intro i hp hf hl o ho b W hfl
  have hi:=hisD i hp (zDK hl).2
  exact hfd i o hf ho b W hfl.at_.cls (hlook i o hi ho b W hfl)
 case spec=>
  intro i hp hl o ho b W hfl K hK
  have hi:=hisD i hp (zDK hl).2
  have hfj: ∀j g,zX ops j=some g->g<b.tmps.size:=fun j g hj=>by
   rw [hfl.at_.size,h.size]
   obtain ⟨oj,hoj,hdj⟩:=yZ hj
   exact y4 hfr hoj hdj
  by_cases hAi:(al.any fun q=>q.i==i)=true
  ·obtain ⟨q,hq,hqi⟩:=pP.1 hAi
   obtain rfl:q.i=i:=by simpa using hqi
   obtain ⟨_,hin,⟨ty,pos,aft,hop⟩,hz,hown⟩:=hal q hq
   rw [ho] at hop
   cases hop
   refine jT ho (show qB F m P W ops (fun _=>wQ W q.e q.cs) ⟨some q.d, .alloc q.e,ty,pos,aft,none⟩ from zIO hz) hfj (pD _ _) (fun t ht=>by cases ht) (fun v W' hv hb=> ?_)
   obtain ⟨b',rfl,h1,h2⟩:=hv q.d rfl
   refine hK _ W' (fun o' ho' d hd=> ?_) hb (fun _ b'' hb''=> ?_)
   ·rw [ho] at ho'
    cases ho'
    cases hd
    rw [zCH (q:=(q.d,q.f)) hndk hin]
    exact hown _ W' ⟨b',rfl,pK hfl.at_.cls.size h1,h2⟩
   ·cases hb''
    exact ⟨h1,(pM.1 h2).1⟩
  refine jT ho (zDW hobs i hi o ho) hfj hfl.at_.cls (hlook i o hi ho b W hfl) (fun v W' hv hb=>hK v W' (fun o' ho' d hd=>by rw [ho] at ho';cases ho';exact hv d hd) hb (fun e=>absurd e hAi))
 case fin=>
  intro b W hfl
  have hin': ∀q,q∈al->inL (is++D) q.i=true/\(lst ops.size D).getD q.i true=false:=fun q hq=>by
   have h1:=(hal q hq).1
   have h2:=nZ.1 his _ h1
   simp only [pB,pJ,pN] at h2
   exact ⟨by rw [zEP,zFo h1,rG],by rw [zAM h2.1.1.1];exact h2.1.1.2⟩
  refine hfin b W ⟨hfl.at_.cls,by rw [hfl.at_.size];exact h.size,by rw [hfl.at_.defers];exact h.nd,fun t=> ?_⟩ fun q q' hq hq' hne b1 b2 e1 e2=>(by
   obtain ⟨_,_,⟨_,_,_,g2⟩,_⟩:=hal q hq
   obtain ⟨_,_,⟨_,_,_,g2'⟩,_⟩:=hal q' hq'
   exact hfl.apart q.i q'.i _ _ q.d q'.d b1 b2 (hin' q hq) (hin' q' hq') hne (pP.2 ⟨q,hq,by simp⟩) (pP.2 ⟨q',hq',by simp⟩) g2 g2' rfl rfl e1 e2)
  unfold zNm
  cases hc:(List.range ops.size).any fun i=> !inL (is++D) i&&(zX ops i==some t) with
  |true=>trivial
  | false=>
   show (upd G L t).p _ _
   by_cases hex: ∃j,inL D j=false/\zX ops j=some t
   ·obtain ⟨j,hjD,hj⟩:=hex
    have hlt:j<ops.size:=by
     rcases pT j ops.size with e|e
     ·exact e
     ·rw [zX,rA e] at hj;cases hj
    have h1:=rQ.1 hc j (pA.2 hlt)
    rw [hj] at h1
    have hjp:inL (is++D) j=true:=by simpa using h1
    cases hoj:ops[j]? with
    |none=>rw [zX,hoj] at hj;cases hj
    |some oj=>
     rw [qZ hoj] at hj
     exact hfl.at_.vals j oj t ⟨hjp,by rw [zAM hlt];exact hjD⟩ hoj hj oj hoj t hj
   ·have hno: ∀j,inL D j=false->zX ops j≠some t:=fun j h1 h2=>hex ⟨j,h1,h2⟩
    rw [hfl.at_.keep t (hnd t hno)]
    exact (upd G L t).st _ _ _ (hst t (fun j hj _=>hno j hj)) hfl.at_.cls
 ·rw [zAM hi]
  cases h:inL D i with
  |false=>rfl
  |true=>rw [zEP,h,Bool.or_true] at hp;cases hp
section
variable {S:Nat->Prop} {w0:W8} {K:List (Nat×KF)} {B:List Bx} {n:Nat} {ds:List Deferred} {a:Act} {w:W8} {F:Fence} {m:Nat} {P:Wf} {ops:Array Oper} {Q:Exit->Act->W8->Prop} {wb:W8} {CW:W8->Prop} {D:List Nat}
theorem StS.later (h:StS S w0 K B n ds a w) {w':W8} (hb:Below w.heap.size w w'):StS S w0 K B n ds a w':=
 ⟨h.gr.trans hb,h.size,h.nd,fun q hq=>KF.us (h.sl q hq) (zK hb),h.bx.keep hb (zK hb) B (fun _ _=>rfl),zAW h.mks hb,h.so⟩
theorem zPo {id:Nat} (CW:W8->Prop) (hmix:P.follows .mixedOrders=true) (h:StS S w0 K B n ds a w) (fin: ∀w1,Below w.heap.size w w1->StS S w0 K B n ds a w1->zJL F m P ops CW Q [] a w1):(Code.region id ops true).wpIn F m P Q a w:=by
 refine zY ops.size CW hmix ?_
 have hd:Below w.heap.size w w.drew:=(pD _ w).drew
 have:=fin w.drew hd (h.later hd)
 unfold zJL at this
 have e:lst ops.size []=Array.replicate ops.size false:=by
  refine (zEI (by simp) fun i hi=> ?_).symm
  rw [pG,rY,if_pos hi]
  rfl
 rw [e,Array.count_replicate_self] at this
 exact this
theorem zMP (h:(List.range ops.size).all (inL D)=true) (hQ:Q .normal a w):zJL F m P ops CW Q D a w:=by
 have e:lst ops.size D=Array.replicate ops.size true:=(zEI (by simp) fun i hi=>by
  rw [pG,rY,if_pos hi]
  exact (nZ.1 h i (pA.2 hi)).symm).symm
 have hc:(lst ops.size D).count false=0:=by rw [e];simp [Array.count_replicate]
 unfold zJL
 rw [hc]
 refine ⟨List.eq_nil_iff_forall_not_mem.2 fun i hi=> ?_,hQ⟩
 have h1:=(rC.1 hi).1
 have h2:=zDK h1
 rw [nZ.1 h i (pA.2 h2.1)] at h2
 cases h2.2
theorem zKu {i:Nat} (hr:Region.ready .any ops (lst ops.size D)= [i]) (h:wpOpIn F m P ops (qL Q) i (fun a' w'=>CW w'/\zJL F m P ops CW Q (i::D) a' w') a w):zJL F m P ops CW Q D a w:=by
 have hi:=(rC.1 (show i∈Region.ready .any ops (lst ops.size D) by rw [hr];simp)).1
 have hlt:=(zDK hi).1
 have hc:=jK hi
 rw [zLd hlt] at hc
 unfold zJL
 rw [<-hc]
 refine ⟨fun e=>(by rw [hr] at e;cases e),fun j hj=> ?_⟩
 rw [hr] at hj
 obtain rfl:j=i:=by simpa using hj
 exact wpOpIn_mono (fun a' w' hh=>⟨.inr hh.1,by rw [zLd hlt];exact hh.2⟩) h
theorem zMO (fl is:List Nat) (al:List NewB) (L:List (Nat×Rw)) (hcw:Gr CW w) (h:StS S w0 K B n ds a w)
  (hchk:zRL ops fl D is n (L.map (·.1)) (K.map (·.1)++B.map (·.t))=true)
  (hobs:Obs F m P w ops (upd (zAD K B) (zR L)) (zJj ops is))
  (hal: ∀q,q∈al->q.i∈is/\q.f.isIn (zR L) q.d/\(∃ty pos aft,ops[q.i]?=some ⟨some q.d, .alloc q.e,ty,pos,aft,none⟩)/\zeroCells P q.e=some q.cs/\ ∀v W,(wQ w q.e q.cs).p v W->q.f.p v W)
  (hfd: ∀i o,inL fl i=true->ops[i]?=some o->FdC P CW w ops (upd (zAD K B) (zR L)) o)
  (hfin: ∀a' w',Below w.heap.size w w'->StS S w0 (zBq L++K) B n ds a' w'->(∀q,q∈zR L->q.2.p (a'.tmps.getD q.1 undef) w')->zMf al a'->zJL F m P ops CW Q (is++D) a' w'):zJL F m P ops CW Q D a w:=by
 have hchk0:=hchk
 unfold zRL at hchk0
 simp only [pB] at hchk0
 obtain ⟨⟨⟨⟨⟨⟨⟨⟨⟨⟨⟨hap,hfr⟩,hpl⟩,hns⟩,hear⟩,hndk⟩,hc1⟩,hc2⟩,hks⟩,hts⟩,his⟩,htl⟩:=hchk0
 have hkeys:(zR L).map (·.1)=L.map (·.1):=by simp [zR]
 have hsame: ∀t,t∈K.map (·.1)++B.map (·.t)-> ∀i,inL D i=false->zX ops i≠some t:=fun t ht i hD hi=>by
  have h1:=nZ.1 hts t ht
  obtain ⟨o,ho,_⟩:=yZ hi
  have h2:=nZ.1 h1 i (pA.2 (pM.1 ho).1)
  rw [hi,hD] at h2
  simp at h2
 have hkn: ∀t,t∈K.map (·.1)++B.map (·.t)->((zR L).map (·.1)).contains t=false:=fun t ht=>by
  cases hc:((zR L).map (·.1)).contains t with
  |false=>rfl
  |true=>
   exfalso
   have hm:=pZ.1 hc
   rw [hkeys] at hm
   obtain ⟨i,_,he⟩:=pP.1 (nZ.1 hks t hm)
   simp only [pB,pN,pI] at he
   exact hsame t ht i he.1 he.2
 have hno: ∀(l:List (Nat×SF)) t, ¬t∈K.map (·.1)++B.map (·.t)->upd (zAw K B a) l t=upd (zAD K B) l t:=fun l t ht=>by
  induction l with
  |nil=>exact if_neg ht
  |cons q l ih=>
   show (bif Nat.beq q.1 t then q.2 else upd _ l t)=(bif Nat.beq q.1 t then q.2 else upd _ l t)
   rw [ih]
 have hle: ∀t v W,(upd (zAw K B a) (zR L) t).p v W->(upd (zAD K B) (zR L) t).p v W:=fun t v W hh=>by
  by_cases ht:t∈K.map (·.1)++B.map (·.t)
  ·rw [zAl (hkn t ht)] at hh ⊢
   unfold zAw at hh
   rw [if_pos ht] at hh
   exact hh.1
  ·rwa [hno _ t ht] at hh
 have hA:=h.at
 refine zPp fl is (K.map (·.1)++B.map (·.t)) al (zR L) hcw (by rw [hkeys];exact hchk) (G:=zAw K B a) (ds:=ds) ⟨hA.gr,hA.size,hA.nd,fun t=> ?_⟩ ?_ hal (fun i o hi ho b W hb hr=>hfd i o hi ho b W hb (fun t ht=>hle t _ _ (hr t ht))) fun a' w' hA' hD=> ?_
 ·by_cases ht:t∈K.map (·.1)++B.map (·.t)
  ·unfold zAw;rw [if_pos ht];exact ⟨hA.sl t,rfl⟩
  ·unfold zAw;rw [if_neg ht];exact hA.sl t
 ·have hge: ∀t,(∃i,inL D i=false/\zX ops i=some t)-> ∀v W,(upd (zAD K B) (zR L) t).p v W->(upd (zAw K B a) (zR L) t).p v W:=fun t ⟨i,hD,hi⟩ v W hh=>by
   rw [hno _ t (fun ht=>hsame t ht i hD hi)]
   exact hh
  have hconv: ∀(i:Nat) (o:Oper),inL D i=false->ops[i]?=some o->qB F m P w ops (upd (zAD K B) (zR L)) o->qB F m P w ops (upd (zAw K B a) (zR L)) o:=by
   intro i o hD ho hg
   have hdst: ∀d,o.dst=some d-> ∃i,inL D i=false/\zX ops i=some d:=fun d hd=>⟨i,hD,by rw [qZ ho];exact hd⟩
   have hop:zMe F m P w (upd (zAD K B) (zR L)) o->zMe F m P w (upd (zAw K B a) (zR L)) o:=fun h1 b W K' Q' hb hr hK'=>
    h1 b W K' Q' hb (fun t ht=>hle t _ _ (hr t ht)) fun v W' hv hb'=>hK' v W' (fun d hd=>hge d (hdst d hd) _ _ (hv d hd)) hb'
   unfold qB at hg ⊢
   cases hgd:o.guard with
   |none=>rw [hgd] at hg;exact hop hg
   |some q=>
    rw [hgd] at hg
    obtain ⟨g,bv,h1,h2,h3,h4⟩:=hg
    exact ⟨g,bv,h1,fun v W hh=>h2 v W (hle g v W hh),fun e=>hop (h3 e),fun e=>⟨fun d hd W=>hge d (hdst d hd) _ _ ((h4 e).1 d hd W),(h4 e).2⟩⟩
  have hall: ∀l:List Nat,(∀i,i∈l->inL D i=false/\i<ops.size)->Obs F m P w ops (upd (zAD K B) (zR L)) (zJj ops l)->Obs F m P w ops (upd (zAw K B a) (zR L)) (zJj ops l):=by
   intro l
   induction l with
   |nil=>intro _ _;trivial
   |cons i l ih=>
    intro hm ho
    obtain ⟨hD,hlt⟩:=hm i (by simp)
    have hoi:ops[i]?=some ops[i]:=rB hlt
    have e:zJj ops (i::l)=ops[i]::zJj ops l:=by unfold zJj;rw [List.filterMap_cons,hoi]
    rw [e] at ho ⊢
    exact ⟨hconv i _ hD hoi ho.1,ih (fun j hj=>hm j (by simp [hj])) ho.2⟩
  refine hall is (fun i hi=> ?_) hobs
  have h1:=nZ.1 his i hi
  simp only [pB,pJ,pN] at h1
  exact ⟨h1.1.1.2,h1.1.1.1⟩
 ·have hg:=hA'.gr
  have hslot: ∀t,t∈K.map (·.1)++B.map (·.t)->a'.tmps.getD t undef=a.tmps.getD t undef:=fun t ht=>by
   have h1:=hA'.sl t
   unfold zNm at h1
   have h2:((List.range ops.size).any fun i=> !inL (is++D) i&&(zX ops i==some t))=false:=by
    refine rQ.2 fun i _=> ?_
    cases hD:inL D i with
    |true=>simp [zEP,hD]
    |false=>have:=hsame t ht i hD;simp [this]
   rw [h2,show (bif false then SF.any else upd (zAw K B a) (zR L) t)=upd (zAw K B a) (zR L) t from rfl,zAl (hkn t ht),zAw,if_pos ht] at h1
   exact h1.2
  have hrow: ∀q,q∈zR L->q.2.p (a'.tmps.getD q.1 undef) w':=fun q hm2=>by
   have h1:=hA'.sl q.1
   obtain ⟨i,hi,he⟩:=pP.1 (nZ.1 hks q.1 (by rw [<-hkeys];exact pU.2 ⟨_,hm2,rfl⟩))
   simp only [pB,pN,pI] at he
   have hiL:inL (is++D) i=true:=by
    rw [zEP]
    rw [zFo hi,rG]
   unfold zNm at h1
   have h2:((List.range ops.size).any fun j=> !inL (is++D) j&&(zX ops j==some q.1))=false:=by
    refine rQ.2 fun j _=> ?_
    by_cases hj:j=i
    ·subst hj;simp [hiL]
    ·have:zX ops j≠some q.1:=fun e=>by
      obtain ⟨oi,ho1,hd1⟩:=yZ he.2
      obtain ⟨oj,ho2,hd2⟩:=yZ e
      exact jD hap ho1 ho2 (Ne.symm hj) hd1 hd2
     simp [this]
   rw [h2,show (bif false then SF.any else upd (zAw K B a) (zR L) q.1)=upd (zAw K B a) (zR L) q.1 from rfl,zCH (q:=q) (by rw [hkeys];exact hndk) hm2] at h1
   exact h1
  refine hfin a' w' hg ⟨h.gr.trans hg,hA'.size,hA'.nd,fun q hq=> ?_,h.bx.keep hg (zK hg) B fun x hx=>hslot _ (List.mem_append_right _ (pU.2 ⟨x,hx,rfl⟩)),zAW h.mks hg,h.so.imp (fun hu q hq=>(by
   rcases rR.1 hq with hq|hq
   ·obtain ⟨f,e,_⟩:=zAz hq;exact ⟨f,e⟩
   ·exact hu q hq)) (fun x=>x)⟩ hrow hD
  rcases rR.1 hq with hq|hq
  ·obtain ⟨f,hqf,hm⟩:=zAz hq
   have h1:=hrow (q.1,f.tS) (pU.2 ⟨_,hm,rfl⟩)
   rw [hqf]
   exact h1
  ·rw [hslot q.1 (List.mem_append_left _ (pU.2 ⟨q,hq,rfl⟩))]
   exact KF.us (h.sl q hq) (zK hg)
theorem Obs.below {G:Nat->SF} {w1:W8} (hb:Below w.heap.size w w1): ∀{l:List Oper},Obs F m P w ops G l->Obs F m P w1 ops G l
 | [],_=>trivial
 | o::l,⟨h,t⟩=>by
  have ho:zMe F m P w G o->zMe F m P w1 G o:=fun h b W K Q hb'=>h b W K Q (hb.trans (hb'.mono hb.size))
  refine ⟨?_,Obs.below hb t⟩
  unfold qB at h ⊢
  cases e:o.guard with
  |none=>rw [e] at h;exact ho h
  |some q=>
   rw [e] at h
   obtain ⟨g,bv,h1,h2,h3,h4⟩:=h
   exact ⟨g,bv,h1,h2,fun e=>ho (h3 e),h4⟩
theorem zFe {k:Nat} (hk:k<=ops.size):zJj ops (List.range k)=ops.toList.take k:=by
 induction k with
 |zero=>simp [zJj]
 |succ k ih=>
  have e:ops[k]?=some ops[k]:=rB oN
  have ih:=ih oN
  unfold zJj at ih ⊢
  rw [List.range_succ,List.filterMap_append,ih,List.take_add_one]
  simp [e]
theorem zEv {k:Nat} (hch: ∀r,r<ops.size - k->Region.ready .any ops (yF ops.size (k+r))= [k+r]):
    ∀(f r:Nat) (D:List Nat) (a:Act) (w:W8),k+r+f=ops.size->(∀i,i<ops.size->inL D i=decide (i<k+r))->wpOpsIn F m P ops (qL Q) (List.range' (k+r) f) a w->zJL F m P ops (fun _=>True) Q D a w
  |0,r,D,a,w,hf,hD,h=>zMP (nZ.2 fun i hi=>by
      have:=pA.1 hi
      rw [hD i this]
      exact rS oN) h
  | f+1,r,D,a,w,hf,hD,h=>by
    rw [List.range'_succ] at h
    refine zKu (i:=k+r) ?_ (wpOpIn_mono (fun a w h=>⟨trivial,zEv hch f (r+1) ((k+r)::D) a w oN (fun i hi=> ?_) h⟩) h)
    . rw [show lst ops.size D=yF ops.size (k+r) from (zEI (by simp [yF]) fun i hi=>by rw [pG,zCg hi,hD i hi];rfl).symm]
      exact hch r oN
    . show (bif Nat.beq (k+r) i then true else inL D i)=_
      rw [hD i hi]
      cases e:Nat.beq (k+r) i with
      |true=>exact (rS (by have:=pY e;omega)).symm
      | false=>
        have:k+r≠i:=fun h=>by rw [h,rE] at e;cases e
        exact decide_eq_decide.2 oN
theorem zLB {fl:List Nat} {k:Nat} {G:Nat->SF} (h:(fl.all fun i=>zDd ops i&&decide (i<k))=true) (hobs:Obs F m P w ops G (zJj ops (List.range k))): ∀i o,inL fl i=true->ops[i]?=some o->FdC P (fun _=>True) w ops G o:=fun i o hi ho b W hb hr=>by
 have h1:=nZ.1 h i (zEO hi)
 simp only [pB,pJ] at h1
 have hg:o.guard=none:=by
  have h2:=h1.1
  unfold zDd at h2
  rw [ho] at h2
  split at h2<;>first|cases h2|skip
  all_goals (rename_i e;cases e;rfl)
 have h2:=zDW hobs i (pA.2 h1.2) o ho
 unfold qB at h2
 rw [hg] at h2
 have h3:wpOpIn F m P ops (qL fun _ _ _=>True) i (fun _ _=>True) b W:=by
  unfold wpOpIn
  rw [ho]
  show (if Region.wanted o (yielded ops b.tmps)=true then _ else _)
  rw [if_pos (by unfold Region.wanted;rw [hg])]
  exact h2 b W _ _ hb (fun t ht=>hr t (by unfold looks;simp [ht])) (fun _ _ _ _=>trivial)
 obtain ⟨_,v,_,hy,_⟩:=zLC ho h1.1 h3
 exact ⟨v,hy⟩
theorem zCK {id:Nat} (fl:List Nat) (al:List NewB) (k:Nat) (L:List (Nat×Rw)) (hmix:P.follows .mixedOrders=true) (h:StS S w0 K B n ds a w)
  (hal: ∀q,q∈al->q.i<k/\q.f.isIn (zR L) q.d/\(∃ty pos aft,ops[q.i]?=some ⟨some q.d, .alloc q.e,ty,pos,aft,none⟩)/\zeroCells P q.e=some q.cs/\ ∀v W,(wQ w q.e q.cs).p v W->q.f.p v W)
  (hchk:(zRL ops fl [] (List.range k) n (L.map (·.1)) (K.map (·.1)++B.map (·.t))&&(fl.all fun i=>zDd ops i&&decide (i<k))&&decide (k<=ops.size)&&(List.range (ops.size - k)).all fun r=>Region.ready .any ops (yF ops.size (k+r))== [k+r])=true)
  (hobs:Obs F m P w ops (upd (zAD K B) (zR L)) (ops.toList.take k))
  (hfin: ∀Q',(∀a w,Q .normal a w->Q' .normal a w)-> ∀a w,StS S w0 (zBq L++K) B n ds a w->(∀q,q∈zR L->q.2.p (a.tmps.getD q.1 undef) w)->zMf al a->zBt F m P ops Q' k a w):(Code.region id ops true).wpIn F m P Q a w:=by
 simp only [pB,pJ] at hchk
 obtain ⟨⟨⟨h1,h2⟩,h3⟩,h4⟩:=hchk
 refine zPo (fun _=>True) hmix h fun w1 hb s=> ?_
 have hal': ∀q,q∈al->q.i∈List.range k/\q.f.isIn (zR L) q.d/\(∃ty pos aft,ops[q.i]?=some ⟨some q.d, .alloc q.e,ty,pos,aft,none⟩)/\zeroCells P q.e=some q.cs/\ ∀v W,(wQ w1 q.e q.cs).p v W->q.f.p v W:=fun q hq=>let ⟨g1,g2,g3,g4,g5⟩:=hal q hq;⟨pA.2 g1,g2,g3,g4,fun v W ⟨b,e,g,g'⟩=>g5 v W ⟨b,e,pK hb.size g,g'⟩⟩
 refine zMO fl (List.range k) al L (fun _ _=>trivial) s h1 (by rw [zFe h3];exact Obs.below hb hobs) hal' (zLB h2 (by rw [zFe h3];exact Obs.below hb hobs)) fun a w' hb' s hr hD=> ?_
 refine zEv (k:=k) (fun r hr=>(by have:=nZ.1 h4 r (pA.2 hr);simpa using this)) (ops.size - k) 0 _ a w' oN (fun i _=> ?_) (hfin (qL Q) iiz a w' s hr hD)
 rw [List.append_nil,Nat.add_zero]
 cases e:inL (List.range k) i with
 |true=>exact (rS (pA.1 (zEO e))).symm
 |false=>exact (decide_eq_false fun hk=>by rw [zFo (pA.2 hk)] at e;cases e).symm
end
/-! ### Answers of a function that ranges over functions -/
theorem zLp {B:Nat} {W W':W8} (h:Oth B W W'):yL W W':=fun p _ hp=>(h.cell p).trans hp
theorem zEC {B b:Nat} {W W':W8} (h:Oth B W W') {cs:Array Wb} {t:Wc} {z:Nat×Nat} (hc:W.heap[b]?=some (.cells cs t z)):W'.heap[b]?=some (.cells cs t z):=by
 rcases h.block b with e|⟨_,⟨o,ho,hn⟩,_⟩
 ·exact e.trans hc
 ·rw [hc] at ho
  cases ho
  cases hn
section
variable {S:Nat->Prop} {F:Fence} {m:Nat} {P:Wf} {Q:Exit->Act->W8->Prop} {w0:W8} {K:List (Nat×KF)} {B:List Bx} {n:Nat} {ds:List Deferred} {a:Act} {w:W8}
theorem StS.resM (h:St w0 K B n ds a w) {fn:Func} {f:SF} {v:Wb} (hr: ∀w',Oth w0.heap.size w w'->(results fn a.tmps).run P w'= .ok v w') (hv: ∀w',Oth w0.heap.size w w'->f.p v w'):bodyPostM Fence.wide 0 P fn (Ret w0 f) .ret a w:=by
 obtain ⟨Ds,hm⟩:=h.mks
 show LeavesInM Fence.wide 0 P fn a.tmps (Ret w0 f) a.defers .returning w
 rw [h.nd]
 exact y2 w hr Ds _ w hm (Oth.refl _ _) fun w' ho=>⟨v,rfl,hv w' ho,j5 h.gr.below ho lr⟩
def inB (B:List Bx) (k:Nat):Prop:= ∃x,x∈B/\x.b=k/\x.r=false
structure Rnd (N:Nat) (C:Nat->Prop) (W W':World):Prop where
 os:W'.os=W.os
 tape:W'.tape=W.tape
 output:W'.output=W.output
 size:W.heap.size<=W'.heap.size
 low: ∀k:Nat,k<N-> ¬C k->W'.heap[k]?=W.heap[k]?
 cells: ∀(k:Nat) (o:Obj),W.heap[k]?=some o->o.isCells=true-> ¬C k->W'.heap[k]?=some o
 keep:yL W W'
structure Itr (N:Nat) (W W':World):Prop where
 os:W'.os=W.os
 tape:W'.tape=W.tape
 output:W'.output=W.output
 size:W.heap.size<=W'.heap.size
 low: ∀k:Nat,k<N->W'.heap[k]?=W.heap[k]?
 oth: ∀(k:Nat) (o:Obj),W.heap[k]?=some o->o.isCells=false->W'.heap[k]?=some o
 keep:yL W W'
def Ev (Ef:Nat->List UF) (k:Nat) (xs:Array Wb) (W:W8):Prop:=xs.size=(Ef k).length/\ ∀(j:Nat) (f:UF),(Ef k)[j]?=some f->f.p (xs.getD j undef) W
def ItC (P:Wf) (gf:Nat) (lb:Array Wb) (Ef:Nat->List UF) (N:Nat) (endless:Prop) (C:Nat->Prop) (w:W8):Prop:=
 ∀(l:Nat) (J:Nat->W8->Prop) (Z:W8->Prop) (W:W8),w.heap.size<=W.heap.size->Below w.heap.size w W->yL w W->
  (∀k W1 W2,J k W1->Itr W.heap.size W1 W2->J k W2)->(∀W1 W2,Z W1->Itr W.heap.size W1 W2->Z W2)->(endless-> ∀W, ¬J N W)->
  (∀k W1 xs,k<N->J k W1->Ev Ef k xs W1->YieldAt Fence.wide 0 P l xs W1 fun e W'=>((e= .returned (.bool true)/\J (k+1) W')∨(e= .returned (.bool false)/\Z W'))/\Rnd w.heap.size C W1 W')->
  J 0 W->Calls P gf (#[.func (.yield l) #[] #[]]++lb) W fun e W'=>(∃v,e= .returned v)/\(J N W'∨Z W')
theorem wX {S':Nat->Prop} {w1 W:W8} {a1:Act}: ∀(B:List Bx),(∀x,x∈B->x.r=true∨w1.heap.size<=x.b∨S' x.b)->(∀x,x∈B->a1.tmps.getD x.t undef=a.tmps.getD x.t undef)->y5 S w0 a W B->y5 S' w1 a1 W B
 | [],_,_,_=>trivial
 |x::B,hS,hsl,h=>by
  obtain ⟨⟨cs,h1,_,h3⟩,hr⟩:=h
  exact ⟨⟨cs,(hsl x (rH ..)).trans h1,hS x (rH ..),h3⟩,wX B (fun y hy=>hS y (rI _ hy)) (fun y hy=>hsl y (rI _ hy)) hr⟩
theorem wT {W W':W8} (hk:yL W W'): ∀(B:List Bx),(∀x,x∈B->W'.heap[x.b]?=W.heap[x.b]?)->y5 S w0 a W B->y5 S w0 a W' B
 | [],_,_=>trivial
 |x::B,hs,h=>by
  obtain ⟨⟨cs,h1,h2,h3,h4,h5⟩,hr⟩:=h
  exact ⟨⟨cs,h1,h2,(hs x (rH ..)).trans h3,x.c.us _ _ _ h4 hk,h5⟩,wT hk B (fun y hy=>hs y (rI _ hy)) hr⟩
theorem zFt {W:W8} {b:Nat} {cs:List Wb} {t:Wc} {z:Nat×Nat} (h3:W.heap[b]?=some (.cells cs.toArray t z)) (h5:cs.all yA=true) {q:Addr} (hq:q.block=b) {u:Wb} (hu:W.cell? q=some u):yA u=true:=by
 have h6:W.cell? q=if q.spot.isSome then none else cs.toArray[q.off]?:=by
  unfold World.cell?
  rw [hq,h3]
 rw [h6] at hu
 split at hu
 ·cases hu
 ·exact nZ.1 h5 _ (List.mem_of_getElem? (by simpa using hu))
theorem zCy {W:W8} {b:Nat} {o:Obj} (h:W.heap[b]?=some o) (hc:o.isCells=false) {q:Addr} (hq:q.block=b):W.cell? q=none:=zDh (a:=q) (by rw [hq];exact h) hc
theorem StS.itr (h:StS S w0 K B n ds a w) {N:Nat} {w':W8} (hi:Itr N w w') (hN:w0.heap.size<=N) (hB: ∀x,x∈B->x.b<N):StS S w0 K B n ds a w':=
 ⟨⟨hi.os.trans h.gr.os,hi.tape.trans h.gr.tape,hi.output.trans h.gr.output,pK h.gr.size hi.size,fun k hk hs=>(hi.low k (rM hk hN)).trans (h.gr.block k hk hs)⟩,h.size,h.nd,fun q hq=>KF.us (h.sl q hq) hi.keep,
  wT hi.keep B (fun x hx=>hi.low _ (hB x hx)) h.bx,h.mks.imp fun _ hm=>hm.keep fun k o ho hc=>hi.oth k o ho hc,h.so⟩
theorem zLy {W W':W8} {C:Nat->Prop} {N:Nat} (hb:BlS C W W') (_hN: ∀k,C k->k<W.heap.size) (hNW:N<=W.heap.size) {l:Nat} {o:Obj} (hl:N<=l) (ho:W.heap[l]?=some o) (hc:o.isCells=false) {C':Nat->Prop} (hC: ∀k,C k->C' k∨k=l) (hk:yL W W'):Rnd N C' W W':=by
 refine ⟨hb.os,hb.tape,hb.output,hb.size,fun k hk' hn=>hb.block k (rM hk' hNW) fun hc'=> ?_,fun k o' hk' hcc hn=>(hb.block k (pM.1 hk').1 fun hc'=> ?_).trans hk',hk⟩
 ·rcases hC k hc' with e|e
  ·exact hn e
  ·omega
 ·rcases hC k hc' with e|e
  ·exact hn e
  ·subst e
   rw [ho] at hk'
   cases hk'
   rw [hc] at hcc
   cases hcc
theorem StS.put (h:StS S w0 K B n ds a w) {l:Nat} {o o':Obj} (ho:w.heap[l]?=some o) (hc:o.isCells=false) (hD: ∀Ds,Marks w0.heap.size w ds Ds->l ∉ Ds) (hS:S l∨w0.heap.size<=l):StS S w0 K B n ds a (w.putObj l o'):=by
 have hk:yL w (w.putObj l o'):=fun q u hq=>by
  by_cases e:q.block=l
  ·rw [zCy ho hc e] at hq
   cases hq
  ·exact (World.cell?_of_block (rJ e)).trans hq
 refine ⟨⟨h.gr.os,h.gr.tape,h.gr.output,by rw [World.putObj_size];exact h.gr.size,fun k hk' hs=>(rJ (fun e=> ?_)).trans (h.gr.block k hk' hs)⟩,h.size,h.nd,fun q hq=>KF.us (h.sl q hq) hk,wT hk B (fun x hx=>rJ fun e=> ?_) h.bx, ?_,h.so⟩
 ·subst e
  rcases hS with hS|hS
  ·exact hs hS
  ·omega
 ·obtain ⟨cs,_,_,h3,_⟩:=h.bx.mem x hx
  rw [e,ho] at h3
  cases h3
  cases hc
 ·obtain ⟨Ds,hm⟩:=h.mks
  refine ⟨Ds,hm.eq,hm.nodup,fun D hd=>⟨(hm.at_ D hd).1,(rJ fun e=> ?_).trans (hm.at_ D hd).2⟩⟩
  subst e
  exact hD Ds hm hd
/-! ### The values that a round is handed -/
theorem zEa: ∀(L:List (Nat×Wb)) (t:Array Wb),(L.foldl (fun t (p,v)=>t.setIfInBounds p v) t).size=t.size
 | [],_=>rfl
 |_::L,t=>by rw [rT,zEa L];simp
theorem zBv (q:Nat): ∀(L:List (Nat×Wb)) (t:Array Wb),q ∉ L.map (·.1)->(L.foldl (fun t (p,v)=>t.setIfInBounds p v) t).getD q undef=t.getD q undef
 | [],_,_=>rfl
 |(p,v)::L,t,h=>by
  rw [pW,pL,not_or] at h
  rw [rT,zBv q L _ h.2]
  exact zBs (fun e=>h.1 e.symm)
theorem zGq: ∀(L:List (Nat×Wb)) (t:Array Wb) (p:Nat) (v:Wb),(L.map (·.1)).Nodup->(p,v)∈L->p<t.size->(L.foldl (fun t (p,v)=>t.setIfInBounds p v) t).getD p undef=v
 | (p',v')::L,t,p,v,hn,hm,ht=>by
  rw [pW,List.nodup_cons] at hn
  rw [rT]
  rcases pL.1 hm with e|hm
  ·cases e
   rw [zBv _ L _ hn.1]
   simp [pG,ht]
  ·exact zGq L _ p v hn.2 hm (by simpa using ht)
theorem BlS.sub {S S':Nat->Prop} {w w':W8} (h:BlS S w w') (hs: ∀k,S k->S' k):BlS S' w w':=⟨h.os,h.tape,h.output,h.size,fun k hk hn=>h.block k hk fun hh=>hn (hs k hh)⟩
theorem zG4: ∀{Ds Ds':List Nat},Ds.map mark=Ds'.map mark->Ds=Ds'
 | [], [],_=>rfl
 | [],_::_,e=>by cases e
 |_::_, [],e=>by cases e
 |D::Ds,D'::Ds',e=>by
  simp only [pW,List.cons.injEq] at e
  rw [zG4 e.2,show D=D' from by simpa [mark] using e.1]
theorem zFk: ∀{l:List Nat},zAL l=true->l.Nodup
 | [],_=>List.nodup_nil
 |x::l,h=>by
  unfold zAL at h
  rw [pB] at h
  refine List.nodup_cons.2 ⟨fun hm=> ?_,zFk h.2⟩
  rw [pZ.2 hm] at h
  exact absurd h.1 (by decide)
/-! ### The range -/
def zJM:KF->Bool
 | .u _=>true
 | .o _=>false
theorem StS.more (h:StS S w0 K B n ds a w) {D:Nat} (hB:w0.heap.size<=D) (hD:w.heap[D]?=some (.deferred (some []))) (hn: ∀Ds,Marks w0.heap.size w ds Ds->D ∉ Ds):StS S w0 K B n (mark D::ds) { a with defers:=mark D::a.defers } w:=
 ⟨h.gr,h.size,by rw [h.nd],h.sl,wX (a:=a) B (fun x hx=>(h.bx.mem x hx).elim fun _ hh=>hh.2.1) (fun _ _=>rfl) h.bx,(h.mks.elim fun Ds hm=>⟨D::Ds,hm.more (hn Ds hm) hB hD⟩),h.so⟩
end
section
variable {S:Nat->Prop} {F:Fence} {m:Nat} {P:Wf} {Q:Exit->Act->W8->Prop} {w0:W8} {K:List (Nat×KF)} {B:List Bx} {n:Nat} {ds:List Deferred} {a:Act} {w:W8}
theorem yM {σ:Type} {c:Code} (Inv:σ->Act->W8->Prop) (mu:σ->Nat) (x0:σ) (h0:Inv x0 a w)
  (round: ∀x a w,Inv x a w->c.wpIn F m P (Exit.then (fun a' w'=> ∃y,mu y<mu x/\Inv y a' w') Q) a w):(Code.loop c).wpIn F m P Q a w:=by
 have low: ∀a w,(∃k, ∃x,mu x=k/\Inv x a w)-> ∃k,(∃x,mu x=k/\Inv x a w)/\ ∀j,j<k-> ¬ ∃x,mu x=j/\Inv x a w:=
  fun a w ⟨k,hk⟩=>zEK k hk
 open Classical in
 refine wpIn_loop (fun a w=> ∃k, ∃x,mu x=k/\Inv x a w) (fun a w=>if h: ∃k, ∃x,mu x=k/\Inv x a w then Classical.choose (low a w h) else 0) ⟨_,x0,rfl,h0⟩ ?_
 rintro a w hA
 have e0:=rF (low a w hA)
 obtain ⟨x,hm,hst⟩:=e0.1
 refine Code.wpIn_mono ?_ (round x a w hst)
 intro e a' w' h
 cases e with
 |normal=>
  obtain ⟨y,h2,h3⟩: ∃y,mu y<mu x/\Inv y a' w':=h
  have hA': ∃k, ∃x,mu x=k/\Inv x a' w':=⟨_,y,rfl,h3⟩
  refine ⟨hA', ?_⟩
  simp only [dif_pos hA,dif_pos hA']
  have e1:=rF (low a' w' hA')
  have:Classical.choose (low a' w' hA')<=mu y:=Nat.not_lt.1 fun hlt=>e1.2 _ hlt ⟨y,rfl,h3⟩
  omega
 |_=>exact h
theorem StS.learn (h:StS S w0 K B n ds a w) (t:Nat) (v:Wb) (e:a.tmps.getD t undef=v):StS S w0 ((t, .u (UF.eq v))::K) B n ds a w:=
 ⟨h.gr,h.size,h.nd,fun q hq=>by
  rcases pL.1 hq with rfl|hq
  ·exact e
  ·exact h.sl q hq,h.bx,h.mks,h.so.imp (fun hu q hq=>(by
   rcases pL.1 hq with rfl|hq
   ·exact ⟨_,rfl⟩
   ·exact hu q hq)) (fun x=>x)⟩
theorem StS.yielded (h:StS S w0 K B n [] a w) {N:Nat} {C:Nat->Prop} {w':W8} (hr:Rnd N C w w') (hu: ∀q,q∈K-> ∃f,q.2= .u f) (hC: ∀x,x∈B-> ¬C x.b):StS (inB B) w' K B n [] a w':=by
 refine ⟨BlS.refl _ _,h.size,h.nd,fun q hq=> ?_,wT hr.keep B (fun x hx=> ?_) (wX (a:=a) B (fun x hx=> ?_) (fun _ _=>rfl) h.bx),⟨[],Marks.nil _ _⟩, .inl hu⟩
 ·obtain ⟨f,e⟩:=hu q hq
  have:=h.sl q hq
  rw [e] at this ⊢
  exact f.us _ _ _ this hr.keep
 ·obtain ⟨cs,_,_,h3,_⟩:=h.bx.mem x hx
  rw [h3]
  exact hr.cells _ _ h3 rfl (hC x hx)
 ·cases hrr:x.r with
  |true=>exact .inl rfl
  |false=>exact .inr (.inr ⟨x,hx,rfl,hrr⟩)
theorem zHe {a:Act} {d:Tmp} {y:We} {l:Nat} {xs:Array We} {ats:Array Wc} {ty:Wc} {pos:String} {aft:Array Edge} {w:W8} (hy:a.eval y= .func (.yield l) #[] #[]):
  (execOp a.eval ⟨some d, .call ⟨.value y,xs,ats⟩,ty,pos,aft,none⟩).run P w=(Instr.yield l (xs.map a.eval)).run P w:=by
 simp only [execOp,resolve,hy]
 simp [invoke,Deferred.ofValue,rD,Sem.run_pure,Result.andThen]
theorem zO8 {ops:Array Oper} {k d l:Nat} {y:We} {xs:Array We} {ats:Array Wc} {ty:Wc} {pos:String} {aft:Array Edge} {Jn Z:W8->Prop} {N:Nat} {C:Nat->Prop} (ho:ops[k]?=some ⟨some d, .call ⟨.value y,xs,ats⟩,ty,pos,aft,none⟩)
  (h:StS S w0 K B n [] a w) (hy: ∀v W,(Wd.fct (zAD K B) y).p v W->v= .func (.yield l) #[] #[]) (hf:zAp K B n d=true) (hu: ∀q,q∈K-> ∃f,q.2= .u f) (hC: ∀x,x∈B-> ¬C x.b)
  (Y:YieldAt Fence.wide 0 P l (xs.map a.eval) w fun e W'=>((e= .returned (.bool true)/\Jn W')∨(e= .returned (.bool false)/\Z W'))/\Rnd N C w W')
  (fin: ∀a' w' bv,Rnd N C w w'->((bv=true/\Jn w')∨(bv=false/\Z w'))->StS (inB B) w' ((d, .u (uB bv))::K) B n [] a' w'->zBt Fence.wide 0 P ops Q (k+1) a' w'):zBt Fence.wide 0 P ops Q k a w:=by
 have hyv:a.eval y= .func (.yield l) #[] #[]:=hy _ _ (h.fct y)
 obtain ⟨fn,tmps,assign,body,hrun,hR⟩:=Y
 refine zAF ho rfl ⟨fun g _=>trivial, ?_⟩
 rw [pF _ _ _ (fun _ e=>by cases e),zHe hyv,hrun]
 rw [Oper.uponIn_round]
 refine ⟨fun hh=>absurd hh (by simp [Fence.wide]),RoundIn.mono hR fun e W' he=> ?_⟩
 obtain ⟨he,hr⟩:=he
 have s1:=h.yielded hr hu hC
 rcases he with ⟨rfl,hJ⟩|⟨rfl,hZ⟩
 ·exact fin _ _ true hr (.inl ⟨rfl,hJ⟩) (s1.set hf (pD _ _) rfl)
 ·exact fin _ _ false hr (.inr ⟨rfl,hZ⟩) (s1.set hf (pD _ _) rfl)
theorem zBN {K:List (Nat×KF)} (h:(K.all fun q=>zJM q.2)=true): ∀q,q∈K-> ∃f,q.2=KF.u f:=fun q hq=>by
 have:=nZ.1 h q hq
 cases hq2:q.2 with
 |u f=>exact ⟨f,rfl⟩
 |o f=>rw [hq2] at this;cases this
theorem StS.boxAt (h:StS S w0 K B n ds a w) {c:Nat} {z:Bx} (hB:zHq B c=some z): ∃cs:List Wb,w.heap[z.b]?=some (.cells cs.toArray z.e (0,0))/\z.c.p cs w/\cs.all yA=true:=by
 obtain ⟨cs,_,_,h3,h4,h5⟩:=h.bx.mem z (zBg hB).1
 exact ⟨cs,h3,h4,h5⟩
theorem StS.inB_new (h:St w0 K B n ds a w) {q:Nat} (hq:inB B q):w0.heap.size<=q:=by
 obtain ⟨x,hx,e,hr⟩:=hq
 obtain ⟨_,_,hc,_⟩:=h.bx.mem x hx
 rcases hc with hc|hc|hc
 ·rw [hr] at hc;cases hc
 ·omega
 ·exact hc.elim
def wB (vs:List Wb):CU:=⟨fun cs _=>cs=vs,fun _ _ _ h _=>h⟩
end
def CU.ok (z:Nat) (C:CU):Prop:= ∀cs W,C.p cs W->cs.length=z/\cs.all yA=true/\ ∀u,u∈cs->u.oneCell'=true
def y9 (w:W8) (base:Nat) (e:Wc) (z:Nat) (v:Wb) (Cs:List CU):Prop:=
 (v= .slice none 0 0/\Cs= [])∨ ∃g cap cur,v= .slice (some ⟨g,0,none⟩) Cs.length cap/\base<=g/\w.heap[g]?=some (.cells cur e (0,0))/\Cs.length<=cap/\cap<=maxLen/\cur.size=cap*z/\cur.toList.all yA=true/\ ∀(i:Nat) (C:CU),Cs[i]?=some C->C.p ((cur.toList.drop (i*z)).take z) w
theorem y9.nil (w:W8) (base:Nat) (e:Wc) (z:Nat):y9 w base e z (.slice none 0 0) []:= .inl ⟨rfl,rfl⟩
theorem y9.lt {w:W8} {base e z v Cs} (h:y9 w base e z v Cs): ∀k,v.ownBlock=some k->base<=k/\k<w.heap.size:=by
 intro k hk
 rcases h with ⟨rfl,_⟩|⟨g,cap,cur,rfl,hb,hg,_⟩
 ·simp [Value.ownBlock] at hk
 ·simp [Value.ownBlock] at hk
  subst hk
  exact ⟨hb,(pM.1 hg).1⟩
theorem y9.mono {w:W8} {base base' e z v Cs} (h:y9 w base e z v Cs) (hb:base'<=base):y9 w base' e z v Cs:=
 h.imp id fun ⟨g,cap,cur,h1,h2,h3⟩=>⟨g,cap,cur,h1,pK hb h2,h3⟩
theorem y9.keep {w w':W8} {base e z v Cs} (h:y9 w base e z v Cs) (hb: ∀k,v.ownBlock=some k->w'.heap[k]?=w.heap[k]?) (hk:yL w w'):y9 w' base e z v Cs:=by
 rcases h with h|⟨g,cap,cur,rfl,h2,h3,h4,h5,h6,h7,h8⟩
 ·exact .inl h
 ·exact .inr ⟨g,cap,cur,rfl,h2,(hb g rfl).trans h3,h4,h5,h6,h7,fun i C hi=>C.us _ _ _ (h8 i C hi) hk⟩
theorem y9.below {w w':W8} {base e z v Cs} (h:y9 w base e z v Cs) (hb:Below w.heap.size w w'):y9 w' base e z v Cs:=
 h.keep (fun k hk=>hb.block k (h.lt k hk).2) (zK hb)
theorem y9.row {w:W8} {base e z v Cs} (h:y9 w base e z v Cs):(SF.row z Cs).p v w:=by
 rcases h with ⟨rfl,rfl⟩|⟨g,cap,cur,rfl,h2,h3,h4,h5,h6,h7,h8⟩
 ·exact ⟨none,0,rfl,pE _,by decide,fun _=>rfl,fun i C hi=>by simp at hi⟩
 ·refine ⟨_,cap,rfl,h4,by unfold maxLen at h5;omega,fun e=>(by cases e),fun i C hi=>⟨g,0,_,rfl,fun j u hj=> ?_,h8 i C hi⟩⟩
  rw [List.getElem?_take] at hj
  split at hj
  ·rw [List.getElem?_drop] at hj
   unfold World.cell?
   simp only [h3]
   have:0+i*z+j=i*z+j:=by omega
   rw [this]
   simpa using hj
  ·cases hj
theorem y9.keepU {w w':W8} {base e z v Cs} (h:y9 w base e z v Cs) (hg:w.grownBy w' v.ownBlock):yL w w':=fun p x hp=>by
 have hlt:=World.block_lt_of_cell? w _ hp
 by_cases e1:some p.block=v.ownBlock
 ·exfalso
  rcases h with ⟨rfl,_⟩|⟨g,cap,cur,rfl,h2,h3,h4,h5,h6,h7,h8⟩
  ·simp [Value.ownBlock] at e1
  ·simp [Value.ownBlock] at e1
   have:=zFt (cs:=cur.toList) (z:=(0,0)) (by simpa using h3) h7 e1 hp
   cases this
 ·exact (World.cell?_of_block (hg.block _ hlt e1)).trans hp
def zE7 (P:Wf) (t:Wc):Option (Wc×Nat×Bool):=match P.underlying t with
 | some (.slice e)=>match P.info? e with
  |some i=>match i.zero with
   |some zv=>some (e,i.size,zv.cells.size==i.size&&zv.cells.toList.all yA&&decide (0<i.size)&&Nat.ble i.bytes 1000)
   |none=>none
  |none=>none
 |_=>none
theorem zCB {P:Wf} {t e:Wc} {z:Nat} (h:zE7 P t=some (e,z,true)):P.underlying t=some (.slice e)/\ ∃i zv,P.info? e=some i/\i.zero=some zv/\i.size=z/\i.bytes<=1000/\zv.cells.size=z/\zv.cells.toList.all yA=true/\0<z:=by
 unfold zE7 at h
 split at h<;>try cases h
 rename_i e' hu
 split at h<;>try cases h
 rename_i i hi
 split at h<;>try cases h
 rename_i zv hz
 simp only [rP,Prod.mk.injEq,pB,pI,pJ] at h
 obtain ⟨rfl,rfl,⟨⟨h1,h2⟩,h3⟩,h4⟩:=h
 exact ⟨hu,i,zv,hi,hz,rfl,Nat.le_of_ble_eq_true h4,h1,h2,h3⟩
theorem zBZ {zc:Array Wb} (h:zc.toList.all yA=true) (n:Nat):(Builtin.zeroCells zc n).toList.all yA=true:=by
  refine nZ.2 fun u hu=> ?_
  simp only [Builtin.zeroCells,Array.toList_map,pU,Array.toList_range,pA] at hu
  obtain ⟨i,hi,rfl⟩:=hu
  have h0 : 0 < zc.size := by rcases Nat.eq_zero_or_pos zc.size with h|h;· rw [h] at hi;omega
                              . exact h
  have hlt:i % zc.size<zc.size:=Nat.mod_lt _ h0
  have:zc[i % zc.size]!∈zc.toList:=by
    rw [getElem!_pos zc _ hlt]
    exact Array.getElem_mem_toList hlt
  exact nZ.1 h _ this
theorem zEs {W:W8} {b z:Nat}: ∀(Ds:List CU) (o:Nat),(∀C,C∈Ds->CU.ok z C)->(∀(i:Nat) (C:CU),Ds[i]?=some C-> ∃cs,Mem W b (o+i*z) cs/\C.p cs W)->
  ∃news:List Wb,news.length=Ds.length*z/\(∀j u,news[j]?=some u->W.cell? ⟨b,o+j,none⟩=some u)/\(∀u,u∈news->u.oneCell'=true)/\news.all yA=true/\ ∀(i:Nat) (C:CU),Ds[i]?=some C->C.p ((news.drop (i*z)).take z) W
 | [],o,_,_=>⟨[],by simp,by simp,by simp,rfl,by simp⟩
 | D::Ds,o,hok,h=>by
  obtain ⟨cs,h1,h2⟩:=h 0 D rfl
  obtain ⟨hl,hn,h1c⟩:=hok D (by simp) cs W h2
  obtain ⟨ns,g1,g2,g3,g4,g5⟩:=zEs Ds (o+z) (fun C hC=>hok C (by simp [hC])) fun i C hi=>by
   obtain ⟨cs',h3,h4⟩:=h (i+1) C (by simpa using hi)
   refine ⟨cs', ?_,h4⟩
   rwa [show o+(i+1)*z=o+z+i*z by rw [pQ];omega] at h3
  refine ⟨cs++ns,by rw [pV,hl,g1,List.length_cons,pQ];omega,fun j u hj=> ?_,fun u hu=> ?_,by rw [rK,hn,g4];rfl,fun i C hi=> ?_⟩
  ·rcases pT j z with hlt|hge
   ·rw [rZ oN] at hj
    have:=h1 j u hj
    rwa [show o+0*z+j=o+j by omega] at this
   ·rw [sA oN] at hj
    have:=g2 _ u hj
    rwa [show o+z+(j - cs.length)=o+j by omega] at this
  ·rcases rR.1 hu with hu|hu
   ·exact h1c u hu
   ·exact g3 u hu
  ·cases i with
   |zero=>
    obtain rfl:D=C:=by simpa using hi
    rw [show 0*z=0 by omega,List.drop_zero,sB oN,rO oN]
    exact h2
   |succ i=>
    rw [show (i+1)*z=cs.length+i*z by rw [pQ];omega,List.drop_append]
    have e1:cs.drop (cs.length+i*z)= []:=List.drop_eq_nil_of_le oN
    rw [e1,rU,show cs.length+i*z - cs.length=i*z by omega]
    exact g5 i C (by simpa using hi)
theorem zCV {cs ds:List Wb} {z i n:Nat} (h:cs.length=n*z) (hi:i<n):((cs++ds).drop (i*z)).take z=(cs.drop (i*z)).take z:=by
 have h1:i*z+z<=n*z:=by rw [<-Nat.succ_mul];exact rL _ hi
 rw [List.drop_append_of_le_length oN,sB (by rw [rN];omega)]
theorem zLL {cs ds:List Wb} {z i n:Nat} (h:cs.length=n*z):(cs++ds).drop ((n+i)*z)=ds.drop (i*z):=by
 rw [pQ, <-h,List.drop_append]
 have e1:cs.drop (cs.length+i*z)= []:=List.drop_eq_nil_of_le oN
 rw [e1,rU]
 congr 1
 omega
theorem zDs {w w':W8} {z:Nat} {Cs Ds:List CU} {cs ds es:List Wb} (hl:cs.length=Cs.length*z) (hd:ds.length=Ds.length*z) (h1: ∀(i:Nat) (C:CU),Cs[i]?=some C->C.p ((cs.drop (i*z)).take z) w) (h2: ∀(i:Nat) (C:CU),Ds[i]?=some C->C.p ((ds.drop (i*z)).take z) w) (hk:yL w w'):
  ∀(i:Nat) (C:CU),(Cs++Ds)[i]?=some C->C.p (((cs++ds++es).drop (i*z)).take z) w':=fun i C hi=>by
 rcases pT i Cs.length with hlt|hge
 ·rw [rZ hlt] at hi
  rw [List.append_assoc,zCV hl hlt]
  exact C.us _ _ _ (h1 i C hi) hk
 ·obtain ⟨j,rfl⟩: ∃j,i=Cs.length+j:=⟨i - Cs.length,by omega⟩
  rw [sA oN,Nat.add_sub_cancel_left] at hi
  have hj:j<Ds.length:=(pX.1 hi).1
  rw [List.append_assoc,zLL hl,zCV hd hj]
  exact C.us _ _ _ (h2 j C hi) hk
theorem zH4 {a b c:List Wb} (ha:a.all yA=true) (hb:b.all yA=true) (hc:c.all yA=true):(a++b++c).all yA=true:=by
 rw [rK,rK,ha,hb,hc];rfl
theorem zKp {P:Wf} {w:W8} {base:Nat} {t ty e:Wc} {z:Nat} {v v2:Wb} {Cs Ds:List CU} (happ:zE7 P t=some (e,z,true)) (hr:y9 w base e z v Cs) (h2:(SF.row z Ds).p v2 w) (hD: ∀C,C∈Ds->CU.ok z C)
    (hsz:Cs.length+Ds.length<=140000000000) (hbase:base<=w.heap.size):
    ∃v' w',(Builtin.append_ #[t,t] ty #[v,v2]).run P w= .ok v' w'/\y9 w' base e z v' (Cs++Ds)/\w.grownBy w' v.ownBlock/\(v'.ownBlock=v.ownBlock∨v'.ownBlock=some w.heap.size):=by
  obtain ⟨ht,i,zv,hi,hz,hs,hby0,hzs,hzn,hz0⟩:=zCB happ
  have hmx:Cs.length+Ds.length<=maxLen:=by unfold maxLen;omega
  have hbb:(Cs.length+Ds.length)*i.bytes<=140737488355328:=pK (Nat.mul_le_mul hsz hby0) (by decide)
  obtain ⟨A,c,rfl,hlc,hcm,hAn,hel⟩:=h2
  have hsmall:Cs.length+Ds.length<=9223372036854775807:=by unfold maxLen at hmx;omega
  cases A with
  | none=>
    have hD0:Ds= []:=by
      cases Ds with
      |nil=>rfl
      |cons D Ds=>obtain ⟨b,o,cs,e1,_⟩:=hel 0 D rfl;cases e1
    subst hD0
    have hc:=hAn rfl
    subst hc
    rcases hr with ⟨rfl,rfl⟩|⟨g,cap,cur,rfl,g2,g3,g4,g5,g6,g7,g8⟩
    . refine ⟨.slice none 0 0,w, ?_, .inl ⟨rfl,rfl⟩,⟨rfl,rfl,rfl,pE _,fun _ _ _=>rfl⟩, .inl rfl⟩
      simp [Builtin.append_,pH ht,sizeOf,typeInfo,hi,Builtin.lenOf,Builtin.firstCells]
    . refine ⟨_,w, ?_, .inr ⟨g,cap,cur,rfl,g2,g3,by simpa using g4,g5,g6,g7,by simpa using g8⟩,⟨rfl,rfl,rfl,pE _,fun _ _ _=>rfl⟩, .inl rfl⟩
      simp [Builtin.append_,pH ht,sizeOf,typeInfo,hi,Builtin.lenOf,Builtin.firstCells,g4,storeCells]
  | some ad=>
    obtain ⟨news,n1,n2,n3,n4,n5⟩: ∃news:List Wb,news.length=Ds.length*z/\(∀j u,news[j]?=some u->w.cell? (ad.add j)=some u)/\(∀u,u∈news->u.oneCell'=true)/\news.all yA=true/\ ∀(i:Nat) (C:CU),Ds[i]?=some C->C.p ((news.drop (i*z)).take z) w:=by
      cases Ds with
      |nil=>exact ⟨[],by simp,by simp,by simp,rfl,by simp⟩
      | cons D Ds=>
        obtain ⟨b,o,cs,e1,_⟩:=hel 0 D rfl
        cases e1
        obtain ⟨news,k1,k2,k3⟩:=zEs (W:=w) (b:=b) (z:=z) (D::Ds) o hD fun i C hiC=>by
          obtain ⟨b',o',cs',e',m1,m2⟩:=hel i C hiC
          cases e'
          exact ⟨cs',m1,m2⟩
        exact ⟨news,k1,fun j u hj=>by rw [pR];exact k2 j u hj,k3⟩
    -- what the growing arm leaves
    have grown: ∀(old:Nat) (cs:List Wb) (row:Option Nat),cs.length=Cs.length*z->cs.all yA=true->(∀(i:Nat) (C:CU),Cs[i]?=some C->C.p ((cs.drop (i*z)).take z) w)->old<Cs.length+Ds.length->
        y9 (w.drew.alloc (.cells (cs.toArray++news.toArray++Builtin.zeroCells zv.cells (grownCap w (Cs.length+Ds.length) old e - (Cs.length+Ds.length))) e)) base e z (.slice (some ⟨w.heap.size,0,none⟩) (Cs.length+Ds.length) (grownCap w (Cs.length+Ds.length) old e)) (Cs++Ds)/\
        w.grownBy (w.drew.alloc (.cells (cs.toArray++news.toArray++Builtin.zeroCells zv.cells (grownCap w (Cs.length+Ds.length) old e - (Cs.length+Ds.length))) e)) row:=by
      intro old cs row hl hn hcs ho
      have hge:=grownCap_ge w (Cs.length+Ds.length) old e
      have hcm:grownCap w (Cs.length+Ds.length) old e<=maxLen:=grownCap_le_maxLen w (Cs.length+Ds.length) old e hmx
      refine ⟨.inr ⟨w.heap.size,_,_,by rw [pV],hbase,heap_alloc_new w.drew _,by rw [pV];exact hge,hcm, ?_, ?_, ?_⟩,⟨rfl,rfl,rfl,by simp,fun k hk _=>heap_alloc_old w.drew _ hk⟩⟩
      . simp only [Array.size_append,rV,size_zeroCells,hzs,hl,n1, <-pQ]
        congr 1
        omega
      . simp only [rW]
        exact zH4 hn n4 (zBZ hzn _)
      . simp only [rW]
        exact zDs hl n1 hcs n5 (zK ⟨rfl,rfl,rfl,by simp,fun k hk=>heap_alloc_old w.drew _ hk⟩)
    rcases hr with ⟨rfl,rfl⟩|⟨g,cap,cur,rfl,g2,g3,g4,g5,g6,g7,g8⟩
    . by_cases hm:Ds.length=0
      . have hD0:=List.eq_nil_of_length_eq_zero hm
        subst hD0
        refine ⟨.slice none 0 0,w, ?_, .inl ⟨rfl,rfl⟩,⟨rfl,rfl,rfl,pE _,fun _ _ _=>rfl⟩, .inl rfl⟩
        simp [Builtin.append_,pH ht,sizeOf,typeInfo,hi,Builtin.lenOf,Builtin.firstCells,loadCells,loadCellsFrom]
      . have hr:=run_append_nil (P:=P) w t ty e i zv ht hi hz ad Ds.length c news (by rw [hs];exact n1) n2 oN (by simp at hsmall;omega) (by simp at hbb;omega)
        have hgr:=grown 0 [] (Value.ownBlock (.slice none 0 0)) (by simp) rfl (by simp) (by simp;omega)
        simp only [List.length_nil,Nat.zero_add,rU,Array.empty_append] at hgr ⊢
        exact ⟨_,_,hr,hgr.1,hgr.2, .inr rfl⟩
    . by_cases hroom:Cs.length+Ds.length<=cap
      . have hfit:Cs.length*i.size+news.length<=cur.size:=by rw [n1,g6,hs, <-pQ];exact rL _ hroom
        have hr:=run_append_room (P:=P) w t ty e i ht hi g Cs.length cap cur g3 ad Ds.length c news (by rw [hs];exact n1) n2 n3 hroom hfit
        rw [hs] at hr hfit
        have hgr:w.grownBy (w.setRow g (cur.toList.take (Cs.length*z)++news++cur.toList.drop (Cs.length*z+news.length)).toArray) (some g):=zDa w g _
        have hk:yL w (w.setRow g (cur.toList.take (Cs.length*z)++news++cur.toList.drop (Cs.length*z+news.length)).toArray):=
          y9.keepU (v:= .slice (some ⟨g,0,none⟩) Cs.length cap) (Cs:=Cs) (base:=base) (e:=e) (z:=z) (.inr ⟨g,cap,cur,rfl,g2,g3,g4,g5,g6,g7,g8⟩) hgr
        have hcl:cur.toList.length=cap*z:=g6
        have hle:Cs.length*z<=cur.toList.length:=by rw [hcl];exact rL _ g4
        have htl:(cur.toList.take (Cs.length*z)).length=Cs.length*z:=by rw [rX,Nat.min_eq_left hle]
        have hsub: ∀u,u∈cur.toList->yA u=true:=nZ.1 g7
        refine ⟨_,_,hr, .inr ⟨g,cap,_,by rw [pV],g2,setRow_heap w g cur _ e _ g3,by rw [pV];exact hroom,g5, ?_, ?_, ?_⟩,hgr, .inl rfl⟩
        . simp only [rV,pV,rX,rN,Array.length_toList]
          rw [<-g6]
          omega
        . exact zH4 (nZ.2 fun u hu=>hsub u (List.mem_of_mem_take hu)) n4 (nZ.2 fun u hu=>hsub u (List.mem_of_mem_drop hu))
        . refine zDs htl n1 (fun j C hj=> ?_) n5 hk
          have hlt:j<Cs.length:=(pX.1 hj).1
          have h1:=g8 j C hj
          rw [<-List.take_append_drop (Cs.length*z) cur.toList,zCV htl hlt] at h1
          exact h1
      . have htl:(cur.toList.take (Cs.length*z)).length=Cs.length*z:=by
          rw [rX,show cur.toList.length=cap*z from g6,Nat.min_eq_left (rL _ g4)]
        have holds: ∀j u,(cur.toList.take (Cs.length*z))[j]?=some u->w.cell? ((⟨g,0,none⟩:Addr).add j)=some u:=fun j u hj=>by
          rw [pR,Nat.zero_add]
          rw [List.getElem?_take] at hj
          split at hj
          . unfold World.cell?
            simp only [g3]
            simpa using hj
          . cases hj
        have hr:=run_append_grow (P:=P) w t ty e i zv ht hi hz ⟨g,0,none⟩ Cs.length cap (cur.toList.take (Cs.length*z)) (by rw [hs];exact htl) holds ad Ds.length c news (by rw [hs];exact n1) n2 oN oN (growslice_fits oN hbb)
        have hgr:=grown cap (cur.toList.take (Cs.length*z)) (Value.ownBlock (.slice (some ⟨g,0,none⟩) Cs.length cap)) htl (nZ.2 fun u hu=>nZ.1 g7 u (List.mem_of_mem_take hu)) (fun j C hj=>by
          have hlt:j<Cs.length:=(pX.1 hj).1
          have h1:=g8 j C hj
          rw [<-List.take_append_drop (Cs.length*z) cur.toList,zCV htl hlt] at h1
          exact h1) oN
        exact ⟨_,_,hr,hgr.1,hgr.2, .inr rfl⟩
section
variable {S:Nat->Prop} {F:Fence} {m:Nat} {P:Wf} {Q:Exit->Act->W8->Prop} {w0 w1:W8} {K K0:List (Nat×KF)} {B B0:List Bx} {n n0:Nat} {ds ds0:List Deferred} {a a0:Act} {w:W8}
theorem wW {S':Nat->Prop} {w':W8}: ∀(B:List Bx),(∀x,x∈B->x.r=true)->y5 S w0 a w B->y5 S' w' a w B
 | [],_,_=>trivial
 |x::B,hr,⟨⟨cs,h1,_,h3⟩,h4⟩=>⟨⟨cs,h1, .inl (hr x (by simp)),h3⟩,wW B (fun y hy=>hr y (by simp [hy])) h4⟩
def frz (B:List Bx):List Bx:=B.map fun x=>⟨x.t,x.e,x.c,x.b,true⟩
theorem y5.freeze: ∀(B:List Bx),y5 S w0 a w B->y5 S w0 a w (frz B)
 | [],_=>trivial
 |x::B,⟨⟨cs,h1,_,h3,h4,h5,h6⟩,h7⟩=>⟨⟨cs,h1, .inl rfl,h3,h4,h5,fun y hy=>by
  obtain ⟨z,hz,rfl⟩:=pU.1 hy
  exact .inr ⟨rfl,rfl⟩⟩,y5.freeze B h7⟩
theorem StS.freeze (h:StS S w0 K B n ds a w):StS S w0 K (frz B) n ds a w:=⟨h.gr,h.size,h.nd,h.sl,y5.freeze B h.bx,h.mks,h.so⟩
theorem StS.below (h:St w0 K B n ds a w):Below w0.heap.size w0 w:=h.gr.below
theorem StS.val (h:StS S w0 K B n ds a w) {t:Nat} {v:Wb} (hm:(t,KF.u (UF.eq v))∈K):a.tmps.getD t undef=v:=h.sl _ hm
theorem StS.resN (h:St w1 K B n [] a w) (hb:Below w0.heap.size w0 w1) {fn:Func} {f:SF} {t:Nat} (hr:fn.results=#[.tmp t]) (hd:f.p (a.tmps.getD t undef) w):bodyPost P fn (Ret w0 f) .ret a w:=by
 refine ⟨h.nd,_, ?_,⟨_,rfl,hd,hb.trans (h.below.mono hb.size)⟩⟩
 simp [results,hr]
theorem wZ (h:St w1 K B n [] a w) (hb:Below w0.heap.size w0 w1) {fn:Func} {f:SF} {t:Nat} (hr:fn.results=#[.tmp t]) (hd: ∀v W,(zAD K B t).p v W->f.p v W):bodyPost P fn (Ret w0 f) .ret a w:=
 h.resN hb hr (hd _ _ (h.at.sl t))
def wE (W:W8) (e:Wc) (z:Nat) (Cs:List CU):SF:=⟨fun v w=>y9 w W.heap.size e z v Cs,fun _ _ _ h hb=>h.below hb⟩
end
section
variable {F:Fence} {m:Nat} {P:Wf} {w0:W8} {ops:Array Oper} {G:Nat->SF} {d:Tmp} {ty:Wc} {pos:String} {aft:Array Edge}
end
section
variable {F:Fence} {m:Nat} {P:Wf} {w0:W8} {ops:Array Oper} {G:Nat->SF} {d:Tmp} {ty:Wc} {pos:String} {aft:Array Edge}
theorem zPS {f:FuncId} {cs:Array We} (h: ∀(b:Act) (W:W8),Below w0.heap.size w0 W->(∀x,x∈cs.toList->(fct G x).p (b.eval x) W)->(G d).p (.func (.func f) #[] (cs.map b.eval)) W):qB F m P w0 ops G ⟨some d, .makeFunc (.func f) #[] cs,ty,pos,aft,none⟩:=
 qQ (fun _ e=>by cases e) (fun _ e=>by cases e) fun b W hb hh=>by
  have:=h b W hb fun x hx=>hh x (by simpa [Op.operands] using hx)
  exact ⟨_,by simp [execOp,Instr.makeFunc],this⟩
theorem zNe {f:FuncId} {x y:We} (h: ∀u v W,Below w0.heap.size w0 W->(fct G x).p u W->(fct G y).p v W->(G d).p (.func (.func f) #[] #[u,v]) W):qB F m P w0 ops G ⟨some d, .makeFunc (.func f) #[] #[x,y],ty,pos,aft,none⟩:=
 zPS fun b W hb hh=>by simpa using h _ _ W hb (hh x (by simp)) (hh y (by simp))
theorem zT {x y:We} {t:Wc} {z:Nat} {Cs:List CU} {i:Nat} {C:CU} (hz:zA2 P t=some z) (hi:Cs[i]?=some C) (hx: ∀v W,Below w0.heap.size w0 W->(fct G x).p v W->(SF.row z Cs).p v W) (hy: ∀v W,(fct G y).p v W->v= .int .i64 (i:Int)) (hd: ∀v W,(wC C.cf).p v W->(G d).p v W:=by exact fun _ _ h=>h):qB F m P w0 ops G ⟨some d, .indexAddr t x y,ty,pos,aft,none⟩:=
 qQ (fun _ e=>by cases e) (fun _ e=>by cases e) fun b W hb hh=>by
  obtain ⟨A,c,e,h2,h3,h4,h5⟩:=hx _ _ hb (hh x (by simp [Op.operands]))
  have e2:=hy _ _ (hh y (by simp [Op.operands]))
  obtain ⟨b',o,cs,rfl,h6,h7⟩:=h5 i C hi
  have hlt:i<Cs.length:=(pX.1 hi).1
  unfold zA2 at hz
  split at hz<;>try cases hz
  rename_i e' hu
  cases hin:P.info? e' with
  |none=>rw [hin] at hz;cases hz
  |some ie=>
   rw [hin] at hz
   simp only [Option.map_some,rP] at hz
   have hel:P.elem t=e':=by simp [Program.elem,hu]
   refine ⟨.pointer (some ⟨b',o+i*z,none⟩), ?_,hd _ _ ⟨b',o+i*z,cs,rfl,h7,h6⟩⟩
   have hb1:(0:Int)<=(i:Int)/\(i:Int)<(Cs.length:Nat):=by omega
   simp only [execOp,e,e2]
   rw [rD,run_indexAt_slice _ _ _ _ _ _ _ (by rw [hel];exact hu),if_pos hb1,hel]
   simp [sizeOf,typeInfo,hin,hz,pR]
theorem qK {x:We} {t:Wc} {z:Nat} {Cs:List CU} (ht:P.underlying t=some (.slice (P.elem t))) (hx: ∀v W,Below w0.heap.size w0 W->(fct G x).p v W->(SF.row z Cs).p v W) (hd: ∀W,(G d).p (.int .i64 (Cs.length:Nat)) W:=by exact fun _=>rfl):qB F m P w0 ops G ⟨some d, .call ⟨.builtin .len,#[x],#[t]⟩,ty,pos,aft,none⟩:=by
 intro b W K Q hb hr hK
 obtain ⟨A,c,e,_⟩:=hx _ _ hb (y6 hr (x:=x) (by simp [Op.operands,Call.operands]))
 refine ⟨fun f hf=>(by
  unfold Oper.about at hf
  simp [resolve,go_sem] at hf), ?_⟩
 rw [pF _ _ _ (fun _ e=>by cases e)]
 have:(execOp b.eval ⟨some d, .call ⟨.builtin .len,#[x],#[t]⟩,ty,pos,aft,none⟩).run P W= .ok (.value (.int .i64 (Cs.length:Nat))) W:=by
  simp [execOp,resolve,invoke,builtin,e,run_len_slice _ _ _ _ _ _ ht,goInt]
 rw [this]
 exact hK _ _ (fun d' e'=>by cases e';exact hd _) (pD _ _)
end
section
variable {F:Fence} {m:Nat} {P:Wf} {ops:Array Oper} {Q:Exit->Act->W8->Prop}
end
section
variable {S:Nat->Prop} {F:Fence} {m:Nat} {P:Wf} {ops:Array Oper} {Q:Exit->Act->W8->Prop} {w0:W8} {K:List (Nat×KF)} {B:List Bx} {n:Nat} {ds:List Deferred} {a:Act} {w:W8}
end
section
variable {S:Nat->Prop} {w0:W8} {K:List (Nat×KF)} {B:List Bx} {n:Nat} {ds:List Deferred} {a:Act} {w:W8}
end
section
variable {F:Fence} {n:Nat} {P:Wf} {ops:Array Oper} {Q:Exit->Act->W8->Prop}
variable {listed0:Array Bool} {A:Nat->Bool} {E:Nat->Wb->W8->Prop} {C:W8->Prop} {a0:Act}
end
section
variable {S:Nat->Prop} {w0:W8} {K:List (Nat×KF)} {B:List Bx} {n:Nat} {ds:List Deferred} {a:Act} {w:W8} {F:Fence} {m:Nat} {P:Wf} {ops:Array Oper} {Q:Exit->Act->W8->Prop}
end
section
variable {w0:W8} {P:Wf} {ops:Array Oper} {G:Nat->SF} {d:Tmp} {ty:Wc} {pos:String} {aft:Array Edge}
section
variable {l:Wb} {x y:We} {t:Wc} {z:Nat} {Cs:List CU} {i:Nat} {C:CU}
end
end
section
variable {S:Nat->Prop} {w0:W8} {K:List (Nat×KF)} {B:List Bx} {n:Nat} {ds:List Deferred} {a:Act} {w:W8} {F:Fence} {m:Nat} {P:Wf} {ops:Array Oper} {Q:Exit->Act->W8->Prop}
end
section
variable {S:Nat->Prop} {w0:W8} {K:List (Nat×KF)} {B:List Bx} {n:Nat} {ds:List Deferred} {a:Act} {w:W8} {F:Fence} {m:Nat} {P:Wf} {ops:Array Oper} {Q:Exit->Act->W8->Prop} {wb:W8} {CW:W8->Prop} {D:List Nat}
theorem zHs {o:Oper} (h:o.guard=none):Region.wanted o (yielded ops a.tmps)=true:=by unfold Region.wanted;rw [h]
end
section
variable {F:Fence} {m:Nat} {P:Wf} {w0:W8} {ops:Array Oper} {G:Nat->SF} {d:Tmp} {ty:Wc} {pos:String} {aft:Array Edge}
def wU (W:W8) (e:Wc):SF:=⟨fun v w=> ∃g,v= .slice (some ⟨g,0,none⟩) 0 0/\W.heap.size<=g/\w.heap[g]?=some (.cells #[] e (0,0)),fun _ _ _ ⟨g,h1,h2,h3⟩ hb=>⟨g,h1,h2,(hb.block g (pM.1 h3).1).trans h3⟩⟩
theorem zGY {t e:Wc} {z:Nat} (happ:zE7 P t=some (e,z,true)) (hd: ∀v W,(wU w0 e).p v W->(G d).p v W:=by exact fun _ _ h=>h):qB F m P w0 ops G ⟨some d, .buildSlice t 0 #[],ty,pos,aft,none⟩:=
 zK1 (fun _ e=>by cases e) (fun _ e=>by cases e) fun b W hb hh=>by
  obtain ⟨ht,i,zv,hi,hz,hs,hby0,hzs,hzn,hz0⟩:=zCB happ
  refine ⟨.slice (some ⟨W.heap.size,0,none⟩) 0 0, .cells #[] e, ?_,hd _ _ ⟨W.heap.size,rfl,hb.size,heap_alloc_new W _⟩⟩
  simp [execOp,Instr.buildSlice,pH ht,sizeOf,typeInfo,hi,newRow,Instr.fill]
  congr 2
  exact Array.eq_empty_of_size_eq_zero (by simp)
theorem zK3 {x y:We} {t e:Wc} {z:Nat} (Ds:List CU) (happ:zE7 P t=some (e,z,true)) (hx: ∀v W,(fct G x).p v W->(wU w0 e).p v W) (hy: ∀v W,Below w0.heap.size w0 W->(fct G y).p v W->(SF.row z Ds).p v W) (hD: ∀C,C∈Ds->CU.ok z C) (hsz:Ds.length<=140000000000) (hd: ∀v W,(wE w0 e z Ds).p v W->(G d).p v W:=by exact fun _ _ h=>h):qB F m P w0 ops G ⟨some d, .call ⟨.builtin .append,#[x,y],#[t,t]⟩,ty,pos,aft,none⟩:=by
 intro bb W K Q hb hr hK
 obtain ⟨g,ex,hg,hgc⟩:=hx _ _ (y6 hr (x:=x) (by simp [Op.operands,Call.operands]))
 have h2:=hy _ _ hb (y6 hr (x:=y) (by simp [Op.operands,Call.operands]))
 obtain ⟨ht,i,zv,hi,hz,hs,hby0,hzs,hzn,hz0⟩:=zCB happ
 have hemp:y9 W w0.heap.size e z (.slice (some ⟨g,0,none⟩) 0 0) []:= .inr ⟨g,0,#[],rfl,hg,hgc,pE _,Nat.zero_le _,by simp,rfl,fun i C hi=>by simp at hi⟩
 refine ⟨fun f hf=>(by
  unfold Oper.about at hf
  simp [resolve,go_sem] at hf), ?_⟩
 rw [pF _ _ _ (fun _ e=>by cases e)]
 have hev: ∀v' W',(Builtin.append_ #[t,t] ty #[.slice (some ⟨g,0,none⟩) 0 0,bb.eval y]).run P W= .ok v' W'->(execOp bb.eval ⟨some d, .call ⟨.builtin .append,#[x,y],#[t,t]⟩,ty,pos,aft,none⟩).run P W= .ok (.value v') W':=fun v' W' h=>by
  simp only [execOp,resolve,invoke,builtin,rD,Sem.run_pure,Result.andThen_ok,List.map_toArray,pW,List.map_nil,ex,h]
 by_cases h0:Ds= []
 ·subst h0
  obtain ⟨A,c,ey,hlc,hcm,hAn,hel⟩:=h2
  have hrun:(Builtin.append_ #[t,t] ty #[.slice (some ⟨g,0,none⟩) 0 0,bb.eval y]).run P W= .ok (.slice (some ⟨g,0,none⟩) 0 0) W:=by
   rw [ey]
   cases A with
   |none=>simp [Builtin.append_,pH ht,sizeOf,typeInfo,hi,Builtin.lenOf,Builtin.firstCells,storeCells]
   |some ad=>simp [Builtin.append_,pH ht,sizeOf,typeInfo,hi,Builtin.lenOf,Builtin.firstCells,loadCells,loadCellsFrom,storeCells]
  rw [hev _ _ hrun]
  exact hK _ _ (fun d' e'=>by cases e';exact hd _ _ hemp) (pD _ _)
 ·have h0:0<Ds.length:=List.length_pos_iff.2 h0
  have hmx:Ds.length<=maxLen:=by unfold maxLen;omega
  have hbb:Ds.length*i.bytes<=140737488355328:=pK (Nat.mul_le_mul hsz hby0) (by decide)
  obtain ⟨A,c,ey,hlc,hcm,hAn,hel⟩:=h2
  obtain ⟨D,Ds',rfl⟩: ∃D Ds',Ds=D::Ds':=by
   cases Ds with
   |nil=>simp at h0
   |cons D Ds'=>exact ⟨D,Ds',rfl⟩
  obtain ⟨b',o',cs',rfl,_⟩:=hel 0 D rfl
  obtain ⟨news,n1,n2,n3,n4,n5⟩:=zEs (W:=W) (b:=b') (z:=z) (D::Ds') o' hD fun i C hiC=>by
   obtain ⟨b'',o'',cs'',e',m1,m2⟩:=hel i C hiC
   cases e'
   exact ⟨cs'',m1,m2⟩
  have hgr:=run_append_grow (P:=P) W t ty e i zv ht hi hz ⟨g,0,none⟩ 0 0 [] (by simp) (by simp) ⟨b',o',none⟩ (D::Ds').length c news (by rw [hs];exact n1) (fun j u hj=>by rw [pR];exact n2 j u hj) oN oN (growslice_fits oN (by simpa using hbb))
  simp only [Nat.zero_add,Array.empty_append] at hgr
  have hge:=grownCap_ge W (D::Ds').length 0 e
  have hcm':grownCap W (D::Ds').length 0 e<=maxLen:=grownCap_le_maxLen W (D::Ds').length 0 e hmx
  rw [hev _ _ (by rw [ey];exact hgr)]
  have hbw:Below W.heap.size W (W.drew.alloc (.cells (news.toArray++Builtin.zeroCells zv.cells (grownCap W (D::Ds').length 0 e - (D::Ds').length)) e)):=⟨rfl,rfl,rfl,by simp,fun k hk=>heap_alloc_old W.drew _ hk⟩
  refine hK _ _ (fun d' e'=>by
   cases e'
   refine hd _ _ (.inr ⟨W.heap.size,_,_,rfl,hb.size,heap_alloc_new W.drew _,hge,hcm', ?_, ?_, ?_⟩)
   ·simp only [Array.size_append,rV,size_zeroCells,hzs,n1, <-pQ]
    congr 1
    omega
   ·rw [rW,rK,n4,zBZ hzn];rfl
   ·have:=zDs (Cs:= []) (cs:= []) (es:=(Builtin.zeroCells zv.cells (grownCap W (D::Ds').length 0 e - (D::Ds').length)).toList) (by simp) n1 (by simp) n5 (zK hbw)
    simpa using this) hbw
end
end Go.Proofs.Wd
