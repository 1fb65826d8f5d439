/- Natural numbers as values, and what prod and the references answer of  and what it needs. -/
import Derived.Test.YtencnknhnckpaaaGreatDoorMRL13
import Derived.Test.YtencnknhnckpaaaGreatDoorMRL7
import Derived.Test.YtencnknhnckpaaaGreatDoorMRL17
import Derived.Test.YtencnknhnckpaaaGreatDoorMRL6
import Derived.Test.YtencnknhnckpaaaGreatDoorMRL3
import Derived.Test.YtencnknhnckpaaaGreatDoorMRL9
import Derived.Test.YtencnknhnckpaaaGreatDoorMRL1
theorem kG {P:Prop} (h:P:=by kernel_rfl):P:=h
theorem oN {P:Prop} (h:P:=by omega):P:=h
abbrev nX:=@List.all_eq_true
abbrev nY:=@List.mem_range
abbrev nZ:=@Bool.and_eq_true
abbrev pA:=@Go.getD_set_ne
abbrev pB:=@Go.RowKit.Below.refl
abbrev pC:=@Nat.le_refl
abbrev pD:=@Array.getD_eq_getD_getElem?
abbrev pE:=@Go.Oper.semAt_eq
abbrev pF:=@beq_iff_eq
abbrev pG:=@decide_eq_true_eq
abbrev pH:=@List.mem_cons
abbrev pI:=@Bool.not_eq_true'
abbrev pJ:=@List.any_eq_true
abbrev pK:=@congrArg
abbrev pL:=@Nat.le_trans
abbrev pM:=@Nat.lt_or_ge
abbrev pN:=@Array.getElem?_eq_some_iff
abbrev pP:=@List.mem_map
abbrev pQ:=@Nat.add_mul
abbrev pR:=@List.length_append
abbrev pS:=@Go.Addr.add_lit
abbrev pT:=@List.getElem?_eq_some_iff
abbrev pU:=@Nat.eq_of_beq_eq_true
abbrev pV:=@List.contains_iff_mem
abbrev pW:=@Array.getElem?_eq_none
abbrev pX:=@Array.getElem?_eq_getElem
abbrev pY:=@Go.mem_ready
abbrev pZ:=@List.map_cons
abbrev rA:=@Go.run_underlying
abbrev rB:=@Nat.beq_refl
abbrev rC:=@Classical.choose_spec
abbrev rD:=@Bool.true_or
abbrev rE:=@List.mem_cons_self
abbrev rF:=@List.mem_cons_of_mem
abbrev rG:=@Go.World.putObj_heap_other
abbrev rH:=@Nat.mul_le_mul_right
abbrev rI:=@Nat.lt_of_lt_of_le
abbrev rJ:=@List.length_drop
abbrev rK:=@List.take_of_length_le
abbrev rL:=@Option.some.injEq
abbrev rM:=@List.any_eq_false
abbrev rN:=@List.mem_append
abbrev rO:=@decide_eq_true
abbrev rP:=@List.foldl_cons
abbrev rQ:=@List.all_append
abbrev rR:=@List.nil_append
abbrev rS:=@List.length_take
abbrev rT:=@Array.getElem?_replicate
abbrev rU:=@List.getElem?_append_left
abbrev rV:=@List.getElem?_append_right
abbrev rW:=@List.take_append_of_le_length
abbrev W8:=Go.World
abbrev Wb:=Go.Value
abbrev Wc:=Go.TypeId
abbrev We:=Go.Operand
abbrev Wf:=Go.Program
namespace Go.Proofs.Wd
open Tryz
open Go.RowKit Lb
def LV (W:W8) (m:Nat) (v:Wb) (x:Nat):Prop:= ∃A n c l,v= .slice A n c/\Rd W A n c l/\Lt l/\n<=m/\val l=x
theorem LV.below {W W':W8} {m:Nat} {v:Wb} {x:Nat} (h:LV W m v x) (hb:Below W.heap.size W W'):LV W' m v x:=by
 obtain ⟨A,n,c,l,rfl,h1,h2⟩:=h
 exact ⟨A,n,c,l,rfl,h1.below hb,h2⟩
theorem LV.mono {W:W8} {m m':Nat} {v:Wb} {x:Nat} (h:LV W m v x) (hm:m<=m'):LV W m' v x:=by
 obtain ⟨A,n,c,l,rfl,h1,h2,h3,h4⟩:=h
 exact ⟨A,n,c,l,rfl,h1,h2,by omega,h4⟩
theorem LV.bound {W:W8} {m:Nat} {v:Wb} {x:Nat} (h:LV W m v x):x<BB^m:=by
 obtain ⟨A,n,c,l,rfl,h1,h2,h3,rfl⟩:=h
 exact rI (qH h2) (Nat.pow_le_pow_right yY (by rw [h1.len];exact h3))
theorem q7.lv {W:W8} {v:Wb} {x m:Nat} (h:q7 W v x) (hx:x<BB^m):LV W m v x:=by
 obtain ⟨A,n,c,l,rfl,h1,h2⟩:=h
 exact ⟨A,n,c,l,rfl,h2,h1.lt,by rw [<-h2.len];exact h1.len hx,h1.val⟩
def zL3 (w:W8) (x:Nat):Ending->W8->Prop:=fun e w'=> ∃v,e= .returned v/\q7 w' v x/\Below w.heap.size w w'
theorem q8.v {w:W8} {x:Nat} {e:Ending} {w':W8} (h:q8 w x e w'):zL3 w x e w':=by
 obtain ⟨A,n,c,l,rfl,h1,h2,h3⟩:=h
 exact ⟨_,rfl,⟨A,n,c,l,rfl,h1,h2⟩,h3⟩
theorem zR9 {W:W8} {m:Nat} {v v':Wb} {a b:Nat} (h:LV W m v a) (h':LV W m v' b) (hm:m<=40000):Calls prog 77 #[v,v'] W (zL3 W (a*b)):=by
 obtain ⟨A,n,c,l,rfl,h1,h2,h3,rfl⟩:=h
 obtain ⟨A',n',c',l',rfl,h1',h2',h3',rfl⟩:=h'
 exact (zKZ A n c l A' n' c' l' W h1 h1' h2 h2' oN oN).mono fun _ _=>q8.v
def zS1 (w:W8) (x y:Nat):Ending->W8->Prop:=fun e w'=> ∃v v',e= .returned (.tuple #[v,v'])/\q7 w' v x/\q7 w' v' y/\Below w.heap.size w w'
theorem LV.open {W:W8} {m:Nat} {v:Wb} {x:Nat} (h:LV W m v x): ∃A n c,v= .slice A n c/\n<=m/\n<=c/\c<=9223372036854775807/\LV W m (.slice A n c) x:=by
 obtain ⟨A,n,c,l,rfl,h1,h2,h3,h4⟩:=h
 exact ⟨A,n,c,rfl,h3,h1.le,h1.cap,⟨A,n,c,l,rfl,h1,h2,h3,h4⟩⟩
def zS2 (w:W8) (a b:Nat):Ending->W8->Prop:=fun e w'=> ∃v v',e= .returned (.tuple #[v,v', .int .i64 0])/\q7 w' v (a / b)/\q7 w' v' (a % b)/\Below w.heap.size w w'
theorem zQF {W:W8} {m:Nat} {v v':Wb} {a b:Nat} (h:LV W m v a) (h':LV W m v' b) (hm:m<=10000) (h0:0<b):Calls prog 81 #[v,v'] W (zS2 W a b):=by
 obtain ⟨A,n,c,l,rfl,h1,h2,h3,rfl⟩:=h
 obtain ⟨A',n',c',l',rfl,h1',h2',h3',rfl⟩:=h'
 refine (zMJ A n c l A' n' c' l' W h1 h1' h2 h2' oN oN h0).mono ?_
 rintro e w' ⟨A1,n1,c1,l1,A2,n2,c2,l2,rfl,i1,r1,i2,r2,hb⟩
 exact ⟨_,_,rfl,⟨A1,n1,c1,l1,rfl,i1,r1⟩,⟨A2,n2,c2,l2,rfl,i2,r2⟩,hb⟩
theorem zQH {W:W8} {m:Nat} {v v':Wb} {a b:Nat} (h:LV W m v a) (h':LV W m v' b):Calls prog 101 #[v,v'] W fun e w'=>e= .returned (.int .i64 (zAk a b))/\W=w':=by
 obtain ⟨A,n,c,l,rfl,h1,h2,h3,rfl⟩:=h
 obtain ⟨A',n',c',l',rfl,h1',h2',h3',rfl⟩:=h'
 exact zDT A n c l A' n' c' l' W h1 h1' h2 h2'
theorem zO9 {W:W8} {m:Nat} {A:Option Addr} {n c:Nat} {A':Option Addr} {n' c':Nat} {x y:Nat} (h:LV W m (.slice A n c) x) (h':LV W m (.slice A' n' c') y) (hm:m<=10000) (t:Wc):
  Calls prog 98 #[.slice (some ⟨W.heap.size,0,none⟩) 2 2] (W.alloc (.cells #[.slice A n c, .slice A' n' c'] t)) (zL3 (W.alloc (.cells #[.slice A n c, .slice A' n' c'] t)) (x+y)):=by
 obtain ⟨A1,n1,c1,l,e1,h1,h2,h3,rfl⟩:=h
 obtain ⟨A2,n2,c2,l',e2,h1',h2',h3',rfl⟩:=h'
 cases e1
 cases e2
 have:=zDU _ 2 2 _ _ (Rds.two h1 h2 oN h1' h2' oN t) (by decide)
 simp only [pZ,List.map_nil,List.sum_cons,List.sum_nil,Nat.add_zero] at this
 exact this.mono fun _ _=>q8.v
def jC (x:Nat):UF:= .mk' (fun v w=>q7 w v x) fun _ _ _ ⟨A,n,c,l,e,h1,h2⟩ k=>⟨A,n,c,l,e,h1,h2.keepU k⟩
def fLV (m x:Nat):UF:= .mk' (fun v w=>LV w m v x) fun _ _ _ ⟨A,n,c,l,e,h1,h2⟩ k=>⟨A,n,c,l,e,h1.keepU k,h2⟩
def fNV (k:Int):UF:= .mk' (fun v w=>NV w v k) fun _ _ _ ⟨A,n,c,l,e,h1,h2⟩ k=>⟨A,n,c,l,e,h1,h2.keepU k⟩
def fUV (m:Nat) (k:Int):UF:= .mk' (fun v w=>UV w m v k) fun _ _ _ ⟨s,A,n,c,l,e,h1,h2⟩ k=>⟨s,A,n,c,l,e,h1.keepU k,h2⟩
def fB (b:Bool):UF:= .eq (.bool b)
def fI (z:Int):UF:= .eq (.int .i64 z)
theorem zRF {F:Fence} {m:Nat} {P:Wf} {w0:W8} {ops:Array Oper} {G:Nat->SF} {o:Oper} {l:List Oper} (h:qP F m P w0 ops G o) (k:Obs F m P w0 ops G l):Obs F m P w0 ops G (o::l):=⟨h,k⟩
theorem oc {F:Fence} {m:Nat} {P:Wf} {w0:W8} {ops:Array Oper} {G:Nat->SF} {o:Oper} {l:List Oper} (h:qP F m P w0 ops G o) (k:Obs F m P w0 ops G l):Obs F m P w0 ops G (o::l):=⟨h,k⟩
theorem lr {n:Nat}:n<=n:=pC n
theorem arf {α:Sort _} {a:α} {p:Prop}:a≠a->p:=fun e=>absurd rfl e
abbrev zP6:List Wb:= [.bool false, .slice none 0 0, .slice none 0 0, .bool false, .slice none 0 0, .slice none 0 0]
abbrev zR3:List Wb:= [.bool false, .slice none 0 0, .slice none 0 0]
theorem fmz {α:Type} {p:α->Prop} {a:α} {l:List α} (h:p a/\ ∀x,x∈l->p x): ∀x,x∈a::l->p x:=List.forall_mem_cons.2 h
theorem fnz {α:Type} {p:α->Prop}: ∀x,x∈([]:List α)->p x:=List.forall_mem_nil p
theorem iiz {α β:Type} {p:α->β->Prop}: ∀a b,p a b->p a b:=fun _ _ h=>h
theorem mz1 {α:Type} {a b0:α} {l:List α}:a∈b0::a::l:= .tail _ (.head _)
theorem mz2 {α:Type} {a b0 b1:α} {l:List α}:a∈b0::b1::a::l:= .tail _ (.tail _ (.head _))
theorem mz3 {α:Type} {a b0 b1 b2:α} {l:List α}:a∈b0::b1::b2::a::l:= .tail _ (.tail _ (.tail _ (.head _)))
theorem mz4 {α:Type} {a b0 b1 b2 b3:α} {l:List α}:a∈b0::b1::b2::b3::a::l:= .tail _ (.tail _ (.tail _ (.tail _ (.head _))))
theorem mz5 {α:Type} {a b0 b1 b2 b3 b4:α} {l:List α}:a∈b0::b1::b2::b3::b4::a::l:= .tail _ (.tail _ (.tail _ (.tail _ (.tail _ (.head _)))))
theorem mz6 {α:Type} {a b0 b1 b2 b3 b4 b5:α} {l:List α}:a∈b0::b1::b2::b3::b4::b5::a::l:= .tail _ (.tail _ (.tail _ (.tail _ (.tail _ (.tail _ (.head _))))))
theorem mz7 {α:Type} {a b0 b1 b2 b3 b4 b5 b6:α} {l:List α}:a∈b0::b1::b2::b3::b4::b5::b6::a::l:= .tail _ (.tail _ (.tail _ (.tail _ (.tail _ (.tail _ (.tail _ (.head _)))))))
theorem mz8 {α:Type} {a b0 b1 b2 b3 b4 b5 b6 b7:α} {l:List α}:a∈b0::b1::b2::b3::b4::b5::b6::b7::a::l:= .tail _ (.tail _ (.tail _ (.tail _ (.tail _ (.tail _ (.tail _ (.tail _ (.head _))))))))
theorem mz9 {α:Type} {a b0 b1 b2 b3 b4 b5 b6 b7 b8:α} {l:List α}:a∈b0::b1::b2::b3::b4::b5::b6::b7::b8::a::l:= .tail _ (.tail _ (.tail _ (.tail _ (.tail _ (.tail _ (.tail _ (.tail _ (.tail _ (.head _)))))))))
theorem zHJ {α:Type} {a b0 b1 b2 b3 b4 b5 b6 b7 b8 b9:α} {l:List α}:a∈b0::b1::b2::b3::b4::b5::b6::b7::b8::b9::a::l:= .tail _ (.tail _ (.tail _ (.tail _ (.tail _ (.tail _ (.tail _ (.tail _ (.tail _ (.tail _ (.head _))))))))))
theorem zJP {α:Type} {a b0 b1 b2 b3 b4 b5 b6 b7 b8 b9 b10:α} {l:List α}:a∈b0::b1::b2::b3::b4::b5::b6::b7::b8::b9::b10::a::l:= .tail _ (.tail _ (.tail _ (.tail _ (.tail _ (.tail _ (.tail _ (.tail _ (.tail _ (.tail _ (.tail _ (.head _)))))))))))
theorem zL8 {α:Type} {a b0 b1 b2 b3 b4 b5 b6 b7 b8 b9 b10 b11:α} {l:List α}:a∈b0::b1::b2::b3::b4::b5::b6::b7::b8::b9::b10::b11::a::l:= .tail _ (.tail _ (.tail _ (.tail _ (.tail _ (.tail _ (.tail _ (.tail _ (.tail _ (.tail _ (.tail _ (.tail _ (.head _))))))))))))
theorem zOl {α:Type} {a b0 b1 b2 b3 b4 b5 b6 b7 b8 b9 b10 b11 b12:α} {l:List α}:a∈b0::b1::b2::b3::b4::b5::b6::b7::b8::b9::b10::b11::b12::a::l:= .tail _ (.tail _ (.tail _ (.tail _ (.tail _ (.tail _ (.tail _ (.tail _ (.tail _ (.tail _ (.tail _ (.tail _ (.tail _ (.head _)))))))))))))
theorem zR8 {α:Type} {a b0 b1 b2 b3 b4 b5 b6 b7 b8 b9 b10 b11 b12 b13:α} {l:List α}:a∈b0::b1::b2::b3::b4::b5::b6::b7::b8::b9::b10::b11::b12::b13::a::l:= .tail _ (.tail _ (.tail _ (.tail _ (.tail _ (.tail _ (.tail _ (.tail _ (.tail _ (.tail _ (.tail _ (.tail _ (.tail _ (.tail _ (.head _))))))))))))))
theorem zJO {α:Type} {a b0 b1 b2 b3 b4 b5 b6 b7 b8 b9 b10 b11 b12 b13 b14:α} {l:List α}:a∈b0::b1::b2::b3::b4::b5::b6::b7::b8::b9::b10::b11::b12::b13::b14::a::l:= .tail _ (.tail _ (.tail _ (.tail _ (.tail _ (.tail _ (.tail _ (.tail _ (.tail _ (.tail _ (.tail _ (.tail _ (.tail _ (.tail _ (.tail _ (.head _)))))))))))))))
theorem zE {F:Fence} {m:Nat} {P:Wf} {w0:W8} {ops:Array Oper} {G:Nat->SF}:Obs F m P w0 ops G []:=trivial
def CF.at (C:CF) (k:Nat):CF:=⟨fun cs w=> ∃ds,C.p ds w/\cs=ds.drop k,fun _ _ _ ⟨ds,h1,h2⟩ hb=>⟨ds,C.st _ _ _ h1 hb,h2⟩⟩
abbrev Rw.X (f:UF) (n:Nat):Rw:=.s (wB ((CU.agg f).cf.at n))
abbrev Rw.Y (f:UF):Rw:=.s (wB (cg f))
section
variable {F:Fence} {m:Nat} {P:Wf} {w0:W8} {ops:Array Oper} {G:Nat->SF} {d:Tmp} {ty:Wc} {pos:String} {aft:Array Edge}
theorem zS {x:We} {s:Wc} {f:Nat} {C:CF} (k:Nat) (hk:zBy P s f=some k) (hx: ∀v W,(fct G x).p v W->(wB C).p v W:=by first|exact fun _ _ h=>h|exact fun _ _ h=>h.2) (hd: ∀v W,(wB (C.at k)).p v W->(G d).p v W:=by exact fun _ _ h=>h):qP F m P w0 ops G ⟨some d, .fieldAddr s x f,ty,pos,aft,none⟩:=
 zIK (C':=C.at k) k hk hx (fun cs _ h=>⟨cs,h,rfl⟩) hd
theorem qU {x:We} {s:Wc} {f:Nat} {C:CF} (i k:Nat) (hk:zBy P s f=some k) (hx: ∀v W,(fct G x).p v W->(wB (C.at i)).p v W:=by exact fun _ _ h=>h) (hd: ∀v W,(wB (C.at (i+k))).p v W->(G d).p v W:=by exact fun _ _ h=>h):qP F m P w0 ops G ⟨some d, .fieldAddr s x f,ty,pos,aft,none⟩:=
 zIK (C':=C.at (i+k)) k hk hx (fun cs _ ⟨ds,h1,h2⟩=>⟨ds,h1,by rw [h2,List.drop_drop]⟩) hd
theorem yN {x:We} {t:Wc} {C:CF} {k:Nat} (hk:zBW P t=true) (hx: ∀v W,(fct G x).p v W->(wB (C.at k)).p v W:=by exact fun _ _ h=>h) (h: ∀cs W,C.p cs W-> ∃u,cs[k]?=some u/\(G d).p u W):qP F m P w0 ops G ⟨some d, .load t x,ty,pos,aft,none⟩:=
 yG hk hx fun cs W ⟨ds,h1,h2⟩=>let ⟨u,h3,h4⟩:=h ds W h1;⟨u,by rw [h2,List.getElem?_drop];exact h3,h4⟩
theorem zAw {x:We} {t:Wc} {C:CF} {k:Nat} (z:Nat) (hk:zAl P t=some z) (hx: ∀v W,(fct G x).p v W->(wB (C.at k)).p v W:=by exact fun _ _ h=>h) (h: ∀cs W,C.p cs W->k+z<=cs.length/\(G d).p (.agg ((cs.drop k).take z).toArray) W):qP F m P w0 ops G ⟨some d, .load t x,ty,pos,aft,none⟩:=
 zII z hk hx fun cs W ⟨ds,h1,h2⟩=>let ⟨h3,h4⟩:=h ds W h1;⟨by rw [h2,rJ];omega,by rw [h2];exact h4⟩
theorem yP {x:We} {t:Wc} {f:UF} (z:Nat) (hk:zAl P t=some z) (hx: ∀v W,(fct G x).p v W->(wB (cg f)).p v W:=by first|exact fun _ _ h=>h|exact fun _ _ h=>h.2) (hz: ∀cs:List Wb, ∀W,f.p (.agg cs.toArray) W->cs.length=z) (hd: ∀v W,f.p v W->(G d).p v W:=by exact fun _ _ h=>h):qP F m P w0 ops G ⟨some d, .load t x,ty,pos,aft,none⟩:=
 zII z hk hx fun cs W h=>⟨by rw [hz cs W h];exact pC _,by
  have h1:=hz cs W h
  rw [rK oN]
  exact hd _ _ h⟩
theorem zBl {x:We} {a:Addr} (hx: ∀v W,(fct G x).p v W->v= .pointer (some a)) (hd: ∀W,(G d).p (.pointer (some a)) W:=by exact fun _=>rfl):qP F m P w0 ops G ⟨some d, .nilCheck x,ty,pos,aft,none⟩:=
 qT (fun _ e=>by cases e) (fun _ e=>by cases e) fun b W hb hh=>by
  have e:=hx _ _ (hh x (by simp [Op.operands]))
  exact ⟨.pointer (some a),by simp [execOp,e],hd W⟩
theorem zA4 {x:We} {s:Wc} {f:Nat} {b o:Nat} (k:Nat) (hk:zBy P s f=some k) (hx: ∀v W,(fct G x).p v W->v= pO b o) (hd: ∀W,(G d).p (.pointer (some ⟨b,o+k,none⟩)) W:=by exact fun _=>rfl):qP F m P w0 ops G ⟨some d, .fieldAddr s x f,ty,pos,aft,none⟩:=
 qT (fun _ e=>by cases e) (fun _ e=>by cases e) fun c W hb hh=>by
  have e:=hx _ _ (hh x (by simp [Op.operands]))
  refine ⟨.pointer (some ⟨b,o+k,none⟩), ?_,hd W⟩
  unfold zBy at hk
  split at hk<;>try cases hk
  rename_i fs hu
  split at hk<;>try cases hk
  rename_i f' hf
  split at hk<;>try cases hk
  rename_i i hi
  split at hk<;>try cases hk
  rename_i hz
  simp [execOp,Instr.fieldAt,rA hu,hf,e,Instr.sureAddr,fieldPlace,sizeOf,typeInfo,hi,hz,pS]
theorem wG {W:W8} {f g:SF} (h: ∀v W,f.p v W->g.p v W): ∀e W',Ret W f e W'->Ret W g e W':=fun _ _ ⟨v,e,h1,h2⟩=>⟨v,e,h _ _ h1,h2⟩
end
theorem zAW {xs ys:Array Wb} (h:Value.agg xs=Value.agg ys):xs=ys:=by injection h
theorem zMl {cs:List Wb} {W:W8} {m:Nat} {k:Int} (h:(fUV m k).p (.agg cs.toArray) W): ∃s A n c,cs= [.bool s, .slice A n c]/\ ∃l,Rd W A n c l/\Lt l/\n<=m/\iv s l=k:=by
 obtain ⟨s,A,n,c,l,e,h1⟩:=h
 have:=pK Array.toList (zAW e)
 exact ⟨s,A,n,c,by simpa using this,l,h1⟩
theorem zFY {cs:List Wb} {W:W8} {k:Int} (h:(fNV k).p (.agg cs.toArray) W): ∃A n c,cs= [.bool (decide (k<0)), .slice A n c]/\ ∃l,Is l k.natAbs/\Rd W A n c l:=by
 obtain ⟨A,n,c,l,e,h1⟩:=h
 have:=pK Array.toList (zAW e)
 exact ⟨A,n,c,by simpa using this,l,h1⟩
theorem zNR (m:Nat) (k:Int): ∀cs:List Wb, ∀W,(fUV m k).p (.agg cs.toArray) W->cs.length=2:=fun cs W h=>by
 obtain ⟨s,A,n,c,rfl,_⟩:=zMl h
 rfl
theorem zOk (k:Int): ∀cs:List Wb, ∀W,(fNV k).p (.agg cs.toArray) W->cs.length=2:=fun cs W h=>by
 obtain ⟨A,n,c,rfl,_⟩:=zFY h
 rfl
theorem zIO {k:Int} (cs:List Wb) (W:W8) (h:(CU.agg (fNV k)).p cs W): ∃u,cs[1]?=some u/\q7 W u k.natAbs:=by
 obtain ⟨A,n,c,rfl,l,h1,h2⟩:=zFY h
 exact ⟨_,rfl,A,n,c,l,rfl,h1,h2⟩
theorem zOj {k:Int} (cs:List Wb) (W:W8) (h:(CU.agg (fNV k)).p cs W): ∃u,cs[0]?=some u/\u= .bool (decide (k<0)):=by
 obtain ⟨A,n,c,rfl,l,h1,h2⟩:=zFY h
 exact ⟨_,rfl,rfl⟩
theorem zNS {m:Nat} {k:Int} {v:Wb} {W:W8} (h:(fUV m k).p v W):(CU.agg (fUV m k)).p v.cells.toList W/\v.cells.toList.all z9=true:=by
 obtain ⟨s,A,n,c,l,rfl,h1⟩:=h
 exact ⟨⟨s,A,n,c,l,rfl,h1⟩,rfl⟩
theorem zFW {k:Int} (v:Wb) (W:W8) (h:(fNV k).p v W): ∃vs:List Wb,v= .agg vs.toArray/\vs.length=2/\(∀u,u∈vs->u.oneCell'=true)/\vs.all z9=true/\(CU.agg (fNV k)).p vs W:=by
 obtain ⟨A,n,c,l,rfl,h1⟩:=h
 exact ⟨[_,_],rfl,rfl,fun u hu=>by simp at hu;rcases hu with rfl|rfl<;>rfl,rfl,A,n,c,l,rfl,h1⟩
theorem NV.nat {W:W8} {v:Wb} {k:Int} (h:NV W v k): ∃A n c,v= .agg #[.bool (decide (k<0)), .slice A n c]/\q7 W (.slice A n c) k.natAbs:=by
 obtain ⟨A,n,c,l,rfl,h1,h2⟩:=h
 exact ⟨A,n,c,rfl,A,n,c,l,rfl,h1,h2⟩
theorem zTw (s:Bool) (A:Option Addr) (n c:Nat):prog.built 30 [(0, .bool s),(1, .slice A n c)]=some #[.bool s, .slice A n c]:=by kernel_rfl
theorem zRt {s:Bool} {u v:Wb} {W:W8} {m x:Nat} (hu:u= .bool s) (hv:q7 W v x) (hx:x<BB^m): ∃cells,prog.built 30 [(0,u),(1,v)]=some cells/\UV W m (.agg cells) (if s then -(x:Int) else x):=by
 obtain ⟨A,n,c,l,rfl,h1,h2⟩:=hv
 subst hu
 refine ⟨_,zTw s A n c,s,A,n,c,l,rfl,h2,h1.lt,by rw [<-h2.len];exact h1.len hx, ?_⟩
 unfold iv
 rw [h1.val]
theorem zQy (s s':Bool) (A A':Option Addr) (n n' c c':Nat):zV prog 100 2 [(0, .agg #[.bool s, .slice A n c]),(1, .agg #[.bool s', .slice A' n' c'])]=some (30,#[.bool s, .slice A n c, .bool s', .slice A' n' c']):=by kernel_rfl
theorem zBA {u v:Wb} {W:W8} {m:Nat} {k k':Int} (hu:UV W m u k) (hv:UV W m v k'): ∃e cs,zV prog 100 2 [(0,u),(1,v)]=some (e,cs)/\ISV (W.alloc (.cells cs e)) m (.slice (some ⟨W.heap.size,0,none⟩) 2 2) [k,k']:=by
 obtain ⟨s,A,n,c,l,rfl,h1,h2,h3,rfl⟩:=hu
 obtain ⟨s',A',n',c',l',rfl,h1',h2',h3',rfl⟩:=hv
 exact ⟨_,_,zQy s s' A A' n n' c c',ISV.two ⟨s,A,n,c,l,rfl,h1,h2,h3,rfl⟩ ⟨s',A',n',c',l',rfl,h1',h2',h3',rfl⟩ _⟩
def zL9 (m:Nat) (ks:List Int):SF:=⟨fun v W=>ISV W m v ks,fun _ _ _ h hb=>h.below hb⟩
def zOq (x:Nat):SF:=⟨fun v _=> ∃n:Nat,v= .int .i64 n/\(x=0↔n=0),fun _ _ _ h _=>h⟩
section
variable {F:Fence} {m:Nat} {P:Wf} {w0:W8} {ops:Array Oper} {G:Nat->SF} {d:Tmp} {ty:Wc} {pos:String} {aft:Array Edge}
theorem jY {x:We} {t:Wc} (ht:P.underlying t=some (.slice (P.elem t))) (h: ∀v W,(fct G x).p v W-> ∃A n c,v= .slice A n c/\(G d).p (.int .i64 (n:Nat)) W):qP F m P w0 ops G ⟨some d, .call ⟨.builtin .len,#[x],#[t]⟩,ty,pos,aft,none⟩:=by
 intro b W K Q hb hr hK
 obtain ⟨A,n,c,e,hd⟩:=h _ _ (qR hr (x:=x) (by simp [Op.operands,Call.operands]))
 refine ⟨fun f hf=>(by
  unfold Oper.about at hf
  simp [resolve,go_sem] at hf), ?_⟩
 rw [pE _ _ _ (fun _ e=>by cases e)]
 have:(execOp b.eval ⟨some d, .call ⟨.builtin .len,#[x],#[t]⟩,ty,pos,aft,none⟩).run P W= .ok (.value (.int .i64 (n:Nat))) W:=by
  simp [execOp,resolve,invoke,builtin,e,run_len_slice _ _ _ _ _ _ ht,goInt]
 rw [this]
 exact hK _ _ (fun d' e'=>by cases e';exact hd) (pB _ _)
theorem zDl {x:We} {t:Wc} {k:Nat} (ht:P.underlying t=some (.slice (P.elem t))) (hx: ∀v W,(fct G x).p v W->q7 W v k) (hd: ∀v W,(zOq k).p v W->(G d).p v W:=by exact fun _ _ h=>h):qP F m P w0 ops G ⟨some d, .call ⟨.builtin .len,#[x],#[t]⟩,ty,pos,aft,none⟩:=
 jY ht fun v W h=>by
  obtain ⟨A,n,c,l,e,h1,h2⟩:=hx v W h
  exact ⟨A,n,c,e,hd _ _ ⟨n,rfl,by rw [<-h2.len];exact h1.zero_iff⟩⟩
theorem zPz {op:BinOp} {t:Wc} {x y:We} {t':Wc} (h: ∀u v W,(fct G x).p u W->(fct G y).p v W-> ∃r,(∀W,(eqGuard op t x y u v).run P W= .ok () W)/\(∀W,(binOp op t u v).run P W= .ok r W)/\(G d).p r W):qP F m P w0 ops G ⟨some d, .binOp op t x y t',ty,pos,aft,none⟩:=
 qT (fun _ e=>by cases e) (fun _ e=>by cases e) fun b W hb hh=>by
  obtain ⟨r,h1,h2,h3⟩:=h _ _ W (hh x (by simp [Op.operands])) (hh y (by simp [Op.operands]))
  exact ⟨r,by simp [execOp,h1,h2],h3⟩
theorem zDm {t:Wc} {x:We} {t':Wc} {k:Nat} {b:Bool} (hb:b=decide (k=0)) (hx: ∀v W,(fct G x).p v W->(zOq k).p v W:=by exact fun _ _ h=>h) (hd: ∀W,(G d).p (.bool b) W:=by exact fun _=>rfl):qP F m P w0 ops G ⟨some d, .binOp .eql t x (.const (.int .i64 0)) t',ty,pos,aft,none⟩:=
 zPz fun u v W hu hv=>by
  obtain ⟨n,rfl,h1⟩:=hx u W hu
  obtain rfl:v= .int .i64 0:=hv
  refine ⟨.bool b,fun _=>rfl,fun _=> ?_,hd W⟩
  have h2:((n:Int)==0)=b:=by
   rw [hb,Bool.eq_iff_iff]
   simp only [pF,pG]
   omega
  simp only [binOp,Op.intCmp]
  rw [h2]
  rfl
end
def QVp (m:Nat) (k:Int) (d:Nat) (v:Wb) (w:W8):Prop:= ∃b s t,v= .agg #[b,s,t]/\UV w m (.agg #[b,s]) k/\LV w m t d
def QNp (q:Rat) (v:Wb) (w:W8):Prop:= ∃b s t,v= .agg #[b,s,t]/\NV w (.agg #[b,s]) q.num/\q7 w t q.den
def QMp (m:Nat) (k:Int) (d:Nat) (v:Wb) (w:W8):Prop:= ∃b s t,v= .agg #[b,s,t]/\NV w (.agg #[b,s]) k/\LV w m t d
def QAp (m:Nat) (sg:Bool) (x:Nat) (d:Nat) (v:Wb) (w:W8):Prop:= ∃s t,v= .agg #[.bool sg,s,t]/\q7 w s x/\LV w m t d
def fQV (m:Nat) (k:Int) (d:Nat):UF:= .mk' (QVp m k d) fun _ _ _ ⟨b,s,t,e,h1,h2⟩ u=>⟨b,s,t,e,(fUV m k).us _ _ _ h1 u,(fLV m d).us _ _ _ h2 u⟩
def fQN (q:Rat):UF:= .mk' (QNp q) fun _ _ _ ⟨b,s,t,e,h1,h2⟩ u=>⟨b,s,t,e,(fNV q.num).us _ _ _ h1 u,(jC q.den).us _ _ _ h2 u⟩
def fQM (m:Nat) (k:Int) (d:Nat):UF:= .mk' (QMp m k d) fun _ _ _ ⟨b,s,t,e,h1,h2⟩ u=>⟨b,s,t,e,(fNV k).us _ _ _ h1 u,(fLV m d).us _ _ _ h2 u⟩
def fQA (m:Nat) (sg:Bool) (x d:Nat):UF:= .mk' (QAp m sg x d) fun _ _ _ ⟨s,t,e,h1,h2⟩ u=>⟨s,t,e,(jC x).us _ _ _ h1 u,(fLV m d).us _ _ _ h2 u⟩
theorem zAz {cs:List Wb} {b s t:Wb} (h:Value.agg cs.toArray= .agg #[b,s,t]):cs= [b,s,t]:=by
 have:=pK Array.toList (zAW h)
 simpa using this
theorem zOa (m:Nat) (k:Int) (d:Nat): ∀cs:List Wb, ∀W,(fQV m k d).p (.agg cs.toArray) W->cs.length=3:=fun cs W ⟨b,s,t,e,_⟩=>by rw [zAz e];rfl
theorem qJ (q:Rat): ∀cs:List Wb, ∀W,(fQN q).p (.agg cs.toArray) W->cs.length=3:=fun cs W ⟨b,s,t,e,_⟩=>by rw [zAz e];rfl
theorem zKH {m:Nat} {k:Int} {d:Nat} (cs:List Wb) (W:W8) (h:(CU.agg (fQV m k d)).p cs W):0+2<=cs.length/\UV W m (.agg ((cs.drop 0).take 2).toArray) k:=by
 obtain ⟨b,s,t,e,h1,_⟩:=h
 rw [zAz e]
 exact ⟨by simp,h1⟩
theorem zGM {m:Nat} {k:Int} {d:Nat} (cs:List Wb) (W:W8) (h:(CU.agg (fQV m k d)).p cs W): ∃u,cs[2]?=some u/\LV W m u d:=by
 obtain ⟨b,s,t,e,_,h1⟩:=h
 rw [zAz e]
 exact ⟨t,rfl,h1⟩
theorem zQO {m:Nat} {k:Int} {d:Nat} (cs:List Wb) (W:W8) (h:(CU.agg (fQV m k d)).p cs W): ∃u,cs[0]?=some u/\ ∃s:Bool,u= .bool s:=by
 obtain ⟨b,s,t,e,⟨s',A,n,c,l,e',_⟩,_⟩:=h
 rw [zAz e]
 have:=pK Array.toList (zAW e')
 exact ⟨b,rfl,s',by simp at this;exact this.1⟩
theorem zCR {q:Rat} (cs:List Wb) (W:W8) (h:(CU.agg (fQN q)).p cs W):0+2<=cs.length/\NV W (.agg ((cs.drop 0).take 2).toArray) q.num:=by
 obtain ⟨b,s,t,e,h1,_⟩:=h
 rw [zAz e]
 exact ⟨by simp,h1⟩
theorem zB5 {q:Rat} (cs:List Wb) (W:W8) (h:(CU.agg (fQN q)).p cs W): ∃u,cs[2]?=some u/\q7 W u q.den:=by
 obtain ⟨b,s,t,e,_,h1⟩:=h
 rw [zAz e]
 exact ⟨t,rfl,h1⟩
theorem zMW {q:Rat} (cs:List Wb) (W:W8) (h:(CU.agg (fQN q)).p cs W):0+3<=cs.length/\QNp q (.agg ((cs.drop 0).take 3).toArray) W:=by
 have h1:=qJ q cs W h
 exact ⟨by omega,by rw [List.drop_zero,rK oN];exact h⟩
theorem zQS {m:Nat} {k:Int} {d:Nat} (cs:List Wb) (W:W8) (h:(CU.agg (fQM m k d)).p cs W): ∃u,cs[1]?=some u/\q7 W u k.natAbs:=by
 obtain ⟨b,s,t,e,h1,_⟩:=h
 rw [zAz e]
 exact zIO [b,s] W h1
theorem zQR {m:Nat} {k:Int} {d:Nat} (cs:List Wb) (W:W8) (h:(CU.agg (fQM m k d)).p cs W): ∃u,cs[2]?=some u/\LV W m u d:=by
 obtain ⟨b,s,t,e,_,h1⟩:=h
 rw [zAz e]
 exact ⟨t,rfl,h1⟩
theorem LV.form {W:W8} {m:Nat} {v:Wb} {x:Nat} (h:LV W m v x): ∃A n c,v= .slice A n c:=by
 obtain ⟨A,n,c,l,e,_⟩:=h
 exact ⟨A,n,c,e⟩
theorem q7.form {W:W8} {v:Wb} {x:Nat} (h:q7 W v x): ∃A n c,v= .slice A n c:=by
 obtain ⟨A,n,c,l,e,_⟩:=h
 exact ⟨A,n,c,e⟩
theorem UV.form {W:W8} {m:Nat} {b s:Wb} {k:Int} (h:UV W m (.agg #[b,s]) k): ∃sg A n c,b= .bool sg/\s= .slice A n c:=by
 obtain ⟨s',A,n,c,l,e,_⟩:=h
 have:=pK Array.toList (zAW e)
 simp at this
 exact ⟨s',A,n,c,this.1,this.2⟩
theorem NV.form {W:W8} {b s:Wb} {k:Int} (h:NV W (.agg #[b,s]) k): ∃A n c,b= .bool (decide (k<0))/\s= .slice A n c:=by
 obtain ⟨A,n,c,l,e,_⟩:=h
 have:=pK Array.toList (zAW e)
 simp at this
 exact ⟨A,n,c,this.1,this.2⟩
theorem zDk {m:Nat} {k:Int} {d:Nat} {v:Wb} {W:W8} (h:(fQV m k d).p v W): ∃sg A n c A' n' c',v= .agg #[.bool sg, .slice A n c, .slice A' n' c']:=by
 obtain ⟨b,s,t,rfl,h1,h2⟩:=h
 obtain ⟨sg,A,n,c,rfl,rfl⟩:=h1.form
 obtain ⟨A',n',c',rfl⟩:=h2.form
 exact ⟨_,_,_,_,_,_,_,rfl⟩
theorem zBj {q:Rat} {v:Wb} {W:W8} (h:(fQN q).p v W): ∃A n c A' n' c',v= .agg #[.bool (decide (q.num<0)), .slice A n c, .slice A' n' c']:=by
 obtain ⟨b,s,t,rfl,h1,h2⟩:=h
 obtain ⟨A,n,c,rfl,rfl⟩:=h1.form
 obtain ⟨A',n',c',rfl⟩:=h2.form
 exact ⟨_,_,_,_,_,_,rfl⟩
theorem zEt {m:Nat} {k:Int} {d:Nat} {v:Wb} {W:W8} (h:(fQV m k d).p v W):(CU.agg (fQV m k d)).p v.cells.toList W/\v.cells.toList.all z9=true:=by
 obtain ⟨sg,A,n,c,A',n',c',rfl⟩:=zDk h
 exact ⟨h,rfl⟩
theorem zOc {q:Rat} {v:Wb} {W:W8} (h:(fQN q).p v W):(CU.agg (fQN q)).p v.cells.toList W/\v.cells.toList.all z9=true:=by
 obtain ⟨A,n,c,A',n',c',rfl⟩:=zBj h
 exact ⟨h,rfl⟩
theorem zCL {sg:Bool} {A A':Option Addr} {n c n' c':Nat} (u:Wb) (hu:u∈ [Value.bool sg, .slice A n c, .slice A' n' c']):u.oneCell'=true:=by
 simp at hu
 rcases hu with rfl|rfl|rfl<;>rfl
theorem yO {q:Rat} (v:Wb) (W:W8) (h:(fQN q).p v W): ∃vs:List Wb,v= .agg vs.toArray/\vs.length=3/\(∀u,u∈vs->u.oneCell'=true)/\vs.all z9=true/\(CU.agg (fQN q)).p vs W:=by
 obtain ⟨A,n,c,A',n',c',rfl⟩:=zBj h
 exact ⟨[_,_,_],rfl,rfl,zCL,rfl,h⟩
theorem zMX {q:Rat} {m:Nat} {v:Wb} {W:W8} (h:QNp q v W) (hq:QB q m):QVp m q.num q.den v W:=by
 obtain ⟨b,s,t,e,h1,h2⟩:=h
 exact ⟨b,s,t,e,h1.uv' hq.1,h2.lv hq.2⟩
theorem zTu (s:Bool) (A A':Option Addr) (n n' c c':Nat):prog.built 32 [(0, .agg #[.bool s, .slice A n c]),(1, .slice A' n' c')]=some #[.bool s, .slice A n c, .slice A' n' c']:=by kernel_rfl
theorem zI8 {u v:Wb} {W:W8} {q:Rat} (hu:NV W u q.num) (hv:q7 W v q.den): ∃cells,prog.built 32 [(0,u),(1,v)]=some cells/\QNp q (.agg cells) W:=by
 obtain ⟨A,n,c,rfl,h1⟩:=hu.nat
 obtain ⟨A',n',c',rfl⟩:=hv.form
 exact ⟨_,zTu _ _ _ _ _ _ _,_,_,_,rfl,hu,hv⟩
theorem zSU:zV prog 28 1 [(0, .int .u32 1)]=some (81,#[.int .u32 1]):=by kernel_rfl
theorem zN0 {u:Wb} {W:W8} (hu:u= .int .u32 1): ∃e cs,zV prog 28 1 [(0,u)]=some (e,cs)/\q7 (W.alloc (.cells cs e)) (.slice (some ⟨W.heap.size,0,none⟩) 1 1) 1:=by
 subst hu
 refine ⟨_,_,zSU,_,1,1, [1],rfl,⟨fun y hy=>by simp at hy;subst hy;decide,fun hn=>by simp, ?_⟩,Rd.new W [1] _ _ (by simp [zA7]) (by simp)⟩
 show sm (lm [1]) 1=1
 simp [sm,lm]
theorem zSV (A:Option Addr) (n c:Nat):prog.built 30 [(1, .slice A n c)]=some #[.bool false, .slice A n c]:=by kernel_rfl
theorem zLT {v:Wb} {W:W8} {x:Nat} (hv:q7 W v x): ∃cells,prog.built 30 [(1,v)]=some cells/\NV W (.agg cells) x:=by
 obtain ⟨A,n,c,l,rfl,h1,h2⟩:=hv
 refine ⟨_,zSV _ _ _,A,n,c,l,by rw [decide_eq_false oN],by rw [Int.natAbs_natCast];exact h1,h2⟩
theorem zTv (s:Bool) (A A':Option Addr) (n n' c c':Nat):prog.built 91 [(0, .agg #[.bool s, .slice A n c, .slice A' n' c'])]=some #[.bool s, .slice A n c, .slice A' n' c']:=by kernel_rfl
theorem zRs {v:Wb} {W:W8} {m:Nat} {k:Int} {d:Nat} (hv:QVp m k d v W): ∃cells,prog.built 91 [(0,v)]=some cells/\QVp m k d (.agg cells) W:=by
 obtain ⟨sg,A,n,c,A',n',c',rfl⟩:=zDk hv
 exact ⟨_,zTv _ _ _ _ _ _ _,hv⟩
def QKp (k:Int) (d:Nat) (v:Wb) (w:W8):Prop:= ∃b s t,v= .agg #[b,s,t]/\NV w (.agg #[b,s]) k/\q7 w t d
def fQK (k:Int) (d:Nat):UF:= .mk' (QKp k d) fun _ _ _ ⟨b,s,t,e,h1,h2⟩ u=>⟨b,s,t,e,(fNV k).us _ _ _ h1 u,(jC d).us _ _ _ h2 u⟩
theorem zR7 {k:Int} {d m:Nat} {v:Wb} {W:W8} (h:QKp k d v W) (hk:Bd k m) (hd:d<BB^m):QVp m k d v W:=by
 obtain ⟨b,s,t,e,h1,h2⟩:=h
 exact ⟨b,s,t,e,h1.uv' hk,h2.lv hd⟩
theorem zQT {k:Int} {d:Nat} (cs:List Wb) (W:W8) (h:(CU.agg (fQK k d)).p cs W): ∃u,cs[2]?=some u/\q7 W u d:=by
 obtain ⟨b,s,t,e,_,h1⟩:=h
 rw [zAz e]
 exact ⟨t,rfl,h1⟩
theorem zEC {v:Wb} {W:W8} {x:Nat} (h:q7 W v x):v.cells=#[v]/\v.oneCell'=true/\z9 v=true:=by
 obtain ⟨A,n,c,rfl⟩:=h.form
 exact ⟨rfl,rfl,rfl⟩
theorem zMu {m:Nat} {k:Int} {d:Nat} {q:Rat} (v:Wb) (W:W8) (h:(fQN q).p v W):v.cells.size=3/\(∀u,u∈v.cells.toList->u.oneCell'=true)/\v.cells.toList.all z9=true/\ ∀cs,(CU.agg (fQV m k d)).p cs W->0+3<=cs.length/\(CU.agg (fQN q)).p (jV cs 0 v.cells.toList) W:=by
 obtain ⟨A,n,c,A',n',c',rfl⟩:=zBj h
 refine ⟨rfl,zCL,rfl,fun cs hc=> ?_⟩
 obtain ⟨b,s,t,e,_⟩:=hc
 rw [zAz e]
 exact ⟨by simp,h⟩
theorem zOS {m:Nat} {k0 k:Int} {d:Nat} (v:Wb) (W:W8) (h:(fNV k).p v W):v.cells.size=2/\(∀u,u∈v.cells.toList->u.oneCell'=true)/\v.cells.toList.all z9=true/\ ∀cs,(CU.agg (fQV m k0 d)).p cs W->0+2<=cs.length/\(CU.agg (fQM m k d)).p (jV cs 0 v.cells.toList) W:=by
 obtain ⟨A,n,c,rfl,h1⟩:=NV.nat h
 refine ⟨rfl,fun u hu=>by simp [Value.cells] at hu;rcases hu with rfl|rfl<;>rfl,rfl,fun cs hc=> ?_⟩
 obtain ⟨b,s,t,e,_,h2⟩:=hc
 rw [zAz e]
 exact ⟨by simp,_,_,t,rfl,h,h2⟩
theorem zOT {k0 k:Int} {d:Nat} (v:Wb) (W:W8) (h:(fNV k).p v W):v.cells.size=2/\(∀u,u∈v.cells.toList->u.oneCell'=true)/\v.cells.toList.all z9=true/\ ∀cs,(CU.agg (fQK k0 d)).p cs W->0+2<=cs.length/\(CU.agg (fQK k d)).p (jV cs 0 v.cells.toList) W:=by
 obtain ⟨A,n,c,rfl,h1⟩:=NV.nat h
 refine ⟨rfl,fun u hu=>by simp [Value.cells] at hu;rcases hu with rfl|rfl<;>rfl,rfl,fun cs hc=> ?_⟩
 obtain ⟨b,s,t,e,_,h2⟩:=hc
 rw [zAz e]
 exact ⟨by simp,_,_,t,rfl,h,h2⟩
theorem zOU {k:Int} {d0 d:Nat} (v:Wb) (W:W8) (h:(jC d).p v W):v.cells.size=1/\(∀u,u∈v.cells.toList->u.oneCell'=true)/\v.cells.toList.all z9=true/\ ∀cs,(CU.agg (fQK k d0)).p cs W->2+1<=cs.length/\(CU.agg (fQK k d)).p (jV cs 2 v.cells.toList) W:=by
 obtain ⟨h1,h2,h3⟩:=zEC h
 rw [h1]
 refine ⟨rfl,fun u hu=>by simp at hu;rw [hu];exact h2,by simp [h3],fun cs hc=> ?_⟩
 obtain ⟨b,s,t,e,h4,_⟩:=hc
 rw [zAz e]
 exact ⟨by simp,b,s,v,rfl,h4,h⟩
theorem zQo {m:Nat} {k:Int} {x d:Nat} (v:Wb) (W:W8) (h:(jC x).p v W):v.cells.size=1/\(∀u,u∈v.cells.toList->u.oneCell'=true)/\v.cells.toList.all z9=true/\ ∀cs,(CU.agg (fQM m k d)).p cs W->1+1<=cs.length/\(CU.agg (fQA m (decide (k<0)) x d)).p (jV cs 1 v.cells.toList) W:=by
 obtain ⟨h1,h2,h3⟩:=zEC h
 rw [h1]
 refine ⟨rfl,fun u hu=>by simp at hu;rw [hu];exact h2,by simp [h3],fun cs hc=> ?_⟩
 obtain ⟨b,s,t,e,h4,h5⟩:=hc
 obtain ⟨A,n,c,rfl,rfl⟩:=h4.form
 rw [zAz e]
 exact ⟨by simp,v,t,rfl,h,h5⟩
theorem zQn {m:Nat} {sg:Bool} {q:Rat} {x y d:Nat} (hs:sg=decide (q.num<0)) (hx:x=q.num.natAbs) (hy:y=q.den) (v:Wb) (W:W8) (h:(jC y).p v W):v.cells.size=1/\(∀u,u∈v.cells.toList->u.oneCell'=true)/\v.cells.toList.all z9=true/\ ∀cs,(CU.agg (fQA m sg x d)).p cs W->2+1<=cs.length/\(CU.agg (fQN q)).p (jV cs 2 v.cells.toList) W:=by
 obtain ⟨h1,h2,h3⟩:=zEC h
 rw [h1]
 refine ⟨rfl,fun u hu=>by simp at hu;rw [hu];exact h2,by simp [h3],fun cs hc=> ?_⟩
 obtain ⟨s,t,e,h4,_⟩:=hc
 rw [zAz e]
 refine ⟨by simp, .bool sg,s,v,rfl, ?_,by rw [<-hy];exact h⟩
 obtain ⟨A,n,c,l,rfl,g1,g2⟩:=h4
 exact ⟨A,n,c,l,by rw [hs],by rw [<-hx];exact g1,g2⟩
def RVp (m:Nat) (q:Rat) (v:Wb) (w:W8):Prop:= ∃k d,QVp m k d v w/\mkRat k d=q
def fRV (m:Nat) (q:Rat):UF:= .mk' (RVp m q) fun _ _ _ ⟨k,d,h,e⟩ u=>⟨k,d,(fQV m k d).us _ _ _ h u,e⟩
theorem wI {m:Nat} {q:Rat} {v:Wb} {W:W8} (h:QNp q v W) (hq:QB q m):RVp m q v W:=⟨_,_,zMX h hq,Rat.mkRat_self q⟩
theorem RVp.qb {m:Nat} {q:Rat} {v:Wb} {W:W8} (h:RVp m q v W) (hm:0<m):QB q m:=by
 obtain ⟨k,d,⟨b,s,t,_,h1,h2⟩,rfl⟩:=h
 exact QB.of h1.bd h2.bound hm
theorem zBg (m:Nat) (q:Rat): ∀cs:List Wb, ∀W,(fRV m q).p (.agg cs.toArray) W->cs.length=3:=fun cs W ⟨k,d,h,_⟩=>zOa m k d cs W h
theorem zDv {m:Nat} {q:Rat} {v:Wb} {W:W8} (h:(fRV m q).p v W):(CU.agg (fRV m q)).p v.cells.toList W/\v.cells.toList.all z9=true:=by
 obtain ⟨k,d,h1,h2⟩:=h
 obtain ⟨g1,g2⟩:=zEt h1
 exact ⟨⟨k,d,g1,h2⟩,g2⟩
theorem zD4 {P:Wf} {f:FuncId} {args:Array Wb} {W:W8} {u:Wb} (h:Calls P f args W fun e w'=>e= .returned u/\Below W.heap.size W w'):Calls P f args W (Ret W (UF.eq u).tS):=h.mono fun _ _ ⟨h1,h2⟩=>⟨u,h1,rfl,h2⟩
def SF.row (z:Nat) (Cs:List CU):SF:=⟨fun v W=> ∃A c,v= .slice A Cs.length c/\Cs.length<=c/\c<=9223372036854775807/\(A=none->c=0)/\ ∀i C,Cs[i]?=some C-> ∃b o cs,A=some ⟨b,o,none⟩/\Mem W b (o+i*z) cs/\C.p cs W,
 fun _ _ _ ⟨A,c,h1,h2,h3,h4,h5⟩ hb=>⟨A,c,h1,h2,h3,h4,fun i C hi=>let ⟨b,o,cs,g1,g2,g3⟩:=h5 i C hi;⟨b,o,cs,g1,g2.below hb,C.us _ _ _ g3 (zL hb)⟩⟩⟩
theorem y7 {z:Nat} {Cs:List CU} {l v:Wb} {W0 W:W8} (hl:(SF.row z Cs).p l W0) (h:v=l) (hb:Below W0.heap.size W0 W):(SF.row z Cs).p v W:=by subst h;exact (SF.row z Cs).st _ _ _ hl hb
def zAX (P:Wf) (t:Wc):Option Nat:=match P.underlying t with
 |some (.slice e)=>(P.info? e).map (·.size)
 |_=>none
section
variable {F:Fence} {m:Nat} {P:Wf} {w0:W8} {ops:Array Oper} {G:Nat->SF} {d:Tmp} {ty:Wc} {pos:String} {aft:Array Edge}
theorem zCp {x y:We} {t:Wc} {z:Nat} {Cs:List CU} {i:Nat} {C:CU} (hz:zAX P t=some z) (hi:Cs[i]?=some C) (hx: ∀v W,(fct G x).p v W->(SF.row z Cs).p v W) (hy: ∀v W,(fct G y).p v W->v= .int .i64 (i:Int)) (hd: ∀v W,(wB C.cf).p v W->(G d).p v W:=by exact fun _ _ h=>h):qP F m P w0 ops G ⟨some d, .indexAddr t x y,ty,pos,aft,none⟩:=
 qT (fun _ e=>by cases e) (fun _ e=>by cases e) fun b W hb hh=>by
  obtain ⟨A,c,e,h2,h3,h4,h5⟩:=hx _ _ (hh x (by simp [Op.operands]))
  have e2:=hy _ _ (hh y (by simp [Op.operands]))
  obtain ⟨b',o,cs,rfl,h6,h7⟩:=h5 i C hi
  have hlt:i<Cs.length:=(pT.1 hi).1
  unfold zAX at hz
  split at hz<;>try cases hz
  rename_i e' hu
  cases hin:P.info? e' with
  |none=>rw [hin] at hz;cases hz
  |some ie=>
   rw [hin] at hz
   simp only [Option.map_some,rL] at hz
   have hel:P.elem t=e':=by simp [Program.elem,hu]
   refine ⟨.pointer (some ⟨b',o+i*z,none⟩), ?_,hd _ _ ⟨b',o+i*z,cs,rfl,h7,h6⟩⟩
   have hb1:(0:Int)<=(i:Int)/\(i:Int)<(Cs.length:Nat):=by omega
   simp only [execOp,e,e2]
   rw [Sem.run_bind,run_indexAt_slice _ _ _ _ _ _ _ (by rw [hel];exact hu),if_pos hb1,hel]
   simp [sizeOf,typeInfo,hin,hz,pS]
def SF.imp (c:Prop) (f:SF):SF:=⟨fun v W=>c->f.p v W,fun _ _ _ h hb hc=>f.st _ _ _ (h hc) hb⟩
theorem zJ {op:Op} (L:List (Nat×SF)) (f:SF) (hL: ∀q,q∈L-> ∀v W,(G q.1).p v W->q.2.p v W) (hd: ∀v W,f.p v W->(G d).p v W) (hnd:(!(zDi ⟨some d,op,ty,pos,aft,none⟩).contains d&& !(L.map (·.1)).contains d)=true)
  (h:qP F m P w0 ops (upd (upd G [(d,f)]) L) ⟨some d,op,ty,pos,aft,none⟩):qP F m P w0 ops G ⟨some d,op,ty,pos,aft,none⟩:=by
 rw [nZ] at hnd
 intro b W K Q hb hr hK
 refine h b W K Q hb (fun t ht=> ?_) fun v W' hv hb'=>hK v W' (fun d' e=> ?_) hb'
 ·have hne:Nat.beq d t=false:=by
   cases e:Nat.beq d t with
   |false=>rfl
   |true=>
    have:=pU e
    subst this
    have h1:=hnd.1
    rw [pV.2 ht] at h1
    cases h1
  have key: ∀l:List (Nat×SF),(∀q,q∈l-> ∀v W,(G q.1).p v W->q.2.p v W)->(upd (upd G [(d,f)]) l t).p (b.tmps.getD t undef) W:=by
   intro l
   induction l with
   |nil=>
    intro _
    show (bif Nat.beq d t then f else G t).p _ _
    rw [hne]
    exact hr t ht
   | cons q l ih=>
    intro hl
    show (bif Nat.beq q.1 t then q.2 else upd (upd G [(d,f)]) l t).p _ _
    cases e:Nat.beq q.1 t with
    |true=>
     have e2:=pU e
     exact hl q (by simp) _ _ (by rw [e2];exact hr t ht)
    |false=>exact ih fun x hx=>hl x (by simp [hx])
  exact key L hL
 ·cases e
  have h1:=hv d rfl
  rw [zAm (by simpa using hnd.2)] at h1
  have h2:(bif Nat.beq d d then f else G d).p v W':=h1
  rw [show Nat.beq d d=true from rB d] at h2
  exact hd v W' h2
theorem zBR {b c:Bool} {v:Wb} (h:v= .bool c) (e:b=true):v= .bool (b&&c):=by rw [e];exact h
theorem zBk {b c:Bool} {v:Wb} (h:v= .bool false) (e:b=false):v= .bool (b&&c):=by rw [e];exact h
theorem jQ {b c:Bool} {v:Wb} (h:v= .bool true) (e:b=true):v= .bool (b||c):=by rw [e];exact h
theorem qS {b c:Bool} {v:Wb} (h:v= .bool c) (e:b=false):v= .bool (b||c):=by rw [e];exact h
theorem zN {op:BinOp} {t:Wc} {x y:We} {t':Wc} (k:IntKind) (u v:Int) (r:Bool) (hx: ∀q W,(fct G x).p q W->q= .int k u) (hy: ∀q W,(fct G y).p q W->q= .int k v) (hr:(match op with| .eql=>u==v| .neq=>u !=v| .lss=>decide (u<v)| .leq=>decide (u<=v)| .gtr=>decide (u>v)| .geq=>decide (u≥v)|_=>false)=r) (ho:(match op with| .eql| .neq| .lss| .leq| .gtr| .geq=>true|_=>false)=true) (hd: ∀W,(G d).p (.bool r) W:=by exact fun _=>rfl):qP F m P w0 ops G ⟨some d, .binOp op t x y t',ty,pos,aft,none⟩:=
 zDA (.int k u) (.int k v) (.bool r) hx hy (fun W=>by cases op<;>simp [eqGuard]) (fun W=>by
  cases op<;>first
   |exact absurd ho Bool.false_ne_true
   |(subst hr;simp [binOp,Op.intCmp])) hd
theorem qC {t:Wc} {x y:We} {t':Wc} (k:IntKind) (u v r:Int) (hx: ∀q W,(fct G x).p q W->q= .int k u) (hy: ∀q W,(fct G y).p q W->q= .int k v) (hr:k.wrap (u+v)=r) (hd: ∀W,(G d).p (.int k r) W:=by exact fun _=>rfl):qP F m P w0 ops G ⟨some d, .binOp .add t x y t',ty,pos,aft,none⟩:=
 zDA (.int k u) (.int k v) (.int k r) hx hy (fun W=>by simp [eqGuard]) (fun W=>by simp [binOp,Op.intArith,hr]) hd
theorem zKX {x y:We} {ats:Array Wc} (u v:Int) (hx: ∀q W,(fct G x).p q W->q= .int .i64 u) (hy: ∀q W,(fct G y).p q W->q= .int .i64 v) (hd: ∀W,(G d).p (.int .i64 (min u v)) W:=by exact fun _=>rfl):qP F m P w0 ops G ⟨some d, .call ⟨.builtin .min,#[x,y],ats⟩,ty,pos,aft,none⟩:=by
 intro b W K Q hb hr hK
 have e1:=hx _ _ (qR hr (x:=x) (by simp [Op.operands,Call.operands]))
 have e2:=hy _ _ (qR hr (x:=y) (by simp [Op.operands,Call.operands]))
 refine ⟨fun f hf=>(by
  unfold Oper.about at hf
  simp [resolve,go_sem] at hf), ?_⟩
 rw [pE _ _ _ (fun _ e=>by cases e)]
 have:(execOp b.eval ⟨some d, .call ⟨.builtin .min,#[x,y],ats⟩,ty,pos,aft,none⟩).run P W= .ok (.value (.int .i64 (min u v))) W:=by
  have h:min u v=if v<u then v else u:=by split<;>omega
  simp [execOp,resolve,invoke,builtin,e1,e2,Builtin.min_,Builtin.min2,h]
 rw [this]
 exact hK _ _ (fun d' e'=>by cases e';exact hd _) (pB _ _)
theorem zB7 {x:We} {t:Wc} {z:Nat} {Cs:List CU} (ht:P.underlying t=some (.slice (P.elem t))) (hx: ∀v W,(fct G x).p v W->(SF.row z Cs).p v W:=by exact fun _ _ h=>h) (hd: ∀W,(G d).p (.int .i64 (Cs.length:Nat)) W:=by exact fun _=>rfl):qP F m P w0 ops G ⟨some d, .call ⟨.builtin .len,#[x],#[t]⟩,ty,pos,aft,none⟩:=
 jY ht fun v W h=>by
  obtain ⟨A,c,e,_⟩:=hx v W h
  exact ⟨A,Cs.length,c,e,hd W⟩
end
section
variable {S:Nat->Prop} {F:Fence} {m:Nat} {P:Wf} {Q:Exit->Act->W8->Prop} {w0:W8} {K:List (Nat×KF)} {B:List Bx} {n:Nat} {ds:List Deferred} {a:Act} {w:W8}
end
theorem zEH {p:Nat->Prop}: ∀n,p n-> ∃s,p s/\ ∀k,k<s-> ¬p k:=by
 intro n
 induction n using Nat.strongRecOn with
 | _ n ih=>
  intro hn
  by_cases h: ∃k,k<n/\p k
  ·obtain ⟨k,hk,hp⟩:=h
   exact ih k hk hp
  ·exact ⟨n,hn,fun k hk hp=>h ⟨k,hk,hp⟩⟩
section
variable {S:Nat->Prop} {F:Fence} {m:Nat} {P:Wf} {Q:Exit->Act->W8->Prop} {w0:W8} {K:List (Nat×KF)} {B:List Bx} {n:Nat} {ds:List Deferred} {a:Act} {w:W8}
theorem zId {σ:Type} {c:Code} (I:σ->Prop) (Kf:σ->List (Nat×KF)) (Bf:σ->List Bx) (Df:σ->List Deferred) (mu:σ->Nat) (x0:σ) (hI:I x0) (h0:StS S w0 (Kf x0) (Bf x0) n (Df x0) a w)
  (round: ∀x a w,I x->StS S w0 (Kf x) (Bf x) n (Df x) a w->c.wpIn F m P (Exit.then (fun a' w'=> ∃y,I y/\mu y<mu x/\StS S w0 (Kf y) (Bf y) n (Df y) a' w') Q) a w):(Code.loop c).wpIn F m P Q a w:=by
 have low: ∀a w,(∃k, ∃x,I x/\mu x=k/\StS S w0 (Kf x) (Bf x) n (Df x) a w)-> ∃k,(∃x,I x/\mu x=k/\StS S w0 (Kf x) (Bf x) n (Df x) a w)/\ ∀j,j<k-> ¬ ∃x,I x/\mu x=j/\StS S w0 (Kf x) (Bf x) n (Df x) a w:=
  fun a w ⟨k,hk⟩=>zEH k hk
 open Classical in
 refine wpIn_loop (fun a w=> ∃k, ∃x,I x/\mu x=k/\StS S w0 (Kf x) (Bf x) n (Df x) a w) (fun a w=>if h: ∃k, ∃x,I x/\mu x=k/\StS S w0 (Kf x) (Bf x) n (Df x) a w then Classical.choose (low a w h) else 0) ⟨_,x0,hI,rfl,h0⟩ ?_
 rintro a w hA
 have e0:=rC (low a w hA)
 obtain ⟨x,hx,hm,hst⟩:=e0.1
 refine Code.wpIn_mono ?_ (round x a w hx hst)
 intro e a' w' h
 cases e with
 |normal=>
  obtain ⟨y,h1,h2,h3⟩: ∃y,I y/\mu y<mu x/\StS S w0 (Kf y) (Bf y) n (Df y) a' w':=h
  have hA': ∃k, ∃x,I x/\mu x=k/\StS S w0 (Kf x) (Bf x) n (Df x) a' w':=⟨_,y,h1,rfl,h3⟩
  refine ⟨hA', ?_⟩
  simp only [dif_pos hA,dif_pos hA']
  have e1:=rC (low a' w' hA')
  have:Classical.choose (low a' w' hA')<=mu y:=Nat.not_lt.1 fun hlt=>e1.2 _ hlt ⟨y,h1,rfl,h3⟩
  omega
 |_=>exact h
theorem zJ7 {σ:Type} {c:Code} (t:Nat) (Cf:σ->CU) (I:σ->Prop) (Kf:σ->List (Nat×KF)) (mu:σ->Nat) (x0:σ) (hI:I x0) (h0:StS S w0 (Kf x0) B n ds a w) (hB:zGg B t (Cf x0)=B)
  (round: ∀x a w,I x->StS S w0 (Kf x) (zGg B t (Cf x)) n ds a w->c.wpIn F m P (Exit.then (fun a' w'=> ∃y,I y/\mu y<mu x/\StS S w0 (Kf y) (zGg B t (Cf y)) n ds a' w') Q) a w):(Code.loop c).wpIn F m P Q a w:=
 zId I Kf (fun x=>zGg B t (Cf x)) (fun _=>ds) mu x0 hI (by rw [hB];exact h0) round
theorem zJ6 {σ:Type} {c:Code} (I:σ->Prop) (Kf:σ->List (Nat×KF)) (mu:σ->Nat) (x0:σ) (hI:I x0) (h0:StS S w0 (Kf x0) B n ds a w)
  (round: ∀x a w,I x->StS S w0 (Kf x) B n ds a w->c.wpIn F m P (Exit.then (fun a' w'=> ∃y,I y/\mu y<mu x/\StS S w0 (Kf y) B n ds a' w') Q) a w):(Code.loop c).wpIn F m P Q a w:=
 zId I Kf (fun _=>B) (fun _=>ds) mu x0 hI h0 round
theorem StS.popB {x:Bx} (h:StS S w0 K (x::B) n ds a w):StS S w0 K B n ds a w:=⟨h.gr,h.size,h.nd,h.sl,h.bx.2,h.mks,h.so⟩
theorem StS.renew (h:St w0 K B n ds a w) (K':List (Nat×KF)) (hK: ∀q,q∈K'->q∈K∨ ∃g,q.2=KF.u g/\(q.1,KF.o g.tS)∈K):St w0 K' B n ds a w:=
 ⟨h.gr,h.size,h.nd,fun q hq=>by
  rcases hK q hq with h1|⟨g,e,h1⟩
  ·exact h.sl q h1
  ·have:=h.sl _ h1
   rw [e]
   exact g.us _ _ _ this (zL h.gr.below),h.bx,h.mks, .inr fun _ h=>h⟩
end
end Go.Proofs.Wd

namespace Go.Proofs.Wd
open Tryz
open Go.RowKit
section
variable {S:Nat->Prop} {w0:W8} {K:List (Nat×KF)} {B:List Bx} {n:Nat} {ds:List Deferred} {a:Act} {w:W8}
theorem zI {c:Prop} {f:SF} {v:Wb} {W:W8} (e:c) (h:(SF.imp c f).p v W):f.p v W:=h e
variable {F:Fence} {m:Nat} {P:Wf} {ops:Array Oper} {Q:Exit->Act->W8->Prop}
end
end Go.Proofs.Wd

namespace Go.Proofs.Wd
open Tryz
open Go.RowKit
structure NewB where
 i:Nat
 d:Nat
 e:Wc
 cs:List Wb
 f:SF
def SF.isIn (f:SF) (L:List (Nat×SF)) (d:Nat):Prop:=(d,f)∈L
def zL7 (al:List NewB) (a:Act):Prop:= ∀q q',q∈al->q'∈al->q.i≠q'.i-> ∀b b',blk (a.tmps.getD q.d undef)=some b->blk (a.tmps.getD q'.d undef)=some b'->b≠b'
section
variable {S:Nat->Prop} {w0:W8} {K:List (Nat×KF)} {B:List Bx} {n:Nat} {ds:List Deferred} {a:Act} {w:W8} {F:Fence} {m:Nat} {P:Wf} {ops:Array Oper} {Q:Exit->Act->W8->Prop}
theorem zKT {te:Wc} {cs:List Wb} {W:W8} {C:CU} (hC: ∀W,C.p cs W) (hn:cs.all z9=true) (v:Wb) (w:W8) (h:(wQ W te cs).p v w):(wJ W te C).p v w:=by
 obtain ⟨b,h1,h2,h3⟩:=h
 exact ⟨b,cs,h1,h2,h3,hC w,hn⟩
theorem StS.adoptA (h:StS S w0 K B n ds a w) {W:W8} {te:Wc} {C:CU} (r:Bool) (t:Nat) (hv:(wJ W te C).p (a.tmps.getD t undef) w) (hW:BlS S w0 W) (hB: ∀y,y∈B->y.b<W.heap.size∨(r=true/\y.r=true)∨ ∀b,blk (a.tmps.getD t undef)=some b->y.b≠b): ∃b,W.heap.size<=b/\blk (a.tmps.getD t undef)=some b/\StS S w0 K (⟨t,te,C,b,r⟩::B) n ds a w:=by
 obtain ⟨b,cs,h1,h2,h3,h4,h5⟩:=hv
 refine ⟨b,h2,by rw [h1];rfl,h.gr,h.size,h.nd,h.sl,⟨⟨cs,h1, .inr (.inl (pL hW.size h2)),h3,h4,h5,fun y hy=> ?_⟩,h.bx⟩,h.mks,h.so⟩
 rcases hB y hy with e|e|e
 ·left
  show y.b≠b
  omega
 ·exact .inr e
 ·exact .inl (e b (by rw [h1];rfl))
end
end Go.Proofs.Wd

namespace Go.Proofs.Wd
open Tryz
set_option maxRecDepth 100000
open Go.RowKit Lb
def zS5 (a b:Nat) (w:W8) (x y:Wb) (w':W8):Prop:= ∃p q:Nat,x= .int .u64 p/\y= .int .u64 q/\Nat.gcd p q=Nat.gcd a b/\p<18446744073709551616/\q<18446744073709551616/\Below w.heap.size w w'
theorem zKA {W:W8} {u v:Wb} (a b:Nat) (hu:u= .int .u64 (a:Int)) (hv:v= .int .u64 (b:Int)) (ha:a<18446744073709551616) (hb:b<18446744073709551616):Calls prog 79 #[u,v] W (Ret W (UF.eq (.int .u64 ((Nat.gcd a b:Nat):Int))).tS):=by
 subst hu
 subst hv
 have hmix:prog.follows .mixedOrders=true:=by kernel_rfl
 go_enter func79,ntmps79
 go_wp2
 go_loopw [0,1] (zS5 a b W) (fun _ y _=>(intOf y).toNat)
 case atStart=>exact ⟨a,b,rfl,rfl,rfl,ha,hb,pB _ _⟩
 case round=>
  obtain ⟨p,q,rfl,rfl,hg,hp,hq,hB⟩:=hrel
  have HG:=hid hg
  clear hg
  by_cases h0:0<q
  ·have hq0:(q:Int)≠0:=by omega
   have hmod:(p:Int).tmod (q:Int)=((p % q:Nat):Int):=by rw [Int.tmod_eq_emod_of_nonneg oN,Int.natCast_emod]
   have hlt:p % q<q:=Nat.mod_lt _ h0
   obtain ⟨r,hr⟩: ∃r,p % q=r:=⟨_,rfl⟩
   rw [hr] at hmod hlt
   have HR:=hid hr
   clear hr
   go_wp2
   refine (wpIn_wide (n:=0)).1 ?_
   refine zY 100 (fun _=>True) hmix ?_
   refine zP (i:=0) (v:= ?vv1) kG kG rfl kG kG kG (fun _ _ _ h=>h) trivial ⟨.inl ⟨rfl, ?yy1⟩,fun _=>rfl⟩ ?_
   case yy1=>
    rintro wx _
    go_simp
    first|done|rfl
   refine zP (i:=1) (v:= ?vv2) kG kG rfl kG kG kG (fun _ _ _ h=>h) trivial ⟨.inl ⟨rfl, ?yy2⟩,fun _=>rfl⟩ ?_
   case yy2=>
    rintro wx _
    go_simp
    first|done|rfl
   refine zP (i:=2) (v:= ?vv3) kG kG rfl kG kG kG (fun _ _ _ h=>h) trivial ⟨.inl ⟨rfl, ?yy3⟩,fun _=>rfl⟩ ?_
   case yy3=>
    rintro wx _
    go_simp
    first|done|rfl
   refine zP (i:=3) (v:= .int .u64 (r:Nat)) kG kG rfl kG kG kG (fun _ _ _ h=>h) trivial ⟨.inl ⟨rfl, ?y3⟩,fun _=>rfl⟩ ?_
   case y3=>
    rintro wx _
    go_simp
    omega
   refine zAi (i:=4) kG rfl (fun K hK=> ?_)
   go_simp
   refine hK _ _ (.inr trivial) ?_
   clear hK K
   refine zAi (i:=5) kG rfl (fun K hK=> ?_)
   go_simp
   refine hK _ _ (.inr trivial) ?_
   clear hK K
   refine zB0 kG ?_
   go_wp2
   go_roundw
   case rel=>exact ⟨q,r,rfl,by go_num,by rw [<-HG.out, <-HR.out,Nat.gcd_comm p q,Nat.gcd_rec q p,Nat.gcd_comm],hq,by omega,hB.drew⟩
   case measure=>simp [intOf];omega
  ·obtain rfl:q=0:=by omega
   go_wp2
   go_ret
   have:=HG.out
   rw [Nat.gcd_zero_right] at this
   subst this
   exact ⟨_,rfl,rfl,hB⟩
attribute [local go_sem] Oper.semAt_some y2 z4
theorem zTq {W:W8} (k:Int) (h: -9223372036854775808<=k/\k<=9223372036854775807):Calls prog 51 #[.int .i64 k] W (zGh W k):=
 (zIf k h.1 h.2 W).mono fun _ _=>qG.v
theorem zR4 {W:W8} {m:Nat} {v:Wb} {k:Int} (h:UV W m v k) (hm:m<=90000):Calls prog 61 #[v] W (zGh W (-k)):=by
 obtain ⟨s,A,n,c,l,rfl,h1,h2,h3,rfl⟩:=h
 exact (zGH s A n c l W h1 h2 oN).mono fun _ _=>qG.v
theorem zFJ {W:W8} {m:Nat} {v:Wb} {k:Int} (h:UV W m v k) (hm:m<=90000):Calls prog 58 #[v] W (zGh W k):=by
 obtain ⟨s,A,n,c,l,rfl,h1,h2,h3,rfl⟩:=h
 exact (zAe s A n c l W h1 h2 oN).mono fun _ _=>qG.v
theorem zIy {W:W8} {m:Nat} {v:Wb} {k:Int} (h:UV W m v k) (hm:m<=90000):Calls prog 37 #[v] W fun e w'=>e= .returned (.int .i64 k.sign)/\Below W.heap.size W w':=by
 obtain ⟨s,A,n,c,l,rfl,h1,h2,h3,rfl⟩:=h
 exact zJq s A n c l W h1 h2 oN
theorem zPg {W:W8} {m:Nat} {v v':Wb} {k k':Int} (h:UV W m v k) (h':UV W m v' k') (hm:m<=90000):Calls prog 39 #[v,v'] W (zGh W (k - k')):=by
 obtain ⟨s,A,n,c,l,rfl,h1,h2,h3,rfl⟩:=h
 obtain ⟨s',A',n',c',l',rfl,h1',h2',h3',rfl⟩:=h'
 exact (zKD s A n c l s' A' n' c' l' W h1 h2 h1' h2' m h3 h3' hm).mono fun _ _=>qG.v
theorem zQK {W:W8} (k:Int) (h: -9223372036854775808<=k/\k<=9223372036854775807):Calls prog 47 #[.int .i64 k] W (zGh W k):=
 (zIz k h.1 h.2 W).mono fun _ _=>qG.v
theorem zPi {W:W8} {m:Nat} {v:Wb} {ks:List Int} {k:Int} (h:ISV W m v ks) (hm:m<=2000) (hn:ks.length<=1000) (hk:ks.sum=k):Calls prog 60 #[v] W (zGh W k):=by
 obtain ⟨is,h1,h2⟩:=h
 have hl:is.length=ks.length:=by rw [<-h2,List.length_map]
 obtain ⟨A,c,e,h3,h4,h5⟩:=h1
 have hb: ∀j,j<=is.length->(zDa is j).natAbs<BB^(m+1000):=by
  intro j hj
  have key: ∀j,Bd (zDa is j) (m+j):=by
   intro j
   induction j with
   |zero=>exact Nat.pow_pos yY
   |succ j ih=>
    have e1:zDa is (j+1)=zDa is j+zDo is j:=rfl
    rw [e1]
    exact (ih.add ((show Bd (zDo is j) m from zF1 h5 j).mono oN)).mono oN
  exact (key j).mono oN
 have:=zPj (m+1000) (⟨A,c,e,h3,h4,h5⟩:IS W m v is) oN oN oN hb
 rw [zEI is is.length (pC _),List.take_length,h2,hk] at this
 exact this
theorem zFK {W:W8} {m:Nat} {v:Wb} {ks:List Int} {k:Int} (h:ISV W m v ks) (hn:m*ks.length+m+1<=40000) (hk:ks.foldl (·*·) 1=k) (hl:ks.length<=1000):Calls prog 40 #[v] W (zGh W k):=by
 obtain ⟨is,h1,h2⟩:=h
 have hl2:is.length=ks.length:=by rw [<-h2,List.length_map]
 obtain ⟨A,c,e,h3,h4,h5⟩:=h1
 have:=zPh (m*ks.length+m+1) (⟨A,c,e,h3,h4,h5⟩:IS W m v is) oN oN oN (fun k hk=>(zF3 h5 k).mono (by
  have:m*k<=m*ks.length:=Nat.mul_le_mul_left _ oN
  omega))
 rw [zDp is is.length (pC _),List.take_length,h2,hk] at this
 exact this
section
variable {F:Fence} {n:Nat} {P:Wf} {ops:Array Oper} {Q:Exit->Act->W8->Prop}
def zCk (ops:Array Oper) (i:Nat):Array Bool:=((List.range ops.size).map fun j=>zCz ops ops.size j i).toArray
theorem zNn {i:Nat} {listed:Array Bool} (hs: ∀j,j<ops.size->zCz ops ops.size j i=true->listed.getD j true=true) (h:Region.free .any ops (zCk ops i) i=true):Region.free .any ops listed i=true:=by
 unfold Region.free at h ⊢
 split at h
 ·exact h
 ·refine nX.2 fun j hj=> ?_
  have h1:=nX.1 h j hj
  have h2:(zCk ops i).getD j true=zCz ops ops.size j i:=by
   unfold zCk
   rw [pD]
   simp [nY.1 hj]
  rw [h2] at h1
  cases hc:zCz ops ops.size j i with
  |true=>rw [hs j (nY.1 hj) hc,Bool.or_true,rD]
  |false=>
   rw [hc,Bool.or_false] at h1
   rw [Bool.or_assoc,Bool.or_comm (listed.getD j true), <-Bool.or_assoc,h1,rD]
theorem zLy {i:Nat} {o:Oper} {a:Act} {w:W8} {K:Act->W8->Prop} (ho:ops[i]?=some o) (hfl:zC3 ops i=true) (h:wpOpIn F n P ops (qQ Q) i K a w): ∃d v,o.dst=some d/\zAb P ops (fun _=>True) o v a/\K (a.put (some d) v) w:=by
 unfold zC3 at hfl
 rw [ho] at hfl
 unfold wpOpIn at h
 rw [ho] at h
 split at hfl
 ·rename_i d x ty pos aft he
  cases he
  refine ⟨d,a.eval x,rfl,⟨.inl ⟨rfl,fun w _=>rfl⟩,fun w=>rfl⟩, ?_⟩
  have h2:=h.2
  rw [pE _ _ _ (fun _ e=>by cases e)] at h2
  exact h2
 ·rename_i d x j ty pos aft he
  cases he
  have h2:=h.2
  rw [pE _ _ _ (fun _ e=>by cases e)] at h2
  cases hrun:(Instr.extract (a.eval x) j).run P w with
  |halt y w'=>
   have he:(execOp a.eval ⟨some d, .extract x j,ty,pos,aft,none⟩).run P w= .halt y w':=by simp [execOp,hrun]
   rw [he] at h2
   cases y<;>exact h2.elim
  | ok v w'=>
   have hw:w'=w:=by
    unfold Instr.extract at hrun
    split at hrun
    ·split at hrun
     ·simp at hrun;exact hrun.2.symm
     ·simp at hrun
    ·simp at hrun
   subst hw
   have he:(execOp a.eval ⟨some d, .extract x j,ty,pos,aft,none⟩).run P w'= .ok (.value v) w':=by simp [execOp,hrun]
   rw [he] at h2
   exact ⟨d,v,rfl,⟨.inl ⟨rfl,fun w _=>by simp [execOp,zB4 _ _ _ w hrun]⟩,fun w=>rfl⟩,h2⟩
 ·cases hfl
theorem zJe {CW:W8->Prop} {i:Nat} {o:Oper} {v:Wb} {a:Act} {w:W8} {K:Act->W8->Prop} (ho:ops[i]?=some o) (hpl:zAf ops=true) (hy:zAb P ops CW o v a) (hw:CW w) (h:wpOpIn F n P ops Q i K a w):K (a.put o.dst v) w:=by
 unfold wpOpIn at h
 simp only [ho] at h
 rcases hy.1 with ⟨hw',hv⟩|⟨hw',rfl⟩
 ·simp only [hw',if_true,Oper.wpIn,pE _ _ _ (zBQ hpl ho),hv w hw,Oper.uponIn] at h
  exact h.2
 ·simp only [hw',Bool.false_eq_true,if_false] at h
  exact h.2
end
def inL:List Nat->Nat->Bool
 | [],_=>false
 |k::l,i=>bif Nat.beq k i then true else inL l i
theorem zEK (l m:List Nat) (i:Nat):inL (l++m) i=(inL l i||inL m i):=by
 induction l with
 |nil=>rfl
 |cons k l ih=>
  show (bif Nat.beq k i then true else inL (l++m) i)=((bif Nat.beq k i then true else inL l i)||inL m i)
  cases Nat.beq k i with
  |true=>rfl
  |false=>exact ih
theorem zEJ {l:List Nat} {i:Nat} (h:inL l i=true):i∈l:=by
 induction l with
 |nil=>cases h
 |cons k l ih=>
  have h:(bif Nat.beq k i then true else inL l i)=true:=h
  cases e:Nat.beq k i with
  |true=>rw [pU e];exact rE ..
  |false=>rw [e] at h;exact rF _ (ih h)
theorem zFn {l:List Nat} {i:Nat} (h:i∈l):inL l i=true:=by
 induction l with
 |nil=>cases h
 |cons k l ih=>
  show (bif Nat.beq k i then true else inL l i)=true
  rcases pH.1 h with rfl|h
  ·rw [rB];rfl
  ·rw [ih h];cases Nat.beq k i<;>rfl
def lst (n:Nat) (D:List Nat):Array Bool:=((List.range n).map (inL D)).toArray
theorem zD1 (n:Nat) (D:List Nat):(lst n D).size=n:=by simp [lst]
theorem zAJ {n i:Nat} {D:List Nat} {d:Bool} (h:i<n):(lst n D).getD i d=inL D i:=by simp [lst,h]
theorem zPF {n i:Nat} {D:List Nat} {d:Bool} (h:n<=i):(lst n D).getD i d=d:=by
 rw [pD,pW (by rw [zD1];exact h)]
 rfl
theorem zDC {n i:Nat} {D:List Nat} (h:(lst n D).getD i true=false):i<n/\inL D i=false:=by
 rcases pM i n with g|g
 ·rw [zAJ g] at h;exact ⟨g,h⟩
 ·rw [zPF g] at h;cases h
theorem zEF {l:Array Bool} {n:Nat} {D:List Nat} (hs:l.size=n) (h: ∀i,i<n->l.getD i false=inL D i):l=lst n D:=by
 refine Array.ext (by rw [hs,zD1]) fun i h1 h2=> ?_
 have:=h i oN
 rw [pD,pX h1] at this
 have e:l[i]=inL D i:=this
 rw [e]
 simp [lst]
theorem zK7 {n i:Nat} {D:List Nat} (hi:i<n):(lst n D).setIfInBounds i true=lst n (i::D):=by
 refine zEF (by simp [lst]) fun j hj=> ?_
 show _=(bif Nat.beq i j then true else inL D j)
 by_cases e:i=j
 ·subst e
  rw [pD,Array.getElem?_setIfInBounds_self_of_lt (by rw [zD1];exact hi),rB]
  rfl
 ·rw [pA false e,zAJ hj]
  cases h:Nat.beq i j with
  |true=>exact absurd (pU h) e
  |false=>rfl
def zQl (ops:Array Oper) (D fl D':List Nat):Bool:=(List.range ops.size).all fun j=>inL D' j||(List.range ops.size).all fun i=> !inL D' i||inL fl i||inL D i||zCz ops ops.size i j
section
variable {F:Fence} {n:Nat} {P:Wf} {ops:Array Oper} {Q:Exit->Act->W8->Prop}
variable {A:Nat->Bool} {E:Nat->Wb->W8->Prop} {C:W8->Prop} {a0:Act}
theorem zSl {D D':List Nat} {z:Nat} (fl:List Nat) (hpl:zAf ops=true) (hns:Region.noSelect ops=true) (hzs:ops.size<=z) (CW:W8->Prop) (hCW: ∀w,C w->CW w) (hfree: ∀i,inL D i=false->inL D' i=true->inL fl i=true->Region.free .any ops (zCk ops i) i=true)
  (hfk: ∀i,inL D' i=true->inL fl i=true->(lst ops.size D).getD i true=false-> ∀o,ops[i]?=some o-> ∀a w,FlowB ops (lst ops.size D) A E C a0 (fun j=>(lst ops.size D).getD j true=false/\ ∃e∈o.after,Region.binds .any e=true/\e.on=j) a w-> ∃v,zAb P ops CW o v a)
  (hear:zAY ops=true) (htl:zQl ops D fl D'=true) (hap:qV ops=true) (hfr:jT ops a0.tmps.size=true) (hcl':zDD ops (lst ops.size D')) (hC: ∀w w',C w->Below w.heap.size w w'->C w') (hE: ∀i v w w',E i v w->Below w.heap.size w w'->E i v w')
  (hspec: ∀i,inL D' i=true->(lst ops.size D).getD i true=false-> ∀o,ops[i]?=some o-> ∀a w,FlowB ops (lst ops.size D) A E C a0 (fun j=>(lst ops.size D).getD j true=false/\ ∃e∈o.after,Region.binds .any e=true/\e.on=j) a w-> ∀K:Act->W8->Prop,(∀v w',E i v w'->Below w.heap.size w w'->(A i=true-> ∀b,blk v=some b->w.heap.size<=b/\b<w'.heap.size)->K (a.put o.dst v) w')->wpOpIn F n P ops (qQ Q) i K a w)
  (hfin: ∀a w,FlowB ops (lst ops.size D) A E C a0 (fun i=>inL D' i=true/\(lst ops.size D).getD i true=false) a w->jL F n P .any ops z CW (qQ Q) ((lst ops.size D').count false) (lst ops.size D') a w):
  ∀(fuel:Nat) (listed:Array Bool) (a:Act) (w:W8),listed.count false=fuel->listed.size=ops.size->(∀i,i<ops.size->inL D' i=false->listed.getD i false=false)->zDD ops listed->(∀i,i<ops.size->inL D i=true->listed.getD i false=true)->
   FlowB ops (lst ops.size D) A E C a0 (fun i=>(lst ops.size D).getD i true=false/\listed.getD i false=true) a w->jL F n P .any ops z CW (qQ Q) fuel listed a w:=by
 intro fuel
 induction fuel with
 | zero=>
  intro listed a w hc hs hlate hcl hsub hf
  have hno: ∀i,listed.getD i true=true:=fun i=>by
   cases hg:listed.getD i true with
   |true=>rfl
   |false=>have:=jN hg;omega
  have hall: ∀i,i<ops.size->listed.getD i false=true:=fun i hi=>by
   have h1:=hno i
   have hlt:i<listed.size:=by omega
   simp [hlt] at h1 ⊢
   exact h1
  have hl:listed=lst ops.size D':=zEF hs fun i hi=>by
   rw [hall i hi]
   cases h:inL D' i with
   |true=>rfl
   |false=>have:=hlate i hi h;rw [hall i hi] at this;cases this
  have:=hfin a w (hf.mono fun i hi=>⟨hi.2,hall i (zDC hi.2).1⟩)
  rw [<-hl,hc] at this
  exact this
 | succ fuel ih=>
  intro listed a w hc hs hlate hcl hsub hf
  by_cases hall: ∀i,i<ops.size->inL D' i=true->listed.getD i false=true
  ·have hl:listed=lst ops.size D':=zEF hs fun i hi=>by
    cases h:inL D' i with
    |true=>exact hall i hi h
    |false=>exact hlate i hi h
   have:=hfin a w (hf.mono fun i hi=>⟨hi.2,hall i (zDC hi.2).1 hi.1⟩)
   rw [<-hl,hc] at this
   exact this
  ·simp only [Classical.not_forall] at hall
   obtain ⟨u0,hu0l,hu0p,hu0⟩:=hall
   obtain ⟨u,⟨hul,hup,hu⟩,hmin⟩:=zEH (p:=fun u=>u<ops.size/\inL D' u=true/\ ¬listed.getD u false=true) u0 ⟨hu0l,hu0p,hu0⟩
   have hlt:u<listed.size:=by omega
   have hu':listed.getD u true=false:=by
    simp [hlt] at hu ⊢
    exact hu
   have hl0u:(lst ops.size D).getD u true=false:=by
    rw [zAJ hul]
    cases hg:inL D u with
    |false=>rfl
    |true=>exact absurd (hsub u hul hg) hu
   have hsome: ∀i,listed.getD i true=false->Region.ready .any ops listed≠ []:=by
    intro i
    induction i using Nat.strongRecOn with
    | _ i ihi=>
     intro hi hnil
     have hlt:i<listed.size:=by
      rcases pM i listed.size with e|e
      ·exact e
      ·simp [pW e] at hi
     have ho:ops[i]?=some (ops[i]'(by rw [<-hs];exact hlt)):=pX _
     by_cases hall: ∀e∈(ops[i]'(by rw [<-hs];exact hlt)).after,Region.binds .any e=true->listed.getD e.on false=true
     ·have hm:i∈Region.ready .any ops listed:=pY.2 ⟨hi,_,ho,hall⟩
      rw [hnil] at hm
      cases hm
     ·simp only [Classical.not_forall] at hall
      obtain ⟨e,he,hb,hg⟩:=hall
      have hel:=zAM hear ho he hb
      refine ihi e.on hel ?_ hnil
      have hlt2:e.on<listed.size:=by omega
      simp [hlt2] at hg ⊢
      exact hg
   by_cases hfu:inL fl u=true
   ·have hou:ops[u]?=some ops[u]:=pX hul
    have hdone: ∀e∈ops[u].after,Region.binds .any e=true->listed.getD e.on false=true:=fun e he hb=>by
     have hel:=zAM hear hou he hb
     have hpe:inL D' e.on=true:=by
      have:=hcl' u _ (by rw [zAJ hul];exact hup) hou e he hb
      rwa [zAJ oN] at this
     exact Classical.byContradiction fun hc=>hmin e.on hel ⟨by omega,hpe,hc⟩
    have hrd:(Region.ready .any ops listed).contains u=true:=pV.2 (pY.2 ⟨hu',_,hou,hdone⟩)
    have hfre:=hfree u (zDC hl0u).2 hup hfu
    obtain ⟨v0,hy⟩:=hfk u hup hfu hl0u _ hou a w (hf.mono fun j hj=>(by
     obtain ⟨hj0,e,he,hb,rfl⟩:=hj
     exact ⟨hj0,hdone e he hb⟩))
    have hw:=hspec u hup hl0u _ hou a w (hf.mono fun j hj=>(by
     obtain ⟨hj0,e,he,hb,rfl⟩:=hj
     exact ⟨hj0,hdone e he hb⟩)) (fun a' w'=> ∃v,a'=a.put ops[u].dst v/\E u v w'/\Below w.heap.size w w'/\(A u=true-> ∀b,blk v=some b->w.heap.size<=b/\b<w'.heap.size)) (fun v w' hv hb hA=>⟨v,rfl,hv,hb,hA⟩)
    obtain ⟨v,hpe,hv,hb,hA⟩:=zJe hou hpl hy (hCW _ hf.at_.cls) hw
    refine zP (i:=u) (v:=v0) hpl (by unfold zBm;rw [pW hzs]) hou hns (zNn (fun j hj hc=>(by
     have h9:=zAN hcl _ j u _ hou hdone hc
     have g:j<listed.size:=by omega
     simp [g] at h9 ⊢
     exact h9)) hfre) hrd (fun _ _ _ h=>h) (hCW _ hf.at_.cls) hy ?_
    rw [hpe]
    refine ih (listed.setIfInBounds u true) (a.put ops[u].dst v) w ?_ (by simpa using hs) (fun j hj hjp=> ?_) (fun j oj hj hoj e he hbe=> ?_) (fun j hj hjl=> ?_) ((hf.put hap hfr hC hE hou hl0u hv hb hA).mono fun j hj=> ?_)
    ·have:=jN hu'
     omega
    ·rw [pA false (fun e=>by subst e;rw [hup] at hjp;cases hjp)]
     exact hlate j hj hjp
    ·by_cases e2:j=u
     ·subst e2
      rw [hou] at hoj
      cases hoj
      by_cases e3:e.on=j
      ·rw [e3];exact hj
      ·rw [pA false (Ne.symm e3)]
       exact hdone e he hbe
     ·rw [pA false (Ne.symm e2)] at hj
      have:=hcl j oj hj hoj e he hbe
      by_cases e3:e.on=u
      ·rw [e3]
       simp [hlt]
      ·rw [pA false (Ne.symm e3)]
       exact this
    ·by_cases e3:j=u
     ·rw [e3];simp [hlt]
     ·rw [pA false (Ne.symm e3)]
      exact hsub j hj hjl
    ·by_cases e:j=u
     ·exact .inr e
     ·left
      rw [pA false (Ne.symm e)] at hj
      exact hj
   ·refine ⟨fun hnil=>(hsome u hu' hnil).elim,fun i hi=> ?_⟩
    obtain ⟨hun,o,ho,hall⟩:=pY.1 hi
    have hil:=(pN.1 ho).1
    have hl0:(lst ops.size D).getD i true=false:=by
     rw [zAJ hil]
     cases hg:inL D i with
     |false=>rfl
     |true=>
      have:=hsub i hil hg
      have hlt3:i<listed.size:=by omega
      simp [hlt3] at hun
      simp [hlt3] at this
      rw [this] at hun
      cases hun
    have hip:inL D' i=true:=by
     cases hg:inL D' i with
     |true=>rfl
     |false=>
      exfalso
      have h1:=nX.1 htl i (nY.2 hil)
      rw [hg,Bool.false_or] at h1
      have h2:=nX.1 h1 u (nY.2 hul)
      simp only [Bool.or_eq_true,pI] at h2
      rcases h2 with ((h2|h2)|h2)|h2
      ·rw [hup] at h2;cases h2
      ·exact hfu h2
      ·exact hu (hsub u hul h2)
      ·exact hu (zAN hcl _ u i o ho hall h2)
    refine hspec i hip hl0 o ho a w (hf.mono fun j hj=> ?_) _ fun v w' hv hb hA=>⟨.inr (hCW _ (hC _ _ hf.at_.cls hb)), ?_⟩
    ·obtain ⟨hj0,e,he,hb,rfl⟩:=hj
     exact ⟨hj0,hall e he hb⟩
    ·refine ih (listed.setIfInBounds i true) (a.put o.dst v) w' ?_ (by simpa using hs) (fun j hj hjp=> ?_) (fun j oj hj hoj e he hbe=> ?_) (fun j hj hjl=> ?_) ((hf.put hap hfr hC hE ho hl0 hv hb hA).mono fun j hj=> ?_)
     ·have:=jN hun
      omega
     ·rw [pA false (fun e=>by subst e;rw [hip] at hjp;cases hjp)]
      exact hlate j hj hjp
     ·by_cases e2:j=i
      ·subst e2
       rw [ho] at hoj
       cases hoj
       by_cases e3:e.on=j
       ·rw [e3];exact hj
       ·rw [pA false (Ne.symm e3)]
        exact hall e he hbe
      ·rw [pA false (Ne.symm e2)] at hj
       have:=hcl j oj hj hoj e he hbe
       by_cases e3:e.on=i
       ·rw [e3]
        have hlt:i<listed.size:=by omega
        simp [hlt]
       ·rw [pA false (Ne.symm e3)]
        exact this
     ·by_cases e3:j=i
      ·have hlt:i<listed.size:=by omega
       rw [e3];simp [hlt]
      ·rw [pA false (Ne.symm e3)]
       exact hsub j hj hjl
     ·by_cases e:j=i
      ·exact .inr e
      ·left
       rw [pA false (Ne.symm e)] at hj
       exact hj
end
def zJN (F:Fence) (m:Nat) (P:Wf) (ops:Array Oper) (CW:W8->Prop) (Q:Exit->Act->W8->Prop) (D:List Nat) (a:Act) (w:W8):Prop:=
 jL F m P .any ops ops.size CW (qQ Q) ((lst ops.size D).count false) (lst ops.size D) a w
def Gr (CW:W8->Prop) (w:W8):Prop:= ∀w',Below w.heap.size w w'->CW w'
def FdC (P:Wf) (CW:W8->Prop) (w:W8) (ops:Array Oper) (G:Nat->SF) (o:Oper):Prop:=
 ∀(b:Act) (W:W8),Below w.heap.size w W->(∀t,t∈looks ops o->(G t).p (b.tmps.getD t undef) W)-> ∃v,zAb P ops CW o v b
def zNc (ops:Array Oper) (D':List Nat) (G:Nat->SF) (t:Nat):SF:=bif (List.range ops.size).any (fun i=> !inL D' i&&(zW ops i==some t)) then SF.any else G t
def zRq (ops:Array Oper) (fl D is:List Nat) (n:Nat) (keys ts:List Nat):Bool:=
 qV ops&&jT ops n&&zAf ops&&Region.noSelect ops&&zAY ops&&zAI keys&&
 zDt ops (lst ops.size D)&&zDt ops (lst ops.size (is++D))&&
 keys.all (fun t=>is.any fun i=> !inL D i&&(zW ops i==some t))&&
 ts.all (fun t=>(List.range ops.size).all fun i=>inL D i|| !(zW ops i==some t))&&
 is.all (fun i=>decide (i<ops.size)&& !inL D i&&(!inL fl i||Region.free .any ops (zCk ops i) i)&&match ops[i]? with
  |none=>true
  |some o=>(looks ops o).all fun t=>(List.range ops.size).all fun j=>inL D j|| !(zW ops j==some t)||o.after.any fun e=>Region.binds .any e&&e.on==j)&&
 zQl ops D fl (is++D)
def zJi (ops:Array Oper) (is:List Nat):List Oper:=is.filterMap fun i=>ops[i]?
theorem zDQ {F:Fence} {m:Nat} {P:Wf} {w0:W8} {ops ops':Array Oper} {G:Nat->SF}: ∀{is:List Nat},Obs F m P w0 ops' G (zJi ops is)-> ∀i,i∈is-> ∀o,ops[i]?=some o->qP F m P w0 ops' G o
 | [],_,i,hi,_,_=>by cases hi
 | k::is,h,i,hi,o,ho=>by
  unfold zJi at h
  rw [List.filterMap_cons] at h
  cases hk:ops[k]? with
  |none=>
   rw [hk] at h
   rcases pH.1 hi with rfl|hi
   ·rw [ho] at hk;cases hk
   ·exact zDQ h i hi o ho
  |some ok=>
   rw [hk] at h
   rcases pH.1 hi with rfl|hi
   ·rw [ho] at hk;cases hk;exact h.1
   ·exact zDQ h.2 i hi o ho
theorem zO6 {F:Fence} {m:Nat} {P:Wf} {ops:Array Oper} {Q:Exit->Act->W8->Prop} {CW:W8->Prop} {G:Nat->SF} {n:Nat} {ds:List Deferred} {a:Act} {w:W8} {D:List Nat} (fl is ts:List Nat) (al:List NewB) (L:List (Nat×SF))
  (hcw:Gr CW w) (hchk:zRq ops fl D is n (L.map (·.1)) ts=true) (h:At w G n ds a w) (hobs:Obs F m P w ops (upd G L) (zJi ops is))
  (hal: ∀q,q∈al->q.i∈is/\q.f.isIn L q.d/\(∃ty pos aft,ops[q.i]?=some ⟨some q.d, .alloc q.e,ty,pos,aft,none⟩)/\zeroCells P q.e=some q.cs/\ ∀v W,(wQ w q.e q.cs).p v W->q.f.p v W)
  (hfd: ∀i o,inL fl i=true->ops[i]?=some o->FdC P CW w ops (upd G L) o)
  (hfin: ∀a w',At w (zNc ops (is++D) (upd G L)) n ds a w'->zL7 al a->zJN F m P ops CW Q (is++D) a w'):zJN F m P ops CW Q D a w:=by
 unfold zRq at hchk
 simp only [nZ] at hchk
 obtain ⟨⟨⟨⟨⟨⟨⟨⟨⟨⟨⟨hap,hfr⟩,hpl⟩,hns⟩,hear⟩,hndk⟩,hc1⟩,hc2⟩,hkeys⟩,hts⟩,his⟩,htl⟩:=hchk
 have hisD: ∀i,inL (is++D) i=true->inL D i=false->i∈is:=fun i h1 h2=>by
  rw [zEK,h2,Bool.or_false] at h1
  exact zEJ h1
 have hkey: ∀t,(∀j,inL D j=false->j∈is->zW ops j≠some t)->upd G L t=G t:=fun t ht=>by
  refine zAm ?_
  cases hc:(L.map (·.1)).contains t with
  |false=>rfl
  |true=>
   exfalso
   obtain ⟨i,hi,he⟩:=pJ.1 (nX.1 hkeys t (pV.1 hc))
   simp only [nZ,pI,pF] at he
   exact ht i he.1 hi he.2
 have hst: ∀t,(∀j,inL D j=false->j∈is->zW ops j≠some t)->(upd G L t).p (a.tmps.getD t undef) w:=fun t ht=>by rw [hkey t ht];exact h.sl t
 have hspecs: ∀i,i∈is->i<ops.size/\(inL fl i=true->Region.free .any ops (zCk ops i) i=true)/\ ∀o,ops[i]?=some o-> ∀t,t∈looks ops o-> ∀j,inL D j=false->zW ops j=some t->(o.after.any fun e=>Region.binds .any e&&e.on==j)=true:=fun i hi=>by
  have h1:=nX.1 his i hi
  simp only [nZ,pG] at h1
  refine ⟨h1.1.1.1,fun hf=>(by have h2:=h1.1.2;rw [hf] at h2;simpa using h2),fun o ho t ht j hj hjd=> ?_⟩
  have h2:=h1.2
  rw [ho] at h2
  have hlt:j<ops.size:=by
   rcases pM j ops.size with e|e
   ·exact e
   ·rw [zW,pW e] at hjd;cases hjd
  have h3:=nX.1 (nX.1 h2 t ht) j (nY.2 hlt)
  rw [hj,hjd] at h3
  simpa using h3
 have hnd: ∀t,(∀j,inL D j=false->zW ops j≠some t)->zBo ops (lst ops.size D) t=false:=fun t ht=>by
  cases hd:zBo ops (lst ops.size D) t with
  |false=>rfl
  |true=>
   exfalso
   unfold zBo at hd
   obtain ⟨i,hi,hp⟩:=pJ.1 hd
   simp only [nZ,pF,pI] at hp
   have hp1:=hp.1
   rw [zAJ (nY.1 hi)] at hp1
   exact ht i hp1 (by rw [<-zD3];exact hp.2)
 -- what an operation looks at holds where those it waits for have run
 have hlook: ∀i o,i∈is->ops[i]?=some o-> ∀b W,FlowB ops (lst ops.size D) (fun i=>al.any fun q=>q.i==i) (fun i v W=> ∀o,ops[i]?=some o-> ∀d,o.dst=some d->(upd G L d).p v W) (fun W=>Below w.heap.size w W) a (fun j=>(lst ops.size D).getD j true=false/\ ∃e∈o.after,Region.binds .any e=true/\e.on=j) b W-> ∀t,t∈looks ops o->(upd G L t).p (b.tmps.getD t undef) W:=fun i o hi ho b W hf t ht=>by
  by_cases hex: ∃j,inL D j=false/\zW ops j=some t
  ·obtain ⟨j,hjD,hj⟩:=hex
   have h1:=(hspecs i hi).2.2 o ho t ht j hjD hj
   obtain ⟨x,hx,he⟩:=Array.any_eq_true.1 h1
   simp only [nZ,pF] at he
   cases hoj:ops[j]? with
   |none=>rw [zW,hoj] at hj;cases hj
   |some oj=>
    rw [qZ hoj] at hj
    exact hf.at_.vals j oj t ⟨by rw [zAJ (pN.1 hoj).1];exact hjD,_,Array.getElem_mem hx,he.1,he.2⟩ hoj hj oj hoj t hj
  ·have hno: ∀j,inL D j=false->zW ops j≠some t:=fun j h1 h2=>hex ⟨j,h1,h2⟩
   rw [hf.at_.keep t (hnd t hno)]
   exact (upd G L t).st _ _ _ (hst t (fun j hj _=>hno j hj)) hf.at_.cls
 have hno: ∀i, ¬((lst ops.size D).getD i true=false/\(lst ops.size D).getD i false=true):=fun i hi=>by
  have h1:=zDC hi.1
  have h2:=hi.2
  rw [zAJ h1.1,h1.2] at h2
  cases h2
 refine zSl (Q:=Q) (D:=D) (D':=is++D) (z:=ops.size) (a0:=a) (A:=fun i=>al.any fun q=>q.i==i) (E:=fun i v W=> ∀o,ops[i]?=some o-> ∀d,o.dst=some d->(upd G L d).p v W) (C:=fun W=>Below w.heap.size w W) fl hpl hns lr CW hcw ?hfree ?hfk hear htl hap (by rw [h.size];exact hfr) (zCh hc2) (fun W W' hC hb=>hC.trans (hb.mono hC.size)) (fun i v W W' hE hb o ho d hd=>(upd G L d).st _ _ _ (hE o ho d hd) hb) ?spec ?fin _ (lst ops.size D) a w rfl (zD1 _ _) (fun i hi hp=> ?_) (zCh hc1) (fun i hi hp=>by rw [zAJ hi];exact hp) ⟨⟨pB _ _,rfl,rfl,fun _ _=>rfl,fun i o t hi=>(hno i hi).elim⟩,fun i o t b hi=>(hno i hi).elim,fun i j oi oj ti tj bi bj hi=>(hno i hi).elim⟩
 case hfree=>exact fun i hD hp hf=>(hspecs i (hisD i hp hD)).2.1 hf
 case hfk=>
  intro i hp hf hl o ho b W hfl
  have hi:=hisD i hp (zDC hl).2
  exact hfd i o hf ho b W hfl.at_.cls (hlook i o hi ho b W hfl)
 case spec=>
  intro i hp hl o ho b W hfl K hK
  have hi:=hisD i hp (zDC hl).2
  have hfj: ∀j g,zW ops j=some g->g<b.tmps.size:=fun j g hj=>by
   rw [hfl.at_.size,h.size]
   obtain ⟨oj,hoj,hdj⟩:=y5 hj
   exact y9 hfr hoj hdj
  by_cases hAi:(al.any fun q=>q.i==i)=true
  ·obtain ⟨q,hq,hqi⟩:=pJ.1 hAi
   obtain rfl:q.i=i:=by simpa using hqi
   obtain ⟨_,hin,⟨ty,pos,aft,hop⟩,hz,hown⟩:=hal q hq
   rw [ho] at hop
   cases hop
   refine jX ho (show qP F m P W ops (fun _=>wQ W q.e q.cs) ⟨some q.d, .alloc q.e,ty,pos,aft,none⟩ from zIM hz) hfj (pB _ _) (fun t ht=>by cases ht) (fun v W' hv hb=> ?_)
   obtain ⟨b',rfl,h1,h2⟩:=hv q.d rfl
   refine hK _ W' (fun o' ho' d hd=> ?_) hb (fun _ b'' hb''=> ?_)
   ·rw [ho] at ho'
    cases ho'
    cases hd
    rw [zCA (q:=(q.d,q.f)) hndk hin]
    exact hown _ W' ⟨b',rfl,pL hfl.at_.cls.size h1,h2⟩
   ·cases hb''
    exact ⟨h1,(pN.1 h2).1⟩
  refine jX ho (zDQ hobs i hi o ho) hfj hfl.at_.cls (hlook i o hi ho b W hfl) (fun v W' hv hb=>hK v W' (fun o' ho' d hd=>by rw [ho] at ho';cases ho';exact hv d hd) hb (fun e=>absurd e hAi))
 case fin=>
  intro b W hfl
  have hin': ∀q,q∈al->inL (is++D) q.i=true/\(lst ops.size D).getD q.i true=false:=fun q hq=>by
   have h1:=(hal q hq).1
   have h2:=nX.1 his _ h1
   simp only [nZ,pG,pI] at h2
   exact ⟨by rw [zEK,zFn h1,rD],by rw [zAJ h2.1.1.1];exact h2.1.1.2⟩
  refine hfin b W ⟨hfl.at_.cls,by rw [hfl.at_.size];exact h.size,by rw [hfl.at_.defers];exact h.nd,fun t=> ?_⟩ fun q q' hq hq' hne b1 b2 e1 e2=>(by
   obtain ⟨_,_,⟨_,_,_,g2⟩,_⟩:=hal q hq
   obtain ⟨_,_,⟨_,_,_,g2'⟩,_⟩:=hal q' hq'
   exact hfl.apart q.i q'.i _ _ q.d q'.d b1 b2 (hin' q hq) (hin' q' hq') hne (pJ.2 ⟨q,hq,by simp⟩) (pJ.2 ⟨q',hq',by simp⟩) g2 g2' rfl rfl e1 e2)
  unfold zNc
  cases hc:(List.range ops.size).any fun i=> !inL (is++D) i&&(zW ops i==some t) with
  |true=>trivial
  | false=>
   show (upd G L t).p _ _
   by_cases hex: ∃j,inL D j=false/\zW ops j=some t
   ·obtain ⟨j,hjD,hj⟩:=hex
    have hlt:j<ops.size:=by
     rcases pM j ops.size with e|e
     ·exact e
     ·rw [zW,pW e] at hj;cases hj
    have h1:=rM.1 hc j (nY.2 hlt)
    rw [hj] at h1
    have hjp:inL (is++D) j=true:=by simpa using h1
    cases hoj:ops[j]? with
    |none=>rw [zW,hoj] at hj;cases hj
    |some oj=>
     rw [qZ hoj] at hj
     exact hfl.at_.vals j oj t ⟨hjp,by rw [zAJ hlt];exact hjD⟩ hoj hj oj hoj t hj
   ·have hno: ∀j,inL D j=false->zW ops j≠some t:=fun j h1 h2=>hex ⟨j,h1,h2⟩
    rw [hfl.at_.keep t (hnd t hno)]
    exact (upd G L t).st _ _ _ (hst t (fun j hj _=>hno j hj)) hfl.at_.cls
 ·rw [zAJ hi]
  cases h:inL D i with
  |false=>rfl
  |true=>rw [zEK,h,Bool.or_true] at hp;cases hp
section
variable {S:Nat->Prop} {w0:W8} {K:List (Nat×KF)} {B:List Bx} {n:Nat} {ds:List Deferred} {a:Act} {w:W8} {F:Fence} {m:Nat} {P:Wf} {ops:Array Oper} {Q:Exit->Act->W8->Prop} {wb:W8} {CW:W8->Prop} {D:List Nat}
theorem StS.later (h:StS S w0 K B n ds a w) {w':W8} (hb:Below w.heap.size w w'):StS S w0 K B n ds a w':=
 ⟨h.gr.trans hb,h.size,h.nd,fun q hq=>KF.us (h.sl q hq) (zL hb),h.bx.keep hb (zL hb) B (fun _ _=>rfl),zAR h.mks hb,h.so⟩
theorem zO5 {id:Nat} (CW:W8->Prop) (hmix:P.follows .mixedOrders=true) (h:StS S w0 K B n ds a w) (fin: ∀w1,Below w.heap.size w w1->StS S w0 K B n ds a w1->zJN F m P ops CW Q [] a w1):(Code.region id ops true).wpIn F m P Q a w:=by
 refine zY ops.size CW hmix ?_
 have hd:Below w.heap.size w w.drew:=(pB _ w).drew
 have:=fin w.drew hd (h.later hd)
 unfold zJN at this
 have e:lst ops.size []=Array.replicate ops.size false:=by
  refine (zEF (by simp) fun i hi=> ?_).symm
  rw [pD,rT,if_pos hi]
  rfl
 rw [e,Array.count_replicate_self] at this
 exact this
theorem zMH (h:(List.range ops.size).all (inL D)=true) (hQ:Q .normal a w):zJN F m P ops CW Q D a w:=by
 have e:lst ops.size D=Array.replicate ops.size true:=(zEF (by simp) fun i hi=>by
  rw [pD,rT,if_pos hi]
  exact (nX.1 h i (nY.2 hi)).symm).symm
 have hc:(lst ops.size D).count false=0:=by rw [e];simp [Array.count_replicate]
 unfold zJN
 rw [hc]
 refine ⟨List.eq_nil_iff_forall_not_mem.2 fun i hi=> ?_,hQ⟩
 have h1:=(pY.1 hi).1
 have h2:=zDC h1
 rw [nX.1 h i (nY.2 h2.1)] at h2
 cases h2.2
theorem zKr {i:Nat} (hr:Region.ready .any ops (lst ops.size D)= [i]) (h:wpOpIn F m P ops (qQ Q) i (fun a' w'=>CW w'/\zJN F m P ops CW Q (i::D) a' w') a w):zJN F m P ops CW Q D a w:=by
 have hi:=(pY.1 (show i∈Region.ready .any ops (lst ops.size D) by rw [hr];simp)).1
 have hlt:=(zDC hi).1
 have hc:=jN hi
 rw [zK7 hlt] at hc
 unfold zJN
 rw [<-hc]
 refine ⟨fun e=>(by rw [hr] at e;cases e),fun j hj=> ?_⟩
 rw [hr] at hj
 obtain rfl:j=i:=by simpa using hj
 exact wpOpIn_mono (fun a' w' hh=>⟨.inr hh.1,by rw [zK7 hlt];exact hh.2⟩) h
theorem zMG (fl is:List Nat) (al:List NewB) (L:List (Nat×Rw)) (hcw:Gr CW w) (h:StS S w0 K B n ds a w)
  (hchk:zRq ops fl D is n (L.map (·.1)) (K.map (·.1)++B.map (·.t))=true)
  (hobs:Obs F m P w ops (upd (zAB K B) (zT L)) (zJi ops is))
  (hal: ∀q,q∈al->q.i∈is/\q.f.isIn (zT L) q.d/\(∃ty pos aft,ops[q.i]?=some ⟨some q.d, .alloc q.e,ty,pos,aft,none⟩)/\zeroCells P q.e=some q.cs/\ ∀v W,(wQ w q.e q.cs).p v W->q.f.p v W)
  (hfd: ∀i o,inL fl i=true->ops[i]?=some o->FdC P CW w ops (upd (zAB K B) (zT L)) o)
  (hfin: ∀a' w',Below w.heap.size w w'->StS S w0 (zBn L++K) B n ds a' w'->(∀q,q∈zT L->q.2.p (a'.tmps.getD q.1 undef) w')->zL7 al a'->zJN F m P ops CW Q (is++D) a' w'):zJN F m P ops CW Q D a w:=by
 have hchk0:=hchk
 unfold zRq at hchk0
 simp only [nZ] at hchk0
 obtain ⟨⟨⟨⟨⟨⟨⟨⟨⟨⟨⟨hap,hfr⟩,hpl⟩,hns⟩,hear⟩,hndk⟩,hc1⟩,hc2⟩,hks⟩,hts⟩,his⟩,htl⟩:=hchk0
 have hkeys:(zT L).map (·.1)=L.map (·.1):=by simp [zT]
 have hsame: ∀t,t∈K.map (·.1)++B.map (·.t)-> ∀i,inL D i=false->zW ops i≠some t:=fun t ht i hD hi=>by
  have h1:=nX.1 hts t ht
  obtain ⟨o,ho,_⟩:=y5 hi
  have h2:=nX.1 h1 i (nY.2 (pN.1 ho).1)
  rw [hi,hD] at h2
  simp at h2
 have hkn: ∀t,t∈K.map (·.1)++B.map (·.t)->((zT L).map (·.1)).contains t=false:=fun t ht=>by
  cases hc:((zT L).map (·.1)).contains t with
  |false=>rfl
  |true=>
   exfalso
   have hm:=pV.1 hc
   rw [hkeys] at hm
   obtain ⟨i,_,he⟩:=pJ.1 (nX.1 hks t hm)
   simp only [nZ,pI,pF] at he
   exact hsame t ht i he.1 he.2
 have hno: ∀(l:List (Nat×SF)) t, ¬t∈K.map (·.1)++B.map (·.t)->upd (zAu K B a) l t=upd (zAB K B) l t:=fun l t ht=>by
  induction l with
  |nil=>exact if_neg ht
  |cons q l ih=>
   show (bif Nat.beq q.1 t then q.2 else upd _ l t)=(bif Nat.beq q.1 t then q.2 else upd _ l t)
   rw [ih]
 have hle: ∀t v W,(upd (zAu K B a) (zT L) t).p v W->(upd (zAB K B) (zT L) t).p v W:=fun t v W hh=>by
  by_cases ht:t∈K.map (·.1)++B.map (·.t)
  ·rw [zAm (hkn t ht)] at hh ⊢
   unfold zAu at hh
   rw [if_pos ht] at hh
   exact hh.1
  ·rwa [hno _ t ht] at hh
 have hA:=h.at
 refine zO6 fl is (K.map (·.1)++B.map (·.t)) al (zT L) hcw (by rw [hkeys];exact hchk) (G:=zAu K B a) (ds:=ds) ⟨hA.gr,hA.size,hA.nd,fun t=> ?_⟩ ?_ hal (fun i o hi ho b W hb hr=>hfd i o hi ho b W hb (fun t ht=>hle t _ _ (hr t ht))) fun a' w' hA' hD=> ?_
 ·by_cases ht:t∈K.map (·.1)++B.map (·.t)
  ·unfold zAu;rw [if_pos ht];exact ⟨hA.sl t,rfl⟩
  ·unfold zAu;rw [if_neg ht];exact hA.sl t
 ·have hge: ∀t,(∃i,inL D i=false/\zW ops i=some t)-> ∀v W,(upd (zAB K B) (zT L) t).p v W->(upd (zAu K B a) (zT L) t).p v W:=fun t ⟨i,hD,hi⟩ v W hh=>by
   rw [hno _ t (fun ht=>hsame t ht i hD hi)]
   exact hh
  have hconv: ∀(i:Nat) (o:Oper),inL D i=false->ops[i]?=some o->qP F m P w ops (upd (zAB K B) (zT L)) o->qP F m P w ops (upd (zAu K B a) (zT L)) o:=by
   intro i o hD ho hg
   have hdst: ∀d,o.dst=some d-> ∃i,inL D i=false/\zW ops i=some d:=fun d hd=>⟨i,hD,by rw [qZ ho];exact hd⟩
   have hop:zMc F m P w (upd (zAB K B) (zT L)) o->zMc F m P w (upd (zAu K B a) (zT L)) o:=fun h1 b W K' Q' hb hr hK'=>
    h1 b W K' Q' hb (fun t ht=>hle t _ _ (hr t ht)) fun v W' hv hb'=>hK' v W' (fun d hd=>hge d (hdst d hd) _ _ (hv d hd)) hb'
   unfold qP at hg ⊢
   cases hgd:o.guard with
   |none=>rw [hgd] at hg;exact hop hg
   |some q=>
    rw [hgd] at hg
    obtain ⟨g,bv,h1,h2,h3,h4⟩:=hg
    exact ⟨g,bv,h1,fun v W hh=>h2 v W (hle g v W hh),fun e=>hop (h3 e),fun e=>⟨fun d hd W=>hge d (hdst d hd) _ _ ((h4 e).1 d hd W),(h4 e).2⟩⟩
  have hall: ∀l:List Nat,(∀i,i∈l->inL D i=false/\i<ops.size)->Obs F m P w ops (upd (zAB K B) (zT L)) (zJi ops l)->Obs F m P w ops (upd (zAu K B a) (zT L)) (zJi ops l):=by
   intro l
   induction l with
   |nil=>intro _ _;trivial
   |cons i l ih=>
    intro hm ho
    obtain ⟨hD,hlt⟩:=hm i (by simp)
    have hoi:ops[i]?=some ops[i]:=pX hlt
    have e:zJi ops (i::l)=ops[i]::zJi ops l:=by unfold zJi;rw [List.filterMap_cons,hoi]
    rw [e] at ho ⊢
    exact ⟨hconv i _ hD hoi ho.1,ih (fun j hj=>hm j (by simp [hj])) ho.2⟩
  refine hall is (fun i hi=> ?_) hobs
  have h1:=nX.1 his i hi
  simp only [nZ,pG,pI] at h1
  exact ⟨h1.1.1.2,h1.1.1.1⟩
 ·have hg:=hA'.gr
  have hslot: ∀t,t∈K.map (·.1)++B.map (·.t)->a'.tmps.getD t undef=a.tmps.getD t undef:=fun t ht=>by
   have h1:=hA'.sl t
   unfold zNc at h1
   have h2:((List.range ops.size).any fun i=> !inL (is++D) i&&(zW ops i==some t))=false:=by
    refine rM.2 fun i _=> ?_
    cases hD:inL D i with
    |true=>simp [zEK,hD]
    |false=>have:=hsame t ht i hD;simp [this]
   rw [h2,show (bif false then SF.any else upd (zAu K B a) (zT L) t)=upd (zAu K B a) (zT L) t from rfl,zAm (hkn t ht),zAu,if_pos ht] at h1
   exact h1.2
  have hrow: ∀q,q∈zT L->q.2.p (a'.tmps.getD q.1 undef) w':=fun q hm2=>by
   have h1:=hA'.sl q.1
   obtain ⟨i,hi,he⟩:=pJ.1 (nX.1 hks q.1 (by rw [<-hkeys];exact pP.2 ⟨_,hm2,rfl⟩))
   simp only [nZ,pI,pF] at he
   have hiL:inL (is++D) i=true:=by
    rw [zEK]
    rw [zFn hi,rD]
   unfold zNc at h1
   have h2:((List.range ops.size).any fun j=> !inL (is++D) j&&(zW ops j==some q.1))=false:=by
    refine rM.2 fun j _=> ?_
    by_cases hj:j=i
    ·subst hj;simp [hiL]
    ·have:zW ops j≠some q.1:=fun e=>by
      obtain ⟨oi,ho1,hd1⟩:=y5 he.2
      obtain ⟨oj,ho2,hd2⟩:=y5 e
      exact jG hap ho1 ho2 (Ne.symm hj) hd1 hd2
     simp [this]
   rw [h2,show (bif false then SF.any else upd (zAu K B a) (zT L) q.1)=upd (zAu K B a) (zT L) q.1 from rfl,zCA (q:=q) (by rw [hkeys];exact hndk) hm2] at h1
   exact h1
  refine hfin a' w' hg ⟨h.gr.trans hg,hA'.size,hA'.nd,fun q hq=> ?_,h.bx.keep hg (zL hg) B fun x hx=>hslot _ (List.mem_append_right _ (pP.2 ⟨x,hx,rfl⟩)),zAR h.mks hg,h.so.imp (fun hu q hq=>(by
   rcases rN.1 hq with hq|hq
   ·obtain ⟨f,e,_⟩:=zAx hq;exact ⟨f,e⟩
   ·exact hu q hq)) (fun x=>x)⟩ hrow hD
  rcases rN.1 hq with hq|hq
  ·obtain ⟨f,hqf,hm⟩:=zAx hq
   have h1:=hrow (q.1,f.tS) (pP.2 ⟨_,hm,rfl⟩)
   rw [hqf]
   exact h1
  ·rw [hslot q.1 (List.mem_append_left _ (pP.2 ⟨q,hq,rfl⟩))]
   exact KF.us (h.sl q hq) (zL hg)
theorem Obs.below {G:Nat->SF} {w1:W8} (hb:Below w.heap.size w w1): ∀{l:List Oper},Obs F m P w ops G l->Obs F m P w1 ops G l
 | [],_=>trivial
 | o::l,⟨h,t⟩=>by
  have ho:zMc F m P w G o->zMc F m P w1 G o:=fun h b W K Q hb'=>h b W K Q (hb.trans (hb'.mono hb.size))
  refine ⟨?_,Obs.below hb t⟩
  unfold qP at h ⊢
  cases e:o.guard with
  |none=>rw [e] at h;exact ho h
  |some q=>
   rw [e] at h
   obtain ⟨g,bv,h1,h2,h3,h4⟩:=h
   exact ⟨g,bv,h1,h2,fun e=>ho (h3 e),h4⟩
theorem zFc {k:Nat} (hk:k<=ops.size):zJi ops (List.range k)=ops.toList.take k:=by
 induction k with
 |zero=>simp [zJi]
 |succ k ih=>
  have e:ops[k]?=some ops[k]:=pX oN
  have ih:=ih oN
  unfold zJi at ih ⊢
  rw [List.range_succ,List.filterMap_append,ih,List.take_add_one]
  simp [e]
theorem zEq {k:Nat} (hch: ∀r,r<ops.size - k->Region.ready .any ops (yD ops.size (k+r))= [k+r]):
    ∀(f r:Nat) (D:List Nat) (a:Act) (w:W8),k+r+f=ops.size->(∀i,i<ops.size->inL D i=decide (i<k+r))->wpOpsIn F m P ops (qQ Q) (List.range' (k+r) f) a w->zJN F m P ops (fun _=>True) Q D a w
  |0,r,D,a,w,hf,hD,h=>zMH (nX.2 fun i hi=>by
      have:=nY.1 hi
      rw [hD i this]
      exact rO oN) h
  | f+1,r,D,a,w,hf,hD,h=>by
    rw [List.range'_succ] at h
    refine zKr (i:=k+r) ?_ (wpOpIn_mono (fun a w h=>⟨trivial,zEq hch f (r+1) ((k+r)::D) a w oN (fun i hi=> ?_) h⟩) h)
    . rw [show lst ops.size D=yD ops.size (k+r) from (zEF (by simp [yD]) fun i hi=>by rw [pD,zCd hi,hD i hi];rfl).symm]
      exact hch r oN
    . show (bif Nat.beq (k+r) i then true else inL D i)=_
      rw [hD i hi]
      cases e:Nat.beq (k+r) i with
      |true=>exact (rO (by have:=pU e;omega)).symm
      | false=>
        have:k+r≠i:=fun h=>by rw [h,rB] at e;cases e
        exact decide_eq_decide.2 oN
theorem zLx {fl:List Nat} {k:Nat} {G:Nat->SF} (h:(fl.all fun i=>zC3 ops i&&decide (i<k))=true) (hobs:Obs F m P w ops G (zJi ops (List.range k))): ∀i o,inL fl i=true->ops[i]?=some o->FdC P (fun _=>True) w ops G o:=fun i o hi ho b W hb hr=>by
 have h1:=nX.1 h i (zEJ hi)
 simp only [nZ,pG] at h1
 have hg:o.guard=none:=by
  have h2:=h1.1
  unfold zC3 at h2
  rw [ho] at h2
  split at h2<;>first|cases h2|skip
  all_goals (rename_i e;cases e;rfl)
 have h2:=zDQ hobs i (nY.2 h1.2) o ho
 unfold qP at h2
 rw [hg] at h2
 have h3:wpOpIn F m P ops (qQ fun _ _ _=>True) i (fun _ _=>True) b W:=by
  unfold wpOpIn
  rw [ho]
  show (if Region.wanted o (yielded ops b.tmps)=true then _ else _)
  rw [if_pos (by unfold Region.wanted;rw [hg])]
  exact h2 b W _ _ hb (fun t ht=>hr t (by unfold looks;simp [ht])) (fun _ _ _ _=>trivial)
 obtain ⟨_,v,_,hy,_⟩:=zLy ho h1.1 h3
 exact ⟨v,hy⟩
theorem zCD {id:Nat} (fl:List Nat) (al:List NewB) (k:Nat) (L:List (Nat×Rw)) (hmix:P.follows .mixedOrders=true) (h:StS S w0 K B n ds a w)
  (hal: ∀q,q∈al->q.i<k/\q.f.isIn (zT L) q.d/\(∃ty pos aft,ops[q.i]?=some ⟨some q.d, .alloc q.e,ty,pos,aft,none⟩)/\zeroCells P q.e=some q.cs/\ ∀v W,(wQ w q.e q.cs).p v W->q.f.p v W)
  (hchk:(zRq ops fl [] (List.range k) n (L.map (·.1)) (K.map (·.1)++B.map (·.t))&&(fl.all fun i=>zC3 ops i&&decide (i<k))&&decide (k<=ops.size)&&(List.range (ops.size - k)).all fun r=>Region.ready .any ops (yD ops.size (k+r))== [k+r])=true)
  (hobs:Obs F m P w ops (upd (zAB K B) (zT L)) (ops.toList.take k))
  (hfin: ∀Q',(∀a w,Q .normal a w->Q' .normal a w)-> ∀a w,StS S w0 (zBn L++K) B n ds a w->(∀q,q∈zT L->q.2.p (a.tmps.getD q.1 undef) w)->zL7 al a->zBq F m P ops Q' k a w):(Code.region id ops true).wpIn F m P Q a w:=by
 simp only [nZ,pG] at hchk
 obtain ⟨⟨⟨h1,h2⟩,h3⟩,h4⟩:=hchk
 refine zO5 (fun _=>True) hmix h fun w1 hb s=> ?_
 have hal': ∀q,q∈al->q.i∈List.range k/\q.f.isIn (zT L) q.d/\(∃ty pos aft,ops[q.i]?=some ⟨some q.d, .alloc q.e,ty,pos,aft,none⟩)/\zeroCells P q.e=some q.cs/\ ∀v W,(wQ w1 q.e q.cs).p v W->q.f.p v W:=fun q hq=>let ⟨g1,g2,g3,g4,g5⟩:=hal q hq;⟨nY.2 g1,g2,g3,g4,fun v W ⟨b,e,g,g'⟩=>g5 v W ⟨b,e,pL hb.size g,g'⟩⟩
 refine zMG fl (List.range k) al L (fun _ _=>trivial) s h1 (by rw [zFc h3];exact Obs.below hb hobs) hal' (zLx h2 (by rw [zFc h3];exact Obs.below hb hobs)) fun a w' hb' s hr hD=> ?_
 refine zEq (k:=k) (fun r hr=>(by have:=nX.1 h4 r (nY.2 hr);simpa using this)) (ops.size - k) 0 _ a w' oN (fun i _=> ?_) (hfin (qQ Q) iiz a w' s hr hD)
 rw [List.append_nil,Nat.add_zero]
 cases e:inL (List.range k) i with
 |true=>exact (rO (nY.1 (zEJ e))).symm
 |false=>exact (decide_eq_false fun hk=>by rw [zFn (nY.2 hk)] at e;cases e).symm
end
/-! ### Answers of a function that ranges over functions -/
theorem zLl {B:Nat} {W W':W8} (h:Oth B W W'):yT W W':=fun p _ hp=>(h.cell p).trans hp
theorem zEy {B b:Nat} {W W':W8} (h:Oth B W W') {cs:Array Wb} {t:Wc} {z:Nat×Nat} (hc:W.heap[b]?=some (.cells cs t z)):W'.heap[b]?=some (.cells cs t z):=by
 rcases h.block b with e|⟨_,⟨o,ho,hn⟩,_⟩
 ·exact e.trans hc
 ·rw [hc] at ho
  cases ho
  cases hn
section
variable {S:Nat->Prop} {F:Fence} {m:Nat} {P:Wf} {Q:Exit->Act->W8->Prop} {w0:W8} {K:List (Nat×KF)} {B:List Bx} {n:Nat} {ds:List Deferred} {a:Act} {w:W8}
theorem StS.resM (h:St w0 K B n ds a w) {fn:Func} {f:SF} {v:Wb} (hr: ∀w',Oth w0.heap.size w w'->(results fn a.tmps).run P w'= .ok v w') (hv: ∀w',Oth w0.heap.size w w'->f.p v w'):bodyPostM Fence.wide 0 P fn (Ret w0 f) .ret a w:=by
 obtain ⟨Ds,hm⟩:=h.mks
 show LeavesInM Fence.wide 0 P fn a.tmps (Ret w0 f) a.defers .returning w
 rw [h.nd]
 exact y8 w hr Ds _ w hm (Oth.refl _ _) fun w' ho=>⟨v,rfl,hv w' ho,j9 h.gr.below ho lr⟩
def inB (B:List Bx) (k:Nat):Prop:= ∃x,x∈B/\x.b=k/\x.r=false
structure Rnd (N:Nat) (C:Nat->Prop) (W W':World):Prop where
 os:W'.os=W.os
 tape:W'.tape=W.tape
 output:W'.output=W.output
 size:W.heap.size<=W'.heap.size
 low: ∀k:Nat,k<N-> ¬C k->W'.heap[k]?=W.heap[k]?
 cells: ∀(k:Nat) (o:Obj),W.heap[k]?=some o->o.isCells=true-> ¬C k->W'.heap[k]?=some o
 keep:yT W W'
structure Itr (N:Nat) (W W':World):Prop where
 os:W'.os=W.os
 tape:W'.tape=W.tape
 output:W'.output=W.output
 size:W.heap.size<=W'.heap.size
 low: ∀k:Nat,k<N->W'.heap[k]?=W.heap[k]?
 oth: ∀(k:Nat) (o:Obj),W.heap[k]?=some o->o.isCells=false->W'.heap[k]?=some o
 keep:yT W W'
def Ev (Ef:Nat->List UF) (k:Nat) (xs:Array Wb) (W:W8):Prop:=xs.size=(Ef k).length/\ ∀(j:Nat) (f:UF),(Ef k)[j]?=some f->f.p (xs.getD j undef) W
def ItC (P:Wf) (gf:Nat) (lb:Array Wb) (Ef:Nat->List UF) (N:Nat) (endless:Prop) (C:Nat->Prop) (w:W8):Prop:=
 ∀(l:Nat) (J:Nat->W8->Prop) (Z:W8->Prop) (W:W8),w.heap.size<=W.heap.size->Below w.heap.size w W->yT w W->
  (∀k W1 W2,J k W1->Itr W.heap.size W1 W2->J k W2)->(∀W1 W2,Z W1->Itr W.heap.size W1 W2->Z W2)->(endless-> ∀W, ¬J N W)->
  (∀k W1 xs,k<N->J k W1->Ev Ef k xs W1->YieldAt Fence.wide 0 P l xs W1 fun e W'=>((e= .returned (.bool true)/\J (k+1) W')∨(e= .returned (.bool false)/\Z W'))/\Rnd w.heap.size C W1 W')->
  J 0 W->Calls P gf (#[.func (.yield l) #[] #[]]++lb) W fun e W'=>(∃v,e= .returned v)/\(J N W'∨Z W')
theorem wW {S':Nat->Prop} {w1 W:W8} {a1:Act}: ∀(B:List Bx),(∀x,x∈B->x.r=true∨w1.heap.size<=x.b∨S' x.b)->(∀x,x∈B->a1.tmps.getD x.t undef=a.tmps.getD x.t undef)->qA S w0 a W B->qA S' w1 a1 W B
 | [],_,_,_=>trivial
 |x::B,hS,hsl,h=>by
  obtain ⟨⟨cs,h1,_,h3⟩,hr⟩:=h
  exact ⟨⟨cs,(hsl x (rE ..)).trans h1,hS x (rE ..),h3⟩,wW B (fun y hy=>hS y (rF _ hy)) (fun y hy=>hsl y (rF _ hy)) hr⟩
theorem wT {W W':W8} (hk:yT W W'): ∀(B:List Bx),(∀x,x∈B->W'.heap[x.b]?=W.heap[x.b]?)->qA S w0 a W B->qA S w0 a W' B
 | [],_,_=>trivial
 |x::B,hs,h=>by
  obtain ⟨⟨cs,h1,h2,h3,h4,h5⟩,hr⟩:=h
  exact ⟨⟨cs,h1,h2,(hs x (rE ..)).trans h3,x.c.us _ _ _ h4 hk,h5⟩,wT hk B (fun y hy=>hs y (rF _ hy)) hr⟩
theorem zFs {W:W8} {b:Nat} {cs:List Wb} {t:Wc} {z:Nat×Nat} (h3:W.heap[b]?=some (.cells cs.toArray t z)) (h5:cs.all z9=true) {q:Addr} (hq:q.block=b) {u:Wb} (hu:W.cell? q=some u):z9 u=true:=by
 have h6:W.cell? q=if q.spot.isSome then none else cs.toArray[q.off]?:=by
  unfold World.cell?
  rw [hq,h3]
 rw [h6] at hu
 split at hu
 ·cases hu
 ·exact nX.1 h5 _ (List.mem_of_getElem? (by simpa using hu))
theorem zCu {W:W8} {b:Nat} {o:Obj} (h:W.heap[b]?=some o) (hc:o.isCells=false) {q:Addr} (hq:q.block=b):W.cell? q=none:=zC8 (a:=q) (by rw [hq];exact h) hc
theorem StS.itr (h:StS S w0 K B n ds a w) {N:Nat} {w':W8} (hi:Itr N w w') (hN:w0.heap.size<=N) (hB: ∀x,x∈B->x.b<N):StS S w0 K B n ds a w':=
 ⟨⟨hi.os.trans h.gr.os,hi.tape.trans h.gr.tape,hi.output.trans h.gr.output,pL h.gr.size hi.size,fun k hk hs=>(hi.low k (rI hk hN)).trans (h.gr.block k hk hs)⟩,h.size,h.nd,fun q hq=>KF.us (h.sl q hq) hi.keep,
  wT hi.keep B (fun x hx=>hi.low _ (hB x hx)) h.bx,h.mks.imp fun _ hm=>hm.keep fun k o ho hc=>hi.oth k o ho hc,h.so⟩
theorem zLv {W W':W8} {C:Nat->Prop} {N:Nat} (hb:BlS C W W') (_hN: ∀k,C k->k<W.heap.size) (hNW:N<=W.heap.size) {l:Nat} {o:Obj} (hl:N<=l) (ho:W.heap[l]?=some o) (hc:o.isCells=false) {C':Nat->Prop} (hC: ∀k,C k->C' k∨k=l) (hk:yT W W'):Rnd N C' W W':=by
 refine ⟨hb.os,hb.tape,hb.output,hb.size,fun k hk' hn=>hb.block k (rI hk' hNW) fun hc'=> ?_,fun k o' hk' hcc hn=>(hb.block k (pN.1 hk').1 fun hc'=> ?_).trans hk',hk⟩
 ·rcases hC k hc' with e|e
  ·exact hn e
  ·omega
 ·rcases hC k hc' with e|e
  ·exact hn e
  ·subst e
   rw [ho] at hk'
   cases hk'
   rw [hc] at hcc
   cases hcc
theorem StS.put (h:StS S w0 K B n ds a w) {l:Nat} {o o':Obj} (ho:w.heap[l]?=some o) (hc:o.isCells=false) (hD: ∀Ds,Marks w0.heap.size w ds Ds->l ∉ Ds) (hS:S l∨w0.heap.size<=l):StS S w0 K B n ds a (w.putObj l o'):=by
 have hk:yT w (w.putObj l o'):=fun q u hq=>by
  by_cases e:q.block=l
  ·rw [zCu ho hc e] at hq
   cases hq
  ·exact (World.cell?_of_block (rG e)).trans hq
 refine ⟨⟨h.gr.os,h.gr.tape,h.gr.output,by rw [World.putObj_size];exact h.gr.size,fun k hk' hs=>(rG (fun e=> ?_)).trans (h.gr.block k hk' hs)⟩,h.size,h.nd,fun q hq=>KF.us (h.sl q hq) hk,wT hk B (fun x hx=>rG fun e=> ?_) h.bx, ?_,h.so⟩
 ·subst e
  rcases hS with hS|hS
  ·exact hs hS
  ·omega
 ·obtain ⟨cs,_,_,h3,_⟩:=h.bx.mem x hx
  rw [e,ho] at h3
  cases h3
  cases hc
 ·obtain ⟨Ds,hm⟩:=h.mks
  refine ⟨Ds,hm.eq,hm.nodup,fun D hd=>⟨(hm.at_ D hd).1,(rG fun e=> ?_).trans (hm.at_ D hd).2⟩⟩
  subst e
  exact hD Ds hm hd
/-! ### The values that a round is handed -/
theorem zD5: ∀(L:List (Nat×Wb)) (t:Array Wb),(L.foldl (fun t (p,v)=>t.setIfInBounds p v) t).size=t.size
 | [],_=>rfl
 |_::L,t=>by rw [rP,zD5 L];simp
theorem zBs (q:Nat): ∀(L:List (Nat×Wb)) (t:Array Wb),q ∉ L.map (·.1)->(L.foldl (fun t (p,v)=>t.setIfInBounds p v) t).getD q undef=t.getD q undef
 | [],_,_=>rfl
 |(p,v)::L,t,h=>by
  rw [pZ,pH,not_or] at h
  rw [rP,zBs q L _ h.2]
  exact zBp (fun e=>h.1 e.symm)
theorem zGi: ∀(L:List (Nat×Wb)) (t:Array Wb) (p:Nat) (v:Wb),(L.map (·.1)).Nodup->(p,v)∈L->p<t.size->(L.foldl (fun t (p,v)=>t.setIfInBounds p v) t).getD p undef=v
 | (p',v')::L,t,p,v,hn,hm,ht=>by
  rw [pZ,List.nodup_cons] at hn
  rw [rP]
  rcases pH.1 hm with e|hm
  ·cases e
   rw [zBs _ L _ hn.1]
   simp [pD,ht]
  ·exact zGi L _ p v hn.2 hm (by simpa using ht)
theorem BlS.sub {S S':Nat->Prop} {w w':W8} (h:BlS S w w') (hs: ∀k,S k->S' k):BlS S' w w':=⟨h.os,h.tape,h.output,h.size,fun k hk hn=>h.block k hk fun hh=>hn (hs k hh)⟩
theorem zGZ: ∀{Ds Ds':List Nat},Ds.map mark=Ds'.map mark->Ds=Ds'
 | [], [],_=>rfl
 | [],_::_,e=>by cases e
 |_::_, [],e=>by cases e
 |D::Ds,D'::Ds',e=>by
  simp only [pZ,List.cons.injEq] at e
  rw [zGZ e.2,show D=D' from by simpa [mark] using e.1]
theorem zFi: ∀{l:List Nat},zAI l=true->l.Nodup
 | [],_=>List.nodup_nil
 |x::l,h=>by
  unfold zAI at h
  rw [nZ] at h
  refine List.nodup_cons.2 ⟨fun hm=> ?_,zFi h.2⟩
  rw [pV.2 hm] at h
  exact absurd h.1 (by decide)
/-! ### The range -/
def zJQ:KF->Bool
 | .u _=>true
 | .o _=>false
theorem StS.more (h:StS S w0 K B n ds a w) {D:Nat} (hB:w0.heap.size<=D) (hD:w.heap[D]?=some (.deferred (some []))) (hn: ∀Ds,Marks w0.heap.size w ds Ds->D ∉ Ds):StS S w0 K B n (mark D::ds) { a with defers:=mark D::a.defers } w:=
 ⟨h.gr,h.size,by rw [h.nd],h.sl,wW (a:=a) B (fun x hx=>(h.bx.mem x hx).elim fun _ hh=>hh.2.1) (fun _ _=>rfl) h.bx,(h.mks.elim fun Ds hm=>⟨D::Ds,hm.more (hn Ds hm) hB hD⟩),h.so⟩
end
section
variable {S:Nat->Prop} {F:Fence} {m:Nat} {P:Wf} {Q:Exit->Act->W8->Prop} {w0:W8} {K:List (Nat×KF)} {B:List Bx} {n:Nat} {ds:List Deferred} {a:Act} {w:W8}
theorem yU {σ:Type} {c:Code} (Inv:σ->Act->W8->Prop) (mu:σ->Nat) (x0:σ) (h0:Inv x0 a w)
  (round: ∀x a w,Inv x a w->c.wpIn F m P (Exit.then (fun a' w'=> ∃y,mu y<mu x/\Inv y a' w') Q) a w):(Code.loop c).wpIn F m P Q a w:=by
 have low: ∀a w,(∃k, ∃x,mu x=k/\Inv x a w)-> ∃k,(∃x,mu x=k/\Inv x a w)/\ ∀j,j<k-> ¬ ∃x,mu x=j/\Inv x a w:=
  fun a w ⟨k,hk⟩=>zEH k hk
 open Classical in
 refine wpIn_loop (fun a w=> ∃k, ∃x,mu x=k/\Inv x a w) (fun a w=>if h: ∃k, ∃x,mu x=k/\Inv x a w then Classical.choose (low a w h) else 0) ⟨_,x0,rfl,h0⟩ ?_
 rintro a w hA
 have e0:=rC (low a w hA)
 obtain ⟨x,hm,hst⟩:=e0.1
 refine Code.wpIn_mono ?_ (round x a w hst)
 intro e a' w' h
 cases e with
 |normal=>
  obtain ⟨y,h2,h3⟩: ∃y,mu y<mu x/\Inv y a' w':=h
  have hA': ∃k, ∃x,mu x=k/\Inv x a' w':=⟨_,y,rfl,h3⟩
  refine ⟨hA', ?_⟩
  simp only [dif_pos hA,dif_pos hA']
  have e1:=rC (low a' w' hA')
  have:Classical.choose (low a' w' hA')<=mu y:=Nat.not_lt.1 fun hlt=>e1.2 _ hlt ⟨y,rfl,h3⟩
  omega
 |_=>exact h
theorem StS.learn (h:StS S w0 K B n ds a w) (t:Nat) (v:Wb) (e:a.tmps.getD t undef=v):StS S w0 ((t, .u (UF.eq v))::K) B n ds a w:=
 ⟨h.gr,h.size,h.nd,fun q hq=>by
  rcases pH.1 hq with rfl|hq
  ·exact e
  ·exact h.sl q hq,h.bx,h.mks,h.so.imp (fun hu q hq=>(by
   rcases pH.1 hq with rfl|hq
   ·exact ⟨_,rfl⟩
   ·exact hu q hq)) (fun x=>x)⟩
theorem StS.yielded (h:StS S w0 K B n [] a w) {N:Nat} {C:Nat->Prop} {w':W8} (hr:Rnd N C w w') (hu: ∀q,q∈K-> ∃f,q.2= .u f) (hC: ∀x,x∈B-> ¬C x.b):StS (inB B) w' K B n [] a w':=by
 refine ⟨BlS.refl _ _,h.size,h.nd,fun q hq=> ?_,wT hr.keep B (fun x hx=> ?_) (wW (a:=a) B (fun x hx=> ?_) (fun _ _=>rfl) h.bx),⟨[],Marks.nil _ _⟩, .inl hu⟩
 ·obtain ⟨f,e⟩:=hu q hq
  have:=h.sl q hq
  rw [e] at this ⊢
  exact f.us _ _ _ this hr.keep
 ·obtain ⟨cs,_,_,h3,_⟩:=h.bx.mem x hx
  rw [h3]
  exact hr.cells _ _ h3 rfl (hC x hx)
 ·cases hrr:x.r with
  |true=>exact .inl rfl
  |false=>exact .inr (.inr ⟨x,hx,rfl,hrr⟩)
theorem zG8 {a:Act} {d:Tmp} {y:We} {l:Nat} {xs:Array We} {ats:Array Wc} {ty:Wc} {pos:String} {aft:Array Edge} {w:W8} (hy:a.eval y= .func (.yield l) #[] #[]):
  (execOp a.eval ⟨some d, .call ⟨.value y,xs,ats⟩,ty,pos,aft,none⟩).run P w=(Instr.yield l (xs.map a.eval)).run P w:=by
 simp only [execOp,resolve,hy]
 simp [invoke,Deferred.ofValue,Sem.run_bind,Sem.run_pure,Result.andThen]
theorem zOP {ops:Array Oper} {k d l:Nat} {y:We} {xs:Array We} {ats:Array Wc} {ty:Wc} {pos:String} {aft:Array Edge} {Jn Z:W8->Prop} {N:Nat} {C:Nat->Prop} (ho:ops[k]?=some ⟨some d, .call ⟨.value y,xs,ats⟩,ty,pos,aft,none⟩)
  (h:StS S w0 K B n [] a w) (hy: ∀v W,(Wd.fct (zAB K B) y).p v W->v= .func (.yield l) #[] #[]) (hf:zAo K B n d=true) (hu: ∀q,q∈K-> ∃f,q.2= .u f) (hC: ∀x,x∈B-> ¬C x.b)
  (Y:YieldAt Fence.wide 0 P l (xs.map a.eval) w fun e W'=>((e= .returned (.bool true)/\Jn W')∨(e= .returned (.bool false)/\Z W'))/\Rnd N C w W')
  (fin: ∀a' w' bv,Rnd N C w w'->((bv=true/\Jn w')∨(bv=false/\Z w'))->StS (inB B) w' ((d, .u (uB bv))::K) B n [] a' w'->zBq Fence.wide 0 P ops Q (k+1) a' w'):zBq Fence.wide 0 P ops Q k a w:=by
 have hyv:a.eval y= .func (.yield l) #[] #[]:=hy _ _ (h.fct y)
 obtain ⟨fn,tmps,assign,body,hrun,hR⟩:=Y
 refine zAC ho rfl ⟨fun g _=>trivial, ?_⟩
 rw [pE _ _ _ (fun _ e=>by cases e),zG8 hyv,hrun]
 rw [Oper.uponIn_round]
 refine ⟨fun hh=>absurd hh (by simp [Fence.wide]),RoundIn.mono hR fun e W' he=> ?_⟩
 obtain ⟨he,hr⟩:=he
 have s1:=h.yielded hr hu hC
 rcases he with ⟨rfl,hJ⟩|⟨rfl,hZ⟩
 ·exact fin _ _ true hr (.inl ⟨rfl,hJ⟩) (s1.set hf (pB _ _) rfl)
 ·exact fin _ _ false hr (.inr ⟨rfl,hZ⟩) (s1.set hf (pB _ _) rfl)
theorem zBJ {K:List (Nat×KF)} (h:(K.all fun q=>zJQ q.2)=true): ∀q,q∈K-> ∃f,q.2=KF.u f:=fun q hq=>by
 have:=nX.1 h q hq
 cases hq2:q.2 with
 |u f=>exact ⟨f,rfl⟩
 |o f=>rw [hq2] at this;cases this
theorem StS.boxAt (h:StS S w0 K B n ds a w) {c:Nat} {z:Bx} (hB:zHk B c=some z): ∃cs:List Wb,w.heap[z.b]?=some (.cells cs.toArray z.e (0,0))/\z.c.p cs w/\cs.all z9=true:=by
 obtain ⟨cs,_,_,h3,h4,h5⟩:=h.bx.mem z (zA9 hB).1
 exact ⟨cs,h3,h4,h5⟩
theorem StS.inB_new (h:St w0 K B n ds a w) {q:Nat} (hq:inB B q):w0.heap.size<=q:=by
 obtain ⟨x,hx,e,hr⟩:=hq
 obtain ⟨_,_,hc,_⟩:=h.bx.mem x hx
 rcases hc with hc|hc|hc
 ·rw [hr] at hc;cases hc
 ·omega
 ·exact hc.elim
def wC (vs:List Wb):CU:=⟨fun cs _=>cs=vs,fun _ _ _ h _=>h⟩
end
def CU.ok (z:Nat) (C:CU):Prop:= ∀cs W,C.p cs W->cs.length=z/\cs.all z9=true/\ ∀u,u∈cs->u.oneCell'=true
def jD (w:W8) (base:Nat) (e:Wc) (z:Nat) (v:Wb) (Cs:List CU):Prop:=
 (v= .slice none 0 0/\Cs= [])∨ ∃g cap cur,v= .slice (some ⟨g,0,none⟩) Cs.length cap/\base<=g/\w.heap[g]?=some (.cells cur e (0,0))/\Cs.length<=cap/\cap<=maxLen/\cur.size=cap*z/\cur.toList.all z9=true/\ ∀(i:Nat) (C:CU),Cs[i]?=some C->C.p ((cur.toList.drop (i*z)).take z) w
theorem jD.nil (w:W8) (base:Nat) (e:Wc) (z:Nat):jD w base e z (.slice none 0 0) []:= .inl ⟨rfl,rfl⟩
theorem jD.lt {w:W8} {base e z v Cs} (h:jD w base e z v Cs): ∀k,v.ownBlock=some k->base<=k/\k<w.heap.size:=by
 intro k hk
 rcases h with ⟨rfl,_⟩|⟨g,cap,cur,rfl,hb,hg,_⟩
 ·simp [Value.ownBlock] at hk
 ·simp [Value.ownBlock] at hk
  subst hk
  exact ⟨hb,(pN.1 hg).1⟩
theorem jD.mono {w:W8} {base base' e z v Cs} (h:jD w base e z v Cs) (hb:base'<=base):jD w base' e z v Cs:=
 h.imp id fun ⟨g,cap,cur,h1,h2,h3⟩=>⟨g,cap,cur,h1,pL hb h2,h3⟩
theorem jD.keep {w w':W8} {base e z v Cs} (h:jD w base e z v Cs) (hb: ∀k,v.ownBlock=some k->w'.heap[k]?=w.heap[k]?) (hk:yT w w'):jD w' base e z v Cs:=by
 rcases h with h|⟨g,cap,cur,rfl,h2,h3,h4,h5,h6,h7,h8⟩
 ·exact .inl h
 ·exact .inr ⟨g,cap,cur,rfl,h2,(hb g rfl).trans h3,h4,h5,h6,h7,fun i C hi=>C.us _ _ _ (h8 i C hi) hk⟩
theorem jD.below {w w':W8} {base e z v Cs} (h:jD w base e z v Cs) (hb:Below w.heap.size w w'):jD w' base e z v Cs:=
 h.keep (fun k hk=>hb.block k (h.lt k hk).2) (zL hb)
theorem jD.row {w:W8} {base e z v Cs} (h:jD w base e z v Cs):(SF.row z Cs).p v w:=by
 rcases h with ⟨rfl,rfl⟩|⟨g,cap,cur,rfl,h2,h3,h4,h5,h6,h7,h8⟩
 ·exact ⟨none,0,rfl,pC _,by decide,fun _=>rfl,fun i C hi=>by simp at hi⟩
 ·refine ⟨_,cap,rfl,h4,by unfold maxLen at h5;omega,fun e=>(by cases e),fun i C hi=>⟨g,0,_,rfl,fun j u hj=> ?_,h8 i C hi⟩⟩
  rw [List.getElem?_take] at hj
  split at hj
  ·rw [List.getElem?_drop] at hj
   unfold World.cell?
   simp only [h3]
   have:0+i*z+j=i*z+j:=by omega
   rw [this]
   simpa using hj
  ·cases hj
theorem jD.keepU {w w':W8} {base e z v Cs} (h:jD w base e z v Cs) (hg:w.grownBy w' v.ownBlock):yT w w':=fun p x hp=>by
 have hlt:=World.block_lt_of_cell? w _ hp
 by_cases e1:some p.block=v.ownBlock
 ·exfalso
  rcases h with ⟨rfl,_⟩|⟨g,cap,cur,rfl,h2,h3,h4,h5,h6,h7,h8⟩
  ·simp [Value.ownBlock] at e1
  ·simp [Value.ownBlock] at e1
   have:=zFs (cs:=cur.toList) (z:=(0,0)) (by simpa using h3) h7 e1 hp
   cases this
 ·exact (World.cell?_of_block (hg.block _ hlt e1)).trans hp
def zH0 (P:Wf) (t:Wc):Option (Wc×Nat×Bool):=match P.underlying t with
 | some (.slice e)=>match P.info? e with
  |some i=>match i.zero with
   |some zv=>some (e,i.size,zv.cells.size==i.size&&zv.cells.toList.all z9&&decide (0<i.size)&&Nat.ble i.bytes 1000)
   |none=>none
  |none=>none
 |_=>none
theorem zFt {P:Wf} {t e:Wc} {z:Nat} (h:zH0 P t=some (e,z,true)):P.underlying t=some (.slice e)/\ ∃i zv,P.info? e=some i/\i.zero=some zv/\i.size=z/\i.bytes<=1000/\zv.cells.size=z/\zv.cells.toList.all z9=true/\0<z:=by
 unfold zH0 at h
 split at h<;>try cases h
 rename_i e' hu
 split at h<;>try cases h
 rename_i i hi
 split at h<;>try cases h
 rename_i zv hz
 simp only [rL,Prod.mk.injEq,nZ,pF,pG] at h
 obtain ⟨rfl,rfl,⟨⟨h1,h2⟩,h3⟩,h4⟩:=h
 exact ⟨hu,i,zv,hi,hz,rfl,Nat.le_of_ble_eq_true h4,h1,h2,h3⟩
theorem zDE {zc:Array Wb} (h:zc.toList.all z9=true) (n:Nat):(Builtin.zeroCells zc n).toList.all z9=true:=by
  refine nX.2 fun u hu=> ?_
  simp only [Builtin.zeroCells,Array.toList_map,pP,Array.toList_range,nY] at hu
  obtain ⟨i,hi,rfl⟩:=hu
  have h0 : 0 < zc.size := by rcases Nat.eq_zero_or_pos zc.size with h|h;· rw [h] at hi;omega
                              . exact h
  have hlt:i % zc.size<zc.size:=Nat.mod_lt _ h0
  have:zc[i % zc.size]!∈zc.toList:=by
    rw [getElem!_pos zc _ hlt]
    exact Array.getElem_mem_toList hlt
  exact nX.1 h _ this
theorem zGA {W:W8} {b z:Nat}: ∀(Ds:List CU) (o:Nat),(∀C,C∈Ds->CU.ok z C)->(∀(i:Nat) (C:CU),Ds[i]?=some C-> ∃cs,Mem W b (o+i*z) cs/\C.p cs W)->
  ∃news:List Wb,news.length=Ds.length*z/\(∀j u,news[j]?=some u->W.cell? ⟨b,o+j,none⟩=some u)/\(∀u,u∈news->u.oneCell'=true)/\news.all z9=true/\ ∀(i:Nat) (C:CU),Ds[i]?=some C->C.p ((news.drop (i*z)).take z) W
 | [],o,_,_=>⟨[],by simp,by simp,by simp,rfl,by simp⟩
 | D::Ds,o,hok,h=>by
  obtain ⟨cs,h1,h2⟩:=h 0 D rfl
  obtain ⟨hl,hn,h1c⟩:=hok D (by simp) cs W h2
  obtain ⟨ns,g1,g2,g3,g4,g5⟩:=zGA Ds (o+z) (fun C hC=>hok C (by simp [hC])) fun i C hi=>by
   obtain ⟨cs',h3,h4⟩:=h (i+1) C (by simpa using hi)
   refine ⟨cs', ?_,h4⟩
   rwa [show o+(i+1)*z=o+z+i*z by rw [pQ];omega] at h3
  refine ⟨cs++ns,by rw [pR,hl,g1,List.length_cons,pQ];omega,fun j u hj=> ?_,fun u hu=> ?_,by rw [rQ,hn,g4];rfl,fun i C hi=> ?_⟩
  ·rcases pM j z with hlt|hge
   ·rw [rU oN] at hj
    have:=h1 j u hj
    rwa [show o+0*z+j=o+j by omega] at this
   ·rw [rV oN] at hj
    have:=g2 _ u hj
    rwa [show o+z+(j - cs.length)=o+j by omega] at this
  ·rcases rN.1 hu with hu|hu
   ·exact h1c u hu
   ·exact g3 u hu
  ·cases i with
   |zero=>
    obtain rfl:D=C:=by simpa using hi
    rw [show 0*z=0 by omega,List.drop_zero,rW oN,rK oN]
    exact h2
   |succ i=>
    rw [show (i+1)*z=cs.length+i*z by rw [pQ];omega,List.drop_append]
    have e1:cs.drop (cs.length+i*z)= []:=List.drop_eq_nil_of_le oN
    rw [e1,rR,show cs.length+i*z - cs.length=i*z by omega]
    exact g5 i C (by simpa using hi)
theorem zCM {cs ds:List Wb} {z i n:Nat} (h:cs.length=n*z) (hi:i<n):((cs++ds).drop (i*z)).take z=(cs.drop (i*z)).take z:=by
 have h1:i*z+z<=n*z:=by rw [<-Nat.succ_mul];exact rH _ hi
 rw [List.drop_append_of_le_length oN,rW (by rw [rJ];omega)]
theorem zLG {cs ds:List Wb} {z i n:Nat} (h:cs.length=n*z):(cs++ds).drop ((n+i)*z)=ds.drop (i*z):=by
 rw [pQ, <-h,List.drop_append]
 have e1:cs.drop (cs.length+i*z)= []:=List.drop_eq_nil_of_le oN
 rw [e1,rR]
 congr 1
 omega
theorem zFf {w w':W8} {z:Nat} {Cs Ds:List CU} {cs ds es:List Wb} (hl:cs.length=Cs.length*z) (hd:ds.length=Ds.length*z) (h1: ∀(i:Nat) (C:CU),Cs[i]?=some C->C.p ((cs.drop (i*z)).take z) w) (h2: ∀(i:Nat) (C:CU),Ds[i]?=some C->C.p ((ds.drop (i*z)).take z) w) (hk:yT w w'):
  ∀(i:Nat) (C:CU),(Cs++Ds)[i]?=some C->C.p (((cs++ds++es).drop (i*z)).take z) w':=fun i C hi=>by
 rcases pM i Cs.length with hlt|hge
 ·rw [rU hlt] at hi
  rw [List.append_assoc,zCM hl hlt]
  exact C.us _ _ _ (h1 i C hi) hk
 ·obtain ⟨j,rfl⟩: ∃j,i=Cs.length+j:=⟨i - Cs.length,by omega⟩
  rw [rV oN,Nat.add_sub_cancel_left] at hi
  have hj:j<Ds.length:=(pT.1 hi).1
  rw [List.append_assoc,zLG hl,zCM hd hj]
  exact C.us _ _ _ (h2 j C hi) hk
theorem zH1 {a b c:List Wb} (ha:a.all z9=true) (hb:b.all z9=true) (hc:c.all z9=true):(a++b++c).all z9=true:=by
 rw [rQ,rQ,ha,hb,hc];rfl
theorem zKm {P:Wf} {w:W8} {base:Nat} {t ty e:Wc} {z:Nat} {v v2:Wb} {Cs Ds:List CU} (happ:zH0 P t=some (e,z,true)) (hr:jD w base e z v Cs) (h2:(SF.row z Ds).p v2 w) (hD: ∀C,C∈Ds->CU.ok z C)
    (hsz:Cs.length+Ds.length<=140000000000) (hbase:base<=w.heap.size):
    ∃v' w',(Builtin.append_ #[t,t] ty #[v,v2]).run P w= .ok v' w'/\jD w' base e z v' (Cs++Ds)/\w.grownBy w' v.ownBlock/\(v'.ownBlock=v.ownBlock∨v'.ownBlock=some w.heap.size):=by
  obtain ⟨ht,i,zv,hi,hz,hs,hby0,hzs,hzn,hz0⟩:=zFt happ
  have hmx:Cs.length+Ds.length<=maxLen:=by unfold maxLen;omega
  have hbb:(Cs.length+Ds.length)*i.bytes<=140737488355328:=pL (Nat.mul_le_mul hsz hby0) (by decide)
  obtain ⟨A,c,rfl,hlc,hcm,hAn,hel⟩:=h2
  have hsmall:Cs.length+Ds.length<=9223372036854775807:=by unfold maxLen at hmx;omega
  cases A with
  | none=>
    have hD0:Ds= []:=by
      cases Ds with
      |nil=>rfl
      |cons D Ds=>obtain ⟨b,o,cs,e1,_⟩:=hel 0 D rfl;cases e1
    subst hD0
    have hc:=hAn rfl
    subst hc
    rcases hr with ⟨rfl,rfl⟩|⟨g,cap,cur,rfl,g2,g3,g4,g5,g6,g7,g8⟩
    . refine ⟨.slice none 0 0,w, ?_, .inl ⟨rfl,rfl⟩,⟨rfl,rfl,rfl,pC _,fun _ _ _=>rfl⟩, .inl rfl⟩
      simp [Builtin.append_,rA ht,sizeOf,typeInfo,hi,Builtin.lenOf,Builtin.firstCells]
    . refine ⟨_,w, ?_, .inr ⟨g,cap,cur,rfl,g2,g3,by simpa using g4,g5,g6,g7,by simpa using g8⟩,⟨rfl,rfl,rfl,pC _,fun _ _ _=>rfl⟩, .inl rfl⟩
      simp [Builtin.append_,rA ht,sizeOf,typeInfo,hi,Builtin.lenOf,Builtin.firstCells,g4,storeCells]
  | some ad=>
    obtain ⟨news,n1,n2,n3,n4,n5⟩: ∃news:List Wb,news.length=Ds.length*z/\(∀j u,news[j]?=some u->w.cell? (ad.add j)=some u)/\(∀u,u∈news->u.oneCell'=true)/\news.all z9=true/\ ∀(i:Nat) (C:CU),Ds[i]?=some C->C.p ((news.drop (i*z)).take z) w:=by
      cases Ds with
      |nil=>exact ⟨[],by simp,by simp,by simp,rfl,by simp⟩
      | cons D Ds=>
        obtain ⟨b,o,cs,e1,_⟩:=hel 0 D rfl
        cases e1
        obtain ⟨news,k1,k2,k3⟩:=zGA (W:=w) (b:=b) (z:=z) (D::Ds) o hD fun i C hiC=>by
          obtain ⟨b',o',cs',e',m1,m2⟩:=hel i C hiC
          cases e'
          exact ⟨cs',m1,m2⟩
        exact ⟨news,k1,fun j u hj=>by rw [pS];exact k2 j u hj,k3⟩
    -- what the growing arm leaves
    have grown: ∀(old:Nat) (cs:List Wb) (row:Option Nat),cs.length=Cs.length*z->cs.all z9=true->(∀(i:Nat) (C:CU),Cs[i]?=some C->C.p ((cs.drop (i*z)).take z) w)->old<Cs.length+Ds.length->
        jD (w.drew.alloc (.cells (cs.toArray++news.toArray++Builtin.zeroCells zv.cells (grownCap w (Cs.length+Ds.length) old e - (Cs.length+Ds.length))) e)) base e z (.slice (some ⟨w.heap.size,0,none⟩) (Cs.length+Ds.length) (grownCap w (Cs.length+Ds.length) old e)) (Cs++Ds)/\
        w.grownBy (w.drew.alloc (.cells (cs.toArray++news.toArray++Builtin.zeroCells zv.cells (grownCap w (Cs.length+Ds.length) old e - (Cs.length+Ds.length))) e)) row:=by
      intro old cs row hl hn hcs ho
      have hge:=grownCap_ge w (Cs.length+Ds.length) old e
      have hcm:grownCap w (Cs.length+Ds.length) old e<=maxLen:=grownCap_le_maxLen w (Cs.length+Ds.length) old e hmx
      refine ⟨.inr ⟨w.heap.size,_,_,by rw [pR],hbase,heap_alloc_new w.drew _,by rw [pR];exact hge,hcm, ?_, ?_, ?_⟩,⟨rfl,rfl,rfl,by simp,fun k hk _=>heap_alloc_old w.drew _ hk⟩⟩
      . simp only [Array.size_append,List.size_toArray,size_zeroCells,hzs,hl,n1, <-pQ]
        congr 1
        omega
      . simp only [Array.toList_append]
        exact zH1 hn n4 (zDE hzn _)
      . simp only [Array.toList_append]
        exact zFf hl n1 hcs n5 (zL ⟨rfl,rfl,rfl,by simp,fun k hk=>heap_alloc_old w.drew _ hk⟩)
    rcases hr with ⟨rfl,rfl⟩|⟨g,cap,cur,rfl,g2,g3,g4,g5,g6,g7,g8⟩
    . by_cases hm:Ds.length=0
      . have hD0:=List.eq_nil_of_length_eq_zero hm
        subst hD0
        refine ⟨.slice none 0 0,w, ?_, .inl ⟨rfl,rfl⟩,⟨rfl,rfl,rfl,pC _,fun _ _ _=>rfl⟩, .inl rfl⟩
        simp [Builtin.append_,rA ht,sizeOf,typeInfo,hi,Builtin.lenOf,Builtin.firstCells,loadCells,loadCellsFrom]
      . have hr:=run_append_nil (P:=P) w t ty e i zv ht hi hz ad Ds.length c news (by rw [hs];exact n1) n2 oN (by simp at hsmall;omega) (by simp at hbb;omega)
        have hgr:=grown 0 [] (Value.ownBlock (.slice none 0 0)) (by simp) rfl (by simp) (by simp;omega)
        simp only [List.length_nil,Nat.zero_add,rR,Array.empty_append] at hgr ⊢
        exact ⟨_,_,hr,hgr.1,hgr.2, .inr rfl⟩
    . by_cases hroom:Cs.length+Ds.length<=cap
      . have hfit:Cs.length*i.size+news.length<=cur.size:=by rw [n1,g6,hs, <-pQ];exact rH _ hroom
        have hr:=run_append_room (P:=P) w t ty e i ht hi g Cs.length cap cur g3 ad Ds.length c news (by rw [hs];exact n1) n2 n3 hroom hfit
        rw [hs] at hr hfit
        have hgr:w.grownBy (w.setRow g (cur.toList.take (Cs.length*z)++news++cur.toList.drop (Cs.length*z+news.length)).toArray) (some g):=zC0 w g _
        have hk:yT w (w.setRow g (cur.toList.take (Cs.length*z)++news++cur.toList.drop (Cs.length*z+news.length)).toArray):=
          jD.keepU (v:= .slice (some ⟨g,0,none⟩) Cs.length cap) (Cs:=Cs) (base:=base) (e:=e) (z:=z) (.inr ⟨g,cap,cur,rfl,g2,g3,g4,g5,g6,g7,g8⟩) hgr
        have hcl:cur.toList.length=cap*z:=g6
        have hle:Cs.length*z<=cur.toList.length:=by rw [hcl];exact rH _ g4
        have htl:(cur.toList.take (Cs.length*z)).length=Cs.length*z:=by rw [rS,Nat.min_eq_left hle]
        have hsub: ∀u,u∈cur.toList->z9 u=true:=nX.1 g7
        refine ⟨_,_,hr, .inr ⟨g,cap,_,by rw [pR],g2,setRow_heap w g cur _ e _ g3,by rw [pR];exact hroom,g5, ?_, ?_, ?_⟩,hgr, .inl rfl⟩
        . simp only [List.size_toArray,pR,rS,rJ,Array.length_toList]
          rw [<-g6]
          omega
        . exact zH1 (nX.2 fun u hu=>hsub u (List.mem_of_mem_take hu)) n4 (nX.2 fun u hu=>hsub u (List.mem_of_mem_drop hu))
        . refine zFf htl n1 (fun j C hj=> ?_) n5 hk
          have hlt:j<Cs.length:=(pT.1 hj).1
          have h1:=g8 j C hj
          rw [<-List.take_append_drop (Cs.length*z) cur.toList,zCM htl hlt] at h1
          exact h1
      . have htl:(cur.toList.take (Cs.length*z)).length=Cs.length*z:=by
          rw [rS,show cur.toList.length=cap*z from g6,Nat.min_eq_left (rH _ g4)]
        have holds: ∀j u,(cur.toList.take (Cs.length*z))[j]?=some u->w.cell? ((⟨g,0,none⟩:Addr).add j)=some u:=fun j u hj=>by
          rw [pS,Nat.zero_add]
          rw [List.getElem?_take] at hj
          split at hj
          . unfold World.cell?
            simp only [g3]
            simpa using hj
          . cases hj
        have hr:=run_append_grow (P:=P) w t ty e i zv ht hi hz ⟨g,0,none⟩ Cs.length cap (cur.toList.take (Cs.length*z)) (by rw [hs];exact htl) holds ad Ds.length c news (by rw [hs];exact n1) n2 oN oN (growslice_fits oN hbb)
        have hgr:=grown cap (cur.toList.take (Cs.length*z)) (Value.ownBlock (.slice (some ⟨g,0,none⟩) Cs.length cap)) htl (nX.2 fun u hu=>nX.1 g7 u (List.mem_of_mem_take hu)) (fun j C hj=>by
          have hlt:j<Cs.length:=(pT.1 hj).1
          have h1:=g8 j C hj
          rw [<-List.take_append_drop (Cs.length*z) cur.toList,zCM htl hlt] at h1
          exact h1) oN
        exact ⟨_,_,hr,hgr.1,hgr.2, .inr rfl⟩
section
variable {S:Nat->Prop} {F:Fence} {m:Nat} {P:Wf} {Q:Exit->Act->W8->Prop} {w0 w1:W8} {K K0:List (Nat×KF)} {B B0:List Bx} {n n0:Nat} {ds ds0:List Deferred} {a a0:Act} {w:W8}
theorem wV {S':Nat->Prop} {w':W8}: ∀(B:List Bx),(∀x,x∈B->x.r=true)->qA S w0 a w B->qA S' w' a w B
 | [],_,_=>trivial
 |x::B,hr,⟨⟨cs,h1,_,h3⟩,h4⟩=>⟨⟨cs,h1, .inl (hr x (by simp)),h3⟩,wV B (fun y hy=>hr y (by simp [hy])) h4⟩
def frz (B:List Bx):List Bx:=B.map fun x=>⟨x.t,x.e,x.c,x.b,true⟩
theorem qA.freeze: ∀(B:List Bx),qA S w0 a w B->qA S w0 a w (frz B)
 | [],_=>trivial
 |x::B,⟨⟨cs,h1,_,h3,h4,h5,h6⟩,h7⟩=>⟨⟨cs,h1, .inl rfl,h3,h4,h5,fun y hy=>by
  obtain ⟨z,hz,rfl⟩:=pP.1 hy
  exact .inr ⟨rfl,rfl⟩⟩,qA.freeze B h7⟩
theorem StS.freeze (h:StS S w0 K B n ds a w):StS S w0 K (frz B) n ds a w:=⟨h.gr,h.size,h.nd,h.sl,qA.freeze B h.bx,h.mks,h.so⟩
theorem StS.below (h:St w0 K B n ds a w):Below w0.heap.size w0 w:=h.gr.below
theorem StS.val (h:StS S w0 K B n ds a w) {t:Nat} {v:Wb} (hm:(t,KF.u (UF.eq v))∈K):a.tmps.getD t undef=v:=h.sl _ hm
theorem StS.resN (h:St w1 K B n [] a w) (hb:Below w0.heap.size w0 w1) {fn:Func} {f:SF} {t:Nat} (hr:fn.results=#[.tmp t]) (hd:f.p (a.tmps.getD t undef) w):bodyPost P fn (Ret w0 f) .ret a w:=by
 refine ⟨h.nd,_, ?_,⟨_,rfl,hd,hb.trans (h.below.mono hb.size)⟩⟩
 simp [results,hr]
theorem wU (h:St w1 K B n [] a w) (hb:Below w0.heap.size w0 w1) {fn:Func} {f:SF} {t:Nat} (hr:fn.results=#[.tmp t]) (hd: ∀v W,(zAB K B t).p v W->f.p v W):bodyPost P fn (Ret w0 f) .ret a w:=
 h.resN hb hr (hd _ _ (h.at.sl t))
def wE (W:W8) (e:Wc) (z:Nat) (Cs:List CU):SF:=⟨fun v w=>jD w W.heap.size e z v Cs,fun _ _ _ h hb=>h.below hb⟩
end
section
variable {F:Fence} {m:Nat} {P:Wf} {w0:W8} {ops:Array Oper} {G:Nat->SF} {d:Tmp} {ty:Wc} {pos:String} {aft:Array Edge}
end
section
variable {F:Fence} {m:Nat} {P:Wf} {w0:W8} {ops:Array Oper} {G:Nat->SF} {d:Tmp} {ty:Wc} {pos:String} {aft:Array Edge}
theorem zPy {f:FuncId} {cs:Array We} (h: ∀(b:Act) (W:W8),Below w0.heap.size w0 W->(∀x,x∈cs.toList->(fct G x).p (b.eval x) W)->(G d).p (.func (.func f) #[] (cs.map b.eval)) W):qP F m P w0 ops G ⟨some d, .makeFunc (.func f) #[] cs,ty,pos,aft,none⟩:=
 qT (fun _ e=>by cases e) (fun _ e=>by cases e) fun b W hb hh=>by
  have:=h b W hb fun x hx=>hh x (by simpa [Op.operands] using hx)
  exact ⟨_,by simp [execOp,Instr.makeFunc],this⟩
theorem zM5 {f:FuncId} {x y:We} (h: ∀u v W,Below w0.heap.size w0 W->(fct G x).p u W->(fct G y).p v W->(G d).p (.func (.func f) #[] #[u,v]) W):qP F m P w0 ops G ⟨some d, .makeFunc (.func f) #[] #[x,y],ty,pos,aft,none⟩:=
 zPy fun b W hb hh=>by simpa using h _ _ W hb (hh x (by simp)) (hh y (by simp))
theorem zQ {x y:We} {t:Wc} {z:Nat} {Cs:List CU} {i:Nat} {C:CU} (hz:zAX P t=some z) (hi:Cs[i]?=some C) (hx: ∀v W,Below w0.heap.size w0 W->(fct G x).p v W->(SF.row z Cs).p v W) (hy: ∀v W,(fct G y).p v W->v= .int .i64 (i:Int)) (hd: ∀v W,(wB C.cf).p v W->(G d).p v W:=by exact fun _ _ h=>h):qP F m P w0 ops G ⟨some d, .indexAddr t x y,ty,pos,aft,none⟩:=
 qT (fun _ e=>by cases e) (fun _ e=>by cases e) fun b W hb hh=>by
  obtain ⟨A,c,e,h2,h3,h4,h5⟩:=hx _ _ hb (hh x (by simp [Op.operands]))
  have e2:=hy _ _ (hh y (by simp [Op.operands]))
  obtain ⟨b',o,cs,rfl,h6,h7⟩:=h5 i C hi
  have hlt:i<Cs.length:=(pT.1 hi).1
  unfold zAX at hz
  split at hz<;>try cases hz
  rename_i e' hu
  cases hin:P.info? e' with
  |none=>rw [hin] at hz;cases hz
  |some ie=>
   rw [hin] at hz
   simp only [Option.map_some,rL] at hz
   have hel:P.elem t=e':=by simp [Program.elem,hu]
   refine ⟨.pointer (some ⟨b',o+i*z,none⟩), ?_,hd _ _ ⟨b',o+i*z,cs,rfl,h7,h6⟩⟩
   have hb1:(0:Int)<=(i:Int)/\(i:Int)<(Cs.length:Nat):=by omega
   simp only [execOp,e,e2]
   rw [Sem.run_bind,run_indexAt_slice _ _ _ _ _ _ _ (by rw [hel];exact hu),if_pos hb1,hel]
   simp [sizeOf,typeInfo,hin,hz,pS]
theorem jA {x:We} {t:Wc} {z:Nat} {Cs:List CU} (ht:P.underlying t=some (.slice (P.elem t))) (hx: ∀v W,Below w0.heap.size w0 W->(fct G x).p v W->(SF.row z Cs).p v W) (hd: ∀W,(G d).p (.int .i64 (Cs.length:Nat)) W:=by exact fun _=>rfl):qP F m P w0 ops G ⟨some d, .call ⟨.builtin .len,#[x],#[t]⟩,ty,pos,aft,none⟩:=by
 intro b W K Q hb hr hK
 obtain ⟨A,c,e,_⟩:=hx _ _ hb (qR hr (x:=x) (by simp [Op.operands,Call.operands]))
 refine ⟨fun f hf=>(by
  unfold Oper.about at hf
  simp [resolve,go_sem] at hf), ?_⟩
 rw [pE _ _ _ (fun _ e=>by cases e)]
 have:(execOp b.eval ⟨some d, .call ⟨.builtin .len,#[x],#[t]⟩,ty,pos,aft,none⟩).run P W= .ok (.value (.int .i64 (Cs.length:Nat))) W:=by
  simp [execOp,resolve,invoke,builtin,e,run_len_slice _ _ _ _ _ _ ht,goInt]
 rw [this]
 exact hK _ _ (fun d' e'=>by cases e';exact hd _) (pB _ _)
end
section
variable {F:Fence} {m:Nat} {P:Wf} {ops:Array Oper} {Q:Exit->Act->W8->Prop}
end
section
variable {S:Nat->Prop} {F:Fence} {m:Nat} {P:Wf} {ops:Array Oper} {Q:Exit->Act->W8->Prop} {w0:W8} {K:List (Nat×KF)} {B:List Bx} {n:Nat} {ds:List Deferred} {a:Act} {w:W8}
end
section
variable {S:Nat->Prop} {w0:W8} {K:List (Nat×KF)} {B:List Bx} {n:Nat} {ds:List Deferred} {a:Act} {w:W8}
end
section
variable {F:Fence} {n:Nat} {P:Wf} {ops:Array Oper} {Q:Exit->Act->W8->Prop}
variable {listed0:Array Bool} {A:Nat->Bool} {E:Nat->Wb->W8->Prop} {C:W8->Prop} {a0:Act}
end
section
variable {S:Nat->Prop} {w0:W8} {K:List (Nat×KF)} {B:List Bx} {n:Nat} {ds:List Deferred} {a:Act} {w:W8} {F:Fence} {m:Nat} {P:Wf} {ops:Array Oper} {Q:Exit->Act->W8->Prop}
end
section
variable {w0:W8} {P:Wf} {ops:Array Oper} {G:Nat->SF} {d:Tmp} {ty:Wc} {pos:String} {aft:Array Edge}
section
variable {l:Wb} {x y:We} {t:Wc} {z:Nat} {Cs:List CU} {i:Nat} {C:CU}
end
end
section
variable {S:Nat->Prop} {w0:W8} {K:List (Nat×KF)} {B:List Bx} {n:Nat} {ds:List Deferred} {a:Act} {w:W8} {F:Fence} {m:Nat} {P:Wf} {ops:Array Oper} {Q:Exit->Act->W8->Prop}
end
section
variable {S:Nat->Prop} {w0:W8} {K:List (Nat×KF)} {B:List Bx} {n:Nat} {ds:List Deferred} {a:Act} {w:W8} {F:Fence} {m:Nat} {P:Wf} {ops:Array Oper} {Q:Exit->Act->W8->Prop} {wb:W8} {CW:W8->Prop} {D:List Nat}
theorem zHn {o:Oper} (h:o.guard=none):Region.wanted o (yielded ops a.tmps)=true:=by unfold Region.wanted;rw [h]
end
section
variable {F:Fence} {m:Nat} {P:Wf} {w0:W8} {ops:Array Oper} {G:Nat->SF} {d:Tmp} {ty:Wc} {pos:String} {aft:Array Edge}
end
end Go.Proofs.Wd
