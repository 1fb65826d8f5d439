/- Natural numbers as values, and what prod and the references answer of  and what it needs. -/
import Derived.Test.YthegekeodchhiaaGreatDoorMLR13
import Derived.Test.YthegekeodchhiaaGreatDoorMLR7
import Derived.Test.YthegekeodchhiaaGreatDoorMLR17
import Derived.Test.YthegekeodchhiaaGreatDoorMLR6
import Derived.Test.YthegekeodchhiaaGreatDoorMLR9
import Derived.Test.YthegekeodchhiaaGreatDoorMLR3
import Derived.Test.YthegekeodchhiaaGreatDoorMLR1
import Derived.Test.YthegekeodchhiaaGreatDoorMLR16
theorem kG {P:Prop} (h:P:=by kernel_rfl):P:=h
theorem oN {P:Prop} (h:P:=by omega):P:=h
abbrev pH:=@Go.wpIn_seq
abbrev pI:=@List.all_eq_true
abbrev pJ:=@List.mem_range
abbrev pK:=@Nat.le_trans
abbrev pL:=@Bool.and_eq_true
abbrev pM:=@Go.RowKit.Below.refl
abbrev pN:=@Go.getD_set_ne
abbrev pP:=@Go.Oper.semAt_eq
abbrev pQ:=@Array.getD_eq_getD_getElem?
abbrev pR:=@Array.getElem?_eq_some_iff
abbrev pS:=@Nat.le_refl
abbrev pT:=@Nat.lt_of_lt_of_le
abbrev pU:=@Go.run_underlying
abbrev pV:=@congrArg
abbrev pW:=@decide_eq_true
abbrev pX:=@beq_iff_eq
abbrev pY:=@decide_eq_true_eq
abbrev pZ:=@List.getElem?_eq_some_iff
abbrev rA:=@Nat.eq_of_beq_eq_true
abbrev rB:=@Bool.not_eq_true'
abbrev rC:=@List.any_eq_true
abbrev rD:=@List.mem_map
abbrev rE:=@Nat.add_mul
abbrev rF:=@Go.wpIn_skip
abbrev rG:=@Go.Addr.add_lit
abbrev rH:=@Go.Sem.run_bind
abbrev rI:=@List.mem_cons
abbrev rJ:=@Nat.lt_or_ge
abbrev rK:=@Go.mem_ready
abbrev rL:=@List.length_append
abbrev rM:=@Nat.pow_le_pow_right
abbrev rN:=@List.contains_iff_mem
abbrev rO:=@Nat.beq_refl
abbrev rP:=@Array.getElem?_eq_none
abbrev rQ:=@Array.getElem?_eq_getElem
abbrev rR:=@List.map_cons
abbrev rS:=@List.map_nil
abbrev rT:=@Classical.choose_spec
abbrev rU:=@Bool.true_or
abbrev rV:=@List.all_append
abbrev rW:=@Nat.mul_le_mul_right
abbrev rX:=@Go.Sem.run_pure
abbrev rY:=@Go.Result.andThen_ok
abbrev rZ:=@List.getElem?_eq_getElem
abbrev sA:=@Nat.lt_of_le_of_lt
abbrev sB:=@Nat.div_le_self
abbrev sC:=@Nat.pos_of_ne_zero
abbrev sD:=@Nat.pow_zero
abbrev sE:=@Int.natAbs_pos
abbrev sF:=@List.length_drop
abbrev sG:=@List.take_of_length_le
abbrev sH:=@Option.some.injEq
abbrev sI:=@List.any_eq_false
abbrev sJ:=@List.mem_append
abbrev sK:=@List.range'_succ
abbrev sL:=@Nat.eq_zero_or_pos
abbrev sM:=@List.nil_append
abbrev sN:=@List.size_toArray
abbrev sO:=@Array.toList_append
abbrev sP:=@List.length_take
abbrev sQ:=@List.map_toArray
abbrev sR:=@beq_eq_false_iff_ne
abbrev sS:=@Array.getElem?_replicate
abbrev sT:=@List.getElem?_append_left
abbrev sU:=@List.getElem?_append_right
abbrev sV:=@List.take_append_of_le_length
abbrev sW:=@List.getD_eq_getElem?_getD
abbrev W8:=Go.World
abbrev Wa:=Go.Value
abbrev Wb:=Go.TypeId
abbrev Wc:=Option
abbrev We:=Go.Operand
abbrev Wf:=Go.Program
namespace Go.Proofs.Wd
open Tryz
open Go.RowKit Lb
def LV (W:W8) (m:Nat) (v:Wa) (x:Nat):Prop:= ∃A n c l,v= .slice A n c/\Rd W A n c l/\Lt l/\n<=m/\val l=x
theorem LV.below {W W':W8} {m:Nat} {v:Wa} {x:Nat} (h:LV W m v x) (hb:Below W.heap.size W W'):LV W' m v x:=by
 obtain ⟨A,n,c,l,rfl,h1,h2⟩:=h
 exact ⟨A,n,c,l,rfl,h1.below hb,h2⟩
theorem LV.mono {W:W8} {m m':Nat} {v:Wa} {x:Nat} (h:LV W m v x) (hm:m<=m'):LV W m' v x:=by
 obtain ⟨A,n,c,l,rfl,h1,h2,h3,h4⟩:=h
 exact ⟨A,n,c,l,rfl,h1,h2,by omega,h4⟩
theorem LV.bound {W:W8} {m:Nat} {v:Wa} {x:Nat} (h:LV W m v x):x<BB^m:=by
 obtain ⟨A,n,c,l,rfl,h1,h2,h3,rfl⟩:=h
 exact pT (qT h2) (rM y4 (by rw [h1.len];exact h3))
theorem y7.lv {W:W8} {v:Wa} {x m:Nat} (h:y7 W v x) (hx:x<BB^m):LV W m v x:=by
 obtain ⟨A,n,c,l,rfl,h1,h2⟩:=h
 exact ⟨A,n,c,l,rfl,h2,h1.lt,by rw [<-h2.len];exact h1.len hx,h1.val⟩
def zNq (w:W8) (x:Nat):Ending->W8->Prop:=fun e w'=> ∃v,e= .returned v/\y7 w' v x/\Below w.heap.size w w'
theorem jH.v {w:W8} {x:Nat} {e:Ending} {w':W8} (h:jH w x e w'):zNq w x e w':=by
 obtain ⟨A,n,c,l,rfl,h1,h2,h3⟩:=h
 exact ⟨_,rfl,⟨A,n,c,l,rfl,h1,h2⟩,h3⟩
theorem zRk {W:W8} {m:Nat} {v v':Wa} {a b:Nat} (h:LV W m v a) (h':LV W m v' b) (hm:m<=40000):Calls prog 100 #[v,v'] W (zNq W (a*b)):=by
 obtain ⟨A,n,c,l,rfl,h1,h2,h3,rfl⟩:=h
 obtain ⟨A',n',c',l',rfl,h1',h2',h3',rfl⟩:=h'
 exact (zMp A n c l A' n' c' l' W h1 h1' h2 h2' oN oN).mono fun _ _=>jH.v
def zU3 (w:W8) (x y:Nat):Ending->W8->Prop:=fun e w'=> ∃v v',e= .returned (.tuple #[v,v'])/\y7 w' v x/\y7 w' v' y/\Below w.heap.size w w'
theorem LV.open {W:W8} {m:Nat} {v:Wa} {x:Nat} (h:LV W m v x): ∃A n c,v= .slice A n c/\n<=m/\n<=c/\c<=9223372036854775807/\LV W m (.slice A n c) x:=by
 obtain ⟨A,n,c,l,rfl,h1,h2,h3,h4⟩:=h
 exact ⟨A,n,c,rfl,h3,h1.le,h1.cap,⟨A,n,c,l,rfl,h1,h2,h3,h4⟩⟩
def zU4 (w:W8) (a b:Nat):Ending->W8->Prop:=fun e w'=> ∃v v',e= .returned (.tuple #[v,v', .int .i64 0])/\y7 w' v (a / b)/\y7 w' v' (a % b)/\Below w.heap.size w w'
theorem zHc {W:W8} {m:Nat} {v v':Wa} {a b:Nat} (h:LV W m v a) (h':LV W m v' b) (hm:m<=10000) (h0:0<b):Calls prog 58 #[v,v'] W (zU4 W a b):=by
 obtain ⟨A,n,c,l,rfl,h1,h2,h3,rfl⟩:=h
 obtain ⟨A',n',c',l',rfl,h1',h2',h3',rfl⟩:=h'
 refine (zN9 A n c l A' n' c' l' W h1 h1' h2 h2' oN oN h0).mono ?_
 rintro e w' ⟨A1,n1,c1,l1,A2,n2,c2,l2,rfl,i1,r1,i2,r2,hb⟩
 exact ⟨_,_,rfl,⟨A1,n1,c1,l1,rfl,i1,r1⟩,⟨A2,n2,c2,l2,rfl,i2,r2⟩,hb⟩
theorem zSg {W:W8} {m:Nat} {v v':Wa} {a b:Nat} (h:LV W m v a) (h':LV W m v' b):Calls prog 87 #[v,v'] W fun e w'=>e= .returned (.int .i64 (zAy a b))/\W=w':=by
 obtain ⟨A,n,c,l,rfl,h1,h2,h3,rfl⟩:=h
 obtain ⟨A',n',c',l',rfl,h1',h2',h3',rfl⟩:=h'
 exact zEC A n c l A' n' c' l' W h1 h1' h2 h2'
theorem zQP {W:W8} {m:Nat} {A:Wc Addr} {n c:Nat} {A':Wc Addr} {n' c':Nat} {x y:Nat} (h:LV W m (.slice A n c) x) (h':LV W m (.slice A' n' c') y) (hm:m<=10000) (t:Wb):
  Calls prog 84 #[.slice (some ⟨W.heap.size,0,none⟩) 2 2] (W.alloc (.cells #[.slice A n c, .slice A' n' c'] t)) (zNq (W.alloc (.cells #[.slice A n c, .slice A' n' c'] t)) (x+y)):=by
 obtain ⟨A1,n1,c1,l,e1,h1,h2,h3,rfl⟩:=h
 obtain ⟨A2,n2,c2,l',e2,h1',h2',h3',rfl⟩:=h'
 cases e1
 cases e2
 have:=zED _ 2 2 _ _ (Rds.two h1 h2 oN h1' h2' oN t) (by decide)
 simp only [rR,rS,List.sum_cons,List.sum_nil,Nat.add_zero] at this
 exact this.mono fun _ _=>jH.v
def yQ (x:Nat):UF:= .mk' (fun v w=>y7 w v x) fun _ _ _ ⟨A,n,c,l,e,h1,h2⟩ k=>⟨A,n,c,l,e,h1,h2.keepU k⟩
def fLV (m x:Nat):UF:= .mk' (fun v w=>LV w m v x) fun _ _ _ ⟨A,n,c,l,e,h1,h2⟩ k=>⟨A,n,c,l,e,h1.keepU k,h2⟩
def fNV (k:Int):UF:= .mk' (fun v w=>NV w v k) fun _ _ _ ⟨A,n,c,l,e,h1,h2⟩ k=>⟨A,n,c,l,e,h1,h2.keepU k⟩
def fUV (m:Nat) (k:Int):UF:= .mk' (fun v w=>UV w m v k) fun _ _ _ ⟨s,A,n,c,l,e,h1,h2⟩ k=>⟨s,A,n,c,l,e,h1.keepU k,h2⟩
def fB (b:Bool):UF:= .eq (.bool b)
def fI (z:Int):UF:= .eq (.int .i64 z)
theorem zGm {F:Fence} {m:Nat} {P:Wf} {w0:W8} {ops:Array Oper} {G:Nat->SF} {o:Oper} {l:List Oper} (h:qX F m P w0 ops G o) (k:Obs F m P w0 ops G l):Obs F m P w0 ops G (o::l):=⟨h,k⟩
theorem oc {F:Fence} {m:Nat} {P:Wf} {w0:W8} {ops:Array Oper} {G:Nat->SF} {o:Oper} {l:List Oper} (h:qX F m P w0 ops G o) (k:Obs F m P w0 ops G l):Obs F m P w0 ops G (o::l):=⟨h,k⟩
theorem lr {n:Nat}:n<=n:=pS n
theorem arf {α:Sort _} {a:α} {p:Prop}:a≠a->p:=fun e=>absurd rfl e
abbrev zP6:List Wa:= [.bool false, .slice none 0 0, .slice none 0 0, .bool false, .slice none 0 0, .slice none 0 0]
abbrev zR3:List Wa:= [.bool false, .slice none 0 0, .slice none 0 0]
theorem fmz {α:Type} {p:α->Prop} {a:α} {l:List α} (h:p a/\ ∀x,x∈l->p x): ∀x,x∈a::l->p x:=List.forall_mem_cons.2 h
theorem fnz {α:Type} {p:α->Prop}: ∀x,x∈([]:List α)->p x:=List.forall_mem_nil p
theorem iiz {α β:Type} {p:α->β->Prop}: ∀a b,p a b->p a b:=fun _ _ h=>h
theorem mz1 {α:Type} {a b0:α} {l:List α}:a∈b0::a::l:= .tail _ (.head _)
theorem mz2 {α:Type} {a b0 b1:α} {l:List α}:a∈b0::b1::a::l:= .tail _ (.tail _ (.head _))
theorem mz3 {α:Type} {a b0 b1 b2:α} {l:List α}:a∈b0::b1::b2::a::l:= .tail _ (.tail _ (.tail _ (.head _)))
theorem mz4 {α:Type} {a b0 b1 b2 b3:α} {l:List α}:a∈b0::b1::b2::b3::a::l:= .tail _ (.tail _ (.tail _ (.tail _ (.head _))))
theorem mz5 {α:Type} {a b0 b1 b2 b3 b4:α} {l:List α}:a∈b0::b1::b2::b3::b4::a::l:= .tail _ (.tail _ (.tail _ (.tail _ (.tail _ (.head _)))))
theorem mz6 {α:Type} {a b0 b1 b2 b3 b4 b5:α} {l:List α}:a∈b0::b1::b2::b3::b4::b5::a::l:= .tail _ (.tail _ (.tail _ (.tail _ (.tail _ (.tail _ (.head _))))))
theorem mz7 {α:Type} {a b0 b1 b2 b3 b4 b5 b6:α} {l:List α}:a∈b0::b1::b2::b3::b4::b5::b6::a::l:= .tail _ (.tail _ (.tail _ (.tail _ (.tail _ (.tail _ (.tail _ (.head _)))))))
theorem mz8 {α:Type} {a b0 b1 b2 b3 b4 b5 b6 b7:α} {l:List α}:a∈b0::b1::b2::b3::b4::b5::b6::b7::a::l:= .tail _ (.tail _ (.tail _ (.tail _ (.tail _ (.tail _ (.tail _ (.tail _ (.head _))))))))
theorem mz9 {α:Type} {a b0 b1 b2 b3 b4 b5 b6 b7 b8:α} {l:List α}:a∈b0::b1::b2::b3::b4::b5::b6::b7::b8::a::l:= .tail _ (.tail _ (.tail _ (.tail _ (.tail _ (.tail _ (.tail _ (.tail _ (.tail _ (.head _)))))))))
theorem zGp {α:Type} {a b0 b1 b2 b3 b4 b5 b6 b7 b8 b9:α} {l:List α}:a∈b0::b1::b2::b3::b4::b5::b6::b7::b8::b9::a::l:= .tail _ (.tail _ (.tail _ (.tail _ (.tail _ (.tail _ (.tail _ (.tail _ (.tail _ (.tail _ (.head _))))))))))
theorem zNx {α:Type} {a b0 b1 b2 b3 b4 b5 b6 b7 b8 b9 b10:α} {l:List α}:a∈b0::b1::b2::b3::b4::b5::b6::b7::b8::b9::b10::a::l:= .tail _ (.tail _ (.tail _ (.tail _ (.tail _ (.tail _ (.tail _ (.tail _ (.tail _ (.tail _ (.tail _ (.head _)))))))))))
theorem zRj {α:Type} {a b0 b1 b2 b3 b4 b5 b6 b7 b8 b9 b10 b11:α} {l:List α}:a∈b0::b1::b2::b3::b4::b5::b6::b7::b8::b9::b10::b11::a::l:= .tail _ (.tail _ (.tail _ (.tail _ (.tail _ (.tail _ (.tail _ (.tail _ (.tail _ (.tail _ (.tail _ (.tail _ (.head _))))))))))))
theorem zSL {α:Type} {a b0 b1 b2 b3 b4 b5 b6 b7 b8 b9 b10 b11 b12:α} {l:List α}:a∈b0::b1::b2::b3::b4::b5::b6::b7::b8::b9::b10::b11::b12::a::l:= .tail _ (.tail _ (.tail _ (.tail _ (.tail _ (.tail _ (.tail _ (.tail _ (.tail _ (.tail _ (.tail _ (.tail _ (.tail _ (.head _)))))))))))))
theorem zRW {α:Type} {a b0 b1 b2 b3 b4 b5 b6 b7 b8 b9 b10 b11 b12 b13:α} {l:List α}:a∈b0::b1::b2::b3::b4::b5::b6::b7::b8::b9::b10::b11::b12::b13::a::l:= .tail _ (.tail _ (.tail _ (.tail _ (.tail _ (.tail _ (.tail _ (.tail _ (.tail _ (.tail _ (.tail _ (.tail _ (.tail _ (.tail _ (.head _))))))))))))))
theorem zNw {α:Type} {a b0 b1 b2 b3 b4 b5 b6 b7 b8 b9 b10 b11 b12 b13 b14:α} {l:List α}:a∈b0::b1::b2::b3::b4::b5::b6::b7::b8::b9::b10::b11::b12::b13::b14::a::l:= .tail _ (.tail _ (.tail _ (.tail _ (.tail _ (.tail _ (.tail _ (.tail _ (.tail _ (.tail _ (.tail _ (.tail _ (.tail _ (.tail _ (.tail _ (.head _)))))))))))))))
theorem zD {F:Fence} {m:Nat} {P:Wf} {w0:W8} {ops:Array Oper} {G:Nat->SF}:Obs F m P w0 ops G []:=trivial
def CF.at (C:CF) (k:Nat):CF:=⟨fun cs w=> ∃ds,C.p ds w/\cs=ds.drop k,fun _ _ _ ⟨ds,h1,h2⟩ hb=>⟨ds,C.st _ _ _ h1 hb,h2⟩⟩
abbrev Rw.X (f:UF) (n:Nat):Rw:=.s (wB ((CU.agg f).cf.at n))
abbrev Rw.Y (f:UF):Rw:=.s (wB (cg f))
section
variable {F:Fence} {m:Nat} {P:Wf} {w0:W8} {ops:Array Oper} {G:Nat->SF} {d:Tmp} {ty:Wb} {pos:String} {aft:Array Edge}
theorem zK {x:We} {s:Wb} {f:Nat} {C:CF} (k:Nat) (hk:zCX P s f=some k) (hx: ∀v W,(fct G x).p v W->(wB C).p v W:=by first|exact fun _ _ h=>h|exact fun _ _ h=>h.2) (hd: ∀v W,(wB (C.at k)).p v W->(G d).p v W:=by exact fun _ _ h=>h):qX F m P w0 ops G ⟨some d, .fieldAddr s x f,ty,pos,aft,none⟩:=
 zJE (C':=C.at k) k hk hx (fun cs _ h=>⟨cs,h,rfl⟩) hd
theorem yE {x:We} {s:Wb} {f:Nat} {C:CF} (i k:Nat) (hk:zCX P s f=some k) (hx: ∀v W,(fct G x).p v W->(wB (C.at i)).p v W:=by exact fun _ _ h=>h) (hd: ∀v W,(wB (C.at (i+k))).p v W->(G d).p v W:=by exact fun _ _ h=>h):qX F m P w0 ops G ⟨some d, .fieldAddr s x f,ty,pos,aft,none⟩:=
 zJE (C':=C.at (i+k)) k hk hx (fun cs _ ⟨ds,h1,h2⟩=>⟨ds,h1,by rw [h2,List.drop_drop]⟩) hd
theorem yL {x:We} {t:Wb} {C:CF} {k:Nat} (hk:zFi P t=true) (hx: ∀v W,(fct G x).p v W->(wB (C.at k)).p v W:=by exact fun _ _ h=>h) (h: ∀cs W,C.p cs W-> ∃u,cs[k]?=some u/\(G d).p u W):qX F m P w0 ops G ⟨some d, .load t x,ty,pos,aft,none⟩:=
 jS hk hx fun cs W ⟨ds,h1,h2⟩=>let ⟨u,h3,h4⟩:=h ds W h1;⟨u,by rw [h2,List.getElem?_drop];exact h3,h4⟩
theorem yB {x:We} {t:Wb} {C:CF} {k:Nat} (z:Nat) (hk:zAn P t=some z) (hx: ∀v W,(fct G x).p v W->(wB (C.at k)).p v W:=by exact fun _ _ h=>h) (h: ∀cs W,C.p cs W->k+z<=cs.length/\(G d).p (.agg ((cs.drop k).take z).toArray) W):qX F m P w0 ops G ⟨some d, .load t x,ty,pos,aft,none⟩:=
 zDG z hk hx fun cs W ⟨ds,h1,h2⟩=>let ⟨h3,h4⟩:=h ds W h1;⟨by rw [h2,sF];omega,by rw [h2];exact h4⟩
theorem zI {x:We} {t:Wb} {f:UF} (z:Nat) (hk:zAn P t=some z) (hx: ∀v W,(fct G x).p v W->(wB (cg f)).p v W:=by first|exact fun _ _ h=>h|exact fun _ _ h=>h.2) (hz: ∀cs:List Wa, ∀W,f.p (.agg cs.toArray) W->cs.length=z) (hd: ∀v W,f.p v W->(G d).p v W:=by exact fun _ _ h=>h):qX F m P w0 ops G ⟨some d, .load t x,ty,pos,aft,none⟩:=
 zDG z hk hx fun cs W h=>⟨by rw [hz cs W h];exact pS _,by
  have h1:=hz cs W h
  rw [sG oN]
  exact hd _ _ h⟩
theorem zB4 {x:We} {a:Addr} (hx: ∀v W,(fct G x).p v W->v= .pointer (some a)) (hd: ∀W,(G d).p (.pointer (some a)) W:=by exact fun _=>rfl):qX F m P w0 ops G ⟨some d, .nilCheck x,ty,pos,aft,none⟩:=
 jG (fun _ e=>by cases e) (fun _ e=>by cases e) fun b W hb hh=>by
  have e:=hx _ _ (hh x (by simp [Op.operands]))
  exact ⟨.pointer (some a),by simp [execOp,e],hd W⟩
theorem jJ {x:We} {s:Wb} {f:Nat} {b o:Nat} (k:Nat) (hk:zCX P s f=some k) (hx: ∀v W,(fct G x).p v W->v= pO b o) (hd: ∀W,(G d).p (.pointer (some ⟨b,o+k,none⟩)) W:=by exact fun _=>rfl):qX F m P w0 ops G ⟨some d, .fieldAddr s x f,ty,pos,aft,none⟩:=
 jG (fun _ e=>by cases e) (fun _ e=>by cases e) fun c W hb hh=>by
  have e:=hx _ _ (hh x (by simp [Op.operands]))
  refine ⟨.pointer (some ⟨b,o+k,none⟩), ?_,hd W⟩
  unfold zCX at hk
  split at hk<;>try cases hk
  rename_i fs hu
  split at hk<;>try cases hk
  rename_i f' hf
  split at hk<;>try cases hk
  rename_i i hi
  split at hk<;>try cases hk
  rename_i hz
  simp [execOp,Instr.fieldAt,pU hu,hf,e,Instr.sureAddr,fieldPlace,sizeOf,typeInfo,hi,hz,rG]
theorem wF {W:W8} {f g:SF} (h: ∀v W,f.p v W->g.p v W): ∀e W',Ret W f e W'->Ret W g e W':=fun _ _ ⟨v,e,h1,h2⟩=>⟨v,e,h _ _ h1,h2⟩
end
theorem zAz {xs ys:Array Wa} (h:Value.agg xs=Value.agg ys):xs=ys:=by injection h
theorem zIX {cs:List Wa} {W:W8} {m:Nat} {k:Int} (h:(fUV m k).p (.agg cs.toArray) W): ∃s A n c,cs= [.bool s, .slice A n c]/\ ∃l,Rd W A n c l/\Lt l/\n<=m/\iv s l=k:=by
 obtain ⟨s,A,n,c,l,e,h1⟩:=h
 have:=pV Array.toList (zAz e)
 exact ⟨s,A,n,c,by simpa using this,l,h1⟩
theorem zGo {cs:List Wa} {W:W8} {k:Int} (h:(fNV k).p (.agg cs.toArray) W): ∃A n c,cs= [.bool (decide (k<0)), .slice A n c]/\ ∃l,Is l k.natAbs/\Rd W A n c l:=by
 obtain ⟨A,n,c,l,e,h1⟩:=h
 have:=pV Array.toList (zAz e)
 exact ⟨A,n,c,by simpa using this,l,h1⟩
theorem zAQ (m:Nat) (k:Int): ∀cs:List Wa, ∀W,(fUV m k).p (.agg cs.toArray) W->cs.length=2:=fun cs W h=>by
 obtain ⟨s,A,n,c,rfl,_⟩:=zIX h
 rfl
theorem qQ (k:Int): ∀cs:List Wa, ∀W,(fNV k).p (.agg cs.toArray) W->cs.length=2:=fun cs W h=>by
 obtain ⟨A,n,c,rfl,_⟩:=zGo h
 rfl
theorem zEk {m:Nat} {k:Int} (cs:List Wa) (W:W8) (h:(CU.agg (fUV m k)).p cs W): ∃u,cs[1]?=some u/\LV W m u k.natAbs:=by
 obtain ⟨s,A,n,c,rfl,l,h1,h2,h3,rfl⟩:=zIX h
 exact ⟨_,rfl,A,n,c,l,rfl,h1,h2,h3,(zJR s l).symm⟩
theorem zHC {k:Int} (cs:List Wa) (W:W8) (h:(CU.agg (fNV k)).p cs W): ∃u,cs[1]?=some u/\y7 W u k.natAbs:=by
 obtain ⟨A,n,c,rfl,l,h1,h2⟩:=zGo h
 exact ⟨_,rfl,A,n,c,l,rfl,h1,h2⟩
theorem zA1 {k:Int} (cs:List Wa) (W:W8) (h:(CU.agg (fNV k)).p cs W): ∃u,cs[0]?=some u/\u= .bool (decide (k<0)):=by
 obtain ⟨A,n,c,rfl,l,h1,h2⟩:=zGo h
 exact ⟨_,rfl,rfl⟩
theorem zCg {m:Nat} {k:Int} {v:Wa} {W:W8} (h:(fUV m k).p v W):(CU.agg (fUV m k)).p v.cells.toList W/\v.cells.toList.all yR=true:=by
 obtain ⟨s,A,n,c,l,rfl,h1⟩:=h
 exact ⟨⟨s,A,n,c,l,rfl,h1⟩,rfl⟩
theorem y2 {k:Int} (v:Wa) (W:W8) (h:(fNV k).p v W): ∃vs:List Wa,v= .agg vs.toArray/\vs.length=2/\(∀u,u∈vs->u.oneCell'=true)/\vs.all yR=true/\(CU.agg (fNV k)).p vs W:=by
 obtain ⟨A,n,c,l,rfl,h1⟩:=h
 exact ⟨[_,_],rfl,rfl,fun u hu=>by simp at hu;rcases hu with rfl|rfl<;>rfl,rfl,A,n,c,l,rfl,h1⟩
theorem NV.nat {W:W8} {v:Wa} {k:Int} (h:NV W v k): ∃A n c,v= .agg #[.bool (decide (k<0)), .slice A n c]/\y7 W (.slice A n c) k.natAbs:=by
 obtain ⟨A,n,c,l,rfl,h1,h2⟩:=h
 exact ⟨A,n,c,rfl,A,n,c,l,rfl,h1,h2⟩
theorem zVD (s:Bool) (A:Wc Addr) (n c:Nat):prog.built 25 [(0, .bool s),(1, .slice A n c)]=some #[.bool s, .slice A n c]:=by kernel_rfl
theorem zFD {s:Bool} {u v:Wa} {W:W8} {m x:Nat} (hu:u= .bool s) (hv:y7 W v x) (hx:x<BB^m): ∃cells,prog.built 25 [(0,u),(1,v)]=some cells/\UV W m (.agg cells) (if s then -(x:Int) else x):=by
 obtain ⟨A,n,c,l,rfl,h1,h2⟩:=hv
 subst hu
 refine ⟨_,zVD s A n c,s,A,n,c,l,rfl,h2,h1.lt,by rw [<-h2.len];exact h1.len hx, ?_⟩
 unfold iv
 rw [h1.val]
theorem zSb (s s':Bool) (A A':Wc Addr) (n n' c c':Nat):yA prog 78 2 [(0, .agg #[.bool s, .slice A n c]),(1, .agg #[.bool s', .slice A' n' c'])]=some (25,#[.bool s, .slice A n c, .bool s', .slice A' n' c']):=by kernel_rfl
theorem jV {u v:Wa} {W:W8} {m:Nat} {k k':Int} (hu:UV W m u k) (hv:UV W m v k'): ∃e cs,yA prog 78 2 [(0,u),(1,v)]=some (e,cs)/\ISV (W.alloc (.cells cs e)) m (.slice (some ⟨W.heap.size,0,none⟩) 2 2) [k,k']:=by
 obtain ⟨s,A,n,c,l,rfl,h1,h2,h3,rfl⟩:=hu
 obtain ⟨s',A',n',c',l',rfl,h1',h2',h3',rfl⟩:=hv
 exact ⟨_,_,zSb s s' A A' n n' c c',ISV.two ⟨s,A,n,c,l,rfl,h1,h2,h3,rfl⟩ ⟨s',A',n',c',l',rfl,h1',h2',h3',rfl⟩ _⟩
def zFU (m:Nat) (ks:List Int):SF:=⟨fun v W=>ISV W m v ks,fun _ _ _ h hb=>h.below hb⟩
def zMW (x:Nat):SF:=⟨fun v _=> ∃n:Nat,v= .int .i64 n/\(x=0↔n=0),fun _ _ _ h _=>h⟩
section
variable {F:Fence} {m:Nat} {P:Wf} {w0:W8} {ops:Array Oper} {G:Nat->SF} {d:Tmp} {ty:Wb} {pos:String} {aft:Array Edge}
theorem zC4 {x:We} {t:Wb} (ht:P.underlying t=some (.slice (P.elem t))) (h: ∀v W,(fct G x).p v W-> ∃A n c,v= .slice A n c/\(G d).p (.int .i64 (n:Nat)) W):qX F m P w0 ops G ⟨some d, .call ⟨.builtin .len,#[x],#[t]⟩,ty,pos,aft,none⟩:=by
 intro b W K Q hb hr hK
 obtain ⟨A,n,c,e,hd⟩:=h _ _ (qK hr (x:=x) (by simp [Op.operands,Call.operands]))
 refine ⟨fun f hf=>(by
  unfold Oper.about at hf
  simp [resolve,go_sem] at hf), ?_⟩
 rw [pP _ _ _ (fun _ e=>by cases e)]
 have:(execOp b.eval ⟨some d, .call ⟨.builtin .len,#[x],#[t]⟩,ty,pos,aft,none⟩).run P W= .ok (.value (.int .i64 (n:Nat))) W:=by
  simp [execOp,resolve,invoke,builtin,e,run_len_slice _ _ _ _ _ _ ht,goInt]
 rw [this]
 exact hK _ _ (fun d' e'=>by cases e';exact hd) (pM _ _)
theorem zCB {x:We} {t:Wb} {k:Nat} (ht:P.underlying t=some (.slice (P.elem t))) (hx: ∀v W,(fct G x).p v W->y7 W v k) (hd: ∀v W,(zMW k).p v W->(G d).p v W:=by exact fun _ _ h=>h):qX F m P w0 ops G ⟨some d, .call ⟨.builtin .len,#[x],#[t]⟩,ty,pos,aft,none⟩:=
 zC4 ht fun v W h=>by
  obtain ⟨A,n,c,l,e,h1,h2⟩:=hx v W h
  exact ⟨A,n,c,e,hd _ _ ⟨n,rfl,by rw [<-h2.len];exact h1.zero_iff⟩⟩
theorem zMo {op:BinOp} {t:Wb} {x y:We} {t':Wb} (h: ∀u v W,(fct G x).p u W->(fct G y).p v W-> ∃r,(∀W,(eqGuard op t x y u v).run P W= .ok () W)/\(∀W,(binOp op t u v).run P W= .ok r W)/\(G d).p r W):qX F m P w0 ops G ⟨some d, .binOp op t x y t',ty,pos,aft,none⟩:=
 jG (fun _ e=>by cases e) (fun _ e=>by cases e) fun b W hb hh=>by
  obtain ⟨r,h1,h2,h3⟩:=h _ _ W (hh x (by simp [Op.operands])) (hh y (by simp [Op.operands]))
  exact ⟨r,by simp [execOp,h1,h2],h3⟩
theorem zMm {t:Wb} {x:We} {t':Wb} {k:Nat} {b:Bool} (hb:b=decide (0<k)) (hx: ∀v W,(fct G x).p v W->(zMW k).p v W:=by exact fun _ _ h=>h) (hd: ∀W,(G d).p (.bool b) W:=by exact fun _=>rfl):qX F m P w0 ops G ⟨some d, .binOp .gtr t x (.const (.int .i64 0)) t',ty,pos,aft,none⟩:=
 zMo fun u v W hu hv=>by
  obtain ⟨n,rfl,h1⟩:=hx u W hu
  obtain rfl:v= .int .i64 0:=hv
  refine ⟨.bool b,fun _=>rfl,fun _=> ?_,hd W⟩
  have h2:decide (0<n)=b:=by
   rw [hb]
   by_cases e:k=0
   ·have:=h1.1 e
    subst this
    rw [e]
   ·have:n≠0:=fun h=>e (h1.2 h)
    rw [pW oN,pW oN]
  simp [binOp,Op.intCmp,h2]
theorem zEb {t:Wb} {x:We} {t':Wb} {k:Nat} {b:Bool} (hb:b=decide (k=0)) (hx: ∀v W,(fct G x).p v W->(zMW k).p v W:=by exact fun _ _ h=>h) (hd: ∀W,(G d).p (.bool b) W:=by exact fun _=>rfl):qX F m P w0 ops G ⟨some d, .binOp .eql t x (.const (.int .i64 0)) t',ty,pos,aft,none⟩:=
 zMo fun u v W hu hv=>by
  obtain ⟨n,rfl,h1⟩:=hx u W hu
  obtain rfl:v= .int .i64 0:=hv
  refine ⟨.bool b,fun _=>rfl,fun _=> ?_,hd W⟩
  have h2:((n:Int)==0)=b:=by
   rw [hb,Bool.eq_iff_iff]
   simp only [pX,pY]
   omega
  simp only [binOp,Op.intCmp]
  rw [h2]
  rfl
end
def QVp (m:Nat) (k:Int) (d:Nat) (v:Wa) (w:W8):Prop:= ∃b s t,v= .agg #[b,s,t]/\UV w m (.agg #[b,s]) k/\LV w m t d
def QNp (q:Rat) (v:Wa) (w:W8):Prop:= ∃b s t,v= .agg #[b,s,t]/\NV w (.agg #[b,s]) q.num/\y7 w t q.den
def QMp (m:Nat) (k:Int) (d:Nat) (v:Wa) (w:W8):Prop:= ∃b s t,v= .agg #[b,s,t]/\NV w (.agg #[b,s]) k/\LV w m t d
def QAp (m:Nat) (sg:Bool) (x:Nat) (d:Nat) (v:Wa) (w:W8):Prop:= ∃s t,v= .agg #[.bool sg,s,t]/\y7 w s x/\LV w m t d
def fQV (m:Nat) (k:Int) (d:Nat):UF:= .mk' (QVp m k d) fun _ _ _ ⟨b,s,t,e,h1,h2⟩ u=>⟨b,s,t,e,(fUV m k).us _ _ _ h1 u,(fLV m d).us _ _ _ h2 u⟩
def fQN (q:Rat):UF:= .mk' (QNp q) fun _ _ _ ⟨b,s,t,e,h1,h2⟩ u=>⟨b,s,t,e,(fNV q.num).us _ _ _ h1 u,(yQ q.den).us _ _ _ h2 u⟩
def fQM (m:Nat) (k:Int) (d:Nat):UF:= .mk' (QMp m k d) fun _ _ _ ⟨b,s,t,e,h1,h2⟩ u=>⟨b,s,t,e,(fNV k).us _ _ _ h1 u,(fLV m d).us _ _ _ h2 u⟩
def fQA (m:Nat) (sg:Bool) (x d:Nat):UF:= .mk' (QAp m sg x d) fun _ _ _ ⟨s,t,e,h1,h2⟩ u=>⟨s,t,e,(yQ x).us _ _ _ h1 u,(fLV m d).us _ _ _ h2 u⟩
theorem zAE {cs:List Wa} {b s t:Wa} (h:Value.agg cs.toArray= .agg #[b,s,t]):cs= [b,s,t]:=by
 have:=pV Array.toList (zAz h)
 simpa using this
theorem zPB (m:Nat) (k:Int) (d:Nat): ∀cs:List Wa, ∀W,(fQV m k d).p (.agg cs.toArray) W->cs.length=3:=fun cs W ⟨b,s,t,e,_⟩=>by rw [zAE e];rfl
theorem z5 (q:Rat): ∀cs:List Wa, ∀W,(fQN q).p (.agg cs.toArray) W->cs.length=3:=fun cs W ⟨b,s,t,e,_⟩=>by rw [zAE e];rfl
theorem zL3 {m:Nat} {k:Int} {d:Nat} (cs:List Wa) (W:W8) (h:(CU.agg (fQV m k d)).p cs W):0+2<=cs.length/\UV W m (.agg ((cs.drop 0).take 2).toArray) k:=by
 obtain ⟨b,s,t,e,h1,_⟩:=h
 rw [zAE e]
 exact ⟨by simp,h1⟩
theorem zHn {m:Nat} {k:Int} {d:Nat} (cs:List Wa) (W:W8) (h:(CU.agg (fQV m k d)).p cs W): ∃u,cs[2]?=some u/\LV W m u d:=by
 obtain ⟨b,s,t,e,_,h1⟩:=h
 rw [zAE e]
 exact ⟨t,rfl,h1⟩
theorem zSq {m:Nat} {k:Int} {d:Nat} (cs:List Wa) (W:W8) (h:(CU.agg (fQV m k d)).p cs W): ∃u,cs[0]?=some u/\ ∃s:Bool,u= .bool s:=by
 obtain ⟨b,s,t,e,⟨s',A,n,c,l,e',_⟩,_⟩:=h
 rw [zAE e]
 have:=pV Array.toList (zAz e')
 exact ⟨b,rfl,s',by simp at this;exact this.1⟩
theorem zBj {q:Rat} (cs:List Wa) (W:W8) (h:(CU.agg (fQN q)).p cs W):0+2<=cs.length/\NV W (.agg ((cs.drop 0).take 2).toArray) q.num:=by
 obtain ⟨b,s,t,e,h1,_⟩:=h
 rw [zAE e]
 exact ⟨by simp,h1⟩
theorem zAw {q:Rat} (cs:List Wa) (W:W8) (h:(CU.agg (fQN q)).p cs W): ∃u,cs[2]?=some u/\y7 W u q.den:=by
 obtain ⟨b,s,t,e,_,h1⟩:=h
 rw [zAE e]
 exact ⟨t,rfl,h1⟩
theorem zJw {q:Rat} (cs:List Wa) (W:W8) (h:(CU.agg (fQN q)).p cs W): ∃u,cs[1]?=some u/\y7 W u q.num.natAbs:=by
 obtain ⟨b,s,t,e,h1,_⟩:=h
 rw [zAE e]
 exact zHC [b,s] W h1
theorem zJv {q:Rat} (cs:List Wa) (W:W8) (h:(CU.agg (fQN q)).p cs W): ∃u,cs[0]?=some u/\u= .bool (decide (q.num<0)):=by
 obtain ⟨b,s,t,e,h1,_⟩:=h
 rw [zAE e]
 exact zA1 [b,s] W h1
theorem zEF {q:Rat} (cs:List Wa) (W:W8) (h:(CU.agg (fQN q)).p cs W):0+3<=cs.length/\QNp q (.agg ((cs.drop 0).take 3).toArray) W:=by
 have h1:=z5 q cs W h
 exact ⟨by omega,by rw [List.drop_zero,sG oN];exact h⟩
theorem zSt {m:Nat} {k:Int} {d:Nat} (cs:List Wa) (W:W8) (h:(CU.agg (fQM m k d)).p cs W): ∃u,cs[1]?=some u/\y7 W u k.natAbs:=by
 obtain ⟨b,s,t,e,h1,_⟩:=h
 rw [zAE e]
 exact zHC [b,s] W h1
theorem zSs {m:Nat} {k:Int} {d:Nat} (cs:List Wa) (W:W8) (h:(CU.agg (fQM m k d)).p cs W): ∃u,cs[2]?=some u/\LV W m u d:=by
 obtain ⟨b,s,t,e,_,h1⟩:=h
 rw [zAE e]
 exact ⟨t,rfl,h1⟩
theorem LV.form {W:W8} {m:Nat} {v:Wa} {x:Nat} (h:LV W m v x): ∃A n c,v= .slice A n c:=by
 obtain ⟨A,n,c,l,e,_⟩:=h
 exact ⟨A,n,c,e⟩
theorem y7.form {W:W8} {v:Wa} {x:Nat} (h:y7 W v x): ∃A n c,v= .slice A n c:=by
 obtain ⟨A,n,c,l,e,_⟩:=h
 exact ⟨A,n,c,e⟩
theorem UV.form {W:W8} {m:Nat} {b s:Wa} {k:Int} (h:UV W m (.agg #[b,s]) k): ∃sg A n c,b= .bool sg/\s= .slice A n c:=by
 obtain ⟨s',A,n,c,l,e,_⟩:=h
 have:=pV Array.toList (zAz e)
 simp at this
 exact ⟨s',A,n,c,this.1,this.2⟩
theorem NV.form {W:W8} {b s:Wa} {k:Int} (h:NV W (.agg #[b,s]) k): ∃A n c,b= .bool (decide (k<0))/\s= .slice A n c:=by
 obtain ⟨A,n,c,l,e,_⟩:=h
 have:=pV Array.toList (zAz e)
 simp at this
 exact ⟨A,n,c,this.1,this.2⟩
theorem zCv {m:Nat} {k:Int} {d:Nat} {v:Wa} {W:W8} (h:(fQV m k d).p v W): ∃sg A n c A' n' c',v= .agg #[.bool sg, .slice A n c, .slice A' n' c']:=by
 obtain ⟨b,s,t,rfl,h1,h2⟩:=h
 obtain ⟨sg,A,n,c,rfl,rfl⟩:=h1.form
 obtain ⟨A',n',c',rfl⟩:=h2.form
 exact ⟨_,_,_,_,_,_,_,rfl⟩
theorem zCw {q:Rat} {v:Wa} {W:W8} (h:(fQN q).p v W): ∃A n c A' n' c',v= .agg #[.bool (decide (q.num<0)), .slice A n c, .slice A' n' c']:=by
 obtain ⟨b,s,t,rfl,h1,h2⟩:=h
 obtain ⟨A,n,c,rfl,rfl⟩:=h1.form
 obtain ⟨A',n',c',rfl⟩:=h2.form
 exact ⟨_,_,_,_,_,_,rfl⟩
theorem zDA {m:Nat} {k:Int} {d:Nat} {v:Wa} {W:W8} (h:(fQV m k d).p v W):(CU.agg (fQV m k d)).p v.cells.toList W/\v.cells.toList.all yR=true:=by
 obtain ⟨sg,A,n,c,A',n',c',rfl⟩:=zCv h
 exact ⟨h,rfl⟩
theorem zHp {q:Rat} {v:Wa} {W:W8} (h:(fQN q).p v W):(CU.agg (fQN q)).p v.cells.toList W/\v.cells.toList.all yR=true:=by
 obtain ⟨A,n,c,A',n',c',rfl⟩:=zCw h
 exact ⟨h,rfl⟩
theorem zEU {sg:Bool} {A A':Wc Addr} {n c n' c':Nat} (u:Wa) (hu:u∈ [Value.bool sg, .slice A n c, .slice A' n' c']):u.oneCell'=true:=by
 simp at hu
 rcases hu with rfl|rfl|rfl<;>rfl
theorem zU {q:Rat} (v:Wa) (W:W8) (h:(fQN q).p v W): ∃vs:List Wa,v= .agg vs.toArray/\vs.length=3/\(∀u,u∈vs->u.oneCell'=true)/\vs.all yR=true/\(CU.agg (fQN q)).p vs W:=by
 obtain ⟨A,n,c,A',n',c',rfl⟩:=zCw h
 exact ⟨[_,_,_],rfl,rfl,zEU,rfl,h⟩
theorem zOo {m:Nat} {k:Int} {d:Nat} (v:Wa) (W:W8) (h:(fQV m k d).p v W): ∃vs:List Wa,v= .agg vs.toArray/\vs.length=3/\(∀u,u∈vs->u.oneCell'=true)/\vs.all yR=true/\(CU.agg (fQV m k d)).p vs W:=by
 obtain ⟨sg,A,n,c,A',n',c',rfl⟩:=zCv h
 exact ⟨[_,_,_],rfl,rfl,zEU,rfl,h⟩
theorem zIs {q:Rat} {m:Nat} {v:Wa} {W:W8} (h:QNp q v W) (hq:QB q m):QVp m q.num q.den v W:=by
 obtain ⟨b,s,t,e,h1,h2⟩:=h
 exact ⟨b,s,t,e,h1.uv' hq.1,h2.lv hq.2⟩
theorem zQ7 {m m':Nat} {k:Int} {d:Nat} {v:Wa} {W:W8} (h:QVp m k d v W) (hm:m<=m'):QVp m' k d v W:=by
 obtain ⟨b,s,t,e,h1,h2⟩:=h
 exact ⟨b,s,t,e,h1.mono hm,h2.mono hm⟩
theorem zVg (s:Bool) (A A':Wc Addr) (n n' c c':Nat):prog.built 27 [(0, .agg #[.bool s, .slice A n c]),(1, .slice A' n' c')]=some #[.bool s, .slice A n c, .slice A' n' c']:=by kernel_rfl
theorem zHY {u v:Wa} {W:W8} {q:Rat} (hu:NV W u q.num) (hv:y7 W v q.den): ∃cells,prog.built 27 [(0,u),(1,v)]=some cells/\QNp q (.agg cells) W:=by
 obtain ⟨A,n,c,rfl,h1⟩:=hu.nat
 obtain ⟨A',n',c',rfl⟩:=hv.form
 exact ⟨_,zVg _ _ _ _ _ _ _,_,_,_,rfl,hu,hv⟩
theorem zP5 {u v:Wa} {W:W8} {m:Nat} {k:Int} {d:Nat} (hu:UV W m u k) (hv:LV W m v d): ∃cells,prog.built 27 [(0,u),(1,v)]=some cells/\QVp m k d (.agg cells) W:=by
 obtain ⟨s,A,n,c,l,rfl,h1⟩:=id hu
 obtain ⟨A',n',c',rfl⟩:=hv.form
 exact ⟨_,zVg _ _ _ _ _ _ _,_,_,_,rfl,hu,hv⟩
theorem zUX:yA prog 23 1 [(0, .int .u32 1)]=some (73,#[.int .u32 1]):=by kernel_rfl
theorem zG1 {u:Wa} {W:W8} (hu:u= .int .u32 1): ∃e cs,yA prog 23 1 [(0,u)]=some (e,cs)/\y7 (W.alloc (.cells cs e)) (.slice (some ⟨W.heap.size,0,none⟩) 1 1) 1:=by
 subst hu
 refine ⟨_,_,zUX,_,1,1, [1],rfl,⟨fun y hy=>by simp at hy;subst hy;decide,fun hn=>by simp, ?_⟩,Rd.new W [1] _ _ (by simp [zBi]) (by simp)⟩
 show sm (lm [1]) 1=1
 simp [sm,lm]
theorem zUY (A:Wc Addr) (n c:Nat):prog.built 25 [(1, .slice A n c)]=some #[.bool false, .slice A n c]:=by kernel_rfl
theorem zNf {v:Wa} {W:W8} {x:Nat} (hv:y7 W v x): ∃cells,prog.built 25 [(1,v)]=some cells/\NV W (.agg cells) x:=by
 obtain ⟨A,n,c,l,rfl,h1,h2⟩:=hv
 refine ⟨_,zUY _ _ _,A,n,c,l,by rw [decide_eq_false oN],by rw [Int.natAbs_natCast];exact h1,h2⟩
theorem zVB (s:Bool) (A A':Wc Addr) (n n' c c':Nat):prog.built 84 [(0, .agg #[.bool s, .slice A n c, .slice A' n' c'])]=some #[.bool s, .slice A n c, .slice A' n' c']:=by kernel_rfl
theorem zNg {v:Wa} {W:W8} {m:Nat} {k:Int} {d:Nat} (hv:QVp m k d v W): ∃cells,prog.built 84 [(0,v)]=some cells/\QVp m k d (.agg cells) W:=by
 obtain ⟨sg,A,n,c,A',n',c',rfl⟩:=zCv hv
 exact ⟨_,zVB _ _ _ _ _ _ _,hv⟩
def QKp (k:Int) (d:Nat) (v:Wa) (w:W8):Prop:= ∃b s t,v= .agg #[b,s,t]/\NV w (.agg #[b,s]) k/\y7 w t d
def fQK (k:Int) (d:Nat):UF:= .mk' (QKp k d) fun _ _ _ ⟨b,s,t,e,h1,h2⟩ u=>⟨b,s,t,e,(fNV k).us _ _ _ h1 u,(yQ d).us _ _ _ h2 u⟩
theorem zSu {k:Int} {d m:Nat} {v:Wa} {W:W8} (h:QKp k d v W) (hk:Bd k m) (hd:d<BB^m):QVp m k d v W:=by
 obtain ⟨b,s,t,e,h1,h2⟩:=h
 exact ⟨b,s,t,e,h1.uv' hk,h2.lv hd⟩
theorem zSv {k:Int} {d:Nat} (cs:List Wa) (W:W8) (h:(CU.agg (fQK k d)).p cs W): ∃u,cs[2]?=some u/\y7 W u d:=by
 obtain ⟨b,s,t,e,_,h1⟩:=h
 rw [zAE e]
 exact ⟨t,rfl,h1⟩
theorem zFd {v:Wa} {W:W8} {x:Nat} (h:y7 W v x):v.cells=#[v]/\v.oneCell'=true/\yR v=true:=by
 obtain ⟨A,n,c,rfl⟩:=h.form
 exact ⟨rfl,rfl,rfl⟩
theorem zNQ {m:Nat} {k:Int} {d:Nat} {q:Rat} (v:Wa) (W:W8) (h:(fQN q).p v W):v.cells.size=3/\(∀u,u∈v.cells.toList->u.oneCell'=true)/\v.cells.toList.all yR=true/\ ∀cs,(CU.agg (fQV m k d)).p cs W->0+3<=cs.length/\(CU.agg (fQN q)).p (jQ cs 0 v.cells.toList) W:=by
 obtain ⟨A,n,c,A',n',c',rfl⟩:=zCw h
 refine ⟨rfl,zEU,rfl,fun cs hc=> ?_⟩
 obtain ⟨b,s,t,e,_⟩:=hc
 rw [zAE e]
 exact ⟨by simp,h⟩
theorem zQt {m:Nat} {k0 k:Int} {d:Nat} (v:Wa) (W:W8) (h:(fNV k).p v W):v.cells.size=2/\(∀u,u∈v.cells.toList->u.oneCell'=true)/\v.cells.toList.all yR=true/\ ∀cs,(CU.agg (fQV m k0 d)).p cs W->0+2<=cs.length/\(CU.agg (fQM m k d)).p (jQ cs 0 v.cells.toList) W:=by
 obtain ⟨A,n,c,rfl,h1⟩:=NV.nat h
 refine ⟨rfl,fun u hu=>by simp [Value.cells] at hu;rcases hu with rfl|rfl<;>rfl,rfl,fun cs hc=> ?_⟩
 obtain ⟨b,s,t,e,_,h2⟩:=hc
 rw [zAE e]
 exact ⟨by simp,_,_,t,rfl,h,h2⟩
theorem zIe {k0 k:Int} {d:Nat} (v:Wa) (W:W8) (h:(fNV k).p v W):v.cells.size=2/\(∀u,u∈v.cells.toList->u.oneCell'=true)/\v.cells.toList.all yR=true/\ ∀cs,(CU.agg (fQK k0 d)).p cs W->0+2<=cs.length/\(CU.agg (fQK k d)).p (jQ cs 0 v.cells.toList) W:=by
 obtain ⟨A,n,c,rfl,h1⟩:=NV.nat h
 refine ⟨rfl,fun u hu=>by simp [Value.cells] at hu;rcases hu with rfl|rfl<;>rfl,rfl,fun cs hc=> ?_⟩
 obtain ⟨b,s,t,e,_,h2⟩:=hc
 rw [zAE e]
 exact ⟨by simp,_,_,t,rfl,h,h2⟩
theorem zLi {k:Int} {d0 d:Nat} (v:Wa) (W:W8) (h:(yQ d).p v W):v.cells.size=1/\(∀u,u∈v.cells.toList->u.oneCell'=true)/\v.cells.toList.all yR=true/\ ∀cs,(CU.agg (fQK k d0)).p cs W->2+1<=cs.length/\(CU.agg (fQK k d)).p (jQ cs 2 v.cells.toList) W:=by
 obtain ⟨h1,h2,h3⟩:=zFd h
 rw [h1]
 refine ⟨rfl,fun u hu=>by simp at hu;rw [hu];exact h2,by simp [h3],fun cs hc=> ?_⟩
 obtain ⟨b,s,t,e,h4,_⟩:=hc
 rw [zAE e]
 exact ⟨by simp,b,s,v,rfl,h4,h⟩
theorem zR6 {m:Nat} {k:Int} {x d:Nat} (v:Wa) (W:W8) (h:(yQ x).p v W):v.cells.size=1/\(∀u,u∈v.cells.toList->u.oneCell'=true)/\v.cells.toList.all yR=true/\ ∀cs,(CU.agg (fQM m k d)).p cs W->1+1<=cs.length/\(CU.agg (fQA m (decide (k<0)) x d)).p (jQ cs 1 v.cells.toList) W:=by
 obtain ⟨h1,h2,h3⟩:=zFd h
 rw [h1]
 refine ⟨rfl,fun u hu=>by simp at hu;rw [hu];exact h2,by simp [h3],fun cs hc=> ?_⟩
 obtain ⟨b,s,t,e,h4,h5⟩:=hc
 obtain ⟨A,n,c,rfl,rfl⟩:=h4.form
 rw [zAE e]
 exact ⟨by simp,v,t,rfl,h,h5⟩
theorem zR5 {m:Nat} {sg:Bool} {q:Rat} {x y d:Nat} (hs:sg=decide (q.num<0)) (hx:x=q.num.natAbs) (hy:y=q.den) (v:Wa) (W:W8) (h:(yQ y).p v W):v.cells.size=1/\(∀u,u∈v.cells.toList->u.oneCell'=true)/\v.cells.toList.all yR=true/\ ∀cs,(CU.agg (fQA m sg x d)).p cs W->2+1<=cs.length/\(CU.agg (fQN q)).p (jQ cs 2 v.cells.toList) W:=by
 obtain ⟨h1,h2,h3⟩:=zFd h
 rw [h1]
 refine ⟨rfl,fun u hu=>by simp at hu;rw [hu];exact h2,by simp [h3],fun cs hc=> ?_⟩
 obtain ⟨s,t,e,h4,_⟩:=hc
 rw [zAE e]
 refine ⟨by simp, .bool sg,s,v,rfl, ?_,by rw [<-hy];exact h⟩
 obtain ⟨A,n,c,l,rfl,g1,g2⟩:=h4
 exact ⟨A,n,c,l,by rw [hs],by rw [<-hx];exact g1,g2⟩
def RVp (m:Nat) (q:Rat) (v:Wa) (w:W8):Prop:= ∃k d,QVp m k d v w/\mkRat k d=q
def fRV (m:Nat) (q:Rat):UF:= .mk' (RVp m q) fun _ _ _ ⟨k,d,h,e⟩ u=>⟨k,d,(fQV m k d).us _ _ _ h u,e⟩
theorem wD {m:Nat} {q:Rat} {v:Wa} {W:W8} (h:QNp q v W) (hq:QB q m):RVp m q v W:=⟨_,_,zIs h hq,Rat.mkRat_self q⟩
theorem RVp.mono {m m':Nat} {q:Rat} {v:Wa} {W:W8} (h:RVp m q v W) (hm:m<=m'):RVp m' q v W:=by
 obtain ⟨k,d,h1,h2⟩:=h
 exact ⟨k,d,zQ7 h1 hm,h2⟩
theorem RVp.qb {m:Nat} {q:Rat} {v:Wa} {W:W8} (h:RVp m q v W) (hm:0<m):QB q m:=by
 obtain ⟨k,d,⟨b,s,t,_,h1,h2⟩,rfl⟩:=h
 exact vD h1.bd h2.bound hm
theorem zT (m:Nat) (q:Rat): ∀cs:List Wa, ∀W,(fRV m q).p (.agg cs.toArray) W->cs.length=3:=fun cs W ⟨k,d,h,_⟩=>zPB m k d cs W h
theorem y6 {m:Nat} {q:Rat} {v:Wa} {W:W8} (h:(fRV m q).p v W):(CU.agg (fRV m q)).p v.cells.toList W/\v.cells.toList.all yR=true:=by
 obtain ⟨k,d,h1,h2⟩:=h
 obtain ⟨g1,g2⟩:=zDA h1
 exact ⟨⟨k,d,g1,h2⟩,g2⟩
theorem zEO {P:Wf} {f:FuncId} {args:Array Wa} {W:W8} {u:Wa} (h:Calls P f args W fun e w'=>e= .returned u/\Below W.heap.size W w'):Calls P f args W (Ret W (UF.eq u).tS):=h.mono fun _ _ ⟨h1,h2⟩=>⟨u,h1,rfl,h2⟩
attribute [local go_sem] Oper.semAt_some qF yI
theorem zVy {W:W8} (k:Int) (h: -9223372036854775808<=k/\k<=9223372036854775807):Calls prog 64 #[.int .i64 k] W (zGO W k):=
 (zI6 k h.1 h.2 W).mono fun _ _=>qS.v
def zTJ (w:W8) (a b:Int):Ending->W8->Prop:=fun e w'=> ∃q r v1 v2,e= .returned (.tuple #[v1,v2, .int .i64 0])/\a=q*b+r/\jO r b/\NV w' v1 q/\NV w' v2 r/\Below w.heap.size w w'
def SF.row (z:Nat) (Cs:List CU):SF:=⟨fun v W=> ∃A c,v= .slice A Cs.length c/\Cs.length<=c/\c<=9223372036854775807/\(A=none->c=0)/\ ∀i C,Cs[i]?=some C-> ∃b o cs,A=some ⟨b,o,none⟩/\Mem W b (o+i*z) cs/\C.p cs W,
 fun _ _ _ ⟨A,c,h1,h2,h3,h4,h5⟩ hb=>⟨A,c,h1,h2,h3,h4,fun i C hi=>let ⟨b,o,cs,g1,g2,g3⟩:=h5 i C hi;⟨b,o,cs,g1,g2.below hb,C.us _ _ _ g3 (yN hb)⟩⟩⟩
theorem yT {z:Nat} {Cs:List CU} {l v:Wa} {W0 W:W8} (hl:(SF.row z Cs).p l W0) (h:v=l) (hb:Below W0.heap.size W0 W):(SF.row z Cs).p v W:=by subst h;exact (SF.row z Cs).st _ _ _ hl hb
def zAM (P:Wf) (t:Wb):Wc Nat:=match P.underlying t with
 |some (.slice e)=>(P.info? e).map (·.size)
 |_=>none
section
variable {F:Fence} {m:Nat} {P:Wf} {w0:W8} {ops:Array Oper} {G:Nat->SF} {d:Tmp} {ty:Wb} {pos:String} {aft:Array Edge}
theorem zA0 {x y:We} {t:Wb} {z:Nat} {Cs:List CU} {i:Nat} {C:CU} (hz:zAM P t=some z) (hi:Cs[i]?=some C) (hx: ∀v W,(fct G x).p v W->(SF.row z Cs).p v W) (hy: ∀v W,(fct G y).p v W->v= .int .i64 (i:Int)) (hd: ∀v W,(wB C.cf).p v W->(G d).p v W:=by exact fun _ _ h=>h):qX F m P w0 ops G ⟨some d, .indexAddr t x y,ty,pos,aft,none⟩:=
 jG (fun _ e=>by cases e) (fun _ e=>by cases e) fun b W hb hh=>by
  obtain ⟨A,c,e,h2,h3,h4,h5⟩:=hx _ _ (hh x (by simp [Op.operands]))
  have e2:=hy _ _ (hh y (by simp [Op.operands]))
  obtain ⟨b',o,cs,rfl,h6,h7⟩:=h5 i C hi
  have hlt:i<Cs.length:=(pZ.1 hi).1
  unfold zAM at hz
  split at hz<;>try cases hz
  rename_i e' hu
  cases hin:P.info? e' with
  |none=>rw [hin] at hz;cases hz
  |some ie=>
   rw [hin] at hz
   simp only [Option.map_some,sH] at hz
   have hel:P.elem t=e':=by simp [Program.elem,hu]
   refine ⟨.pointer (some ⟨b',o+i*z,none⟩), ?_,hd _ _ ⟨b',o+i*z,cs,rfl,h7,h6⟩⟩
   have hb1:(0:Int)<=(i:Int)/\(i:Int)<(Cs.length:Nat):=by omega
   simp only [execOp,e,e2]
   rw [rH,run_indexAt_slice _ _ _ _ _ _ _ (by rw [hel];exact hu),if_pos hb1,hel]
   simp [sizeOf,typeInfo,hin,hz,rG]
def SF.imp (c:Prop) (f:SF):SF:=⟨fun v W=>c->f.p v W,fun _ _ _ h hb hc=>f.st _ _ _ (h hc) hb⟩
theorem zQ {op:Op} (L:List (Nat×SF)) (f:SF) (hL: ∀q,q∈L-> ∀v W,(G q.1).p v W->q.2.p v W) (hd: ∀v W,f.p v W->(G d).p v W) (hnd:(!(zC9 ⟨some d,op,ty,pos,aft,none⟩).contains d&& !(L.map (·.1)).contains d)=true)
  (h:qX F m P w0 ops (upd (upd G [(d,f)]) L) ⟨some d,op,ty,pos,aft,none⟩):qX F m P w0 ops G ⟨some d,op,ty,pos,aft,none⟩:=by
 rw [pL] at hnd
 intro b W K Q hb hr hK
 refine h b W K Q hb (fun t ht=> ?_) fun v W' hv hb'=>hK v W' (fun d' e=> ?_) hb'
 ·have hne:Nat.beq d t=false:=by
   cases e:Nat.beq d t with
   |false=>rfl
   |true=>
    have:=rA e
    subst this
    have h1:=hnd.1
    rw [rN.2 ht] at h1
    cases h1
  have key: ∀l:List (Nat×SF),(∀q,q∈l-> ∀v W,(G q.1).p v W->q.2.p v W)->(upd (upd G [(d,f)]) l t).p (b.tmps.getD t undef) W:=by
   intro l
   induction l with
   |nil=>
    intro _
    show (bif Nat.beq d t then f else G t).p _ _
    rw [hne]
    exact hr t ht
   | cons q l ih=>
    intro hl
    show (bif Nat.beq q.1 t then q.2 else upd (upd G [(d,f)]) l t).p _ _
    cases e:Nat.beq q.1 t with
    |true=>
     have e2:=rA e
     exact hl q (by simp) _ _ (by rw [e2];exact hr t ht)
    |false=>exact ih fun x hx=>hl x (by simp [hx])
  exact key L hL
 ·cases e
  have h1:=hv d rfl
  rw [zAA (by simpa using hnd.2)] at h1
  have h2:(bif Nat.beq d d then f else G d).p v W':=h1
  rw [show Nat.beq d d=true from rO d] at h2
  exact hd v W' h2
theorem jM {b c:Bool} {v:Wa} (h:v= .bool c) (e:b=true):v= .bool (b&&c):=by rw [e];exact h
theorem qV {b c:Bool} {v:Wa} (h:v= .bool false) (e:b=false):v= .bool (b&&c):=by rw [e];exact h
theorem zCz {b c:Bool} {v:Wa} (h:v= .bool true) (e:b=true):v= .bool (b||c):=by rw [e];exact h
theorem zBJ {b c:Bool} {v:Wa} (h:v= .bool c) (e:b=false):v= .bool (b||c):=by rw [e];exact h
theorem zO {op:BinOp} {t:Wb} {x y:We} {t':Wb} (k:IntKind) (u v:Int) (r:Bool) (hx: ∀q W,(fct G x).p q W->q= .int k u) (hy: ∀q W,(fct G y).p q W->q= .int k v) (hr:(match op with| .eql=>u==v| .neq=>u !=v| .lss=>decide (u<v)| .leq=>decide (u<=v)| .gtr=>decide (u>v)| .geq=>decide (u≥v)|_=>false)=r) (ho:(match op with| .eql| .neq| .lss| .leq| .gtr| .geq=>true|_=>false)=true) (hd: ∀W,(G d).p (.bool r) W:=by exact fun _=>rfl):qX F m P w0 ops G ⟨some d, .binOp op t x y t',ty,pos,aft,none⟩:=
 zAC (.int k u) (.int k v) (.bool r) hx hy (fun W=>by cases op<;>simp [eqGuard]) (fun W=>by
  cases op<;>first
   |exact absurd ho Bool.false_ne_true
   |(subst hr;simp [binOp,Op.intCmp])) hd
theorem yM {t:Wb} {x y:We} {t':Wb} (k:IntKind) (u v r:Int) (hx: ∀q W,(fct G x).p q W->q= .int k u) (hy: ∀q W,(fct G y).p q W->q= .int k v) (hr:k.wrap (u+v)=r) (hd: ∀W,(G d).p (.int k r) W:=by exact fun _=>rfl):qX F m P w0 ops G ⟨some d, .binOp .add t x y t',ty,pos,aft,none⟩:=
 zAC (.int k u) (.int k v) (.int k r) hx hy (fun W=>by simp [eqGuard]) (fun W=>by simp [binOp,Op.intArith,hr]) hd
theorem zRe {x y:We} {ats:Array Wb} (u v:Int) (hx: ∀q W,(fct G x).p q W->q= .int .i64 u) (hy: ∀q W,(fct G y).p q W->q= .int .i64 v) (hd: ∀W,(G d).p (.int .i64 (min u v)) W:=by exact fun _=>rfl):qX F m P w0 ops G ⟨some d, .call ⟨.builtin .min,#[x,y],ats⟩,ty,pos,aft,none⟩:=by
 intro b W K Q hb hr hK
 have e1:=hx _ _ (qK hr (x:=x) (by simp [Op.operands,Call.operands]))
 have e2:=hy _ _ (qK hr (x:=y) (by simp [Op.operands,Call.operands]))
 refine ⟨fun f hf=>(by
  unfold Oper.about at hf
  simp [resolve,go_sem] at hf), ?_⟩
 rw [pP _ _ _ (fun _ e=>by cases e)]
 have:(execOp b.eval ⟨some d, .call ⟨.builtin .min,#[x,y],ats⟩,ty,pos,aft,none⟩).run P W= .ok (.value (.int .i64 (min u v))) W:=by
  have h:min u v=if v<u then v else u:=by split<;>omega
  simp [execOp,resolve,invoke,builtin,e1,e2,Builtin.min_,Builtin.min2,h]
 rw [this]
 exact hK _ _ (fun d' e'=>by cases e';exact hd _) (pM _ _)
theorem zDc {x:We} {t:Wb} {z:Nat} {Cs:List CU} (ht:P.underlying t=some (.slice (P.elem t))) (hx: ∀v W,(fct G x).p v W->(SF.row z Cs).p v W:=by exact fun _ _ h=>h) (hd: ∀W,(G d).p (.int .i64 (Cs.length:Nat)) W:=by exact fun _=>rfl):qX F m P w0 ops G ⟨some d, .call ⟨.builtin .len,#[x],#[t]⟩,ty,pos,aft,none⟩:=
 zC4 ht fun v W h=>by
  obtain ⟨A,c,e,_⟩:=hx v W h
  exact ⟨A,Cs.length,c,e,hd W⟩
end
section
variable {S:Nat->Prop} {F:Fence} {m:Nat} {P:Wf} {Q:Exit->Act->W8->Prop} {w0:W8} {K:List (Nat×KF)} {B:List Bx} {n:Nat} {ds:List Deferred} {a:Act} {w:W8}
theorem zQs {c:Code} (N i:Nat) (Kf:Nat->List (Nat×KF)) (hi: ∀k,(i,KF.u (fI (k:Nat)))∈Kf k) (h0:StS S w0 (Kf 0) B n ds a w)
  (round: ∀k a w,k<=N->StS S w0 (Kf k) B n ds a w->c.wpIn F m P (Exit.then (fun a' w'=>k<N/\StS S w0 (Kf (k+1)) B n ds a' w') Q) a w):(Code.loop c).wpIn F m P Q a w:=by
 refine wpIn_loop (fun a w=> ∃k,k<=N/\StS S w0 (Kf k) B n ds a w) (fun a _=>N+1 - (match a.tmps.getD i undef with| .int _ z=>z.toNat|_=>0)) ⟨0,Nat.zero_le _,h0⟩ ?_
 rintro a w ⟨k,hk,hA⟩
 refine Code.wpIn_mono ?_ (round k a w hk hA)
 intro e a' w' h
 cases e with
 |normal=>
  obtain ⟨h1,h2⟩:k<N/\StS S w0 (Kf (k+1)) B n ds a' w':=h
  refine ⟨⟨k+1,h1,h2⟩, ?_⟩
  have e1:a.tmps.getD i undef= .int .i64 (k:Nat):=hA.sl _ (hi k)
  have e2:a'.tmps.getD i undef= .int .i64 ((k+1:Nat):Int):=h2.sl _ (hi (k+1))
  simp only [e1,e2,Int.toNat_natCast]
  have h3:N+1 - (k+1)<N+1 - k:=by omega
  exact h3
 |_=>exact h
end
theorem zLS {W:W8} {m:Nat} {v:Wa} {k:Int} (h:UV W m v k) (hm:m<=90000):Calls prog 32 #[v] W (zGO W (-k)):=by
 obtain ⟨s,A,n,c,l,rfl,h1,h2,h3,rfl⟩:=h
 exact (zHh s A n c l W h1 h2 oN).mono fun _ _=>qS.v
theorem j5 {W:W8} {m:Nat} {v:Wa} {k:Int} (h:UV W m v k) (hm:m<=90000):Calls prog 30 #[v] W (zGO W k):=by
 obtain ⟨s,A,n,c,l,rfl,h1,h2,h3,rfl⟩:=h
 exact (zAq s A n c l W h1 h2 oN).mono fun _ _=>qS.v
theorem zJs {W:W8} {m:Nat} {v:Wa} {k:Int} (h:UV W m v k) (hm:m<=90000):Calls prog 15 #[v] W fun e w'=>e= .returned (.int .i64 k.sign)/\Below W.heap.size W w':=by
 obtain ⟨s,A,n,c,l,rfl,h1,h2,h3,rfl⟩:=h
 exact zFJ s A n c l W h1 h2 oN
theorem zD7 {W:W8} {m:Nat} {v v':Wa} {k k':Int} (h:UV W m v k) (h':UV W m v' k') (hm:m<=90000):Calls prog 16 #[v,v'] W (zGO W (k - k')):=by
 obtain ⟨s,A,n,c,l,rfl,h1,h2,h3,rfl⟩:=h
 obtain ⟨s',A',n',c',l',rfl,h1',h2',h3',rfl⟩:=h'
 exact (zHg s A n c l s' A' n' c' l' W h1 h2 h1' h2' m h3 h3' hm).mono fun _ _=>qS.v
theorem zQ4 {W:W8} {m:Nat} {v v':Wa} {k k':Int} (h:UV W m v k) (h':UV W m v' k') (hm:m<=90000):Calls prog 141 #[v,v'] W fun e w'=>e= .returned (.int .i64 (k - k').sign)/\Below W.heap.size W w':=by
 obtain ⟨s,A,n,c,l,rfl,h1,h2,h3,rfl⟩:=h
 obtain ⟨s',A',n',c',l',rfl,h1',h2',h3',rfl⟩:=h'
 exact zLU s A n c l s' A' n' c' l' W h1 h2 h1' h2' m h3 h3' hm
theorem zPz {W:W8} (k:Int) (h: -9223372036854775808<=k/\k<=9223372036854775807):Calls prog 27 #[.int .i64 k] W (zGO W k):=
 (zJt k h.1 h.2 W).mono fun _ _=>qS.v
theorem zLV {W:W8} {m:Nat} {v:Wa} {ks:List Int} {k:Int} (h:ISV W m v ks) (hm:m<=2000) (hn:ks.length<=1000) (hk:ks.sum=k):Calls prog 31 #[v] W (zGO W k):=by
 obtain ⟨is,h1,h2⟩:=h
 have hl:is.length=ks.length:=by rw [<-h2,List.length_map]
 obtain ⟨A,c,e,h3,h4,h5⟩:=h1
 have hb: ∀j,j<=is.length->(zDZ is j).natAbs<BB^(m+1000):=by
  intro j hj
  have key: ∀j,Bd (zDZ is j) (m+j):=by
   intro j
   induction j with
   |zero=>exact Nat.pow_pos y4
   |succ j ih=>
    have e1:zDZ is (j+1)=zDZ is j+zEd is j:=rfl
    rw [e1]
    exact (ih.add ((show Bd (zEd is j) m from zGw h5 j).mono oN)).mono oN
  exact (key j).mono oN
 have:=zQ5 (m+1000) (⟨A,c,e,h3,h4,h5⟩:IS W m v is) oN oN oN hb
 rw [zFh is is.length (pS _),List.take_length,h2,hk] at this
 exact this
theorem zBA {W:W8} {m:Nat} {v:Wa} {ks:List Int} {k:Int} (h:ISV W m v ks) (hn:m*ks.length+m+1<=40000) (hk:ks.foldl (·*·) 1=k) (hl:ks.length<=1000):Calls prog 17 #[v] W (zGO W k):=by
 obtain ⟨is,h1,h2⟩:=h
 have hl2:is.length=ks.length:=by rw [<-h2,List.length_map]
 obtain ⟨A,c,e,h3,h4,h5⟩:=h1
 have:=zQY (m*ks.length+m+1) (⟨A,c,e,h3,h4,h5⟩:IS W m v is) oN oN oN (fun k hk=>(zGx h5 k).mono (by
  have:m*k<=m*ks.length:=Nat.mul_le_mul_left _ oN
  omega))
 rw [zEe is is.length (pS _),List.take_length,h2,hk] at this
 exact this
end Go.Proofs.Wd

namespace Go.Proofs.Wd
open Tryz
open Go.RowKit
section
variable {S:Nat->Prop} {w0:W8} {K:List (Nat×KF)} {B:List Bx} {n:Nat} {ds:List Deferred} {a:Act} {w:W8}
theorem zL {c:Prop} {f:SF} {v:Wa} {W:W8} (e:c) (h:(SF.imp c f).p v W):f.p v W:=h e
variable {F:Fence} {m:Nat} {P:Wf} {ops:Array Oper} {Q:Exit->Act->W8->Prop}
end
theorem zFg {p:Nat->Prop}: ∀n,p n-> ∃s,p s/\ ∀k,k<s-> ¬p k:=by
 intro n
 induction n using Nat.strongRecOn with
 | _ n ih=>
  intro hn
  by_cases h: ∃k,k<n/\p k
  ·obtain ⟨k,hk,hp⟩:=h
   exact ih k hk hp
  ·exact ⟨n,hn,fun k hk hp=>h ⟨k,hk,hp⟩⟩
section
variable {S:Nat->Prop} {F:Fence} {m:Nat} {P:Wf} {Q:Exit->Act->W8->Prop} {w0:W8} {K:List (Nat×KF)} {B:List Bx} {n:Nat} {ds:List Deferred} {a:Act} {w:W8}
theorem zI5 {σ:Type} {c:Code} (I:σ->Prop) (Kf:σ->List (Nat×KF)) (Bf:σ->List Bx) (Df:σ->List Deferred) (mu:σ->Nat) (x0:σ) (hI:I x0) (h0:StS S w0 (Kf x0) (Bf x0) n (Df x0) a w)
  (round: ∀x a w,I x->StS S w0 (Kf x) (Bf x) n (Df x) a w->c.wpIn F m P (Exit.then (fun a' w'=> ∃y,I y/\mu y<mu x/\StS S w0 (Kf y) (Bf y) n (Df y) a' w') Q) a w):(Code.loop c).wpIn F m P Q a w:=by
 have low: ∀a w,(∃k, ∃x,I x/\mu x=k/\StS S w0 (Kf x) (Bf x) n (Df x) a w)-> ∃k,(∃x,I x/\mu x=k/\StS S w0 (Kf x) (Bf x) n (Df x) a w)/\ ∀j,j<k-> ¬ ∃x,I x/\mu x=j/\StS S w0 (Kf x) (Bf x) n (Df x) a w:=
  fun a w ⟨k,hk⟩=>zFg k hk
 open Classical in
 refine wpIn_loop (fun a w=> ∃k, ∃x,I x/\mu x=k/\StS S w0 (Kf x) (Bf x) n (Df x) a w) (fun a w=>if h: ∃k, ∃x,I x/\mu x=k/\StS S w0 (Kf x) (Bf x) n (Df x) a w then Classical.choose (low a w h) else 0) ⟨_,x0,hI,rfl,h0⟩ ?_
 rintro a w hA
 have e0:=rT (low a w hA)
 obtain ⟨x,hx,hm,hst⟩:=e0.1
 refine Code.wpIn_mono ?_ (round x a w hx hst)
 intro e a' w' h
 cases e with
 |normal=>
  obtain ⟨y,h1,h2,h3⟩: ∃y,I y/\mu y<mu x/\StS S w0 (Kf y) (Bf y) n (Df y) a' w':=h
  have hA': ∃k, ∃x,I x/\mu x=k/\StS S w0 (Kf x) (Bf x) n (Df x) a' w':=⟨_,y,h1,rfl,h3⟩
  refine ⟨hA', ?_⟩
  simp only [dif_pos hA,dif_pos hA']
  have e1:=rT (low a' w' hA')
  have:Classical.choose (low a' w' hA')<=mu y:=Nat.not_lt.1 fun hlt=>e1.2 _ hlt ⟨y,h1,rfl,h3⟩
  omega
 |_=>exact h
theorem zGW {σ:Type} {c:Code} (t:Nat) (Cf:σ->CU) (I:σ->Prop) (Kf:σ->List (Nat×KF)) (mu:σ->Nat) (x0:σ) (hI:I x0) (h0:StS S w0 (Kf x0) B n ds a w) (hB:zF6 B t (Cf x0)=B)
  (round: ∀x a w,I x->StS S w0 (Kf x) (zF6 B t (Cf x)) n ds a w->c.wpIn F m P (Exit.then (fun a' w'=> ∃y,I y/\mu y<mu x/\StS S w0 (Kf y) (zF6 B t (Cf y)) n ds a' w') Q) a w):(Code.loop c).wpIn F m P Q a w:=
 zI5 I Kf (fun x=>zF6 B t (Cf x)) (fun _=>ds) mu x0 hI (by rw [hB];exact h0) round
theorem q8 {σ:Type} {c:Code} (I:σ->Prop) (Kf:σ->List (Nat×KF)) (mu:σ->Nat) (x0:σ) (hI:I x0) (h0:StS S w0 (Kf x0) B n ds a w)
  (round: ∀x a w,I x->StS S w0 (Kf x) B n ds a w->c.wpIn F m P (Exit.then (fun a' w'=> ∃y,I y/\mu y<mu x/\StS S w0 (Kf y) B n ds a' w') Q) a w):(Code.loop c).wpIn F m P Q a w:=
 zI5 I Kf (fun _=>B) (fun _=>ds) mu x0 hI h0 round
theorem StS.popB {x:Bx} (h:StS S w0 K (x::B) n ds a w):StS S w0 K B n ds a w:=⟨h.gr,h.size,h.nd,h.sl,h.bx.2,h.mks,h.so⟩
theorem StS.renew (h:St w0 K B n ds a w) (K':List (Nat×KF)) (hK: ∀q,q∈K'->q∈K∨ ∃g,q.2=KF.u g/\(q.1,KF.o g.tS)∈K):St w0 K' B n ds a w:=
 ⟨h.gr,h.size,h.nd,fun q hq=>by
  rcases hK q hq with h1|⟨g,e,h1⟩
  ·exact h.sl q h1
  ·have:=h.sl _ h1
   rw [e]
   exact g.us _ _ _ this (yN h.gr.below),h.bx,h.mks, .inr fun _ h=>h⟩
end
end Go.Proofs.Wd

namespace Go.Proofs.Wd
open Tryz
open Go.RowKit
structure NewB where
 i:Nat
 d:Nat
 e:Wb
 cs:List Wa
 f:SF
def SF.isIn (f:SF) (L:List (Nat×SF)) (d:Nat):Prop:=(d,f)∈L
def zNv (al:List NewB) (a:Act):Prop:= ∀q q',q∈al->q'∈al->q.i≠q'.i-> ∀b b',blk (a.tmps.getD q.d undef)=some b->blk (a.tmps.getD q'.d undef)=some b'->b≠b'
section
variable {S:Nat->Prop} {w0:W8} {K:List (Nat×KF)} {B:List Bx} {n:Nat} {ds:List Deferred} {a:Act} {w:W8} {F:Fence} {m:Nat} {P:Wf} {ops:Array Oper} {Q:Exit->Act->W8->Prop}
theorem jI {te:Wb} {cs:List Wa} {W:W8} {C:CU} (hC: ∀W,C.p cs W) (hn:cs.all yR=true) (v:Wa) (w:W8) (h:(wT W te cs).p v w):(wH W te C).p v w:=by
 obtain ⟨b,h1,h2,h3⟩:=h
 exact ⟨b,cs,h1,h2,h3,hC w,hn⟩
theorem StS.adoptA (h:StS S w0 K B n ds a w) {W:W8} {te:Wb} {C:CU} (r:Bool) (t:Nat) (hv:(wH W te C).p (a.tmps.getD t undef) w) (hW:BlS S w0 W) (hB: ∀y,y∈B->y.b<W.heap.size∨(r=true/\y.r=true)∨ ∀b,blk (a.tmps.getD t undef)=some b->y.b≠b): ∃b,W.heap.size<=b/\blk (a.tmps.getD t undef)=some b/\StS S w0 K (⟨t,te,C,b,r⟩::B) n ds a w:=by
 obtain ⟨b,cs,h1,h2,h3,h4,h5⟩:=hv
 refine ⟨b,h2,by rw [h1];rfl,h.gr,h.size,h.nd,h.sl,⟨⟨cs,h1, .inr (.inl (pK hW.size h2)),h3,h4,h5,fun y hy=> ?_⟩,h.bx⟩,h.mks,h.so⟩
 rcases hB y hy with e|e|e
 ·left
  show y.b≠b
  omega
 ·exact .inr e
 ·exact .inl (e b (by rw [h1];rfl))
end
/-! ### Answers of a function that ranges over functions -/
section
variable {S:Nat->Prop} {F:Fence} {m:Nat} {P:Wf} {Q:Exit->Act->W8->Prop} {w0:W8} {K:List (Nat×KF)} {B:List Bx} {n:Nat} {ds:List Deferred} {a:Act} {w:W8}
theorem wX {W W':W8} (hk:zAo W W'): ∀(B:List Bx),(∀x,x∈B->W'.heap[x.b]?=W.heap[x.b]?)->qW S w0 a W B->qW S w0 a W' B
 | [],_,_=>trivial
 |x::B,hs,h=>by
  obtain ⟨⟨cs,h1,h2,h3,h4,h5⟩,hr⟩:=h
  exact ⟨⟨cs,h1,h2,(hs x (List.mem_cons_self ..)).trans h3,x.c.us _ _ _ h4 hk,h5⟩,wX hk B (fun y hy=>hs y (List.mem_cons_of_mem _ hy)) hr⟩
theorem zKX {W:W8} {b:Nat} {cs:List Wa} {t:Wb} {z:Nat×Nat} (h3:W.heap[b]?=some (.cells cs.toArray t z)) (h5:cs.all yR=true) {q:Addr} (hq:q.block=b) {u:Wa} (hu:W.cell? q=some u):yR u=true:=by
 have h6:W.cell? q=if q.spot.isSome then none else cs.toArray[q.off]?:=by
  unfold World.cell?
  rw [hq,h3]
 rw [h6] at hu
 split at hu
 ·cases hu
 ·exact pI.1 h5 _ (List.mem_of_getElem? (by simpa using hu))
def zSX:KF->Bool
 | .u _=>true
 | .o _=>false
end
section
variable {F:Fence} {n:Nat} {P:Wf} {ops:Array Oper} {Q:Exit->Act->W8->Prop}
def zCL (ops:Array Oper) (i:Nat):Array Bool:=((List.range ops.size).map fun j=>zC5 ops ops.size j i).toArray
theorem zO5 {i:Nat} {listed:Array Bool} (hs: ∀j,j<ops.size->zC5 ops ops.size j i=true->listed.getD j true=true) (h:Region.free .any ops (zCL ops i) i=true):Region.free .any ops listed i=true:=by
 unfold Region.free at h ⊢
 split at h
 ·exact h
 ·refine pI.2 fun j hj=> ?_
  have h1:=pI.1 h j hj
  have h2:(zCL ops i).getD j true=zC5 ops ops.size j i:=by
   unfold zCL
   rw [pQ]
   simp [pJ.1 hj]
  rw [h2] at h1
  cases hc:zC5 ops ops.size j i with
  |true=>rw [hs j (pJ.1 hj) hc,Bool.or_true,rU]
  |false=>
   rw [hc,Bool.or_false] at h1
   rw [Bool.or_assoc,Bool.or_comm (listed.getD j true), <-Bool.or_assoc,h1,rU]
theorem zMS {i:Nat} {o:Oper} {a:Act} {w:W8} {K:Act->W8->Prop} (ho:ops[i]?=some o) (hfl:zDR ops i=true) (h:wpOpIn F n P ops (jW Q) i K a w): ∃d v,o.dst=some d/\zAf P ops (fun _=>True) o v a/\K (a.put (some d) v) w:=by
 unfold zDR at hfl
 rw [ho] at hfl
 unfold wpOpIn at h
 rw [ho] at h
 split at hfl
 ·rename_i d x ty pos aft he
  cases he
  refine ⟨d,a.eval x,rfl,⟨.inl ⟨rfl,fun w _=>rfl⟩,fun w=>rfl⟩, ?_⟩
  have h2:=h.2
  rw [pP _ _ _ (fun _ e=>by cases e)] at h2
  exact h2
 ·rename_i d x j ty pos aft he
  cases he
  have h2:=h.2
  rw [pP _ _ _ (fun _ e=>by cases e)] at h2
  cases hrun:(Instr.extract (a.eval x) j).run P w with
  |halt y w'=>
   have he:(execOp a.eval ⟨some d, .extract x j,ty,pos,aft,none⟩).run P w= .halt y w':=by simp [execOp,hrun]
   rw [he] at h2
   cases y<;>exact h2.elim
  | ok v w'=>
   have hw:w'=w:=by
    unfold Instr.extract at hrun
    split at hrun
    ·split at hrun
     ·simp at hrun;exact hrun.2.symm
     ·simp at hrun
    ·simp at hrun
   subst hw
   have he:(execOp a.eval ⟨some d, .extract x j,ty,pos,aft,none⟩).run P w'= .ok (.value v) w':=by simp [execOp,hrun]
   rw [he] at h2
   exact ⟨d,v,rfl,⟨.inl ⟨rfl,fun w _=>by simp [execOp,zCq _ _ _ w hrun]⟩,fun w=>rfl⟩,h2⟩
 ·cases hfl
theorem zKm {CW:W8->Prop} {i:Nat} {o:Oper} {v:Wa} {a:Act} {w:W8} {K:Act->W8->Prop} (ho:ops[i]?=some o) (hpl:zAr ops=true) (hy:zAf P ops CW o v a) (hw:CW w) (h:wpOpIn F n P ops Q i K a w):K (a.put o.dst v) w:=by
 unfold wpOpIn at h
 simp only [ho] at h
 rcases hy.1 with ⟨hw',hv⟩|⟨hw',rfl⟩
 ·simp only [hw',if_true,Oper.wpIn,pP _ _ _ (zB2 hpl ho),hv w hw,Oper.uponIn] at h
  exact h.2
 ·simp only [hw',Bool.false_eq_true,if_false] at h
  exact h.2
end
def inL:List Nat->Nat->Bool
 | [],_=>false
 |k::l,i=>bif Nat.beq k i then true else inL l i
theorem zFk (l m:List Nat) (i:Nat):inL (l++m) i=(inL l i||inL m i):=by
 induction l with
 |nil=>rfl
 |cons k l ih=>
  show (bif Nat.beq k i then true else inL (l++m) i)=((bif Nat.beq k i then true else inL l i)||inL m i)
  cases Nat.beq k i with
  |true=>rfl
  |false=>exact ih
theorem zIK {l:List Nat} {i:Nat} (h:inL l i=true):i∈l:=by
 induction l with
 |nil=>cases h
 |cons k l ih=>
  have h:(bif Nat.beq k i then true else inL l i)=true:=h
  cases e:Nat.beq k i with
  |true=>rw [rA e];exact List.mem_cons_self ..
  |false=>rw [e] at h;exact List.mem_cons_of_mem _ (ih h)
theorem zML {l:List Nat} {i:Nat} (h:i∈l):inL l i=true:=by
 induction l with
 |nil=>cases h
 |cons k l ih=>
  show (bif Nat.beq k i then true else inL l i)=true
  rcases rI.1 h with rfl|h
  ·rw [rO];rfl
  ·rw [ih h];cases Nat.beq k i<;>rfl
def lst (n:Nat) (D:List Nat):Array Bool:=((List.range n).map (inL D)).toArray
theorem zEL (n:Nat) (D:List Nat):(lst n D).size=n:=by simp [lst]
theorem zBa {n i:Nat} {D:List Nat} {d:Bool} (h:i<n):(lst n D).getD i d=inL D i:=by simp [lst,h]
theorem zRs {n i:Nat} {D:List Nat} {d:Bool} (h:n<=i):(lst n D).getD i d=d:=by
 rw [pQ,rP (by rw [zEL];exact h)]
 rfl
theorem zDO {n i:Nat} {D:List Nat} (h:(lst n D).getD i true=false):i<n/\inL D i=false:=by
 rcases rJ i n with g|g
 ·rw [zBa g] at h;exact ⟨g,h⟩
 ·rw [zRs g] at h;cases h
theorem zFR {l:Array Bool} {n:Nat} {D:List Nat} (hs:l.size=n) (h: ∀i,i<n->l.getD i false=inL D i):l=lst n D:=by
 refine Array.ext (by rw [hs,zEL]) fun i h1 h2=> ?_
 have:=h i oN
 rw [pQ,rQ h1] at this
 have e:l[i]=inL D i:=this
 rw [e]
 simp [lst]
theorem zGt {n i:Nat} {D:List Nat} (hi:i<n):(lst n D).setIfInBounds i true=lst n (i::D):=by
 refine zFR (by simp [lst]) fun j hj=> ?_
 show _=(bif Nat.beq i j then true else inL D j)
 by_cases e:i=j
 ·subst e
  rw [pQ,Array.getElem?_setIfInBounds_self_of_lt (by rw [zEL];exact hi),rO]
  rfl
 ·rw [pN false e,zBa hj]
  cases h:Nat.beq i j with
  |true=>exact absurd (rA h) e
  |false=>rfl
def zR4 (ops:Array Oper) (D fl D':List Nat):Bool:=(List.range ops.size).all fun j=>inL D' j||(List.range ops.size).all fun i=> !inL D' i||inL fl i||inL D i||zC5 ops ops.size i j
section
variable {F:Fence} {n:Nat} {P:Wf} {ops:Array Oper} {Q:Exit->Act->W8->Prop}
variable {A:Nat->Bool} {E:Nat->Wa->W8->Prop} {C:W8->Prop} {a0:Act}
theorem zUi {D D':List Nat} {z:Nat} (fl:List Nat) (hpl:zAr ops=true) (hns:Region.noSelect ops=true) (hzs:ops.size<=z) (CW:W8->Prop) (hCW: ∀w,C w->CW w) (hfree: ∀i,inL D i=false->inL D' i=true->inL fl i=true->Region.free .any ops (zCL ops i) i=true)
  (hfk: ∀i,inL D' i=true->inL fl i=true->(lst ops.size D).getD i true=false-> ∀o,ops[i]?=some o-> ∀a w,FlowB ops (lst ops.size D) A E C a0 (fun j=>(lst ops.size D).getD j true=false/\ ∃e∈o.after,Region.binds .any e=true/\e.on=j) a w-> ∃v,zAf P ops CW o v a)
  (hear:zCc ops=true) (htl:zR4 ops D fl D'=true) (hap:jU ops=true) (hfr:zA3 ops a0.tmps.size=true) (hcl':zH4 ops (lst ops.size D')) (hC: ∀w w',C w->Below w.heap.size w w'->C w') (hE: ∀i v w w',E i v w->Below w.heap.size w w'->E i v w')
  (hspec: ∀i,inL D' i=true->(lst ops.size D).getD i true=false-> ∀o,ops[i]?=some o-> ∀a w,FlowB ops (lst ops.size D) A E C a0 (fun j=>(lst ops.size D).getD j true=false/\ ∃e∈o.after,Region.binds .any e=true/\e.on=j) a w-> ∀K:Act->W8->Prop,(∀v w',E i v w'->Below w.heap.size w w'->(A i=true-> ∀b,blk v=some b->w.heap.size<=b/\b<w'.heap.size)->K (a.put o.dst v) w')->wpOpIn F n P ops (jW Q) i K a w)
  (hfin: ∀a w,FlowB ops (lst ops.size D) A E C a0 (fun i=>inL D' i=true/\(lst ops.size D).getD i true=false) a w->zAd F n P .any ops z CW (jW Q) ((lst ops.size D').count false) (lst ops.size D') a w):
  ∀(fuel:Nat) (listed:Array Bool) (a:Act) (w:W8),listed.count false=fuel->listed.size=ops.size->(∀i,i<ops.size->inL D' i=false->listed.getD i false=false)->zH4 ops listed->(∀i,i<ops.size->inL D i=true->listed.getD i false=true)->
   FlowB ops (lst ops.size D) A E C a0 (fun i=>(lst ops.size D).getD i true=false/\listed.getD i false=true) a w->zAd F n P .any ops z CW (jW Q) fuel listed a w:=by
 intro fuel
 induction fuel with
 | zero=>
  intro listed a w hc hs hlate hcl hsub hf
  have hno: ∀i,listed.getD i true=true:=fun i=>by
   cases hg:listed.getD i true with
   |true=>rfl
   |false=>have:=zAk hg;omega
  have hall: ∀i,i<ops.size->listed.getD i false=true:=fun i hi=>by
   have h1:=hno i
   have hlt:i<listed.size:=by omega
   simp [hlt] at h1 ⊢
   exact h1
  have hl:listed=lst ops.size D':=zFR hs fun i hi=>by
   rw [hall i hi]
   cases h:inL D' i with
   |true=>rfl
   |false=>have:=hlate i hi h;rw [hall i hi] at this;cases this
  have:=hfin a w (hf.mono fun i hi=>⟨hi.2,hall i (zDO hi.2).1⟩)
  rw [<-hl,hc] at this
  exact this
 | succ fuel ih=>
  intro listed a w hc hs hlate hcl hsub hf
  by_cases hall: ∀i,i<ops.size->inL D' i=true->listed.getD i false=true
  ·have hl:listed=lst ops.size D':=zFR hs fun i hi=>by
    cases h:inL D' i with
    |true=>exact hall i hi h
    |false=>exact hlate i hi h
   have:=hfin a w (hf.mono fun i hi=>⟨hi.2,hall i (zDO hi.2).1 hi.1⟩)
   rw [<-hl,hc] at this
   exact this
  ·simp only [Classical.not_forall] at hall
   obtain ⟨u0,hu0l,hu0p,hu0⟩:=hall
   obtain ⟨u,⟨hul,hup,hu⟩,hmin⟩:=zFg (p:=fun u=>u<ops.size/\inL D' u=true/\ ¬listed.getD u false=true) u0 ⟨hu0l,hu0p,hu0⟩
   have hlt:u<listed.size:=by omega
   have hu':listed.getD u true=false:=by
    simp [hlt] at hu ⊢
    exact hu
   have hl0u:(lst ops.size D).getD u true=false:=by
    rw [zBa hul]
    cases hg:inL D u with
    |false=>rfl
    |true=>exact absurd (hsub u hul hg) hu
   have hsome: ∀i,listed.getD i true=false->Region.ready .any ops listed≠ []:=by
    intro i
    induction i using Nat.strongRecOn with
    | _ i ihi=>
     intro hi hnil
     have hlt:i<listed.size:=by
      rcases rJ i listed.size with e|e
      ·exact e
      ·simp [rP e] at hi
     have ho:ops[i]?=some (ops[i]'(by rw [<-hs];exact hlt)):=rQ _
     by_cases hall: ∀e∈(ops[i]'(by rw [<-hs];exact hlt)).after,Region.binds .any e=true->listed.getD e.on false=true
     ·have hm:i∈Region.ready .any ops listed:=rK.2 ⟨hi,_,ho,hall⟩
      rw [hnil] at hm
      cases hm
     ·simp only [Classical.not_forall] at hall
      obtain ⟨e,he,hb,hg⟩:=hall
      have hel:=zCb hear ho he hb
      refine ihi e.on hel ?_ hnil
      have hlt2:e.on<listed.size:=by omega
      simp [hlt2] at hg ⊢
      exact hg
   by_cases hfu:inL fl u=true
   ·have hou:ops[u]?=some ops[u]:=rQ hul
    have hdone: ∀e∈ops[u].after,Region.binds .any e=true->listed.getD e.on false=true:=fun e he hb=>by
     have hel:=zCb hear hou he hb
     have hpe:inL D' e.on=true:=by
      have:=hcl' u _ (by rw [zBa hul];exact hup) hou e he hb
      rwa [zBa oN] at this
     exact Classical.byContradiction fun hc=>hmin e.on hel ⟨by omega,hpe,hc⟩
    have hrd:(Region.ready .any ops listed).contains u=true:=rN.2 (rK.2 ⟨hu',_,hou,hdone⟩)
    have hfre:=hfree u (zDO hl0u).2 hup hfu
    obtain ⟨v0,hy⟩:=hfk u hup hfu hl0u _ hou a w (hf.mono fun j hj=>(by
     obtain ⟨hj0,e,he,hb,rfl⟩:=hj
     exact ⟨hj0,hdone e he hb⟩))
    have hw:=hspec u hup hl0u _ hou a w (hf.mono fun j hj=>(by
     obtain ⟨hj0,e,he,hb,rfl⟩:=hj
     exact ⟨hj0,hdone e he hb⟩)) (fun a' w'=> ∃v,a'=a.put ops[u].dst v/\E u v w'/\Below w.heap.size w w'/\(A u=true-> ∀b,blk v=some b->w.heap.size<=b/\b<w'.heap.size)) (fun v w' hv hb hA=>⟨v,rfl,hv,hb,hA⟩)
    obtain ⟨v,hpe,hv,hb,hA⟩:=zKm hou hpl hy (hCW _ hf.at_.cls) hw
    refine zW (i:=u) (v:=v0) hpl (by unfold zBD;rw [rP hzs]) hou hns (zO5 (fun j hj hc=>(by
     have h9:=zBv hcl _ j u _ hou hdone hc
     have g:j<listed.size:=by omega
     simp [g] at h9 ⊢
     exact h9)) hfre) hrd (fun _ _ _ h=>h) (hCW _ hf.at_.cls) hy ?_
    rw [hpe]
    refine ih (listed.setIfInBounds u true) (a.put ops[u].dst v) w ?_ (by simpa using hs) (fun j hj hjp=> ?_) (fun j oj hj hoj e he hbe=> ?_) (fun j hj hjl=> ?_) ((hf.put hap hfr hC hE hou hl0u hv hb hA).mono fun j hj=> ?_)
    ·have:=zAk hu'
     omega
    ·rw [pN false (fun e=>by subst e;rw [hup] at hjp;cases hjp)]
     exact hlate j hj hjp
    ·by_cases e2:j=u
     ·subst e2
      rw [hou] at hoj
      cases hoj
      by_cases e3:e.on=j
      ·rw [e3];exact hj
      ·rw [pN false (Ne.symm e3)]
       exact hdone e he hbe
     ·rw [pN false (Ne.symm e2)] at hj
      have:=hcl j oj hj hoj e he hbe
      by_cases e3:e.on=u
      ·rw [e3]
       simp [hlt]
      ·rw [pN false (Ne.symm e3)]
       exact this
    ·by_cases e3:j=u
     ·rw [e3];simp [hlt]
     ·rw [pN false (Ne.symm e3)]
      exact hsub j hj hjl
    ·by_cases e:j=u
     ·exact .inr e
     ·left
      rw [pN false (Ne.symm e)] at hj
      exact hj
   ·refine ⟨fun hnil=>(hsome u hu' hnil).elim,fun i hi=> ?_⟩
    obtain ⟨hun,o,ho,hall⟩:=rK.1 hi
    have hil:=(pR.1 ho).1
    have hl0:(lst ops.size D).getD i true=false:=by
     rw [zBa hil]
     cases hg:inL D i with
     |false=>rfl
     |true=>
      have:=hsub i hil hg
      have hlt3:i<listed.size:=by omega
      simp [hlt3] at hun
      simp [hlt3] at this
      rw [this] at hun
      cases hun
    have hip:inL D' i=true:=by
     cases hg:inL D' i with
     |true=>rfl
     |false=>
      exfalso
      have h1:=pI.1 htl i (pJ.2 hil)
      rw [hg,Bool.false_or] at h1
      have h2:=pI.1 h1 u (pJ.2 hul)
      simp only [Bool.or_eq_true,rB] at h2
      rcases h2 with ((h2|h2)|h2)|h2
      ·rw [hup] at h2;cases h2
      ·exact hfu h2
      ·exact hu (hsub u hul h2)
      ·exact hu (zBv hcl _ u i o ho hall h2)
    refine hspec i hip hl0 o ho a w (hf.mono fun j hj=> ?_) _ fun v w' hv hb hA=>⟨.inr (hCW _ (hC _ _ hf.at_.cls hb)), ?_⟩
    ·obtain ⟨hj0,e,he,hb,rfl⟩:=hj
     exact ⟨hj0,hall e he hb⟩
    ·refine ih (listed.setIfInBounds i true) (a.put o.dst v) w' ?_ (by simpa using hs) (fun j hj hjp=> ?_) (fun j oj hj hoj e he hbe=> ?_) (fun j hj hjl=> ?_) ((hf.put hap hfr hC hE ho hl0 hv hb hA).mono fun j hj=> ?_)
     ·have:=zAk hun
      omega
     ·rw [pN false (fun e=>by subst e;rw [hip] at hjp;cases hjp)]
      exact hlate j hj hjp
     ·by_cases e2:j=i
      ·subst e2
       rw [ho] at hoj
       cases hoj
       by_cases e3:e.on=j
       ·rw [e3];exact hj
       ·rw [pN false (Ne.symm e3)]
        exact hall e he hbe
      ·rw [pN false (Ne.symm e2)] at hj
       have:=hcl j oj hj hoj e he hbe
       by_cases e3:e.on=i
       ·rw [e3]
        have hlt:i<listed.size:=by omega
        simp [hlt]
       ·rw [pN false (Ne.symm e3)]
        exact this
     ·by_cases e3:j=i
      ·have hlt:i<listed.size:=by omega
       rw [e3];simp [hlt]
      ·rw [pN false (Ne.symm e3)]
       exact hsub j hj hjl
     ·by_cases e:j=i
      ·exact .inr e
      ·left
       rw [pN false (Ne.symm e)] at hj
       exact hj
end
def zGM (F:Fence) (m:Nat) (P:Wf) (ops:Array Oper) (CW:W8->Prop) (Q:Exit->Act->W8->Prop) (D:List Nat) (a:Act) (w:W8):Prop:=
 zAd F m P .any ops ops.size CW (jW Q) ((lst ops.size D).count false) (lst ops.size D) a w
def Gr (CW:W8->Prop) (w:W8):Prop:= ∀w',Below w.heap.size w w'->CW w'
def FdC (P:Wf) (CW:W8->Prop) (w:W8) (ops:Array Oper) (G:Nat->SF) (o:Oper):Prop:=
 ∀(b:Act) (W:W8),Below w.heap.size w W->(∀t,t∈looks ops o->(G t).p (b.tmps.getD t undef) W)-> ∃v,zAf P ops CW o v b
def zOO (ops:Array Oper) (D':List Nat) (G:Nat->SF) (t:Nat):SF:=bif (List.range ops.size).any (fun i=> !inL D' i&&(yF ops i==some t)) then SF.any else G t
def zRX (ops:Array Oper) (fl D is:List Nat) (n:Nat) (keys ts:List Nat):Bool:=
 jU ops&&zA3 ops n&&zAr ops&&Region.noSelect ops&&zCc ops&&zBk keys&&
 zEi ops (lst ops.size D)&&zEi ops (lst ops.size (is++D))&&
 keys.all (fun t=>is.any fun i=> !inL D i&&(yF ops i==some t))&&
 ts.all (fun t=>(List.range ops.size).all fun i=>inL D i|| !(yF ops i==some t))&&
 is.all (fun i=>decide (i<ops.size)&& !inL D i&&(!inL fl i||Region.free .any ops (zCL ops i) i)&&match ops[i]? with
  |none=>true
  |some o=>(looks ops o).all fun t=>(List.range ops.size).all fun j=>inL D j|| !(yF ops j==some t)||o.after.any fun e=>Region.binds .any e&&e.on==j)&&
 zR4 ops D fl (is++D)
def zJf (ops:Array Oper) (is:List Nat):List Oper:=is.filterMap fun i=>ops[i]?
theorem zEz {F:Fence} {m:Nat} {P:Wf} {w0:W8} {ops ops':Array Oper} {G:Nat->SF}: ∀{is:List Nat},Obs F m P w0 ops' G (zJf ops is)-> ∀i,i∈is-> ∀o,ops[i]?=some o->qX F m P w0 ops' G o
 | [],_,i,hi,_,_=>by cases hi
 | k::is,h,i,hi,o,ho=>by
  unfold zJf at h
  rw [List.filterMap_cons] at h
  cases hk:ops[k]? with
  |none=>
   rw [hk] at h
   rcases rI.1 hi with rfl|hi
   ·rw [ho] at hk;cases hk
   ·exact zEz h i hi o ho
  |some ok=>
   rw [hk] at h
   rcases rI.1 hi with rfl|hi
   ·rw [ho] at hk;cases hk;exact h.1
   ·exact zEz h.2 i hi o ho
theorem zQM {F:Fence} {m:Nat} {P:Wf} {ops:Array Oper} {Q:Exit->Act->W8->Prop} {CW:W8->Prop} {G:Nat->SF} {n:Nat} {ds:List Deferred} {a:Act} {w:W8} {D:List Nat} (fl is ts:List Nat) (al:List NewB) (L:List (Nat×SF))
  (hcw:Gr CW w) (hchk:zRX ops fl D is n (L.map (·.1)) ts=true) (h:At w G n ds a w) (hobs:Obs F m P w ops (upd G L) (zJf ops is))
  (hal: ∀q,q∈al->q.i∈is/\q.f.isIn L q.d/\(∃ty pos aft,ops[q.i]?=some ⟨some q.d, .alloc q.e,ty,pos,aft,none⟩)/\zeroCells P q.e=some q.cs/\ ∀v W,(wT w q.e q.cs).p v W->q.f.p v W)
  (hfd: ∀i o,inL fl i=true->ops[i]?=some o->FdC P CW w ops (upd G L) o)
  (hfin: ∀a w',At w (zOO ops (is++D) (upd G L)) n ds a w'->zNv al a->zGM F m P ops CW Q (is++D) a w'):zGM F m P ops CW Q D a w:=by
 unfold zRX at hchk
 simp only [pL] at hchk
 obtain ⟨⟨⟨⟨⟨⟨⟨⟨⟨⟨⟨hap,hfr⟩,hpl⟩,hns⟩,hear⟩,hndk⟩,hc1⟩,hc2⟩,hkeys⟩,hts⟩,his⟩,htl⟩:=hchk
 have hisD: ∀i,inL (is++D) i=true->inL D i=false->i∈is:=fun i h1 h2=>by
  rw [zFk,h2,Bool.or_false] at h1
  exact zIK h1
 have hkey: ∀t,(∀j,inL D j=false->j∈is->yF ops j≠some t)->upd G L t=G t:=fun t ht=>by
  refine zAA ?_
  cases hc:(L.map (·.1)).contains t with
  |false=>rfl
  |true=>
   exfalso
   obtain ⟨i,hi,he⟩:=rC.1 (pI.1 hkeys t (rN.1 hc))
   simp only [pL,rB,pX] at he
   exact ht i he.1 hi he.2
 have hst: ∀t,(∀j,inL D j=false->j∈is->yF ops j≠some t)->(upd G L t).p (a.tmps.getD t undef) w:=fun t ht=>by rw [hkey t ht];exact h.sl t
 have hspecs: ∀i,i∈is->i<ops.size/\(inL fl i=true->Region.free .any ops (zCL ops i) i=true)/\ ∀o,ops[i]?=some o-> ∀t,t∈looks ops o-> ∀j,inL D j=false->yF ops j=some t->(o.after.any fun e=>Region.binds .any e&&e.on==j)=true:=fun i hi=>by
  have h1:=pI.1 his i hi
  simp only [pL,pY] at h1
  refine ⟨h1.1.1.1,fun hf=>(by have h2:=h1.1.2;rw [hf] at h2;simpa using h2),fun o ho t ht j hj hjd=> ?_⟩
  have h2:=h1.2
  rw [ho] at h2
  have hlt:j<ops.size:=by
   rcases rJ j ops.size with e|e
   ·exact e
   ·rw [yF,rP e] at hjd;cases hjd
  have h3:=pI.1 (pI.1 h2 t ht) j (pJ.2 hlt)
  rw [hj,hjd] at h3
  simpa using h3
 have hnd: ∀t,(∀j,inL D j=false->yF ops j≠some t)->zBE ops (lst ops.size D) t=false:=fun t ht=>by
  cases hd:zBE ops (lst ops.size D) t with
  |false=>rfl
  |true=>
   exfalso
   unfold zBE at hd
   obtain ⟨i,hi,hp⟩:=rC.1 hd
   simp only [pL,pX,rB] at hp
   have hp1:=hp.1
   rw [zBa (pJ.1 hi)] at hp1
   exact ht i hp1 (by rw [<-zCY];exact hp.2)
 -- what an operation looks at holds where those it waits for have run
 have hlook: ∀i o,i∈is->ops[i]?=some o-> ∀b W,FlowB ops (lst ops.size D) (fun i=>al.any fun q=>q.i==i) (fun i v W=> ∀o,ops[i]?=some o-> ∀d,o.dst=some d->(upd G L d).p v W) (fun W=>Below w.heap.size w W) a (fun j=>(lst ops.size D).getD j true=false/\ ∃e∈o.after,Region.binds .any e=true/\e.on=j) b W-> ∀t,t∈looks ops o->(upd G L t).p (b.tmps.getD t undef) W:=fun i o hi ho b W hf t ht=>by
  by_cases hex: ∃j,inL D j=false/\yF ops j=some t
  ·obtain ⟨j,hjD,hj⟩:=hex
   have h1:=(hspecs i hi).2.2 o ho t ht j hjD hj
   obtain ⟨x,hx,he⟩:=Array.any_eq_true.1 h1
   simp only [pL,pX] at he
   cases hoj:ops[j]? with
   |none=>rw [yF,hoj] at hj;cases hj
   |some oj=>
    rw [jT hoj] at hj
    exact hf.at_.vals j oj t ⟨by rw [zBa (pR.1 hoj).1];exact hjD,_,Array.getElem_mem hx,he.1,he.2⟩ hoj hj oj hoj t hj
  ·have hno: ∀j,inL D j=false->yF ops j≠some t:=fun j h1 h2=>hex ⟨j,h1,h2⟩
   rw [hf.at_.keep t (hnd t hno)]
   exact (upd G L t).st _ _ _ (hst t (fun j hj _=>hno j hj)) hf.at_.cls
 have hno: ∀i, ¬((lst ops.size D).getD i true=false/\(lst ops.size D).getD i false=true):=fun i hi=>by
  have h1:=zDO hi.1
  have h2:=hi.2
  rw [zBa h1.1,h1.2] at h2
  cases h2
 refine zUi (Q:=Q) (D:=D) (D':=is++D) (z:=ops.size) (a0:=a) (A:=fun i=>al.any fun q=>q.i==i) (E:=fun i v W=> ∀o,ops[i]?=some o-> ∀d,o.dst=some d->(upd G L d).p v W) (C:=fun W=>Below w.heap.size w W) fl hpl hns lr CW hcw ?hfree ?hfk hear htl hap (by rw [h.size];exact hfr) (zCI hc2) (fun W W' hC hb=>hC.trans (hb.mono hC.size)) (fun i v W W' hE hb o ho d hd=>(upd G L d).st _ _ _ (hE o ho d hd) hb) ?spec ?fin _ (lst ops.size D) a w rfl (zEL _ _) (fun i hi hp=> ?_) (zCI hc1) (fun i hi hp=>by rw [zBa hi];exact hp) ⟨⟨pM _ _,rfl,rfl,fun _ _=>rfl,fun i o t hi=>(hno i hi).elim⟩,fun i o t b hi=>(hno i hi).elim,fun i j oi oj ti tj bi bj hi=>(hno i hi).elim⟩
 case hfree=>exact fun i hD hp hf=>(hspecs i (hisD i hp hD)).2.1 hf
 case hfk=>
  intro i hp hf hl o ho b W hfl
  have hi:=hisD i hp (zDO hl).2
  exact hfd i o hf ho b W hfl.at_.cls (hlook i o hi ho b W hfl)
 case spec=>
  intro i hp hl o ho b W hfl K hK
  have hi:=hisD i hp (zDO hl).2
  have hfj: ∀j g,yF ops j=some g->g<b.tmps.size:=fun j g hj=>by
   rw [hfl.at_.size,h.size]
   obtain ⟨oj,hoj,hdj⟩:=jE hj
   exact jB hfr hoj hdj
  by_cases hAi:(al.any fun q=>q.i==i)=true
  ·obtain ⟨q,hq,hqi⟩:=rC.1 hAi
   obtain rfl:q.i=i:=by simpa using hqi
   obtain ⟨_,hin,⟨ty,pos,aft,hop⟩,hz,hown⟩:=hal q hq
   rw [ho] at hop
   cases hop
   refine zAP ho (show qX F m P W ops (fun _=>wT W q.e q.cs) ⟨some q.d, .alloc q.e,ty,pos,aft,none⟩ from zAL hz) hfj (pM _ _) (fun t ht=>by cases ht) (fun v W' hv hb=> ?_)
   obtain ⟨b',rfl,h1,h2⟩:=hv q.d rfl
   refine hK _ W' (fun o' ho' d hd=> ?_) hb (fun _ b'' hb''=> ?_)
   ·rw [ho] at ho'
    cases ho'
    cases hd
    rw [zC6 (q:=(q.d,q.f)) hndk hin]
    exact hown _ W' ⟨b',rfl,pK hfl.at_.cls.size h1,h2⟩
   ·cases hb''
    exact ⟨h1,(pR.1 h2).1⟩
  refine zAP ho (zEz hobs i hi o ho) hfj hfl.at_.cls (hlook i o hi ho b W hfl) (fun v W' hv hb=>hK v W' (fun o' ho' d hd=>by rw [ho] at ho';cases ho';exact hv d hd) hb (fun e=>absurd e hAi))
 case fin=>
  intro b W hfl
  have hin': ∀q,q∈al->inL (is++D) q.i=true/\(lst ops.size D).getD q.i true=false:=fun q hq=>by
   have h1:=(hal q hq).1
   have h2:=pI.1 his _ h1
   simp only [pL,pY,rB] at h2
   exact ⟨by rw [zFk,zML h1,rU],by rw [zBa h2.1.1.1];exact h2.1.1.2⟩
  refine hfin b W ⟨hfl.at_.cls,by rw [hfl.at_.size];exact h.size,by rw [hfl.at_.defers];exact h.nd,fun t=> ?_⟩ fun q q' hq hq' hne b1 b2 e1 e2=>(by
   obtain ⟨_,_,⟨_,_,_,g2⟩,_⟩:=hal q hq
   obtain ⟨_,_,⟨_,_,_,g2'⟩,_⟩:=hal q' hq'
   exact hfl.apart q.i q'.i _ _ q.d q'.d b1 b2 (hin' q hq) (hin' q' hq') hne (rC.2 ⟨q,hq,by simp⟩) (rC.2 ⟨q',hq',by simp⟩) g2 g2' rfl rfl e1 e2)
  unfold zOO
  cases hc:(List.range ops.size).any fun i=> !inL (is++D) i&&(yF ops i==some t) with
  |true=>trivial
  | false=>
   show (upd G L t).p _ _
   by_cases hex: ∃j,inL D j=false/\yF ops j=some t
   ·obtain ⟨j,hjD,hj⟩:=hex
    have hlt:j<ops.size:=by
     rcases rJ j ops.size with e|e
     ·exact e
     ·rw [yF,rP e] at hj;cases hj
    have h1:=sI.1 hc j (pJ.2 hlt)
    rw [hj] at h1
    have hjp:inL (is++D) j=true:=by simpa using h1
    cases hoj:ops[j]? with
    |none=>rw [yF,hoj] at hj;cases hj
    |some oj=>
     rw [jT hoj] at hj
     exact hfl.at_.vals j oj t ⟨hjp,by rw [zBa hlt];exact hjD⟩ hoj hj oj hoj t hj
   ·have hno: ∀j,inL D j=false->yF ops j≠some t:=fun j h1 h2=>hex ⟨j,h1,h2⟩
    rw [hfl.at_.keep t (hnd t hno)]
    exact (upd G L t).st _ _ _ (hst t (fun j hj _=>hno j hj)) hfl.at_.cls
 ·rw [zBa hi]
  cases h:inL D i with
  |false=>rfl
  |true=>rw [zFk,h,Bool.or_true] at hp;cases hp
section
variable {S:Nat->Prop} {w0:W8} {K:List (Nat×KF)} {B:List Bx} {n:Nat} {ds:List Deferred} {a:Act} {w:W8} {F:Fence} {m:Nat} {P:Wf} {ops:Array Oper} {Q:Exit->Act->W8->Prop} {wb:W8} {CW:W8->Prop} {D:List Nat}
theorem StS.later (h:StS S w0 K B n ds a w) {w':W8} (hb:Below w.heap.size w w'):StS S w0 K B n ds a w':=
 ⟨h.gr.trans hb,h.size,h.nd,fun q hq=>KF.us (h.sl q hq) (yN hb),h.bx.keep hb (yN hb) B (fun _ _=>rfl),zA9 h.mks hb,h.so⟩
theorem zGd {id:Nat} (CW:W8->Prop) (hmix:P.follows .mixedOrders=true) (h:StS S w0 K B n ds a w) (fin: ∀w1,Below w.heap.size w w1->StS S w0 K B n ds a w1->zGM F m P ops CW Q [] a w1):(Code.region id ops true).wpIn F m P Q a w:=by
 refine yH ops.size CW hmix ?_
 have hd:Below w.heap.size w w.drew:=(pM _ w).drew
 have:=fin w.drew hd (h.later hd)
 unfold zGM at this
 have e:lst ops.size []=Array.replicate ops.size false:=by
  refine (zFR (by simp) fun i hi=> ?_).symm
  rw [pQ,sS,if_pos hi]
  rfl
 rw [e,Array.count_replicate_self] at this
 exact this
theorem zEB (h:(List.range ops.size).all (inL D)=true) (hQ:Q .normal a w):zGM F m P ops CW Q D a w:=by
 have e:lst ops.size D=Array.replicate ops.size true:=(zFR (by simp) fun i hi=>by
  rw [pQ,sS,if_pos hi]
  exact (pI.1 h i (pJ.2 hi)).symm).symm
 have hc:(lst ops.size D).count false=0:=by rw [e];simp [Array.count_replicate]
 unfold zGM
 rw [hc]
 refine ⟨List.eq_nil_iff_forall_not_mem.2 fun i hi=> ?_,hQ⟩
 have h1:=(rK.1 hi).1
 have h2:=zDO h1
 rw [pI.1 h i (pJ.2 h2.1)] at h2
 cases h2.2
theorem zLC {i:Nat} (hr:Region.ready .any ops (lst ops.size D)= [i]) (h:wpOpIn F m P ops (jW Q) i (fun a' w'=>CW w'/\zGM F m P ops CW Q (i::D) a' w') a w):zGM F m P ops CW Q D a w:=by
 have hi:=(rK.1 (show i∈Region.ready .any ops (lst ops.size D) by rw [hr];simp)).1
 have hlt:=(zDO hi).1
 have hc:=zAk hi
 rw [zGt hlt] at hc
 unfold zGM
 rw [<-hc]
 refine ⟨fun e=>(by rw [hr] at e;cases e),fun j hj=> ?_⟩
 rw [hr] at hj
 obtain rfl:j=i:=by simpa using hj
 exact wpOpIn_mono (fun a' w' hh=>⟨.inr hh.1,by rw [zGt hlt];exact hh.2⟩) h
theorem zJp (fl is:List Nat) (al:List NewB) (L:List (Nat×Rw)) (hcw:Gr CW w) (h:StS S w0 K B n ds a w)
  (hchk:zRX ops fl D is n (L.map (·.1)) (K.map (·.1)++B.map (·.t))=true)
  (hobs:Obs F m P w ops (upd (zAc K B) (zY L)) (zJf ops is))
  (hal: ∀q,q∈al->q.i∈is/\q.f.isIn (zY L) q.d/\(∃ty pos aft,ops[q.i]?=some ⟨some q.d, .alloc q.e,ty,pos,aft,none⟩)/\zeroCells P q.e=some q.cs/\ ∀v W,(wT w q.e q.cs).p v W->q.f.p v W)
  (hfd: ∀i o,inL fl i=true->ops[i]?=some o->FdC P CW w ops (upd (zAc K B) (zY L)) o)
  (hfin: ∀a' w',Below w.heap.size w w'->StS S w0 (zBl L++K) B n ds a' w'->(∀q,q∈zY L->q.2.p (a'.tmps.getD q.1 undef) w')->zNv al a'->zGM F m P ops CW Q (is++D) a' w'):zGM F m P ops CW Q D a w:=by
 have hchk0:=hchk
 unfold zRX at hchk0
 simp only [pL] at hchk0
 obtain ⟨⟨⟨⟨⟨⟨⟨⟨⟨⟨⟨hap,hfr⟩,hpl⟩,hns⟩,hear⟩,hndk⟩,hc1⟩,hc2⟩,hks⟩,hts⟩,his⟩,htl⟩:=hchk0
 have hkeys:(zY L).map (·.1)=L.map (·.1):=by simp [zY]
 have hsame: ∀t,t∈K.map (·.1)++B.map (·.t)-> ∀i,inL D i=false->yF ops i≠some t:=fun t ht i hD hi=>by
  have h1:=pI.1 hts t ht
  obtain ⟨o,ho,_⟩:=jE hi
  have h2:=pI.1 h1 i (pJ.2 (pR.1 ho).1)
  rw [hi,hD] at h2
  simp at h2
 have hkn: ∀t,t∈K.map (·.1)++B.map (·.t)->((zY L).map (·.1)).contains t=false:=fun t ht=>by
  cases hc:((zY L).map (·.1)).contains t with
  |false=>rfl
  |true=>
   exfalso
   have hm:=rN.1 hc
   rw [hkeys] at hm
   obtain ⟨i,_,he⟩:=rC.1 (pI.1 hks t hm)
   simp only [pL,rB,pX] at he
   exact hsame t ht i he.1 he.2
 have hno: ∀(l:List (Nat×SF)) t, ¬t∈K.map (·.1)++B.map (·.t)->upd (zAN K B a) l t=upd (zAc K B) l t:=fun l t ht=>by
  induction l with
  |nil=>exact if_neg ht
  |cons q l ih=>
   show (bif Nat.beq q.1 t then q.2 else upd _ l t)=(bif Nat.beq q.1 t then q.2 else upd _ l t)
   rw [ih]
 have hle: ∀t v W,(upd (zAN K B a) (zY L) t).p v W->(upd (zAc K B) (zY L) t).p v W:=fun t v W hh=>by
  by_cases ht:t∈K.map (·.1)++B.map (·.t)
  ·rw [zAA (hkn t ht)] at hh ⊢
   unfold zAN at hh
   rw [if_pos ht] at hh
   exact hh.1
  ·rwa [hno _ t ht] at hh
 have hA:=h.at
 refine zQM fl is (K.map (·.1)++B.map (·.t)) al (zY L) hcw (by rw [hkeys];exact hchk) (G:=zAN K B a) (ds:=ds) ⟨hA.gr,hA.size,hA.nd,fun t=> ?_⟩ ?_ hal (fun i o hi ho b W hb hr=>hfd i o hi ho b W hb (fun t ht=>hle t _ _ (hr t ht))) fun a' w' hA' hD=> ?_
 ·by_cases ht:t∈K.map (·.1)++B.map (·.t)
  ·unfold zAN;rw [if_pos ht];exact ⟨hA.sl t,rfl⟩
  ·unfold zAN;rw [if_neg ht];exact hA.sl t
 ·have hge: ∀t,(∃i,inL D i=false/\yF ops i=some t)-> ∀v W,(upd (zAc K B) (zY L) t).p v W->(upd (zAN K B a) (zY L) t).p v W:=fun t ⟨i,hD,hi⟩ v W hh=>by
   rw [hno _ t (fun ht=>hsame t ht i hD hi)]
   exact hh
  have hconv: ∀(i:Nat) (o:Oper),inL D i=false->ops[i]?=some o->qX F m P w ops (upd (zAc K B) (zY L)) o->qX F m P w ops (upd (zAN K B a) (zY L)) o:=by
   intro i o hD ho hg
   have hdst: ∀d,o.dst=some d-> ∃i,inL D i=false/\yF ops i=some d:=fun d hd=>⟨i,hD,by rw [jT ho];exact hd⟩
   have hop:zNy F m P w (upd (zAc K B) (zY L)) o->zNy F m P w (upd (zAN K B a) (zY L)) o:=fun h1 b W K' Q' hb hr hK'=>
    h1 b W K' Q' hb (fun t ht=>hle t _ _ (hr t ht)) fun v W' hv hb'=>hK' v W' (fun d hd=>hge d (hdst d hd) _ _ (hv d hd)) hb'
   unfold qX at hg ⊢
   cases hgd:o.guard with
   |none=>rw [hgd] at hg;exact hop hg
   |some q=>
    rw [hgd] at hg
    obtain ⟨g,bv,h1,h2,h3,h4⟩:=hg
    exact ⟨g,bv,h1,fun v W hh=>h2 v W (hle g v W hh),fun e=>hop (h3 e),fun e=>⟨fun d hd W=>hge d (hdst d hd) _ _ ((h4 e).1 d hd W),(h4 e).2⟩⟩
  have hall: ∀l:List Nat,(∀i,i∈l->inL D i=false/\i<ops.size)->Obs F m P w ops (upd (zAc K B) (zY L)) (zJf ops l)->Obs F m P w ops (upd (zAN K B a) (zY L)) (zJf ops l):=by
   intro l
   induction l with
   |nil=>intro _ _;trivial
   |cons i l ih=>
    intro hm ho
    obtain ⟨hD,hlt⟩:=hm i (by simp)
    have hoi:ops[i]?=some ops[i]:=rQ hlt
    have e:zJf ops (i::l)=ops[i]::zJf ops l:=by unfold zJf;rw [List.filterMap_cons,hoi]
    rw [e] at ho ⊢
    exact ⟨hconv i _ hD hoi ho.1,ih (fun j hj=>hm j (by simp [hj])) ho.2⟩
  refine hall is (fun i hi=> ?_) hobs
  have h1:=pI.1 his i hi
  simp only [pL,pY,rB] at h1
  exact ⟨h1.1.1.2,h1.1.1.1⟩
 ·have hg:=hA'.gr
  have hslot: ∀t,t∈K.map (·.1)++B.map (·.t)->a'.tmps.getD t undef=a.tmps.getD t undef:=fun t ht=>by
   have h1:=hA'.sl t
   unfold zOO at h1
   have h2:((List.range ops.size).any fun i=> !inL (is++D) i&&(yF ops i==some t))=false:=by
    refine sI.2 fun i _=> ?_
    cases hD:inL D i with
    |true=>simp [zFk,hD]
    |false=>have:=hsame t ht i hD;simp [this]
   rw [h2,show (bif false then SF.any else upd (zAN K B a) (zY L) t)=upd (zAN K B a) (zY L) t from rfl,zAA (hkn t ht),zAN,if_pos ht] at h1
   exact h1.2
  have hrow: ∀q,q∈zY L->q.2.p (a'.tmps.getD q.1 undef) w':=fun q hm2=>by
   have h1:=hA'.sl q.1
   obtain ⟨i,hi,he⟩:=rC.1 (pI.1 hks q.1 (by rw [<-hkeys];exact rD.2 ⟨_,hm2,rfl⟩))
   simp only [pL,rB,pX] at he
   have hiL:inL (is++D) i=true:=by
    rw [zFk]
    rw [zML hi,rU]
   unfold zOO at h1
   have h2:((List.range ops.size).any fun j=> !inL (is++D) j&&(yF ops j==some q.1))=false:=by
    refine sI.2 fun j _=> ?_
    by_cases hj:j=i
    ·subst hj;simp [hiL]
    ·have:yF ops j≠some q.1:=fun e=>by
      obtain ⟨oi,ho1,hd1⟩:=jE he.2
      obtain ⟨oj,ho2,hd2⟩:=jE e
      exact zAu hap ho1 ho2 (Ne.symm hj) hd1 hd2
     simp [this]
   rw [h2,show (bif false then SF.any else upd (zAN K B a) (zY L) q.1)=upd (zAN K B a) (zY L) q.1 from rfl,zC6 (q:=q) (by rw [hkeys];exact hndk) hm2] at h1
   exact h1
  refine hfin a' w' hg ⟨h.gr.trans hg,hA'.size,hA'.nd,fun q hq=> ?_,h.bx.keep hg (yN hg) B fun x hx=>hslot _ (List.mem_append_right _ (rD.2 ⟨x,hx,rfl⟩)),zA9 h.mks hg,h.so.imp (fun hu q hq=>(by
   rcases sJ.1 hq with hq|hq
   ·obtain ⟨f,e,_⟩:=zAT hq;exact ⟨f,e⟩
   ·exact hu q hq)) (fun x=>x)⟩ hrow hD
  rcases sJ.1 hq with hq|hq
  ·obtain ⟨f,hqf,hm⟩:=zAT hq
   have h1:=hrow (q.1,f.tS) (rD.2 ⟨_,hm,rfl⟩)
   rw [hqf]
   exact h1
  ·rw [hslot q.1 (List.mem_append_left _ (rD.2 ⟨q,hq,rfl⟩))]
   exact KF.us (h.sl q hq) (yN hg)
theorem zD5 (fl is:List Nat) (L:List (Nat×Rw)) (hcw:Gr CW w) (h:StS S w0 K B n ds a w)
  (hchk:zRX ops fl D is n (L.map (·.1)) (K.map (·.1)++B.map (·.t))=true)
  (hobs:Obs F m P w ops (upd (zAc K B) (zY L)) (zJf ops is))
  (hfd: ∀i o,inL fl i=true->ops[i]?=some o->FdC P CW w ops (upd (zAc K B) (zY L)) o)
  (hfin: ∀a' w',Below w.heap.size w w'->StS S w0 (zBl L++K) B n ds a' w'->(∀q,q∈zY L->q.2.p (a'.tmps.getD q.1 undef) w')->zGM F m P ops CW Q (is++D) a' w'):zGM F m P ops CW Q D a w:=
 zJp fl is [] L hcw h hchk hobs (fun _ e=>by cases e) hfd fun a w hb s hr _=>hfin a w hb s hr
theorem Obs.below {G:Nat->SF} {w1:W8} (hb:Below w.heap.size w w1): ∀{l:List Oper},Obs F m P w ops G l->Obs F m P w1 ops G l
 | [],_=>trivial
 | o::l,⟨h,t⟩=>by
  have ho:zNy F m P w G o->zNy F m P w1 G o:=fun h b W K Q hb'=>h b W K Q (hb.trans (hb'.mono hb.size))
  refine ⟨?_,Obs.below hb t⟩
  unfold qX at h ⊢
  cases e:o.guard with
  |none=>rw [e] at h;exact ho h
  |some q=>
   rw [e] at h
   obtain ⟨g,bv,h1,h2,h3,h4⟩:=h
   exact ⟨g,bv,h1,h2,fun e=>ho (h3 e),h4⟩
theorem zFH {k:Nat} (hk:k<=ops.size):zJf ops (List.range k)=ops.toList.take k:=by
 induction k with
 |zero=>simp [zJf]
 |succ k ih=>
  have e:ops[k]?=some ops[k]:=rQ oN
  have ih:=ih oN
  unfold zJf at ih ⊢
  rw [List.range_succ,List.filterMap_append,ih,List.take_add_one]
  simp [e]
theorem zHa {k:Nat} (hch: ∀r,r<ops.size - k->Region.ready .any ops (yV ops.size (k+r))= [k+r]):
    ∀(f r:Nat) (D:List Nat) (a:Act) (w:W8),k+r+f=ops.size->(∀i,i<ops.size->inL D i=decide (i<k+r))->wpOpsIn F m P ops (jW Q) (List.range' (k+r) f) a w->zGM F m P ops (fun _=>True) Q D a w
  |0,r,D,a,w,hf,hD,h=>zEB (pI.2 fun i hi=>by
      have:=pJ.1 hi
      rw [hD i this]
      exact pW oN) h
  | f+1,r,D,a,w,hf,hD,h=>by
    rw [sK] at h
    refine zLC (i:=k+r) ?_ (wpOpIn_mono (fun a w h=>⟨trivial,zHa hch f (r+1) ((k+r)::D) a w oN (fun i hi=> ?_) h⟩) h)
    . rw [show lst ops.size D=yV ops.size (k+r) from (zFR (by simp [yV]) fun i hi=>by rw [pQ,zCF hi,hD i hi];rfl).symm]
      exact hch r oN
    . show (bif Nat.beq (k+r) i then true else inL D i)=_
      rw [hD i hi]
      cases e:Nat.beq (k+r) i with
      |true=>exact (pW (by have:=rA e;omega)).symm
      | false=>
        have:k+r≠i:=fun h=>by rw [h,rO] at e;cases e
        exact decide_eq_decide.2 oN
theorem zMR {fl:List Nat} {k:Nat} {G:Nat->SF} (h:(fl.all fun i=>zDR ops i&&decide (i<k))=true) (hobs:Obs F m P w ops G (zJf ops (List.range k))): ∀i o,inL fl i=true->ops[i]?=some o->FdC P (fun _=>True) w ops G o:=fun i o hi ho b W hb hr=>by
 have h1:=pI.1 h i (zIK hi)
 simp only [pL,pY] at h1
 have hg:o.guard=none:=by
  have h2:=h1.1
  unfold zDR at h2
  rw [ho] at h2
  split at h2<;>first|cases h2|skip
  all_goals (rename_i e;cases e;rfl)
 have h2:=zEz hobs i (pJ.2 h1.2) o ho
 unfold qX at h2
 rw [hg] at h2
 have h3:wpOpIn F m P ops (jW fun _ _ _=>True) i (fun _ _=>True) b W:=by
  unfold wpOpIn
  rw [ho]
  show (if Region.wanted o (yielded ops b.tmps)=true then _ else _)
  rw [if_pos (by unfold Region.wanted;rw [hg])]
  exact h2 b W _ _ hb (fun t ht=>hr t (by unfold looks;simp [ht])) (fun _ _ _ _=>trivial)
 obtain ⟨_,v,_,hy,_⟩:=zMS ho h1.1 h3
 exact ⟨v,hy⟩
theorem qL {id:Nat} (fl:List Nat) (al:List NewB) (k:Nat) (L:List (Nat×Rw)) (hmix:P.follows .mixedOrders=true) (h:StS S w0 K B n ds a w)
  (hal: ∀q,q∈al->q.i<k/\q.f.isIn (zY L) q.d/\(∃ty pos aft,ops[q.i]?=some ⟨some q.d, .alloc q.e,ty,pos,aft,none⟩)/\zeroCells P q.e=some q.cs/\ ∀v W,(wT w q.e q.cs).p v W->q.f.p v W)
  (hchk:(zRX ops fl [] (List.range k) n (L.map (·.1)) (K.map (·.1)++B.map (·.t))&&(fl.all fun i=>zDR ops i&&decide (i<k))&&decide (k<=ops.size)&&(List.range (ops.size - k)).all fun r=>Region.ready .any ops (yV ops.size (k+r))== [k+r])=true)
  (hobs:Obs F m P w ops (upd (zAc K B) (zY L)) (ops.toList.take k))
  (hfin: ∀Q',(∀a w,Q .normal a w->Q' .normal a w)-> ∀a w,StS S w0 (zBl L++K) B n ds a w->(∀q,q∈zY L->q.2.p (a.tmps.getD q.1 undef) w)->zNv al a->zBx F m P ops Q' k a w):(Code.region id ops true).wpIn F m P Q a w:=by
 simp only [pL,pY] at hchk
 obtain ⟨⟨⟨h1,h2⟩,h3⟩,h4⟩:=hchk
 refine zGd (fun _=>True) hmix h fun w1 hb s=> ?_
 have hal': ∀q,q∈al->q.i∈List.range k/\q.f.isIn (zY L) q.d/\(∃ty pos aft,ops[q.i]?=some ⟨some q.d, .alloc q.e,ty,pos,aft,none⟩)/\zeroCells P q.e=some q.cs/\ ∀v W,(wT w1 q.e q.cs).p v W->q.f.p v W:=fun q hq=>let ⟨g1,g2,g3,g4,g5⟩:=hal q hq;⟨pJ.2 g1,g2,g3,g4,fun v W ⟨b,e,g,g'⟩=>g5 v W ⟨b,e,pK hb.size g,g'⟩⟩
 refine zJp fl (List.range k) al L (fun _ _=>trivial) s h1 (by rw [zFH h3];exact Obs.below hb hobs) hal' (zMR h2 (by rw [zFH h3];exact Obs.below hb hobs)) fun a w' hb' s hr hD=> ?_
 refine zHa (k:=k) (fun r hr=>(by have:=pI.1 h4 r (pJ.2 hr);simpa using this)) (ops.size - k) 0 _ a w' oN (fun i _=> ?_) (hfin (jW Q) iiz a w' s hr hD)
 rw [List.append_nil,Nat.add_zero]
 cases e:inL (List.range k) i with
 |true=>exact (pW (pJ.1 (zIK e))).symm
 |false=>exact (decide_eq_false fun hk=>by rw [zML (pJ.2 hk)] at e;cases e).symm
end
section
variable {S:Nat->Prop} {F:Fence} {m:Nat} {P:Wf} {Q:Exit->Act->W8->Prop} {w0:W8} {K:List (Nat×KF)} {B:List Bx} {n:Nat} {ds:List Deferred} {a:Act} {w:W8}
theorem zKG {σ:Type} {c:Code} (Inv:σ->Act->W8->Prop) (mu:σ->Nat) (x0:σ) (h0:Inv x0 a w)
  (round: ∀x a w,Inv x a w->c.wpIn F m P (Exit.then (fun a' w'=> ∃y,mu y<mu x/\Inv y a' w') Q) a w):(Code.loop c).wpIn F m P Q a w:=by
 have low: ∀a w,(∃k, ∃x,mu x=k/\Inv x a w)-> ∃k,(∃x,mu x=k/\Inv x a w)/\ ∀j,j<k-> ¬ ∃x,mu x=j/\Inv x a w:=
  fun a w ⟨k,hk⟩=>zFg k hk
 open Classical in
 refine wpIn_loop (fun a w=> ∃k, ∃x,mu x=k/\Inv x a w) (fun a w=>if h: ∃k, ∃x,mu x=k/\Inv x a w then Classical.choose (low a w h) else 0) ⟨_,x0,rfl,h0⟩ ?_
 rintro a w hA
 have e0:=rT (low a w hA)
 obtain ⟨x,hm,hst⟩:=e0.1
 refine Code.wpIn_mono ?_ (round x a w hst)
 intro e a' w' h
 cases e with
 |normal=>
  obtain ⟨y,h2,h3⟩: ∃y,mu y<mu x/\Inv y a' w':=h
  have hA': ∃k, ∃x,mu x=k/\Inv x a' w':=⟨_,y,rfl,h3⟩
  refine ⟨hA', ?_⟩
  simp only [dif_pos hA,dif_pos hA']
  have e1:=rT (low a' w' hA')
  have:Classical.choose (low a' w' hA')<=mu y:=Nat.not_lt.1 fun hlt=>e1.2 _ hlt ⟨y,rfl,h3⟩
  omega
 |_=>exact h
theorem StS.learn (h:StS S w0 K B n ds a w) (t:Nat) (v:Wa) (e:a.tmps.getD t undef=v):StS S w0 ((t, .u (UF.eq v))::K) B n ds a w:=
 ⟨h.gr,h.size,h.nd,fun q hq=>by
  rcases rI.1 hq with rfl|hq
  ·exact e
  ·exact h.sl q hq,h.bx,h.mks,h.so.imp (fun hu q hq=>(by
   rcases rI.1 hq with rfl|hq
   ·exact ⟨_,rfl⟩
   ·exact hu q hq)) (fun x=>x)⟩
theorem zDY {K:List (Nat×KF)} (h:(K.all fun q=>zSX q.2)=true): ∀q,q∈K-> ∃f,q.2=KF.u f:=fun q hq=>by
 have:=pI.1 h q hq
 cases hq2:q.2 with
 |u f=>exact ⟨f,rfl⟩
 |o f=>rw [hq2] at this;cases this
def wE (vs:List Wa):CU:=⟨fun cs _=>cs=vs,fun _ _ _ h _=>h⟩
end
def CU.ok (z:Nat) (C:CU):Prop:= ∀cs W,C.p cs W->cs.length=z/\cs.all yR=true/\ ∀u,u∈cs->u.oneCell'=true
def zAW (w:W8) (base:Nat) (e:Wb) (z:Nat) (v:Wa) (Cs:List CU):Prop:=
 (v= .slice none 0 0/\Cs= [])∨ ∃g cap cur,v= .slice (some ⟨g,0,none⟩) Cs.length cap/\base<=g/\w.heap[g]?=some (.cells cur e (0,0))/\Cs.length<=cap/\cap<=maxLen/\cur.size=cap*z/\cur.toList.all yR=true/\ ∀(i:Nat) (C:CU),Cs[i]?=some C->C.p ((cur.toList.drop (i*z)).take z) w
theorem zAW.nil (w:W8) (base:Nat) (e:Wb) (z:Nat):zAW w base e z (.slice none 0 0) []:= .inl ⟨rfl,rfl⟩
theorem zAW.lt {w:W8} {base e z v Cs} (h:zAW w base e z v Cs): ∀k,v.ownBlock=some k->base<=k/\k<w.heap.size:=by
 intro k hk
 rcases h with ⟨rfl,_⟩|⟨g,cap,cur,rfl,hb,hg,_⟩
 ·simp [Value.ownBlock] at hk
 ·simp [Value.ownBlock] at hk
  subst hk
  exact ⟨hb,(pR.1 hg).1⟩
theorem zAW.mono {w:W8} {base base' e z v Cs} (h:zAW w base e z v Cs) (hb:base'<=base):zAW w base' e z v Cs:=
 h.imp id fun ⟨g,cap,cur,h1,h2,h3⟩=>⟨g,cap,cur,h1,pK hb h2,h3⟩
theorem zAW.keep {w w':W8} {base e z v Cs} (h:zAW w base e z v Cs) (hb: ∀k,v.ownBlock=some k->w'.heap[k]?=w.heap[k]?) (hk:zAo w w'):zAW w' base e z v Cs:=by
 rcases h with h|⟨g,cap,cur,rfl,h2,h3,h4,h5,h6,h7,h8⟩
 ·exact .inl h
 ·exact .inr ⟨g,cap,cur,rfl,h2,(hb g rfl).trans h3,h4,h5,h6,h7,fun i C hi=>C.us _ _ _ (h8 i C hi) hk⟩
theorem zAW.below {w w':W8} {base e z v Cs} (h:zAW w base e z v Cs) (hb:Below w.heap.size w w'):zAW w' base e z v Cs:=
 h.keep (fun k hk=>hb.block k (h.lt k hk).2) (yN hb)
theorem zAW.row {w:W8} {base e z v Cs} (h:zAW w base e z v Cs):(SF.row z Cs).p v w:=by
 rcases h with ⟨rfl,rfl⟩|⟨g,cap,cur,rfl,h2,h3,h4,h5,h6,h7,h8⟩
 ·exact ⟨none,0,rfl,pS _,by decide,fun _=>rfl,fun i C hi=>by simp at hi⟩
 ·refine ⟨_,cap,rfl,h4,by unfold maxLen at h5;omega,fun e=>(by cases e),fun i C hi=>⟨g,0,_,rfl,fun j u hj=> ?_,h8 i C hi⟩⟩
  rw [List.getElem?_take] at hj
  split at hj
  ·rw [List.getElem?_drop] at hj
   unfold World.cell?
   simp only [h3]
   have:0+i*z+j=i*z+j:=by omega
   rw [this]
   simpa using hj
  ·cases hj
theorem zAW.keepU {w w':W8} {base e z v Cs} (h:zAW w base e z v Cs) (hg:w.grownBy w' v.ownBlock):zAo w w':=fun p x hp=>by
 have hlt:=World.block_lt_of_cell? w _ hp
 by_cases e1:some p.block=v.ownBlock
 ·exfalso
  rcases h with ⟨rfl,_⟩|⟨g,cap,cur,rfl,h2,h3,h4,h5,h6,h7,h8⟩
  ·simp [Value.ownBlock] at e1
  ·simp [Value.ownBlock] at e1
   have:=zKX (cs:=cur.toList) (z:=(0,0)) (by simpa using h3) h7 e1 hp
   cases this
 ·exact (World.cell?_of_block (hg.block _ hlt e1)).trans hp
def zHZ (P:Wf) (t:Wb):Wc (Wb×Nat×Bool):=match P.underlying t with
 | some (.slice e)=>match P.info? e with
  |some i=>match i.zero with
   |some zv=>some (e,i.size,zv.cells.size==i.size&&zv.cells.toList.all yR&&decide (0<i.size)&&Nat.ble i.bytes 1000)
   |none=>none
  |none=>none
 |_=>none
theorem zEj {P:Wf} {t e:Wb} {z:Nat} (h:zHZ P t=some (e,z,true)):P.underlying t=some (.slice e)/\ ∃i zv,P.info? e=some i/\i.zero=some zv/\i.size=z/\i.bytes<=1000/\zv.cells.size=z/\zv.cells.toList.all yR=true/\0<z:=by
 unfold zHZ at h
 split at h<;>try cases h
 rename_i e' hu
 split at h<;>try cases h
 rename_i i hi
 split at h<;>try cases h
 rename_i zv hz
 simp only [sH,Prod.mk.injEq,pL,pX,pY] at h
 obtain ⟨rfl,rfl,⟨⟨h1,h2⟩,h3⟩,h4⟩:=h
 exact ⟨hu,i,zv,hi,hz,rfl,Nat.le_of_ble_eq_true h4,h1,h2,h3⟩
theorem zCf {zc:Array Wa} (h:zc.toList.all yR=true) (n:Nat):(Builtin.zeroCells zc n).toList.all yR=true:=by
  refine pI.2 fun u hu=> ?_
  simp only [Builtin.zeroCells,Array.toList_map,rD,Array.toList_range,pJ] at hu
  obtain ⟨i,hi,rfl⟩:=hu
  have h0 : 0 < zc.size := by rcases sL zc.size with h|h;· rw [h] at hi;omega
                              . exact h
  have hlt:i % zc.size<zc.size:=Nat.mod_lt _ h0
  have:zc[i % zc.size]!∈zc.toList:=by
    rw [getElem!_pos zc _ hlt]
    exact Array.getElem_mem_toList hlt
  exact pI.1 h _ this
theorem zE1 {W:W8} {b z:Nat}: ∀(Ds:List CU) (o:Nat),(∀C,C∈Ds->CU.ok z C)->(∀(i:Nat) (C:CU),Ds[i]?=some C-> ∃cs,Mem W b (o+i*z) cs/\C.p cs W)->
  ∃news:List Wa,news.length=Ds.length*z/\(∀j u,news[j]?=some u->W.cell? ⟨b,o+j,none⟩=some u)/\(∀u,u∈news->u.oneCell'=true)/\news.all yR=true/\ ∀(i:Nat) (C:CU),Ds[i]?=some C->C.p ((news.drop (i*z)).take z) W
 | [],o,_,_=>⟨[],by simp,by simp,by simp,rfl,by simp⟩
 | D::Ds,o,hok,h=>by
  obtain ⟨cs,h1,h2⟩:=h 0 D rfl
  obtain ⟨hl,hn,h1c⟩:=hok D (by simp) cs W h2
  obtain ⟨ns,g1,g2,g3,g4,g5⟩:=zE1 Ds (o+z) (fun C hC=>hok C (by simp [hC])) fun i C hi=>by
   obtain ⟨cs',h3,h4⟩:=h (i+1) C (by simpa using hi)
   refine ⟨cs', ?_,h4⟩
   rwa [show o+(i+1)*z=o+z+i*z by rw [rE];omega] at h3
  refine ⟨cs++ns,by rw [rL,hl,g1,List.length_cons,rE];omega,fun j u hj=> ?_,fun u hu=> ?_,by rw [rV,hn,g4];rfl,fun i C hi=> ?_⟩
  ·rcases rJ j z with hlt|hge
   ·rw [sT oN] at hj
    have:=h1 j u hj
    rwa [show o+0*z+j=o+j by omega] at this
   ·rw [sU oN] at hj
    have:=g2 _ u hj
    rwa [show o+z+(j - cs.length)=o+j by omega] at this
  ·rcases sJ.1 hu with hu|hu
   ·exact h1c u hu
   ·exact g3 u hu
  ·cases i with
   |zero=>
    obtain rfl:D=C:=by simpa using hi
    rw [show 0*z=0 by omega,List.drop_zero,sV oN,sG oN]
    exact h2
   |succ i=>
    rw [show (i+1)*z=cs.length+i*z by rw [rE];omega,List.drop_append]
    have e1:cs.drop (cs.length+i*z)= []:=List.drop_eq_nil_of_le oN
    rw [e1,sM,show cs.length+i*z - cs.length=i*z by omega]
    exact g5 i C (by simpa using hi)
theorem zDp {cs ds:List Wa} {z i n:Nat} (h:cs.length=n*z) (hi:i<n):((cs++ds).drop (i*z)).take z=(cs.drop (i*z)).take z:=by
 have h1:i*z+z<=n*z:=by rw [<-Nat.succ_mul];exact rW _ hi
 rw [List.drop_append_of_le_length oN,sV (by rw [sF];omega)]
theorem zM7 {cs ds:List Wa} {z i n:Nat} (h:cs.length=n*z):(cs++ds).drop ((n+i)*z)=ds.drop (i*z):=by
 rw [rE, <-h,List.drop_append]
 have e1:cs.drop (cs.length+i*z)= []:=List.drop_eq_nil_of_le oN
 rw [e1,sM]
 congr 1
 omega
theorem zD8 {w w':W8} {z:Nat} {Cs Ds:List CU} {cs ds es:List Wa} (hl:cs.length=Cs.length*z) (hd:ds.length=Ds.length*z) (h1: ∀(i:Nat) (C:CU),Cs[i]?=some C->C.p ((cs.drop (i*z)).take z) w) (h2: ∀(i:Nat) (C:CU),Ds[i]?=some C->C.p ((ds.drop (i*z)).take z) w) (hk:zAo w w'):
  ∀(i:Nat) (C:CU),(Cs++Ds)[i]?=some C->C.p (((cs++ds++es).drop (i*z)).take z) w':=fun i C hi=>by
 rcases rJ i Cs.length with hlt|hge
 ·rw [sT hlt] at hi
  rw [List.append_assoc,zDp hl hlt]
  exact C.us _ _ _ (h1 i C hi) hk
 ·obtain ⟨j,rfl⟩: ∃j,i=Cs.length+j:=⟨i - Cs.length,by omega⟩
  rw [sU oN,Nat.add_sub_cancel_left] at hi
  have hj:j<Ds.length:=(pZ.1 hi).1
  rw [List.append_assoc,zM7 hl,zDp hd hj]
  exact C.us _ _ _ (h2 j C hi) hk
theorem zNi {a b c:List Wa} (ha:a.all yR=true) (hb:b.all yR=true) (hc:c.all yR=true):(a++b++c).all yR=true:=by
 rw [rV,rV,ha,hb,hc];rfl
theorem zIi {P:Wf} {w:W8} {base:Nat} {t ty e:Wb} {z:Nat} {v v2:Wa} {Cs Ds:List CU} (happ:zHZ P t=some (e,z,true)) (hr:zAW w base e z v Cs) (h2:(SF.row z Ds).p v2 w) (hD: ∀C,C∈Ds->CU.ok z C)
    (hsz:Cs.length+Ds.length<=140000000000) (hbase:base<=w.heap.size):
    ∃v' w',(Builtin.append_ #[t,t] ty #[v,v2]).run P w= .ok v' w'/\zAW w' base e z v' (Cs++Ds)/\w.grownBy w' v.ownBlock/\(v'.ownBlock=v.ownBlock∨v'.ownBlock=some w.heap.size):=by
  obtain ⟨ht,i,zv,hi,hz,hs,hby0,hzs,hzn,hz0⟩:=zEj happ
  have hmx:Cs.length+Ds.length<=maxLen:=by unfold maxLen;omega
  have hbb:(Cs.length+Ds.length)*i.bytes<=140737488355328:=pK (Nat.mul_le_mul hsz hby0) (by decide)
  obtain ⟨A,c,rfl,hlc,hcm,hAn,hel⟩:=h2
  have hsmall:Cs.length+Ds.length<=9223372036854775807:=by unfold maxLen at hmx;omega
  cases A with
  | none=>
    have hD0:Ds= []:=by
      cases Ds with
      |nil=>rfl
      |cons D Ds=>obtain ⟨b,o,cs,e1,_⟩:=hel 0 D rfl;cases e1
    subst hD0
    have hc:=hAn rfl
    subst hc
    rcases hr with ⟨rfl,rfl⟩|⟨g,cap,cur,rfl,g2,g3,g4,g5,g6,g7,g8⟩
    . refine ⟨.slice none 0 0,w, ?_, .inl ⟨rfl,rfl⟩,⟨rfl,rfl,rfl,pS _,fun _ _ _=>rfl⟩, .inl rfl⟩
      simp [Builtin.append_,pU ht,sizeOf,typeInfo,hi,Builtin.lenOf,Builtin.firstCells]
    . refine ⟨_,w, ?_, .inr ⟨g,cap,cur,rfl,g2,g3,by simpa using g4,g5,g6,g7,by simpa using g8⟩,⟨rfl,rfl,rfl,pS _,fun _ _ _=>rfl⟩, .inl rfl⟩
      simp [Builtin.append_,pU ht,sizeOf,typeInfo,hi,Builtin.lenOf,Builtin.firstCells,g4,storeCells]
  | some ad=>
    obtain ⟨news,n1,n2,n3,n4,n5⟩: ∃news:List Wa,news.length=Ds.length*z/\(∀j u,news[j]?=some u->w.cell? (ad.add j)=some u)/\(∀u,u∈news->u.oneCell'=true)/\news.all yR=true/\ ∀(i:Nat) (C:CU),Ds[i]?=some C->C.p ((news.drop (i*z)).take z) w:=by
      cases Ds with
      |nil=>exact ⟨[],by simp,by simp,by simp,rfl,by simp⟩
      | cons D Ds=>
        obtain ⟨b,o,cs,e1,_⟩:=hel 0 D rfl
        cases e1
        obtain ⟨news,k1,k2,k3⟩:=zE1 (W:=w) (b:=b) (z:=z) (D::Ds) o hD fun i C hiC=>by
          obtain ⟨b',o',cs',e',m1,m2⟩:=hel i C hiC
          cases e'
          exact ⟨cs',m1,m2⟩
        exact ⟨news,k1,fun j u hj=>by rw [rG];exact k2 j u hj,k3⟩
    -- what the growing arm leaves
    have grown: ∀(old:Nat) (cs:List Wa) (row:Wc Nat),cs.length=Cs.length*z->cs.all yR=true->(∀(i:Nat) (C:CU),Cs[i]?=some C->C.p ((cs.drop (i*z)).take z) w)->old<Cs.length+Ds.length->
        zAW (w.drew.alloc (.cells (cs.toArray++news.toArray++Builtin.zeroCells zv.cells (grownCap w (Cs.length+Ds.length) old e - (Cs.length+Ds.length))) e)) base e z (.slice (some ⟨w.heap.size,0,none⟩) (Cs.length+Ds.length) (grownCap w (Cs.length+Ds.length) old e)) (Cs++Ds)/\
        w.grownBy (w.drew.alloc (.cells (cs.toArray++news.toArray++Builtin.zeroCells zv.cells (grownCap w (Cs.length+Ds.length) old e - (Cs.length+Ds.length))) e)) row:=by
      intro old cs row hl hn hcs ho
      have hge:=grownCap_ge w (Cs.length+Ds.length) old e
      have hcm:grownCap w (Cs.length+Ds.length) old e<=maxLen:=grownCap_le_maxLen w (Cs.length+Ds.length) old e hmx
      refine ⟨.inr ⟨w.heap.size,_,_,by rw [rL],hbase,heap_alloc_new w.drew _,by rw [rL];exact hge,hcm, ?_, ?_, ?_⟩,⟨rfl,rfl,rfl,by simp,fun k hk _=>heap_alloc_old w.drew _ hk⟩⟩
      . simp only [Array.size_append,sN,size_zeroCells,hzs,hl,n1, <-rE]
        congr 1
        omega
      . simp only [sO]
        exact zNi hn n4 (zCf hzn _)
      . simp only [sO]
        exact zD8 hl n1 hcs n5 (yN ⟨rfl,rfl,rfl,by simp,fun k hk=>heap_alloc_old w.drew _ hk⟩)
    rcases hr with ⟨rfl,rfl⟩|⟨g,cap,cur,rfl,g2,g3,g4,g5,g6,g7,g8⟩
    . by_cases hm:Ds.length=0
      . have hD0:=List.eq_nil_of_length_eq_zero hm
        subst hD0
        refine ⟨.slice none 0 0,w, ?_, .inl ⟨rfl,rfl⟩,⟨rfl,rfl,rfl,pS _,fun _ _ _=>rfl⟩, .inl rfl⟩
        simp [Builtin.append_,pU ht,sizeOf,typeInfo,hi,Builtin.lenOf,Builtin.firstCells,loadCells,loadCellsFrom]
      . have hr:=run_append_nil (P:=P) w t ty e i zv ht hi hz ad Ds.length c news (by rw [hs];exact n1) n2 oN (by simp at hsmall;omega) (by simp at hbb;omega)
        have hgr:=grown 0 [] (Value.ownBlock (.slice none 0 0)) (by simp) rfl (by simp) (by simp;omega)
        simp only [List.length_nil,Nat.zero_add,sM,Array.empty_append] at hgr ⊢
        exact ⟨_,_,hr,hgr.1,hgr.2, .inr rfl⟩
    . by_cases hroom:Cs.length+Ds.length<=cap
      . have hfit:Cs.length*i.size+news.length<=cur.size:=by rw [n1,g6,hs, <-rE];exact rW _ hroom
        have hr:=run_append_room (P:=P) w t ty e i ht hi g Cs.length cap cur g3 ad Ds.length c news (by rw [hs];exact n1) n2 n3 hroom hfit
        rw [hs] at hr hfit
        have hgr:w.grownBy (w.setRow g (cur.toList.take (Cs.length*z)++news++cur.toList.drop (Cs.length*z+news.length)).toArray) (some g):=zCH w g _
        have hk:zAo w (w.setRow g (cur.toList.take (Cs.length*z)++news++cur.toList.drop (Cs.length*z+news.length)).toArray):=
          zAW.keepU (v:= .slice (some ⟨g,0,none⟩) Cs.length cap) (Cs:=Cs) (base:=base) (e:=e) (z:=z) (.inr ⟨g,cap,cur,rfl,g2,g3,g4,g5,g6,g7,g8⟩) hgr
        have hcl:cur.toList.length=cap*z:=g6
        have hle:Cs.length*z<=cur.toList.length:=by rw [hcl];exact rW _ g4
        have htl:(cur.toList.take (Cs.length*z)).length=Cs.length*z:=by rw [sP,Nat.min_eq_left hle]
        have hsub: ∀u,u∈cur.toList->yR u=true:=pI.1 g7
        refine ⟨_,_,hr, .inr ⟨g,cap,_,by rw [rL],g2,setRow_heap w g cur _ e _ g3,by rw [rL];exact hroom,g5, ?_, ?_, ?_⟩,hgr, .inl rfl⟩
        . simp only [sN,rL,sP,sF,Array.length_toList]
          rw [<-g6]
          omega
        . exact zNi (pI.2 fun u hu=>hsub u (List.mem_of_mem_take hu)) n4 (pI.2 fun u hu=>hsub u (List.mem_of_mem_drop hu))
        . refine zD8 htl n1 (fun j C hj=> ?_) n5 hk
          have hlt:j<Cs.length:=(pZ.1 hj).1
          have h1:=g8 j C hj
          rw [<-List.take_append_drop (Cs.length*z) cur.toList,zDp htl hlt] at h1
          exact h1
      . have htl:(cur.toList.take (Cs.length*z)).length=Cs.length*z:=by
          rw [sP,show cur.toList.length=cap*z from g6,Nat.min_eq_left (rW _ g4)]
        have holds: ∀j u,(cur.toList.take (Cs.length*z))[j]?=some u->w.cell? ((⟨g,0,none⟩:Addr).add j)=some u:=fun j u hj=>by
          rw [rG,Nat.zero_add]
          rw [List.getElem?_take] at hj
          split at hj
          . unfold World.cell?
            simp only [g3]
            simpa using hj
          . cases hj
        have hr:=run_append_grow (P:=P) w t ty e i zv ht hi hz ⟨g,0,none⟩ Cs.length cap (cur.toList.take (Cs.length*z)) (by rw [hs];exact htl) holds ad Ds.length c news (by rw [hs];exact n1) n2 oN oN (growslice_fits oN hbb)
        have hgr:=grown cap (cur.toList.take (Cs.length*z)) (Value.ownBlock (.slice (some ⟨g,0,none⟩) Cs.length cap)) htl (pI.2 fun u hu=>pI.1 g7 u (List.mem_of_mem_take hu)) (fun j C hj=>by
          have hlt:j<Cs.length:=(pZ.1 hj).1
          have h1:=g8 j C hj
          rw [<-List.take_append_drop (Cs.length*z) cur.toList,zDp htl hlt] at h1
          exact h1) oN
        exact ⟨_,_,hr,hgr.1,hgr.2, .inr rfl⟩
section
variable {S:Nat->Prop} {F:Fence} {m:Nat} {P:Wf} {Q:Exit->Act->W8->Prop} {w0 w1:W8} {K K0:List (Nat×KF)} {B B0:List Bx} {n n0:Nat} {ds ds0:List Deferred} {a a0:Act} {w:W8}
theorem vH {S':Nat->Prop} {w':W8}: ∀(B:List Bx),(∀x,x∈B->x.r=true)->qW S w0 a w B->qW S' w' a w B
 | [],_,_=>trivial
 |x::B,hr,⟨⟨cs,h1,_,h3⟩,h4⟩=>⟨⟨cs,h1, .inl (hr x (by simp)),h3⟩,vH B (fun y hy=>hr y (by simp [hy])) h4⟩
def frz (B:List Bx):List Bx:=B.map fun x=>⟨x.t,x.e,x.c,x.b,true⟩
theorem qW.freeze: ∀(B:List Bx),qW S w0 a w B->qW S w0 a w (frz B)
 | [],_=>trivial
 |x::B,⟨⟨cs,h1,_,h3,h4,h5,h6⟩,h7⟩=>⟨⟨cs,h1, .inl rfl,h3,h4,h5,fun y hy=>by
  obtain ⟨z,hz,rfl⟩:=rD.1 hy
  exact .inr ⟨rfl,rfl⟩⟩,qW.freeze B h7⟩
theorem StS.freeze (h:StS S w0 K B n ds a w):StS S w0 K (frz B) n ds a w:=⟨h.gr,h.size,h.nd,h.sl,qW.freeze B h.bx,h.mks,h.so⟩
theorem StS.below (h:St w0 K B n ds a w):Below w0.heap.size w0 w:=h.gr.below
theorem StS.reb (h:St w0 K B n [] a w) (hB:(B.all fun x=>x.r)=true) (K':List (Nat×KF)) (hK: ∀q,q∈K'->q∈K∨ ∃f,q.2= .o f/\f.p (a.tmps.getD q.1 undef) w):St w K' B n [] a w:=
 ⟨BlS.refl _ _,h.size,h.nd,fun q hq=>by
  rcases hK q hq with hq|⟨f,e,hf⟩
  ·have h1:=h.sl q hq
   cases h2:q.2 with
   |u f=>rw [h2] at h1;exact h1
   |o f=>rw [h2] at h1;exact f.st _ _ _ h1 h.below
  ·rw [e];exact hf,vH B (fun x hx=>by simpa using pI.1 hB x hx) h.bx,⟨[],Marks.nil _ _⟩, .inr fun _ hh=>hh⟩
theorem StS.val (h:StS S w0 K B n ds a w) {t:Nat} {v:Wa} (hm:(t,KF.u (UF.eq v))∈K):a.tmps.getD t undef=v:=h.sl _ hm
theorem StS.back (h0:StS S w0 K0 B0 n0 ds0 a0 w1) (h:St w1 K B n [] a w) (hu:(K.all fun q=>zSX q.2)=true):StS S w0 K B n [] a w:=
 ⟨h0.gr.trans h.below,h.size,h.nd,fun q hq=>by
  have h1:=h.sl q hq
  obtain ⟨f,e⟩:=zDY hu q hq
  rw [e] at h1 ⊢
  exact h1,by
  have: ∀B:List Bx,qW noS w1 a w B->qW S w0 a w B:=fun B=>by
   induction B with
   |nil=>exact fun _=>trivial
   |cons x B ih=>
    intro ⟨⟨cs,h1,h2,h3⟩,h4⟩
    exact ⟨⟨cs,h1,h2.imp id fun h=> .inl (by rcases h with h|h;exact pK h0.gr.size h;exact h.elim),h3⟩,ih h4⟩
  exact this B h.bx,⟨[],Marks.nil _ _⟩, .inl (zDY hu)⟩
theorem StS.resN (h:St w1 K B n [] a w) (hb:Below w0.heap.size w0 w1) {fn:Func} {f:SF} {t:Nat} (hr:fn.results=#[.tmp t]) (hd:f.p (a.tmps.getD t undef) w):bodyPost P fn (Ret w0 f) .ret a w:=by
 refine ⟨h.nd,_, ?_,⟨_,rfl,hd,hb.trans (h.below.mono hb.size)⟩⟩
 simp [results,hr]
theorem wV (h:St w1 K B n [] a w) (hb:Below w0.heap.size w0 w1) {fn:Func} {f:SF} {t:Nat} (hr:fn.results=#[.tmp t]) (hd: ∀v W,(zAc K B t).p v W->f.p v W):bodyPost P fn (Ret w0 f) .ret a w:=
 h.resN hb hr (hd _ _ (h.at.sl t))
def wM (W:W8) (e:Wb) (z:Nat) (Cs:List CU):SF:=⟨fun v w=>zAW w W.heap.size e z v Cs,fun _ _ _ h hb=>h.below hb⟩
theorem zAs {W:W8} {e:Wb} {z:Nat} {Cs:List CU} (v:Wa) (w:W8) (h:(wM W e z Cs).p v w):(SF.row z Cs).p v w:=zAW.row h
theorem zFw {ops:Array Oper} {k d:Nat} {x y:We} {t ty:Wb} {pos:String} {aft:Array Edge} {e:Wb} {z base:Nat} {v:Wa} {Cs:List CU} (Ds:List CU) (h0:StS S w0 K0 B0 n0 ds0 a0 w1) (h:St w1 K B n [] a w) (hb0:w0.heap.size<=base) (hr:base<=w1.heap.size/\zAW w1 base e z v Cs)
  (ho:ops[k]?=some ⟨some d, .call ⟨.builtin .append,#[x,y],#[t,t]⟩,ty,pos,aft,none⟩) (happ:zHZ P t=some (e,z,true)) (hf:zAD K B n d=true) (hu:(K.all fun q=>zSX q.2)=true)
  (hx:a.eval x=v) (hy:(SF.row z Ds).p (a.eval y) w) (hD: ∀C,C∈Ds->CU.ok z C) (hsz:Cs.length+Ds.length<=140000000000) (hB: ∀q,q∈B->q.r=true->q.b<base)
  (fin: ∀v' a' w',(base<=w'.heap.size/\zAW w' base e z v' (Cs++Ds))->StS S w0 ((d, .u (UF.eq v'))::K) B n [] a' w'->zBx F m P ops Q (k+1) a' w'):zBx F m P ops Q k a w:=by
 have hb1:=h.below
 have hr':zAW w base e z v Cs:=hr.2.below hb1
 obtain ⟨v',w',hrun,g1,g2,_⟩:=zIi (P:=P) (ty:=ty) happ hr' hy hD hsz (pK hr.1 hb1.size)
 have hrun2:(execOp a.eval ⟨some d, .call ⟨.builtin .append,#[x,y],#[t,t]⟩,ty,pos,aft,none⟩).run P w= .ok (.value v') w':=by
  simp only [execOp,resolve,invoke,builtin,rH,rX,rY,sQ,rR,rS,hx,hrun]
 refine zBe ho rfl ⟨fun f hf=>(by
  unfold Oper.about at hf
  simp [resolve,go_sem] at hf), ?_⟩
 rw [pP _ _ _ (fun _ e=>by cases e),hrun2]
 have hk:zAo w w':=hr'.keepU g2
 have hlt:=hr.2.lt
 have s0:=h0.back h hu
 have s1:StS S w0 K B n [] a w':=by
  refine ⟨?_,s0.size,s0.nd,fun q hq=>KF.us (s0.sl q hq) hk, ?_,⟨[],Marks.nil _ _⟩,s0.so⟩
  ·cases hv:v.ownBlock with
   |none=>
    refine ⟨g2.os.trans s0.gr.os,g2.tape.trans s0.gr.tape,g2.output.trans s0.gr.output,pK s0.gr.size g2.size,fun k hk1 hk2=> ?_⟩
    exact (g2.block k (pT hk1 s0.gr.size) (by rw [hv];simp)).trans (s0.gr.block k hk1 hk2)
   |some g=>exact s0.gr.grown (by rw [hv] at g2;exact g2) (.inl (pK hb0 (hlt g hv).1))
  ·refine wX hk B (fun q hq=> ?_) s0.bx
   obtain ⟨_,_,hc,h3,_⟩:=h.bx.mem q hq
   refine g2.block _ (pR.1 h3).1 fun e=> ?_
   have h4:=hlt _ e.symm
   rcases hc with hc|hc|hc
   ·have:=hB q hq hc;omega
   ·omega
   ·exact hc
 exact fin v' _ w' ⟨pK (pK hr.1 hb1.size) g2.size,g1⟩ (s1.set hf (pM _ _) rfl)
theorem zBO {σ:Type} {c:Code} (I:σ->W8->Prop) (Kf:σ->List (Nat×KF)) (mu:σ->Nat) (x0:σ) (hI:I x0 w) (h0:StS S w0 (Kf x0) B n ds a w)
  (round: ∀x a w,I x w->StS S w0 (Kf x) B n ds a w->c.wpIn F m P (Exit.then (fun a' w'=> ∃y,mu y<mu x/\I y w'/\StS S w0 (Kf y) B n ds a' w') Q) a w):(Code.loop c).wpIn F m P Q a w:=
 zKG (fun x a w=>I x w/\StS S w0 (Kf x) B n ds a w) mu x0 ⟨hI,h0⟩ fun x a w h=>round x a w h.1 h.2
end
def SF.fn (P:Wf) (T:Array Wa->W8->SF->Prop):SF:=⟨fun v W=> ∃f caps,v= .func (.func f) #[] caps/\Enters P f/\ ∀W',Below W.heap.size W W'-> ∀args R,T args W' R->Calls P f (args++caps) W' (Ret W' R),fun _ _ _ ⟨f,caps,h1,h2,h3⟩ hb=>⟨f,caps,h1,h2,fun W' hb'=>h3 W' (hb.trans (hb'.mono hb.size))⟩⟩
section
variable {F:Fence} {m:Nat} {P:Wf} {w0:W8} {ops:Array Oper} {G:Nat->SF} {d:Tmp} {ty:Wb} {pos:String} {aft:Array Edge}
theorem zRf {y:We} {xs:Array We} {ats:Array Wb} (T:Array Wa->W8->SF->Prop) (hF:zIU F m P) (hy: ∀v W,Below w0.heap.size w0 W->(fct G y).p v W->(SF.fn P T).p v W)
  (h: ∀(b:Act) (W:W8),Below w0.heap.size w0 W->(∀x,x∈xs.toList->(fct G x).p (b.eval x) W)->T (xs.map b.eval) W (G d)):
  qX F m P w0 ops G ⟨some d, .call ⟨.value y,xs,ats⟩,ty,pos,aft,none⟩:=by
 intro b W K Q hb hr hK
 have hin: ∀x,x∈(Op.call ⟨.value y,xs,ats⟩).operands.toList->(fct G x).p (b.eval x) W:=fun x hx=>qK hr hx
 obtain ⟨f,caps,e1,he,hc⟩:=hy _ _ hb (hin y (by simp [Op.operands,Call.operands]))
 have h1:=h b W hb fun x hx=>hin x (by simp [Op.operands,Call.operands];right;simpa using hx)
 refine ⟨fun g _=>hF.1 g, ?_⟩
 have hrun:(execOp b.eval ⟨some d, .call ⟨.value y,xs,ats⟩,ty,pos,aft,none⟩).run P W= .ok (.enter f (xs.map b.eval++caps)) W:=by
  simp only [execOp,resolve,e1,Deferred.ofValue,rH,rX,rY,invoke]
  rw [show (#[]:Array Wa)++xs.map b.eval=xs.map b.eval by simp]
  exact he _ _
 rw [pP _ _ _ (fun _ e=>by cases e),hrun]
 simp only [Oper.uponIn_enter]
 refine ⟨hF.2.1,CallsIn.mono (hF.2.2 _ _ _ (Ret W (G d)) (hc W (pM _ _) _ _ h1)) fun e W' he=> ?_⟩
 obtain ⟨v,rfl,hv,hb'⟩:=he
 exact hK v W' (fun d' e=>by cases e;exact hv) hb'
theorem zSF {y:We} {xs:Array We} {ats:Array Wb} (T:Array Wa->W8->SF->Prop) (hF:zIU F m P) (hy: ∀v W,(fct G y).p v W->(SF.fn P T).p v W)
  (h: ∀(b:Act) (W:W8),Below w0.heap.size w0 W->(∀x,x∈xs.toList->(fct G x).p (b.eval x) W)->T (xs.map b.eval) W (G d)):
  qX F m P w0 ops G ⟨some d, .call ⟨.value y,xs,ats⟩,ty,pos,aft,none⟩:=zRf T hF (fun v W _ h=>hy v W h) h
theorem zSG {y x:We} {ats:Array Wb} (T:Array Wa->W8->SF->Prop) (hF:zIU F m P) (hy: ∀v W,(fct G y).p v W->(SF.fn P T).p v W) (h: ∀u W,Below w0.heap.size w0 W->(fct G x).p u W->T #[u] W (G d)):qX F m P w0 ops G ⟨some d, .call ⟨.value y,#[x],ats⟩,ty,pos,aft,none⟩:=
 zSF T hF hy fun b W hb hh=>by simpa using h _ W hb (hh x (by simp))
end
def zP9 (f:UF):Prop:= ∀v W,f.p v W-> ∃s A n c A' n' c',v= .agg #[.bool s, .slice A n c, .slice A' n' c']
theorem jZ (q:Rat):zP9 (fQN q):=fun _ _ h=>by
 obtain ⟨A,n,c,A',n',c',e⟩:=zCw h
 exact ⟨_,A,n,c,A',n',c',e⟩
theorem zCt (m:Nat) (q:Rat):zP9 (fRV m q):=fun _ _ ⟨_,_,h,_⟩=>zCv h
def PTp (f g:UF) (v:Wa) (w:W8):Prop:= ∃s A n c A' n' c' s2 B k d B' k' d',v= .agg #[.bool s, .slice A n c, .slice A' n' c', .bool s2, .slice B k d, .slice B' k' d']/\f.p (.agg #[.bool s, .slice A n c, .slice A' n' c']) w/\g.p (.agg #[.bool s2, .slice B k d, .slice B' k' d']) w
def fPT (f g:UF):UF:= .mk' (PTp f g) fun _ _ _ ⟨s,A,n,c,A',n',c',s2,B,k,d,B',k',d',e,h1,h2⟩ u=>⟨s,A,n,c,A',n',c',s2,B,k,d,B',k',d',e,f.us _ _ _ h1 u,g.us _ _ _ h2 u⟩
abbrev fPN (p:V2):UF:=fPT (fQN p.1) (fQN p.2)
abbrev fPV (m:Nat) (p:V2):UF:=fPT (fRV m p.1) (fRV m p.2)
theorem zHV {cs:List Wa} {a b c d e f:Wa} (h:Value.agg cs.toArray= .agg #[a,b,c,d,e,f]):cs= [a,b,c,d,e,f]:=by
 have:=pV Array.toList (zAz h)
 simpa using this
theorem jF (f g:UF): ∀cs:List Wa, ∀W,(fPT f g).p (.agg cs.toArray) W->cs.length=6:=fun cs W ⟨_,_,_,_,_,_,_,_,_,_,_,_,_,_,e,_⟩=>by rw [zHV e];rfl
theorem zFM {f g:UF} (cs:List Wa) (W:W8) (h:(CU.agg (fPT f g)).p cs W):0+3<=cs.length/\f.p (.agg ((cs.drop 0).take 3).toArray) W:=by
 obtain ⟨_,_,_,_,_,_,_,_,_,_,_,_,_,_,e,h1,_⟩:=h
 rw [zHV e]
 exact ⟨by simp,h1⟩
theorem zH6 {f g:UF} (cs:List Wa) (W:W8) (h:(CU.agg (fPT f g)).p cs W):3+3<=cs.length/\g.p (.agg ((cs.drop 3).take 3).toArray) W:=by
 obtain ⟨_,_,_,_,_,_,_,_,_,_,_,_,_,_,e,_,h1⟩:=h
 rw [zHV e]
 exact ⟨by simp,h1⟩
theorem zAB {f g:UF} {v:Wa} {W:W8} (h:(fPT f g).p v W):(CU.agg (fPT f g)).p v.cells.toList W/\v.cells.toList.all yR=true:=by
 obtain ⟨s,A,n,c,A',n',c',s2,B,k,d,B',k',d',rfl,h1,h2⟩:=h
 exact ⟨⟨s,A,n,c,A',n',c',s2,B,k,d,B',k',d',rfl,h1,h2⟩,rfl⟩
theorem zLm {s s2:Bool} {A A' B B':Wc Addr} {n c n' c' k d k' d':Nat} (u:Wa) (hu:u∈ [Value.bool s, .slice A n c, .slice A' n' c', .bool s2, .slice B k d, .slice B' k' d']):u.oneCell'=true:=by
 simp only [rI,List.not_mem_nil,or_false] at hu
 rcases hu with rfl|rfl|rfl|rfl|rfl|rfl<;>rfl
theorem zBo {f g:UF} (v:Wa) (W:W8) (h:(fPT f g).p v W): ∃vs:List Wa,v= .agg vs.toArray/\vs.length=6/\(∀u,u∈vs->u.oneCell'=true)/\vs.all yR=true/\(CU.agg (fPT f g)).p vs W:=by
 obtain ⟨s,A,n,c,A',n',c',s2,B,k,d,B',k',d',rfl,h1,h2⟩:=h
 exact ⟨_,rfl,rfl,zLm,rfl,s,A,n,c,A',n',c',s2,B,k,d,B',k',d',rfl,h1,h2⟩
theorem zHu (f g:UF):CU.ok 6 (CU.agg (fPT f g)):=fun cs W ⟨s,A,n,c,A',n',c',s2,B,k,d,B',k',d',e,_⟩=>by
 rw [zHV e]
 exact ⟨rfl,rfl,zLm⟩
theorem zQ9 {f g f' g':UF} (hf: ∀v W,f.p v W->f'.p v W) (hg: ∀v W,g.p v W->g'.p v W) {v:Wa} {W:W8} (h:(fPT f g).p v W):(fPT f' g').p v W:=by
 obtain ⟨s,A,n,c,A',n',c',s2,B,k,d,B',k',d',e,h1,h2⟩:=h
 exact ⟨s,A,n,c,A',n',c',s2,B,k,d,B',k',d',e,hf _ _ h1,hg _ _ h2⟩
theorem zCy {p:V2} {m:Nat} (h1:QB p.1 m) (h2:QB p.2 m) {v:Wa} {W:W8} (h:(fPN p).p v W):(fPV m p).p v W:=zQ9 (fun _ _ h=>wD h h1) (fun _ _ h=>wD h h2) h
theorem bPt (s:Bool) (A A':Wc Addr) (n n' c c':Nat) (s2:Bool) (B B':Wc Addr) (k k' d d':Nat):prog.built 36 [(0, .agg #[.bool s, .slice A n c, .slice A' n' c']),(1, .agg #[.bool s2, .slice B k d, .slice B' k' d'])]=some #[.bool s, .slice A n c, .slice A' n' c', .bool s2, .slice B k d, .slice B' k' d']:=by kernel_rfl
theorem zPh {f g:UF} {u v:Wa} {W:W8} (hf:zP9 f) (hg:zP9 g) (hu:f.p u W) (hv:g.p v W): ∃cells,prog.built 36 [(0,u),(1,v)]=some cells/\(fPT f g).p (.agg cells) W:=by
 obtain ⟨s,A,n,c,A',n',c',rfl⟩:=hf _ _ hu
 obtain ⟨s2,B,k,d,B',k',d',rfl⟩:=hg _ _ hv
 exact ⟨_,bPt _ _ _ _ _ _ _ _ _ _ _ _ _ _,s,A,n,c,A',n',c',s2,B,k,d,B',k',d',rfl,hu,hv⟩
abbrev pns (ps:List V2):List CU:=ps.map fun p=>CU.agg (fPN p)
abbrev pvs (m:Nat) (ps:List V2):List CU:=ps.map fun p=>CU.agg (fPV m p)
theorem zE9 {ps:List V2} {i:Nat} (h:i<ps.length):(pns ps)[i]?=some (CU.agg (fPN (at_ ps i))):=by
 unfold pns at_;rw [List.getElem?_map,sW,rZ h];rfl
theorem zDa {m:Nat} {ps:List V2} {i:Nat} (h:i<ps.length):(pvs m ps)[i]?=some (CU.agg (fPV m (at_ ps i))):=by
 unfold pvs at_;rw [List.getElem?_map,sW,rZ h];rfl
theorem zJC (ps:List V2): ∀C,C∈pns ps->CU.ok 6 C:=fun C hC=>by
 obtain ⟨p,_,rfl⟩:=rD.1 hC
 exact zHu _ _
theorem zLv {z:Nat} {Cs Ds:List CU} (hl:Cs.length=Ds.length) (h: ∀(i:Nat) (C D:CU),Cs[i]?=some C->Ds[i]?=some D-> ∀cs W,C.p cs W->D.p cs W) (v:Wa) (W:W8) (hv:(SF.row z Cs).p v W):(SF.row z Ds).p v W:=by
 obtain ⟨A,c,e,h2,h3,h4,h5⟩:=hv
 rw [hl] at e h2
 refine ⟨A,c,e,h2,h3,h4,fun i D hD=> ?_⟩
 have hi:i<Cs.length:=by rw [hl];exact (pZ.1 hD).1
 obtain ⟨b,o,cs,g1,g2,g3⟩:=h5 i _ (rZ hi)
 exact ⟨b,o,cs,g1,g2,h i _ _ (rZ hi) hD cs W g3⟩
theorem zMa {ps:List V2} {m:Nat} (hp: ∀p,p∈ps->QB p.1 m/\QB p.2 m) (v:Wa) (W:W8) (hv:(SF.row 6 (pns ps)).p v W):(SF.row 6 (pvs m ps)).p v W:=
 zLv (by simp) (fun i C D hC hD cs W h=>by
  have hi:i<ps.length:=by have:=(pZ.1 hC).1;simpa using this
  rw [zE9 hi] at hC
  rw [zDa hi] at hD
  cases hC;cases hD
  have:=hp _ (zFs hi)
  exact zCy this.1 this.2 h) v W hv
section
variable {F:Fence} {m:Nat} {P:Wf} {w0:W8} {ops:Array Oper} {G:Nat->SF} {d:Tmp} {ty:Wb} {pos:String} {aft:Array Edge}
theorem zRd {f:FuncId} {cs:Array We} (h: ∀(b:Act) (W:W8),Below w0.heap.size w0 W->(∀x,x∈cs.toList->(fct G x).p (b.eval x) W)->(G d).p (.func (.func f) #[] (cs.map b.eval)) W):qX F m P w0 ops G ⟨some d, .makeFunc (.func f) #[] cs,ty,pos,aft,none⟩:=
 jG (fun _ e=>by cases e) (fun _ e=>by cases e) fun b W hb hh=>by
  have:=h b W hb fun x hx=>hh x (by simpa [Op.operands] using hx)
  exact ⟨_,by simp [execOp,Instr.makeFunc],this⟩
theorem zZ {x y:We} {t:Wb} {z:Nat} {Cs:List CU} {i:Nat} {C:CU} (hz:zAM P t=some z) (hi:Cs[i]?=some C) (hx: ∀v W,Below w0.heap.size w0 W->(fct G x).p v W->(SF.row z Cs).p v W) (hy: ∀v W,(fct G y).p v W->v= .int .i64 (i:Int)) (hd: ∀v W,(wB C.cf).p v W->(G d).p v W:=by exact fun _ _ h=>h):qX F m P w0 ops G ⟨some d, .indexAddr t x y,ty,pos,aft,none⟩:=
 jG (fun _ e=>by cases e) (fun _ e=>by cases e) fun b W hb hh=>by
  obtain ⟨A,c,e,h2,h3,h4,h5⟩:=hx _ _ hb (hh x (by simp [Op.operands]))
  have e2:=hy _ _ (hh y (by simp [Op.operands]))
  obtain ⟨b',o,cs,rfl,h6,h7⟩:=h5 i C hi
  have hlt:i<Cs.length:=(pZ.1 hi).1
  unfold zAM at hz
  split at hz<;>try cases hz
  rename_i e' hu
  cases hin:P.info? e' with
  |none=>rw [hin] at hz;cases hz
  |some ie=>
   rw [hin] at hz
   simp only [Option.map_some,sH] at hz
   have hel:P.elem t=e':=by simp [Program.elem,hu]
   refine ⟨.pointer (some ⟨b',o+i*z,none⟩), ?_,hd _ _ ⟨b',o+i*z,cs,rfl,h7,h6⟩⟩
   have hb1:(0:Int)<=(i:Int)/\(i:Int)<(Cs.length:Nat):=by omega
   simp only [execOp,e,e2]
   rw [rH,run_indexAt_slice _ _ _ _ _ _ _ (by rw [hel];exact hu),if_pos hb1,hel]
   simp [sizeOf,typeInfo,hin,hz,rG]
theorem y8 {x:We} {t:Wb} {z:Nat} {Cs:List CU} (ht:P.underlying t=some (.slice (P.elem t))) (hx: ∀v W,Below w0.heap.size w0 W->(fct G x).p v W->(SF.row z Cs).p v W) (hd: ∀W,(G d).p (.int .i64 (Cs.length:Nat)) W:=by exact fun _=>rfl):qX F m P w0 ops G ⟨some d, .call ⟨.builtin .len,#[x],#[t]⟩,ty,pos,aft,none⟩:=by
 intro b W K Q hb hr hK
 obtain ⟨A,c,e,_⟩:=hx _ _ hb (qK hr (x:=x) (by simp [Op.operands,Call.operands]))
 refine ⟨fun f hf=>(by
  unfold Oper.about at hf
  simp [resolve,go_sem] at hf), ?_⟩
 rw [pP _ _ _ (fun _ e=>by cases e)]
 have:(execOp b.eval ⟨some d, .call ⟨.builtin .len,#[x],#[t]⟩,ty,pos,aft,none⟩).run P W= .ok (.value (.int .i64 (Cs.length:Nat))) W:=by
  simp [execOp,resolve,invoke,builtin,e,run_len_slice _ _ _ _ _ _ ht,goInt]
 rw [this]
 exact hK _ _ (fun d' e'=>by cases e';exact hd _) (pM _ _)
end
section
variable {F:Fence} {m:Nat} {P:Wf} {ops:Array Oper} {Q:Exit->Act->W8->Prop}
end
section
variable {S:Nat->Prop} {F:Fence} {m:Nat} {P:Wf} {ops:Array Oper} {Q:Exit->Act->W8->Prop} {w0:W8} {K:List (Nat×KF)} {B:List Bx} {n:Nat} {ds:List Deferred} {a:Act} {w:W8}
end
section
variable {S:Nat->Prop} {w0:W8} {K:List (Nat×KF)} {B:List Bx} {n:Nat} {ds:List Deferred} {a:Act} {w:W8}
end
theorem zS0 {P:Wf} {T:Array Wa->W8->SF->Prop} {f:FuncId} {caps:Array Wa} {W:W8} (he:Enters P f) (h: ∀W',Below W.heap.size W W'-> ∀args R,T args W' R->Calls P f (args++caps) W' (Ret W' R)):(SF.fn P T).p (.func (.func f) #[] caps) W:=⟨f,caps,rfl,he,h⟩
end Go.Proofs.Wd

namespace Go.Proofs.Wd
open Tryz
set_option maxRecDepth 100000
open Go.RowKit Lb
def zU7 (a b:Nat) (w:W8) (x y:Wa) (w':W8):Prop:= ∃p q:Nat,x= .int .u64 p/\y= .int .u64 q/\Nat.gcd p q=Nat.gcd a b/\p<18446744073709551616/\q<18446744073709551616/\Below w.heap.size w w'
theorem zLN {W:W8} {u v:Wa} (a b:Nat) (hu:u= .int .u64 (a:Int)) (hv:v= .int .u64 (b:Int)) (ha:a<18446744073709551616) (hb:b<18446744073709551616):Calls prog 56 #[u,v] W (Ret W (UF.eq (.int .u64 ((Nat.gcd a b:Nat):Int))).tS):=by
 subst hu
 subst hv
 have hmix:prog.follows .mixedOrders=true:=by kernel_rfl
 go_enter func56,ntmps56
 go_wp2
 go_loopw [0,1] (zU7 a b W) (fun _ y _=>(intOf y).toNat)
 case atStart=>exact ⟨a,b,rfl,rfl,rfl,ha,hb,pM _ _⟩
 case round=>
  obtain ⟨p,q,rfl,rfl,hg,hp,hq,hB⟩:=hrel
  have HG:=hid hg
  clear hg
  by_cases h0:0<q
  ·have hq0:(q:Int)≠0:=by omega
   have hmod:(p:Int).tmod (q:Int)=((p % q:Nat):Int):=by rw [Int.tmod_eq_emod_of_nonneg oN,Int.natCast_emod]
   have hlt:p % q<q:=Nat.mod_lt _ h0
   obtain ⟨r,hr⟩: ∃r,p % q=r:=⟨_,rfl⟩
   rw [hr] at hmod hlt
   have HR:=hid hr
   clear hr
   go_wp2
   refine (wpIn_wide (n:=0)).1 ?_
   refine yH 100 (fun _=>True) hmix ?_
   refine zW (i:=0) (v:= ?vv1) kG kG rfl kG kG kG (fun _ _ _ h=>h) trivial ⟨.inl ⟨rfl, ?yy1⟩,fun _=>rfl⟩ ?_
   case yy1=>
    rintro wx _
    go_simp
    first|done|rfl
   refine zW (i:=1) (v:= ?vv2) kG kG rfl kG kG kG (fun _ _ _ h=>h) trivial ⟨.inl ⟨rfl, ?yy2⟩,fun _=>rfl⟩ ?_
   case yy2=>
    rintro wx _
    go_simp
    first|done|rfl
   refine zW (i:=2) (v:= ?vv3) kG kG rfl kG kG kG (fun _ _ _ h=>h) trivial ⟨.inl ⟨rfl, ?yy3⟩,fun _=>rfl⟩ ?_
   case yy3=>
    rintro wx _
    go_simp
    first|done|rfl
   refine zW (i:=3) (v:= .int .u64 (r:Nat)) kG kG rfl kG kG kG (fun _ _ _ h=>h) trivial ⟨.inl ⟨rfl, ?y3⟩,fun _=>rfl⟩ ?_
   case y3=>
    rintro wx _
    go_simp
    omega
   refine zAx (i:=4) kG rfl (fun K hK=> ?_)
   go_simp
   refine hK _ _ (.inr trivial) ?_
   clear hK K
   refine zAx (i:=5) kG rfl (fun K hK=> ?_)
   go_simp
   refine hK _ _ (.inr trivial) ?_
   clear hK K
   refine zCj kG ?_
   go_wp2
   go_roundw
   case rel=>exact ⟨q,r,rfl,by go_num,by rw [<-HG.out, <-HR.out,Nat.gcd_comm p q,Nat.gcd_rec q p,Nat.gcd_comm],hq,by omega,hB.drew⟩
   case measure=>simp [intOf];omega
  ·obtain rfl:q=0:=by omega
   go_wp2
   go_ret
   have:=HG.out
   rw [Nat.gcd_zero_right] at this
   subst this
   exact ⟨_,rfl,rfl,hB⟩
end Go.Proofs.Wd

namespace Go.Proofs.Wd
open Tryz
set_option maxRecDepth 100000
open Go.RowKit Lb
def fDV (k k':Int):SF:=⟨fun v W=> ∃q r v1 v2,v= .tuple #[v1,v2, .int .i64 0]/\k=q*k'+r/\jO r k'/\NV W v1 q/\NV W v2 r,fun _ _ _ ⟨q,r,v1,v2,h1,h2,h3,h4,h5⟩ hb=>⟨q,r,v1,v2,h1,h2,h3,h4.below hb,h5.below hb⟩⟩
theorem zQ3 {W:W8} {m:Nat} {v v':Wa} {k k' q0:Int} {N R:Nat} (h:UV W m v k) (h':UV W m v' k') (hm:m<=2000) (h0:k'≠0) (hN:k.natAbs / k'.natAbs=N) (hR:k.natAbs % k'.natAbs=R) (hsb: ∀W,(binOp .neq 4 (.bool (decide (k<0))) (.bool (decide (k'<0)))).run prog W= .ok (.bool false) W) (hrb:false=decide (0<R)) (hq0:(if false then -(N:Int) else N)=q0) (hfr:jO (k - q0*k') k'):Calls prog 142 #[v,v'] W (Ret W (fDV k k')):=by
 have bk:Bd k m:=h.bd;have bk':Bd k' m:=h'.bd
 have hNm:N<BB^m:=by rw [<-hN];exact sA (sB _ _) bk
 have bq0:Bd q0 m:=by unfold Bd;rw [<-hq0,show (if false then -(N:Int) else N).natAbs=N from by simp];exact hNm
 have hm0:0<m:=sC fun e=>by subst e;unfold Bd at bk';rw [sD] at bk';omega
 have b1:Bd 1 m:=pT (show (1:Int).natAbs<BB^1 by decide) (rM y4 oN)
 have bqk:Bd (q0*k') (m+1+m):=Bd.mul (bq0.mono oN) bk'
 have hdv: ∀W u0 u1,LV W m u0 k.natAbs->LV W m u1 k'.natAbs->Calls prog 58 #[u0,u1] W (Ret W (wR (yQ N).tS (yQ R).tS (uI 0).tS)):=fun W u0 u1 h1 h2=>by
  refine (zHc h1 h2 oN (sE.2 h0)).mono ?_
  rintro e w' ⟨v1,v2,rfl,h3,h4,hb⟩
  rw [hN] at h3;rw [hR] at h4
  exact ⟨_,rfl,⟨v1,v2,_,rfl,h3,h4,rfl⟩,hb⟩
 have hbi: ∀u v W,u= .bool false->y7 W v N-> ∃cells,prog.built 25 [(0,u),(1,v)]=some cells/\UV W m (.agg cells) q0:=fun u v W hu hv=>by
  have:=zFD hu hv hNm
  rw [hq0] at this
  exact this
 refine z9 [(fUV m k).tS,(fUV m k').tS] func142 rfl kG ⟨h,h',trivial⟩ fun a s=> ?_
 refine pH ?_
 refine zC 0 [] hmix s kG
  zD fun a w1 s=> ?_
 refine yD (CU.agg (fUV m k)) rfl s kG (fun v W h=>zCg h) fun b2 a w s=> ?_
 refine yD (CU.agg (fUV m k')) rfl s kG (fun v W h=>zCg h) fun b3 a w s=> ?_
 refine z4 (CU.len 2) (cs:= [.bool false, .slice none 0 0]) kG rfl s kG (fun W=>rfl) rfl fun b4 a w s=> ?_
 refine z4 (CU.len 2) (cs:= [.bool false, .slice none 0 0]) kG rfl s kG (fun W=>rfl) rfl fun b5 a w s=> ?_
 refine zS (uI 0) rfl s kG iiz fun a w s=> ?_
 refine zA rfl ?_
 refine pH ?_
 refine zC 12 ((12, .X (fUV m k) 1)::(13, .Z (fLV m ((k).natAbs)))::(14, .X (fUV m k') 1)::(15, .Z (fLV m ((k').natAbs)))::(16, .Z (zBu (yQ N) (yQ R) (uI 0)))::(11, .Z (zBu (yQ N) (yQ R) (uI 0)))::(17, .Z (yQ N))::(18, .Z (yQ R))::(19, .Z (uI 0))::(7, .u (yQ N))::(8, .u (yQ R))::(9, .u (uI 0)):: []) hmix s kG
  (oc (zK (C:=cg (fUV m k)) 1 kG)<|oc (yL (C:=cg (fUV m k)) (k:=1) kG (h:=zEk))<|oc (zK (C:=cg (fUV m k')) 1 kG)<|oc (yL (C:=cg (fUV m k')) (k:=1) kG (h:=zEk))<|oc (zJ zE zKP (fun u0 u1 W hb (h0:LV W m u0 ((k).natAbs)) (h1:LV W m u1 ((k').natAbs))=>hdv W u0 u1 h0 h1))<|oc zB<|oc (zBr (A:=(yQ N).tS) (B:=(yQ R).tS) (C:=(uI 0).tS) iiz)<|oc (zBq (A:=(yQ N).tS) (B:=(yQ R).tS) (C:=(uI 0).tS) iiz)<|oc (zBp (A:=(yQ N).tS) (B:=(yQ R).tS) (C:=(uI 0).tS) iiz)<|oc zF<|oc zF<|oc zF<|zD) fun a w2 s=> ?_
 refine zA rfl ?_
 refine pH ?_
 refine pH ?_
 refine zC 2 ((20, .Z (uI 0))::(21, .u (uB false)):: []) hmix s kG
  (oc zB<|oc (zAC (.int .i64 0) (.int .i64 0) (.bool false) iiz iiz (fun _=>rfl) (fun _=>rfl) (fun _=>rfl))<|zD) fun a w3 s=> ?_
 refine zA rfl ?_
 refine StS.cond s false iiz (fun e=>by cases e) (fun e=> ?_)
 refine rF ?_
 refine pH ?_
 refine yC [] 4 ((25, .Z (fUV m k))::(26, .u (fNV k))::(27, .Z (fUV m k'))::(28, .u (fNV k')):: []) hmix s kG
  (oc (zI (f:=fUV m k) 2 kG (hz:=zAQ _ _))<|oc (zH zE zDk (fun u0 W hb (h0:UV W m u0 k)=>j5 h0 oN))<|oc (zI (f:=fUV m k') 2 kG (hz:=zAQ _ _))<|oc (zH zE zDk (fun u0 W hb (h0:UV W m u0 k')=>j5 h0 oN))<|zD) fun Q' hQ a w4 s=> ?_
 refine zN (CU.agg (fNV k)) ((fNV k).tS) rfl s kG rfl rfl rfl (zAQ _ _) iiz y2 fun a w s=> ?_
 refine zN (CU.agg (fNV k')) ((fNV k').tS) rfl s kG rfl rfl rfl (zAQ _ _) iiz y2 fun a w s=> ?_
 refine zA rfl (hQ _ _ ?_)
 refine pH ?_
 refine zC 8 ((29, .X (fNV k) 0)::(30, .Z (uB (decide (k<0))))::(31, .X (fNV k') 0)::(32, .Z (uB (decide (k'<0))))::(33, .Z (uB false))::(34, .Z (yQ N))::(35, .Z (fUV m q0))::(36, .u (fNV q0)):: []) hmix s kG
  (oc (zK (C:=cg (fNV k)) 0 kG)<|oc (yL (C:=cg (fNV k)) (k:=0) kG (h:=zA1))<|oc (zK (C:=cg (fNV k')) 0 kG)<|oc (yL (C:=cg (fNV k')) (k:=0) kG (h:=zA1))<|oc (zAC (.bool (decide (k<0))) (.bool (decide (k'<0))) (.bool false) iiz iiz (fun _=>rfl) hsb (fun _=>rfl))<|oc zB<|oc (yS hbi)<|oc (zH zE zDk (fun u0 W hb (h0:UV W m u0 q0)=>j5 h0 oN))<|zD) fun a w5 s=> ?_
 refine z4 (CU.len 2) (cs:= [.bool false, .slice none 0 0]) kG rfl s kG (fun W=>rfl) rfl fun b10 a w s=> ?_
 refine zN (CU.agg (fNV q0)) ((fNV q0).tS) rfl s kG rfl rfl rfl iiz iiz y2 fun a w s=> ?_
 refine zA rfl ?_
 refine pH ?_
 refine pH ?_
 refine zC 10 ((37, .X (fNV k) 0)::(38, .Z (uB (decide (k<0))))::(39, .X (fNV k') 0)::(40, .Z (uB (decide (k'<0))))::(41, .Z (uB false))::(42, .Z (uB false))::(46, .u (uB false)):: []) hmix s kG
  (oc (zK (C:=cg (fNV k)) 0 kG)<|oc (yL (C:=cg (fNV k)) (k:=0) kG (h:=zA1))<|oc (zK (C:=cg (fNV k')) 0 kG)<|oc (yL (C:=cg (fNV k')) (k:=0) kG (h:=zA1))<|oc (zAC (.bool (decide (k<0))) (.bool (decide (k'<0))) (.bool false) iiz iiz (fun _=>rfl) hsb (fun _=>rfl))<|oc zB<|oc (zG 42 false kG iiz (fun e=>by cases e) (fun _ _=>trivial))<|oc (zG 42 false kG iiz (fun e=>by cases e) (fun _ _=>trivial))<|oc (zG 42 false kG iiz (fun e=>by cases e) (fun _ _=>trivial))<|oc (yO false iiz (fun e=>by cases e) (fun _ _ _ h=>h))<|zD) fun a w6 s=> ?_
 refine zA rfl ?_
 refine StS.cond s false iiz (fun e=>by cases e) (fun e=> ?_)
 refine rF ?_
 refine pH ?_
 replace s:=s.drop [6]
 refine yC [] 7 ((50, .u (fNV q0))::(51, .Z (fNV k))::(52, .Z (fNV q0))::(53, .Z (fNV k'))::(54, .s (zFU (m+1) [q0,k']))::(55, .Z (fNV (q0*k')))::(56, .u (fNV (k - q0*k'))):: []) hmix s kG
  (oc (zI (f:=fNV q0) 2 kG (hz:=qQ _))<|oc (zI (f:=fNV k) 2 kG (hz:=qQ _))<|oc (zI (f:=fNV q0) 2 kG (hz:=qQ _))<|oc (zI (f:=fNV k') 2 kG (hz:=qQ _))<|oc (yK (fun u v W (hu:NV W u q0) (hv:NV W v k')=>jV (NV.uv' hu (Bd.mono bq0 (m':=(m+1)) (by first|omega|decide))) (NV.uv' hv (Bd.mono bk' (m':=(m+1)) (by first|omega|decide)))))<|oc (zH zE zFm (fun u0 W hb (h0:ISV W (m+1) u0 [q0,k'])=>zBA h0 (by show (m+1)*2+(m+1)+1<=40000;omega) (by simp) (by simp)))<|oc (zJ zE zKT (fun u0 u1 W hb (h0:NV W u0 k) (h1:NV W u1 (q0*k'))=>zD7 (NV.uv' h0 (Bd.mono bk (m':=(m+1+m)) (by first|omega|decide))) (NV.uv' h1 bqk) oN))<|zD) fun Q' hQ a w7 s=> ?_
 refine zN (CU.agg (fNV q0)) ((fNV q0).tS) rfl s kG rfl rfl rfl iiz iiz y2 fun a w s=> ?_
 refine zN (CU.agg (fNV (k - q0*k'))) ((fNV (k - q0*k')).tS) rfl s kG rfl rfl rfl iiz iiz y2 fun a w s=> ?_
 refine zS (uI 0) rfl s kG iiz fun a w s=> ?_
 refine zA rfl (hQ _ _ ?_)
 refine wpIn_ret ?_
 refine wZ s (CU.agg (fNV q0)) (CU.agg (fNV (k - q0*k'))) rfl kG kG rfl rfl (qQ _) rfl rfl (qQ _) (fun cs cs' v W h1 h2 h3=> ?_)
 exact ⟨q0,_,_,_,by rw [show v=_ from h3],by omega,hfr,h1,h2⟩
theorem zQ2 {W:W8} {m:Nat} {v v':Wa} {k k' q0:Int} {N R:Nat} (h:UV W m v k) (h':UV W m v' k') (hm:m<=2000) (h0:k'≠0) (hN:k.natAbs / k'.natAbs=N) (hR:k.natAbs % k'.natAbs=R) (hsb: ∀W,(binOp .neq 4 (.bool (decide (k<0))) (.bool (decide (k'<0)))).run prog W= .ok (.bool false) W) (hrb:true=decide (0<R)) (hq0:(if false then -(N:Int) else N)=q0) (hfr:jO (k - q0*k') k'):Calls prog 142 #[v,v'] W (Ret W (fDV k k')):=by
 have bk:Bd k m:=h.bd;have bk':Bd k' m:=h'.bd
 have hNm:N<BB^m:=by rw [<-hN];exact sA (sB _ _) bk
 have bq0:Bd q0 m:=by unfold Bd;rw [<-hq0,show (if false then -(N:Int) else N).natAbs=N from by simp];exact hNm
 have hm0:0<m:=sC fun e=>by subst e;unfold Bd at bk';rw [sD] at bk';omega
 have b1:Bd 1 m:=pT (show (1:Int).natAbs<BB^1 by decide) (rM y4 oN)
 have bqk:Bd (q0*k') (m+1+m):=Bd.mul (bq0.mono oN) bk'
 have hdv: ∀W u0 u1,LV W m u0 k.natAbs->LV W m u1 k'.natAbs->Calls prog 58 #[u0,u1] W (Ret W (wR (yQ N).tS (yQ R).tS (uI 0).tS)):=fun W u0 u1 h1 h2=>by
  refine (zHc h1 h2 oN (sE.2 h0)).mono ?_
  rintro e w' ⟨v1,v2,rfl,h3,h4,hb⟩
  rw [hN] at h3;rw [hR] at h4
  exact ⟨_,rfl,⟨v1,v2,_,rfl,h3,h4,rfl⟩,hb⟩
 have hbi: ∀u v W,u= .bool false->y7 W v N-> ∃cells,prog.built 25 [(0,u),(1,v)]=some cells/\UV W m (.agg cells) q0:=fun u v W hu hv=>by
  have:=zFD hu hv hNm
  rw [hq0] at this
  exact this
 refine z9 [(fUV m k).tS,(fUV m k').tS] func142 rfl kG ⟨h,h',trivial⟩ fun a s=> ?_
 refine pH ?_
 refine zC 0 [] hmix s kG
  zD fun a w1 s=> ?_
 refine yD (CU.agg (fUV m k)) rfl s kG (fun v W h=>zCg h) fun b2 a w s=> ?_
 refine yD (CU.agg (fUV m k')) rfl s kG (fun v W h=>zCg h) fun b3 a w s=> ?_
 refine z4 (CU.len 2) (cs:= [.bool false, .slice none 0 0]) kG rfl s kG (fun W=>rfl) rfl fun b4 a w s=> ?_
 refine z4 (CU.len 2) (cs:= [.bool false, .slice none 0 0]) kG rfl s kG (fun W=>rfl) rfl fun b5 a w s=> ?_
 refine zS (uI 0) rfl s kG iiz fun a w s=> ?_
 refine zA rfl ?_
 refine pH ?_
 refine zC 12 ((12, .X (fUV m k) 1)::(13, .Z (fLV m ((k).natAbs)))::(14, .X (fUV m k') 1)::(15, .Z (fLV m ((k').natAbs)))::(16, .Z (zBu (yQ N) (yQ R) (uI 0)))::(11, .Z (zBu (yQ N) (yQ R) (uI 0)))::(17, .Z (yQ N))::(18, .Z (yQ R))::(19, .Z (uI 0))::(7, .u (yQ N))::(8, .u (yQ R))::(9, .u (uI 0)):: []) hmix s kG
  (oc (zK (C:=cg (fUV m k)) 1 kG)<|oc (yL (C:=cg (fUV m k)) (k:=1) kG (h:=zEk))<|oc (zK (C:=cg (fUV m k')) 1 kG)<|oc (yL (C:=cg (fUV m k')) (k:=1) kG (h:=zEk))<|oc (zJ zE zKP (fun u0 u1 W hb (h0:LV W m u0 ((k).natAbs)) (h1:LV W m u1 ((k').natAbs))=>hdv W u0 u1 h0 h1))<|oc zB<|oc (zBr (A:=(yQ N).tS) (B:=(yQ R).tS) (C:=(uI 0).tS) iiz)<|oc (zBq (A:=(yQ N).tS) (B:=(yQ R).tS) (C:=(uI 0).tS) iiz)<|oc (zBp (A:=(yQ N).tS) (B:=(yQ R).tS) (C:=(uI 0).tS) iiz)<|oc zF<|oc zF<|oc zF<|zD) fun a w2 s=> ?_
 refine zA rfl ?_
 refine pH ?_
 refine pH ?_
 refine zC 2 ((20, .Z (uI 0))::(21, .u (uB false)):: []) hmix s kG
  (oc zB<|oc (zAC (.int .i64 0) (.int .i64 0) (.bool false) iiz iiz (fun _=>rfl) (fun _=>rfl) (fun _=>rfl))<|zD) fun a w3 s=> ?_
 refine zA rfl ?_
 refine StS.cond s false iiz (fun e=>by cases e) (fun e=> ?_)
 refine rF ?_
 refine pH ?_
 refine yC [] 4 ((25, .Z (fUV m k))::(26, .u (fNV k))::(27, .Z (fUV m k'))::(28, .u (fNV k')):: []) hmix s kG
  (oc (zI (f:=fUV m k) 2 kG (hz:=zAQ _ _))<|oc (zH zE zDk (fun u0 W hb (h0:UV W m u0 k)=>j5 h0 oN))<|oc (zI (f:=fUV m k') 2 kG (hz:=zAQ _ _))<|oc (zH zE zDk (fun u0 W hb (h0:UV W m u0 k')=>j5 h0 oN))<|zD) fun Q' hQ a w4 s=> ?_
 refine zN (CU.agg (fNV k)) ((fNV k).tS) rfl s kG rfl rfl rfl (zAQ _ _) iiz y2 fun a w s=> ?_
 refine zN (CU.agg (fNV k')) ((fNV k').tS) rfl s kG rfl rfl rfl (zAQ _ _) iiz y2 fun a w s=> ?_
 refine zA rfl (hQ _ _ ?_)
 refine pH ?_
 refine zC 8 ((29, .X (fNV k) 0)::(30, .Z (uB (decide (k<0))))::(31, .X (fNV k') 0)::(32, .Z (uB (decide (k'<0))))::(33, .Z (uB false))::(34, .Z (yQ N))::(35, .Z (fUV m q0))::(36, .u (fNV q0)):: []) hmix s kG
  (oc (zK (C:=cg (fNV k)) 0 kG)<|oc (yL (C:=cg (fNV k)) (k:=0) kG (h:=zA1))<|oc (zK (C:=cg (fNV k')) 0 kG)<|oc (yL (C:=cg (fNV k')) (k:=0) kG (h:=zA1))<|oc (zAC (.bool (decide (k<0))) (.bool (decide (k'<0))) (.bool false) iiz iiz (fun _=>rfl) hsb (fun _=>rfl))<|oc zB<|oc (yS hbi)<|oc (zH zE zDk (fun u0 W hb (h0:UV W m u0 q0)=>j5 h0 oN))<|zD) fun a w5 s=> ?_
 refine z4 (CU.len 2) (cs:= [.bool false, .slice none 0 0]) kG rfl s kG (fun W=>rfl) rfl fun b10 a w s=> ?_
 refine zN (CU.agg (fNV q0)) ((fNV q0).tS) rfl s kG rfl rfl rfl iiz iiz y2 fun a w s=> ?_
 refine zA rfl ?_
 refine pH ?_
 refine pH ?_
 refine zC 10 ((37, .X (fNV k) 0)::(38, .Z (uB (decide (k<0))))::(39, .X (fNV k') 0)::(40, .Z (uB (decide (k'<0))))::(41, .Z (uB false))::(42, .Z (uB false))::(46, .u (uB false)):: []) hmix s kG
  (oc (zK (C:=cg (fNV k)) 0 kG)<|oc (yL (C:=cg (fNV k)) (k:=0) kG (h:=zA1))<|oc (zK (C:=cg (fNV k')) 0 kG)<|oc (yL (C:=cg (fNV k')) (k:=0) kG (h:=zA1))<|oc (zAC (.bool (decide (k<0))) (.bool (decide (k'<0))) (.bool false) iiz iiz (fun _=>rfl) hsb (fun _=>rfl))<|oc zB<|oc (zG 42 false kG iiz (fun e=>by cases e) (fun _ _=>trivial))<|oc (zG 42 false kG iiz (fun e=>by cases e) (fun _ _=>trivial))<|oc (zG 42 false kG iiz (fun e=>by cases e) (fun _ _=>trivial))<|oc (yO false iiz (fun e=>by cases e) (fun _ _ _ h=>h))<|zD) fun a w6 s=> ?_
 refine zA rfl ?_
 refine StS.cond s false iiz (fun e=>by cases e) (fun e=> ?_)
 refine rF ?_
 refine pH ?_
 replace s:=s.drop [6]
 refine yC [] 7 ((50, .u (fNV q0))::(51, .Z (fNV k))::(52, .Z (fNV q0))::(53, .Z (fNV k'))::(54, .s (zFU (m+1) [q0,k']))::(55, .Z (fNV (q0*k')))::(56, .u (fNV (k - q0*k'))):: []) hmix s kG
  (oc (zI (f:=fNV q0) 2 kG (hz:=qQ _))<|oc (zI (f:=fNV k) 2 kG (hz:=qQ _))<|oc (zI (f:=fNV q0) 2 kG (hz:=qQ _))<|oc (zI (f:=fNV k') 2 kG (hz:=qQ _))<|oc (yK (fun u v W (hu:NV W u q0) (hv:NV W v k')=>jV (NV.uv' hu (Bd.mono bq0 (m':=(m+1)) (by first|omega|decide))) (NV.uv' hv (Bd.mono bk' (m':=(m+1)) (by first|omega|decide)))))<|oc (zH zE zFm (fun u0 W hb (h0:ISV W (m+1) u0 [q0,k'])=>zBA h0 (by show (m+1)*2+(m+1)+1<=40000;omega) (by simp) (by simp)))<|oc (zJ zE zKT (fun u0 u1 W hb (h0:NV W u0 k) (h1:NV W u1 (q0*k'))=>zD7 (NV.uv' h0 (Bd.mono bk (m':=(m+1+m)) (by first|omega|decide))) (NV.uv' h1 bqk) oN))<|zD) fun Q' hQ a w7 s=> ?_
 refine zN (CU.agg (fNV q0)) ((fNV q0).tS) rfl s kG rfl rfl rfl iiz iiz y2 fun a w s=> ?_
 refine zN (CU.agg (fNV (k - q0*k'))) ((fNV (k - q0*k')).tS) rfl s kG rfl rfl rfl iiz iiz y2 fun a w s=> ?_
 refine zS (uI 0) rfl s kG iiz fun a w s=> ?_
 refine zA rfl (hQ _ _ ?_)
 refine wpIn_ret ?_
 refine wZ s (CU.agg (fNV q0)) (CU.agg (fNV (k - q0*k'))) rfl kG kG rfl rfl (qQ _) rfl rfl (qQ _) (fun cs cs' v W h1 h2 h3=> ?_)
 exact ⟨q0,_,_,_,by rw [show v=_ from h3],by omega,hfr,h1,h2⟩
theorem zQ1 {W:W8} {m:Nat} {v v':Wa} {k k' q0:Int} {N R:Nat} (h:UV W m v k) (h':UV W m v' k') (hm:m<=2000) (h0:k'≠0) (hN:k.natAbs / k'.natAbs=N) (hR:k.natAbs % k'.natAbs=R) (hsb: ∀W,(binOp .neq 4 (.bool (decide (k<0))) (.bool (decide (k'<0)))).run prog W= .ok (.bool true) W) (hrb:false=decide (0<R)) (hq0:(if true then -(N:Int) else N)=q0) (hfr:jO (k - q0*k') k'):Calls prog 142 #[v,v'] W (Ret W (fDV k k')):=by
 have bk:Bd k m:=h.bd;have bk':Bd k' m:=h'.bd
 have hNm:N<BB^m:=by rw [<-hN];exact sA (sB _ _) bk
 have bq0:Bd q0 m:=by unfold Bd;rw [<-hq0,show (if true then -(N:Int) else N).natAbs=N from by simp];exact hNm
 have hm0:0<m:=sC fun e=>by subst e;unfold Bd at bk';rw [sD] at bk';omega
 have b1:Bd 1 m:=pT (show (1:Int).natAbs<BB^1 by decide) (rM y4 oN)
 have bqk:Bd (q0*k') (m+1+m):=Bd.mul (bq0.mono oN) bk'
 have hdv: ∀W u0 u1,LV W m u0 k.natAbs->LV W m u1 k'.natAbs->Calls prog 58 #[u0,u1] W (Ret W (wR (yQ N).tS (yQ R).tS (uI 0).tS)):=fun W u0 u1 h1 h2=>by
  refine (zHc h1 h2 oN (sE.2 h0)).mono ?_
  rintro e w' ⟨v1,v2,rfl,h3,h4,hb⟩
  rw [hN] at h3;rw [hR] at h4
  exact ⟨_,rfl,⟨v1,v2,_,rfl,h3,h4,rfl⟩,hb⟩
 have hbi: ∀u v W,u= .bool true->y7 W v N-> ∃cells,prog.built 25 [(0,u),(1,v)]=some cells/\UV W m (.agg cells) q0:=fun u v W hu hv=>by
  have:=zFD hu hv hNm
  rw [hq0] at this
  exact this
 refine z9 [(fUV m k).tS,(fUV m k').tS] func142 rfl kG ⟨h,h',trivial⟩ fun a s=> ?_
 refine pH ?_
 refine zC 0 [] hmix s kG
  zD fun a w1 s=> ?_
 refine yD (CU.agg (fUV m k)) rfl s kG (fun v W h=>zCg h) fun b2 a w s=> ?_
 refine yD (CU.agg (fUV m k')) rfl s kG (fun v W h=>zCg h) fun b3 a w s=> ?_
 refine z4 (CU.len 2) (cs:= [.bool false, .slice none 0 0]) kG rfl s kG (fun W=>rfl) rfl fun b4 a w s=> ?_
 refine z4 (CU.len 2) (cs:= [.bool false, .slice none 0 0]) kG rfl s kG (fun W=>rfl) rfl fun b5 a w s=> ?_
 refine zS (uI 0) rfl s kG iiz fun a w s=> ?_
 refine zA rfl ?_
 refine pH ?_
 refine zC 12 ((12, .X (fUV m k) 1)::(13, .Z (fLV m ((k).natAbs)))::(14, .X (fUV m k') 1)::(15, .Z (fLV m ((k').natAbs)))::(16, .Z (zBu (yQ N) (yQ R) (uI 0)))::(11, .Z (zBu (yQ N) (yQ R) (uI 0)))::(17, .Z (yQ N))::(18, .Z (yQ R))::(19, .Z (uI 0))::(7, .u (yQ N))::(8, .u (yQ R))::(9, .u (uI 0)):: []) hmix s kG
  (oc (zK (C:=cg (fUV m k)) 1 kG)<|oc (yL (C:=cg (fUV m k)) (k:=1) kG (h:=zEk))<|oc (zK (C:=cg (fUV m k')) 1 kG)<|oc (yL (C:=cg (fUV m k')) (k:=1) kG (h:=zEk))<|oc (zJ zE zKP (fun u0 u1 W hb (h0:LV W m u0 ((k).natAbs)) (h1:LV W m u1 ((k').natAbs))=>hdv W u0 u1 h0 h1))<|oc zB<|oc (zBr (A:=(yQ N).tS) (B:=(yQ R).tS) (C:=(uI 0).tS) iiz)<|oc (zBq (A:=(yQ N).tS) (B:=(yQ R).tS) (C:=(uI 0).tS) iiz)<|oc (zBp (A:=(yQ N).tS) (B:=(yQ R).tS) (C:=(uI 0).tS) iiz)<|oc zF<|oc zF<|oc zF<|zD) fun a w2 s=> ?_
 refine zA rfl ?_
 refine pH ?_
 refine pH ?_
 refine zC 2 ((20, .Z (uI 0))::(21, .u (uB false)):: []) hmix s kG
  (oc zB<|oc (zAC (.int .i64 0) (.int .i64 0) (.bool false) iiz iiz (fun _=>rfl) (fun _=>rfl) (fun _=>rfl))<|zD) fun a w3 s=> ?_
 refine zA rfl ?_
 refine StS.cond s false iiz (fun e=>by cases e) (fun e=> ?_)
 refine rF ?_
 refine pH ?_
 refine yC [] 4 ((25, .Z (fUV m k))::(26, .u (fNV k))::(27, .Z (fUV m k'))::(28, .u (fNV k')):: []) hmix s kG
  (oc (zI (f:=fUV m k) 2 kG (hz:=zAQ _ _))<|oc (zH zE zDk (fun u0 W hb (h0:UV W m u0 k)=>j5 h0 oN))<|oc (zI (f:=fUV m k') 2 kG (hz:=zAQ _ _))<|oc (zH zE zDk (fun u0 W hb (h0:UV W m u0 k')=>j5 h0 oN))<|zD) fun Q' hQ a w4 s=> ?_
 refine zN (CU.agg (fNV k)) ((fNV k).tS) rfl s kG rfl rfl rfl (zAQ _ _) iiz y2 fun a w s=> ?_
 refine zN (CU.agg (fNV k')) ((fNV k').tS) rfl s kG rfl rfl rfl (zAQ _ _) iiz y2 fun a w s=> ?_
 refine zA rfl (hQ _ _ ?_)
 refine pH ?_
 refine zC 8 ((29, .X (fNV k) 0)::(30, .Z (uB (decide (k<0))))::(31, .X (fNV k') 0)::(32, .Z (uB (decide (k'<0))))::(33, .Z (uB true))::(34, .Z (yQ N))::(35, .Z (fUV m q0))::(36, .u (fNV q0)):: []) hmix s kG
  (oc (zK (C:=cg (fNV k)) 0 kG)<|oc (yL (C:=cg (fNV k)) (k:=0) kG (h:=zA1))<|oc (zK (C:=cg (fNV k')) 0 kG)<|oc (yL (C:=cg (fNV k')) (k:=0) kG (h:=zA1))<|oc (zAC (.bool (decide (k<0))) (.bool (decide (k'<0))) (.bool true) iiz iiz (fun _=>rfl) hsb (fun _=>rfl))<|oc zB<|oc (yS hbi)<|oc (zH zE zDk (fun u0 W hb (h0:UV W m u0 q0)=>j5 h0 oN))<|zD) fun a w5 s=> ?_
 refine z4 (CU.len 2) (cs:= [.bool false, .slice none 0 0]) kG rfl s kG (fun W=>rfl) rfl fun b10 a w s=> ?_
 refine zN (CU.agg (fNV q0)) ((fNV q0).tS) rfl s kG rfl rfl rfl iiz iiz y2 fun a w s=> ?_
 refine zA rfl ?_
 refine pH ?_
 refine pH ?_
 refine zC 10 ((37, .X (fNV k) 0)::(38, .Z (uB (decide (k<0))))::(39, .X (fNV k') 0)::(40, .Z (uB (decide (k'<0))))::(41, .Z (uB true))::(42, .Z (uB true))::(43, .Z (yQ R))::(44, .s (zMW R))::(45, .Z (uB false))::(46, .u (uB false)):: []) hmix s kG
  (oc (zK (C:=cg (fNV k)) 0 kG)<|oc (yL (C:=cg (fNV k)) (k:=0) kG (h:=zA1))<|oc (zK (C:=cg (fNV k')) 0 kG)<|oc (yL (C:=cg (fNV k')) (k:=0) kG (h:=zA1))<|oc (zAC (.bool (decide (k<0))) (.bool (decide (k'<0))) (.bool true) iiz iiz (fun _=>rfl) hsb (fun _=>rfl))<|oc zB<|oc (zG 42 true kG iiz (fun _=>zB) arf)<|oc (zG 42 true kG iiz (fun _=>zCB kG iiz) arf)<|oc (zG 42 true kG iiz (fun _=>zMm hrb) arf)<|oc (yO true iiz (fun _ _ _ h=>h) (fun e=>by cases e))<|zD) fun a w6 s=> ?_
 refine zA rfl ?_
 refine StS.cond s false iiz (fun e=>by cases e) (fun e=> ?_)
 refine rF ?_
 refine pH ?_
 replace s:=s.drop [6]
 refine yC [] 7 ((50, .u (fNV q0))::(51, .Z (fNV k))::(52, .Z (fNV q0))::(53, .Z (fNV k'))::(54, .s (zFU (m+1) [q0,k']))::(55, .Z (fNV (q0*k')))::(56, .u (fNV (k - q0*k'))):: []) hmix s kG
  (oc (zI (f:=fNV q0) 2 kG (hz:=qQ _))<|oc (zI (f:=fNV k) 2 kG (hz:=qQ _))<|oc (zI (f:=fNV q0) 2 kG (hz:=qQ _))<|oc (zI (f:=fNV k') 2 kG (hz:=qQ _))<|oc (yK (fun u v W (hu:NV W u q0) (hv:NV W v k')=>jV (NV.uv' hu (Bd.mono bq0 (m':=(m+1)) (by first|omega|decide))) (NV.uv' hv (Bd.mono bk' (m':=(m+1)) (by first|omega|decide)))))<|oc (zH zE zFm (fun u0 W hb (h0:ISV W (m+1) u0 [q0,k'])=>zBA h0 (by show (m+1)*2+(m+1)+1<=40000;omega) (by simp) (by simp)))<|oc (zJ zE zKT (fun u0 u1 W hb (h0:NV W u0 k) (h1:NV W u1 (q0*k'))=>zD7 (NV.uv' h0 (Bd.mono bk (m':=(m+1+m)) (by first|omega|decide))) (NV.uv' h1 bqk) oN))<|zD) fun Q' hQ a w7 s=> ?_
 refine zN (CU.agg (fNV q0)) ((fNV q0).tS) rfl s kG rfl rfl rfl iiz iiz y2 fun a w s=> ?_
 refine zN (CU.agg (fNV (k - q0*k'))) ((fNV (k - q0*k')).tS) rfl s kG rfl rfl rfl iiz iiz y2 fun a w s=> ?_
 refine zS (uI 0) rfl s kG iiz fun a w s=> ?_
 refine zA rfl (hQ _ _ ?_)
 refine wpIn_ret ?_
 refine wZ s (CU.agg (fNV q0)) (CU.agg (fNV (k - q0*k'))) rfl kG kG rfl rfl (qQ _) rfl rfl (qQ _) (fun cs cs' v W h1 h2 h3=> ?_)
 exact ⟨q0,_,_,_,by rw [show v=_ from h3],by omega,hfr,h1,h2⟩
theorem zQ0 {W:W8} {m:Nat} {v v':Wa} {k k' q0:Int} {N R:Nat} (h:UV W m v k) (h':UV W m v' k') (hm:m<=2000) (h0:k'≠0) (hN:k.natAbs / k'.natAbs=N) (hR:k.natAbs % k'.natAbs=R) (hsb: ∀W,(binOp .neq 4 (.bool (decide (k<0))) (.bool (decide (k'<0)))).run prog W= .ok (.bool true) W) (hrb:true=decide (0<R)) (hq0:(if true then -(N:Int) else N)=q0) (hfr:jO (k - (q0 - 1)*k') k'):Calls prog 142 #[v,v'] W (Ret W (fDV k k')):=by
 have bk:Bd k m:=h.bd;have bk':Bd k' m:=h'.bd
 have hNm:N<BB^m:=by rw [<-hN];exact sA (sB _ _) bk
 have bq0:Bd q0 m:=by unfold Bd;rw [<-hq0,show (if true then -(N:Int) else N).natAbs=N from by simp];exact hNm
 have hm0:0<m:=sC fun e=>by subst e;unfold Bd at bk';rw [sD] at bk';omega
 have b1:Bd 1 m:=pT (show (1:Int).natAbs<BB^1 by decide) (rM y4 oN)
 have bq:Bd (q0 - 1) (m+1):=bq0.sub b1
 have bqk:Bd ((q0 - 1)*k') (m+1+m):=Bd.mul bq bk'
 have hdv: ∀W u0 u1,LV W m u0 k.natAbs->LV W m u1 k'.natAbs->Calls prog 58 #[u0,u1] W (Ret W (wR (yQ N).tS (yQ R).tS (uI 0).tS)):=fun W u0 u1 h1 h2=>by
  refine (zHc h1 h2 oN (sE.2 h0)).mono ?_
  rintro e w' ⟨v1,v2,rfl,h3,h4,hb⟩
  rw [hN] at h3;rw [hR] at h4
  exact ⟨_,rfl,⟨v1,v2,_,rfl,h3,h4,rfl⟩,hb⟩
 have hbi: ∀u v W,u= .bool true->y7 W v N-> ∃cells,prog.built 25 [(0,u),(1,v)]=some cells/\UV W m (.agg cells) q0:=fun u v W hu hv=>by
  have:=zFD hu hv hNm
  rw [hq0] at this
  exact this
 refine z9 [(fUV m k).tS,(fUV m k').tS] func142 rfl kG ⟨h,h',trivial⟩ fun a s=> ?_
 refine pH ?_
 refine zC 0 [] hmix s kG
  zD fun a w1 s=> ?_
 refine yD (CU.agg (fUV m k)) rfl s kG (fun v W h=>zCg h) fun b2 a w s=> ?_
 refine yD (CU.agg (fUV m k')) rfl s kG (fun v W h=>zCg h) fun b3 a w s=> ?_
 refine z4 (CU.len 2) (cs:= [.bool false, .slice none 0 0]) kG rfl s kG (fun W=>rfl) rfl fun b4 a w s=> ?_
 refine z4 (CU.len 2) (cs:= [.bool false, .slice none 0 0]) kG rfl s kG (fun W=>rfl) rfl fun b5 a w s=> ?_
 refine zS (uI 0) rfl s kG iiz fun a w s=> ?_
 refine zA rfl ?_
 refine pH ?_
 refine zC 12 ((12, .X (fUV m k) 1)::(13, .Z (fLV m ((k).natAbs)))::(14, .X (fUV m k') 1)::(15, .Z (fLV m ((k').natAbs)))::(16, .Z (zBu (yQ N) (yQ R) (uI 0)))::(11, .Z (zBu (yQ N) (yQ R) (uI 0)))::(17, .Z (yQ N))::(18, .Z (yQ R))::(19, .Z (uI 0))::(7, .u (yQ N))::(8, .u (yQ R))::(9, .u (uI 0)):: []) hmix s kG
  (oc (zK (C:=cg (fUV m k)) 1 kG)<|oc (yL (C:=cg (fUV m k)) (k:=1) kG (h:=zEk))<|oc (zK (C:=cg (fUV m k')) 1 kG)<|oc (yL (C:=cg (fUV m k')) (k:=1) kG (h:=zEk))<|oc (zJ zE zKP (fun u0 u1 W hb (h0:LV W m u0 ((k).natAbs)) (h1:LV W m u1 ((k').natAbs))=>hdv W u0 u1 h0 h1))<|oc zB<|oc (zBr (A:=(yQ N).tS) (B:=(yQ R).tS) (C:=(uI 0).tS) iiz)<|oc (zBq (A:=(yQ N).tS) (B:=(yQ R).tS) (C:=(uI 0).tS) iiz)<|oc (zBp (A:=(yQ N).tS) (B:=(yQ R).tS) (C:=(uI 0).tS) iiz)<|oc zF<|oc zF<|oc zF<|zD) fun a w2 s=> ?_
 refine zA rfl ?_
 refine pH ?_
 refine pH ?_
 refine zC 2 ((20, .Z (uI 0))::(21, .u (uB false)):: []) hmix s kG
  (oc zB<|oc (zAC (.int .i64 0) (.int .i64 0) (.bool false) iiz iiz (fun _=>rfl) (fun _=>rfl) (fun _=>rfl))<|zD) fun a w3 s=> ?_
 refine zA rfl ?_
 refine StS.cond s false iiz (fun e=>by cases e) (fun e=> ?_)
 refine rF ?_
 refine pH ?_
 refine yC [] 4 ((25, .Z (fUV m k))::(26, .u (fNV k))::(27, .Z (fUV m k'))::(28, .u (fNV k')):: []) hmix s kG
  (oc (zI (f:=fUV m k) 2 kG (hz:=zAQ _ _))<|oc (zH zE zDk (fun u0 W hb (h0:UV W m u0 k)=>j5 h0 oN))<|oc (zI (f:=fUV m k') 2 kG (hz:=zAQ _ _))<|oc (zH zE zDk (fun u0 W hb (h0:UV W m u0 k')=>j5 h0 oN))<|zD) fun Q' hQ a w4 s=> ?_
 refine zN (CU.agg (fNV k)) ((fNV k).tS) rfl s kG rfl rfl rfl (zAQ _ _) iiz y2 fun a w s=> ?_
 refine zN (CU.agg (fNV k')) ((fNV k').tS) rfl s kG rfl rfl rfl (zAQ _ _) iiz y2 fun a w s=> ?_
 refine zA rfl (hQ _ _ ?_)
 refine pH ?_
 refine zC 8 ((29, .X (fNV k) 0)::(30, .Z (uB (decide (k<0))))::(31, .X (fNV k') 0)::(32, .Z (uB (decide (k'<0))))::(33, .Z (uB true))::(34, .Z (yQ N))::(35, .Z (fUV m q0))::(36, .u (fNV q0)):: []) hmix s kG
  (oc (zK (C:=cg (fNV k)) 0 kG)<|oc (yL (C:=cg (fNV k)) (k:=0) kG (h:=zA1))<|oc (zK (C:=cg (fNV k')) 0 kG)<|oc (yL (C:=cg (fNV k')) (k:=0) kG (h:=zA1))<|oc (zAC (.bool (decide (k<0))) (.bool (decide (k'<0))) (.bool true) iiz iiz (fun _=>rfl) hsb (fun _=>rfl))<|oc zB<|oc (yS hbi)<|oc (zH zE zDk (fun u0 W hb (h0:UV W m u0 q0)=>j5 h0 oN))<|zD) fun a w5 s=> ?_
 refine z4 (CU.len 2) (cs:= [.bool false, .slice none 0 0]) kG rfl s kG (fun W=>rfl) rfl fun b10 a w s=> ?_
 refine zN (CU.agg (fNV q0)) ((fNV q0).tS) rfl s kG rfl rfl rfl iiz iiz y2 fun a w s=> ?_
 refine zA rfl ?_
 refine pH ?_
 refine pH ?_
 refine zC 10 ((37, .X (fNV k) 0)::(38, .Z (uB (decide (k<0))))::(39, .X (fNV k') 0)::(40, .Z (uB (decide (k'<0))))::(41, .Z (uB true))::(42, .Z (uB true))::(43, .Z (yQ R))::(44, .s (zMW R))::(45, .Z (uB true))::(46, .u (uB true)):: []) hmix s kG
  (oc (zK (C:=cg (fNV k)) 0 kG)<|oc (yL (C:=cg (fNV k)) (k:=0) kG (h:=zA1))<|oc (zK (C:=cg (fNV k')) 0 kG)<|oc (yL (C:=cg (fNV k')) (k:=0) kG (h:=zA1))<|oc (zAC (.bool (decide (k<0))) (.bool (decide (k'<0))) (.bool true) iiz iiz (fun _=>rfl) hsb (fun _=>rfl))<|oc zB<|oc (zG 42 true kG iiz (fun _=>zB) arf)<|oc (zG 42 true kG iiz (fun _=>zCB kG iiz) arf)<|oc (zG 42 true kG iiz (fun _=>zMm hrb) arf)<|oc (yO true iiz (fun _ _ _ h=>h) (fun e=>by cases e))<|zD) fun a w6 s=> ?_
 refine zA rfl ?_
 refine StS.cond s true iiz (fun e=> ?_) (fun e=>by cases e)
 refine yC [] 3 ((47, .Z (fNV q0))::(48, .Z (fNV (1:Int)))::(49, .u (fNV (q0 - 1))):: []) hmix s kG
  (oc (zI (f:=fNV q0) 2 kG (hz:=qQ _))<|oc (zH zE zPb (fun u0 W hb (h0:u0= .int .i64 1)=>h0▸zPz 1 (by decide)))<|oc (zJ zE zKT (fun u0 u1 W hb (h0:NV W u0 q0) (h1:NV W u1 (1:Int))=>zD7 (NV.uv' h0 bq0) (NV.uv' h1 b1) oN))<|zD) fun Q' hQ a w7 s=> ?_
 refine zN (CU.agg (fNV (q0 - 1))) ((fNV (q0 - 1)).tS) rfl s kG rfl rfl rfl (qQ _) iiz y2 fun a w s=> ?_
 refine zA rfl (hQ _ _ ?_)
 refine pH ?_
 replace s:=s.drop [6]
 refine yC [] 7 ((50, .u (fNV (q0 - 1)))::(51, .Z (fNV k))::(52, .Z (fNV (q0 - 1)))::(53, .Z (fNV k'))::(54, .s (zFU (m+1) [(q0 - 1),k']))::(55, .Z (fNV ((q0 - 1)*k')))::(56, .u (fNV (k - (q0 - 1)*k'))):: []) hmix s kG
  (oc (zI (f:=fNV (q0 - 1)) 2 kG (hz:=qQ _))<|oc (zI (f:=fNV k) 2 kG (hz:=qQ _))<|oc (zI (f:=fNV (q0 - 1)) 2 kG (hz:=qQ _))<|oc (zI (f:=fNV k') 2 kG (hz:=qQ _))<|oc (yK (fun u v W (hu:NV W u (q0 - 1)) (hv:NV W v k')=>jV (NV.uv' hu bq) (NV.uv' hv (Bd.mono bk' (m':=(m+1)) (by first|omega|decide)))))<|oc (zH zE zFm (fun u0 W hb (h0:ISV W (m+1) u0 [(q0 - 1),k'])=>zBA h0 (by show (m+1)*2+(m+1)+1<=40000;omega) (by simp) (by simp)))<|oc (zJ zE zKT (fun u0 u1 W hb (h0:NV W u0 k) (h1:NV W u1 ((q0 - 1)*k'))=>zD7 (NV.uv' h0 (Bd.mono bk (m':=(m+1+m)) (by first|omega|decide))) (NV.uv' h1 bqk) oN))<|zD) fun Q' hQ a w8 s=> ?_
 refine zN (CU.agg (fNV (q0 - 1))) ((fNV (q0 - 1)).tS) rfl s kG rfl rfl rfl iiz iiz y2 fun a w s=> ?_
 refine zN (CU.agg (fNV (k - (q0 - 1)*k'))) ((fNV (k - (q0 - 1)*k')).tS) rfl s kG rfl rfl rfl iiz iiz y2 fun a w s=> ?_
 refine zS (uI 0) rfl s kG iiz fun a w s=> ?_
 refine zA rfl (hQ _ _ ?_)
 refine wpIn_ret ?_
 refine wZ s (CU.agg (fNV (q0 - 1))) (CU.agg (fNV (k - (q0 - 1)*k'))) rfl kG kG rfl rfl (qQ _) rfl rfl (qQ _) (fun cs cs' v W h1 h2 h3=> ?_)
 exact ⟨(q0 - 1),_,_,_,by rw [show v=_ from h3],by omega,hfr,h1,h2⟩
theorem zQZ {W:W8} {m:Nat} {v v':Wa} {k k':Int} (h:UV W m v k) (h':UV W m v' k') (hm:m<=2000) (h0:k'≠0):Calls prog 142 #[v,v'] W (zTJ W k k'):=by
 have fin: ∀e w',Ret W (fDV k k') e w'->zTJ W k k' e w':=by
  rintro e w' ⟨_,rfl,⟨q,r,v1,v2,rfl,h2,h3,h4,h5⟩,hb⟩
  exact ⟨q,r,v1,v2,rfl,h2,h3,h4,h5,hb⟩
 have hrun: ∀sb,sb= !(decide (k<0)==decide (k'<0))-> ∀W,(binOp .neq 4 (.bool (decide (k<0))) (.bool (decide (k'<0)))).run prog W= .ok (.bool sb) W:=fun sb e W=>by
  rw [e]
  exact run_neq_bool W 4 _ _ kG
 by_cases hs:decide (k<0)=decide (k'<0)
 ·obtain ⟨e,hf⟩:=zKL k k' h0 hs
  have hsb:=hrun false (by rw [hs];simp)
  have hr:k - ((k.natAbs / k'.natAbs:Nat):Int)*k'=sg (decide (k'<0)) (k.natAbs % k'.natAbs):=by
   have:sg false (k.natAbs / k'.natAbs)=((k.natAbs / k'.natAbs:Nat):Int):=rfl
   rw [this] at e
   omega
  rcases sL (k.natAbs % k'.natAbs) with h1|h1
  ·exact (zQ3 h h' hm h0 rfl rfl hsb (by rw [h1];rfl) rfl (by rw [if_neg (by decide),hr];exact hf)).mono fin
  ·exact (zQ2 h h' hm h0 rfl rfl hsb (pW h1).symm rfl (by rw [if_neg (by decide),hr];exact hf)).mono fin
 ·have hsb:=hrun true (by rw [sR.2 hs];rfl)
  have hsg: ∀x:Nat,sg true x= -(x:Int):=fun _=>rfl
  rcases sL (k.natAbs % k'.natAbs) with h1|h1
  ·obtain ⟨e,hf⟩:=zKM k k' h0 (sR.2 hs) h1
   rw [hsg] at e
   exact (zQ1 h h' hm h0 rfl rfl hsb (by rw [h1];rfl) rfl (by rw [if_pos rfl];rw [show k - -((k.natAbs / k'.natAbs:Nat):Int)*k'=sg (decide (k'<0)) (k.natAbs % k'.natAbs) from by omega];exact hf)).mono fin
  ·obtain ⟨e,hf⟩:=zKN k k' h0 (sR.2 hs) h1
   rw [hsg] at e
   exact (zQ0 h h' hm h0 rfl rfl hsb (pW h1).symm rfl (by rw [if_pos rfl];rw [show k - (-((k.natAbs / k'.natAbs:Nat):Int) - 1)*k'=sg (decide (k'<0)) (k'.natAbs - k.natAbs % k'.natAbs) from by rw [show -((k.natAbs / k'.natAbs:Nat):Int) - 1= -((k.natAbs / k'.natAbs+1:Nat):Int) from by omega];omega];exact hf)).mono fin
section
variable {F:Fence} {n:Nat} {P:Wf} {ops:Array Oper} {Q:Exit->Act->W8->Prop}
def zKl (P:Wf) (w0:W8) (ops:Array Oper) (G:Nat->SF) (o:Oper):Prop:=
 ∀(b:Act) (W:W8),Below w0.heap.size w0 W->(∀t,t∈looks ops o->(G t).p (b.tmps.getD t undef) W)-> ∃v,zAf P ops (fun W'=>Below w0.heap.size w0 W') o v b
variable {listed0:Array Bool} {A:Nat->Bool} {E:Nat->Wa->W8->Prop} {C:W8->Prop} {a0:Act}
end
section
variable {S:Nat->Prop} {w0:W8} {K:List (Nat×KF)} {B:List Bx} {n:Nat} {ds:List Deferred} {a:Act} {w:W8} {F:Fence} {m:Nat} {P:Wf} {ops:Array Oper} {Q:Exit->Act->W8->Prop}
end
section
variable {w0:W8} {P:Wf} {ops:Array Oper} {G:Nat->SF} {d:Tmp} {ty:Wb} {pos:String} {aft:Array Edge}
theorem zMU {op:Op} (hc: ∀c,op≠ .call c) (h: ∀(b:Act) (W:W8),Below w0.heap.size w0 W->(∀x,x∈op.operands.toList->(fct G x).p (b.eval x) W)-> ∃v, ∀W',Below w0.heap.size w0 W'->(execOp b.eval ⟨some d,op,ty,pos,aft,none⟩).run P W'= .ok (.value v) W'):zKl P w0 ops G ⟨some d,op,ty,pos,aft,none⟩:=by
 intro b W hb hr
 obtain ⟨v,hv⟩:=h b W hb fun x hx=>qK (fun t ht=>hr t (by unfold looks;simpa using ht)) hx
 refine ⟨v, .inl ⟨rfl,hv⟩,fun w=> ?_⟩
 unfold Oper.about
 split
 ·rename_i c hcc;exact absurd hcc (hc c)
 ·rfl
theorem zEg {x:We}:zKl P w0 ops G ⟨some d, .move x,ty,pos,aft,none⟩:=zMU (fun _ e=>by cases e) fun b _ _ _=>⟨b.eval x,fun _ _=>rfl⟩
section
variable {l:Wa} {x y:We} {t:Wb} {z:Nat} {Cs:List CU} {i:Nat} {C:CU}
end
end
section
variable {S:Nat->Prop} {w0:W8} {K:List (Nat×KF)} {B:List Bx} {n:Nat} {ds:List Deferred} {a:Act} {w:W8} {F:Fence} {m:Nat} {P:Wf} {ops:Array Oper} {Q:Exit->Act->W8->Prop}
theorem zNK {k:Nat} {o:Oper} (ho:ops[k]?=some o) (hw:Region.wanted o (yielded ops a.tmps)=true) (h:o.wpIn F m P a w (zBx F m P ops Q (k+1)) Q):zBx F m P ops Q k a w:=by
 have hlt:=(pR.1 ho).1
 unfold zBx
 rw [show ops.size - k=(ops.size - (k+1))+1 from by omega,sK,wpOpsIn_cons]
 unfold wpOpIn
 rw [ho]
 show (if Region.wanted o (yielded ops a.tmps)=true then _ else _)
 rw [if_pos hw]
 exact h
theorem zLf {k:Nat} {o:Oper} (ho:ops[k]?=some o) (hw:Region.wanted o (yielded ops a.tmps)=false) (hab: ∀f,o.about P w a.eval=some f->F.fn f) (h:zBx F m P ops Q (k+1) (a.put o.dst undef) w):zBx F m P ops Q k a w:=by
 have hlt:=(pR.1 ho).1
 unfold zBx
 rw [show ops.size - k=(ops.size - (k+1))+1 from by omega,sK,wpOpsIn_cons]
 unfold wpOpIn
 rw [ho]
 show (if Region.wanted o (yielded ops a.tmps)=true then _ else _)
 rw [hw,if_neg (by decide)]
 exact ⟨hab,h⟩
def zMg (u:Wa) (want:Bool):Bool:=match u with| .bool b=>b !=want|_=>true
theorem zK5 {k d j g:Nat} {want:Bool} {op:Op} {ty:Wb} {pos:String} {aft:Array Edge} (u:Wa) (hj:yF ops j=some g) (hu:a.tmps.getD g undef=u) (hne:zMg u want=true):Region.wanted ⟨some d,op,ty,pos,aft,some (j,want)⟩ (yielded ops a.tmps)=false:=by
 unfold Region.wanted
 show (yielded ops a.tmps j==some want)=false
 unfold yielded
 rw [zCY,hj]
 show ((match (a.tmps[g]?:Wc Wa) with|some (.bool b)=>some b|_=>none)==some want)=false
 cases e:a.tmps[g]? with
 |none=>rfl
 |some x=>
  have hx:x=u:=by rw [pQ,e] at hu;exact hu
  subst hx
  cases x<;>first|rfl|(simp [zMg] at hne;simp [hne])
theorem zK6 {k d j g:Nat} {want:Bool} {op:Op} {ty:Wb} {pos:String} {aft:Array Edge} (hj:yF ops j=some g) (hu:a.tmps.getD g undef= .bool want):Region.wanted ⟨some d,op,ty,pos,aft,some (j,want)⟩ (yielded ops a.tmps)=true:=by
 unfold Region.wanted
 show (yielded ops a.tmps j==some want)=true
 unfold yielded
 rw [zCY,hj]
 show ((match (a.tmps[g]?:Wc Wa) with|some (.bool b)=>some b|_=>none)==some want)=true
 cases e:a.tmps[g]? with
 |none=>rw [pQ,e] at hu;cases hu
 |some x=>
  have hx:x= .bool want:=by rw [pQ,e] at hu;exact hu
  subst hx
  simp
theorem zLg {k d j g:Nat} {want:Bool} {op:Op} {ty:Wb} {pos:String} {aft:Array Edge} (u:Wa) (ho:ops[k]?=some ⟨some d,op,ty,pos,aft,some (j,want)⟩) (hj:yF ops j=some g) (h:StS S w0 K B n ds a w) (hu: ∀v W,(zAc K B g).p v W->v=u) (hne:zMg u want=true) (hf:zAD K B n d=true)
  (fin: ∀a w,StS S w0 ((d, .u (UF.eq undef))::K) B n ds a w->zBx F m P ops Q (k+1) a w) (hab: ∀f,F.fn f:=by exact fun _=>trivial):zBx F m P ops Q k a w:=
 zLf ho (zK5 (k:=k) u hj (hu _ _ (h.at.sl g)) hne) (fun f _=>hab f) (fin _ _ (h.set hf (pM _ _) rfl))
theorem zQq {k d j g:Nat} {want:Bool} {op:Op} {ty:Wb} {pos:String} {aft:Array Edge} (f:UF) (ho:ops[k]?=some ⟨some d,op,ty,pos,aft,some (j,want)⟩) (hj:yF ops j=some g) (h:StS S w0 K B n ds a w) (hu: ∀v W,(zAc K B g).p v W->v= .bool want) (hf:zAD K B n d=true) (hob:qX F m P w ops (upd (zAc K B) [(d,f.tS)]) ⟨some d,op,ty,pos,aft,none⟩)
  (hrd:(zC9 ⟨some d,op,ty,pos,aft,none⟩).contains d=false) (fin: ∀a w,StS S w0 ((d, .u f)::K) B n ds a w->zBx F m P ops Q (k+1) a w):zBx F m P ops Q k a w:=by
 refine zNK ho (zK6 (k:=k) hj (hu _ _ (h.at.sl g))) (hob a w _ Q (pM _ _) (fun t ht=> ?_) fun v W' hv hb=>fin _ _ (h.set hf hb ?_))
 ·have hne:Nat.beq d t=false:=by
   cases e:Nat.beq d t with
   |false=>rfl
   |true=>
    have:=rA e
    subst this
    rw [rN.2 ht] at hrd
    cases hrd
  show (bif Nat.beq d t then f.tS else zAc K B t).p _ _
  rw [hne]
  exact h.at.sl t
 ·have:=hv d rfl
  have e:(upd (zAc K B) [(d,f.tS)]) d=f.tS:=by
   show (bif Nat.beq d d then f.tS else _)=_
   rw [show Nat.beq d d=true from rO d]
   rfl
  rw [e] at this
  exact this
end
abbrev GW (wb:W8):W8->Prop:=fun W=>Below wb.heap.size wb W
theorem zKJ {wb w:W8} (h:Below wb.heap.size wb w):Gr (GW wb) w:=fun _ hb=>h.trans (hb.mono h.size)
theorem zKl.c {P:Wf} {wb w:W8} {ops:Array Oper} {G:Nat->SF} {o:Oper} (h:zKl P wb ops G o) (hb:Below wb.heap.size wb w):FdC P (GW wb) w ops G o:=fun b W hW hr=>h b W (hb.trans (hW.mono hb.size)) hr
section
variable {S:Nat->Prop} {w0:W8} {K:List (Nat×KF)} {B:List Bx} {n:Nat} {ds:List Deferred} {a:Act} {w:W8} {F:Fence} {m:Nat} {P:Wf} {ops:Array Oper} {Q:Exit->Act->W8->Prop} {wb:W8} {CW:W8->Prop} {D:List Nat}
theorem zA6 {o:Oper} (h:o.guard=none):Region.wanted o (yielded ops a.tmps)=true:=by unfold Region.wanted;rw [h]
theorem zN7 {i:Nat} {o:Oper} (hr:Region.ready .any ops (lst ops.size D)= [i]) (ho:ops[i]?=some o) (hw:Region.wanted o (yielded ops a.tmps)=true) (h:o.wpIn F m P a w (fun a' w'=>CW w'/\zGM F m P ops CW Q (i::D) a' w') (jW Q)):zGM F m P ops CW Q D a w:=by
 have hi:=(rK.1 (show i∈Region.ready .any ops (lst ops.size D) by rw [hr];simp)).1
 have hlt:=(zDO hi).1
 have hc:=zAk hi
 rw [zGt hlt] at hc
 unfold zGM
 rw [<-hc]
 refine ⟨fun e=>(by rw [hr] at e;cases e),fun j hj=> ?_⟩
 rw [hr] at hj
 obtain rfl:j=i:=by simpa using hj
 unfold wpOpIn
 rw [ho]
 show (if Region.wanted o (yielded ops a.tmps)=true then _ else _)
 rw [if_pos hw]
 refine Oper.wpIn_mono (fun a' w' hh=>⟨.inr hh.1, ?_⟩) h
 rw [zGt hlt]
 exact hh.2
theorem zCQ {i d:Nat} {x y:We} {t ty:Wb} {pos:String} {aft:Array Edge} {gd:Wc (Nat×Bool)} {e:Wb} {z:Nat} {v:Wa} {Cs:List CU} (Ds:List CU) (hwb:Below wb.heap.size wb w) (h:StS S w0 K B n [] a w) (hb0:w0.heap.size<=wb.heap.size) (hr:zAW w wb.heap.size e z v Cs)
  (ho:ops[i]?=some ⟨some d, .call ⟨.builtin .append,#[x,y],#[t,t]⟩,ty,pos,aft,gd⟩) (hw:Region.wanted ⟨some d, .call ⟨.builtin .append,#[x,y],#[t,t]⟩,ty,pos,aft,gd⟩ (yielded ops a.tmps)=true) (hrd:Region.ready .any ops (lst ops.size D)= [i]) (happ:zHZ P t=some (e,z,true)) (hf:zAD K B n d=true)
  (hx:a.eval x=v) (hy:(SF.row z Ds).p (a.eval y) w) (hD: ∀C,C∈Ds->CU.ok z C) (hsz:Cs.length+Ds.length<=140000000000) (hB: ∀q,q∈B->q.b<wb.heap.size)
  (fin: ∀v' a' w',Below wb.heap.size wb w'->zAW w' wb.heap.size e z v' (Cs++Ds)->StS S w0 ((d, .u (UF.eq v'))::K) B n [] a' w'->zGM F m P ops (GW wb) Q (i::D) a' w'):zGM F m P ops (GW wb) Q D a w:=by
 obtain ⟨v',w',hrun,g1,g2,_⟩:=zIi (P:=P) (ty:=ty) happ hr hy hD hsz hwb.size
 have hrun2:(execOp a.eval ⟨some d, .call ⟨.builtin .append,#[x,y],#[t,t]⟩,ty,pos,aft,gd⟩).run P w= .ok (.value v') w':=by
  simp only [execOp,resolve,invoke,builtin,rH,rX,rY,sQ,rR,rS,hx,hrun]
 have hk:zAo w w':=hr.keepU g2
 have hlt:=hr.lt
 have s1:StS S w0 K B n [] a w':=by
  refine ⟨?_,h.size,h.nd,fun q hq=>KF.us (h.sl q hq) hk, ?_,⟨[],Marks.nil _ _⟩,h.so⟩
  ·cases hv:v.ownBlock with
   |none=>
    refine ⟨g2.os.trans h.gr.os,g2.tape.trans h.gr.tape,g2.output.trans h.gr.output,pK h.gr.size g2.size,fun k hk1 hk2=> ?_⟩
    exact (g2.block k (pT hk1 h.gr.size) (by rw [hv];simp)).trans (h.gr.block k hk1 hk2)
   |some g=>exact h.gr.grown (by rw [hv] at g2;exact g2) (.inl (pK hb0 (hlt g hv).1))
  ·refine wX hk B (fun q hq=> ?_) h.bx
   obtain ⟨_,_,hc,h3,_⟩:=h.bx.mem q hq
   refine g2.block _ (pR.1 h3).1 fun e=> ?_
   have h4:=hlt _ e.symm
   have:=hB q hq
   omega
 have hb':Below wb.heap.size wb w':=⟨g2.os.trans hwb.os,g2.tape.trans hwb.tape,g2.output.trans hwb.output,pK hwb.size g2.size,fun k hk1=>(g2.block k (pT hk1 hwb.size) (fun e=>by have:=hlt _ e.symm;omega)).trans (hwb.block k hk1)⟩
 refine zN7 hrd ho hw ⟨fun f hf=>(by
  unfold Oper.about at hf
  simp [resolve,go_sem] at hf), ?_⟩
 rw [pP _ _ _ (fun _ e=>by cases e),hrun2]
 exact ⟨hb',fin v' _ w' hb' g1 (s1.set hf (pM _ _) rfl)⟩
end
section
variable {F:Fence} {m:Nat} {P:Wf} {w0:W8} {ops:Array Oper} {G:Nat->SF} {d:Tmp} {ty:Wb} {pos:String} {aft:Array Edge}
def wW (W:W8) (e:Wb):SF:=⟨fun v w=> ∃g,v= .slice (some ⟨g,0,none⟩) 0 0/\W.heap.size<=g/\w.heap[g]?=some (.cells #[] e (0,0)),fun _ _ _ ⟨g,h1,h2,h3⟩ hb=>⟨g,h1,h2,(hb.block g (pR.1 h3).1).trans h3⟩⟩
theorem zFb {t e:Wb} {z:Nat} (happ:zHZ P t=some (e,z,true)) (hd: ∀v W,(wW w0 e).p v W->(G d).p v W:=by exact fun _ _ h=>h):qX F m P w0 ops G ⟨some d, .buildSlice t 0 #[],ty,pos,aft,none⟩:=
 zMi (fun _ e=>by cases e) (fun _ e=>by cases e) fun b W hb hh=>by
  obtain ⟨ht,i,zv,hi,hz,hs,hby0,hzs,hzn,hz0⟩:=zEj happ
  refine ⟨.slice (some ⟨W.heap.size,0,none⟩) 0 0, .cells #[] e, ?_,hd _ _ ⟨W.heap.size,rfl,hb.size,heap_alloc_new W _⟩⟩
  simp [execOp,Instr.buildSlice,pU ht,sizeOf,typeInfo,hi,newRow,Instr.fill]
  congr 2
  exact Array.eq_empty_of_size_eq_zero (by simp)
theorem zIz {x y:We} {t e:Wb} {z:Nat} (Ds:List CU) (happ:zHZ P t=some (e,z,true)) (hx: ∀v W,(fct G x).p v W->(wW w0 e).p v W) (hy: ∀v W,Below w0.heap.size w0 W->(fct G y).p v W->(SF.row z Ds).p v W) (hD: ∀C,C∈Ds->CU.ok z C) (hsz:Ds.length<=140000000000) (hd: ∀v W,(wM w0 e z Ds).p v W->(G d).p v W:=by exact fun _ _ h=>h):qX F m P w0 ops G ⟨some d, .call ⟨.builtin .append,#[x,y],#[t,t]⟩,ty,pos,aft,none⟩:=by
 intro bb W K Q hb hr hK
 obtain ⟨g,ex,hg,hgc⟩:=hx _ _ (qK hr (x:=x) (by simp [Op.operands,Call.operands]))
 have h2:=hy _ _ hb (qK hr (x:=y) (by simp [Op.operands,Call.operands]))
 obtain ⟨ht,i,zv,hi,hz,hs,hby0,hzs,hzn,hz0⟩:=zEj happ
 have hemp:zAW W w0.heap.size e z (.slice (some ⟨g,0,none⟩) 0 0) []:= .inr ⟨g,0,#[],rfl,hg,hgc,pS _,Nat.zero_le _,by simp,rfl,fun i C hi=>by simp at hi⟩
 refine ⟨fun f hf=>(by
  unfold Oper.about at hf
  simp [resolve,go_sem] at hf), ?_⟩
 rw [pP _ _ _ (fun _ e=>by cases e)]
 have hev: ∀v' W',(Builtin.append_ #[t,t] ty #[.slice (some ⟨g,0,none⟩) 0 0,bb.eval y]).run P W= .ok v' W'->(execOp bb.eval ⟨some d, .call ⟨.builtin .append,#[x,y],#[t,t]⟩,ty,pos,aft,none⟩).run P W= .ok (.value v') W':=fun v' W' h=>by
  simp only [execOp,resolve,invoke,builtin,rH,rX,rY,sQ,rR,rS,ex,h]
 by_cases h0:Ds= []
 ·subst h0
  obtain ⟨A,c,ey,hlc,hcm,hAn,hel⟩:=h2
  have hrun:(Builtin.append_ #[t,t] ty #[.slice (some ⟨g,0,none⟩) 0 0,bb.eval y]).run P W= .ok (.slice (some ⟨g,0,none⟩) 0 0) W:=by
   rw [ey]
   cases A with
   |none=>simp [Builtin.append_,pU ht,sizeOf,typeInfo,hi,Builtin.lenOf,Builtin.firstCells,storeCells]
   |some ad=>simp [Builtin.append_,pU ht,sizeOf,typeInfo,hi,Builtin.lenOf,Builtin.firstCells,loadCells,loadCellsFrom,storeCells]
  rw [hev _ _ hrun]
  exact hK _ _ (fun d' e'=>by cases e';exact hd _ _ hemp) (pM _ _)
 ·have h0:0<Ds.length:=List.length_pos_iff.2 h0
  have hmx:Ds.length<=maxLen:=by unfold maxLen;omega
  have hbb:Ds.length*i.bytes<=140737488355328:=pK (Nat.mul_le_mul hsz hby0) (by decide)
  obtain ⟨A,c,ey,hlc,hcm,hAn,hel⟩:=h2
  obtain ⟨D,Ds',rfl⟩: ∃D Ds',Ds=D::Ds':=by
   cases Ds with
   |nil=>simp at h0
   |cons D Ds'=>exact ⟨D,Ds',rfl⟩
  obtain ⟨b',o',cs',rfl,_⟩:=hel 0 D rfl
  obtain ⟨news,n1,n2,n3,n4,n5⟩:=zE1 (W:=W) (b:=b') (z:=z) (D::Ds') o' hD fun i C hiC=>by
   obtain ⟨b'',o'',cs'',e',m1,m2⟩:=hel i C hiC
   cases e'
   exact ⟨cs'',m1,m2⟩
  have hgr:=run_append_grow (P:=P) W t ty e i zv ht hi hz ⟨g,0,none⟩ 0 0 [] (by simp) (by simp) ⟨b',o',none⟩ (D::Ds').length c news (by rw [hs];exact n1) (fun j u hj=>by rw [rG];exact n2 j u hj) oN oN (growslice_fits oN (by simpa using hbb))
  simp only [Nat.zero_add,Array.empty_append] at hgr
  have hge:=grownCap_ge W (D::Ds').length 0 e
  have hcm':grownCap W (D::Ds').length 0 e<=maxLen:=grownCap_le_maxLen W (D::Ds').length 0 e hmx
  rw [hev _ _ (by rw [ey];exact hgr)]
  have hbw:Below W.heap.size W (W.drew.alloc (.cells (news.toArray++Builtin.zeroCells zv.cells (grownCap W (D::Ds').length 0 e - (D::Ds').length)) e)):=⟨rfl,rfl,rfl,by simp,fun k hk=>heap_alloc_old W.drew _ hk⟩
  refine hK _ _ (fun d' e'=>by
   cases e'
   refine hd _ _ (.inr ⟨W.heap.size,_,_,rfl,hb.size,heap_alloc_new W.drew _,hge,hcm', ?_, ?_, ?_⟩)
   ·simp only [Array.size_append,sN,size_zeroCells,hzs,n1, <-rE]
    congr 1
    omega
   ·rw [sO,rV,n4,zCf hzn];rfl
   ·have:=zD8 (Cs:= []) (cs:= []) (es:=(Builtin.zeroCells zv.cells (grownCap W (D::Ds').length 0 e - (D::Ds').length)).toList) (by simp) n1 (by simp) n5 (yN hbw)
    simpa using this) hbw
theorem zEf {CW:W8->Prop}: ∀i o,inL [] i=true->ops[i]?=some o->FdC P CW w0 ops G o:=fun _ _ h=>by cases h
theorem zBt {k:Nat} {o':Oper} {l:List Nat} (hk:ops[k]?=some o') {CW:W8->Prop} (h:FdC P CW w0 ops G o') (hl: ∀i o,inL l i=true->ops[i]?=some o->FdC P CW w0 ops G o): ∀i o,inL (k::l) i=true->ops[i]?=some o->FdC P CW w0 ops G o:=fun i o hi ho=>by
 have hi:(bif Nat.beq k i then true else inL l i)=true:=hi
 cases e:Nat.beq k i with
 |true=>
  have:=rA e
  subst this
  rw [hk] at ho
  cases ho
  exact h
 |false=>
  rw [e] at hi
  exact hl i o hi ho
end
section
variable {S:Nat->Prop} {F:Fence} {m:Nat} {P:Wf} {Q:Exit->Act->W8->Prop} {w0 w1:W8} {K K0:List (Nat×KF)} {B B0:List Bx} {n n0:Nat} {ds ds0:List Deferred} {a a0:Act} {w:W8}
end
end Go.Proofs.Wd
