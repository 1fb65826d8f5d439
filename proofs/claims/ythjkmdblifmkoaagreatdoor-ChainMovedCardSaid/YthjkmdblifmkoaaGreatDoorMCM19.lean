/- Natural numbers as values, and what prod and the references answer of  and what it needs. -/
import Derived.Test.YthjkmdblifmkoaaGreatDoorMCM13
import Derived.Test.YthjkmdblifmkoaaGreatDoorMCM7
import Derived.Test.YthjkmdblifmkoaaGreatDoorMCM17
import Derived.Test.YthjkmdblifmkoaaGreatDoorMCM6
import Derived.Test.YthjkmdblifmkoaaGreatDoorMCM9
import Derived.Test.YthjkmdblifmkoaaGreatDoorMCM3
import Derived.Test.YthjkmdblifmkoaaGreatDoorMCM1
theorem kG {P:Prop} (h:P:=by kernel_rfl):P:=h
theorem oN {P:Prop} (h:P:=by omega):P:=h
theorem fK {P:Prop} (h:P:=by simp):P:=h
abbrev pL:=@List.all_eq_true
abbrev pM:=@List.mem_range
abbrev pN:=@Go.getD_set_ne
abbrev pP:=@Array.getElem?_eq_some_iff
abbrev pQ:=@List.mem_map
abbrev pR:=@Bool.and_eq_true
abbrev pS:=@Go.RowKit.Below.refl
abbrev pT:=@Nat.le_trans
abbrev pU:=@Array.getD_eq_getD_getElem?
abbrev pV:=@Go.World.putObj_heap_other
abbrev pW:=@List.any_eq_true
abbrev pX:=@List.contains_iff_mem
abbrev pY:=@Nat.lt_or_ge
abbrev pZ:=@List.mem_cons
abbrev rA:=@Go.Oper.semAt_eq
abbrev rB:=@Array.getElem?_eq_none
abbrev rC:=@List.map_cons
abbrev rD:=@Nat.le_refl
abbrev rE:=@beq_iff_eq
abbrev rF:=@Nat.lt_of_lt_of_le
abbrev rG:=@Array.getElem?_eq_getElem
abbrev rH:=@Go.mem_ready
abbrev rI:=@Go.run_underlying
abbrev rJ:=@congrArg
abbrev rK:=@List.getElem?_eq_some_iff
abbrev rL:=@Go.Sem.run_bind
abbrev rM:=@List.mem_append
abbrev rN:=@Go.World.cell?_of_block
abbrev rO:=@Nat.add_mul
abbrev rP:=@Go.Addr.add_lit
abbrev rQ:=@Nat.eq_of_beq_eq_true
abbrev rR:=@List.any_eq_false
abbrev rS:=@List.length_append
abbrev rT:=@Bool.not_eq_true'
abbrev rU:=@decide_eq_true_eq
abbrev rV:=@List.mem_append_right
abbrev rW:=@Prod.mk.injEq
abbrev rX:=@List.mem_cons_self
abbrev rY:=@List.mem_cons_of_mem
abbrev rZ:=@Go.Sem.run_pure
abbrev sA:=@List.map_nil
abbrev sB:=@Classical.choose_spec
abbrev sC:=@Go.Code.wpIn_mono
abbrev sD:=@Classical.not_forall
abbrev sE:=@Array.getElem?_replicate
abbrev sF:=@List.all_append
abbrev sG:=@Nat.mul_le_mul_right
abbrev sH:=@Go.Result.andThen_ok
abbrev sI:=@List.getElem?_eq_getElem
abbrev sJ:=@List.length_drop
abbrev sK:=@List.take_of_length_le
abbrev sL:=@Option.some.injEq
abbrev sM:=@List.mem_of_mem_take
abbrev sN:=@List.mem_append_left
abbrev sO:=@Go.World.block_lt_of_cell?
abbrev sP:=@Go.World.putObj_size
abbrev sQ:=@List.foldl_cons
abbrev sR:=@List.nodup_cons
abbrev sS:=@Nat.lt_irrefl
abbrev sT:=@Array.getElem_mem
abbrev sU:=@of_decide_eq_true
abbrev sV:=@Bool.or_eq_true
abbrev sW:=@List.nil_append
abbrev sX:=@List.size_toArray
abbrev sY:=@Array.toList_append
abbrev sZ:=@List.length_take
abbrev tA:=@List.map_toArray
abbrev tB:=@Classical.byContradiction
abbrev tC:=@List.getElem?_take_of_lt
abbrev tD:=@Array.count_replicate_self
abbrev tE:=@Array.getElem?_append_left
abbrev tF:=@List.getElem?_append_left
abbrev tG:=@List.getElem?_append_right
abbrev tH:=@List.take_append_of_le_length
abbrev tI:=@List.getD_eq_getElem?_getD
abbrev Wb:=Go.World
abbrev Wc:=Go.Value
abbrev We:=Go.TypeId
abbrev Wf:=Option
abbrev Wg:=Go.Operand
abbrev Wh:=Go.Program
namespace Go.Proofs.Wd
open Tryz
open Go.RowKit Lb
def LV (W:Wb) (m:Nat) (v:Wc) (x:Nat):Prop:= ∃A n c l,v= .slice A n c/\Rd W A n c l/\Lt l/\n<=m/\val l=x
theorem LV.below {W W':Wb} {m:Nat} {v:Wc} {x:Nat} (h:LV W m v x) (hb:Below W.heap.size W W'):LV W' m v x:=by
 obtain ⟨A,n,c,l,rfl,h1,h2⟩:=h
 exact ⟨A,n,c,l,rfl,h1.below hb,h2⟩
theorem LV.mono {W:Wb} {m m':Nat} {v:Wc} {x:Nat} (h:LV W m v x) (hm:m<=m'):LV W m' v x:=by
 obtain ⟨A,n,c,l,rfl,h1,h2,h3,h4⟩:=h
 exact ⟨A,n,c,l,rfl,h1,h2,by omega,h4⟩
theorem LV.bound {W:Wb} {m:Nat} {v:Wc} {x:Nat} (h:LV W m v x):x<BB^m:=by
 obtain ⟨A,n,c,l,rfl,h1,h2,h3,rfl⟩:=h
 exact rF (qQ h2) (Nat.pow_le_pow_right y6 (by rw [h1.len];exact h3))
theorem qM.lv {W:Wb} {v:Wc} {x m:Nat} (h:qM W v x) (hx:x<BB^m):LV W m v x:=by
 obtain ⟨A,n,c,l,rfl,h1,h2⟩:=h
 exact ⟨A,n,c,l,rfl,h2,h1.lt,by rw [<-h2.len];exact h1.len hx,h1.val⟩
def zMz (w:Wb) (x:Nat):Ending->Wb->Prop:=fun e w'=> ∃v,e= .returned v/\qM w' v x/\Below w.heap.size w w'
theorem jC.v {w:Wb} {x:Nat} {e:Ending} {w':Wb} (h:jC w x e w'):zMz w x e w':=by
 obtain ⟨A,n,c,l,rfl,h1,h2,h3⟩:=h
 exact ⟨_,rfl,⟨A,n,c,l,rfl,h1,h2⟩,h3⟩
theorem zQf {W:Wb} {m:Nat} {v v':Wc} {a b:Nat} (h:LV W m v a) (h':LV W m v' b) (hm:m<=40000):Calls prog 96 #[v,v'] W (zMz W (a*b)):=by
 obtain ⟨A,n,c,l,rfl,h1,h2,h3,rfl⟩:=h
 obtain ⟨A',n',c',l',rfl,h1',h2',h3',rfl⟩:=h'
 exact (zLs A n c l A' n' c' l' W h1 h1' h2 h2' oN oN).mono fun _ _=>jC.v
def zT4 (w:Wb) (x y:Nat):Ending->Wb->Prop:=fun e w'=> ∃v v',e= .returned (.tuple #[v,v'])/\qM w' v x/\qM w' v' y/\Below w.heap.size w w'
theorem LV.open {W:Wb} {m:Nat} {v:Wc} {x:Nat} (h:LV W m v x): ∃A n c,v= .slice A n c/\n<=m/\n<=c/\c<=9223372036854775807/\LV W m (.slice A n c) x:=by
 obtain ⟨A,n,c,l,rfl,h1,h2,h3,h4⟩:=h
 exact ⟨A,n,c,rfl,h3,h1.le,h1.cap,⟨A,n,c,l,rfl,h1,h2,h3,h4⟩⟩
def zT5 (w:Wb) (a b:Nat):Ending->Wb->Prop:=fun e w'=> ∃v v',e= .returned (.tuple #[v,v', .int .i64 0])/\qM w' v (a / b)/\qM w' v' (a % b)/\Below w.heap.size w w'
theorem zRk {W:Wb} {m:Nat} {v v':Wc} {a b:Nat} (h:LV W m v a) (h':LV W m v' b) (hm:m<=10000) (h0:0<b):Calls prog 79 #[v,v'] W (zT5 W a b):=by
 obtain ⟨A,n,c,l,rfl,h1,h2,h3,rfl⟩:=h
 obtain ⟨A',n',c',l',rfl,h1',h2',h3',rfl⟩:=h'
 refine (zNe A n c l A' n' c' l' W h1 h1' h2 h2' oN oN h0).mono ?_
 rintro e w' ⟨A1,n1,c1,l1,A2,n2,c2,l2,rfl,i1,r1,i2,r2,hb⟩
 exact ⟨_,_,rfl,⟨A1,n1,c1,l1,rfl,i1,r1⟩,⟨A2,n2,c2,l2,rfl,i2,r2⟩,hb⟩
theorem zRl {W:Wb} {m:Nat} {v v':Wc} {a b:Nat} (h:LV W m v a) (h':LV W m v' b):Calls prog 105 #[v,v'] W fun e w'=>e= .returned (.int .i64 (zAt a b))/\W=w':=by
 obtain ⟨A,n,c,l,rfl,h1,h2,h3,rfl⟩:=h
 obtain ⟨A',n',c',l',rfl,h1',h2',h3',rfl⟩:=h'
 exact zD2 A n c l A' n' c' l' W h1 h1' h2 h2'
theorem zPN {W:Wb} {m:Nat} {A:Wf Addr} {n c:Nat} {A':Wf Addr} {n' c':Nat} {x y:Nat} (h:LV W m (.slice A n c) x) (h':LV W m (.slice A' n' c') y) (hm:m<=10000) (t:We):
  Calls prog 102 #[.slice (some ⟨W.heap.size,0,none⟩) 2 2] (W.alloc (.cells #[.slice A n c, .slice A' n' c'] t)) (zMz (W.alloc (.cells #[.slice A n c, .slice A' n' c'] t)) (x+y)):=by
 obtain ⟨A1,n1,c1,l,e1,h1,h2,h3,rfl⟩:=h
 obtain ⟨A2,n2,c2,l',e2,h1',h2',h3',rfl⟩:=h'
 cases e1
 cases e2
 have:=zD3 _ 2 2 _ _ (Rds.two h1 h2 oN h1' h2' oN t) (by decide)
 simp only [rC,sA,List.sum_cons,List.sum_nil,Nat.add_zero] at this
 exact this.mono fun _ _=>jC.v
def qW (x:Nat):UF:= .mk' (fun v w=>qM w v x) fun _ _ _ ⟨A,n,c,l,e,h1,h2⟩ k=>⟨A,n,c,l,e,h1,h2.keepU k⟩
def fLV (m x:Nat):UF:= .mk' (fun v w=>LV w m v x) fun _ _ _ ⟨A,n,c,l,e,h1,h2⟩ k=>⟨A,n,c,l,e,h1.keepU k,h2⟩
def fNV (k:Int):UF:= .mk' (fun v w=>NV w v k) fun _ _ _ ⟨A,n,c,l,e,h1,h2⟩ k=>⟨A,n,c,l,e,h1,h2.keepU k⟩
def fUV (m:Nat) (k:Int):UF:= .mk' (fun v w=>UV w m v k) fun _ _ _ ⟨s,A,n,c,l,e,h1,h2⟩ k=>⟨s,A,n,c,l,e,h1.keepU k,h2⟩
def fB (b:Bool):UF:= .eq (.bool b)
def fI (z:Int):UF:= .eq (.int .i64 z)
theorem zSD {F:Fence} {m:Nat} {P:Wh} {w0:Wb} {ops:Array Oper} {G:Nat->SF} {o:Oper} {l:List Oper} (h:qG F m P w0 ops G o) (k:Obs F m P w0 ops G l):Obs F m P w0 ops G (o::l):=⟨h,k⟩
theorem oc {F:Fence} {m:Nat} {P:Wh} {w0:Wb} {ops:Array Oper} {G:Nat->SF} {o:Oper} {l:List Oper} (h:qG F m P w0 ops G o) (k:Obs F m P w0 ops G l):Obs F m P w0 ops G (o::l):=⟨h,k⟩
theorem lr {n:Nat}:n<=n:=rD n
theorem arf {α:Sort _} {a:α} {p:Prop}:a≠a->p:=fun e=>absurd rfl e
abbrev zP6:List Wc:= [.bool false, .slice none 0 0, .slice none 0 0, .bool false, .slice none 0 0, .slice none 0 0]
abbrev zR3:List Wc:= [.bool false, .slice none 0 0, .slice none 0 0]
theorem fmz {α:Type} {p:α->Prop} {a:α} {l:List α} (h:p a/\ ∀x,x∈l->p x): ∀x,x∈a::l->p x:=List.forall_mem_cons.2 h
theorem fnz {α:Type} {p:α->Prop}: ∀x,x∈([]:List α)->p x:=List.forall_mem_nil p
theorem iiz {α β:Type} {p:α->β->Prop}: ∀a b,p a b->p a b:=fun _ _ h=>h
theorem mz1 {α:Type} {a b0:α} {l:List α}:a∈b0::a::l:= .tail _ (.head _)
theorem mz2 {α:Type} {a b0 b1:α} {l:List α}:a∈b0::b1::a::l:= .tail _ (.tail _ (.head _))
theorem mz3 {α:Type} {a b0 b1 b2:α} {l:List α}:a∈b0::b1::b2::a::l:= .tail _ (.tail _ (.tail _ (.head _)))
theorem mz4 {α:Type} {a b0 b1 b2 b3:α} {l:List α}:a∈b0::b1::b2::b3::a::l:= .tail _ (.tail _ (.tail _ (.tail _ (.head _))))
theorem mz5 {α:Type} {a b0 b1 b2 b3 b4:α} {l:List α}:a∈b0::b1::b2::b3::b4::a::l:= .tail _ (.tail _ (.tail _ (.tail _ (.tail _ (.head _)))))
theorem mz6 {α:Type} {a b0 b1 b2 b3 b4 b5:α} {l:List α}:a∈b0::b1::b2::b3::b4::b5::a::l:= .tail _ (.tail _ (.tail _ (.tail _ (.tail _ (.tail _ (.head _))))))
theorem mz7 {α:Type} {a b0 b1 b2 b3 b4 b5 b6:α} {l:List α}:a∈b0::b1::b2::b3::b4::b5::b6::a::l:= .tail _ (.tail _ (.tail _ (.tail _ (.tail _ (.tail _ (.tail _ (.head _)))))))
theorem mz8 {α:Type} {a b0 b1 b2 b3 b4 b5 b6 b7:α} {l:List α}:a∈b0::b1::b2::b3::b4::b5::b6::b7::a::l:= .tail _ (.tail _ (.tail _ (.tail _ (.tail _ (.tail _ (.tail _ (.tail _ (.head _))))))))
theorem mz9 {α:Type} {a b0 b1 b2 b3 b4 b5 b6 b7 b8:α} {l:List α}:a∈b0::b1::b2::b3::b4::b5::b6::b7::b8::a::l:= .tail _ (.tail _ (.tail _ (.tail _ (.tail _ (.tail _ (.tail _ (.tail _ (.tail _ (.head _)))))))))
theorem zEb {α:Type} {a b0 b1 b2 b3 b4 b5 b6 b7 b8 b9:α} {l:List α}:a∈b0::b1::b2::b3::b4::b5::b6::b7::b8::b9::a::l:= .tail _ (.tail _ (.tail _ (.tail _ (.tail _ (.tail _ (.tail _ (.tail _ (.tail _ (.tail _ (.head _))))))))))
theorem zLr {α:Type} {a b0 b1 b2 b3 b4 b5 b6 b7 b8 b9 b10:α} {l:List α}:a∈b0::b1::b2::b3::b4::b5::b6::b7::b8::b9::b10::a::l:= .tail _ (.tail _ (.tail _ (.tail _ (.tail _ (.tail _ (.tail _ (.tail _ (.tail _ (.tail _ (.tail _ (.head _)))))))))))
theorem zRH {α:Type} {a b0 b1 b2 b3 b4 b5 b6 b7 b8 b9 b10 b11:α} {l:List α}:a∈b0::b1::b2::b3::b4::b5::b6::b7::b8::b9::b10::b11::a::l:= .tail _ (.tail _ (.tail _ (.tail _ (.tail _ (.tail _ (.tail _ (.tail _ (.tail _ (.tail _ (.tail _ (.tail _ (.head _))))))))))))
theorem zS3 {α:Type} {a b0 b1 b2 b3 b4 b5 b6 b7 b8 b9 b10 b11 b12:α} {l:List α}:a∈b0::b1::b2::b3::b4::b5::b6::b7::b8::b9::b10::b11::b12::a::l:= .tail _ (.tail _ (.tail _ (.tail _ (.tail _ (.tail _ (.tail _ (.tail _ (.tail _ (.tail _ (.tail _ (.tail _ (.tail _ (.head _)))))))))))))
theorem zS2 {α:Type} {a b0 b1 b2 b3 b4 b5 b6 b7 b8 b9 b10 b11 b12 b13:α} {l:List α}:a∈b0::b1::b2::b3::b4::b5::b6::b7::b8::b9::b10::b11::b12::b13::a::l:= .tail _ (.tail _ (.tail _ (.tail _ (.tail _ (.tail _ (.tail _ (.tail _ (.tail _ (.tail _ (.tail _ (.tail _ (.tail _ (.tail _ (.head _))))))))))))))
theorem zFh {α:Type} {a b0 b1 b2 b3 b4 b5 b6 b7 b8 b9 b10 b11 b12 b13 b14:α} {l:List α}:a∈b0::b1::b2::b3::b4::b5::b6::b7::b8::b9::b10::b11::b12::b13::b14::a::l:= .tail _ (.tail _ (.tail _ (.tail _ (.tail _ (.tail _ (.tail _ (.tail _ (.tail _ (.tail _ (.tail _ (.tail _ (.tail _ (.tail _ (.tail _ (.head _)))))))))))))))
theorem zD {F:Fence} {m:Nat} {P:Wh} {w0:Wb} {ops:Array Oper} {G:Nat->SF}:Obs F m P w0 ops G []:=trivial
def CF.at (C:CF) (k:Nat):CF:=⟨fun cs w=> ∃ds,C.p ds w/\cs=ds.drop k,fun _ _ _ ⟨ds,h1,h2⟩ hb=>⟨ds,C.st _ _ _ h1 hb,h2⟩⟩
abbrev Rw.X (f:UF) (n:Nat):Rw:=.s (wB ((CU.agg f).cf.at n))
abbrev Rw.Y (f:UF):Rw:=.s (wB (cg f))
section
variable {F:Fence} {m:Nat} {P:Wh} {w0:Wb} {ops:Array Oper} {G:Nat->SF} {d:Tmp} {ty:We} {pos:String} {aft:Array Edge}
theorem zR {x:Wg} {s:We} {f:Nat} {C:CF} (k:Nat) (hk:zBC P s f=some k) (hx: ∀v W,(fct G x).p v W->(wB C).p v W:=by first|exact fun _ _ h=>h|exact fun _ _ h=>h.2) (hd: ∀v W,(wB (C.at k)).p v W->(G d).p v W:=by exact fun _ _ h=>h):qG F m P w0 ops G ⟨some d, .fieldAddr s x f,ty,pos,aft,none⟩:=
 zIV (C':=C.at k) k hk hx (fun cs _ h=>⟨cs,h,rfl⟩) hd
theorem yP {x:Wg} {s:We} {f:Nat} {C:CF} (i k:Nat) (hk:zBC P s f=some k) (hx: ∀v W,(fct G x).p v W->(wB (C.at i)).p v W:=by exact fun _ _ h=>h) (hd: ∀v W,(wB (C.at (i+k))).p v W->(G d).p v W:=by exact fun _ _ h=>h):qG F m P w0 ops G ⟨some d, .fieldAddr s x f,ty,pos,aft,none⟩:=
 zIV (C':=C.at (i+k)) k hk hx (fun cs _ ⟨ds,h1,h2⟩=>⟨ds,h1,by rw [h2,List.drop_drop]⟩) hd
theorem jP {x:Wg} {t:We} {C:CF} {k:Nat} (hk:zBU P t=true) (hx: ∀v W,(fct G x).p v W->(wB (C.at k)).p v W:=by exact fun _ _ h=>h) (h: ∀cs W,C.p cs W-> ∃u,cs[k]?=some u/\(G d).p u W):qG F m P w0 ops G ⟨some d, .load t x,ty,pos,aft,none⟩:=
 qS hk hx fun cs W ⟨ds,h1,h2⟩=>let ⟨u,h3,h4⟩:=h ds W h1;⟨u,by rw [h2,List.getElem?_drop];exact h3,h4⟩
theorem yG {x:Wg} {t:We} {C:CF} {k:Nat} (z:Nat) (hk:jW P t=some z) (hx: ∀v W,(fct G x).p v W->(wB (C.at k)).p v W:=by exact fun _ _ h=>h) (h: ∀cs W,C.p cs W->k+z<=cs.length/\(G d).p (.agg ((cs.drop k).take z).toArray) W):qG F m P w0 ops G ⟨some d, .load t x,ty,pos,aft,none⟩:=
 jM z hk hx fun cs W ⟨ds,h1,h2⟩=>let ⟨h3,h4⟩:=h ds W h1;⟨by rw [h2,sJ];omega,by rw [h2];exact h4⟩
theorem zJ {x:Wg} {t:We} {f:UF} (z:Nat) (hk:jW P t=some z) (hx: ∀v W,(fct G x).p v W->(wB (cg f)).p v W:=by first|exact fun _ _ h=>h|exact fun _ _ h=>h.2) (hz: ∀cs:List Wc, ∀W,f.p (.agg cs.toArray) W->cs.length=z) (hd: ∀v W,f.p v W->(G d).p v W:=by exact fun _ _ h=>h):qG F m P w0 ops G ⟨some d, .load t x,ty,pos,aft,none⟩:=
 jM z hk hx fun cs W h=>⟨by rw [hz cs W h];exact rD _,by
  have h1:=hz cs W h
  rw [sK oN]
  exact hd _ _ h⟩
theorem zA0 {x:Wg} {a:Addr} (hx: ∀v W,(fct G x).p v W->v= .pointer (some a)) (hd: ∀W,(G d).p (.pointer (some a)) W:=by exact fun _=>rfl):qG F m P w0 ops G ⟨some d, .nilCheck x,ty,pos,aft,none⟩:=
 qH (fun _ e=>by cases e) (fun _ e=>by cases e) fun b W hb hh=>by
  have e:=hx _ _ (hh x (by simp [Op.operands]))
  exact ⟨.pointer (some a),by simp [execOp,e],hd W⟩
theorem jF {x:Wg} {s:We} {f:Nat} {b o:Nat} (k:Nat) (hk:zBC P s f=some k) (hx: ∀v W,(fct G x).p v W->v= pO b o) (hd: ∀W,(G d).p (.pointer (some ⟨b,o+k,none⟩)) W:=by exact fun _=>rfl):qG F m P w0 ops G ⟨some d, .fieldAddr s x f,ty,pos,aft,none⟩:=
 qH (fun _ e=>by cases e) (fun _ e=>by cases e) fun c W hb hh=>by
  have e:=hx _ _ (hh x (by simp [Op.operands]))
  refine ⟨.pointer (some ⟨b,o+k,none⟩), ?_,hd W⟩
  unfold zBC at hk
  split at hk<;>try cases hk
  rename_i fs hu
  split at hk<;>try cases hk
  rename_i f' hf
  split at hk<;>try cases hk
  rename_i i hi
  split at hk<;>try cases hk
  rename_i hz
  simp [execOp,Instr.fieldAt,rI hu,hf,e,Instr.sureAddr,fieldPlace,sizeOf,typeInfo,hi,hz,rP]
theorem wI {W:Wb} {f g:SF} (h: ∀v W,f.p v W->g.p v W): ∀e W',Ret W f e W'->Ret W g e W':=fun _ _ ⟨v,e,h1,h2⟩=>⟨v,e,h _ _ h1,h2⟩
end
theorem jG {xs ys:Array Wc} (h:Value.agg xs=Value.agg ys):xs=ys:=by injection h
theorem zMJ {cs:List Wc} {W:Wb} {m:Nat} {k:Int} (h:(fUV m k).p (.agg cs.toArray) W): ∃s A n c,cs= [.bool s, .slice A n c]/\ ∃l,Rd W A n c l/\Lt l/\n<=m/\iv s l=k:=by
 obtain ⟨s,A,n,c,l,e,h1⟩:=h
 have:=rJ Array.toList (jG e)
 exact ⟨s,A,n,c,by simpa using this,l,h1⟩
theorem zFW {cs:List Wc} {W:Wb} {k:Int} (h:(fNV k).p (.agg cs.toArray) W): ∃A n c,cs= [.bool (decide (k<0)), .slice A n c]/\ ∃l,Is l k.natAbs/\Rd W A n c l:=by
 obtain ⟨A,n,c,l,e,h1⟩:=h
 have:=rJ Array.toList (jG e)
 exact ⟨A,n,c,by simpa using this,l,h1⟩
theorem zIq (m:Nat) (k:Int): ∀cs:List Wc, ∀W,(fUV m k).p (.agg cs.toArray) W->cs.length=2:=fun cs W h=>by
 obtain ⟨s,A,n,c,rfl,_⟩:=zMJ h
 rfl
theorem zOV (k:Int): ∀cs:List Wc, ∀W,(fNV k).p (.agg cs.toArray) W->cs.length=2:=fun cs W h=>by
 obtain ⟨A,n,c,rfl,_⟩:=zFW h
 rfl
theorem zGT {k:Int} (cs:List Wc) (W:Wb) (h:(CU.agg (fNV k)).p cs W): ∃u,cs[1]?=some u/\qM W u k.natAbs:=by
 obtain ⟨A,n,c,rfl,l,h1,h2⟩:=zFW h
 exact ⟨_,rfl,A,n,c,l,rfl,h1,h2⟩
theorem zLp {k:Int} (cs:List Wc) (W:Wb) (h:(CU.agg (fNV k)).p cs W): ∃u,cs[0]?=some u/\u= .bool (decide (k<0)):=by
 obtain ⟨A,n,c,rfl,l,h1,h2⟩:=zFW h
 exact ⟨_,rfl,rfl⟩
theorem zIr {m:Nat} {k:Int} {v:Wc} {W:Wb} (h:(fUV m k).p v W):(CU.agg (fUV m k)).p v.cells.toList W/\v.cells.toList.all zU=true:=by
 obtain ⟨s,A,n,c,l,rfl,h1⟩:=h
 exact ⟨⟨s,A,n,c,l,rfl,h1⟩,rfl⟩
theorem zFU {k:Int} (v:Wc) (W:Wb) (h:(fNV k).p v W): ∃vs:List Wc,v= .agg vs.toArray/\vs.length=2/\(∀u,u∈vs->u.oneCell'=true)/\vs.all zU=true/\(CU.agg (fNV k)).p vs W:=by
 obtain ⟨A,n,c,l,rfl,h1⟩:=h
 exact ⟨[_,_],rfl,rfl,fun u hu=>by simp at hu;rcases hu with rfl|rfl<;>rfl,rfl,A,n,c,l,rfl,h1⟩
theorem NV.nat {W:Wb} {v:Wc} {k:Int} (h:NV W v k): ∃A n c,v= .agg #[.bool (decide (k<0)), .slice A n c]/\qM W (.slice A n c) k.natAbs:=by
 obtain ⟨A,n,c,l,rfl,h1,h2⟩:=h
 exact ⟨A,n,c,rfl,A,n,c,l,rfl,h1,h2⟩
theorem zUP (s:Bool) (A:Wf Addr) (n c:Nat):prog.built 27 [(0, .bool s),(1, .slice A n c)]=some #[.bool s, .slice A n c]:=by kernel_rfl
theorem zOe {s:Bool} {u v:Wc} {W:Wb} {m x:Nat} (hu:u= .bool s) (hv:qM W v x) (hx:x<BB^m): ∃cells,prog.built 27 [(0,u),(1,v)]=some cells/\UV W m (.agg cells) (if s then -(x:Int) else x):=by
 obtain ⟨A,n,c,l,rfl,h1,h2⟩:=hv
 subst hu
 refine ⟨_,zUP s A n c,s,A,n,c,l,rfl,h2,h1.lt,by rw [<-h2.len];exact h1.len hx, ?_⟩
 unfold iv
 rw [h1.val]
theorem zRi (s s':Bool) (A A':Wf Addr) (n n' c c':Nat):yI prog 88 2 [(0, .agg #[.bool s, .slice A n c]),(1, .agg #[.bool s', .slice A' n' c'])]=some (27,#[.bool s, .slice A n c, .bool s', .slice A' n' c']):=by kernel_rfl
theorem zAY {u v:Wc} {W:Wb} {m:Nat} {k k':Int} (hu:UV W m u k) (hv:UV W m v k'): ∃e cs,yI prog 88 2 [(0,u),(1,v)]=some (e,cs)/\ISV (W.alloc (.cells cs e)) m (.slice (some ⟨W.heap.size,0,none⟩) 2 2) [k,k']:=by
 obtain ⟨s,A,n,c,l,rfl,h1,h2,h3,rfl⟩:=hu
 obtain ⟨s',A',n',c',l',rfl,h1',h2',h3',rfl⟩:=hv
 exact ⟨_,_,zRi s s' A A' n n' c c',ISV.two ⟨s,A,n,c,l,rfl,h1,h2,h3,rfl⟩ ⟨s',A',n',c',l',rfl,h1',h2',h3',rfl⟩ _⟩
def zJK (m:Nat) (ks:List Int):SF:=⟨fun v W=>ISV W m v ks,fun _ _ _ h hb=>h.below hb⟩
def zQX (x:Nat):SF:=⟨fun v _=> ∃n:Nat,v= .int .i64 n/\(x=0↔n=0),fun _ _ _ h _=>h⟩
section
variable {F:Fence} {m:Nat} {P:Wh} {w0:Wb} {ops:Array Oper} {G:Nat->SF} {d:Tmp} {ty:We} {pos:String} {aft:Array Edge}
theorem zFg {x:Wg} {t:We} (ht:P.underlying t=some (.slice (P.elem t))) (h: ∀v W,(fct G x).p v W-> ∃A n c,v= .slice A n c/\(G d).p (.int .i64 (n:Nat)) W):qG F m P w0 ops G ⟨some d, .call ⟨.builtin .len,#[x],#[t]⟩,ty,pos,aft,none⟩:=by
 intro b W K Q hb hr hK
 obtain ⟨A,n,c,e,hd⟩:=h _ _ (yY hr (x:=x) (by simp [Op.operands,Call.operands]))
 refine ⟨fun f hf=>(by
  unfold Oper.about at hf
  simp [resolve,go_sem] at hf), ?_⟩
 rw [rA _ _ _ (fun _ e=>by cases e)]
 have:(execOp b.eval ⟨some d, .call ⟨.builtin .len,#[x],#[t]⟩,ty,pos,aft,none⟩).run P W= .ok (.value (.int .i64 (n:Nat))) W:=by
  simp [execOp,resolve,invoke,builtin,e,run_len_slice _ _ _ _ _ _ ht,goInt]
 rw [this]
 exact hK _ _ (fun d' e'=>by cases e';exact hd) (pS _ _)
theorem zFR {x:Wg} {t:We} {k:Nat} (ht:P.underlying t=some (.slice (P.elem t))) (hx: ∀v W,(fct G x).p v W->qM W v k) (hd: ∀v W,(zQX k).p v W->(G d).p v W:=by exact fun _ _ h=>h):qG F m P w0 ops G ⟨some d, .call ⟨.builtin .len,#[x],#[t]⟩,ty,pos,aft,none⟩:=
 zFg ht fun v W h=>by
  obtain ⟨A,n,c,l,e,h1,h2⟩:=hx v W h
  exact ⟨A,n,c,e,hd _ _ ⟨n,rfl,by rw [<-h2.len];exact h1.zero_iff⟩⟩
theorem zQa {op:BinOp} {t:We} {x y:Wg} {t':We} (h: ∀u v W,(fct G x).p u W->(fct G y).p v W-> ∃r,(∀W,(eqGuard op t x y u v).run P W= .ok () W)/\(∀W,(binOp op t u v).run P W= .ok r W)/\(G d).p r W):qG F m P w0 ops G ⟨some d, .binOp op t x y t',ty,pos,aft,none⟩:=
 qH (fun _ e=>by cases e) (fun _ e=>by cases e) fun b W hb hh=>by
  obtain ⟨r,h1,h2,h3⟩:=h _ _ W (hh x (by simp [Op.operands])) (hh y (by simp [Op.operands]))
  exact ⟨r,by simp [execOp,h1,h2],h3⟩
theorem zFT {t:We} {x:Wg} {t':We} {k:Nat} {b:Bool} (hb:b=decide (k=0)) (hx: ∀v W,(fct G x).p v W->(zQX k).p v W:=by exact fun _ _ h=>h) (hd: ∀W,(G d).p (.bool b) W:=by exact fun _=>rfl):qG F m P w0 ops G ⟨some d, .binOp .eql t x (.const (.int .i64 0)) t',ty,pos,aft,none⟩:=
 zQa fun u v W hu hv=>by
  obtain ⟨n,rfl,h1⟩:=hx u W hu
  obtain rfl:v= .int .i64 0:=hv
  refine ⟨.bool b,fun _=>rfl,fun _=> ?_,hd W⟩
  have h2:((n:Int)==0)=b:=by
   rw [hb,Bool.eq_iff_iff]
   simp only [rE,rU]
   omega
  simp only [binOp,Op.intCmp]
  rw [h2]
  rfl
end
def QVp (m:Nat) (k:Int) (d:Nat) (v:Wc) (w:Wb):Prop:= ∃b s t,v= .agg #[b,s,t]/\UV w m (.agg #[b,s]) k/\LV w m t d
def QNp (q:Rat) (v:Wc) (w:Wb):Prop:= ∃b s t,v= .agg #[b,s,t]/\NV w (.agg #[b,s]) q.num/\qM w t q.den
def QMp (m:Nat) (k:Int) (d:Nat) (v:Wc) (w:Wb):Prop:= ∃b s t,v= .agg #[b,s,t]/\NV w (.agg #[b,s]) k/\LV w m t d
def QAp (m:Nat) (sg:Bool) (x:Nat) (d:Nat) (v:Wc) (w:Wb):Prop:= ∃s t,v= .agg #[.bool sg,s,t]/\qM w s x/\LV w m t d
def fQV (m:Nat) (k:Int) (d:Nat):UF:= .mk' (QVp m k d) fun _ _ _ ⟨b,s,t,e,h1,h2⟩ u=>⟨b,s,t,e,(fUV m k).us _ _ _ h1 u,(fLV m d).us _ _ _ h2 u⟩
def fQN (q:Rat):UF:= .mk' (QNp q) fun _ _ _ ⟨b,s,t,e,h1,h2⟩ u=>⟨b,s,t,e,(fNV q.num).us _ _ _ h1 u,(qW q.den).us _ _ _ h2 u⟩
def fQM (m:Nat) (k:Int) (d:Nat):UF:= .mk' (QMp m k d) fun _ _ _ ⟨b,s,t,e,h1,h2⟩ u=>⟨b,s,t,e,(fNV k).us _ _ _ h1 u,(fLV m d).us _ _ _ h2 u⟩
def fQA (m:Nat) (sg:Bool) (x d:Nat):UF:= .mk' (QAp m sg x d) fun _ _ _ ⟨s,t,e,h1,h2⟩ u=>⟨s,t,e,(qW x).us _ _ _ h1 u,(fLV m d).us _ _ _ h2 u⟩
theorem zAI {cs:List Wc} {b s t:Wc} (h:Value.agg cs.toArray= .agg #[b,s,t]):cs= [b,s,t]:=by
 have:=rJ Array.toList (jG h)
 simpa using this
theorem zOJ (m:Nat) (k:Int) (d:Nat): ∀cs:List Wc, ∀W,(fQV m k d).p (.agg cs.toArray) W->cs.length=3:=fun cs W ⟨b,s,t,e,_⟩=>by rw [zAI e];rfl
theorem y5 (q:Rat): ∀cs:List Wc, ∀W,(fQN q).p (.agg cs.toArray) W->cs.length=3:=fun cs W ⟨b,s,t,e,_⟩=>by rw [zAI e];rfl
theorem zOI {m:Nat} {k:Int} {d:Nat} (cs:List Wc) (W:Wb) (h:(CU.agg (fQV m k d)).p cs W):0+2<=cs.length/\UV W m (.agg ((cs.drop 0).take 2).toArray) k:=by
 obtain ⟨b,s,t,e,h1,_⟩:=h
 rw [zAI e]
 exact ⟨by simp,h1⟩
theorem zKS {m:Nat} {k:Int} {d:Nat} (cs:List Wc) (W:Wb) (h:(CU.agg (fQV m k d)).p cs W): ∃u,cs[2]?=some u/\LV W m u d:=by
 obtain ⟨b,s,t,e,_,h1⟩:=h
 rw [zAI e]
 exact ⟨t,rfl,h1⟩
theorem zRt {m:Nat} {k:Int} {d:Nat} (cs:List Wc) (W:Wb) (h:(CU.agg (fQV m k d)).p cs W): ∃u,cs[0]?=some u/\ ∃s:Bool,u= .bool s:=by
 obtain ⟨b,s,t,e,⟨s',A,n,c,l,e',_⟩,_⟩:=h
 rw [zAI e]
 have:=rJ Array.toList (jG e')
 exact ⟨b,rfl,s',by simp at this;exact this.1⟩
theorem zBr {q:Rat} (cs:List Wc) (W:Wb) (h:(CU.agg (fQN q)).p cs W):0+2<=cs.length/\NV W (.agg ((cs.drop 0).take 2).toArray) q.num:=by
 obtain ⟨b,s,t,e,h1,_⟩:=h
 rw [zAI e]
 exact ⟨by simp,h1⟩
theorem zAV {q:Rat} (cs:List Wc) (W:Wb) (h:(CU.agg (fQN q)).p cs W): ∃u,cs[2]?=some u/\qM W u q.den:=by
 obtain ⟨b,s,t,e,_,h1⟩:=h
 rw [zAI e]
 exact ⟨t,rfl,h1⟩
theorem zOO {q:Rat} (cs:List Wc) (W:Wb) (h:(CU.agg (fQN q)).p cs W): ∃u,cs[1]?=some u/\qM W u q.num.natAbs:=by
 obtain ⟨b,s,t,e,h1,_⟩:=h
 rw [zAI e]
 exact zGT [b,s] W h1
theorem zOM {q:Rat} (cs:List Wc) (W:Wb) (h:(CU.agg (fQN q)).p cs W): ∃u,cs[0]?=some u/\u= .bool (decide (q.num<0)):=by
 obtain ⟨b,s,t,e,h1,_⟩:=h
 rw [zAI e]
 exact zLp [b,s] W h1
theorem zFL {q:Rat} (cs:List Wc) (W:Wb) (h:(CU.agg (fQN q)).p cs W):0+3<=cs.length/\QNp q (.agg ((cs.drop 0).take 3).toArray) W:=by
 have h1:=y5 q cs W h
 exact ⟨by omega,by rw [List.drop_zero,sK oN];exact h⟩
theorem zRx {m:Nat} {k:Int} {d:Nat} (cs:List Wc) (W:Wb) (h:(CU.agg (fQM m k d)).p cs W): ∃u,cs[1]?=some u/\qM W u k.natAbs:=by
 obtain ⟨b,s,t,e,h1,_⟩:=h
 rw [zAI e]
 exact zGT [b,s] W h1
theorem zRw {m:Nat} {k:Int} {d:Nat} (cs:List Wc) (W:Wb) (h:(CU.agg (fQM m k d)).p cs W): ∃u,cs[2]?=some u/\LV W m u d:=by
 obtain ⟨b,s,t,e,_,h1⟩:=h
 rw [zAI e]
 exact ⟨t,rfl,h1⟩
theorem LV.form {W:Wb} {m:Nat} {v:Wc} {x:Nat} (h:LV W m v x): ∃A n c,v= .slice A n c:=by
 obtain ⟨A,n,c,l,e,_⟩:=h
 exact ⟨A,n,c,e⟩
theorem qM.form {W:Wb} {v:Wc} {x:Nat} (h:qM W v x): ∃A n c,v= .slice A n c:=by
 obtain ⟨A,n,c,l,e,_⟩:=h
 exact ⟨A,n,c,e⟩
theorem UV.form {W:Wb} {m:Nat} {b s:Wc} {k:Int} (h:UV W m (.agg #[b,s]) k): ∃sg A n c,b= .bool sg/\s= .slice A n c:=by
 obtain ⟨s',A,n,c,l,e,_⟩:=h
 have:=rJ Array.toList (jG e)
 simp at this
 exact ⟨s',A,n,c,this.1,this.2⟩
theorem NV.form {W:Wb} {b s:Wc} {k:Int} (h:NV W (.agg #[b,s]) k): ∃A n c,b= .bool (decide (k<0))/\s= .slice A n c:=by
 obtain ⟨A,n,c,l,e,_⟩:=h
 have:=rJ Array.toList (jG e)
 simp at this
 exact ⟨A,n,c,this.1,this.2⟩
theorem zB5 {m:Nat} {k:Int} {d:Nat} {v:Wc} {W:Wb} (h:(fQV m k d).p v W): ∃sg A n c A' n' c',v= .agg #[.bool sg, .slice A n c, .slice A' n' c']:=by
 obtain ⟨b,s,t,rfl,h1,h2⟩:=h
 obtain ⟨sg,A,n,c,rfl,rfl⟩:=h1.form
 obtain ⟨A',n',c',rfl⟩:=h2.form
 exact ⟨_,_,_,_,_,_,_,rfl⟩
theorem zB6 {q:Rat} {v:Wc} {W:Wb} (h:(fQN q).p v W): ∃A n c A' n' c',v= .agg #[.bool (decide (q.num<0)), .slice A n c, .slice A' n' c']:=by
 obtain ⟨b,s,t,rfl,h1,h2⟩:=h
 obtain ⟨A,n,c,rfl,rfl⟩:=h1.form
 obtain ⟨A',n',c',rfl⟩:=h2.form
 exact ⟨_,_,_,_,_,_,rfl⟩
theorem zEE {m:Nat} {k:Int} {d:Nat} {v:Wc} {W:Wb} (h:(fQV m k d).p v W):(CU.agg (fQV m k d)).p v.cells.toList W/\v.cells.toList.all zU=true:=by
 obtain ⟨sg,A,n,c,A',n',c',rfl⟩:=zB5 h
 exact ⟨h,rfl⟩
theorem zON {q:Rat} {v:Wc} {W:Wb} (h:(fQN q).p v W):(CU.agg (fQN q)).p v.cells.toList W/\v.cells.toList.all zU=true:=by
 obtain ⟨A,n,c,A',n',c',rfl⟩:=zB6 h
 exact ⟨h,rfl⟩
theorem zB1 {sg:Bool} {A A':Wf Addr} {n c n' c':Nat} (u:Wc) (hu:u∈ [Value.bool sg, .slice A n c, .slice A' n' c']):u.oneCell'=true:=by
 simp at hu
 rcases hu with rfl|rfl|rfl<;>rfl
theorem zY {q:Rat} (v:Wc) (W:Wb) (h:(fQN q).p v W): ∃vs:List Wc,v= .agg vs.toArray/\vs.length=3/\(∀u,u∈vs->u.oneCell'=true)/\vs.all zU=true/\(CU.agg (fQN q)).p vs W:=by
 obtain ⟨A,n,c,A',n',c',rfl⟩:=zB6 h
 exact ⟨[_,_,_],rfl,rfl,zB1,rfl,h⟩
theorem zNo {m:Nat} {k:Int} {d:Nat} (v:Wc) (W:Wb) (h:(fQV m k d).p v W): ∃vs:List Wc,v= .agg vs.toArray/\vs.length=3/\(∀u,u∈vs->u.oneCell'=true)/\vs.all zU=true/\(CU.agg (fQV m k d)).p vs W:=by
 obtain ⟨sg,A,n,c,A',n',c',rfl⟩:=zB5 h
 exact ⟨[_,_,_],rfl,rfl,zB1,rfl,h⟩
theorem zHO {q:Rat} {m:Nat} {v:Wc} {W:Wb} (h:QNp q v W) (hq:QB q m):QVp m q.num q.den v W:=by
 obtain ⟨b,s,t,e,h1,h2⟩:=h
 exact ⟨b,s,t,e,h1.uv' hq.1,h2.lv hq.2⟩
theorem zP0 {m m':Nat} {k:Int} {d:Nat} {v:Wc} {W:Wb} (h:QVp m k d v W) (hm:m<=m'):QVp m' k d v W:=by
 obtain ⟨b,s,t,e,h1,h2⟩:=h
 exact ⟨b,s,t,e,h1.mono hm,h2.mono hm⟩
theorem zUn (s:Bool) (A A':Wf Addr) (n n' c c':Nat):prog.built 29 [(0, .agg #[.bool s, .slice A n c]),(1, .slice A' n' c')]=some #[.bool s, .slice A n c, .slice A' n' c']:=by kernel_rfl
theorem zHi {u v:Wc} {W:Wb} {q:Rat} (hu:NV W u q.num) (hv:qM W v q.den): ∃cells,prog.built 29 [(0,u),(1,v)]=some cells/\QNp q (.agg cells) W:=by
 obtain ⟨A,n,c,rfl,h1⟩:=hu.nat
 obtain ⟨A',n',c',rfl⟩:=hv.form
 exact ⟨_,zUn _ _ _ _ _ _ _,_,_,_,rfl,hu,hv⟩
theorem zPa {u v:Wc} {W:Wb} {m:Nat} {k:Int} {d:Nat} (hu:UV W m u k) (hv:LV W m v d): ∃cells,prog.built 29 [(0,u),(1,v)]=some cells/\QVp m k d (.agg cells) W:=by
 obtain ⟨s,A,n,c,l,rfl,h1⟩:=id hu
 obtain ⟨A',n',c',rfl⟩:=hv.form
 exact ⟨_,zUn _ _ _ _ _ _ _,_,_,_,rfl,hu,hv⟩
theorem zTY:yI prog 25 1 [(0, .int .u32 1)]=some (62,#[.int .u32 1]):=by kernel_rfl
theorem zOz {u:Wc} {W:Wb} (hu:u= .int .u32 1): ∃e cs,yI prog 25 1 [(0,u)]=some (e,cs)/\qM (W.alloc (.cells cs e)) (.slice (some ⟨W.heap.size,0,none⟩) 1 1) 1:=by
 subst hu
 refine ⟨_,_,zTY,_,1,1, [1],rfl,⟨fun y hy=>by simp at hy;subst hy;decide,fun hn=>by simp, ?_⟩,Rd.new W [1] _ _ (by simp [zBc]) fK⟩
 show sm (lm [1]) 1=1
 simp [sm,lm]
theorem zTZ (A:Wf Addr) (n c:Nat):prog.built 27 [(1, .slice A n c)]=some #[.bool false, .slice A n c]:=by kernel_rfl
theorem zMn {v:Wc} {W:Wb} {x:Nat} (hv:qM W v x): ∃cells,prog.built 27 [(1,v)]=some cells/\NV W (.agg cells) x:=by
 obtain ⟨A,n,c,l,rfl,h1,h2⟩:=hv
 refine ⟨_,zTZ _ _ _,A,n,c,l,by rw [decide_eq_false oN],by rw [Int.natAbs_natCast];exact h1,h2⟩
theorem zUO (s:Bool) (A A':Wf Addr) (n n' c c':Nat):prog.built 103 [(0, .agg #[.bool s, .slice A n c, .slice A' n' c'])]=some #[.bool s, .slice A n c, .slice A' n' c']:=by kernel_rfl
theorem zMo {v:Wc} {W:Wb} {m:Nat} {k:Int} {d:Nat} (hv:QVp m k d v W): ∃cells,prog.built 103 [(0,v)]=some cells/\QVp m k d (.agg cells) W:=by
 obtain ⟨sg,A,n,c,A',n',c',rfl⟩:=zB5 hv
 exact ⟨_,zUO _ _ _ _ _ _ _,hv⟩
def QKp (k:Int) (d:Nat) (v:Wc) (w:Wb):Prop:= ∃b s t,v= .agg #[b,s,t]/\NV w (.agg #[b,s]) k/\qM w t d
def fQK (k:Int) (d:Nat):UF:= .mk' (QKp k d) fun _ _ _ ⟨b,s,t,e,h1,h2⟩ u=>⟨b,s,t,e,(fNV k).us _ _ _ h1 u,(qW d).us _ _ _ h2 u⟩
theorem zRy {k:Int} {d m:Nat} {v:Wc} {W:Wb} (h:QKp k d v W) (hk:Bd k m) (hd:d<BB^m):QVp m k d v W:=by
 obtain ⟨b,s,t,e,h1,h2⟩:=h
 exact ⟨b,s,t,e,h1.uv' hk,h2.lv hd⟩
theorem zRz {k:Int} {d:Nat} (cs:List Wc) (W:Wb) (h:(CU.agg (fQK k d)).p cs W): ∃u,cs[2]?=some u/\qM W u d:=by
 obtain ⟨b,s,t,e,_,h1⟩:=h
 rw [zAI e]
 exact ⟨t,rfl,h1⟩
theorem zEL {v:Wc} {W:Wb} {x:Nat} (h:qM W v x):v.cells=#[v]/\v.oneCell'=true/\zU v=true:=by
 obtain ⟨A,n,c,rfl⟩:=h.form
 exact ⟨rfl,rfl,rfl⟩
theorem zMV {m:Nat} {k:Int} {d:Nat} {q:Rat} (v:Wc) (W:Wb) (h:(fQN q).p v W):v.cells.size=3/\(∀u,u∈v.cells.toList->u.oneCell'=true)/\v.cells.toList.all zU=true/\ ∀cs,(CU.agg (fQV m k d)).p cs W->0+3<=cs.length/\(CU.agg (fQN q)).p (jR cs 0 v.cells.toList) W:=by
 obtain ⟨A,n,c,A',n',c',rfl⟩:=zB6 h
 refine ⟨rfl,zB1,rfl,fun cs hc=> ?_⟩
 obtain ⟨b,s,t,e,_⟩:=hc
 rw [zAI e]
 exact ⟨by simp,h⟩
theorem zPy {m:Nat} {k0 k:Int} {d:Nat} (v:Wc) (W:Wb) (h:(fNV k).p v W):v.cells.size=2/\(∀u,u∈v.cells.toList->u.oneCell'=true)/\v.cells.toList.all zU=true/\ ∀cs,(CU.agg (fQV m k0 d)).p cs W->0+2<=cs.length/\(CU.agg (fQM m k d)).p (jR cs 0 v.cells.toList) W:=by
 obtain ⟨A,n,c,rfl,h1⟩:=NV.nat h
 refine ⟨rfl,fun u hu=>by simp [Value.cells] at hu;rcases hu with rfl|rfl<;>rfl,rfl,fun cs hc=> ?_⟩
 obtain ⟨b,s,t,e,_,h2⟩:=hc
 rw [zAI e]
 exact ⟨by simp,_,_,t,rfl,h,h2⟩
theorem zHC {k0 k:Int} {d:Nat} (v:Wc) (W:Wb) (h:(fNV k).p v W):v.cells.size=2/\(∀u,u∈v.cells.toList->u.oneCell'=true)/\v.cells.toList.all zU=true/\ ∀cs,(CU.agg (fQK k0 d)).p cs W->0+2<=cs.length/\(CU.agg (fQK k d)).p (jR cs 0 v.cells.toList) W:=by
 obtain ⟨A,n,c,rfl,h1⟩:=NV.nat h
 refine ⟨rfl,fun u hu=>by simp [Value.cells] at hu;rcases hu with rfl|rfl<;>rfl,rfl,fun cs hc=> ?_⟩
 obtain ⟨b,s,t,e,_,h2⟩:=hc
 rw [zAI e]
 exact ⟨by simp,_,_,t,rfl,h,h2⟩
theorem zKj {k:Int} {d0 d:Nat} (v:Wc) (W:Wb) (h:(qW d).p v W):v.cells.size=1/\(∀u,u∈v.cells.toList->u.oneCell'=true)/\v.cells.toList.all zU=true/\ ∀cs,(CU.agg (fQK k d0)).p cs W->2+1<=cs.length/\(CU.agg (fQK k d)).p (jR cs 2 v.cells.toList) W:=by
 obtain ⟨h1,h2,h3⟩:=zEL h
 rw [h1]
 refine ⟨rfl,fun u hu=>by simp at hu;rw [hu];exact h2,by simp [h3],fun cs hc=> ?_⟩
 obtain ⟨b,s,t,e,h4,_⟩:=hc
 rw [zAI e]
 exact ⟨by simp,b,s,v,rfl,h4,h⟩
theorem zRf {m:Nat} {k:Int} {x d:Nat} (v:Wc) (W:Wb) (h:(qW x).p v W):v.cells.size=1/\(∀u,u∈v.cells.toList->u.oneCell'=true)/\v.cells.toList.all zU=true/\ ∀cs,(CU.agg (fQM m k d)).p cs W->1+1<=cs.length/\(CU.agg (fQA m (decide (k<0)) x d)).p (jR cs 1 v.cells.toList) W:=by
 obtain ⟨h1,h2,h3⟩:=zEL h
 rw [h1]
 refine ⟨rfl,fun u hu=>by simp at hu;rw [hu];exact h2,by simp [h3],fun cs hc=> ?_⟩
 obtain ⟨b,s,t,e,h4,h5⟩:=hc
 obtain ⟨A,n,c,rfl,rfl⟩:=h4.form
 rw [zAI e]
 exact ⟨by simp,v,t,rfl,h,h5⟩
theorem zRe {m:Nat} {sg:Bool} {q:Rat} {x y d:Nat} (hs:sg=decide (q.num<0)) (hx:x=q.num.natAbs) (hy:y=q.den) (v:Wc) (W:Wb) (h:(qW y).p v W):v.cells.size=1/\(∀u,u∈v.cells.toList->u.oneCell'=true)/\v.cells.toList.all zU=true/\ ∀cs,(CU.agg (fQA m sg x d)).p cs W->2+1<=cs.length/\(CU.agg (fQN q)).p (jR cs 2 v.cells.toList) W:=by
 obtain ⟨h1,h2,h3⟩:=zEL h
 rw [h1]
 refine ⟨rfl,fun u hu=>by simp at hu;rw [hu];exact h2,by simp [h3],fun cs hc=> ?_⟩
 obtain ⟨s,t,e,h4,_⟩:=hc
 rw [zAI e]
 refine ⟨by simp, .bool sg,s,v,rfl, ?_,by rw [<-hy];exact h⟩
 obtain ⟨A,n,c,l,rfl,g1,g2⟩:=h4
 exact ⟨A,n,c,l,by rw [hs],by rw [<-hx];exact g1,g2⟩
def RVp (m:Nat) (q:Rat) (v:Wc) (w:Wb):Prop:= ∃k d,QVp m k d v w/\mkRat k d=q
def fRV (m:Nat) (q:Rat):UF:= .mk' (RVp m q) fun _ _ _ ⟨k,d,h,e⟩ u=>⟨k,d,(fQV m k d).us _ _ _ h u,e⟩
theorem wG {m:Nat} {q:Rat} {v:Wc} {W:Wb} (h:QNp q v W) (hq:QB q m):RVp m q v W:=⟨_,_,zHO h hq,Rat.mkRat_self q⟩
theorem RVp.mono {m m':Nat} {q:Rat} {v:Wc} {W:Wb} (h:RVp m q v W) (hm:m<=m'):RVp m' q v W:=by
 obtain ⟨k,d,h1,h2⟩:=h
 exact ⟨k,d,zP0 h1 hm,h2⟩
theorem RVp.qb {m:Nat} {q:Rat} {v:Wc} {W:Wb} (h:RVp m q v W) (hm:0<m):QB q m:=by
 obtain ⟨k,d,⟨b,s,t,_,h1,h2⟩,rfl⟩:=h
 exact vF h1.bd h2.bound hm
theorem yQ (m:Nat) (q:Rat): ∀cs:List Wc, ∀W,(fRV m q).p (.agg cs.toArray) W->cs.length=3:=fun cs W ⟨k,d,h,_⟩=>zOJ m k d cs W h
theorem zAu {m:Nat} {q:Rat} {v:Wc} {W:Wb} (h:(fRV m q).p v W):(CU.agg (fRV m q)).p v.cells.toList W/\v.cells.toList.all zU=true:=by
 obtain ⟨k,d,h1,h2⟩:=h
 obtain ⟨g1,g2⟩:=zEE h1
 exact ⟨⟨k,d,g1,h2⟩,g2⟩
theorem zGf {P:Wh} {f:FuncId} {args:Array Wc} {W:Wb} {u:Wc} (h:Calls P f args W fun e w'=>e= .returned u/\Below W.heap.size W w'):Calls P f args W (Ret W (UF.eq u).tS):=h.mono fun _ _ ⟨h1,h2⟩=>⟨u,h1,rfl,h2⟩
attribute [local go_sem] Oper.semAt_some qB yB
theorem zUH {W:Wb} (k:Int) (h: -9223372036854775808<=k/\k<=9223372036854775807):Calls prog 61 #[.int .i64 k] W (zGp W k):=
 (zIA k h.1 h.2 W).mono fun _ _=>qP.v
def SF.row (z:Nat) (Cs:List CU):SF:=⟨fun v W=> ∃A c,v= .slice A Cs.length c/\Cs.length<=c/\c<=9223372036854775807/\(A=none->c=0)/\ ∀i C,Cs[i]?=some C-> ∃b o cs,A=some ⟨b,o,none⟩/\Mem W b (o+i*z) cs/\C.p cs W,
 fun _ _ _ ⟨A,c,h1,h2,h3,h4,h5⟩ hb=>⟨A,c,h1,h2,h3,h4,fun i C hi=>let ⟨b,o,cs,g1,g2,g3⟩:=h5 i C hi;⟨b,o,cs,g1,g2.below hb,C.us _ _ _ g3 (zP hb)⟩⟩⟩
theorem yJ {z:Nat} {Cs:List CU} {l v:Wc} {W0 W:Wb} (hl:(SF.row z Cs).p l W0) (h:v=l) (hb:Below W0.heap.size W0 W):(SF.row z Cs).p v W:=by subst h;exact (SF.row z Cs).st _ _ _ hl hb
def zBE (P:Wh) (t:We):Wf Nat:=match P.underlying t with
 |some (.slice e)=>(P.info? e).map (·.size)
 |_=>none
section
variable {F:Fence} {m:Nat} {P:Wh} {w0:Wb} {ops:Array Oper} {G:Nat->SF} {d:Tmp} {ty:We} {pos:String} {aft:Array Edge}
theorem zBz {x y:Wg} {t:We} {z:Nat} {Cs:List CU} {i:Nat} {C:CU} (hz:zBE P t=some z) (hi:Cs[i]?=some C) (hx: ∀v W,(fct G x).p v W->(SF.row z Cs).p v W) (hy: ∀v W,(fct G y).p v W->v= .int .i64 (i:Int)) (hd: ∀v W,(wB C.cf).p v W->(G d).p v W:=by exact fun _ _ h=>h):qG F m P w0 ops G ⟨some d, .indexAddr t x y,ty,pos,aft,none⟩:=
 qH (fun _ e=>by cases e) (fun _ e=>by cases e) fun b W hb hh=>by
  obtain ⟨A,c,e,h2,h3,h4,h5⟩:=hx _ _ (hh x (by simp [Op.operands]))
  have e2:=hy _ _ (hh y (by simp [Op.operands]))
  obtain ⟨b',o,cs,rfl,h6,h7⟩:=h5 i C hi
  have hlt:i<Cs.length:=(rK.1 hi).1
  unfold zBE at hz
  split at hz<;>try cases hz
  rename_i e' hu
  cases hin:P.info? e' with
  |none=>rw [hin] at hz;cases hz
  |some ie=>
   rw [hin] at hz
   simp only [Option.map_some,sL] at hz
   have hel:P.elem t=e':=by simp [Program.elem,hu]
   refine ⟨.pointer (some ⟨b',o+i*z,none⟩), ?_,hd _ _ ⟨b',o+i*z,cs,rfl,h7,h6⟩⟩
   have hb1:(0:Int)<=(i:Int)/\(i:Int)<(Cs.length:Nat):=by omega
   simp only [execOp,e,e2]
   rw [rL,run_indexAt_slice _ _ _ _ _ _ _ (by rw [hel];exact hu),if_pos hb1,hel]
   simp [sizeOf,typeInfo,hin,hz,rP]
def SF.imp (c:Prop) (f:SF):SF:=⟨fun v W=>c->f.p v W,fun _ _ _ h hb hc=>f.st _ _ _ (h hc) hb⟩
theorem qO {op:Op} (L:List (Nat×SF)) (f:SF) (hL: ∀q,q∈L-> ∀v W,(G q.1).p v W->q.2.p v W) (hd: ∀v W,f.p v W->(G d).p v W) (hnd:(!(zDC ⟨some d,op,ty,pos,aft,none⟩).contains d&& !(L.map (·.1)).contains d)=true)
  (h:qG F m P w0 ops (upd (upd G [(d,f)]) L) ⟨some d,op,ty,pos,aft,none⟩):qG F m P w0 ops G ⟨some d,op,ty,pos,aft,none⟩:=by
 rw [pR] at hnd
 intro b W K Q hb hr hK
 refine h b W K Q hb (fun t ht=> ?_) fun v W' hv hb'=>hK v W' (fun d' e=> ?_) hb'
 ·have hne:Nat.beq d t=false:=by
   cases e:Nat.beq d t with
   |false=>rfl
   |true=>
    have:=rQ e
    subst this
    have h1:=hnd.1
    rw [pX.2 ht] at h1
    cases h1
  have key: ∀l:List (Nat×SF),(∀q,q∈l-> ∀v W,(G q.1).p v W->q.2.p v W)->(upd (upd G [(d,f)]) l t).p (b.tmps.getD t undef) W:=by
   intro l
   induction l with
   |nil=>
    intro _
    show (bif Nat.beq d t then f else G t).p _ _
    rw [hne]
    exact hr t ht
   | cons q l ih=>
    intro hl
    show (bif Nat.beq q.1 t then q.2 else upd (upd G [(d,f)]) l t).p _ _
    cases e:Nat.beq q.1 t with
    |true=>
     have e2:=rQ e
     exact hl q fK _ _ (by rw [e2];exact hr t ht)
    |false=>exact ih fun x hx=>hl x (by simp [hx])
  exact key L hL
 ·cases e
  have h1:=hv d rfl
  rw [jK (by simpa using hnd.2)] at h1
  have h2:(bif Nat.beq d d then f else G d).p v W':=h1
  rw [show Nat.beq d d=true from Nat.beq_refl d] at h2
  exact hd v W' h2
theorem zDb {b c:Bool} {v:Wc} (h:v= .bool c) (e:b=true):v= .bool (b&&c):=by rw [e];exact h
theorem zCa {b c:Bool} {v:Wc} (h:v= .bool false) (e:b=false):v= .bool (b&&c):=by rw [e];exact h
theorem zDF {b c:Bool} {v:Wc} (h:v= .bool true) (e:b=true):v= .bool (b||c):=by rw [e];exact h
theorem zCy {b c:Bool} {v:Wc} (h:v= .bool c) (e:b=false):v= .bool (b||c):=by rw [e];exact h
theorem zT {op:BinOp} {t:We} {x y:Wg} {t':We} (k:IntKind) (u v:Int) (r:Bool) (hx: ∀q W,(fct G x).p q W->q= .int k u) (hy: ∀q W,(fct G y).p q W->q= .int k v) (hr:(match op with| .eql=>u==v| .neq=>u !=v| .lss=>decide (u<v)| .leq=>decide (u<=v)| .gtr=>decide (u>v)| .geq=>decide (u≥v)|_=>false)=r) (ho:(match op with| .eql| .neq| .lss| .leq| .gtr| .geq=>true|_=>false)=true) (hd: ∀W,(G d).p (.bool r) W:=by exact fun _=>rfl):qG F m P w0 ops G ⟨some d, .binOp op t x y t',ty,pos,aft,none⟩:=
 zDg (.int k u) (.int k v) (.bool r) hx hy (fun W=>by cases op<;>simp [eqGuard]) (fun W=>by
  cases op<;>first
   |exact absurd ho Bool.false_ne_true
   |(subst hr;simp [binOp,Op.intCmp])) hd
theorem qA {t:We} {x y:Wg} {t':We} (k:IntKind) (u v r:Int) (hx: ∀q W,(fct G x).p q W->q= .int k u) (hy: ∀q W,(fct G y).p q W->q= .int k v) (hr:k.wrap (u+v)=r) (hd: ∀W,(G d).p (.int k r) W:=by exact fun _=>rfl):qG F m P w0 ops G ⟨some d, .binOp .add t x y t',ty,pos,aft,none⟩:=
 zDg (.int k u) (.int k v) (.int k r) hx hy (fun W=>by simp [eqGuard]) (fun W=>by simp [binOp,Op.intArith,hr]) hd
theorem zCb {x:Wg} {t:We} {z:Nat} {Cs:List CU} (ht:P.underlying t=some (.slice (P.elem t))) (hx: ∀v W,(fct G x).p v W->(SF.row z Cs).p v W:=by exact fun _ _ h=>h) (hd: ∀W,(G d).p (.int .i64 (Cs.length:Nat)) W:=by exact fun _=>rfl):qG F m P w0 ops G ⟨some d, .call ⟨.builtin .len,#[x],#[t]⟩,ty,pos,aft,none⟩:=
 zFg ht fun v W h=>by
  obtain ⟨A,c,e,_⟩:=hx v W h
  exact ⟨A,Cs.length,c,e,hd W⟩
end
section
variable {S:Nat->Prop} {F:Fence} {m:Nat} {P:Wh} {Q:Exit->Act->Wb->Prop} {w0:Wb} {K:List (Nat×KF)} {B:List Bx} {n:Nat} {ds:List Deferred} {a:Act} {w:Wb}
end
theorem zPV {W:Wb} {m:Nat} {v:Wc} {k:Int} (h:UV W m v k) (hm:m<=90000):Calls prog 52 #[v] W (zGp W (-k)):=by
 obtain ⟨s,A,n,c,l,rfl,h1,h2,h3,rfl⟩:=h
 exact (zGF s A n c l W h1 h2 oN).mono fun _ _=>qP.v
theorem zFK {W:Wb} {m:Nat} {v:Wc} {k:Int} (h:UV W m v k) (hm:m<=90000):Calls prog 49 #[v] W (zGp W k):=by
 obtain ⟨s,A,n,c,l,rfl,h1,h2,h3,rfl⟩:=h
 exact (zAm s A n c l W h1 h2 oN).mono fun _ _=>qP.v
theorem zNl {W:Wb} {m:Nat} {v:Wc} {k:Int} (h:UV W m v k) (hm:m<=90000):Calls prog 25 #[v] W fun e w'=>e= .returned (.int .i64 k.sign)/\Below W.heap.size W w':=by
 obtain ⟨s,A,n,c,l,rfl,h1,h2,h3,rfl⟩:=h
 exact zJw s A n c l W h1 h2 oN
theorem zPU {W:Wb} {m:Nat} {v v':Wc} {k k':Int} (h:UV W m v k) (h':UV W m v' k') (hm:m<=90000):Calls prog 27 #[v,v'] W (zGp W (k - k')):=by
 obtain ⟨s,A,n,c,l,rfl,h1,h2,h3,rfl⟩:=h
 obtain ⟨s',A',n',c',l',rfl,h1',h2',h3',rfl⟩:=h'
 exact (zKQ s A n c l s' A' n' c' l' W h1 h2 h1' h2' m h3 h3' hm).mono fun _ _=>qP.v
theorem zRs {W:Wb} (k:Int) (h: -9223372036854775808<=k/\k<=9223372036854775807):Calls prog 30 #[.int .i64 k] W (zGp W k):=
 (zIM k h.1 h.2 W).mono fun _ _=>qP.v
theorem zPX {W:Wb} {m:Nat} {v:Wc} {ks:List Int} {k:Int} (h:ISV W m v ks) (hm:m<=2000) (hn:ks.length<=1000) (hk:ks.sum=k):Calls prog 51 #[v] W (zGp W k):=by
 obtain ⟨is,h1,h2⟩:=h
 have hl:is.length=ks.length:=by rw [<-h2,List.length_map]
 obtain ⟨A,c,e,h3,h4,h5⟩:=h1
 have hb: ∀j,j<=is.length->(zDy is j).natAbs<BB^(m+1000):=by
  intro j hj
  have key: ∀j,Bd (zDy is j) (m+j):=by
   intro j
   induction j with
   |zero=>exact Nat.pow_pos y6
   |succ j ih=>
    have e1:zDy is (j+1)=zDy is j+zDI is j:=rfl
    rw [e1]
    exact (ih.add ((show Bd (zDI is j) m from zF0 h5 j).mono oN)).mono oN
  exact (key j).mono oN
 have:=zPY (m+1000) (⟨A,c,e,h3,h4,h5⟩:IS W m v is) oN oN oN hb
 rw [zEO is is.length (rD _),List.take_length,h2,hk] at this
 exact this
theorem zED {W:Wb} {m:Nat} {v:Wc} {ks:List Int} {k:Int} (h:ISV W m v ks) (hn:m*ks.length+m+1<=40000) (hk:ks.foldl (·*·) 1=k) (hl:ks.length<=1000):Calls prog 28 #[v] W (zGp W k):=by
 obtain ⟨is,h1,h2⟩:=h
 have hl2:is.length=ks.length:=by rw [<-h2,List.length_map]
 obtain ⟨A,c,e,h3,h4,h5⟩:=h1
 have:=zPW (m*ks.length+m+1) (⟨A,c,e,h3,h4,h5⟩:IS W m v is) oN oN oN (fun k hk=>(zF2 h5 k).mono (by
  have:m*k<=m*ks.length:=Nat.mul_le_mul_left _ oN
  omega))
 rw [zDK is is.length (rD _),List.take_length,h2,hk] at this
 exact this
end Go.Proofs.Wd

namespace Go.Proofs.Wd
open Tryz
open Go.RowKit
section
variable {S:Nat->Prop} {w0:Wb} {K:List (Nat×KF)} {B:List Bx} {n:Nat} {ds:List Deferred} {a:Act} {w:Wb}
theorem yS {c:Prop} {f:SF} {v:Wc} {W:Wb} (e:c) (h:(SF.imp c f).p v W):f.p v W:=h e
def zAL (K0 K:List (Nat×KF)) (B:List Bx) (a:Act) (t:Nat):SF:=if t∈K.map (·.1)++B.map (·.t) then ⟨fun v W=>(j5 (K0++K) B t).p v W/\v=a.tmps.getD t undef,fun _ _ _ h hb=>⟨(j5 (K0++K) B t).st _ _ _ h.1 hb,h.2⟩⟩ else j5 (K0++K) B t
variable {F:Fence} {m:Nat} {P:Wh} {ops:Array Oper} {Q:Exit->Act->Wb->Prop}
theorem zHB (K0:List (Nat×KF)) (k:Nat) (L:List (Nat×Rw)) (h:StS S w0 (K0++K) B n ds a w) {Goal:Prop} {Fin:Act->Wb->Prop}
  (hT: ∀G':Nat->SF,At w G' n ds a w->Obs F m P w ops (upd G' (zK L)) (ops.toList.take k)->(∀a' w',At w (zCg ops k (upd G' (zK L))) n ds a' w'->Fin a' w')->Goal)
  (hap:q6 ops=true) (hks:((L.map (·.1)).all fun t=>(List.range k).any fun i=>zS ops i==some t)=true) (hun:zA5 ops (K.map (·.1)++B.map (·.t))=true) (hnd:zAG (L.map (·.1))=true)
  (hobs:Obs F m P w ops (upd (j5 (K0++K) B) (zK L)) (ops.toList.take k))
  (hfin: ∀a w,StS S w0 (zBB L++K) B n ds a w->(∀q,q∈zK L->q.2.p (a.tmps.getD q.1 undef) w)->Fin a w):Goal:=by
 have hkeys:(zK L).map (·.1)=L.map (·.1):=by simp [zK]
 have hsame: ∀t,t∈K.map (·.1)++B.map (·.t)-> ∀i,zS ops i≠some t:=fun t ht i hi=>by
  have h1:=pL.1 hun t ht
  obtain ⟨o,ho,_⟩:=y4 hi
  have h2:=pL.1 h1 i (pM.2 (pP.1 ho).1)
  rw [hi] at h2
  simp at h2
 have hv: ∀t,t∈K.map (·.1)++B.map (·.t)->a.tmps.getD t undef=a.tmps.getD t undef:=fun _ _=>rfl
 -- the slots of K and B stay: a table that says so
 have hA:=h.at
 refine hT (zAL K0 K B a) ⟨hA.gr,hA.size,hA.nd,fun t=> ?_⟩ ?_ fun a' w' hA'=> ?_
 ·by_cases ht:t∈K.map (·.1)++B.map (·.t)
  ·unfold zAL;rw [if_pos ht];exact ⟨hA.sl t,rfl⟩
  ·unfold zAL;rw [if_neg ht];exact hA.sl t
 ·-- the obligations hold with the stronger table
  have hkn: ∀t,t∈K.map (·.1)++B.map (·.t)->((zK L).map (·.1)).contains t=false:=fun t ht=>by
   cases hc:((zK L).map (·.1)).contains t with
   |false=>rfl
   |true=>
    exfalso
    have hm:=pX.1 hc
    rw [hkeys] at hm
    obtain ⟨i,_,he⟩:=pW.1 (pL.1 hks t hm)
    exact hsame t ht i (by simpa using he)
  have hle: ∀t v W,(upd (zAL K0 K B a) (zK L) t).p v W->(upd (j5 (K0++K) B) (zK L) t).p v W:=fun t v W hh=>by
   by_cases ht:t∈K.map (·.1)++B.map (·.t)
   ·rw [jK (hkn t ht)] at hh ⊢
    unfold zAL at hh
    rw [if_pos ht] at hh
    exact hh.1
   ·have: ∀l:List (Nat×SF),upd (zAL K0 K B a) l t=upd (j5 (K0++K) B) l t:=fun l=>by
     induction l with
     |nil=>exact if_neg ht
     |cons q l ih=>
      show (bif Nat.beq q.1 t then q.2 else upd _ l t)=(bif Nat.beq q.1 t then q.2 else upd _ l t)
      rw [ih]
    rwa [this] at hh
  have hge: ∀t,(∃i,zS ops i=some t)-> ∀v W,(upd (j5 (K0++K) B) (zK L) t).p v W->(upd (zAL K0 K B a) (zK L) t).p v W:=fun t ⟨i,hi⟩ v W hh=>by
   have ht: ¬t∈K.map (·.1)++B.map (·.t):=fun ht=>hsame t ht i hi
   have: ∀l:List (Nat×SF),upd (zAL K0 K B a) l t=upd (j5 (K0++K) B) l t:=fun l=>by
    induction l with
    |nil=>exact if_neg ht
    |cons q l ih=>
     show (bif Nat.beq q.1 t then q.2 else upd _ l t)=(bif Nat.beq q.1 t then q.2 else upd _ l t)
     rw [ih]
   rwa [this]
  have hconv: ∀(o:Oper),o∈ops.toList->qG F m P w ops (upd (j5 (K0++K) B) (zK L)) o->qG F m P w ops (upd (zAL K0 K B a) (zK L)) o:=by
   intro o ho hg
   have hdst: ∀d,o.dst=some d-> ∃i,zS ops i=some d:=fun d hd=>by
    obtain ⟨i,hi⟩:=List.getElem?_of_mem ho
    exact ⟨i,by rw [qJ (o:=o) (by simpa using hi)];exact hd⟩
   have hop:zJX F m P w (upd (j5 (K0++K) B) (zK L)) o->zJX F m P w (upd (zAL K0 K B a) (zK L)) o:=fun h1 b W K' Q' hb hr hK'=>
    h1 b W K' Q' hb (fun t ht=>hle t _ _ (hr t ht)) fun v W' hv hb'=>hK' v W' (fun d hd=>hge d (hdst d hd) _ _ (hv d hd)) hb'
   unfold qG at hg ⊢
   cases hgd:o.guard with
   |none=>rw [hgd] at hg;exact hop hg
   |some q=>
    rw [hgd] at hg
    obtain ⟨g,bv,h1,h2,h3,h4⟩:=hg
    exact ⟨g,bv,h1,fun v W hh=>h2 v W (hle g v W hh),fun e=>hop (h3 e),fun e=>⟨fun d hd W=>hge d (hdst d hd) _ _ ((h4 e).1 d hd W),(h4 e).2⟩⟩
  have hall: ∀l:List Oper,(∀o,o∈l->o∈ops.toList)->Obs F m P w ops (upd (j5 (K0++K) B) (zK L)) l->Obs F m P w ops (upd (zAL K0 K B a) (zK L)) l:=by
   intro l
   induction l with
   |nil=>intro _ _;trivial
   |cons o l ih=>intro hm ho;exact ⟨hconv o (hm o fK) ho.1,ih (fun o' ho'=>hm o' (by simp [ho'])) ho.2⟩
  exact hall _ (fun o ho=>sM ho) hobs
 ·have hg:=hA'.gr
  have hslot: ∀t,t∈K.map (·.1)++B.map (·.t)->a'.tmps.getD t undef=a.tmps.getD t undef:=fun t ht=>by
   have h1:=hA'.sl t
   unfold zCg at h1
   have h2:((List.range ops.size).any fun i=>decide (k<=i)&&(zS ops i==some t))=false:=by
    refine rR.2 fun i _=> ?_
    have:=hsame t ht i
    simp [this]
   rw [h2] at h1
   have h3:((zK L).map (·.1)).contains t=false:=by
    cases hc:((zK L).map (·.1)).contains t with
    |false=>rfl
    |true=>
     exfalso
     have hm:=pX.1 hc
     rw [hkeys] at hm
     obtain ⟨i,_,he⟩:=pW.1 (pL.1 hks t hm)
     exact hsame t ht i (by simpa using he)
   rw [show (bif false then SF.any else upd _ (zK L) t)=upd _ (zK L) t from rfl,jK h3,zAL,if_pos ht] at h1
   exact h1.2
  have hrow: ∀q,q∈zK L->q.2.p (a'.tmps.getD q.1 undef) w':=fun q hm2=>by
   have h1:=hA'.sl q.1
   obtain ⟨i,hi,he⟩:=pW.1 (pL.1 hks q.1 (by rw [<-hkeys];exact pQ.2 ⟨_,hm2,rfl⟩))
   have hik:=pM.1 hi
   have he:zS ops i=some q.1:=by simpa using he
   unfold zCg at h1
   have h2:((List.range ops.size).any fun j=>decide (k<=j)&&(zS ops j==some q.1))=false:=by
    refine rR.2 fun j _=> ?_
    by_cases hj:k<=j
    ·have:zS ops j≠some q.1:=fun e=>by
      obtain ⟨oi,ho1,hd1⟩:=y4 he
      obtain ⟨oj,ho2,hd2⟩:=y4 e
      exact j7 hap ho1 ho2 oN hd1 hd2
     simp [this]
    ·simp [hj]
   rw [h2,show (bif false then SF.any else upd (zAL K0 K B a) (zK L) q.1)=upd (zAL K0 K B a) (zK L) q.1 from rfl,zBP (q:=q) (by rw [hkeys];exact hnd) hm2] at h1
   exact h1
  refine hfin a' w' ⟨h.gr.trans hg,hA'.size,hA'.nd,fun q hq=> ?_,h.bx.keep hg (zP hg) B fun x hx=>hslot _ (rV _ (pQ.2 ⟨x,hx,rfl⟩)),zAh h.mks hg,h.so.imp (fun hu q hq=>(by
   rcases rM.1 hq with hq|hq
   ·obtain ⟨f,e,_⟩:=jJ hq;exact ⟨f,e⟩
   ·exact hu q (rV _ hq))) (fun x=>x)⟩ hrow
  rcases rM.1 hq with hq|hq
  ·obtain ⟨f,hqf,hm⟩:=jJ hq
   have h1:=hrow (q.1,f.tS) (pQ.2 ⟨_,hm,rfl⟩)
   rw [hqf]
   exact h1
  ·rw [hslot q.1 (sN _ (pQ.2 ⟨q,hq,rfl⟩))]
   exact KF.us (h.sl q (rV _ hq)) (zP hg)
end
theorem zDm {p:Nat->Prop}: ∀n,p n-> ∃s,p s/\ ∀k,k<s-> ¬p k:=by
 intro n
 induction n using Nat.strongRecOn with
 | _ n ih=>
  intro hn
  by_cases h: ∃k,k<n/\p k
  ·obtain ⟨k,hk,hp⟩:=h
   exact ih k hk hp
  ·exact ⟨n,hn,fun k hk hp=>h ⟨k,hk,hp⟩⟩
section
variable {S:Nat->Prop} {F:Fence} {m:Nat} {P:Wh} {Q:Exit->Act->Wb->Prop} {w0:Wb} {K:List (Nat×KF)} {B:List Bx} {n:Nat} {ds:List Deferred} {a:Act} {w:Wb}
theorem zFx {σ:Type} {c:Code} (I:σ->Prop) (Kf:σ->List (Nat×KF)) (Bf:σ->List Bx) (Df:σ->List Deferred) (mu:σ->Nat) (x0:σ) (hI:I x0) (h0:StS S w0 (Kf x0) (Bf x0) n (Df x0) a w)
  (round: ∀x a w,I x->StS S w0 (Kf x) (Bf x) n (Df x) a w->c.wpIn F m P (Exit.then (fun a' w'=> ∃y,I y/\mu y<mu x/\StS S w0 (Kf y) (Bf y) n (Df y) a' w') Q) a w):(Code.loop c).wpIn F m P Q a w:=by
 have low: ∀a w,(∃k, ∃x,I x/\mu x=k/\StS S w0 (Kf x) (Bf x) n (Df x) a w)-> ∃k,(∃x,I x/\mu x=k/\StS S w0 (Kf x) (Bf x) n (Df x) a w)/\ ∀j,j<k-> ¬ ∃x,I x/\mu x=j/\StS S w0 (Kf x) (Bf x) n (Df x) a w:=
  fun a w ⟨k,hk⟩=>zDm k hk
 open Classical in
 refine wpIn_loop (fun a w=> ∃k, ∃x,I x/\mu x=k/\StS S w0 (Kf x) (Bf x) n (Df x) a w) (fun a w=>if h: ∃k, ∃x,I x/\mu x=k/\StS S w0 (Kf x) (Bf x) n (Df x) a w then Classical.choose (low a w h) else 0) ⟨_,x0,hI,rfl,h0⟩ ?_
 rintro a w hA
 have e0:=sB (low a w hA)
 obtain ⟨x,hx,hm,hst⟩:=e0.1
 refine sC ?_ (round x a w hx hst)
 intro e a' w' h
 cases e with
 |normal=>
  obtain ⟨y,h1,h2,h3⟩: ∃y,I y/\mu y<mu x/\StS S w0 (Kf y) (Bf y) n (Df y) a' w':=h
  have hA': ∃k, ∃x,I x/\mu x=k/\StS S w0 (Kf x) (Bf x) n (Df x) a' w':=⟨_,y,h1,rfl,h3⟩
  refine ⟨hA', ?_⟩
  simp only [dif_pos hA,dif_pos hA']
  have e1:=sB (low a' w' hA')
  have:Classical.choose (low a' w' hA')<=mu y:=Nat.not_lt.1 fun hlt=>e1.2 _ hlt ⟨y,h1,rfl,h3⟩
  omega
 |_=>exact h
theorem zEt {σ:Type} {c:Code} (t:Nat) (Cf:σ->CU) (I:σ->Prop) (Kf:σ->List (Nat×KF)) (mu:σ->Nat) (x0:σ) (hI:I x0) (h0:StS S w0 (Kf x0) B n ds a w) (hB:zDW B t (Cf x0)=B)
  (round: ∀x a w,I x->StS S w0 (Kf x) (zDW B t (Cf x)) n ds a w->c.wpIn F m P (Exit.then (fun a' w'=> ∃y,I y/\mu y<mu x/\StS S w0 (Kf y) (zDW B t (Cf y)) n ds a' w') Q) a w):(Code.loop c).wpIn F m P Q a w:=
 zFx I Kf (fun x=>zDW B t (Cf x)) (fun _=>ds) mu x0 hI (by rw [hB];exact h0) round
theorem zBp {σ:Type} {c:Code} (I:σ->Prop) (Kf:σ->List (Nat×KF)) (mu:σ->Nat) (x0:σ) (hI:I x0) (h0:StS S w0 (Kf x0) B n ds a w)
  (round: ∀x a w,I x->StS S w0 (Kf x) B n ds a w->c.wpIn F m P (Exit.then (fun a' w'=> ∃y,I y/\mu y<mu x/\StS S w0 (Kf y) B n ds a' w') Q) a w):(Code.loop c).wpIn F m P Q a w:=
 zFx I Kf (fun _=>B) (fun _=>ds) mu x0 hI h0 round
theorem StS.popB {x:Bx} (h:StS S w0 K (x::B) n ds a w):StS S w0 K B n ds a w:=⟨h.gr,h.size,h.nd,h.sl,h.bx.2,h.mks,h.so⟩
theorem StS.renew (h:St w0 K B n ds a w) (K':List (Nat×KF)) (hK: ∀q,q∈K'->q∈K∨ ∃g,q.2=KF.u g/\(q.1,KF.o g.tS)∈K):St w0 K' B n ds a w:=
 ⟨h.gr,h.size,h.nd,fun q hq=>by
  rcases hK q hq with h1|⟨g,e,h1⟩
  ·exact h.sl q h1
  ·have:=h.sl _ h1
   rw [e]
   exact g.us _ _ _ this (zP h.gr.below),h.bx,h.mks, .inr fun _ h=>h⟩
end
end Go.Proofs.Wd

namespace Go.Proofs.Wd
open Tryz
open Go.RowKit
structure NewB where
 i:Nat
 d:Nat
 e:We
 cs:List Wc
 f:SF
def SF.isIn (f:SF) (L:List (Nat×SF)) (d:Nat):Prop:=(d,f)∈L
def zMD (al:List NewB) (a:Act):Prop:= ∀q q',q∈al->q'∈al->q.i≠q'.i-> ∀b b',blk (a.tmps.getD q.d undef)=some b->blk (a.tmps.getD q'.d undef)=some b'->b≠b'
section
variable {S:Nat->Prop} {w0:Wb} {K:List (Nat×KF)} {B:List Bx} {n:Nat} {ds:List Deferred} {a:Act} {w:Wb} {F:Fence} {m:Nat} {P:Wh} {ops:Array Oper} {Q:Exit->Act->Wb->Prop}
theorem jE {te:We} {cs:List Wc} {W:Wb} {C:CU} (hC: ∀W,C.p cs W) (hn:cs.all zU=true) (v:Wc) (w:Wb) (h:(SF.own W te cs).p v w):(wF W te C).p v w:=by
 obtain ⟨b,h1,h2,h3⟩:=h
 exact ⟨b,cs,h1,h2,h3,hC w,hn⟩
theorem StS.adoptA (h:StS S w0 K B n ds a w) {W:Wb} {te:We} {C:CU} (r:Bool) (t:Nat) (hv:(wF W te C).p (a.tmps.getD t undef) w) (hW:BlS S w0 W) (hB: ∀y,y∈B->y.b<W.heap.size∨(r=true/\y.r=true)∨ ∀b,blk (a.tmps.getD t undef)=some b->y.b≠b): ∃b,W.heap.size<=b/\blk (a.tmps.getD t undef)=some b/\StS S w0 K (⟨t,te,C,b,r⟩::B) n ds a w:=by
 obtain ⟨b,cs,h1,h2,h3,h4,h5⟩:=hv
 refine ⟨b,h2,by rw [h1];rfl,h.gr,h.size,h.nd,h.sl,⟨⟨cs,h1, .inr (.inl (pT hW.size h2)),h3,h4,h5,fun y hy=> ?_⟩,h.bx⟩,h.mks,h.so⟩
 rcases hB y hy with e|e|e
 ·left
  show y.b≠b
  omega
 ·exact .inr e
 ·exact .inl (e b (by rw [h1];rfl))
end
/-! ### Answers of a function that ranges over functions -/
theorem zLK {B:Nat} {W W':Wb} (h:Oth B W W'):jH W W':=fun p _ hp=>(h.cell p).trans hp
theorem UF.oth (f:UF) {B:Nat} {v:Wc} {W W':Wb} (h:Oth B W W') (hv:f.p v W):f.p v W':=f.us _ _ _ hv (zLK h)
theorem zEH {B b:Nat} {W W':Wb} (h:Oth B W W') {cs:Array Wc} {t:We} {z:Nat×Nat} (hc:W.heap[b]?=some (.cells cs t z)):W'.heap[b]?=some (.cells cs t z):=by
 rcases h.block b with e|⟨_,⟨o,ho,hn⟩,_⟩
 ·exact e.trans hc
 ·rw [hc] at ho
  cases ho
  cases hn
section
variable {S:Nat->Prop} {F:Fence} {m:Nat} {P:Wh} {Q:Exit->Act->Wb->Prop} {w0:Wb} {K:List (Nat×KF)} {B:List Bx} {n:Nat} {ds:List Deferred} {a:Act} {w:Wb}
theorem StS.resM (h:St w0 K B n ds a w) {fn:Func} {f:SF} {v:Wc} (hr: ∀w',Oth w0.heap.size w w'->(results fn a.tmps).run P w'= .ok v w') (hv: ∀w',Oth w0.heap.size w w'->f.p v w'):bodyPostM Fence.wide 0 P fn (Ret w0 f) .ret a w:=by
 obtain ⟨Ds,hm⟩:=h.mks
 show LeavesInM Fence.wide 0 P fn a.tmps (Ret w0 f) a.defers .returning w
 rw [h.nd]
 exact y9 w hr Ds _ w hm (Oth.refl _ _) fun w' ho=>⟨v,rfl,hv w' ho,zAa h.gr.below ho lr⟩
theorem StS.cellM (h:StS S w0 K B n ds a w) {t kk:Nat} {e:We} {C:CU} (hsz:jW P e=some kk) {y:Bx} (hB:zCY B t=some y) (hyC:y.c=C) (hyl: ∀cs W,C.p cs W->cs.length=kk) {N:Nat}: ∃(cs:List Wc) (b:Nat),a.tmps[t]?.getD undef= pO b 0/\C.p cs w/\ ∀w',Oth N w w'->(loadVar e ⟨b,0,none⟩).run P w'= .ok (.agg cs.toArray) w':=by
 obtain ⟨hy,rfl⟩:=qT hB
 subst hyC
 obtain ⟨cs,h1,h2,h3,h4,h5⟩:=h.bx.mem y hy
 exact ⟨cs,y.b,by rw [<-pU];exact h1,h4,fun w' ho=>zC6 hsz (hyl _ _ h4) (zEH ho h3)⟩
def inB (B:List Bx) (k:Nat):Prop:= ∃x,x∈B/\x.b=k/\x.r=false
structure Rnd (N:Nat) (C:Nat->Prop) (W W':World):Prop where
 os:W'.os=W.os
 tape:W'.tape=W.tape
 output:W'.output=W.output
 size:W.heap.size<=W'.heap.size
 low: ∀k:Nat,k<N-> ¬C k->W'.heap[k]?=W.heap[k]?
 cells: ∀(k:Nat) (o:Obj),W.heap[k]?=some o->o.isCells=true-> ¬C k->W'.heap[k]?=some o
 keep:jH W W'
structure Itr (N:Nat) (W W':World):Prop where
 os:W'.os=W.os
 tape:W'.tape=W.tape
 output:W'.output=W.output
 size:W.heap.size<=W'.heap.size
 low: ∀k:Nat,k<N->W'.heap[k]?=W.heap[k]?
 oth: ∀(k:Nat) (o:Obj),W.heap[k]?=some o->o.isCells=false->W'.heap[k]?=some o
 keep:jH W W'
def Ev (Ef:Nat->List UF) (k:Nat) (xs:Array Wc) (W:Wb):Prop:=xs.size=(Ef k).length/\ ∀(j:Nat) (f:UF),(Ef k)[j]?=some f->f.p (xs.getD j undef) W
def ItC (P:Wh) (gf:Nat) (lb:Array Wc) (Ef:Nat->List UF) (N:Nat) (endless:Prop) (C:Nat->Prop) (w:Wb):Prop:=
 ∀(l:Nat) (J:Nat->Wb->Prop) (Z:Wb->Prop) (W:Wb),w.heap.size<=W.heap.size->Below w.heap.size w W->jH w W->
  (∀k W1 W2,J k W1->Itr W.heap.size W1 W2->J k W2)->(∀W1 W2,Z W1->Itr W.heap.size W1 W2->Z W2)->(endless-> ∀W, ¬J N W)->
  (∀k W1 xs,k<N->J k W1->Ev Ef k xs W1->YieldAt Fence.wide 0 P l xs W1 fun e W'=>((e= .returned (.bool true)/\J (k+1) W')∨(e= .returned (.bool false)/\Z W'))/\Rnd w.heap.size C W1 W')->
  J 0 W->Calls P gf (#[.func (.yield l) #[] #[]]++lb) W fun e W'=>(∃v,e= .returned v)/\(J N W'∨Z W')
theorem vH {S':Nat->Prop} {w1 W W':Wb} {a1:Act}: ∀(B B':List Bx),B'.map (fun x=>(x.t,x.e,x.b,x.r))=B.map (fun x=>(x.t,x.e,x.b,x.r))->yH S w0 a W B->yH S' w1 a1 W' B'->yH S w0 a W' B'
 | [], [],_,_,_=>trivial
 | [],_::_,e,_,_=>by cases e
 |_::_, [],e,_,_=>by cases e
 |x::B,x'::B',e,h,h'=>by
  simp only [rC,List.cons.injEq,rW] at e
  obtain ⟨⟨e1,e2,e3,e4⟩,e5⟩:=e
  obtain ⟨⟨cs,h1,h2,_⟩,hr⟩:=h
  obtain ⟨⟨cs',_,_,g3,g4,g5,g6⟩,gr⟩:=h'
  exact ⟨⟨cs',by rw [e1,e3];exact h1,by rw [e3,e4];exact h2,g3,g4,g5,g6⟩,vH B B' e5 hr gr⟩
theorem wU {S':Nat->Prop} {w1 W:Wb} {a1:Act}: ∀(B:List Bx),(∀x,x∈B->x.r=true∨w1.heap.size<=x.b∨S' x.b)->(∀x,x∈B->a1.tmps.getD x.t undef=a.tmps.getD x.t undef)->yH S w0 a W B->yH S' w1 a1 W B
 | [],_,_,_=>trivial
 |x::B,hS,hsl,h=>by
  obtain ⟨⟨cs,h1,_,h3⟩,hr⟩:=h
  exact ⟨⟨cs,(hsl x (rX ..)).trans h1,hS x (rX ..),h3⟩,wU B (fun y hy=>hS y (rY _ hy)) (fun y hy=>hsl y (rY _ hy)) hr⟩
theorem wQ {W W':Wb} (hk:jH W W'): ∀(B:List Bx),(∀x,x∈B->W'.heap[x.b]?=W.heap[x.b]?)->yH S w0 a W B->yH S w0 a W' B
 | [],_,_=>trivial
 |x::B,hs,h=>by
  obtain ⟨⟨cs,h1,h2,h3,h4,h5⟩,hr⟩:=h
  exact ⟨⟨cs,h1,h2,(hs x (rX ..)).trans h3,x.c.us _ _ _ h4 hk,h5⟩,wQ hk B (fun y hy=>hs y (rY _ hy)) hr⟩
theorem zDP {W:Wb} {b:Nat} {cs:List Wc} {t:We} {z:Nat×Nat} (h3:W.heap[b]?=some (.cells cs.toArray t z)) (h5:cs.all zU=true) {q:Addr} (hq:q.block=b) {u:Wc} (hu:W.cell? q=some u):zU u=true:=by
 have h6:W.cell? q=if q.spot.isSome then none else cs.toArray[q.off]?:=by
  unfold World.cell?
  rw [hq,h3]
 rw [h6] at hu
 split at hu
 ·cases hu
 ·exact pL.1 h5 _ (List.mem_of_getElem? (by simpa using hu))
theorem zBn {W:Wb} {b:Nat} {o:Obj} (h:W.heap[b]?=some o) (hc:o.isCells=false) {q:Addr} (hq:q.block=b):W.cell? q=none:=zDu (a:=q) (by rw [hq];exact h) hc
theorem zEN {W W':Wb} {l:Nat} {o:Obj} (hb:BlS (fun k=>inB B k∨k=l) W W') (hbx:yH S w0 a W B) (ho:W.heap[l]?=some o) (hc:o.isCells=false):jH W W':=fun q u hq=>by
 have hlt:=sO W _ hq
 by_cases e:inB B q.block∨q.block=l
 ·exfalso
  rcases e with ⟨x,hx,e1,_⟩|e1
  ·obtain ⟨cs,_,_,h3,_,h5⟩:=hbx.mem x hx
   have:=zDP h3 h5 e1.symm hq
   cases this
  ·rw [zBn ho hc e1] at hq
   cases hq
 ·exact (rN (hb.block _ hlt e)).trans hq
theorem StS.itr (h:StS S w0 K B n ds a w) {N:Nat} {w':Wb} (hi:Itr N w w') (hN:w0.heap.size<=N) (hB: ∀x,x∈B->x.b<N):StS S w0 K B n ds a w':=
 ⟨⟨hi.os.trans h.gr.os,hi.tape.trans h.gr.tape,hi.output.trans h.gr.output,pT h.gr.size hi.size,fun k hk hs=>(hi.low k (rF hk hN)).trans (h.gr.block k hk hs)⟩,h.size,h.nd,fun q hq=>KF.us (h.sl q hq) hi.keep,
  wQ hi.keep B (fun x hx=>hi.low _ (hB x hx)) h.bx,h.mks.imp fun _ hm=>hm.keep fun k o ho hc=>hi.oth k o ho hc,h.so⟩
theorem zLU {W W':Wb} {C:Nat->Prop} {N:Nat} (hb:BlS C W W') (_hN: ∀k,C k->k<W.heap.size) (hNW:N<=W.heap.size) {l:Nat} {o:Obj} (hl:N<=l) (ho:W.heap[l]?=some o) (hc:o.isCells=false) {C':Nat->Prop} (hC: ∀k,C k->C' k∨k=l) (hk:jH W W'):Rnd N C' W W':=by
 refine ⟨hb.os,hb.tape,hb.output,hb.size,fun k hk' hn=>hb.block k (rF hk' hNW) fun hc'=> ?_,fun k o' hk' hcc hn=>(hb.block k (pP.1 hk').1 fun hc'=> ?_).trans hk',hk⟩
 ·rcases hC k hc' with e|e
  ·exact hn e
  ·omega
 ·rcases hC k hc' with e|e
  ·exact hn e
  ·subst e
   rw [ho] at hk'
   cases hk'
   rw [hc] at hcc
   cases hcc
theorem StS.put (h:StS S w0 K B n ds a w) {l:Nat} {o o':Obj} (ho:w.heap[l]?=some o) (hc:o.isCells=false) (hD: ∀Ds,Marks w0.heap.size w ds Ds->l ∉ Ds) (hS:S l∨w0.heap.size<=l):StS S w0 K B n ds a (w.putObj l o'):=by
 have hk:jH w (w.putObj l o'):=fun q u hq=>by
  by_cases e:q.block=l
  ·rw [zBn ho hc e] at hq
   cases hq
  ·exact (rN (pV e)).trans hq
 refine ⟨⟨h.gr.os,h.gr.tape,h.gr.output,by rw [sP];exact h.gr.size,fun k hk' hs=>(pV (fun e=> ?_)).trans (h.gr.block k hk' hs)⟩,h.size,h.nd,fun q hq=>KF.us (h.sl q hq) hk,wQ hk B (fun x hx=>pV fun e=> ?_) h.bx, ?_,h.so⟩
 ·subst e
  rcases hS with hS|hS
  ·exact hs hS
  ·omega
 ·obtain ⟨cs,_,_,h3,_⟩:=h.bx.mem x hx
  rw [e,ho] at h3
  cases h3
  cases hc
 ·obtain ⟨Ds,hm⟩:=h.mks
  refine ⟨Ds,hm.eq,hm.nodup,fun D hd=>⟨(hm.at_ D hd).1,(pV fun e=> ?_).trans (hm.at_ D hd).2⟩⟩
  subst e
  exact hD Ds hm hd
/-! ### The values that a round is handed -/
theorem zEn: ∀(L:List (Nat×Wc)) (t:Array Wc),(L.foldl (fun t (p,v)=>t.setIfInBounds p v) t).size=t.size
 | [],_=>rfl
 |_::L,t=>by rw [sQ,zEn L];simp
theorem zBx (q:Nat): ∀(L:List (Nat×Wc)) (t:Array Wc),q ∉ L.map (·.1)->(L.foldl (fun t (p,v)=>t.setIfInBounds p v) t).getD q undef=t.getD q undef
 | [],_,_=>rfl
 |(p,v)::L,t,h=>by
  rw [rC,pZ,not_or] at h
  rw [sQ,zBx q L _ h.2]
  exact zBu (fun e=>h.1 e.symm)
theorem zGq: ∀(L:List (Nat×Wc)) (t:Array Wc) (p:Nat) (v:Wc),(L.map (·.1)).Nodup->(p,v)∈L->p<t.size->(L.foldl (fun t (p,v)=>t.setIfInBounds p v) t).getD p undef=v
 | (p',v')::L,t,p,v,hn,hm,ht=>by
  rw [rC,sR] at hn
  rw [sQ]
  rcases pZ.1 hm with e|hm
  ·cases e
   rw [zBx _ L _ hn.1]
   simp [ht]
  ·exact zGq L _ p v hn.2 hm (by simpa using ht)
theorem BlS.sub {S S':Nat->Prop} {w w':Wb} (h:BlS S w w') (hs: ∀k,S k->S' k):BlS S' w w':=⟨h.os,h.tape,h.output,h.size,fun k hk hn=>h.block k hk fun hh=>hn (hs k hh)⟩
theorem zGZ: ∀{Ds Ds':List Nat},Ds.map mark=Ds'.map mark->Ds=Ds'
 | [], [],_=>rfl
 | [],_::_,e=>by cases e
 |_::_, [],e=>by cases e
 |D::Ds,D'::Ds',e=>by
  simp only [rC,List.cons.injEq] at e
  rw [zGZ e.2,show D=D' from by simpa [mark] using e.1]
theorem StS.rebase {w':Wb} (h:StS S w0 K B n [] a w) (hk:jH w w') (hS: ∀q,w0.heap.size<=q->S q) (hb: ∀x,x∈B->w'.heap[x.b]?=w.heap[x.b]?):StS S w' K B n [] a w':=by
 have hu: ∀q,q∈K-> ∃f,q.2= .u f:=by
  rcases h.so with hu|hs
  ·exact hu
  ·exact absurd (hS w0.heap.size lr) (hs _)
 refine ⟨BlS.refl _ _,h.size,h.nd,fun q hq=> ?_,wQ hk B hb (wU B (fun x hx=> ?_) (fun _ _=>rfl) h.bx),⟨[],Marks.nil _ _⟩, .inl hu⟩
 ·obtain ⟨f,e⟩:=hu q hq
  have:=h.sl q hq
  rw [e] at this ⊢
  exact f.us _ _ _ this hk
 ·obtain ⟨_,_,hc,_⟩:=h.bx.mem x hx
  rcases hc with hc|hc|hc
  ·exact .inl hc
  ·exact .inr (.inr (hS _ hc))
  ·exact .inr (.inr hc)
theorem jV: ∀{l:List Nat},zAG l=true->l.Nodup
 | [],_=>List.nodup_nil
 |x::l,h=>by
  unfold zAG at h
  rw [pR] at h
  refine sR.2 ⟨fun hm=> ?_,jV h.2⟩
  rw [pX.2 hm] at h
  exact absurd h.1 (by decide)
/-! ### The range -/
def zSE:KF->Bool
 | .u _=>true
 | .o _=>false
def zUC (R1:Act->Wb->Prop) (cz:Code) (R2:Act->Wb->Prop):Exit->Act->Wb->Prop
 | .normal,a,W=>R1 a W
 | .exit id,a,W=>cz= .exit id/\R2 a W
 | .ret,a,W=>cz= .ret/\R2 a W
 | .goto t,a,W=>cz= .goto t/\R2 a W
 | .panic _,_,_=>False
 | .outgrown,_,_=>False
abbrev zGn (x:Bx):Nat×We×Nat×Bool:=(x.t,x.e,x.b,x.r)
theorem zH9 {B B':List Bx} (e:B'.map zGn=B.map zGn) {k:Nat} (h:inB B' k):inB B k:=by
 obtain ⟨x,hx,h1,h2⟩:=h
 have:zGn x∈B.map zGn:=by rw [<-e];exact pQ.2 ⟨x,hx,rfl⟩
 obtain ⟨y,hy,hxy⟩:=pQ.1 this
 simp only [zGn,rW] at hxy
 exact ⟨y,hy,hxy.2.2.1.trans h1,hxy.2.2.2.trans h2⟩
theorem zIj {B B':List Bx} (e:B'.map zGn=B.map zGn) {x:Bx} (hx:x∈B'): ∃y,y∈B/\y.t=x.t/\y.b=x.b/\y.r=x.r:=by
 have:zGn x∈B.map zGn:=by rw [<-e];exact pQ.2 ⟨x,hx,rfl⟩
 obtain ⟨y,hy,hxy⟩:=pQ.1 this
 simp only [zGn,rW] at hxy
 exact ⟨y,hy,hxy.1,hxy.2.2.1,hxy.2.2.2⟩
theorem StS.turned (h:StS S w0 K B n ds a w) {B':List Bx} {S':Nat->Prop} {w1 w':Wb} {a1:Act} {l:Nat} {o:Obj} (hb:BlS (fun q=>inB B q∨q=l) w w') (ho:w.heap[l]?=some o) (hc:o.isCells=false) (hl:w0.heap.size<=l)
  (hD: ∀Ds,Marks w0.heap.size w ds Ds->l ∉ Ds) (hk:B'.map zGn=B.map zGn) (hx:yH S' w1 a1 w' B'):StS S w0 K B' n ds a w':=by
 have hU:=zEN hb h.bx ho hc
 have hin: ∀k,k<w0.heap.size-> ¬S k-> ¬(inB B k∨k=l):=fun k hk hs hh=>by
  rcases hh with ⟨x,hx,h1,h2⟩|hh
  ·obtain ⟨_,_,hc,_⟩:=h.bx.mem x hx
   rcases hc with hc|hc|hc
   ·rw [h2] at hc;cases hc
   ·omega
   ·exact hs (h1▸hc)
  ·omega
 refine ⟨⟨hb.os.trans h.gr.os,hb.tape.trans h.gr.tape,hb.output.trans h.gr.output,pT h.gr.size hb.size,fun k hk hs=>(hb.block k (rF hk h.gr.size) (hin k hk hs)).trans (h.gr.block k hk hs)⟩,
  h.size,h.nd,fun q hq=>KF.us (h.sl q hq) hU,vH B B' hk h.bx hx, ?_,h.so⟩
 obtain ⟨Ds,hm⟩:=h.mks
 refine ⟨Ds,hm.eq,hm.nodup,fun D hd=>⟨(hm.at_ D hd).1,(hb.block D (hm.lt D hd) fun hh=> ?_).trans (hm.at_ D hd).2⟩⟩
 rcases hh with ⟨x,hx,h1,_⟩|hh
 ·obtain ⟨cs,_,_,h3,_⟩:=h.bx.mem x hx
  rw [h1,(hm.at_ D hd).2] at h3
  cases h3
 ·subst hh
  exact hD Ds hm hd
theorem StS.more (h:StS S w0 K B n ds a w) {D:Nat} (hB:w0.heap.size<=D) (hD:w.heap[D]?=some (.deferred (some []))) (hn: ∀Ds,Marks w0.heap.size w ds Ds->D ∉ Ds):StS S w0 K B n (mark D::ds) { a with defers:=mark D::a.defers } w:=
 ⟨h.gr,h.size,by rw [h.nd],h.sl,wU (a:=a) B (fun x hx=>(h.bx.mem x hx).elim fun _ hh=>hh.2.1) (fun _ _=>rfl) h.bx,(h.mks.elim fun Ds hm=>⟨D::Ds,hm.more (hn Ds hm) hB hD⟩),h.so⟩
theorem zIx {g:Wg} {ps:Array Tmp} {assign body:Code} {gf:Nat} {lb:Array Wc} {Ef:Nat->List UF} {N:Nat} {endless:Prop}
  (Bf:Nat->List Bx) (Bz:List Bx) (cz:Code) (Kr:Nat->List (Nat×KF)) (h:StS S w0 K (Bf 0) n ds a w)
  (hg: ∀v W,(Wd.fct (j5 K (Bf 0)) g).p v W->v= .func (.func gf) #[] lb) (eg: ∀args w,(callFunc gf args).run P w= .ok (.enter gf args) w)
  (hit:ItC P gf lb Ef N endless (inB (Bf 0)) w) (hEl: ∀k,(Ef k).length=ps.size)
  (hKr: ∀k q,q∈Kr k->(q∈K/\zSE q.2=true/\ps.toList.contains q.1=false)∨ ∃(j:Nat) (f:UF),ps[j]?=some q.1/\(Ef k)[j]?=some f/\q.2= .u f)
  (hps:zAG ps.toList=true) (hpl:(ps.toList.all fun p=>Nat.blt p n)=true) (hpB:((Bf 0).all fun x=> !ps.toList.contains x.t)=true)
  (hBf: ∀k,(Bf k).map zGn=(Bf 0).map zGn) (hBz:Bz.map zGn=(Bf 0).map zGn) (hE0:endless->0<N)
  (rounds: ∀l k xs W,k<N->StS S w0 K (Bf k) n ds a W->StS (fun q=>inB (Bf 0) q∨W.heap.size<=q) W (Kr k) (Bf k) n [] { tmps:=(ps.zip xs).foldl (fun t (p,v)=>t.setIfInBounds p v) a.tmps,defers:= [] } W->
   assign.wpIn (Fence.wide.inRound l) 0 P (Exit.then (fun a1 W1=>BlS (fun q=>inB (Bf 0) q∨W.heap.size<=q) W W1/\ ∀W2,(∀p,W2.cell? p=W1.cell? p)->(∀K B,StS (fun q=>inB (Bf 0) q∨W.heap.size<=q) W K B n [] a1 W1->StS (fun q=>inB (Bf 0) q∨W.heap.size<=q) W2 K B n [] a1 W2)->
    body.wpIn (Fence.wide.inRound l) 0 P (zUC (fun a2 W3=>StS (fun q=>inB (Bf 0) q∨W.heap.size<=q) W2 [] (Bf (k+1)) n [] a2 W3/\(endless->k+1<N)) cz (fun a2 W3=>StS (fun q=>inB (Bf 0) q∨W.heap.size<=q) W2 [] Bz n [] a2 W3)) a1 W2) (fun _ _ _=>False))
    { tmps:=(ps.zip xs).foldl (fun t (p,v)=>t.setIfInBounds p v) a.tmps,defers:= [] } W)
  (done: ¬endless-> ∀D W,StS S w0 K (Bf N) n (mark D::ds) { a with defers:=mark D::a.defers } W->Q .normal { a with defers:=mark D::a.defers } W)
  (stop: ∀D W,StS S w0 K Bz n (mark D::ds) { a with defers:=mark D::a.defers } W->cz.wpIn Fence.wide 0 P Q { a with defers:=mark D::a.defers } W):
  (Code.rangeFunc g ps assign body).wpIn Fence.wide 0 P Q a w:=by
 refine wpIn_rangeFunc ?_
 intro fn hfn
 show ∃l mark w₁ d w₁' f args w₂,(Instr.enterLoop fn a.tmps ps assign body none).run P w=_/\_
 obtain ⟨rec,hrec⟩: ∃rec:LoopState->Wf Code->Loop,rec=fun st pe=>{ state:=st,pending:=pe,fn,tmps:=a.tmps,params:=ps,assign,body,defers:=w.heap.size }:=⟨_,rfl⟩
 obtain ⟨W1,hW1⟩: ∃W1,(w.alloc (.deferred (some []))).alloc (.loop (rec .ready none))=W1:=⟨_,rfl⟩
 have hL1:W1.heap[w.heap.size+1]?=some (.loop (rec .ready none)):=by
  rw [<-hW1];have:=World.alloc_heap_new (w.alloc (.deferred (some []))) (.loop (rec .ready none));rwa [World.size_alloc] at this
 have hK1:W1.heap[w.heap.size]?=some (.deferred (some [])):=by
  rw [<-hW1];exact (Below.heap_alloc _ _ _ fK).trans (World.alloc_heap_new w _)
 have hb1:Below w.heap.size w W1:=by
  rw [<-hW1];exact ((pS _ w).alloc lr _).alloc fK _
 have hz1:W1.heap.size=w.heap.size+2:=by rw [<-hW1];simp
 have hgv:a.eval g= .func (.func gf) #[] lb:=hg _ _ (h.fct g)
 have hold:=h.old
 have hw0:=h.gr.size
 have hi1:Itr w.heap.size w W1:=⟨hb1.os,hb1.tape,hb1.output,hb1.size,fun k hk=>hb1.block k hk,fun k o ho _=>(hb1.block k (pP.1 ho).1).trans ho,zP hb1⟩
 have hs1:=h.itr hi1 hw0 hold
 have hbk: ∀{k:Nat} {x:Bx},x∈Bf k->x.b<w.heap.size:=fun {k x} hx=>by
  obtain ⟨y,hy,_,e,_⟩:=zIj (hBf k) hx
  rw [<-e]
  exact hold y hy
 have hbz: ∀{x:Bx},x∈Bz->x.b<w.heap.size:=fun {x} hx=>by
  obtain ⟨y,hy,_,e,_⟩:=zIj hBz hx
  rw [<-e]
  exact hold y hy
 have hin: ∀{q:Nat},inB (Bf 0) q->q<w.heap.size:=fun {q} ⟨x,hx,e,_⟩=>by rw [<-e];exact hold x hx
 have hinz: ∀(k:Nat) {q:Nat},inB (Bf k) q->inB (Bf 0) q:=fun k _ hq=>zH9 (hBf k) hq
 have hDl: ∀{W:Wb} {o:Obj},W.heap[w.heap.size+1]?=some o->(∃r,o= .loop r)-> ∀Ds,Marks w0.heap.size W ds Ds->w.heap.size+1 ∉ Ds:=fun {W o} ho hr Ds hm hh=>by
  obtain ⟨r,rfl⟩:=hr
  rw [(hm.at_ _ hh).2] at ho
  cases ho
 have hDs: ∀{W:Wb} Ds,Marks w0.heap.size W ds Ds-> ∀D,D∈Ds->D<w.heap.size:=fun {W} Ds hm D hd=>by
  obtain ⟨Ds',hm'⟩:=h.mks
  have:Ds=Ds':=by
   have e:=hm.eq.symm.trans hm'.eq
   exact zGZ e
  subst this
  exact hm'.lt D hd
 refine ⟨w.heap.size+1, [{ target:= .collected w.heap.size,args:=#[] }],W1,{ target:= .fn (.func gf) lb,args:=#[.func (.yield (w.heap.size+1)) #[] #[]] },W1,gf,
  #[.func (.yield (w.heap.size+1)) #[] #[]]++lb,W1, ?_, ?_, ?_, ?_,fun h=>absurd h (by simp [Fence.wide]), ?_⟩
 ·rw [<-hW1,hrec];exact run_enterLoop_outer _ _ _ _ _
 ·simp only [resolve,hgv]
  simp [go_sem]
 ·intro f' _;trivial
 ·simp [invoke,go_sem,eg]
 ·refine callsIn_wide.2 ((hit (w.heap.size+1)
   (fun k W=>StS S w0 K (Bf k) n ds a W/\(endless->k<N)/\W.heap[w.heap.size+1]?=some (.loop (rec .ready none))/\W.heap[w.heap.size]?=some (.deferred (some [])))
   (fun W=>StS S w0 K Bz n ds a W/\W.heap[w.heap.size+1]?=some (.loop (rec .done (some cz)))/\W.heap[w.heap.size]?=some (.deferred (some [])))
   W1 oN hb1 (zP hb1)
   (fun k A B ⟨h1,h2,h3,h4⟩ hi=>⟨h1.itr hi oN (fun x hx=>by have:=hbk hx;omega),h2,hi.oth _ _ h3 rfl,hi.oth _ _ h4 rfl⟩)
   (fun A B ⟨h1,h3,h4⟩ hi=>⟨h1.itr hi oN (fun x hx=>by have:=hbz hx;omega),hi.oth _ _ h3 rfl,hi.oth _ _ h4 rfl⟩)
   (fun he W hJ=>absurd (hJ.2.1 he) (sS _)) ?_ ⟨hs1,hE0,hL1,hK1⟩).mono ?_)
  ·rintro k W xs hk ⟨hs,hend,hl,hd⟩ ⟨hxs,hev⟩
   have hlt:w.heap.size+1<W.heap.size:=(pP.1 hl).1
   have hy:=run_yield (P:=P) (args:=xs) hl (by rw [hrec];exact hxs.trans (hEl k))
   rw [hrec] at hy
   have hxs':xs.size=ps.size:=hxs.trans (hEl k)
   have hzip:(ps.zip xs).foldl (fun t (p,v)=>t.setIfInBounds p v) a.tmps=(ps.toList.zip xs.toList).foldl (fun t (p,v)=>t.setIfInBounds p v) a.tmps:=by
    rw [<-Array.foldl_toList,Array.toList_zip]
   have hzf:(ps.toList.zip xs.toList).map (·.1)=ps.toList:=by
    rw [List.map_fst_zip]
    simp [hxs']
   have hnd:ps.toList.Nodup:=jV hps
   have hs0:StS (fun q=>inB (Bf 0) q∨W.heap.size<=q) W (Kr k) (Bf k) n [] { tmps:=(ps.zip xs).foldl (fun t (p,v)=>t.setIfInBounds p v) a.tmps,defers:= [] } W:=by
    refine ⟨BlS.refl _ _, ?_,rfl,fun q hq=> ?_, ?_,⟨[],Marks.nil _ _⟩, .inl fun q hq=> ?_⟩
    ·show ((ps.zip xs).foldl (fun t (p,v)=>t.setIfInBounds p v) a.tmps).size=n
     rw [hzip,zEn]
     exact h.size
    ·show q.2.p W (((ps.zip xs).foldl (fun t (p,v)=>t.setIfInBounds p v) a.tmps).getD q.1 undef) W
     rw [hzip]
     rcases hKr k q hq with ⟨h1,h2,h3⟩|⟨j,f,h1,h2,h3⟩
     ·rw [zBx q.1 _ _ (by rw [hzf];intro hc;rw [pX.2 hc] at h3;cases h3)]
      have:=hs.sl q h1
      cases hq2:q.2 with
      |u f=>rw [hq2] at this;exact this
      |o f=>rw [hq2] at h2;cases h2
     ·have hj:j<ps.size:=(pP.1 h1).1
      have hjx:j<xs.size:=by omega
      have e1:=hev j f h2
      have e2:xs.getD j undef=xs[j]:=by rw [pU,rG hjx];rfl
      have e3:ps[j]=q.1:=(pP.1 h1).2
      rw [zGq _ _ q.1 xs[j] (by rw [hzf];exact hnd) (by
       refine List.mem_iff_getElem?.2 ⟨j, ?_⟩
       rw [List.getElem?_zip_eq_some]
       exact ⟨by rw [Array.getElem?_toList];exact h1,by rw [Array.getElem?_toList,rG hjx]⟩) (by
       have:=pL.1 hpl q.1 (by rw [<-e3];exact Array.mem_toList_iff.2 (sT hj))
       rw [h.size]
       simpa using this)]
      rw [h3]
      rw [e2] at e1
      exact e1
    ·refine wU (Bf k) (fun x hx=> ?_) (fun x hx=> ?_) hs.bx
     ·cases hr:x.r with
      |true=>exact .inl rfl
      |false=>exact .inr (.inr (.inl (hinz k ⟨x,hx,rfl,hr⟩)))
     ·show ((ps.zip xs).foldl (fun t (p,v)=>t.setIfInBounds p v) a.tmps).getD x.t undef=_
      rw [hzip]
      obtain ⟨y,hy,e,_⟩:=zIj (hBf k) hx
      refine zBx _ _ _ ?_
      rw [hzf, <-e]
      intro hc
      have:=pL.1 hpB y hy
      rw [pX.2 hc] at this
      cases this
    ·rcases hKr k q hq with ⟨h1,h2,h3⟩|⟨j,f,h1,h2,h3⟩
     ·cases hq2:q.2 with
      |u f=>exact ⟨f,rfl⟩
      |o f=>rw [hq2] at h2;cases h2
     ·exact ⟨f,h3⟩
   have hnl: ¬(inB (Bf 0) (w.heap.size+1)∨W.heap.size<=w.heap.size+1):=fun hh=>by
    rcases hh with hh|hh
    ·have:=hin hh;omega
    ·omega
   have hnd2: ¬(inB (Bf 0) w.heap.size∨W.heap.size<=w.heap.size):=fun hh=>by
    rcases hh with hh|hh
    ·have:=hin hh;omega
    ·omega
   refine ⟨fn,_,assign,body,hy,roundIn_of_wpIn hfn (sC ?_ (rounds (w.heap.size+1) k xs W hk hs hs0))⟩
   intro e a1 Wa hp
   cases e with
   | normal=>
    obtain ⟨hgr,hcont⟩:=hp
    have hla:Wa.heap[w.heap.size+1]?=some (.loop (rec .ready none)):=(hgr.block _ hlt hnl).trans hl
    have hda:Wa.heap[w.heap.size]?=some (.deferred (some [])):=(hgr.block _ oN hnd2).trans hd
    have hlta:w.heap.size+1<Wa.heap.size:=(pP.1 hla).1
    refine ⟨_,run_beginRound hla (by rw [hrec]), ?_⟩
    obtain ⟨W2,hW2⟩: ∃W2,Wa.putObj (w.heap.size+1) (.loop { rec .ready none with state:= .busy })=W2:=⟨_,rfl⟩
    rw [hW2]
    have hl2:W2.heap[w.heap.size+1]?=some (.loop { rec .ready none with state:= .busy }):=by rw [<-hW2];exact World.putObj_heap_same hlta
    have hd2:W2.heap[w.heap.size]?=some (.deferred (some [])):=by rw [<-hW2];exact (pV oN).trans hda
    have hz2:W2.heap.size=Wa.heap.size:=by rw [<-hW2,sP]
    have hk2:jH Wa W2:=fun q u hq=>by
     by_cases e:q.block=w.heap.size+1
     ·rw [zBn hla rfl e] at hq
      cases hq
     ·rw [<-hW2]
      exact (rN (pV e)).trans hq
    have hcell: ∀p,W2.cell? p=Wa.cell? p:=fun p=>by
     by_cases e:p.block=w.heap.size+1
     ·rw [zBn hla rfl e,zBn hl2 rfl e]
     ·rw [<-hW2]
      exact rN (pV e)
    have hbody:=hcont W2 hcell (fun K' B' hs'=>hs'.rebase hk2 (fun _ hq=> .inr hq) (fun x hx=>by
     obtain ⟨cs,_,_,h3,_⟩:=hs'.bx.mem x hx
     rw [<-hW2]
     refine pV fun e=> ?_
     rw [e,hla] at h3
     cases h3))
    refine sC ?_ hbody
    intro e a3 W3 hp3
    have fin: ∀(jump:Wf Code) (B':List Bx),StS (fun q=>inB (Bf 0) q∨W.heap.size<=q) W2 [] B' n [] a3 W3->B'.map zGn=(Bf 0).map zGn-> ∃W4,(Instr.endRound (w.heap.size+1) jump).run P W3= .ok (.bool jump.isNone) W4/\W4.heap[w.heap.size+1]?=some (.loop (rec (if jump.isNone then .ready else .done) jump))/\W4.heap[w.heap.size]?=some (.deferred (some []))/\Rnd w.heap.size (inB (Bf 0)) W W4/\StS S w0 K B' n ds a W4:=by
     intro jump B' h3 hB'
     have hl3:W3.heap[w.heap.size+1]?=some (.loop { rec .ready none with state:= .busy }):=(h3.gr.block _ oN hnl).trans hl2
     have hd3:W3.heap[w.heap.size]?=some (.deferred (some [])):=(h3.gr.block _ oN hnd2).trans hd2
     have hlt3:w.heap.size+1<W3.heap.size:=(pP.1 hl3).1
     have hrun:=run_endRound (P:=P) jump hl3
     have hbx3: ∀x,x∈B'->x.b≠w.heap.size+1:=fun x hx e=>by
      obtain ⟨cs,_,_,h4,_⟩:=h3.bx.mem x hx
      rw [e,hl3] at h4
      cases h4
     obtain ⟨W4,hW4⟩: ∃W4,W3.putObj (w.heap.size+1) (.loop (rec (if jump.isNone then .ready else .done) jump))=W4:=⟨_,rfl⟩
     have hrun4:(Instr.endRound (w.heap.size+1) jump).run P W3= .ok (.bool jump.isNone) W4:=by rw [hrun, <-hW4,hrec]
     have hz3:=h3.gr.size
     have hz4:W4.heap.size=W3.heap.size:=by rw [<-hW4,sP]
     have hza:=hgr.size
     have hk4:jH W3 W4:=fun q u hq=>by
      by_cases e:q.block=w.heap.size+1
      ·rw [zBn hl3 rfl e] at hq
       cases hq
      ·rw [<-hW4]
       exact (rN (pV e)).trans hq
     have hb4:BlS (fun q=>inB (Bf 0) q∨q=w.heap.size+1) W W4:=by
      refine ⟨?_, ?_, ?_,by omega,fun q hq hns=> ?_⟩
      ·rw [<-hW4];exact h3.gr.os.trans (by rw [<-hW2];exact hgr.os)
      ·rw [<-hW4];exact h3.gr.tape.trans (by rw [<-hW2];exact hgr.tape)
      ·rw [<-hW4];exact h3.gr.output.trans (by rw [<-hW2];exact hgr.output)
      ·have hne:q≠w.heap.size+1:=fun e=>hns (.inr e)
       have hni: ¬(inB (Bf 0) q∨W.heap.size<=q):=fun hh=>by
        rcases hh with hh|hh
        ·exact hns (.inl hh)
        ·omega
       rw [<-hW4,pV hne,h3.gr.block q oN hni, <-hW2,pV hne]
       exact hgr.block q hq hni
     refine ⟨W4,hrun4,by rw [<-hW4];exact World.putObj_heap_same hlt3,by rw [<-hW4];exact (pV oN).trans hd3, ?_, ?_⟩
     ·exact zLU hb4 (fun q hq=>by
       rcases hq with hq|hq
       ·have:=hin hq;omega
       ·omega) oN (l:=w.heap.size+1) oN hl rfl (fun q hq=>hq) (zEN (B:=Bf k) (hb4.sub fun q hq=>hq.imp (zH9 (hBf k).symm) id) hs.bx hl rfl)
     ·exact hs.turned (hb4.sub fun q hq=>hq.imp (zH9 (hBf k).symm) id) hl rfl oN (hDl hl ⟨_,rfl⟩) (hB'.trans (hBf k).symm) (wQ hk4 B' (fun x hx=>by rw [<-hW4];exact pV (hbx3 x hx)) h3.bx)
    cases e with
    |normal=>
     obtain ⟨h3,hend3⟩:=hp3
     obtain ⟨W4,hr,hl4,hd4,hrn,hs4⟩:=fin none _ h3 (hBf _)
     exact ⟨_,W4,hr, .inl ⟨rfl,hs4,hend3,hl4,hd4⟩,hrn⟩
    |ret=>
     obtain ⟨hc,h3⟩:=hp3
     obtain ⟨W4,hr,hl4,hd4,hrn,hs4⟩:=fin (some .ret) _ h3 hBz
     exact ⟨_,W4,hr, .inr ⟨rfl,hs4,by rw [hc];exact hl4,hd4⟩,hrn⟩
    |exit id=>
     obtain ⟨hc,h3⟩:=hp3
     obtain ⟨W4,hr,hl4,hd4,hrn,hs4⟩:=fin (some (.exit id)) _ h3 hBz
     exact ⟨_,W4,hr, .inr ⟨rfl,hs4,by rw [hc];exact hl4,hd4⟩,hrn⟩
    |goto t=>
     obtain ⟨hc,h3⟩:=hp3
     obtain ⟨W4,hr,hl4,hd4,hrn,hs4⟩:=fin (some (.goto t)) _ h3 hBz
     exact ⟨_,W4,hr, .inr ⟨rfl,hs4,by rw [hc];exact hl4,hd4⟩,hrn⟩
    |panic ch=>exact hp3.elim
    |outgrown=>exact hp3.elim
   |_=>exact hp.elim
  ·have hend: ∀{W2:Wb} {B':List Bx} {pe:Wf Code} {st:LoopState},StS S w0 K B' n ds a W2->W2.heap[w.heap.size+1]?=some (.loop (rec st pe))->W2.heap[w.heap.size]?=some (.deferred (some []))-> ∀o':Obj,StS S w0 K B' n (mark w.heap.size::ds) { a with defers:=mark w.heap.size::a.defers } (W2.putObj (w.heap.size+1) o'):=fun {W2 B' pe st} hs hl hd o'=>by
    have h1:=hs.put (o':=o') hl rfl (hDl hl ⟨_,rfl⟩) (.inr oN)
    exact h1.more hw0 ((pV oN).trans hd) (fun Ds hm hh=>absurd (hDs Ds hm _ hh) (sS _))
   rintro e W2 ⟨⟨v,rfl⟩,(⟨hs,hend2,hl,hd⟩|⟨hs,hl,hd⟩)⟩
   ·exact ⟨none,_,by have:=run_endLoop (P:=P) hl (by rw [hrec];simp);rw [hrec] at this;exact this,done (fun he=>absurd (hend2 he) (sS _)) _ _ (hend hs hl hd _)⟩
   ·exact ⟨some cz,_,by have:=run_endLoop (P:=P) hl (by rw [hrec];simp);rw [hrec] at this;exact this,stop _ _ (hend hs hl hd _)⟩
end
section
variable {F:Fence} {n:Nat} {P:Wh} {ops:Array Oper} {Q:Exit->Act->Wb->Prop}
def zFt (ops:Array Oper) (listed0:Array Bool) (fl:Nat->Bool) (k:Nat):Bool:=(List.range ops.size).all fun j=>decide (j<k)||(List.range k).all fun i=>fl i||listed0.getD i true||zCm ops ops.size i j
def zBd (ops:Array Oper) (i:Nat):Array Bool:=((List.range ops.size).map fun j=>zCm ops ops.size j i).toArray
theorem zI8 {i:Nat} {listed:Array Bool} (hs: ∀j,j<ops.size->zCm ops ops.size j i=true->listed.getD j true=true) (h:Region.free .any ops (zBd ops i) i=true):Region.free .any ops listed i=true:=by
 unfold Region.free at h ⊢
 split at h
 ·exact h
 ·refine pL.2 fun j hj=> ?_
  have h1:=pL.1 h j hj
  have h2:(zBd ops i).getD j true=zCm ops ops.size j i:=by
   unfold zBd
   rw [pU]
   simp [pM.1 hj]
  rw [h2] at h1
  cases hc:zCm ops ops.size j i with
  |true=>rw [hs j (pM.1 hj) hc,Bool.or_true,Bool.true_or]
  |false=>
   rw [hc,Bool.or_false] at h1
   rw [Bool.or_assoc,Bool.or_comm (listed.getD j true), <-Bool.or_assoc,h1,Bool.true_or]
theorem zLZ {i:Nat} {o:Oper} {a:Act} {w:Wb} {K:Act->Wb->Prop} (ho:ops[i]?=some o) (hfl:zDp ops i=true) (h:wpOpIn F n P ops (qE Q) i K a w): ∃d v,o.dst=some d/\zAc P ops (fun _=>True) o v a/\K (a.put (some d) v) w:=by
 unfold zDp at hfl
 rw [ho] at hfl
 unfold wpOpIn at h
 rw [ho] at h
 split at hfl
 ·rename_i d x ty pos aft he
  cases he
  refine ⟨d,a.eval x,rfl,⟨.inl ⟨rfl,fun w _=>rfl⟩,fun w=>rfl⟩, ?_⟩
  have h2:=h.2
  rw [rA _ _ _ (fun _ e=>by cases e)] at h2
  exact h2
 ·rename_i d x j ty pos aft he
  cases he
  have h2:=h.2
  rw [rA _ _ _ (fun _ e=>by cases e)] at h2
  cases hrun:(Instr.extract (a.eval x) j).run P w with
  |halt y w'=>
   have he:(execOp a.eval ⟨some d, .extract x j,ty,pos,aft,none⟩).run P w= .halt y w':=by simp [execOp,hrun]
   rw [he] at h2
   cases y<;>exact h2.elim
  | ok v w'=>
   have hw:w'=w:=by
    unfold Instr.extract at hrun
    split at hrun
    ·split at hrun
     ·simp at hrun;exact hrun.2.symm
     ·simp at hrun
    ·simp at hrun
   subst hw
   have he:(execOp a.eval ⟨some d, .extract x j,ty,pos,aft,none⟩).run P w'= .ok (.value v) w':=by simp [execOp,hrun]
   rw [he] at h2
   exact ⟨d,v,rfl,⟨.inl ⟨rfl,fun w _=>by simp [execOp,zB3 _ _ _ w hrun]⟩,fun w=>rfl⟩,h2⟩
 ·cases hfl
variable {listed0:Array Bool} {A:Nat->Bool} {E:Nat->Wc->Wb->Prop} {C:Wb->Prop} {a0:Act}
theorem zRT {k z:Nat} (fl:Nat->Bool) (hpl:jQ ops=true) (hns:Region.noSelect ops=true) (hzs:ops.size<=z) (hfree: ∀i,i<k->fl i=true->zDp ops i=true/\Region.free .any ops (zBd ops i) i=true) (hear:zA4 ops=true) (htl:zFt ops listed0 fl k=true) (hap:q6 ops=true) (hfr:zAi ops a0.tmps.size=true) (hkl:decide (k<=ops.size)=true) (hC: ∀w w',C w->Below w.heap.size w w'->C w') (hE: ∀i v w w',E i v w->Below w.heap.size w w'->E i v w')
  (hspec: ∀i,i<k->listed0.getD i true=false-> ∀o,ops[i]?=some o-> ∀a w,FlowB ops listed0 A E C a0 (fun j=>listed0.getD j true=false/\ ∃e∈o.after,Region.binds .any e=true/\e.on=j) a w-> ∀K:Act->Wb->Prop,(∀v w',E i v w'->Below w.heap.size w w'->(A i=true-> ∀b,blk v=some b->w.heap.size<=b/\b<w'.heap.size)->K (a.put o.dst v) w')->wpOpIn F n P ops (qE Q) i K a w)
  (hfin: ∀a w,FlowB ops listed0 A E C a0 (fun i=>i<k/\listed0.getD i true=false) a w->jB F n P .any ops z (fun _=>True) (qE Q) (ops.size - k) (yA ops.size k) a w):
  ∀(fuel:Nat) (listed:Array Bool) (a:Act) (w:Wb),listed.count false=fuel->listed.size=ops.size->(∀i,k<=i->listed.getD i false=false)->zFn ops listed->(∀i,listed0.getD i true=true->i<ops.size->listed.getD i false=true)->
   FlowB ops listed0 A E C a0 (fun i=>listed0.getD i true=false/\listed.getD i false=true) a w->jB F n P .any ops z (fun _=>True) (qE Q) fuel listed a w:=by
 have hkl':=sU hkl
 intro fuel
 induction fuel with
 | zero=>
  intro listed a w hc hs hlate hcl hsub hf
  have hno: ∀i,listed.getD i true=true:=fun i=>by
   cases hg:listed.getD i true with
   |true=>rfl
   |false=>
    have:=jN hg
    omega
  have hk2:k=ops.size:=by
   rcases pY k ops.size with hlt|hge
   ·exfalso
    have h1:=hno k
    have h2:=hlate k lr
    have hlt2:k<listed.size:=by omega
    simp [hlt2] at h1 h2
    rw [h1] at h2
    cases h2
   ·omega
  have hl:listed=yA ops.size k:=by
   refine Array.ext (by simp [yA,hs]) fun i h1 h2=> ?_
   have:=hno i
   simp [h1] at this
   simp [yA,this]
   omega
  have:=hfin a w (hf.mono fun i hi=>⟨hi.2,by
   have h1:=hno i
   have hlt:i<listed.size:=by omega
   simp [hlt] at h1 ⊢
   exact h1⟩)
  rw [hl]
  rwa [show ops.size - k=0 from by omega] at this
 | succ fuel ih=>
  intro listed a w hc hs hlate hcl hsub hf
  by_cases hall: ∀i,i<k->listed.getD i false=true
  ·have hl:listed=yA ops.size k:=by
    refine Array.ext (by simp [yA,hs]) fun i h1 h2=> ?_
    by_cases hik:i<k
    ·have:=hall i hik
     simp [h1] at this
     simp [yA,this,hik]
    ·have:=hlate i oN
     simp [h1] at this
     simp [yA,this,hik]
   have hcnt:listed.count false=ops.size - k:=by
    rw [hl]
    unfold yA
    rw [List.count_toArray,List.count_eq_countP,List.countP_map]
    have: ∀m,k<=m->List.countP ((fun x=>x==false) ∘ fun i=>decide (i<k)) (List.range m)=m - k:=by
     intro m
     induction m with
     |zero=>intro h;simp
     | succ m ihm=>
      intro h
      rw [List.range_succ,List.countP_append]
      by_cases e:k=m+1
      ·subst e
       have:List.countP ((fun x=>x==false) ∘ fun i=>decide (i<m+1)) (List.range m)=0:=by
        rw [List.countP_eq_zero]
        intro x hx
        have:=pM.1 hx
        simp;omega
       rw [this];simp
      ·rw [ihm oN]
       have e2:decide (m<k)=false:=decide_eq_false oN
       simp [e2]
       omega
    exact this ops.size hkl'
   have hf':=hfin a w (hf.mono fun i hi=>⟨hi.2,hall i hi.1⟩)
   rw [<-hl, <-hcnt,hc] at hf'
   exact hf'
  ·simp only [sD] at hall
   obtain ⟨u0,huk0,hu0⟩:=hall
   obtain ⟨u,⟨huk,hu⟩,hmin⟩:=zDm (p:=fun u=>u<k/\ ¬listed.getD u false=true) u0 ⟨huk0,hu0⟩
   have hlt:u<listed.size:=by omega
   have hu':listed.getD u true=false:=by
    simp [hlt] at hu ⊢
    exact hu
   have hsome: ∀i,listed.getD i true=false->Region.ready .any ops listed≠ []:=by
    intro i
    induction i using Nat.strongRecOn with
    | _ i ihi=>
     intro hi hnil
     have hlt:i<listed.size:=by
      rcases pY i listed.size with e|e
      ·exact e
      ·simp [rB e] at hi
     have ho:ops[i]?=some (ops[i]'(by rw [<-hs];exact hlt)):=rG _
     by_cases hall: ∀e∈(ops[i]'(by rw [<-hs];exact hlt)).after,Region.binds .any e=true->listed.getD e.on false=true
     ·have hm:i∈Region.ready .any ops listed:=rH.2 ⟨hi,_,ho,hall⟩
      rw [hnil] at hm
      cases hm
     ·simp only [sD] at hall
      obtain ⟨e,he,hb,hg⟩:=hall
      have hel:=zAS hear ho he hb
      refine ihi e.on hel ?_ hnil
      have hlt2:e.on<listed.size:=by omega
      simp [hlt2] at hg ⊢
      exact hg
   by_cases hfu:fl u=true
   ·have hul:u<ops.size:=by omega
    have hou:ops[u]?=some ops[u]:=rG hul
    have hdone: ∀e∈ops[u].after,Region.binds .any e=true->listed.getD e.on false=true:=fun e he hb=>by
     have hel:=zAS hear hou he hb
     exact tB fun hc=>hmin e.on hel ⟨by omega,hc⟩
    have hrd:(Region.ready .any ops listed).contains u=true:=pX.2 (rH.2 ⟨hu',_,hou,hdone⟩)
    have hl0u:listed0.getD u true=false:=by
     cases hg:listed0.getD u true with
     |false=>rfl
     |true=>exact absurd (hsub u hg hul) hu
    obtain ⟨hflo,hfre⟩:=hfree u huk hfu
    have hw:=hspec u huk hl0u _ hou a w (hf.mono fun j hj=>(by
     obtain ⟨hj0,e,he,hb,rfl⟩:=hj
     exact ⟨hj0,hdone e he hb⟩)) (fun a' w'=> ∃v,a'=a.put ops[u].dst v/\E u v w'/\Below w.heap.size w w'/\(A u=true-> ∀b,blk v=some b->w.heap.size<=b/\b<w'.heap.size)) (fun v w' hv hb hA=>⟨v,rfl,hv,hb,hA⟩)
    obtain ⟨d,v0,hd,hy,v,hpe,hv,hb,hA⟩:=zLZ hou hflo hw
    refine zO (i:=u) (v:=v0) hpl (by unfold zA6;rw [rB hzs]) hou hns (zI8 (fun j hj hc=>(by
     have h9:=zAo hcl _ j u _ hou hdone hc
     have g:j<listed.size:=by omega
     simp [g] at h9 ⊢
     exact h9)) hfre) hrd (fun _ _ _ h=>h) trivial hy ?_
    rw [hd,hpe]
    refine ih (listed.setIfInBounds u true) (a.put ops[u].dst v) w ?_ (by simpa using hs) (fun j hj=> ?_) (fun j oj hj hoj e he hbe=> ?_) (fun j hj hjl=> ?_) ((hf.put hap hfr hC hE hou hl0u hv hb hA).mono fun j hj=> ?_)
    ·have:=jN hu'
     omega
    ·rw [pN false oN]
     exact hlate j hj
    ·by_cases e2:j=u
     ·subst e2
      rw [hou] at hoj
      cases hoj
      by_cases e3:e.on=j
      ·rw [e3];exact hj
      ·rw [pN false (Ne.symm e3)]
       exact hdone e he hbe
     ·rw [pN false (Ne.symm e2)] at hj
      have:=hcl j oj hj hoj e he hbe
      by_cases e3:e.on=u
      ·rw [e3]
       have hlt:u<listed.size:=by omega
       simp [hlt]
      ·rw [pN false (Ne.symm e3)]
       exact this
    ·by_cases e3:j=u
     ·subst e3
      rw [hl0u] at hj
      cases hj
     ·rw [pN false (Ne.symm e3)]
      exact hsub j hj hjl
    ·by_cases e:j=u
     ·exact .inr e
     ·left
      rw [pN false (Ne.symm e)] at hj
      exact hj
   ·refine ⟨fun hnil=>(hsome u hu' hnil).elim,fun i hi=> ?_⟩
    obtain ⟨hun,o,ho,hall⟩:=rH.1 hi
    have hil:=(pP.1 ho).1
    have hl0:listed0.getD i true=false:=by
     cases hg:listed0.getD i true with
     |false=>rfl
     |true=>
      have:=hsub i hg hil
      have hlt3:i<listed.size:=by omega
      simp [hlt3] at this hun
      rw [this] at hun
      cases hun
    have hik:i<k:=by
     rcases pY i k with e|e
     ·exact e
     ·exfalso
      have h1:=pL.1 htl i (pM.2 hil)
      simp only [sV,rU] at h1
      rcases h1 with h1|h1
      ·omega
      ·have h2:=pL.1 h1 u (pM.2 huk)
       simp only [sV] at h2
       rcases h2 with (h2|h2)|h2
       ·exact hfu h2
       ·exact hu (hsub u h2 oN)
       ·exact hu (zAo hcl _ u i o ho hall h2)
    refine hspec i hik hl0 o ho a w (hf.mono fun j hj=> ?_) _ fun v w' hv hb hA=>⟨.inr trivial, ?_⟩
    ·obtain ⟨hj0,e,he,hb,rfl⟩:=hj
     exact ⟨hj0,hall e he hb⟩
    ·refine ih (listed.setIfInBounds i true) (a.put o.dst v) w' ?_ (by simpa using hs) (fun j hj=> ?_) (fun j oj hj hoj e he hbe=> ?_) (fun j hj hjl=> ?_) ((hf.put hap hfr hC hE ho hl0 hv hb hA).mono fun j hj=> ?_)
     ·have:=jN hun
      omega
     ·rw [pN false oN]
      exact hlate j hj
     ·by_cases e2:j=i
      ·subst e2
       rw [ho] at hoj
       cases hoj
       by_cases e3:e.on=j
       ·rw [e3];exact hj
       ·rw [pN false (Ne.symm e3)]
        exact hall e he hbe
      ·rw [pN false (Ne.symm e2)] at hj
       have:=hcl j oj hj hoj e he hbe
       by_cases e3:e.on=i
       ·rw [e3]
        have hlt:i<listed.size:=by omega
        simp [hlt]
       ·rw [pN false (Ne.symm e3)]
        exact this
     ·by_cases e3:j=i
      ·subst e3
       rw [hl0] at hj
       cases hj
      ·rw [pN false (Ne.symm e3)]
       exact hsub j hj hjl
     ·by_cases e:j=i
      ·exact .inr e
      ·left
       rw [pN false (Ne.symm e)] at hj
       exact hj
theorem zLY {k z fuel:Nat} {w:Wb} (fl:Nat->Bool) (hpl:jQ ops=true) (hns:Region.noSelect ops=true) (hzs:ops.size<=z) (hfree: ∀i,i<k->fl i=true->zDp ops i=true/\Region.free .any ops (zBd ops i) i=true) (A:Nat->Bool) (E:Nat->Wc->Wb->Prop) (C:Wb->Prop) (hear:zA4 ops=true) (htl:zFt ops listed0 fl k=true) (hap:q6 ops=true) (hfr:zAi ops a0.tmps.size=true) (hkl:decide (k<=ops.size)=true)
    (hcnt:listed0.count false=fuel) (hsz:listed0.size=ops.size) (hcl:zCn ops listed0=true) (hto:zFe listed0 k=true)
    (hC: ∀w w',C w->Below w.heap.size w w'->C w') (hE: ∀i v w w',E i v w->Below w.heap.size w w'->E i v w') (hw:C w)
    (hspec: ∀i,i<k->listed0.getD i true=false-> ∀o,ops[i]?=some o-> ∀a w,FlowB ops listed0 A E C a0 (fun j=>listed0.getD j true=false/\ ∃e∈o.after,Region.binds .any e=true/\e.on=j) a w-> ∀K:Act->Wb->Prop,(∀v w',E i v w'->Below w.heap.size w w'->(A i=true-> ∀b,blk v=some b->w.heap.size<=b/\b<w'.heap.size)->K (a.put o.dst v) w')->wpOpIn F n P ops (qE Q) i K a w)
    (hfin: ∀a w,FlowB ops listed0 A E C a0 (fun i=>i<k/\listed0.getD i true=false) a w->jB F n P .any ops z (fun _=>True) (qE Q) (ops.size - k) (yA ops.size k) a w):
    jB F n P .any ops z (fun _=>True) (qE Q) fuel listed0 a0 w:=by
  have hcontra: ∀i,listed0.getD i true=false->listed0.getD i false=true->False:=fun i h1 h2=>by
    rcases pY i listed0.size with g|g
    . simp [g] at h1 h2
      rw [h1] at h2
      cases h2
    . simp [rB g] at h2
  exact zRT fl hpl hns hzs hfree hear htl hap hfr hkl hC hE hspec hfin fuel listed0 a0 w hcnt hsz (fun i hi=>zEI hto hi) (zBF hcl) (fun i hi hl=>by
      have g:i<listed0.size:=by omega
      simp [g] at hi ⊢
      exact hi)
    ⟨⟨hw,rfl,rfl,fun _ _=>rfl,fun i o t hi=>(hcontra i hi.1 hi.2).elim⟩,fun i o t b hi=>(hcontra i hi.1 hi.2).elim,fun i j oi oj ti tj bi bj hi=>(hcontra i hi.1 hi.2).elim⟩
end
def zEi (ops:Array Oper) (fl:Nat->Bool) (k n:Nat) (keys:List Nat):Bool:=
 q6 ops&&zAi ops n&&jQ ops&&Region.noSelect ops&&decide (k<=ops.size)&&
 keys.all (fun t=>(List.range k).any fun i=>zS ops i==some t)&&
 (List.range k).all (fun i=>match ops[i]? with
  |none=>true
  |some o=>(looks ops o).all fun t=>(List.range ops.size).all fun j=> !(zS ops j==some t)||o.after.any fun e=>Region.binds .any e&&e.on==j)&&
 (List.range k).all (fun i=> !fl i||(zDp ops i&&Region.free .any ops (zBd ops i) i))&&
 (zA4 ops&&zFt ops (Array.replicate ops.size false) fl k&&(List.range (ops.size - k)).all fun r=>Region.ready .any ops (yA ops.size (k+r))== [k+r])
theorem zFG {F:Fence} {m:Nat} {P:Wh} {ops:Array Oper} {Q:Exit->Act->Wb->Prop} {id:Nat} {w0:Wb} {G:Nat->SF} {n:Nat} {ds:List Deferred} {a:Act} {w:Wb} (fl:Nat->Bool) (al:List NewB) (k:Nat) (L:List (Nat×SF)) (hmix:P.follows .mixedOrders=true)
  (hal: ∀q,q∈al->q.i<k/\q.f.isIn L q.d/\zAG (L.map (·.1))=true/\(∃ty pos aft,ops[q.i]?=some ⟨some q.d, .alloc q.e,ty,pos,aft,none⟩)/\zeroCells P q.e=some q.cs/\ ∀v W,(SF.own w0 q.e q.cs).p v W->q.f.p v W)
  (hchk:zEi ops fl k n (L.map (·.1))=true) (h:At w0 G n ds a w) (hobs:Obs F m P w0 ops (upd G L) (ops.toList.take k))
  (hfin: ∀a w,At w0 (zCg ops k (upd G L)) n ds a w->zMD al a->wpOpsIn F m P ops (qE Q) (List.range' k (ops.size - k)) a w):(Code.region id ops true).wpIn F m P Q a w:=by
 unfold zEi at hchk
 simp only [pR] at hchk
 obtain ⟨⟨⟨⟨⟨⟨⟨⟨hap,hfr⟩,hpl⟩,hns⟩,hk⟩,hkeys⟩,hrd⟩,hflk⟩,hdr⟩:=hchk
 have hk:=sU hk
 have hget: ∀i o,i<k->ops[i]?=some o->qG F m P w0 ops (upd G L) o:=fun i o hi ho=>hobs.get i o (by rw [tC hi];simpa using ho)
 have hkey: ∀t,(∀j,j<k->zS ops j≠some t)->upd G L t=G t:=fun t ht=>by
  refine jK ?_
  cases hc:(L.map (·.1)).contains t with
  |false=>rfl
  |true=>
   exfalso
   have hm:=pX.1 hc
   obtain ⟨i,hi,he⟩:=pW.1 (pL.1 hkeys t hm)
   exact ht i (pM.1 hi) (by simpa using he)
 have hst: ∀t,(∀j,j<k->zS ops j≠some t)->(upd G L t).p (a.tmps.getD t undef) w:=fun t ht=>by rw [hkey t ht];exact h.sl t
 have hmask: ∀(a:Act) (w:Wb),(∀t,(∃j,j<k/\zS ops j=some t)∨(∀j,zS ops j≠some t)->(upd G L t).p (a.tmps.getD t undef) w)-> ∀t,(zCg ops k (upd G L) t).p (a.tmps.getD t undef) w:=fun a w hh t=>by
  unfold zCg
  cases hc:(List.range ops.size).any fun i=>decide (k<=i)&&(zS ops i==some t) with
  |true=>trivial
  | false=>
   refine hh t ?_
   by_cases hex: ∃j,zS ops j=some t
   ·obtain ⟨j,hj⟩:=hex
    left
    refine ⟨j, ?_,hj⟩
    have hlt:j<ops.size:=by
     rcases pY j ops.size with e|e
     ·exact e
     ·rw [zS,rB e] at hj;cases hj
    have:=rR.1 hc j (pM.2 hlt)
    simp [hj] at this
    omega
   ·exact .inr fun j hj=>hex ⟨j,hj⟩
 have hrd': ∀i o,i<k->ops[i]?=some o-> ∀t,t∈looks ops o-> ∀j,zS ops j=some t->(o.after.any fun e=>Region.binds .any e&&e.on==j)=true:=fun i o hi ho t ht j hj=>by
  have h1:=pL.1 hrd i (pM.2 hi)
  rw [ho] at h1
  have hlt:j<ops.size:=by
   rcases pY j ops.size with e|e
   ·exact e
   ·rw [zS,rB e] at hj;cases hj
  have h2:=pL.1 (pL.1 h1 t ht) j (pM.2 hlt)
  rw [hj] at h2
  simpa using h2
 obtain ⟨⟨hear,htl⟩,hch⟩:=hdr
 have hch': ∀r,r<ops.size - k->Region.ready .any ops (yA ops.size (k+r))= [k+r]:=fun r hr=>by
  have:=pL.1 hch r (pM.2 hr)
  simpa using this
 have hfl: ∀i,(Array.replicate ops.size false).getD i false=false:=fun i=>by
  rw [pU,sE]
  split<;>rfl
 have hft: ∀i,i<ops.size->(Array.replicate ops.size false).getD i true=false:=fun i hi=>by
  rw [pU,sE,if_pos hi]
  rfl
 have hnd: ∀t,(∀j,zS ops j≠some t)->zAW ops (Array.replicate ops.size false) t=false:=fun t ht=>by
  cases hd:zAW ops (Array.replicate ops.size false) t with
  |false=>rfl
  |true=>
   exfalso
   unfold zAW at hd
   obtain ⟨i,_,hp⟩:=pW.1 hd
   simp only [pR,rE] at hp
   exact ht i (by rw [<-zDq];exact hp.2)
 refine z7 ops.size (fun _=>True) hmix ?_
 have hdrew:Below w.heap.size w w.drew:=(pS _ w).drew
 refine zLY (Q:=Q) (k:=k) (z:=ops.size) (w:=w.drew) fl hpl hns lr (fun i hi he=>(by have:=pL.1 hflk i (pM.2 hi);rw [he] at this;simpa using this)) (fun i=>al.any fun q=>q.i==i) (fun i v W=> ∀o,ops[i]?=some o-> ∀d,o.dst=some d->(upd G L d).p v W) (fun W=>Below w0.heap.size w0 W/\Below w.heap.size w W) hear htl hap (by rw [h.size];exact hfr) (by simpa using hk) tD fK ?hcl ?hto (fun W W' hC hb=>⟨hC.1.trans (hb.mono hC.1.size),hC.2.trans (hb.mono hC.2.size)⟩) (fun i v W W' hE hb o ho d hd=>(upd G L d).st _ _ _ (hE o ho d hd) hb) ⟨h.gr.trans (hdrew.mono h.gr.size),hdrew⟩ ?spec ?fin
 case hcl=>
  unfold zCn
  refine pL.2 fun i hi=> ?_
  rw [hfl i]
  rfl
 case hto=>
  unfold zFe
  refine pL.2 fun i hi=> ?_
  rw [hfl i]
  simp
 case spec=>
  intro i hik hl o ho b W hf K hK
  by_cases hAi:(al.any fun q=>q.i==i)=true
  ·obtain ⟨q,hq,hqi⟩:=pW.1 hAi
   obtain rfl:q.i=i:=by simpa using hqi
   obtain ⟨_,hin,hndL,⟨ty,pos,aft,hop⟩,hz,hown⟩:=hal q hq
   rw [ho] at hop
   cases hop
   have hg:qG F m P W ops (fun _=>SF.own W q.e q.cs) ⟨some q.d, .alloc q.e,ty,pos,aft,none⟩:=zAz hz
   refine zAf ho hg (fun j g hj=> ?_) (pS _ _) (fun t ht=>by cases ht) (fun v W' hv hb=> ?_)
   ·rw [hf.at_.size,h.size]
    obtain ⟨oj,hoj,hdj⟩:=y4 hj
    exact qF hfr hoj hdj
   ·obtain ⟨b',e1,h1,h2⟩:=hv q.d rfl
    refine hK v W' (fun o' ho' d hd=> ?_) hb (fun _ b'' hb''=> ?_)
    ·rw [ho] at ho'
     cases ho'
     cases hd
     rw [zBP (q:=(q.d,q.f)) hndL hin]
     exact hown v W' ⟨b',e1,pT hf.at_.cls.1.size h1,h2⟩
    ·subst e1
     cases hb''
     exact ⟨h1,(pP.1 h2).1⟩
  refine zAf ho (hget i o hik ho) (fun j g hj=> ?_) hf.at_.cls.1 (fun t ht=> ?_) (fun v W' hv hb=>hK v W' (fun o' ho' d hd=>by rw [ho] at ho';cases ho';exact hv d hd) hb (fun e=>absurd e hAi))
  ·rw [hf.at_.size,h.size]
   cases hoj:ops[j]? with
   |none=>rw [zS,hoj] at hj;cases hj
   |some oj=>rw [qJ hoj] at hj;exact qF hfr hoj hj
  ·by_cases hex: ∃j,zS ops j=some t
   ·obtain ⟨j,hj⟩:=hex
    have h1:=hrd' i o hik ho t ht j hj
    obtain ⟨x,hx,he⟩:=Array.any_eq_true.1 h1
    simp only [pR,rE] at he
    cases hoj:ops[j]? with
    |none=>rw [zS,hoj] at hj;cases hj
    |some oj=>
     rw [qJ hoj] at hj
     exact hf.at_.vals j oj t ⟨hft j (pP.1 hoj).1,_,sT hx,he.1,he.2⟩ hoj hj oj hoj t hj
   ·have hno: ∀j,zS ops j≠some t:=fun j hj=>hex ⟨j,hj⟩
    rw [hf.at_.keep t (hnd t hno)]
    exact (upd G L t).st _ _ _ (hst t (fun j _=>hno j)) hf.at_.cls.2
 case fin=>
  intro b W hf
  have hA:At w0 (zCg ops k (upd G L)) n ds b W:=⟨hf.at_.cls.1,by rw [hf.at_.size];exact h.size,by rw [hf.at_.defers];exact h.nd,hmask b W fun t ht=>by
   rcases ht with ⟨j,hjk,hj⟩|hno
   ·cases hoj:ops[j]? with
    |none=>rw [zS,hoj] at hj;cases hj
    |some oj=>
     rw [qJ hoj] at hj
     exact hf.at_.vals j oj t ⟨hjk,hft j (pP.1 hoj).1⟩ hoj hj oj hoj t hj
   ·rw [hf.at_.keep t (hnd t hno)]
    exact (upd G L t).st _ _ _ (hst t (fun j _=>hno j)) hf.at_.cls.2⟩
  have h2:=forced (Q:=qE Q) hch' (ops.size - k) 0 b W oN (by simpa using hfin b W hA (fun q q' hq hq' hne b1 b2 e1 e2=>(by
   obtain ⟨g1,_,_,⟨_,_,_,g2⟩,_⟩:=hal q hq
   obtain ⟨g1',_,_,⟨_,_,_,g2'⟩,_⟩:=hal q' hq'
   exact hf.apart q.i q'.i _ _ q.d q'.d b1 b2 ⟨g1,hft _ oN⟩ ⟨g1',hft _ oN⟩ hne (pW.2 ⟨q,hq,by simp⟩) (pW.2 ⟨q',hq',by simp⟩) g2 g2' rfl rfl e1 e2)))
  have h3: ∀(f:Nat) (l:Array Bool) (a:Act) (w:Wb),wpAnyIn F m P .any ops (qE Q) f l a w->jB F m P .any ops ops.size (fun _=>True) (qE Q) f l a w:=by
   intro f
   induction f with
   |zero=>intro l a w hh;exact hh
   |succ f ih=>intro l a w hh;exact ⟨hh.1,fun i hi=>wpOpIn_mono (fun a w h5=>⟨.inr trivial,ih _ _ _ h5⟩) (hh.2 i hi)⟩
  exact h3 _ _ _ _ (by simpa using h2)
section
variable {S:Nat->Prop} {w0:Wb} {K:List (Nat×KF)} {B:List Bx} {n:Nat} {ds:List Deferred} {a:Act} {w:Wb} {F:Fence} {m:Nat} {P:Wh} {ops:Array Oper} {Q:Exit->Act->Wb->Prop}
theorem zAg {id:Nat} (fl:Nat->Bool) (al:List NewB) (k:Nat) (L:List (Nat×Rw)) (hmix:P.follows .mixedOrders=true) (h:StS S w0 K B n ds a w)
  (hal: ∀q,q∈al->q.i<k/\q.f.isIn (zK L) q.d/\(∃ty pos aft,ops[q.i]?=some ⟨some q.d, .alloc q.e,ty,pos,aft,none⟩)/\zeroCells P q.e=some q.cs/\ ∀v W,(SF.own w q.e q.cs).p v W->q.f.p v W)
  (hchk:(zEi ops fl k n (L.map (·.1))&&zA5 ops (K.map (·.1)++B.map (·.t))&&zAG (L.map (·.1)))=true)
  (hobs:Obs F m P w ops (upd (j5 K B) (zK L)) (ops.toList.take k))
  (hfin: ∀Q',(∀a w,Q .normal a w->Q' .normal a w)-> ∀a w,StS S w0 (zBB L++K) B n ds a w->(∀q,q∈zK L->q.2.p (a.tmps.getD q.1 undef) w)->zMD al a->zBY F m P ops Q' k a w):(Code.region id ops true).wpIn F m P Q a w:=by
 simp only [pR] at hchk
 have hkeys:(zK L).map (·.1)=L.map (·.1):=by simp [zK]
 have h0:=hchk.1.1
 unfold zEi at h0
 simp only [pR] at h0
 obtain ⟨⟨⟨⟨⟨⟨⟨⟨hap,_⟩,_⟩,_⟩,_⟩,hks⟩,_⟩,_⟩,_⟩:=h0
 exact zCv k L h (Fin:=fun a w=>zMD al a->zBY F m P ops (qE Q) k a w) (fun G' hA hO hF=>zFG fl al k (zK L) hmix (fun q hq=>let ⟨g1,g2,g3,g4,g5⟩:=hal q hq;⟨g1,g2,by rw [hkeys];exact hchk.2,g3,g4,g5⟩) (by rw [hkeys];exact hchk.1.1) hA hO (fun a w hA hD=>hF a w hA hD)) hap hks hchk.1.2 hchk.2 hobs (fun a w h hr hD=>hfin (qE Q) (fun a w h=>h) a w h hr hD)
end
section
variable {S:Nat->Prop} {F:Fence} {m:Nat} {P:Wh} {Q:Exit->Act->Wb->Prop} {w0:Wb} {K:List (Nat×KF)} {B:List Bx} {n:Nat} {ds:List Deferred} {a:Act} {w:Wb}
theorem zCC {σ:Type} {c:Code} (Inv:σ->Act->Wb->Prop) (mu:σ->Nat) (x0:σ) (h0:Inv x0 a w)
  (round: ∀x a w,Inv x a w->c.wpIn F m P (Exit.then (fun a' w'=> ∃y,mu y<mu x/\Inv y a' w') Q) a w):(Code.loop c).wpIn F m P Q a w:=by
 have low: ∀a w,(∃k, ∃x,mu x=k/\Inv x a w)-> ∃k,(∃x,mu x=k/\Inv x a w)/\ ∀j,j<k-> ¬ ∃x,mu x=j/\Inv x a w:=
  fun a w ⟨k,hk⟩=>zDm k hk
 open Classical in
 refine wpIn_loop (fun a w=> ∃k, ∃x,mu x=k/\Inv x a w) (fun a w=>if h: ∃k, ∃x,mu x=k/\Inv x a w then Classical.choose (low a w h) else 0) ⟨_,x0,rfl,h0⟩ ?_
 rintro a w hA
 have e0:=sB (low a w hA)
 obtain ⟨x,hm,hst⟩:=e0.1
 refine sC ?_ (round x a w hst)
 intro e a' w' h
 cases e with
 |normal=>
  obtain ⟨y,h2,h3⟩: ∃y,mu y<mu x/\Inv y a' w':=h
  have hA': ∃k, ∃x,mu x=k/\Inv x a' w':=⟨_,y,rfl,h3⟩
  refine ⟨hA', ?_⟩
  simp only [dif_pos hA,dif_pos hA']
  have e1:=sB (low a' w' hA')
  have:Classical.choose (low a' w' hA')<=mu y:=Nat.not_lt.1 fun hlt=>e1.2 _ hlt ⟨y,rfl,h3⟩
  omega
 |_=>exact h
theorem StS.learn (h:StS S w0 K B n ds a w) (t:Nat) (v:Wc) (e:a.tmps.getD t undef=v):StS S w0 ((t, .u (UF.eq v))::K) B n ds a w:=
 ⟨h.gr,h.size,h.nd,fun q hq=>by
  rcases pZ.1 hq with rfl|hq
  ·exact e
  ·exact h.sl q hq,h.bx,h.mks,h.so.imp (fun hu q hq=>(by
   rcases pZ.1 hq with rfl|hq
   ·exact ⟨_,rfl⟩
   ·exact hu q hq)) (fun x=>x)⟩
theorem StS.self (h:StS S w0 K B n [] a w) (hu: ∀q,q∈K-> ∃f,q.2= .u f):StS (inB B) w K B n [] a w:=by
 refine ⟨BlS.refl _ _,h.size,h.nd,fun q hq=> ?_,wU (a:=a) B (fun x hx=> ?_) (fun _ _=>rfl) h.bx,⟨[],Marks.nil _ _⟩, .inl hu⟩
 ·obtain ⟨f,e⟩:=hu q hq
  have:=h.sl q hq
  rw [e] at this ⊢
  exact this
 ·cases hr:x.r with
  |true=>exact .inl rfl
  |false=>exact .inr (.inr ⟨x,hx,rfl,hr⟩)
theorem zH6 {w1:Wb} (hb:BlS (inB B) w w1) (hbx:yH S w0 a w B):jH w w1:=fun q u hq=>by
 have hlt:=sO w _ hq
 by_cases e:inB B q.block
 ·exfalso
  obtain ⟨x,hx,e1,_⟩:=e
  obtain ⟨cs,_,_,h3,_,h5⟩:=hbx.mem x hx
  have:=zDP h3 h5 e1.symm hq
  cases this
 ·exact (rN (hb.block _ hlt e)).trans hq
theorem StS.itr_to {S':Nat->Prop} {w1:Wb} {K':List (Nat×KF)} {n':Nat} {ds':List Deferred} {a':Act} {N:Nat} (h0:StS S' w0 K' B n' ds' a' w) (h1:BlS (inB B) w w1) (hN: ∀x,x∈B->x.r=false->N<=x.b) (hNw:N<=w.heap.size):Itr N w w1:=
 ⟨h1.os,h1.tape,h1.output,h1.size,fun k hk=>h1.block k (rF hk hNw) fun ⟨x,hx,e,hr⟩=>(by have:=hN x hx hr;omega),
  fun k o ho hc=>(h1.block k (pP.1 ho).1 fun ⟨x,hx,e,_⟩=>(by
   obtain ⟨cs,_,_,h3,_⟩:=h0.bx.mem x hx
   rw [e,ho] at h3
   cases h3
   cases hc)).trans ho,zH6 h1 h0.bx⟩
theorem StS.yielded (h:StS S w0 K B n [] a w) {N:Nat} {C:Nat->Prop} {w':Wb} (hr:Rnd N C w w') (hu: ∀q,q∈K-> ∃f,q.2= .u f) (hC: ∀x,x∈B-> ¬C x.b):StS (inB B) w' K B n [] a w':=by
 refine ⟨BlS.refl _ _,h.size,h.nd,fun q hq=> ?_,wQ hr.keep B (fun x hx=> ?_) (wU (a:=a) B (fun x hx=> ?_) (fun _ _=>rfl) h.bx),⟨[],Marks.nil _ _⟩, .inl hu⟩
 ·obtain ⟨f,e⟩:=hu q hq
  have:=h.sl q hq
  rw [e] at this ⊢
  exact f.us _ _ _ this hr.keep
 ·obtain ⟨cs,_,_,h3,_⟩:=h.bx.mem x hx
  rw [h3]
  exact hr.cells _ _ h3 rfl (hC x hx)
 ·cases hrr:x.r with
  |true=>exact .inl rfl
  |false=>exact .inr (.inr ⟨x,hx,rfl,hrr⟩)
theorem zG8 {a:Act} {d:Tmp} {y:Wg} {l:Nat} {xs:Array Wg} {ats:Array We} {ty:We} {pos:String} {aft:Array Edge} {w:Wb} (hy:a.eval y= .func (.yield l) #[] #[]):
  (execOp a.eval ⟨some d, .call ⟨.value y,xs,ats⟩,ty,pos,aft,none⟩).run P w=(Instr.yield l (xs.map a.eval)).run P w:=by
 simp only [execOp,resolve,hy]
 simp [invoke,Deferred.ofValue]
theorem zFv {ops:Array Oper} {k d l:Nat} {y:Wg} {xs:Array Wg} {ats:Array We} {ty:We} {pos:String} {aft:Array Edge} {Jn Z:Wb->Prop} {N:Nat} {C:Nat->Prop} (ho:ops[k]?=some ⟨some d, .call ⟨.value y,xs,ats⟩,ty,pos,aft,none⟩)
  (h:StS S w0 K B n [] a w) (hy: ∀v W,(Wd.fct (j5 K B) y).p v W->v= .func (.yield l) #[] #[]) (hf:zAR K B n d=true) (hu: ∀q,q∈K-> ∃f,q.2= .u f) (hC: ∀x,x∈B-> ¬C x.b)
  (Y:YieldAt Fence.wide 0 P l (xs.map a.eval) w fun e W'=>((e= .returned (.bool true)/\Jn W')∨(e= .returned (.bool false)/\Z W'))/\Rnd N C w W')
  (fin: ∀a' w' bv,Rnd N C w w'->((bv=true/\Jn w')∨(bv=false/\Z w'))->StS (inB B) w' ((d, .u (uB bv))::K) B n [] a' w'->zBY Fence.wide 0 P ops Q (k+1) a' w'):zBY Fence.wide 0 P ops Q k a w:=by
 have hyv:a.eval y= .func (.yield l) #[] #[]:=hy _ _ (h.fct y)
 obtain ⟨fn,tmps,assign,body,hrun,hR⟩:=Y
 refine zBG ho rfl ⟨fun g _=>trivial, ?_⟩
 rw [rA _ _ _ (fun _ e=>by cases e),zG8 hyv,hrun]
 rw [Oper.uponIn_round]
 refine ⟨fun hh=>absurd hh (by simp [Fence.wide]),RoundIn.mono hR fun e W' he=> ?_⟩
 obtain ⟨he,hr⟩:=he
 have s1:=h.yielded hr hu hC
 rcases he with ⟨rfl,hJ⟩|⟨rfl,hZ⟩
 ·exact fin _ _ true hr (.inl ⟨rfl,hJ⟩) (s1.set hf (pS _ _) rfl)
 ·exact fin _ _ false hr (.inr ⟨rfl,hZ⟩) (s1.set hf (pS _ _) rfl)
theorem zTc (f:Wg->Wc) (x y:Wg):(Array.map f #[x,y]).getD 0 undef=f x:=by simp
theorem zTb (f:Wg->Wc) (x y:Wg):(Array.map f #[x,y]).getD 1 undef=f y:=by simp
theorem zI6 {f:FuncId} {fn:Func} {c:Code} {args:Array Wc} {R:Ending->Wb->Prop}
  (hf:P.funcs[f]?=some fn) (hb:fn.body=some c) (h:c.wpIn Fence.wide 0 P (bodyPost P fn R) { tmps:=args++Array.replicate (fn.ntmps - args.size) undef,defers:= [] } w):Calls P f args w R:=zBj hf hb h
theorem qX {K:List (Nat×KF)} (h:(K.all fun q=>zSE q.2)=true): ∀q,q∈K-> ∃f,q.2=KF.u f:=fun q hq=>by
 have:=pL.1 h q hq
 cases hq2:q.2 with
 |u f=>exact ⟨f,rfl⟩
 |o f=>rw [hq2] at this;cases this
theorem zIz {fn:Func} {args:Array Wc} (S:Nat->Prop) (K0:List (Nat×UF)) (B0:List Bx) (hn:Nat.ble args.size fn.ntmps=true) (hK: ∀q,q∈K0->q.1<args.size/\q.2.p (args.getD q.1 undef) w)
  (hB:yH S w ⟨args, []⟩ w B0) (hBs: ∀x,x∈B0->x.t<args.size):StS S w (K0.map fun q=>(q.1,KF.u q.2)) B0 fn.ntmps [] { tmps:=args++Array.replicate (fn.ntmps - args.size) undef,defers:= [] } w:=by
 have hn:=Nat.le_of_ble_eq_true hn
 refine ⟨BlS.refl _ _,by simp;omega,rfl,fun q hq=> ?_,yH.keep (a:=⟨args, []⟩) (pS _ _) iiz B0 (fun x hx=> ?_) hB,⟨[],Marks.nil _ _⟩, .inl fun q hq=> ?_⟩
 ·obtain ⟨p,hp,rfl⟩:=pQ.1 hq
  obtain ⟨h1,h2⟩:=hK p hp
  have:(args++Array.replicate (fn.ntmps - args.size) undef).getD p.1 undef=args.getD p.1 undef:=by
   rw [pU,pU,tE h1]
  show p.2.p ((args++Array.replicate (fn.ntmps - args.size) undef).getD p.1 undef) w
  rw [this]
  exact h2
 ·show (args++Array.replicate (fn.ntmps - args.size) undef).getD x.t undef=args.getD x.t undef
  rw [pU,pU,tE (hBs x hx)]
 ·obtain ⟨p,hp,rfl⟩:=pQ.1 hq
  exact ⟨_,rfl⟩
def zJL (W:Wb) (gf:Nat) (te:We) (C:CU):SF:=⟨fun v w=> ∃(b:Nat) (cs:List Wc),v= .func (.func gf) #[] #[pO b 0]/\W.heap.size<=b/\w.heap[b]?=some (.cells cs.toArray te (0,0))/\C.p cs w/\cs.all zU=true,fun _ _ _ ⟨b,cs,h1,h2,h3,h4,h5⟩ hb=>⟨b,cs,h1,h2,(hb.block b (pP.1 h3).1).trans h3,C.us _ _ _ h4 (zP hb),h5⟩⟩
theorem zG7 {W W':Wb} {gf:Nat} {te:We} {C:CU} (h:W.heap.size<=W'.heap.size) (v:Wc) (w:Wb) (hv:(zJL W' gf te C).p v w):(zJL W gf te C).p v w:=by
 obtain ⟨b,cs,h1,h2,h3⟩:=hv
 exact ⟨b,cs,h1,pT h h2,h3⟩
theorem StS.boxAt (h:StS S w0 K B n ds a w) {c:Nat} {z:Bx} (hB:zCY B c=some z): ∃cs:List Wc,w.heap[z.b]?=some (.cells cs.toArray z.e (0,0))/\z.c.p cs w/\cs.all zU=true:=by
 obtain ⟨cs,_,_,h3,h4,h5⟩:=h.bx.mem z (qT hB).1
 exact ⟨cs,h3,h4,h5⟩
theorem StS.inB_new (h:St w0 K B n ds a w) {q:Nat} (hq:inB B q):w0.heap.size<=q:=by
 obtain ⟨x,hx,e,hr⟩:=hq
 obtain ⟨_,_,hc,_⟩:=h.bx.mem x hx
 rcases hc with hc|hc|hc
 ·rw [hr] at hc;cases hc
 ·omega
 ·exact hc.elim
def wC (vs:List Wc):CU:=⟨fun cs _=>cs=vs,fun _ _ _ h _=>h⟩
end
def CU.ok (z:Nat) (C:CU):Prop:= ∀cs W,C.p cs W->cs.length=z/\cs.all zU=true/\ ∀u,u∈cs->u.oneCell'=true
def zBJ (w:Wb) (base:Nat) (e:We) (z:Nat) (v:Wc) (Cs:List CU):Prop:=
 (v= .slice none 0 0/\Cs= [])∨ ∃g cap cur,v= .slice (some ⟨g,0,none⟩) Cs.length cap/\base<=g/\w.heap[g]?=some (.cells cur e (0,0))/\Cs.length<=cap/\cap<=maxLen/\cur.size=cap*z/\cur.toList.all zU=true/\ ∀(i:Nat) (C:CU),Cs[i]?=some C->C.p ((cur.toList.drop (i*z)).take z) w
theorem zBJ.nil (w:Wb) (base:Nat) (e:We) (z:Nat):zBJ w base e z (.slice none 0 0) []:= .inl ⟨rfl,rfl⟩
theorem zBJ.lt {w:Wb} {base e z v Cs} (h:zBJ w base e z v Cs): ∀k,v.ownBlock=some k->base<=k/\k<w.heap.size:=by
 intro k hk
 rcases h with ⟨rfl,_⟩|⟨g,cap,cur,rfl,hb,hg,_⟩
 ·simp [Value.ownBlock] at hk
 ·simp [Value.ownBlock] at hk
  subst hk
  exact ⟨hb,(pP.1 hg).1⟩
theorem zBJ.mono {w:Wb} {base base' e z v Cs} (h:zBJ w base e z v Cs) (hb:base'<=base):zBJ w base' e z v Cs:=
 h.imp id fun ⟨g,cap,cur,h1,h2,h3⟩=>⟨g,cap,cur,h1,pT hb h2,h3⟩
theorem zBJ.keep {w w':Wb} {base e z v Cs} (h:zBJ w base e z v Cs) (hb: ∀k,v.ownBlock=some k->w'.heap[k]?=w.heap[k]?) (hk:jH w w'):zBJ w' base e z v Cs:=by
 rcases h with h|⟨g,cap,cur,rfl,h2,h3,h4,h5,h6,h7,h8⟩
 ·exact .inl h
 ·exact .inr ⟨g,cap,cur,rfl,h2,(hb g rfl).trans h3,h4,h5,h6,h7,fun i C hi=>C.us _ _ _ (h8 i C hi) hk⟩
theorem zBJ.below {w w':Wb} {base e z v Cs} (h:zBJ w base e z v Cs) (hb:Below w.heap.size w w'):zBJ w' base e z v Cs:=
 h.keep (fun k hk=>hb.block k (h.lt k hk).2) (zP hb)
theorem zBJ.row {w:Wb} {base e z v Cs} (h:zBJ w base e z v Cs):(SF.row z Cs).p v w:=by
 rcases h with ⟨rfl,rfl⟩|⟨g,cap,cur,rfl,h2,h3,h4,h5,h6,h7,h8⟩
 ·exact ⟨none,0,rfl,rD _,by decide,fun _=>rfl,fun i C hi=>by simp at hi⟩
 ·refine ⟨_,cap,rfl,h4,by unfold maxLen at h5;omega,fun e=>(by cases e),fun i C hi=>⟨g,0,_,rfl,fun j u hj=> ?_,h8 i C hi⟩⟩
  rw [List.getElem?_take] at hj
  split at hj
  ·rw [List.getElem?_drop] at hj
   unfold World.cell?
   simp only [h3]
   have:0+i*z+j=i*z+j:=by omega
   rw [this]
   simpa using hj
  ·cases hj
theorem zBJ.keepU {w w':Wb} {base e z v Cs} (h:zBJ w base e z v Cs) (hg:w.grownBy w' v.ownBlock):jH w w':=fun p x hp=>by
 have hlt:=sO w _ hp
 by_cases e1:some p.block=v.ownBlock
 ·exfalso
  rcases h with ⟨rfl,_⟩|⟨g,cap,cur,rfl,h2,h3,h4,h5,h6,h7,h8⟩
  ·simp [Value.ownBlock] at e1
  ·simp [Value.ownBlock] at e1
   have:=zDP (cs:=cur.toList) (z:=(0,0)) (by simpa using h3) h7 e1 hp
   cases this
 ·exact (rN (hg.block _ hlt e1)).trans hp
def zIl (P:Wh) (t:We):Wf (We×Nat×Bool):=match P.underlying t with
 | some (.slice e)=>match P.info? e with
  |some i=>match i.zero with
   |some zv=>some (e,i.size,zv.cells.size==i.size&&zv.cells.toList.all zU&&decide (0<i.size)&&Nat.ble i.bytes 1000)
   |none=>none
  |none=>none
 |_=>none
theorem zDQ {P:Wh} {t e:We} {z:Nat} (h:zIl P t=some (e,z,true)):P.underlying t=some (.slice e)/\ ∃i zv,P.info? e=some i/\i.zero=some zv/\i.size=z/\i.bytes<=1000/\zv.cells.size=z/\zv.cells.toList.all zU=true/\0<z:=by
 unfold zIl at h
 split at h<;>try cases h
 rename_i e' hu
 split at h<;>try cases h
 rename_i i hi
 split at h<;>try cases h
 rename_i zv hz
 simp only [sL,rW,pR,rE,rU] at h
 obtain ⟨rfl,rfl,⟨⟨h1,h2⟩,h3⟩,h4⟩:=h
 exact ⟨hu,i,zv,hi,hz,rfl,Nat.le_of_ble_eq_true h4,h1,h2,h3⟩
theorem zBW {zc:Array Wc} (h:zc.toList.all zU=true) (n:Nat):(Builtin.zeroCells zc n).toList.all zU=true:=by
  refine pL.2 fun u hu=> ?_
  simp only [Builtin.zeroCells,Array.toList_map,pQ,Array.toList_range,pM] at hu
  obtain ⟨i,hi,rfl⟩:=hu
  have h0 : 0 < zc.size := by rcases Nat.eq_zero_or_pos zc.size with h|h;· rw [h] at hi;omega
                              . exact h
  have hlt:i % zc.size<zc.size:=Nat.mod_lt _ h0
  have:zc[i % zc.size]!∈zc.toList:=by
    rw [getElem!_pos zc _ hlt]
    exact Array.getElem_mem_toList hlt
  exact pL.1 h _ this
theorem zEz {W:Wb} {b z:Nat}: ∀(Ds:List CU) (o:Nat),(∀C,C∈Ds->CU.ok z C)->(∀(i:Nat) (C:CU),Ds[i]?=some C-> ∃cs,Mem W b (o+i*z) cs/\C.p cs W)->
  ∃news:List Wc,news.length=Ds.length*z/\(∀j u,news[j]?=some u->W.cell? ⟨b,o+j,none⟩=some u)/\(∀u,u∈news->u.oneCell'=true)/\news.all zU=true/\ ∀(i:Nat) (C:CU),Ds[i]?=some C->C.p ((news.drop (i*z)).take z) W
 | [],o,_,_=>⟨[],by simp,by simp,by simp,rfl,by simp⟩
 | D::Ds,o,hok,h=>by
  obtain ⟨cs,h1,h2⟩:=h 0 D rfl
  obtain ⟨hl,hn,h1c⟩:=hok D fK cs W h2
  obtain ⟨ns,g1,g2,g3,g4,g5⟩:=zEz Ds (o+z) (fun C hC=>hok C (by simp [hC])) fun i C hi=>by
   obtain ⟨cs',h3,h4⟩:=h (i+1) C (by simpa using hi)
   refine ⟨cs', ?_,h4⟩
   rwa [show o+(i+1)*z=o+z+i*z by rw [rO];omega] at h3
  refine ⟨cs++ns,by rw [rS,hl,g1,List.length_cons,rO];omega,fun j u hj=> ?_,fun u hu=> ?_,by rw [sF,hn,g4];rfl,fun i C hi=> ?_⟩
  ·rcases pY j z with hlt|hge
   ·rw [tF oN] at hj
    have:=h1 j u hj
    rwa [show o+0*z+j=o+j by omega] at this
   ·rw [tG oN] at hj
    have:=g2 _ u hj
    rwa [show o+z+(j - cs.length)=o+j by omega] at this
  ·rcases rM.1 hu with hu|hu
   ·exact h1c u hu
   ·exact g3 u hu
  ·cases i with
   |zero=>
    obtain rfl:D=C:=by simpa using hi
    rw [show 0*z=0 by omega,List.drop_zero,tH oN,sK oN]
    exact h2
   |succ i=>
    rw [show (i+1)*z=cs.length+i*z by rw [rO];omega,List.drop_append]
    have e1:cs.drop (cs.length+i*z)= []:=List.drop_eq_nil_of_le oN
    rw [e1,sW,show cs.length+i*z - cs.length=i*z by omega]
    exact g5 i C (by simpa using hi)
theorem zC2 {cs ds:List Wc} {z i n:Nat} (h:cs.length=n*z) (hi:i<n):((cs++ds).drop (i*z)).take z=(cs.drop (i*z)).take z:=by
 have h1:i*z+z<=n*z:=by rw [<-Nat.succ_mul];exact sG _ hi
 rw [List.drop_append_of_le_length oN,tH (by rw [sJ];omega)]
theorem zMd {cs ds:List Wc} {z i n:Nat} (h:cs.length=n*z):(cs++ds).drop ((n+i)*z)=ds.drop (i*z):=by
 rw [rO, <-h,List.drop_append]
 have e1:cs.drop (cs.length+i*z)= []:=List.drop_eq_nil_of_le oN
 rw [e1,sW]
 congr 1
 omega
theorem zDG {w w':Wb} {z:Nat} {Cs Ds:List CU} {cs ds es:List Wc} (hl:cs.length=Cs.length*z) (hd:ds.length=Ds.length*z) (h1: ∀(i:Nat) (C:CU),Cs[i]?=some C->C.p ((cs.drop (i*z)).take z) w) (h2: ∀(i:Nat) (C:CU),Ds[i]?=some C->C.p ((ds.drop (i*z)).take z) w) (hk:jH w w'):
  ∀(i:Nat) (C:CU),(Cs++Ds)[i]?=some C->C.p (((cs++ds++es).drop (i*z)).take z) w':=fun i C hi=>by
 rcases pY i Cs.length with hlt|hge
 ·rw [tF hlt] at hi
  rw [List.append_assoc,zC2 hl hlt]
  exact C.us _ _ _ (h1 i C hi) hk
 ·obtain ⟨j,rfl⟩: ∃j,i=Cs.length+j:=⟨i - Cs.length,by omega⟩
  rw [tG oN,Nat.add_sub_cancel_left] at hi
  have hj:j<Ds.length:=(rK.1 hi).1
  rw [List.append_assoc,zMd hl,zC2 hd hj]
  exact C.us _ _ _ (h2 j C hi) hk
theorem zGj {a b c:List Wc} (ha:a.all zU=true) (hb:b.all zU=true) (hc:c.all zU=true):(a++b++c).all zU=true:=by
 rw [sF,sF,ha,hb,hc];rfl
theorem zKA {P:Wh} {w:Wb} {base:Nat} {t ty e:We} {z:Nat} {v v2:Wc} {Cs Ds:List CU} (happ:zIl P t=some (e,z,true)) (hr:zBJ w base e z v Cs) (h2:(SF.row z Ds).p v2 w) (hD: ∀C,C∈Ds->CU.ok z C)
    (hsz:Cs.length+Ds.length<=140000000000) (hbase:base<=w.heap.size):
    ∃v' w',(Builtin.append_ #[t,t] ty #[v,v2]).run P w= .ok v' w'/\zBJ w' base e z v' (Cs++Ds)/\w.grownBy w' v.ownBlock/\(v'.ownBlock=v.ownBlock∨v'.ownBlock=some w.heap.size):=by
  obtain ⟨ht,i,zv,hi,hz,hs,hby0,hzs,hzn,hz0⟩:=zDQ happ
  have hmx:Cs.length+Ds.length<=maxLen:=by unfold maxLen;omega
  have hbb:(Cs.length+Ds.length)*i.bytes<=140737488355328:=pT (Nat.mul_le_mul hsz hby0) (by decide)
  obtain ⟨A,c,rfl,hlc,hcm,hAn,hel⟩:=h2
  have hsmall:Cs.length+Ds.length<=9223372036854775807:=by unfold maxLen at hmx;omega
  cases A with
  | none=>
    have hD0:Ds= []:=by
      cases Ds with
      |nil=>rfl
      |cons D Ds=>obtain ⟨b,o,cs,e1,_⟩:=hel 0 D rfl;cases e1
    subst hD0
    have hc:=hAn rfl
    subst hc
    rcases hr with ⟨rfl,rfl⟩|⟨g,cap,cur,rfl,g2,g3,g4,g5,g6,g7,g8⟩
    . refine ⟨.slice none 0 0,w, ?_, .inl ⟨rfl,rfl⟩,⟨rfl,rfl,rfl,rD _,fun _ _ _=>rfl⟩, .inl rfl⟩
      simp [Builtin.append_,rI ht,sizeOf,typeInfo,hi,Builtin.lenOf,Builtin.firstCells]
    . refine ⟨_,w, ?_, .inr ⟨g,cap,cur,rfl,g2,g3,by simpa using g4,g5,g6,g7,by simpa using g8⟩,⟨rfl,rfl,rfl,rD _,fun _ _ _=>rfl⟩, .inl rfl⟩
      simp [Builtin.append_,rI ht,sizeOf,typeInfo,hi,Builtin.lenOf,Builtin.firstCells,g4,storeCells]
  | some ad=>
    obtain ⟨news,n1,n2,n3,n4,n5⟩: ∃news:List Wc,news.length=Ds.length*z/\(∀j u,news[j]?=some u->w.cell? (ad.add j)=some u)/\(∀u,u∈news->u.oneCell'=true)/\news.all zU=true/\ ∀(i:Nat) (C:CU),Ds[i]?=some C->C.p ((news.drop (i*z)).take z) w:=by
      cases Ds with
      |nil=>exact ⟨[],by simp,by simp,by simp,rfl,by simp⟩
      | cons D Ds=>
        obtain ⟨b,o,cs,e1,_⟩:=hel 0 D rfl
        cases e1
        obtain ⟨news,k1,k2,k3⟩:=zEz (W:=w) (b:=b) (z:=z) (D::Ds) o hD fun i C hiC=>by
          obtain ⟨b',o',cs',e',m1,m2⟩:=hel i C hiC
          cases e'
          exact ⟨cs',m1,m2⟩
        exact ⟨news,k1,fun j u hj=>by rw [rP];exact k2 j u hj,k3⟩
    -- what the growing arm leaves
    have grown: ∀(old:Nat) (cs:List Wc) (row:Wf Nat),cs.length=Cs.length*z->cs.all zU=true->(∀(i:Nat) (C:CU),Cs[i]?=some C->C.p ((cs.drop (i*z)).take z) w)->old<Cs.length+Ds.length->
        zBJ (w.drew.alloc (.cells (cs.toArray++news.toArray++Builtin.zeroCells zv.cells (grownCap w (Cs.length+Ds.length) old e - (Cs.length+Ds.length))) e)) base e z (.slice (some ⟨w.heap.size,0,none⟩) (Cs.length+Ds.length) (grownCap w (Cs.length+Ds.length) old e)) (Cs++Ds)/\
        w.grownBy (w.drew.alloc (.cells (cs.toArray++news.toArray++Builtin.zeroCells zv.cells (grownCap w (Cs.length+Ds.length) old e - (Cs.length+Ds.length))) e)) row:=by
      intro old cs row hl hn hcs ho
      have hge:=grownCap_ge w (Cs.length+Ds.length) old e
      have hcm:grownCap w (Cs.length+Ds.length) old e<=maxLen:=grownCap_le_maxLen w (Cs.length+Ds.length) old e hmx
      refine ⟨.inr ⟨w.heap.size,_,_,by rw [rS],hbase,heap_alloc_new w.drew _,by rw [rS];exact hge,hcm, ?_, ?_, ?_⟩,⟨rfl,rfl,rfl,by simp,fun k hk _=>heap_alloc_old w.drew _ hk⟩⟩
      . simp only [Array.size_append,sX,size_zeroCells,hzs,hl,n1, <-rO]
        congr 1
        omega
      . simp only [sY]
        exact zGj hn n4 (zBW hzn _)
      . simp only [sY]
        exact zDG hl n1 hcs n5 (zP ⟨rfl,rfl,rfl,by simp,fun k hk=>heap_alloc_old w.drew _ hk⟩)
    rcases hr with ⟨rfl,rfl⟩|⟨g,cap,cur,rfl,g2,g3,g4,g5,g6,g7,g8⟩
    . by_cases hm:Ds.length=0
      . have hD0:=List.eq_nil_of_length_eq_zero hm
        subst hD0
        refine ⟨.slice none 0 0,w, ?_, .inl ⟨rfl,rfl⟩,⟨rfl,rfl,rfl,rD _,fun _ _ _=>rfl⟩, .inl rfl⟩
        simp [Builtin.append_,rI ht,sizeOf,typeInfo,hi,Builtin.lenOf,Builtin.firstCells,loadCells,loadCellsFrom]
      . have hr:=run_append_nil (P:=P) w t ty e i zv ht hi hz ad Ds.length c news (by rw [hs];exact n1) n2 oN (by simp at hsmall;omega) (by simp at hbb;omega)
        have hgr:=grown 0 [] (Value.ownBlock (.slice none 0 0)) fK rfl fK (by simp;omega)
        simp only [List.length_nil,Nat.zero_add,sW,Array.empty_append] at hgr ⊢
        exact ⟨_,_,hr,hgr.1,hgr.2, .inr rfl⟩
    . by_cases hroom:Cs.length+Ds.length<=cap
      . have hfit:Cs.length*i.size+news.length<=cur.size:=by rw [n1,g6,hs, <-rO];exact sG _ hroom
        have hr:=run_append_room (P:=P) w t ty e i ht hi g Cs.length cap cur g3 ad Ds.length c news (by rw [hs];exact n1) n2 n3 hroom hfit
        rw [hs] at hr hfit
        have hgr:w.grownBy (w.setRow g (cur.toList.take (Cs.length*z)++news++cur.toList.drop (Cs.length*z+news.length)).toArray) (some g):=zCk w g _
        have hk:jH w (w.setRow g (cur.toList.take (Cs.length*z)++news++cur.toList.drop (Cs.length*z+news.length)).toArray):=
          zBJ.keepU (v:= .slice (some ⟨g,0,none⟩) Cs.length cap) (Cs:=Cs) (base:=base) (e:=e) (z:=z) (.inr ⟨g,cap,cur,rfl,g2,g3,g4,g5,g6,g7,g8⟩) hgr
        have hcl:cur.toList.length=cap*z:=g6
        have hle:Cs.length*z<=cur.toList.length:=by rw [hcl];exact sG _ g4
        have htl:(cur.toList.take (Cs.length*z)).length=Cs.length*z:=by rw [sZ,Nat.min_eq_left hle]
        have hsub: ∀u,u∈cur.toList->zU u=true:=pL.1 g7
        refine ⟨_,_,hr, .inr ⟨g,cap,_,by rw [rS],g2,setRow_heap w g cur _ e _ g3,by rw [rS];exact hroom,g5, ?_, ?_, ?_⟩,hgr, .inl rfl⟩
        . simp only [sX,rS,sZ,sJ,Array.length_toList]
          rw [<-g6]
          omega
        . exact zGj (pL.2 fun u hu=>hsub u (sM hu)) n4 (pL.2 fun u hu=>hsub u (List.mem_of_mem_drop hu))
        . refine zDG htl n1 (fun j C hj=> ?_) n5 hk
          have hlt:j<Cs.length:=(rK.1 hj).1
          have h1:=g8 j C hj
          rw [<-List.take_append_drop (Cs.length*z) cur.toList,zC2 htl hlt] at h1
          exact h1
      . have htl:(cur.toList.take (Cs.length*z)).length=Cs.length*z:=by
          rw [sZ,show cur.toList.length=cap*z from g6,Nat.min_eq_left (sG _ g4)]
        have holds: ∀j u,(cur.toList.take (Cs.length*z))[j]?=some u->w.cell? ((⟨g,0,none⟩:Addr).add j)=some u:=fun j u hj=>by
          rw [rP,Nat.zero_add]
          rw [List.getElem?_take] at hj
          split at hj
          . unfold World.cell?
            simp only [g3]
            simpa using hj
          . cases hj
        have hr:=run_append_grow (P:=P) w t ty e i zv ht hi hz ⟨g,0,none⟩ Cs.length cap (cur.toList.take (Cs.length*z)) (by rw [hs];exact htl) holds ad Ds.length c news (by rw [hs];exact n1) n2 oN oN (growslice_fits oN hbb)
        have hgr:=grown cap (cur.toList.take (Cs.length*z)) (Value.ownBlock (.slice (some ⟨g,0,none⟩) Cs.length cap)) htl (pL.2 fun u hu=>pL.1 g7 u (sM hu)) (fun j C hj=>by
          have hlt:j<Cs.length:=(rK.1 hj).1
          have h1:=g8 j C hj
          rw [<-List.take_append_drop (Cs.length*z) cur.toList,zC2 htl hlt] at h1
          exact h1) oN
        exact ⟨_,_,hr,hgr.1,hgr.2, .inr rfl⟩
section
variable {S:Nat->Prop} {F:Fence} {m:Nat} {P:Wh} {Q:Exit->Act->Wb->Prop} {w0 w1:Wb} {K K0:List (Nat×KF)} {B B0:List Bx} {n n0:Nat} {ds ds0:List Deferred} {a a0:Act} {w:Wb}
theorem vC {S':Nat->Prop} {w':Wb}: ∀(B:List Bx),(∀x,x∈B->x.r=true)->yH S w0 a w B->yH S' w' a w B
 | [],_,_=>trivial
 |x::B,hr,⟨⟨cs,h1,_,h3⟩,h4⟩=>⟨⟨cs,h1, .inl (hr x fK),h3⟩,vC B (fun y hy=>hr y (by simp [hy])) h4⟩
def frz (B:List Bx):List Bx:=B.map fun x=>⟨x.t,x.e,x.c,x.b,true⟩
theorem yH.freeze: ∀(B:List Bx),yH S w0 a w B->yH S w0 a w (frz B)
 | [],_=>trivial
 |x::B,⟨⟨cs,h1,_,h3,h4,h5,h6⟩,h7⟩=>⟨⟨cs,h1, .inl rfl,h3,h4,h5,fun y hy=>by
  obtain ⟨z,hz,rfl⟩:=pQ.1 hy
  exact .inr ⟨rfl,rfl⟩⟩,yH.freeze B h7⟩
theorem StS.freeze (h:StS S w0 K B n ds a w):StS S w0 K (frz B) n ds a w:=⟨h.gr,h.size,h.nd,h.sl,yH.freeze B h.bx,h.mks,h.so⟩
theorem StS.below (h:St w0 K B n ds a w):Below w0.heap.size w0 w:=h.gr.below
theorem StS.reb (h:St w0 K B n [] a w) (hB:(B.all fun x=>x.r)=true) (K':List (Nat×KF)) (hK: ∀q,q∈K'->q∈K∨ ∃f,q.2= .o f/\f.p (a.tmps.getD q.1 undef) w):St w K' B n [] a w:=
 ⟨BlS.refl _ _,h.size,h.nd,fun q hq=>by
  rcases hK q hq with hq|⟨f,e,hf⟩
  ·have h1:=h.sl q hq
   cases h2:q.2 with
   |u f=>rw [h2] at h1;exact h1
   |o f=>rw [h2] at h1;exact f.st _ _ _ h1 h.below
  ·rw [e];exact hf,vC B (fun x hx=>by simpa using pL.1 hB x hx) h.bx,⟨[],Marks.nil _ _⟩, .inr fun _ hh=>hh⟩
theorem StS.val (h:StS S w0 K B n ds a w) {t:Nat} {v:Wc} (hm:(t,KF.u (UF.eq v))∈K):a.tmps.getD t undef=v:=h.sl _ hm
theorem StS.back (h0:StS S w0 K0 B0 n0 ds0 a0 w1) (h:St w1 K B n [] a w) (hu:(K.all fun q=>zSE q.2)=true):StS S w0 K B n [] a w:=
 ⟨h0.gr.trans h.below,h.size,h.nd,fun q hq=>by
  have h1:=h.sl q hq
  obtain ⟨f,e⟩:=qX hu q hq
  rw [e] at h1 ⊢
  exact h1,by
  have: ∀B:List Bx,yH noS w1 a w B->yH S w0 a w B:=fun B=>by
   induction B with
   |nil=>exact fun _=>trivial
   |cons x B ih=>
    intro ⟨⟨cs,h1,h2,h3⟩,h4⟩
    exact ⟨⟨cs,h1,h2.imp id fun h=> .inl (by rcases h with h|h;exact pT h0.gr.size h;exact h.elim),h3⟩,ih h4⟩
  exact this B h.bx,⟨[],Marks.nil _ _⟩, .inl (qX hu)⟩
theorem StS.resN (h:St w1 K B n [] a w) (hb:Below w0.heap.size w0 w1) {fn:Func} {f:SF} {t:Nat} (hr:fn.results=#[.tmp t]) (hd:f.p (a.tmps.getD t undef) w):bodyPost P fn (Ret w0 f) .ret a w:=by
 refine ⟨h.nd,_, ?_,⟨_,rfl,hd,hb.trans (h.below.mono hb.size)⟩⟩
 simp [results,hr]
theorem wS (h:St w1 K B n [] a w) (hb:Below w0.heap.size w0 w1) {fn:Func} {f:SF} {t:Nat} (hr:fn.results=#[.tmp t]) (hd: ∀v W,(j5 K B t).p v W->f.p v W):bodyPost P fn (Ret w0 f) .ret a w:=
 h.resN hb hr (hd _ _ (h.at.sl t))
def wL (W:Wb) (e:We) (z:Nat) (Cs:List CU):SF:=⟨fun v w=>zBJ w W.heap.size e z v Cs,fun _ _ _ h hb=>h.below hb⟩
theorem zBM {W:Wb} {e:We} {z:Nat} {Cs:List CU} (v:Wc) (w:Wb) (h:(wL W e z Cs).p v w):(SF.row z Cs).p v w:=zBJ.row h
theorem zKh {ops:Array Oper} {k d:Nat} {x y:Wg} {t ty:We} {pos:String} {aft:Array Edge} {e:We} {z base:Nat} {v:Wc} {Cs:List CU} (Ds:List CU) (h0:StS S w0 K0 B0 n0 ds0 a0 w1) (h:St w1 K B n [] a w) (hb0:w0.heap.size<=base) (hr:base<=w1.heap.size/\zBJ w1 base e z v Cs)
  (ho:ops[k]?=some ⟨some d, .call ⟨.builtin .append,#[x,y],#[t,t]⟩,ty,pos,aft,none⟩) (happ:zIl P t=some (e,z,true)) (hf:zAR K B n d=true) (hu:(K.all fun q=>zSE q.2)=true)
  (hx:a.eval x=v) (hy:(SF.row z Ds).p (a.eval y) w) (hD: ∀C,C∈Ds->CU.ok z C) (hsz:Cs.length+Ds.length<=140000000000) (hB: ∀q,q∈B->q.r=true->q.b<base)
  (fin: ∀v' a' w',(base<=w'.heap.size/\zBJ w' base e z v' (Cs++Ds))->StS S w0 ((d, .u (UF.eq v'))::K) B n [] a' w'->zBY F m P ops Q (k+1) a' w'):zBY F m P ops Q k a w:=by
 have hb1:=h.below
 have hr':zBJ w base e z v Cs:=hr.2.below hb1
 obtain ⟨v',w',hrun,g1,g2,_⟩:=zKA (P:=P) (ty:=ty) happ hr' hy hD hsz (pT hr.1 hb1.size)
 have hrun2:(execOp a.eval ⟨some d, .call ⟨.builtin .append,#[x,y],#[t,t]⟩,ty,pos,aft,none⟩).run P w= .ok (.value v') w':=by
  simp only [execOp,resolve,invoke,builtin,rL,rZ,sH,tA,rC,sA,hx,hrun]
 refine zBG ho rfl ⟨fun f hf=>(by
  unfold Oper.about at hf
  simp [resolve,go_sem] at hf), ?_⟩
 rw [rA _ _ _ (fun _ e=>by cases e),hrun2]
 have hk:jH w w':=hr'.keepU g2
 have hlt:=hr.2.lt
 have s0:=h0.back h hu
 have s1:StS S w0 K B n [] a w':=by
  refine ⟨?_,s0.size,s0.nd,fun q hq=>KF.us (s0.sl q hq) hk, ?_,⟨[],Marks.nil _ _⟩,s0.so⟩
  ·cases hv:v.ownBlock with
   |none=>
    refine ⟨g2.os.trans s0.gr.os,g2.tape.trans s0.gr.tape,g2.output.trans s0.gr.output,pT s0.gr.size g2.size,fun k hk1 hk2=> ?_⟩
    exact (g2.block k (rF hk1 s0.gr.size) (by rw [hv];simp)).trans (s0.gr.block k hk1 hk2)
   |some g=>exact s0.gr.grown (by rw [hv] at g2;exact g2) (.inl (pT hb0 (hlt g hv).1))
  ·refine wQ hk B (fun q hq=> ?_) s0.bx
   obtain ⟨_,_,hc,h3,_⟩:=h.bx.mem q hq
   refine g2.block _ (pP.1 h3).1 fun e=> ?_
   have h4:=hlt _ e.symm
   rcases hc with hc|hc|hc
   ·have:=hB q hq hc;omega
   ·omega
   ·exact hc
 exact fin v' _ w' ⟨pT (pT hr.1 hb1.size) g2.size,g1⟩ (s1.set hf (pS _ _) rfl)
theorem zFy {σ:Type} {c:Code} (I:σ->Wb->Prop) (Kf:σ->List (Nat×KF)) (mu:σ->Nat) (x0:σ) (hI:I x0 w) (h0:StS S w0 (Kf x0) B n ds a w)
  (round: ∀x a w,I x w->StS S w0 (Kf x) B n ds a w->c.wpIn F m P (Exit.then (fun a' w'=> ∃y,mu y<mu x/\I y w'/\StS S w0 (Kf y) B n ds a' w') Q) a w):(Code.loop c).wpIn F m P Q a w:=
 zCC (fun x a w=>I x w/\StS S w0 (Kf x) B n ds a w) mu x0 ⟨hI,h0⟩ fun x a w h=>round x a w h.1 h.2
end
def SF.fn (P:Wh) (T:Array Wc->Wb->SF->Prop):SF:=⟨fun v W=> ∃f caps,v= .func (.func f) #[] caps/\Enters P f/\ ∀W',Below W.heap.size W W'-> ∀args R,T args W' R->Calls P f (args++caps) W' (Ret W' R),fun _ _ _ ⟨f,caps,h1,h2,h3⟩ hb=>⟨f,caps,h1,h2,fun W' hb'=>h3 W' (hb.trans (hb'.mono hb.size))⟩⟩
section
variable {F:Fence} {m:Nat} {P:Wh} {w0:Wb} {ops:Array Oper} {G:Nat->SF} {d:Tmp} {ty:We} {pos:String} {aft:Array Edge}
theorem zLh {y:Wg} {xs:Array Wg} {ats:Array We} (T:Array Wc->Wb->SF->Prop) (hF:zGo F m P) (hy: ∀v W,Below w0.heap.size w0 W->(fct G y).p v W->(SF.fn P T).p v W)
  (h: ∀(b:Act) (W:Wb),Below w0.heap.size w0 W->(∀x,x∈xs.toList->(fct G x).p (b.eval x) W)->T (xs.map b.eval) W (G d)):
  qG F m P w0 ops G ⟨some d, .call ⟨.value y,xs,ats⟩,ty,pos,aft,none⟩:=by
 intro b W K Q hb hr hK
 have hin: ∀x,x∈(Op.call ⟨.value y,xs,ats⟩).operands.toList->(fct G x).p (b.eval x) W:=fun x hx=>yY hr hx
 obtain ⟨f,caps,e1,he,hc⟩:=hy _ _ hb (hin y (by simp [Op.operands,Call.operands]))
 have h1:=h b W hb fun x hx=>hin x (by simp [Op.operands,Call.operands];right;simpa using hx)
 refine ⟨fun g _=>hF.1 g, ?_⟩
 have hrun:(execOp b.eval ⟨some d, .call ⟨.value y,xs,ats⟩,ty,pos,aft,none⟩).run P W= .ok (.enter f (xs.map b.eval++caps)) W:=by
  simp only [execOp,resolve,e1,Deferred.ofValue,rL,rZ,sH,invoke]
  rw [show (#[]:Array Wc)++xs.map b.eval=xs.map b.eval by simp]
  exact he _ _
 rw [rA _ _ _ (fun _ e=>by cases e),hrun]
 simp only [Oper.uponIn_enter]
 refine ⟨hF.2.1,CallsIn.mono (hF.2.2 _ _ _ (Ret W (G d)) (hc W (pS _ _) _ _ h1)) fun e W' he=> ?_⟩
 obtain ⟨v,rfl,hv,hb'⟩:=he
 exact hK v W' (fun d' e=>by cases e;exact hv) hb'
theorem zLi {y:Wg} {xs:Array Wg} {ats:Array We} (T:Array Wc->Wb->SF->Prop) (hF:zGo F m P) (hy: ∀v W,(fct G y).p v W->(SF.fn P T).p v W)
  (h: ∀(b:Act) (W:Wb),Below w0.heap.size w0 W->(∀x,x∈xs.toList->(fct G x).p (b.eval x) W)->T (xs.map b.eval) W (G d)):
  qG F m P w0 ops G ⟨some d, .call ⟨.value y,xs,ats⟩,ty,pos,aft,none⟩:=zLh T hF (fun v W _ h=>hy v W h) h
theorem zOS {y x:Wg} {ats:Array We} (T:Array Wc->Wb->SF->Prop) (hF:zGo F m P) (hy: ∀v W,(fct G y).p v W->(SF.fn P T).p v W) (h: ∀u W,Below w0.heap.size w0 W->(fct G x).p u W->T #[u] W (G d)):qG F m P w0 ops G ⟨some d, .call ⟨.value y,#[x],ats⟩,ty,pos,aft,none⟩:=
 zLi T hF hy fun b W hb hh=>by simpa using h _ W hb (hh x fK)
theorem zLj {y x x':Wg} {ats:Array We} (T:Array Wc->Wb->SF->Prop) (hF:zGo F m P) (hy: ∀v W,(fct G y).p v W->(SF.fn P T).p v W) (h: ∀u v W,Below w0.heap.size w0 W->(fct G x).p u W->(fct G x').p v W->T #[u,v] W (G d)):qG F m P w0 ops G ⟨some d, .call ⟨.value y,#[x,x'],ats⟩,ty,pos,aft,none⟩:=
 zLi T hF hy fun b W hb hh=>by simpa using h _ _ W hb (hh x fK) (hh x' fK)
end
def zPe (f:UF):Prop:= ∀v W,f.p v W-> ∃s A n c A' n' c',v= .agg #[.bool s, .slice A n c, .slice A' n' c']
theorem zA7 (q:Rat):zPe (fQN q):=fun _ _ h=>by
 obtain ⟨A,n,c,A',n',c',e⟩:=zB6 h
 exact ⟨_,A,n,c,A',n',c',e⟩
theorem zFH (m:Nat) (q:Rat):zPe (fRV m q):=fun _ _ ⟨_,_,h,_⟩=>zB5 h
def PTp (f g:UF) (v:Wc) (w:Wb):Prop:= ∃s A n c A' n' c' s2 B k d B' k' d',v= .agg #[.bool s, .slice A n c, .slice A' n' c', .bool s2, .slice B k d, .slice B' k' d']/\f.p (.agg #[.bool s, .slice A n c, .slice A' n' c']) w/\g.p (.agg #[.bool s2, .slice B k d, .slice B' k' d']) w
def fPT (f g:UF):UF:= .mk' (PTp f g) fun _ _ _ ⟨s,A,n,c,A',n',c',s2,B,k,d,B',k',d',e,h1,h2⟩ u=>⟨s,A,n,c,A',n',c',s2,B,k,d,B',k',d',e,f.us _ _ _ h1 u,g.us _ _ _ h2 u⟩
abbrev fPN (p:V2):UF:=fPT (fQN p.1) (fQN p.2)
abbrev fPV (m:Nat) (p:V2):UF:=fPT (fRV m p.1) (fRV m p.2)
theorem zDt {cs:List Wc} {a b c d e f:Wc} (h:Value.agg cs.toArray= .agg #[a,b,c,d,e,f]):cs= [a,b,c,d,e,f]:=by
 have:=rJ Array.toList (jG h)
 simpa using this
theorem z4 (f g:UF): ∀cs:List Wc, ∀W,(fPT f g).p (.agg cs.toArray) W->cs.length=6:=fun cs W ⟨_,_,_,_,_,_,_,_,_,_,_,_,_,_,e,_⟩=>by rw [zDt e];rfl
theorem zHq {f g:UF} (cs:List Wc) (W:Wb) (h:(CU.agg (fPT f g)).p cs W):0+3<=cs.length/\f.p (.agg ((cs.drop 0).take 3).toArray) W:=by
 obtain ⟨_,_,_,_,_,_,_,_,_,_,_,_,_,_,e,h1,_⟩:=h
 rw [zDt e]
 exact ⟨by simp,h1⟩
theorem zHp {f g:UF} (cs:List Wc) (W:Wb) (h:(CU.agg (fPT f g)).p cs W):3+3<=cs.length/\g.p (.agg ((cs.drop 3).take 3).toArray) W:=by
 obtain ⟨_,_,_,_,_,_,_,_,_,_,_,_,_,_,e,_,h1⟩:=h
 rw [zDt e]
 exact ⟨by simp,h1⟩
theorem zNu {f g:UF} (cs:List Wc) (W:Wb) (h:(CU.agg (fPT f g)).p cs W):0+6<=cs.length/\(fPT f g).p (.agg ((cs.drop 0).take 6).toArray) W:=by
 obtain ⟨s,A,n,c,A',n',c',s2,B,k,d,B',k',d',e,h1,h2⟩:=h
 rw [zDt e]
 exact ⟨by simp,s,A,n,c,A',n',c',s2,B,k,d,B',k',d',rfl,h1,h2⟩
theorem q8 {f g:UF} {v:Wc} {W:Wb} (h:(fPT f g).p v W):(CU.agg (fPT f g)).p v.cells.toList W/\v.cells.toList.all zU=true:=by
 obtain ⟨s,A,n,c,A',n',c',s2,B,k,d,B',k',d',rfl,h1,h2⟩:=h
 exact ⟨⟨s,A,n,c,A',n',c',s2,B,k,d,B',k',d',rfl,h1,h2⟩,rfl⟩
theorem zKp {s s2:Bool} {A A' B B':Wf Addr} {n c n' c' k d k' d':Nat} (u:Wc) (hu:u∈ [Value.bool s, .slice A n c, .slice A' n' c', .bool s2, .slice B k d, .slice B' k' d']):u.oneCell'=true:=by
 simp only [pZ,List.not_mem_nil,or_false] at hu
 rcases hu with rfl|rfl|rfl|rfl|rfl|rfl<;>rfl
theorem qZ {f g:UF} (v:Wc) (W:Wb) (h:(fPT f g).p v W): ∃vs:List Wc,v= .agg vs.toArray/\vs.length=6/\(∀u,u∈vs->u.oneCell'=true)/\vs.all zU=true/\(CU.agg (fPT f g)).p vs W:=by
 obtain ⟨s,A,n,c,A',n',c',s2,B,k,d,B',k',d',rfl,h1,h2⟩:=h
 exact ⟨_,rfl,rfl,zKp,rfl,s,A,n,c,A',n',c',s2,B,k,d,B',k',d',rfl,h1,h2⟩
theorem zB7 (f g:UF):CU.ok 6 (CU.agg (fPT f g)):=fun cs W ⟨s,A,n,c,A',n',c',s2,B,k,d,B',k',d',e,_⟩=>by
 rw [zDt e]
 exact ⟨rfl,rfl,zKp⟩
theorem zHP {f g f' g':UF} (hf: ∀v W,f.p v W->f'.p v W) (hg: ∀v W,g.p v W->g'.p v W) {v:Wc} {W:Wb} (h:(fPT f g).p v W):(fPT f' g').p v W:=by
 obtain ⟨s,A,n,c,A',n',c',s2,B,k,d,B',k',d',e,h1,h2⟩:=h
 exact ⟨s,A,n,c,A',n',c',s2,B,k,d,B',k',d',e,hf _ _ h1,hg _ _ h2⟩
theorem zCH {p:V2} {m:Nat} (h1:QB p.1 m) (h2:QB p.2 m) {v:Wc} {W:Wb} (h:(fPN p).p v W):(fPV m p).p v W:=zHP (fun _ _ h=>wG h h1) (fun _ _ h=>wG h h2) h
theorem jD {p:V2} {m m':Nat} (hm:m<=m') {v:Wc} {W:Wb} (h:(fPV m p).p v W):(fPV m' p).p v W:=zHP (fun _ _ h=>RVp.mono h hm) (fun _ _ h=>RVp.mono h hm) h
theorem bPt (s:Bool) (A A':Wf Addr) (n n' c c':Nat) (s2:Bool) (B B':Wf Addr) (k k' d d':Nat):prog.built 31 [(0, .agg #[.bool s, .slice A n c, .slice A' n' c']),(1, .agg #[.bool s2, .slice B k d, .slice B' k' d'])]=some #[.bool s, .slice A n c, .slice A' n' c', .bool s2, .slice B k d, .slice B' k' d']:=by kernel_rfl
theorem zTU {f g:UF} {u v:Wc} {W:Wb} (hf:zPe f) (hg:zPe g) (hu:f.p u W) (hv:g.p v W): ∃cells,prog.built 31 [(0,u),(1,v)]=some cells/\(fPT f g).p (.agg cells) W:=by
 obtain ⟨s,A,n,c,A',n',c',rfl⟩:=hf _ _ hu
 obtain ⟨s2,B,k,d,B',k',d',rfl⟩:=hg _ _ hv
 exact ⟨_,bPt _ _ _ _ _ _ _ _ _ _ _ _ _ _,s,A,n,c,A',n',c',s2,B,k,d,B',k',d',rfl,hu,hv⟩
abbrev pns (ps:List V2):List CU:=ps.map fun p=>CU.agg (fPN p)
abbrev pvs (m:Nat) (ps:List V2):List CU:=ps.map fun p=>CU.agg (fPV m p)
theorem zP7 {ps:List V2} {i:Nat} (h:i<ps.length):(pns ps)[i]?=some (CU.agg (fPN (at_ ps i))):=by
 unfold pns at_;rw [List.getElem?_map,tI,sI h];rfl
theorem jU {m:Nat} {ps:List V2} {i:Nat} (h:i<ps.length):(pvs m ps)[i]?=some (CU.agg (fPV m (at_ ps i))):=by
 unfold pvs at_;rw [List.getElem?_map,tI,sI h];rfl
theorem zEy {z:Nat} {Cs Ds:List CU} (hl:Cs.length=Ds.length) (h: ∀(i:Nat) (C D:CU),Cs[i]?=some C->Ds[i]?=some D-> ∀cs W,C.p cs W->D.p cs W) (v:Wc) (W:Wb) (hv:(SF.row z Cs).p v W):(SF.row z Ds).p v W:=by
 obtain ⟨A,c,e,h2,h3,h4,h5⟩:=hv
 rw [hl] at e h2
 refine ⟨A,c,e,h2,h3,h4,fun i D hD=> ?_⟩
 have hi:i<Cs.length:=by rw [hl];exact (rK.1 hD).1
 obtain ⟨b,o,cs,g1,g2,g3⟩:=h5 i _ (sI hi)
 exact ⟨b,o,cs,g1,g2,h i _ _ (sI hi) hD cs W g3⟩
theorem zHS {ps:List V2} {m:Nat} (hp: ∀p,p∈ps->QB p.1 m/\QB p.2 m) (v:Wc) (W:Wb) (hv:(SF.row 6 (pns ps)).p v W):(SF.row 6 (pvs m ps)).p v W:=
 zEy fK (fun i C D hC hD cs W h=>by
  have hi:i<ps.length:=by have:=(rK.1 hC).1;simpa using this
  rw [zP7 hi] at hC
  rw [jU hi] at hD
  cases hC;cases hD
  have:=hp _ (jO hi)
  exact zCH this.1 this.2 h) v W hv
section
variable {F:Fence} {m:Nat} {P:Wh} {w0:Wb} {ops:Array Oper} {G:Nat->SF} {d:Tmp} {ty:We} {pos:String} {aft:Array Edge}
theorem zLe {f:FuncId} {cs:Array Wg} (h: ∀(b:Act) (W:Wb),Below w0.heap.size w0 W->(∀x,x∈cs.toList->(fct G x).p (b.eval x) W)->(G d).p (.func (.func f) #[] (cs.map b.eval)) W):qG F m P w0 ops G ⟨some d, .makeFunc (.func f) #[] cs,ty,pos,aft,none⟩:=
 qH (fun _ e=>by cases e) (fun _ e=>by cases e) fun b W hb hh=>by
  have:=h b W hb fun x hx=>hh x (by simpa [Op.operands] using hx)
  exact ⟨_,by simp [execOp,Instr.makeFunc],this⟩
theorem zDe {f:FuncId} {x:Wg} (h: ∀u W,Below w0.heap.size w0 W->(fct G x).p u W->(G d).p (.func (.func f) #[] #[u]) W):qG F m P w0 ops G ⟨some d, .makeFunc (.func f) #[] #[x],ty,pos,aft,none⟩:=
 zLe fun b W hb hh=>by simpa using h _ W hb (hh x fK)
theorem zND {f:FuncId} {x y:Wg} (h: ∀u v W,Below w0.heap.size w0 W->(fct G x).p u W->(fct G y).p v W->(G d).p (.func (.func f) #[] #[u,v]) W):qG F m P w0 ops G ⟨some d, .makeFunc (.func f) #[] #[x,y],ty,pos,aft,none⟩:=
 zLe fun b W hb hh=>by simpa using h _ _ W hb (hh x fK) (hh y fK)
theorem yX {x y:Wg} {t:We} {z:Nat} {Cs:List CU} {i:Nat} {C:CU} (hz:zBE P t=some z) (hi:Cs[i]?=some C) (hx: ∀v W,Below w0.heap.size w0 W->(fct G x).p v W->(SF.row z Cs).p v W) (hy: ∀v W,(fct G y).p v W->v= .int .i64 (i:Int)) (hd: ∀v W,(wB C.cf).p v W->(G d).p v W:=by exact fun _ _ h=>h):qG F m P w0 ops G ⟨some d, .indexAddr t x y,ty,pos,aft,none⟩:=
 qH (fun _ e=>by cases e) (fun _ e=>by cases e) fun b W hb hh=>by
  obtain ⟨A,c,e,h2,h3,h4,h5⟩:=hx _ _ hb (hh x (by simp [Op.operands]))
  have e2:=hy _ _ (hh y (by simp [Op.operands]))
  obtain ⟨b',o,cs,rfl,h6,h7⟩:=h5 i C hi
  have hlt:i<Cs.length:=(rK.1 hi).1
  unfold zBE at hz
  split at hz<;>try cases hz
  rename_i e' hu
  cases hin:P.info? e' with
  |none=>rw [hin] at hz;cases hz
  |some ie=>
   rw [hin] at hz
   simp only [Option.map_some,sL] at hz
   have hel:P.elem t=e':=by simp [Program.elem,hu]
   refine ⟨.pointer (some ⟨b',o+i*z,none⟩), ?_,hd _ _ ⟨b',o+i*z,cs,rfl,h7,h6⟩⟩
   have hb1:(0:Int)<=(i:Int)/\(i:Int)<(Cs.length:Nat):=by omega
   simp only [execOp,e,e2]
   rw [rL,run_indexAt_slice _ _ _ _ _ _ _ (by rw [hel];exact hu),if_pos hb1,hel]
   simp [sizeOf,typeInfo,hin,hz,rP]
theorem yZ {x:Wg} {t:We} {z:Nat} {Cs:List CU} (ht:P.underlying t=some (.slice (P.elem t))) (hx: ∀v W,Below w0.heap.size w0 W->(fct G x).p v W->(SF.row z Cs).p v W) (hd: ∀W,(G d).p (.int .i64 (Cs.length:Nat)) W:=by exact fun _=>rfl):qG F m P w0 ops G ⟨some d, .call ⟨.builtin .len,#[x],#[t]⟩,ty,pos,aft,none⟩:=by
 intro b W K Q hb hr hK
 obtain ⟨A,c,e,_⟩:=hx _ _ hb (yY hr (x:=x) (by simp [Op.operands,Call.operands]))
 refine ⟨fun f hf=>(by
  unfold Oper.about at hf
  simp [resolve,go_sem] at hf), ?_⟩
 rw [rA _ _ _ (fun _ e=>by cases e)]
 have:(execOp b.eval ⟨some d, .call ⟨.builtin .len,#[x],#[t]⟩,ty,pos,aft,none⟩).run P W= .ok (.value (.int .i64 (Cs.length:Nat))) W:=by
  simp [execOp,resolve,invoke,builtin,e,run_len_slice _ _ _ _ _ _ ht,goInt]
 rw [this]
 exact hK _ _ (fun d' e'=>by cases e';exact hd _) (pS _ _)
theorem zFP {t:We} {x y:Wg} {t':We} (k:IntKind) (u v r:Int) (hx: ∀q W,(fct G x).p q W->q= .int k u) (hy: ∀q W,(fct G y).p q W->q= .int k v) (hv:v≠0) (hr:u.tmod v=r) (hd: ∀W,(G d).p (.int k r) W:=by exact fun _=>rfl):qG F m P w0 ops G ⟨some d, .binOp .rem t x y t',ty,pos,aft,none⟩:=
 zDg (.int k u) (.int k v) (.int k r) hx hy (fun W=>by simp [eqGuard]) (fun W=>by simp [binOp,Op.intDiv,hv,hr]) hd
end
section
variable {F:Fence} {m:Nat} {P:Wh} {ops:Array Oper} {Q:Exit->Act->Wb->Prop}
theorem zCP {S:Nat->Prop} {w0:Wb} {K:List (Nat×KF)} {B:List Bx} {n:Nat} {ds:List Deferred} {a:Act} {w:Wb} {id:Nat} (k:Nat) (L:List (Nat×Rw)) (h:StS S w0 K B n ds a w)
  (hchk:(zEh ops k n (L.map (·.1))&&zE4 ops k (K.map (·.1)++B.map (·.t))&&zAG (L.map (·.1)))=true)
  (hobs:Obs F m P w ops (upd (j5 K B) (zK L)) (ops.toList.take k))
  (hfin: ∀a w,StS S w0 (zBB L++K) B n ds a w->(∀q,q∈zK L->q.2.p (a.tmps.getD q.1 undef) w)->zBY F m P ops Q k a w):(Code.region id ops false).wpIn F m P Q a w:=by
 simp only [pR] at hchk
 obtain ⟨⟨hchk,hun⟩,hnd⟩:=hchk
 unfold zEh at hchk
 simp only [pR] at hchk
 obtain ⟨⟨⟨⟨⟨hap,hfr⟩,hpl⟩,hk⟩,hkeys⟩,hrd⟩:=hchk
 have hk:=sU hk
 have hks:(zK L).map (·.1)=L.map (·.1):=by simp [zK]
 have hsame: ∀t,t∈K.map (·.1)++B.map (·.t)-> ∀i,i<k->zS ops i≠some t:=fun t ht i hi he=>by
  have h2:=pL.1 (pL.1 hun t ht) i (pM.2 hi)
  rw [he] at h2
  simp at h2
 have hA:=h.at
 have hkn: ∀t,(∀j,j<k->zS ops j≠some t)->upd (j5 K B) (zK L) t=j5 K B t:=fun t ht=>by
  refine jK ?_
  cases hc:((zK L).map (·.1)).contains t with
  |false=>rfl
  |true=>
   exfalso
   have hm:=pX.1 hc
   rw [hks] at hm
   obtain ⟨i,hi,he⟩:=pW.1 (pL.1 hkeys t hm)
   exact ht i (pM.1 hi) (by simpa using he)
 refine wpIn_region ?_
 rw [List.range_eq_range']
 -- the table, the kept slots' values said
 let G1:Nat->SF:=fun t=>if t∈K.map (·.1)++B.map (·.t) then ⟨fun v W=>(upd (j5 K B) (zK L) t).p v W/\v=a.tmps.getD t undef,fun _ _ _ h hb=>⟨(upd (j5 K B) (zK L) t).st _ _ _ h.1 hb,h.2⟩⟩ else upd (j5 K B) (zK L) t
 have hle: ∀t v W,(G1 t).p v W->(upd (j5 K B) (zK L) t).p v W:=fun t v W hh=>by
  by_cases ht:t∈K.map (·.1)++B.map (·.t)
  ·simp only [G1,if_pos ht] at hh
   exact hh.1
  ·simp only [G1,if_neg ht] at hh
   exact hh
 have hge: ∀t,(∃i,i<k/\zS ops i=some t)->G1 t=upd (j5 K B) (zK L) t:=fun t ⟨i,hi,he⟩=>by
  simp only [G1]
  rw [if_neg fun ht=>hsame t ht i hi he]
 have hobs': ∀i o,i<k->ops[i]?=some o->qG F m P w ops G1 o:=fun i o hi ho=>by
  have hg:=hobs.get i o (by rw [tC hi];simpa using ho)
  have hop:zJX F m P w (upd (j5 K B) (zK L)) o->zJX F m P w G1 o:=fun h1 b W K' Q' hb hr hK'=>
   h1 b W K' Q' hb (fun t ht=>hle t _ _ (hr t ht)) fun v W' hv hb'=>hK' v W' (fun d hd=>by rw [hge d ⟨i,hi,by rw [qJ ho];exact hd⟩];exact hv d hd) hb'
  unfold qG at hg ⊢
  cases hgd:o.guard with
  |none=>rw [hgd] at hg;exact hop hg
  |some q=>
   rw [hgd] at hg
   obtain ⟨g,bv,h1,h2,h3,h4⟩:=hg
   exact ⟨g,bv,h1,fun v W hh=>h2 v W (hle g v W hh),fun e=>hop (h3 e),fun e=>⟨fun d hd W=>by rw [hge d ⟨i,hi,by rw [qJ ho];exact hd⟩];exact (h4 e).1 d hd W,(h4 e).2⟩⟩
 refine zFA (G:=G1) (k:=k) (n:=n) (a0:=a) (wA:=w) (w0:=w) hap hfr hk (fun i o hi ho t ht j hj=> ?_) (fun t ht=> ?_) hobs' (fun a' w' hb hs hd hh=> ?_) k 0 a w oN (pS _ _) (pS _ _) h.size rfl (fun t ⟨j,hj,_⟩=>absurd hj oN) (fun t _=>rfl)
 ·have h1:=pL.1 hrd i (pM.2 hi)
  rw [ho] at h1
  obtain ⟨oj,hoj,_⟩:=y4 hj
  have h2:=pL.1 (pL.1 h1 t ht) j (pM.2 (pP.1 hoj).1)
  rw [hj] at h2
  simpa using h2
 ·have h1:=hA.sl t
  rw [<-hkn t ht] at h1
  by_cases hm:t∈K.map (·.1)++B.map (·.t)
  ·simp only [G1,if_pos hm]
   exact ⟨h1,by first|rfl|trivial⟩
  ·simp only [G1,if_neg hm]
   exact h1
 ·have hslot: ∀t,t∈K.map (·.1)++B.map (·.t)->a'.tmps.getD t undef=a.tmps.getD t undef:=fun t ht=>by
   have h1:=hh t
   simp only [G1,if_pos ht] at h1
   exact h1.2
  have hrow: ∀q,q∈zK L->q.2.p (a'.tmps.getD q.1 undef) w':=fun q hm2=>by
   have h1:=hle q.1 _ _ (hh q.1)
   rwa [zBP (q:=q) (by rw [hks];exact hnd) hm2] at h1
  refine hfin a' w' ⟨h.gr.trans hb,hs,by rw [hd];exact h.nd,fun q hq=> ?_,h.bx.keep hb (zP hb) B fun x hx=>hslot _ (rV _ (pQ.2 ⟨x,hx,rfl⟩)),zAh h.mks hb,h.so.imp (fun hu q hq=>(by
   rcases rM.1 hq with hq|hq
   ·obtain ⟨f,e,_⟩:=jJ hq;exact ⟨f,e⟩
   ·exact hu q hq)) (fun x=>x)⟩ hrow
  rcases rM.1 hq with hq|hq
  ·obtain ⟨f,hqf,hm⟩:=jJ hq
   have hm2:((q.1,f.tS):Nat×SF)∈zK L:=pQ.2 ⟨_,hm,rfl⟩
   have h1:=hle q.1 _ _ (hh q.1)
   rw [zBP (q:=(q.1,f.tS)) (by rw [hks];exact hnd) hm2] at h1
   rw [hqf]
   exact h1
  ·rw [hslot q.1 (sN _ (pQ.2 ⟨q,hq,rfl⟩))]
   exact KF.us (h.sl q hq) (zP hb)
end
section
variable {S:Nat->Prop} {F:Fence} {m:Nat} {P:Wh} {ops:Array Oper} {Q:Exit->Act->Wb->Prop} {w0:Wb} {K:List (Nat×KF)} {B:List Bx} {n:Nat} {ds:List Deferred} {a:Act} {w:Wb}
theorem zDS {id:Nat} (K0:List (Nat×KF)) (pre:List Nat) (k:Nat) (L:List (Nat×Rw)) (hmix:P.follows .mixedOrders=true) (h:StS S w0 (K0++K) B n ds a w)
  (hchk:(zCE ops pre k n (L.map (·.1))&&zA5 ops (K.map (·.1)++B.map (·.t))&&zAG (L.map (·.1)))=true)
  (hobs:Obs F m P w ops (upd (j5 (K0++K) B) (zK L)) (ops.toList.take k))
  (hfin: ∀Q',(∀a w,Q .normal a w->Q' .normal a w)-> ∀a w,StS S w0 (zBB L++K) B n ds a w->(∀q,q∈zK L->q.2.p (a.tmps.getD q.1 undef) w)->zBY F m P ops Q' k a w):(Code.region id ops true).wpIn F m P Q a w:=by
 simp only [pR] at hchk
 have hkeys:(zK L).map (·.1)=L.map (·.1):=by simp [zK]
 have h0:=hchk.1.1
 unfold zCE at h0
 simp only [pR] at h0
 obtain ⟨⟨⟨⟨⟨⟨⟨⟨⟨⟨⟨⟨⟨⟨⟨hap,_⟩,_⟩,_⟩,_⟩,hks⟩,_⟩,_⟩,_⟩,_⟩,_⟩,_⟩,_⟩,_⟩,_⟩,_⟩:=h0
 exact zHB K0 k L h (fun G' hA hO hF=>zDR pre k (zK L) hmix (by rw [hkeys];exact hchk.1.1) hA hO hF) hap hks hchk.1.2 hchk.2 hobs (fun a w h hr=>hfin (qE Q) (fun a w h=>h) a w h hr)
end
theorem StS.toSt {S:Nat->Prop} {w0:Wb} {K:List (Nat×KF)} {B:List Bx} {n:Nat} {ds:List Deferred} {a:Act} {w:Wb} (h:StS S w0 K B n ds a w) (hS: ∀k, ¬S k) (hB:(B.all fun x=>x.r)=true):St w0 K B n ds a w:=
 ⟨⟨h.gr.os,h.gr.tape,h.gr.output,h.gr.size,fun k hk _=>h.gr.block k hk (hS k)⟩,h.size,h.nd,h.sl,vC B (fun x hx=>by simpa using pL.1 hB x hx) h.bx,h.mks, .inr fun _ hh=>hh⟩
section
variable {S:Nat->Prop} {w0:Wb} {K:List (Nat×KF)} {B:List Bx} {n:Nat} {ds:List Deferred} {a:Act} {w:Wb}
theorem zFm {c:Nat} {C:CU}: ∀(B:List Bx),(∀x,x∈B->x.t=c-> ∀cs W,x.c.p cs W->C.p cs W)->yH S w0 a w B->yH S w0 a w (zDW B c C)
 | [],_,_=>trivial
 | x::B,hw,h=>by
  obtain ⟨⟨cs,h1,h2,h3,h4,h5,h6⟩,hr⟩:=h
  unfold zDW
  cases e:Nat.beq x.t c with
  |true=>exact ⟨⟨cs,h1,h2,h3,hw x (rX ..) (rQ e) cs w h4,h5,h6⟩,hr⟩
  |false=>
   refine ⟨⟨cs,h1,h2,h3,h4,h5,fun y hy=> ?_⟩,zFm B (fun y hy=>hw y (rY _ hy)) hr⟩
   have:(y.b,y.r)∈(zDW B c C).map (fun x=>(x.b,x.r)):=pQ.2 ⟨y,hy,rfl⟩
   rw [zKt] at this
   obtain ⟨z,hz,ez⟩:=pQ.1 this
   simp only [rW] at ez
   have:=h6 z hz
   rw [ez.1,ez.2] at this
   exact this
theorem StS.weakB (h:StS S w0 K B n ds a w) (c:Nat) (C:CU) {z:Bx} (hB:zCY B c=some z) (hu:(B.map (·.t)).Nodup) (hi: ∀cs W,z.c.p cs W->C.p cs W):StS S w0 K (zDW B c C) n ds a w:=
 ⟨h.gr,h.size,h.nd,h.sl,zFm B (fun x hx e=>by
  obtain ⟨hz,hzc⟩:=qT hB
  have:x=z:=by
   have hinj: ∀(B:List Bx),(B.map (·.t)).Nodup->x∈B->z∈B->x.t=z.t->x=z:=by
    intro B
    induction B with
    |nil=>intro _ h1;cases h1
    | cons y B ih=>
     intro hn h1 h2 e
     rw [rC,sR] at hn
     rcases pZ.1 h1 with h3|h3
     ·rcases pZ.1 h2 with h4|h4
      ·rw [h3,h4]
      ·exact absurd (pQ.2 ⟨z,h4,by rw [<-e,h3]⟩) hn.1
     ·rcases pZ.1 h2 with h4|h4
      ·exact absurd (pQ.2 ⟨x,h3,by rw [e,h4]⟩) hn.1
      ·exact ih hn.2 h3 h4 e
   exact hinj B hu hx hz (e.trans hzc.symm)
  rw [this]
  exact hi) h.bx,h.mks,h.so⟩
end
theorem zFj {P:Wh} {T:Array Wc->Wb->SF->Prop} {f:FuncId} {caps:Array Wc} {W:Wb} (he:Enters P f) (h: ∀W',Below W.heap.size W W'-> ∀args R,T args W' R->Calls P f (args++caps) W' (Ret W' R)):(SF.fn P T).p (.func (.func f) #[] caps) W:=⟨f,caps,rfl,he,h⟩
end Go.Proofs.Wd

namespace Go.Proofs.Wd
open Tryz
set_option maxRecDepth 100000
open Go.RowKit Lb
def zT8 (a b:Nat) (w:Wb) (x y:Wc) (w':Wb):Prop:= ∃p q:Nat,x= .int .u64 p/\y= .int .u64 q/\Nat.gcd p q=Nat.gcd a b/\p<18446744073709551616/\q<18446744073709551616/\Below w.heap.size w w'
theorem zKN {W:Wb} {u v:Wc} (a b:Nat) (hu:u= .int .u64 (a:Int)) (hv:v= .int .u64 (b:Int)) (ha:a<18446744073709551616) (hb:b<18446744073709551616):Calls prog 77 #[u,v] W (Ret W (UF.eq (.int .u64 ((Nat.gcd a b:Nat):Int))).tS):=by
 subst hu
 subst hv
 have hmix:prog.follows .mixedOrders=true:=by kernel_rfl
 go_enter func77,ntmps77
 go_wp2
 go_loopw [0,1] (zT8 a b W) (fun _ y _=>(intOf y).toNat)
 case atStart=>exact ⟨a,b,rfl,rfl,rfl,ha,hb,pS _ _⟩
 case round=>
  obtain ⟨p,q,rfl,rfl,hg,hp,hq,hB⟩:=hrel
  have HG:=hid hg
  clear hg
  by_cases h0:0<q
  ·have hq0:(q:Int)≠0:=by omega
   have hmod:(p:Int).tmod (q:Int)=((p % q:Nat):Int):=by rw [Int.tmod_eq_emod_of_nonneg oN,Int.natCast_emod]
   have hlt:p % q<q:=Nat.mod_lt _ h0
   obtain ⟨r,hr⟩: ∃r,p % q=r:=⟨_,rfl⟩
   rw [hr] at hmod hlt
   have HR:=hid hr
   clear hr
   go_wp2
   refine (wpIn_wide (n:=0)).1 ?_
   refine z7 100 (fun _=>True) hmix ?_
   refine zO (i:=0) (v:= ?vv1) kG kG rfl kG kG kG (fun _ _ _ h=>h) trivial ⟨.inl ⟨rfl, ?yy1⟩,fun _=>rfl⟩ ?_
   case yy1=>
    rintro wx _
    go_simp
    first|done|rfl
   refine zO (i:=1) (v:= ?vv2) kG kG rfl kG kG kG (fun _ _ _ h=>h) trivial ⟨.inl ⟨rfl, ?yy2⟩,fun _=>rfl⟩ ?_
   case yy2=>
    rintro wx _
    go_simp
    first|done|rfl
   refine zO (i:=2) (v:= ?vv3) kG kG rfl kG kG kG (fun _ _ _ h=>h) trivial ⟨.inl ⟨rfl, ?yy3⟩,fun _=>rfl⟩ ?_
   case yy3=>
    rintro wx _
    go_simp
    first|done|rfl
   refine zO (i:=3) (v:= .int .u64 (r:Nat)) kG kG rfl kG kG kG (fun _ _ _ h=>h) trivial ⟨.inl ⟨rfl, ?y3⟩,fun _=>rfl⟩ ?_
   case y3=>
    rintro wx _
    go_simp
    omega
   refine zAs (i:=4) kG rfl (fun K hK=> ?_)
   go_simp
   refine hK _ _ (.inr trivial) ?_
   clear hK K
   refine zAs (i:=5) kG rfl (fun K hK=> ?_)
   go_simp
   refine hK _ _ (.inr trivial) ?_
   clear hK K
   refine zBX kG ?_
   go_wp2
   go_roundw
   case rel=>exact ⟨q,r,rfl,by go_num,by rw [<-HG.out, <-HR.out,Nat.gcd_comm p q,Nat.gcd_rec q p,Nat.gcd_comm],hq,by omega,hB.drew⟩
   case measure=>simp [intOf];omega
  ·obtain rfl:q=0:=by omega
   go_wp2
   go_ret
   have:=HG.out
   rw [Nat.gcd_zero_right] at this
   subst this
   exact ⟨_,rfl,rfl,hB⟩
section
variable {F:Fence} {n:Nat} {P:Wh} {ops:Array Oper} {Q:Exit->Act->Wb->Prop}
def zOr (P:Wh) (w0:Wb) (ops:Array Oper) (G:Nat->SF) (o:Oper):Prop:=
 ∀(b:Act) (W:Wb),Below w0.heap.size w0 W->(∀t,t∈looks ops o->(G t).p (b.tmps.getD t undef) W)-> ∃v,zAc P ops (fun W'=>Below w0.heap.size w0 W') o v b
theorem zJp {CW:Wb->Prop} {i:Nat} {o:Oper} {v:Wc} {a:Act} {w:Wb} {K:Act->Wb->Prop} (ho:ops[i]?=some o) (hpl:jQ ops=true) (hy:zAc P ops CW o v a) (hw:CW w) (h:wpOpIn F n P ops Q i K a w):K (a.put o.dst v) w:=by
 unfold wpOpIn at h
 simp only [ho] at h
 rcases hy.1 with ⟨hw',hv⟩|⟨hw',rfl⟩
 ·simp only [hw',if_true,Oper.wpIn,rA _ _ _ (zBS hpl ho),hv w hw,Oper.uponIn] at h
  exact h.2
 ·simp only [hw',Bool.false_eq_true,if_false] at h
  exact h.2
variable {listed0:Array Bool} {A:Nat->Bool} {E:Nat->Wc->Wb->Prop} {C:Wb->Prop} {a0:Act}
end
section
variable {S:Nat->Prop} {w0:Wb} {K:List (Nat×KF)} {B:List Bx} {n:Nat} {ds:List Deferred} {a:Act} {w:Wb} {F:Fence} {m:Nat} {P:Wh} {ops:Array Oper} {Q:Exit->Act->Wb->Prop}
end
section
variable {w0:Wb} {P:Wh} {ops:Array Oper} {G:Nat->SF} {d:Tmp} {ty:We} {pos:String} {aft:Array Edge}
theorem zL0 {op:Op} (hc: ∀c,op≠ .call c) (h: ∀(b:Act) (W:Wb),Below w0.heap.size w0 W->(∀x,x∈op.operands.toList->(fct G x).p (b.eval x) W)-> ∃v, ∀W',Below w0.heap.size w0 W'->(execOp b.eval ⟨some d,op,ty,pos,aft,none⟩).run P W'= .ok (.value v) W'):zOr P w0 ops G ⟨some d,op,ty,pos,aft,none⟩:=by
 intro b W hb hr
 obtain ⟨v,hv⟩:=h b W hb fun x hx=>yY (fun t ht=>hr t (by unfold looks;simpa using ht)) hx
 refine ⟨v, .inl ⟨rfl,hv⟩,fun w=> ?_⟩
 unfold Oper.about
 split
 ·rename_i c hcc;exact absurd hcc (hc c)
 ·rfl
theorem zL1 {x:Wg}:zOr P w0 ops G ⟨some d, .move x,ty,pos,aft,none⟩:=zL0 (fun _ e=>by cases e) fun b _ _ _=>⟨b.eval x,fun _ _=>rfl⟩
section
variable {l:Wc} {x y:Wg} {t:We} {z:Nat} {Cs:List CU} {i:Nat} {C:CU}
end
end
section
variable {S:Nat->Prop} {w0:Wb} {K:List (Nat×KF)} {B:List Bx} {n:Nat} {ds:List Deferred} {a:Act} {w:Wb} {F:Fence} {m:Nat} {P:Wh} {ops:Array Oper} {Q:Exit->Act->Wb->Prop}
end
def inL:List Nat->Nat->Bool
 | [],_=>false
 |k::l,i=>bif Nat.beq k i then true else inL l i
theorem zF4 (l m:List Nat) (i:Nat):inL (l++m) i=(inL l i||inL m i):=by
 induction l with
 |nil=>rfl
 |cons k l ih=>
  show (bif Nat.beq k i then true else inL (l++m) i)=((bif Nat.beq k i then true else inL l i)||inL m i)
  cases Nat.beq k i with
  |true=>rfl
  |false=>exact ih
theorem zQo {l:List Nat} {i:Nat} (h:inL l i=true):i∈l:=by
 induction l with
 |nil=>cases h
 |cons k l ih=>
  have h:(bif Nat.beq k i then true else inL l i)=true:=h
  cases e:Nat.beq k i with
  |true=>rw [rQ e];exact rX ..
  |false=>rw [e] at h;exact rY _ (ih h)
def lst (n:Nat) (D:List Nat):Array Bool:=((List.range n).map (inL D)).toArray
theorem zEc (n:Nat) (D:List Nat):(lst n D).size=n:=by simp [lst]
theorem zA9 {n i:Nat} {D:List Nat} {d:Bool} (h:i<n):(lst n D).getD i d=inL D i:=by simp [lst,h]
theorem zQh {n i:Nat} {D:List Nat} {d:Bool} (h:n<=i):(lst n D).getD i d=d:=by
 rw [pU,rB (by rw [zEc];exact h)]
 rfl
theorem zDU {n i:Nat} {D:List Nat} (h:(lst n D).getD i true=false):i<n/\inL D i=false:=by
 rcases pY i n with g|g
 ·rw [zA9 g] at h;exact ⟨g,h⟩
 ·rw [zQh g] at h;cases h
theorem zG1 {l:Array Bool} {n:Nat} {D:List Nat} (hs:l.size=n) (h: ∀i,i<n->l.getD i false=inL D i):l=lst n D:=by
 refine Array.ext (by rw [hs,zEc]) fun i h1 h2=> ?_
 have:=h i oN
 rw [pU,rG h1] at this
 have e:l[i]=inL D i:=this
 rw [e]
 simp [lst]
theorem zLz {n i:Nat} {D:List Nat} (hi:i<n):(lst n D).setIfInBounds i true=lst n (i::D):=by
 refine zG1 (by simp [lst]) fun j hj=> ?_
 show _=(bif Nat.beq i j then true else inL D j)
 by_cases e:i=j
 ·subst e
  rw [pU,Array.getElem?_setIfInBounds_self_of_lt (by rw [zEc];exact hi),Nat.beq_refl]
  rfl
 ·rw [pN false e,zA9 hj]
  cases h:Nat.beq i j with
  |true=>exact absurd (rQ h) e
  |false=>rfl
def zRd (ops:Array Oper) (D fl D':List Nat):Bool:=(List.range ops.size).all fun j=>inL D' j||(List.range ops.size).all fun i=> !inL D' i||inL fl i||inL D i||zCm ops ops.size i j
section
variable {F:Fence} {n:Nat} {P:Wh} {ops:Array Oper} {Q:Exit->Act->Wb->Prop}
variable {A:Nat->Bool} {E:Nat->Wc->Wb->Prop} {C:Wb->Prop} {a0:Act}
theorem zTa {D D':List Nat} {z:Nat} (fl:List Nat) (hpl:jQ ops=true) (hns:Region.noSelect ops=true) (hzs:ops.size<=z) (CW:Wb->Prop) (hCW: ∀w,C w->CW w) (hfree: ∀i,inL D i=false->inL D' i=true->inL fl i=true->Region.free .any ops (zBd ops i) i=true)
  (hfk: ∀i,inL D' i=true->inL fl i=true->(lst ops.size D).getD i true=false-> ∀o,ops[i]?=some o-> ∀a w,FlowB ops (lst ops.size D) A E C a0 (fun j=>(lst ops.size D).getD j true=false/\ ∃e∈o.after,Region.binds .any e=true/\e.on=j) a w-> ∃v,zAc P ops CW o v a)
  (hear:zA4 ops=true) (htl:zRd ops D fl D'=true) (hap:q6 ops=true) (hfr:zAi ops a0.tmps.size=true) (hcl':zFn ops (lst ops.size D')) (hC: ∀w w',C w->Below w.heap.size w w'->C w') (hE: ∀i v w w',E i v w->Below w.heap.size w w'->E i v w')
  (hspec: ∀i,inL D' i=true->(lst ops.size D).getD i true=false-> ∀o,ops[i]?=some o-> ∀a w,FlowB ops (lst ops.size D) A E C a0 (fun j=>(lst ops.size D).getD j true=false/\ ∃e∈o.after,Region.binds .any e=true/\e.on=j) a w-> ∀K:Act->Wb->Prop,(∀v w',E i v w'->Below w.heap.size w w'->(A i=true-> ∀b,blk v=some b->w.heap.size<=b/\b<w'.heap.size)->K (a.put o.dst v) w')->wpOpIn F n P ops (qE Q) i K a w)
  (hfin: ∀a w,FlowB ops (lst ops.size D) A E C a0 (fun i=>inL D' i=true/\(lst ops.size D).getD i true=false) a w->jB F n P .any ops z CW (qE Q) ((lst ops.size D').count false) (lst ops.size D') a w):
  ∀(fuel:Nat) (listed:Array Bool) (a:Act) (w:Wb),listed.count false=fuel->listed.size=ops.size->(∀i,i<ops.size->inL D' i=false->listed.getD i false=false)->zFn ops listed->(∀i,i<ops.size->inL D i=true->listed.getD i false=true)->
   FlowB ops (lst ops.size D) A E C a0 (fun i=>(lst ops.size D).getD i true=false/\listed.getD i false=true) a w->jB F n P .any ops z CW (qE Q) fuel listed a w:=by
 intro fuel
 induction fuel with
 | zero=>
  intro listed a w hc hs hlate hcl hsub hf
  have hno: ∀i,listed.getD i true=true:=fun i=>by
   cases hg:listed.getD i true with
   |true=>rfl
   |false=>have:=jN hg;omega
  have hall: ∀i,i<ops.size->listed.getD i false=true:=fun i hi=>by
   have h1:=hno i
   have hlt:i<listed.size:=by omega
   simp [hlt] at h1 ⊢
   exact h1
  have hl:listed=lst ops.size D':=zG1 hs fun i hi=>by
   rw [hall i hi]
   cases h:inL D' i with
   |true=>rfl
   |false=>have:=hlate i hi h;rw [hall i hi] at this;cases this
  have:=hfin a w (hf.mono fun i hi=>⟨hi.2,hall i (zDU hi.2).1⟩)
  rw [<-hl,hc] at this
  exact this
 | succ fuel ih=>
  intro listed a w hc hs hlate hcl hsub hf
  by_cases hall: ∀i,i<ops.size->inL D' i=true->listed.getD i false=true
  ·have hl:listed=lst ops.size D':=zG1 hs fun i hi=>by
    cases h:inL D' i with
    |true=>exact hall i hi h
    |false=>exact hlate i hi h
   have:=hfin a w (hf.mono fun i hi=>⟨hi.2,hall i (zDU hi.2).1 hi.1⟩)
   rw [<-hl,hc] at this
   exact this
  ·simp only [sD] at hall
   obtain ⟨u0,hu0l,hu0p,hu0⟩:=hall
   obtain ⟨u,⟨hul,hup,hu⟩,hmin⟩:=zDm (p:=fun u=>u<ops.size/\inL D' u=true/\ ¬listed.getD u false=true) u0 ⟨hu0l,hu0p,hu0⟩
   have hlt:u<listed.size:=by omega
   have hu':listed.getD u true=false:=by
    simp [hlt] at hu ⊢
    exact hu
   have hl0u:(lst ops.size D).getD u true=false:=by
    rw [zA9 hul]
    cases hg:inL D u with
    |false=>rfl
    |true=>exact absurd (hsub u hul hg) hu
   have hsome: ∀i,listed.getD i true=false->Region.ready .any ops listed≠ []:=by
    intro i
    induction i using Nat.strongRecOn with
    | _ i ihi=>
     intro hi hnil
     have hlt:i<listed.size:=by
      rcases pY i listed.size with e|e
      ·exact e
      ·simp [rB e] at hi
     have ho:ops[i]?=some (ops[i]'(by rw [<-hs];exact hlt)):=rG _
     by_cases hall: ∀e∈(ops[i]'(by rw [<-hs];exact hlt)).after,Region.binds .any e=true->listed.getD e.on false=true
     ·have hm:i∈Region.ready .any ops listed:=rH.2 ⟨hi,_,ho,hall⟩
      rw [hnil] at hm
      cases hm
     ·simp only [sD] at hall
      obtain ⟨e,he,hb,hg⟩:=hall
      have hel:=zAS hear ho he hb
      refine ihi e.on hel ?_ hnil
      have hlt2:e.on<listed.size:=by omega
      simp [hlt2] at hg ⊢
      exact hg
   by_cases hfu:inL fl u=true
   ·have hou:ops[u]?=some ops[u]:=rG hul
    have hdone: ∀e∈ops[u].after,Region.binds .any e=true->listed.getD e.on false=true:=fun e he hb=>by
     have hel:=zAS hear hou he hb
     have hpe:inL D' e.on=true:=by
      have:=hcl' u _ (by rw [zA9 hul];exact hup) hou e he hb
      rwa [zA9 oN] at this
     exact tB fun hc=>hmin e.on hel ⟨by omega,hpe,hc⟩
    have hrd:(Region.ready .any ops listed).contains u=true:=pX.2 (rH.2 ⟨hu',_,hou,hdone⟩)
    have hfre:=hfree u (zDU hl0u).2 hup hfu
    obtain ⟨v0,hy⟩:=hfk u hup hfu hl0u _ hou a w (hf.mono fun j hj=>(by
     obtain ⟨hj0,e,he,hb,rfl⟩:=hj
     exact ⟨hj0,hdone e he hb⟩))
    have hw:=hspec u hup hl0u _ hou a w (hf.mono fun j hj=>(by
     obtain ⟨hj0,e,he,hb,rfl⟩:=hj
     exact ⟨hj0,hdone e he hb⟩)) (fun a' w'=> ∃v,a'=a.put ops[u].dst v/\E u v w'/\Below w.heap.size w w'/\(A u=true-> ∀b,blk v=some b->w.heap.size<=b/\b<w'.heap.size)) (fun v w' hv hb hA=>⟨v,rfl,hv,hb,hA⟩)
    obtain ⟨v,hpe,hv,hb,hA⟩:=zJp hou hpl hy (hCW _ hf.at_.cls) hw
    refine zO (i:=u) (v:=v0) hpl (by unfold zA6;rw [rB hzs]) hou hns (zI8 (fun j hj hc=>(by
     have h9:=zAo hcl _ j u _ hou hdone hc
     have g:j<listed.size:=by omega
     simp [g] at h9 ⊢
     exact h9)) hfre) hrd (fun _ _ _ h=>h) (hCW _ hf.at_.cls) hy ?_
    rw [hpe]
    refine ih (listed.setIfInBounds u true) (a.put ops[u].dst v) w ?_ (by simpa using hs) (fun j hj hjp=> ?_) (fun j oj hj hoj e he hbe=> ?_) (fun j hj hjl=> ?_) ((hf.put hap hfr hC hE hou hl0u hv hb hA).mono fun j hj=> ?_)
    ·have:=jN hu'
     omega
    ·rw [pN false (fun e=>by subst e;rw [hup] at hjp;cases hjp)]
     exact hlate j hj hjp
    ·by_cases e2:j=u
     ·subst e2
      rw [hou] at hoj
      cases hoj
      by_cases e3:e.on=j
      ·rw [e3];exact hj
      ·rw [pN false (Ne.symm e3)]
       exact hdone e he hbe
     ·rw [pN false (Ne.symm e2)] at hj
      have:=hcl j oj hj hoj e he hbe
      by_cases e3:e.on=u
      ·rw [e3]
       simp [hlt]
      ·rw [pN false (Ne.symm e3)]
       exact this
    ·by_cases e3:j=u
     ·rw [e3];simp [hlt]
     ·rw [pN false (Ne.symm e3)]
      exact hsub j hj hjl
    ·by_cases e:j=u
     ·exact .inr e
     ·left
      rw [pN false (Ne.symm e)] at hj
      exact hj
   ·refine ⟨fun hnil=>(hsome u hu' hnil).elim,fun i hi=> ?_⟩
    obtain ⟨hun,o,ho,hall⟩:=rH.1 hi
    have hil:=(pP.1 ho).1
    have hl0:(lst ops.size D).getD i true=false:=by
     rw [zA9 hil]
     cases hg:inL D i with
     |false=>rfl
     |true=>
      have:=hsub i hil hg
      have hlt3:i<listed.size:=by omega
      simp [hlt3] at hun
      simp [hlt3] at this
      rw [this] at hun
      cases hun
    have hip:inL D' i=true:=by
     cases hg:inL D' i with
     |true=>rfl
     |false=>
      exfalso
      have h1:=pL.1 htl i (pM.2 hil)
      rw [hg,Bool.false_or] at h1
      have h2:=pL.1 h1 u (pM.2 hul)
      simp only [sV,rT] at h2
      rcases h2 with ((h2|h2)|h2)|h2
      ·rw [hup] at h2;cases h2
      ·exact hfu h2
      ·exact hu (hsub u hul h2)
      ·exact hu (zAo hcl _ u i o ho hall h2)
    refine hspec i hip hl0 o ho a w (hf.mono fun j hj=> ?_) _ fun v w' hv hb hA=>⟨.inr (hCW _ (hC _ _ hf.at_.cls hb)), ?_⟩
    ·obtain ⟨hj0,e,he,hb,rfl⟩:=hj
     exact ⟨hj0,hall e he hb⟩
    ·refine ih (listed.setIfInBounds i true) (a.put o.dst v) w' ?_ (by simpa using hs) (fun j hj hjp=> ?_) (fun j oj hj hoj e he hbe=> ?_) (fun j hj hjl=> ?_) ((hf.put hap hfr hC hE ho hl0 hv hb hA).mono fun j hj=> ?_)
     ·have:=jN hun
      omega
     ·rw [pN false (fun e=>by subst e;rw [hip] at hjp;cases hjp)]
      exact hlate j hj hjp
     ·by_cases e2:j=i
      ·subst e2
       rw [ho] at hoj
       cases hoj
       by_cases e3:e.on=j
       ·rw [e3];exact hj
       ·rw [pN false (Ne.symm e3)]
        exact hall e he hbe
      ·rw [pN false (Ne.symm e2)] at hj
       have:=hcl j oj hj hoj e he hbe
       by_cases e3:e.on=i
       ·rw [e3]
        have hlt:i<listed.size:=by omega
        simp [hlt]
       ·rw [pN false (Ne.symm e3)]
        exact this
     ·by_cases e3:j=i
      ·have hlt:i<listed.size:=by omega
       rw [e3];simp [hlt]
      ·rw [pN false (Ne.symm e3)]
       exact hsub j hj hjl
     ·by_cases e:j=i
      ·exact .inr e
      ·left
       rw [pN false (Ne.symm e)] at hj
       exact hj
end
def zHn (F:Fence) (m:Nat) (P:Wh) (ops:Array Oper) (CW:Wb->Prop) (Q:Exit->Act->Wb->Prop) (D:List Nat) (a:Act) (w:Wb):Prop:=
 jB F m P .any ops ops.size CW (qE Q) ((lst ops.size D).count false) (lst ops.size D) a w
def Gr (CW:Wb->Prop) (w:Wb):Prop:= ∀w',Below w.heap.size w w'->CW w'
abbrev GW (wb:Wb):Wb->Prop:=fun W=>Below wb.heap.size wb W
theorem zRP {wb w:Wb} (h:Below wb.heap.size wb w):Gr (GW wb) w:=fun _ hb=>h.trans (hb.mono h.size)
def FdC (P:Wh) (CW:Wb->Prop) (w:Wb) (ops:Array Oper) (G:Nat->SF) (o:Oper):Prop:=
 ∀(b:Act) (W:Wb),Below w.heap.size w W->(∀t,t∈looks ops o->(G t).p (b.tmps.getD t undef) W)-> ∃v,zAc P ops CW o v b
theorem zOr.c {P:Wh} {wb w:Wb} {ops:Array Oper} {G:Nat->SF} {o:Oper} (h:zOr P wb ops G o) (hb:Below wb.heap.size wb w):FdC P (GW wb) w ops G o:=fun b W hW hr=>h b W (hb.trans (hW.mono hb.size)) hr
def zNK (ops:Array Oper) (D':List Nat) (G:Nat->SF) (t:Nat):SF:=bif (List.range ops.size).any (fun i=> !inL D' i&&(zS ops i==some t)) then SF.any else G t
def zSF (ops:Array Oper) (fl D is:List Nat) (n:Nat) (keys ts:List Nat):Bool:=
 q6 ops&&zAi ops n&&jQ ops&&Region.noSelect ops&&zA4 ops&&zAG keys&&
 zCn ops (lst ops.size D)&&zCn ops (lst ops.size (is++D))&&
 keys.all (fun t=>is.any fun i=> !inL D i&&(zS ops i==some t))&&
 ts.all (fun t=>(List.range ops.size).all fun i=>inL D i|| !(zS ops i==some t))&&
 is.all (fun i=>decide (i<ops.size)&& !inL D i&&(!inL fl i||Region.free .any ops (zBd ops i) i)&&match ops[i]? with
  |none=>true
  |some o=>(looks ops o).all fun t=>(List.range ops.size).all fun j=>inL D j|| !(zS ops j==some t)||o.after.any fun e=>Region.binds .any e&&e.on==j)&&
 zRd ops D fl (is++D)
def zM4 (ops:Array Oper) (is:List Nat):List Oper:=is.filterMap fun i=>ops[i]?
theorem zFB {F:Fence} {m:Nat} {P:Wh} {w0:Wb} {ops ops':Array Oper} {G:Nat->SF}: ∀{is:List Nat},Obs F m P w0 ops' G (zM4 ops is)-> ∀i,i∈is-> ∀o,ops[i]?=some o->qG F m P w0 ops' G o
 | [],_,i,hi,_,_=>by cases hi
 | k::is,h,i,hi,o,ho=>by
  unfold zM4 at h
  rw [List.filterMap_cons] at h
  cases hk:ops[k]? with
  |none=>
   rw [hk] at h
   rcases pZ.1 hi with rfl|hi
   ·rw [ho] at hk;cases hk
   ·exact zFB h i hi o ho
  |some ok=>
   rw [hk] at h
   rcases pZ.1 hi with rfl|hi
   ·rw [ho] at hk;cases hk;exact h.1
   ·exact zFB h.2 i hi o ho
theorem zPL {F:Fence} {m:Nat} {P:Wh} {ops:Array Oper} {Q:Exit->Act->Wb->Prop} {CW:Wb->Prop} {G:Nat->SF} {n:Nat} {ds:List Deferred} {a:Act} {w:Wb} {D:List Nat} (fl is ts:List Nat) (L:List (Nat×SF))
  (hcw:Gr CW w) (hchk:zSF ops fl D is n (L.map (·.1)) ts=true) (h:At w G n ds a w) (hobs:Obs F m P w ops (upd G L) (zM4 ops is))
  (hfd: ∀i o,inL fl i=true->ops[i]?=some o->FdC P CW w ops (upd G L) o)
  (hfin: ∀a w',At w (zNK ops (is++D) (upd G L)) n ds a w'->zHn F m P ops CW Q (is++D) a w'):zHn F m P ops CW Q D a w:=by
 unfold zSF at hchk
 simp only [pR] at hchk
 obtain ⟨⟨⟨⟨⟨⟨⟨⟨⟨⟨⟨hap,hfr⟩,hpl⟩,hns⟩,hear⟩,hndk⟩,hc1⟩,hc2⟩,hkeys⟩,hts⟩,his⟩,htl⟩:=hchk
 have hisD: ∀i,inL (is++D) i=true->inL D i=false->i∈is:=fun i h1 h2=>by
  rw [zF4,h2,Bool.or_false] at h1
  exact zQo h1
 have hkey: ∀t,(∀j,inL D j=false->j∈is->zS ops j≠some t)->upd G L t=G t:=fun t ht=>by
  refine jK ?_
  cases hc:(L.map (·.1)).contains t with
  |false=>rfl
  |true=>
   exfalso
   obtain ⟨i,hi,he⟩:=pW.1 (pL.1 hkeys t (pX.1 hc))
   simp only [pR,rT,rE] at he
   exact ht i he.1 hi he.2
 have hst: ∀t,(∀j,inL D j=false->j∈is->zS ops j≠some t)->(upd G L t).p (a.tmps.getD t undef) w:=fun t ht=>by rw [hkey t ht];exact h.sl t
 have hspecs: ∀i,i∈is->i<ops.size/\(inL fl i=true->Region.free .any ops (zBd ops i) i=true)/\ ∀o,ops[i]?=some o-> ∀t,t∈looks ops o-> ∀j,inL D j=false->zS ops j=some t->(o.after.any fun e=>Region.binds .any e&&e.on==j)=true:=fun i hi=>by
  have h1:=pL.1 his i hi
  simp only [pR,rU] at h1
  refine ⟨h1.1.1.1,fun hf=>(by have h2:=h1.1.2;rw [hf] at h2;simpa using h2),fun o ho t ht j hj hjd=> ?_⟩
  have h2:=h1.2
  rw [ho] at h2
  have hlt:j<ops.size:=by
   rcases pY j ops.size with e|e
   ·exact e
   ·rw [zS,rB e] at hjd;cases hjd
  have h3:=pL.1 (pL.1 h2 t ht) j (pM.2 hlt)
  rw [hj,hjd] at h3
  simpa using h3
 have hnd: ∀t,(∀j,inL D j=false->zS ops j≠some t)->zAW ops (lst ops.size D) t=false:=fun t ht=>by
  cases hd:zAW ops (lst ops.size D) t with
  |false=>rfl
  |true=>
   exfalso
   unfold zAW at hd
   obtain ⟨i,hi,hp⟩:=pW.1 hd
   simp only [pR,rE,rT] at hp
   have hp1:=hp.1
   rw [zA9 (pM.1 hi)] at hp1
   exact ht i hp1 (by rw [<-zDq];exact hp.2)
 -- what an operation looks at holds where those it waits for have run
 have hlook: ∀i o,i∈is->ops[i]?=some o-> ∀b W,FlowB ops (lst ops.size D) (fun _=>false) (fun i v W=> ∀o,ops[i]?=some o-> ∀d,o.dst=some d->(upd G L d).p v W) (fun W=>Below w.heap.size w W) a (fun j=>(lst ops.size D).getD j true=false/\ ∃e∈o.after,Region.binds .any e=true/\e.on=j) b W-> ∀t,t∈looks ops o->(upd G L t).p (b.tmps.getD t undef) W:=fun i o hi ho b W hf t ht=>by
  by_cases hex: ∃j,inL D j=false/\zS ops j=some t
  ·obtain ⟨j,hjD,hj⟩:=hex
   have h1:=(hspecs i hi).2.2 o ho t ht j hjD hj
   obtain ⟨x,hx,he⟩:=Array.any_eq_true.1 h1
   simp only [pR,rE] at he
   cases hoj:ops[j]? with
   |none=>rw [zS,hoj] at hj;cases hj
   |some oj=>
    rw [qJ hoj] at hj
    exact hf.at_.vals j oj t ⟨by rw [zA9 (pP.1 hoj).1];exact hjD,_,sT hx,he.1,he.2⟩ hoj hj oj hoj t hj
  ·have hno: ∀j,inL D j=false->zS ops j≠some t:=fun j h1 h2=>hex ⟨j,h1,h2⟩
   rw [hf.at_.keep t (hnd t hno)]
   exact (upd G L t).st _ _ _ (hst t (fun j hj _=>hno j hj)) hf.at_.cls
 refine zTa (Q:=Q) (D:=D) (D':=is++D) (z:=ops.size) (a0:=a) (A:=fun _=>false) (E:=fun i v W=> ∀o,ops[i]?=some o-> ∀d,o.dst=some d->(upd G L d).p v W) (C:=fun W=>Below w.heap.size w W) fl hpl hns lr CW hcw ?hfree ?hfk hear htl hap (by rw [h.size];exact hfr) (zBF hc2) (fun W W' hC hb=>hC.trans (hb.mono hC.size)) (fun i v W W' hE hb o ho d hd=>(upd G L d).st _ _ _ (hE o ho d hd) hb) ?spec ?fin _ (lst ops.size D) a w rfl (zEc _ _) (fun i hi hp=> ?_) (zBF hc1) (fun i hi hp=>by rw [zA9 hi];exact hp) ⟨⟨pS _ _,rfl,rfl,fun _ _=>rfl,fun i o t hi=> ?_⟩,fun i o t b hi hA=>(by cases hA),fun i j oi oj ti tj bi bj hi hj hne hA=>(by cases hA)⟩
 case hfree=>exact fun i hD hp hf=>(hspecs i (hisD i hp hD)).2.1 hf
 case hfk=>
  intro i hp hf hl o ho b W hfl
  have hi:=hisD i hp (zDU hl).2
  exact hfd i o hf ho b W hfl.at_.cls (hlook i o hi ho b W hfl)
 case spec=>
  intro i hp hl o ho b W hfl K hK
  have hi:=hisD i hp (zDU hl).2
  refine zAf ho (zFB hobs i hi o ho) (fun j g hj=> ?_) hfl.at_.cls (hlook i o hi ho b W hfl) (fun v W' hv hb=>hK v W' (fun o' ho' d hd=>by rw [ho] at ho';cases ho';exact hv d hd) hb (fun e=>by cases e))
  rw [hfl.at_.size,h.size]
  obtain ⟨oj,hoj,hdj⟩:=y4 hj
  exact qF hfr hoj hdj
 case fin=>
  intro b W hfl
  refine hfin b W ⟨hfl.at_.cls,by rw [hfl.at_.size];exact h.size,by rw [hfl.at_.defers];exact h.nd,fun t=> ?_⟩
  unfold zNK
  cases hc:(List.range ops.size).any fun i=> !inL (is++D) i&&(zS ops i==some t) with
  |true=>trivial
  | false=>
   show (upd G L t).p _ _
   by_cases hex: ∃j,inL D j=false/\zS ops j=some t
   ·obtain ⟨j,hjD,hj⟩:=hex
    have hlt:j<ops.size:=by
     rcases pY j ops.size with e|e
     ·exact e
     ·rw [zS,rB e] at hj;cases hj
    have h1:=rR.1 hc j (pM.2 hlt)
    rw [hj] at h1
    have hjp:inL (is++D) j=true:=by simpa using h1
    cases hoj:ops[j]? with
    |none=>rw [zS,hoj] at hj;cases hj
    |some oj=>
     rw [qJ hoj] at hj
     exact hfl.at_.vals j oj t ⟨hjp,by rw [zA9 hlt];exact hjD⟩ hoj hj oj hoj t hj
   ·have hno: ∀j,inL D j=false->zS ops j≠some t:=fun j h1 h2=>hex ⟨j,h1,h2⟩
    rw [hfl.at_.keep t (hnd t hno)]
    exact (upd G L t).st _ _ _ (hst t (fun j hj _=>hno j hj)) hfl.at_.cls
 ·rw [zA9 hi]
  cases h:inL D i with
  |false=>rfl
  |true=>rw [zF4,h,Bool.or_true] at hp;cases hp
 ·have h1:=zDU hi.1
  have h2:=hi.2
  rw [zA9 h1.1,h1.2] at h2
  cases h2
section
variable {S:Nat->Prop} {w0:Wb} {K:List (Nat×KF)} {B:List Bx} {n:Nat} {ds:List Deferred} {a:Act} {w:Wb} {F:Fence} {m:Nat} {P:Wh} {ops:Array Oper} {Q:Exit->Act->Wb->Prop} {wb:Wb} {CW:Wb->Prop} {D:List Nat}
theorem StS.later (h:StS S w0 K B n ds a w) {w':Wb} (hb:Below w.heap.size w w'):StS S w0 K B n ds a w':=
 ⟨h.gr.trans hb,h.size,h.nd,fun q hq=>KF.us (h.sl q hq) (zP hb),h.bx.keep hb (zP hb) B (fun _ _=>rfl),zAh h.mks hb,h.so⟩
theorem zKG {id:Nat} (CW:Wb->Prop) (hmix:P.follows .mixedOrders=true) (h:StS S w0 K B n ds a w) (fin: ∀w1,Below w.heap.size w w1->StS S w0 K B n ds a w1->zHn F m P ops CW Q [] a w1):(Code.region id ops true).wpIn F m P Q a w:=by
 refine z7 ops.size CW hmix ?_
 have hd:Below w.heap.size w w.drew:=(pS _ w).drew
 have:=fin w.drew hd (h.later hd)
 unfold zHn at this
 have e:lst ops.size []=Array.replicate ops.size false:=by
  refine (zG1 fK fun i hi=> ?_).symm
  rw [pU,sE,if_pos hi]
  rfl
 rw [e,tD] at this
 exact this
theorem zIL (h:(List.range ops.size).all (inL D)=true) (hQ:Q .normal a w):zHn F m P ops CW Q D a w:=by
 have e:lst ops.size D=Array.replicate ops.size true:=(zG1 fK fun i hi=>by
  rw [pU,sE,if_pos hi]
  exact (pL.1 h i (pM.2 hi)).symm).symm
 have hc:(lst ops.size D).count false=0:=by rw [e];simp [Array.count_replicate]
 unfold zHn
 rw [hc]
 refine ⟨List.eq_nil_iff_forall_not_mem.2 fun i hi=> ?_,hQ⟩
 have h1:=(rH.1 hi).1
 have h2:=zDU h1
 rw [pL.1 h i (pM.2 h2.1)] at h2
 cases h2.2
theorem zCK {o:Oper} (h:o.guard=none):Region.wanted o (yielded ops a.tmps)=true:=by unfold Region.wanted;rw [h]
theorem zFF {i:Nat} {o:Oper} (hr:Region.ready .any ops (lst ops.size D)= [i]) (ho:ops[i]?=some o) (hw:Region.wanted o (yielded ops a.tmps)=true) (h:o.wpIn F m P a w (fun a' w'=>CW w'/\zHn F m P ops CW Q (i::D) a' w') (qE Q)):zHn F m P ops CW Q D a w:=by
 have hi:=(rH.1 (show i∈Region.ready .any ops (lst ops.size D) by rw [hr];simp)).1
 have hlt:=(zDU hi).1
 have hc:=jN hi
 rw [zLz hlt] at hc
 unfold zHn
 rw [<-hc]
 refine ⟨fun e=>(by rw [hr] at e;cases e),fun j hj=> ?_⟩
 rw [hr] at hj
 obtain rfl:j=i:=by simpa using hj
 unfold wpOpIn
 rw [ho]
 show (if Region.wanted o (yielded ops a.tmps)=true then _ else _)
 rw [if_pos hw]
 refine Oper.wpIn_mono (fun a' w' hh=>⟨.inr hh.1, ?_⟩) h
 rw [zLz hlt]
 exact hh.2
theorem zHK (fl is:List Nat) (L:List (Nat×Rw)) (hcw:Gr CW w) (h:StS S w0 K B n ds a w)
  (hchk:zSF ops fl D is n (L.map (·.1)) (K.map (·.1)++B.map (·.t))=true)
  (hobs:Obs F m P w ops (upd (j5 K B) (zK L)) (zM4 ops is))
  (hfd: ∀i o,inL fl i=true->ops[i]?=some o->FdC P CW w ops (upd (j5 K B) (zK L)) o)
  (hfin: ∀a' w',Below w.heap.size w w'->StS S w0 (zBB L++K) B n ds a' w'->(∀q,q∈zK L->q.2.p (a'.tmps.getD q.1 undef) w')->zHn F m P ops CW Q (is++D) a' w'):zHn F m P ops CW Q D a w:=by
 have hchk0:=hchk
 unfold zSF at hchk0
 simp only [pR] at hchk0
 obtain ⟨⟨⟨⟨⟨⟨⟨⟨⟨⟨⟨hap,hfr⟩,hpl⟩,hns⟩,hear⟩,hndk⟩,hc1⟩,hc2⟩,hks⟩,hts⟩,his⟩,htl⟩:=hchk0
 have hkeys:(zK L).map (·.1)=L.map (·.1):=by simp [zK]
 have hsame: ∀t,t∈K.map (·.1)++B.map (·.t)-> ∀i,inL D i=false->zS ops i≠some t:=fun t ht i hD hi=>by
  have h1:=pL.1 hts t ht
  obtain ⟨o,ho,_⟩:=y4 hi
  have h2:=pL.1 h1 i (pM.2 (pP.1 ho).1)
  rw [hi,hD] at h2
  simp at h2
 have hkn: ∀t,t∈K.map (·.1)++B.map (·.t)->((zK L).map (·.1)).contains t=false:=fun t ht=>by
  cases hc:((zK L).map (·.1)).contains t with
  |false=>rfl
  |true=>
   exfalso
   have hm:=pX.1 hc
   rw [hkeys] at hm
   obtain ⟨i,_,he⟩:=pW.1 (pL.1 hks t hm)
   simp only [pR,rT,rE] at he
   exact hsame t ht i he.1 he.2
 have hno: ∀(l:List (Nat×SF)) t, ¬t∈K.map (·.1)++B.map (·.t)->upd (qC K B a) l t=upd (j5 K B) l t:=fun l t ht=>by
  induction l with
  |nil=>exact if_neg ht
  |cons q l ih=>
   show (bif Nat.beq q.1 t then q.2 else upd _ l t)=(bif Nat.beq q.1 t then q.2 else upd _ l t)
   rw [ih]
 have hle: ∀t v W,(upd (qC K B a) (zK L) t).p v W->(upd (j5 K B) (zK L) t).p v W:=fun t v W hh=>by
  by_cases ht:t∈K.map (·.1)++B.map (·.t)
  ·rw [jK (hkn t ht)] at hh ⊢
   unfold qC at hh
   rw [if_pos ht] at hh
   exact hh.1
  ·rwa [hno _ t ht] at hh
 have hA:=h.at
 refine zPL fl is (K.map (·.1)++B.map (·.t)) (zK L) hcw (by rw [hkeys];exact hchk) (G:=qC K B a) (ds:=ds) ⟨hA.gr,hA.size,hA.nd,fun t=> ?_⟩ ?_ (fun i o hi ho b W hb hr=>hfd i o hi ho b W hb (fun t ht=>hle t _ _ (hr t ht))) fun a' w' hA'=> ?_
 ·by_cases ht:t∈K.map (·.1)++B.map (·.t)
  ·unfold qC;rw [if_pos ht];exact ⟨hA.sl t,rfl⟩
  ·unfold qC;rw [if_neg ht];exact hA.sl t
 ·have hge: ∀t,(∃i,inL D i=false/\zS ops i=some t)-> ∀v W,(upd (j5 K B) (zK L) t).p v W->(upd (qC K B a) (zK L) t).p v W:=fun t ⟨i,hD,hi⟩ v W hh=>by
   rw [hno _ t (fun ht=>hsame t ht i hD hi)]
   exact hh
  have hconv: ∀(i:Nat) (o:Oper),inL D i=false->ops[i]?=some o->qG F m P w ops (upd (j5 K B) (zK L)) o->qG F m P w ops (upd (qC K B a) (zK L)) o:=by
   intro i o hD ho hg
   have hdst: ∀d,o.dst=some d-> ∃i,inL D i=false/\zS ops i=some d:=fun d hd=>⟨i,hD,by rw [qJ ho];exact hd⟩
   have hop:zJX F m P w (upd (j5 K B) (zK L)) o->zJX F m P w (upd (qC K B a) (zK L)) o:=fun h1 b W K' Q' hb hr hK'=>
    h1 b W K' Q' hb (fun t ht=>hle t _ _ (hr t ht)) fun v W' hv hb'=>hK' v W' (fun d hd=>hge d (hdst d hd) _ _ (hv d hd)) hb'
   unfold qG at hg ⊢
   cases hgd:o.guard with
   |none=>rw [hgd] at hg;exact hop hg
   |some q=>
    rw [hgd] at hg
    obtain ⟨g,bv,h1,h2,h3,h4⟩:=hg
    exact ⟨g,bv,h1,fun v W hh=>h2 v W (hle g v W hh),fun e=>hop (h3 e),fun e=>⟨fun d hd W=>hge d (hdst d hd) _ _ ((h4 e).1 d hd W),(h4 e).2⟩⟩
  have hall: ∀l:List Nat,(∀i,i∈l->inL D i=false/\i<ops.size)->Obs F m P w ops (upd (j5 K B) (zK L)) (zM4 ops l)->Obs F m P w ops (upd (qC K B a) (zK L)) (zM4 ops l):=by
   intro l
   induction l with
   |nil=>intro _ _;trivial
   |cons i l ih=>
    intro hm ho
    obtain ⟨hD,hlt⟩:=hm i fK
    have hoi:ops[i]?=some ops[i]:=rG hlt
    have e:zM4 ops (i::l)=ops[i]::zM4 ops l:=by unfold zM4;rw [List.filterMap_cons,hoi]
    rw [e] at ho ⊢
    exact ⟨hconv i _ hD hoi ho.1,ih (fun j hj=>hm j (by simp [hj])) ho.2⟩
  refine hall is (fun i hi=> ?_) hobs
  have h1:=pL.1 his i hi
  simp only [pR,rU,rT] at h1
  exact ⟨h1.1.1.2,h1.1.1.1⟩
 ·have hg:=hA'.gr
  have hslot: ∀t,t∈K.map (·.1)++B.map (·.t)->a'.tmps.getD t undef=a.tmps.getD t undef:=fun t ht=>by
   have h1:=hA'.sl t
   unfold zNK at h1
   have h2:((List.range ops.size).any fun i=> !inL (is++D) i&&(zS ops i==some t))=false:=by
    refine rR.2 fun i _=> ?_
    cases hD:inL D i with
    |true=>simp [zF4,hD]
    |false=>have:=hsame t ht i hD;simp [this]
   rw [h2,show (bif false then SF.any else upd (qC K B a) (zK L) t)=upd (qC K B a) (zK L) t from rfl,jK (hkn t ht),qC,if_pos ht] at h1
   exact h1.2
  have hrow: ∀q,q∈zK L->q.2.p (a'.tmps.getD q.1 undef) w':=fun q hm2=>by
   have h1:=hA'.sl q.1
   obtain ⟨i,hi,he⟩:=pW.1 (pL.1 hks q.1 (by rw [<-hkeys];exact pQ.2 ⟨_,hm2,rfl⟩))
   simp only [pR,rT,rE] at he
   have hiL:inL (is++D) i=true:=by
    rw [zF4]
    have:inL is i=true:=by
     have: ∀l:List Nat,i∈l->inL l i=true:=fun l hl=>by
      induction l with
      |nil=>cases hl
      |cons k l ih=>
       show (bif Nat.beq k i then true else inL l i)=true
       rcases pZ.1 hl with rfl|hl
       ·rw [Nat.beq_refl];rfl
       ·rw [ih hl];cases Nat.beq k i<;>rfl
     exact this is hi
    rw [this,Bool.true_or]
   unfold zNK at h1
   have h2:((List.range ops.size).any fun j=> !inL (is++D) j&&(zS ops j==some q.1))=false:=by
    refine rR.2 fun j _=> ?_
    by_cases hj:j=i
    ·subst hj;simp [hiL]
    ·have:zS ops j≠some q.1:=fun e=>by
      obtain ⟨oi,ho1,hd1⟩:=y4 he.2
      obtain ⟨oj,ho2,hd2⟩:=y4 e
      exact j7 hap ho1 ho2 (Ne.symm hj) hd1 hd2
     simp [this]
   rw [h2,show (bif false then SF.any else upd (qC K B a) (zK L) q.1)=upd (qC K B a) (zK L) q.1 from rfl,zBP (q:=q) (by rw [hkeys];exact hndk) hm2] at h1
   exact h1
  refine hfin a' w' hg ⟨h.gr.trans hg,hA'.size,hA'.nd,fun q hq=> ?_,h.bx.keep hg (zP hg) B fun x hx=>hslot _ (rV _ (pQ.2 ⟨x,hx,rfl⟩)),zAh h.mks hg,h.so.imp (fun hu q hq=>(by
   rcases rM.1 hq with hq|hq
   ·obtain ⟨f,e,_⟩:=jJ hq;exact ⟨f,e⟩
   ·exact hu q hq)) (fun x=>x)⟩ hrow
  rcases rM.1 hq with hq|hq
  ·obtain ⟨f,hqf,hm⟩:=jJ hq
   have h1:=hrow (q.1,f.tS) (pQ.2 ⟨_,hm,rfl⟩)
   rw [hqf]
   exact h1
  ·rw [hslot q.1 (sN _ (pQ.2 ⟨q,hq,rfl⟩))]
   exact KF.us (h.sl q hq) (zP hg)
theorem zNc {i d:Nat} {x y:Wg} {t ty:We} {pos:String} {aft:Array Edge} {gd:Wf (Nat×Bool)} {e:We} {z:Nat} {v:Wc} {Cs:List CU} (Ds:List CU) (hwb:Below wb.heap.size wb w) (h:StS S w0 K B n [] a w) (hb0:w0.heap.size<=wb.heap.size) (hr:zBJ w wb.heap.size e z v Cs)
  (ho:ops[i]?=some ⟨some d, .call ⟨.builtin .append,#[x,y],#[t,t]⟩,ty,pos,aft,gd⟩) (hw:Region.wanted ⟨some d, .call ⟨.builtin .append,#[x,y],#[t,t]⟩,ty,pos,aft,gd⟩ (yielded ops a.tmps)=true) (hrd:Region.ready .any ops (lst ops.size D)= [i]) (happ:zIl P t=some (e,z,true)) (hf:zAR K B n d=true)
  (hx:a.eval x=v) (hy:(SF.row z Ds).p (a.eval y) w) (hD: ∀C,C∈Ds->CU.ok z C) (hsz:Cs.length+Ds.length<=140000000000) (hB: ∀q,q∈B->q.b<wb.heap.size)
  (fin: ∀v' a' w',Below wb.heap.size wb w'->zBJ w' wb.heap.size e z v' (Cs++Ds)->StS S w0 ((d, .u (UF.eq v'))::K) B n [] a' w'->zHn F m P ops (GW wb) Q (i::D) a' w'):zHn F m P ops (GW wb) Q D a w:=by
 obtain ⟨v',w',hrun,g1,g2,_⟩:=zKA (P:=P) (ty:=ty) happ hr hy hD hsz hwb.size
 have hrun2:(execOp a.eval ⟨some d, .call ⟨.builtin .append,#[x,y],#[t,t]⟩,ty,pos,aft,gd⟩).run P w= .ok (.value v') w':=by
  simp only [execOp,resolve,invoke,builtin,rL,rZ,sH,tA,rC,sA,hx,hrun]
 have hk:jH w w':=hr.keepU g2
 have hlt:=hr.lt
 have s1:StS S w0 K B n [] a w':=by
  refine ⟨?_,h.size,h.nd,fun q hq=>KF.us (h.sl q hq) hk, ?_,⟨[],Marks.nil _ _⟩,h.so⟩
  ·cases hv:v.ownBlock with
   |none=>
    refine ⟨g2.os.trans h.gr.os,g2.tape.trans h.gr.tape,g2.output.trans h.gr.output,pT h.gr.size g2.size,fun k hk1 hk2=> ?_⟩
    exact (g2.block k (rF hk1 h.gr.size) (by rw [hv];simp)).trans (h.gr.block k hk1 hk2)
   |some g=>exact h.gr.grown (by rw [hv] at g2;exact g2) (.inl (pT hb0 (hlt g hv).1))
  ·refine wQ hk B (fun q hq=> ?_) h.bx
   obtain ⟨_,_,hc,h3,_⟩:=h.bx.mem q hq
   refine g2.block _ (pP.1 h3).1 fun e=> ?_
   have h4:=hlt _ e.symm
   have:=hB q hq
   omega
 have hb':Below wb.heap.size wb w':=⟨g2.os.trans hwb.os,g2.tape.trans hwb.tape,g2.output.trans hwb.output,pT hwb.size g2.size,fun k hk1=>(g2.block k (rF hk1 hwb.size) (fun e=>by have:=hlt _ e.symm;omega)).trans (hwb.block k hk1)⟩
 refine zFF hrd ho hw ⟨fun f hf=>(by
  unfold Oper.about at hf
  simp [resolve,go_sem] at hf), ?_⟩
 rw [rA _ _ _ (fun _ e=>by cases e),hrun2]
 exact ⟨hb',fin v' _ w' hb' g1 (s1.set hf (pS _ _) rfl)⟩
theorem zE7 {i c kk:Nat} {t:We} {x:Wg} {ty:We} {pos:String} {aft:Array Edge} (C:CU) (f:SF) (h:StS S w0 K B n ds a w) (ho:ops[i]?=some ⟨none, .store t (.tmp c) x,ty,pos,aft,none⟩) (hrd:Region.ready .any ops (lst ops.size D)= [i]) (hsz:jW P t=some kk) {y:Bx} (hB:zCY B c=some y) (hro:y.r=false) (hye:y.e=t) (hyl: ∀cs W,y.c.p cs W->cs.length=kk)
  (hx: ∀v W,(Wd.fct (j5 K B) x).p v W->f.p v W) (hv: ∀v W,f.p v W-> ∃vs:List Wc,v= .agg vs.toArray/\vs.length=kk/\(∀u,u∈vs->u.oneCell'=true)/\vs.all zU=true/\C.p vs W) (hcw: ∀vs:List Wc,f.p (.agg vs.toArray) w->Gr CW (w.setRow y.b vs.toArray))
  (fin: ∀w',Gr CW w'->(∀k,k≠y.b->w'.heap[k]?=w.heap[k]?)->StS S w0 K (zDW B c C) n ds a w'->zHn F m P ops CW Q (i::D) a w'):zHn F m P ops CW Q D a w:=by
 obtain ⟨hy,hyc⟩:=qT hB
 obtain ⟨cs,h1,h2,h3,h4,h5⟩:=h.bx.mem y hy
 obtain ⟨vs,e,hl,ho1,hnl,hC⟩:=hv _ _ (hx _ _ (h.fct x))
 rw [hyc] at h1
 have hk:jH w (w.setRow y.b vs.toArray):=zBy h3 (by simpa using h5)
 have hg:=hcw vs (by rw [<-e];exact hx _ _ (h.fct x))
 exact zFF hrd ho (zCK rfl) (zIS hsz hye (hyl _ _ h4) h1 h3 e hl ho1 ⟨hg _ (pS _ _),fin _ hg (fun k hk=>setRow_other w y.b k _ hk) (h.turn hB hro (zCk w y.b vs.toArray) (setRow_heap w y.b cs.toArray vs.toArray y.e (0,0) h3) (C.us _ _ _ hC hk) hnl)⟩)
end
section
variable {F:Fence} {m:Nat} {P:Wh} {w0:Wb} {ops:Array Oper} {G:Nat->SF} {d:Tmp} {ty:We} {pos:String} {aft:Array Edge}
def vE (W:Wb) (e:We):SF:=⟨fun v w=> ∃g,v= .slice (some ⟨g,0,none⟩) 0 0/\W.heap.size<=g/\w.heap[g]?=some (.cells #[] e (0,0)),fun _ _ _ ⟨g,h1,h2,h3⟩ hb=>⟨g,h1,h2,(hb.block g (pP.1 h3).1).trans h3⟩⟩
theorem zLb {t e:We} {z:Nat} (happ:zIl P t=some (e,z,true)) (hd: ∀v W,(vE w0 e).p v W->(G d).p v W:=by exact fun _ _ h=>h):qG F m P w0 ops G ⟨some d, .buildSlice t 0 #[],ty,pos,aft,none⟩:=
 zLd (fun _ e=>by cases e) (fun _ e=>by cases e) fun b W hb hh=>by
  obtain ⟨ht,i,zv,hi,hz,hs,hby0,hzs,hzn,hz0⟩:=zDQ happ
  refine ⟨.slice (some ⟨W.heap.size,0,none⟩) 0 0, .cells #[] e, ?_,hd _ _ ⟨W.heap.size,rfl,hb.size,heap_alloc_new W _⟩⟩
  simp [execOp,Instr.buildSlice,rI ht,sizeOf,typeInfo,hi,newRow,Instr.fill]
  congr 2
  exact Array.eq_empty_of_size_eq_zero fK
theorem zQb {x y:Wg} {t e:We} {z:Nat} (Ds:List CU) (happ:zIl P t=some (e,z,true)) (hx: ∀v W,(fct G x).p v W->(vE w0 e).p v W) (hy: ∀v W,Below w0.heap.size w0 W->(fct G y).p v W->(SF.row z Ds).p v W) (hD: ∀C,C∈Ds->CU.ok z C) (hsz:Ds.length<=140000000000) (hd: ∀v W,(wL w0 e z Ds).p v W->(G d).p v W:=by exact fun _ _ h=>h):qG F m P w0 ops G ⟨some d, .call ⟨.builtin .append,#[x,y],#[t,t]⟩,ty,pos,aft,none⟩:=by
 intro bb W K Q hb hr hK
 obtain ⟨g,ex,hg,hgc⟩:=hx _ _ (yY hr (x:=x) (by simp [Op.operands,Call.operands]))
 have h2:=hy _ _ hb (yY hr (x:=y) (by simp [Op.operands,Call.operands]))
 obtain ⟨ht,i,zv,hi,hz,hs,hby0,hzs,hzn,hz0⟩:=zDQ happ
 have hemp:zBJ W w0.heap.size e z (.slice (some ⟨g,0,none⟩) 0 0) []:= .inr ⟨g,0,#[],rfl,hg,hgc,rD _,Nat.zero_le _,by simp,rfl,fun i C hi=>by simp at hi⟩
 refine ⟨fun f hf=>(by
  unfold Oper.about at hf
  simp [resolve,go_sem] at hf), ?_⟩
 rw [rA _ _ _ (fun _ e=>by cases e)]
 have hev: ∀v' W',(Builtin.append_ #[t,t] ty #[.slice (some ⟨g,0,none⟩) 0 0,bb.eval y]).run P W= .ok v' W'->(execOp bb.eval ⟨some d, .call ⟨.builtin .append,#[x,y],#[t,t]⟩,ty,pos,aft,none⟩).run P W= .ok (.value v') W':=fun v' W' h=>by
  simp only [execOp,resolve,invoke,builtin,rL,rZ,sH,tA,rC,sA,ex,h]
 by_cases h0:Ds= []
 ·subst h0
  obtain ⟨A,c,ey,hlc,hcm,hAn,hel⟩:=h2
  have hrun:(Builtin.append_ #[t,t] ty #[.slice (some ⟨g,0,none⟩) 0 0,bb.eval y]).run P W= .ok (.slice (some ⟨g,0,none⟩) 0 0) W:=by
   rw [ey]
   cases A with
   |none=>simp [Builtin.append_,rI ht,sizeOf,typeInfo,hi,Builtin.lenOf,Builtin.firstCells,storeCells]
   |some ad=>simp [Builtin.append_,rI ht,sizeOf,typeInfo,hi,Builtin.lenOf,Builtin.firstCells,loadCells,loadCellsFrom,storeCells]
  rw [hev _ _ hrun]
  exact hK _ _ (fun d' e'=>by cases e';exact hd _ _ hemp) (pS _ _)
 ·have h0:0<Ds.length:=List.length_pos_iff.2 h0
  have hmx:Ds.length<=maxLen:=by unfold maxLen;omega
  have hbb:Ds.length*i.bytes<=140737488355328:=pT (Nat.mul_le_mul hsz hby0) (by decide)
  obtain ⟨A,c,ey,hlc,hcm,hAn,hel⟩:=h2
  obtain ⟨D,Ds',rfl⟩: ∃D Ds',Ds=D::Ds':=by
   cases Ds with
   |nil=>simp at h0
   |cons D Ds'=>exact ⟨D,Ds',rfl⟩
  obtain ⟨b',o',cs',rfl,_⟩:=hel 0 D rfl
  obtain ⟨news,n1,n2,n3,n4,n5⟩:=zEz (W:=W) (b:=b') (z:=z) (D::Ds') o' hD fun i C hiC=>by
   obtain ⟨b'',o'',cs'',e',m1,m2⟩:=hel i C hiC
   cases e'
   exact ⟨cs'',m1,m2⟩
  have hgr:=run_append_grow (P:=P) W t ty e i zv ht hi hz ⟨g,0,none⟩ 0 0 [] fK fK ⟨b',o',none⟩ (D::Ds').length c news (by rw [hs];exact n1) (fun j u hj=>by rw [rP];exact n2 j u hj) oN oN (growslice_fits oN (by simpa using hbb))
  simp only [Nat.zero_add,Array.empty_append] at hgr
  have hge:=grownCap_ge W (D::Ds').length 0 e
  have hcm':grownCap W (D::Ds').length 0 e<=maxLen:=grownCap_le_maxLen W (D::Ds').length 0 e hmx
  rw [hev _ _ (by rw [ey];exact hgr)]
  have hbw:Below W.heap.size W (W.drew.alloc (.cells (news.toArray++Builtin.zeroCells zv.cells (grownCap W (D::Ds').length 0 e - (D::Ds').length)) e)):=⟨rfl,rfl,rfl,by simp,fun k hk=>heap_alloc_old W.drew _ hk⟩
  refine hK _ _ (fun d' e'=>by
   cases e'
   refine hd _ _ (.inr ⟨W.heap.size,_,_,rfl,hb.size,heap_alloc_new W.drew _,hge,hcm', ?_, ?_, ?_⟩)
   ·simp only [Array.size_append,sX,size_zeroCells,hzs,n1, <-rO]
    congr 1
    omega
   ·rw [sY,sF,n4,zBW hzn];rfl
   ·have:=zDG (Cs:= []) (cs:= []) (es:=(Builtin.zeroCells zv.cells (grownCap W (D::Ds').length 0 e - (D::Ds').length)).toList) fK n1 fK n5 (zP hbw)
    simpa using this) hbw
theorem zO1 {S:Nat->Prop} {wa:Wb} {K:List (Nat×KF)} {B:List Bx} {n kk:Nat} {ds:List Deferred} {a:Act} {t:We} {c:Nat} (h:StS S wa K B n ds a w0) {y:Bx} (hB:zCY B c=some y) (hsz:jW P t=some kk) (hyl: ∀cs W,y.c.p cs W->cs.length=kk) (hx: ∀v W,(fct G (.tmp c)).p v W->v= pO y.b 0):zOr P w0 ops G ⟨some d, .load t (.tmp c),ty,pos,aft,none⟩:=
 zL0 (fun _ e=>by cases e) fun b W _ hh=>by
  have e1:=hx _ _ (hh (.tmp c) (by simp [Op.operands]))
  obtain ⟨hy,_⟩:=qT hB
  obtain ⟨cs,_,_,h3,h4,_⟩:=h.bx.mem y hy
  refine ⟨.agg cs.toArray,fun W' hb'=> ?_⟩
  have h5:W'.heap[y.b]?=some (.cells cs.toArray y.e (0,0)):=(hb'.block _ (pP.1 h3).1).trans h3
  have e2:b.eval (.tmp c)= (pO y.b 0):=e1
  simp [execOp,Instr.loadAt,e2,Instr.sureAddr,zC6 hsz (hyl _ _ h4) h5]
theorem zId {CW:Wb->Prop}: ∀i o,inL [] i=true->ops[i]?=some o->FdC P CW w0 ops G o:=fun _ _ h=>by cases h
theorem zBD {k:Nat} {o':Oper} {l:List Nat} (hk:ops[k]?=some o') {CW:Wb->Prop} (h:FdC P CW w0 ops G o') (hl: ∀i o,inL l i=true->ops[i]?=some o->FdC P CW w0 ops G o): ∀i o,inL (k::l) i=true->ops[i]?=some o->FdC P CW w0 ops G o:=fun i o hi ho=>by
 have hi:(bif Nat.beq k i then true else inL l i)=true:=hi
 cases e:Nat.beq k i with
 |true=>
  have:=rQ e
  subst this
  rw [hk] at ho
  cases ho
  exact h
 |false=>
  rw [e] at hi
  exact hl i o hi ho
end
section
variable {S:Nat->Prop} {F:Fence} {m:Nat} {P:Wh} {Q:Exit->Act->Wb->Prop} {w0 w1:Wb} {K K0:List (Nat×KF)} {B B0:List Bx} {n n0:Nat} {ds ds0:List Deferred} {a a0:Act} {w:Wb}
end
end Go.Proofs.Wd
