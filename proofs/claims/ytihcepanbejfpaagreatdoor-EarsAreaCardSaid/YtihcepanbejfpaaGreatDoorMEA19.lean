/- Natural numbers as values, and what prod and the references answer of  and what it needs. -/
import Derived.Test.YtihcepanbejfpaaGreatDoorMEA13
import Derived.Test.YtihcepanbejfpaaGreatDoorMEA7
import Derived.Test.YtihcepanbejfpaaGreatDoorMEA17
import Derived.Test.YtihcepanbejfpaaGreatDoorMEA6
import Derived.Test.YtihcepanbejfpaaGreatDoorMEA9
import Derived.Test.YtihcepanbejfpaaGreatDoorMEA3
import Derived.Test.YtihcepanbejfpaaGreatDoorMEA1
theorem kG {P:Prop} (h:P:=by kernel_rfl):P:=h
theorem oN {P:Prop} (h:P:=by omega):P:=h
theorem fL {P:Prop} (h:P:=by simp):P:=h
abbrev pE:=@List.all_eq_true
abbrev pF:=@Array.getElem?_eq_some_iff
abbrev pG:=@Go.World.putObj_heap_other
abbrev pH:=@List.mem_range
abbrev pI:=@Go.getD_set_ne
abbrev pJ:=@List.mem_map
abbrev pK:=@Bool.and_eq_true
abbrev pL:=@Nat.le_trans
abbrev pM:=@Go.RowKit.Below.refl
abbrev pN:=@Array.getD_eq_getD_getElem?
abbrev pP:=@List.contains_iff_mem
abbrev pQ:=@List.any_eq_true
abbrev pR:=@Go.Oper.semAt_eq
abbrev pS:=@Nat.lt_or_ge
abbrev pT:=@Nat.lt_of_lt_of_le
abbrev pU:=@Go.World.cell?_of_block
abbrev pV:=@List.mem_cons
abbrev pW:=@Array.getElem?_eq_getElem
abbrev pX:=@List.map_cons
abbrev pY:=@Nat.le_refl
abbrev pZ:=@Array.getElem?_eq_none
abbrev rA:=@beq_iff_eq
abbrev rB:=@congrArg
abbrev rC:=@Go.Sem.run_bind
abbrev rD:=@Go.mem_ready
abbrev rE:=@Go.run_underlying
abbrev rF:=@List.getElem?_eq_some_iff
abbrev rG:=@List.mem_append
abbrev rH:=@Nat.add_mul
abbrev rI:=@Go.Addr.add_lit
abbrev rJ:=@Nat.eq_of_beq_eq_true
abbrev rK:=@List.any_eq_false
abbrev rL:=@Go.Code.wpIn_mono
abbrev rM:=@Go.World.putObj_size
abbrev rN:=@Go.Sem.run_pure
abbrev rO:=@List.length_append
abbrev rP:=@Bool.not_eq_true'
abbrev rQ:=@List.map_nil
abbrev rR:=@decide_eq_true_eq
abbrev rS:=@List.mem_append_right
abbrev rT:=@Prod.mk.injEq
abbrev rU:=@List.mem_cons_self
abbrev rV:=@List.mem_cons_of_mem
abbrev rW:=@Go.Result.andThen_ok
abbrev rX:=@Classical.choose_spec
abbrev rY:=@Classical.not_forall
abbrev rZ:=@Array.getElem?_replicate
abbrev sC:=@Array.getElem_mem
abbrev sD:=@Go.World.block_lt_of_cell?
abbrev sE:=@List.all_append
abbrev sF:=@Nat.mul_le_mul_right
abbrev sG:=@List.map_toArray
abbrev sI:=@List.getElem?_eq_getElem
abbrev sJ:=@Go.World.alloc_heap_new
abbrev sK:=@Array.getElem?_toList
abbrev sL:=@Go.World.putObj_heap_same
abbrev sO:=@Go.run_endLoop
abbrev sP:=@List.length_drop
abbrev sQ:=@List.take_of_length_le
abbrev sS:=@Option.some.injEq
abbrev sT:=@List.mem_of_mem_take
abbrev sU:=@List.mem_append_left
abbrev sV:=@List.foldl_cons
abbrev sX:=@List.nodup_cons
abbrev sY:=@of_decide_eq_true
abbrev sZ:=@Bool.or_eq_true
abbrev tA:=@List.nil_append
abbrev tB:=@List.size_toArray
abbrev tC:=@Array.toList_append
abbrev tD:=@List.length_take
abbrev tE:=@Classical.byContradiction
abbrev tF:=@List.getElem?_take_of_lt
abbrev tG:=@Array.count_replicate_self
abbrev tH:=@Array.getElem?_append_left
abbrev tI:=@List.getElem?_append_left
abbrev tJ:=@List.getElem?_append_right
abbrev tK:=@List.take_append_of_le_length
abbrev tL:=@List.getD_eq_getElem?_getD
abbrev tM:=@List.getElem?_zip_eq_some
abbrev Wb:=Go.World
abbrev Wc:=Go.Value
abbrev We:=Go.TypeId
abbrev Wf:=Option
abbrev Wg:=Go.Operand
abbrev Wh:=Go.Program
namespace Go.Proofs.Wd
open Tryz
open Go.RowKit Lb
def LV (W:Wb) (m:Nat) (v:Wc) (x:Nat):Prop:= ∃A n c l,v= .slice A n c/\Rd W A n c l/\Lt l/\n<=m/\val l=x
theorem LV.below {W W':Wb} {m:Nat} {v:Wc} {x:Nat} (h:LV W m v x) (hb:Below W.heap.size W W'):LV W' m v x:=by
 obtain ⟨A,n,c,l,rfl,h1,h2⟩:=h
 exact ⟨A,n,c,l,rfl,h1.below hb,h2⟩
theorem LV.mono {W:Wb} {m m':Nat} {v:Wc} {x:Nat} (h:LV W m v x) (hm:m<=m'):LV W m' v x:=by
 obtain ⟨A,n,c,l,rfl,h1,h2,h3,h4⟩:=h
 exact ⟨A,n,c,l,rfl,h1,h2,by omega,h4⟩
theorem LV.bound {W:Wb} {m:Nat} {v:Wc} {x:Nat} (h:LV W m v x):x<BB^m:=by
 obtain ⟨A,n,c,l,rfl,h1,h2,h3,rfl⟩:=h
 exact pT (qM h2) (Nat.pow_le_pow_right yS (by rw [h1.len];exact h3))
theorem qC.lv {W:Wb} {v:Wc} {x m:Nat} (h:qC W v x) (hx:x<BB^m):LV W m v x:=by
 obtain ⟨A,n,c,l,rfl,h1,h2⟩:=h
 exact ⟨A,n,c,l,rfl,h2,h1.lt,by rw [<-h2.len];exact h1.len hx,h1.val⟩
def zLU (w:Wb) (x:Nat):Ending->Wb->Prop:=fun e w'=> ∃v,e= .returned v/\qC w' v x/\Below w.heap.size w w'
theorem qZ.v {w:Wb} {x:Nat} {e:Ending} {w':Wb} (h:qZ w x e w'):zLU w x e w':=by
 obtain ⟨A,n,c,l,rfl,h1,h2,h3⟩:=h
 exact ⟨_,rfl,⟨A,n,c,l,rfl,h1,h2⟩,h3⟩
theorem zRe {W:Wb} {m:Nat} {v v':Wc} {a b:Nat} (h:LV W m v a) (h':LV W m v' b) (hm:m<=40000):Calls prog 106 #[v,v'] W (zLU W (a*b)):=by
 obtain ⟨A,n,c,l,rfl,h1,h2,h3,rfl⟩:=h
 obtain ⟨A',n',c',l',rfl,h1',h2',h3',rfl⟩:=h'
 exact (zKW A n c l A' n' c' l' W h1 h1' h2 h2' oN oN).mono fun _ _=>qZ.v
def zTm (w:Wb) (x y:Nat):Ending->Wb->Prop:=fun e w'=> ∃v v',e= .returned (.tuple #[v,v'])/\qC w' v x/\qC w' v' y/\Below w.heap.size w w'
theorem LV.open {W:Wb} {m:Nat} {v:Wc} {x:Nat} (h:LV W m v x): ∃A n c,v= .slice A n c/\n<=m/\n<=c/\c<=9223372036854775807/\LV W m (.slice A n c) x:=by
 obtain ⟨A,n,c,l,rfl,h1,h2,h3,h4⟩:=h
 exact ⟨A,n,c,rfl,h3,h1.le,h1.cap,⟨A,n,c,l,rfl,h1,h2,h3,h4⟩⟩
def zTn (w:Wb) (a b:Nat):Ending->Wb->Prop:=fun e w'=> ∃v v',e= .returned (.tuple #[v,v', .int .i64 0])/\qC w' v (a / b)/\qC w' v' (a % b)/\Below w.heap.size w w'
theorem zQQ {W:Wb} {m:Nat} {v v':Wc} {a b:Nat} (h:LV W m v a) (h':LV W m v' b) (hm:m<=10000) (h0:0<b):Calls prog 85 #[v,v'] W (zTn W a b):=by
 obtain ⟨A,n,c,l,rfl,h1,h2,h3,rfl⟩:=h
 obtain ⟨A',n',c',l',rfl,h1',h2',h3',rfl⟩:=h'
 refine (zMG A n c l A' n' c' l' W h1 h1' h2 h2' oN oN h0).mono ?_
 rintro e w' ⟨A1,n1,c1,l1,A2,n2,c2,l2,rfl,i1,r1,i2,r2,hb⟩
 exact ⟨_,_,rfl,⟨A1,n1,c1,l1,rfl,i1,r1⟩,⟨A2,n2,c2,l2,rfl,i2,r2⟩,hb⟩
theorem zQR {W:Wb} {m:Nat} {v v':Wc} {a b:Nat} (h:LV W m v a) (h':LV W m v' b):Calls prog 114 #[v,v'] W fun e w'=>e= .returned (.int .i64 (zAp a b))/\W=w':=by
 obtain ⟨A,n,c,l,rfl,h1,h2,h3,rfl⟩:=h
 obtain ⟨A',n',c',l',rfl,h1',h2',h3',rfl⟩:=h'
 exact zDW A n c l A' n' c' l' W h1 h1' h2 h2'
theorem zO9 {W:Wb} {m:Nat} {A:Wf Addr} {n c:Nat} {A':Wf Addr} {n' c':Nat} {x y:Nat} (h:LV W m (.slice A n c) x) (h':LV W m (.slice A' n' c') y) (hm:m<=10000) (t:We):
  Calls prog 111 #[.slice (some ⟨W.heap.size,0,none⟩) 2 2] (W.alloc (.cells #[.slice A n c, .slice A' n' c'] t)) (zLU (W.alloc (.cells #[.slice A n c, .slice A' n' c'] t)) (x+y)):=by
 obtain ⟨A1,n1,c1,l,e1,h1,h2,h3,rfl⟩:=h
 obtain ⟨A2,n2,c2,l',e2,h1',h2',h3',rfl⟩:=h'
 cases e1
 cases e2
 have:=zDX _ 2 2 _ _ (Rds.two h1 h2 oN h1' h2' oN t) (by decide)
 simp only [pX,rQ,List.sum_cons,List.sum_nil,Nat.add_zero] at this
 exact this.mono fun _ _=>qZ.v
def qR (x:Nat):UF:= .mk' (fun v w=>qC w v x) fun _ _ _ ⟨A,n,c,l,e,h1,h2⟩ k=>⟨A,n,c,l,e,h1,h2.keepU k⟩
def fLV (m x:Nat):UF:= .mk' (fun v w=>LV w m v x) fun _ _ _ ⟨A,n,c,l,e,h1,h2⟩ k=>⟨A,n,c,l,e,h1.keepU k,h2⟩
def fNV (k:Int):UF:= .mk' (fun v w=>NV w v k) fun _ _ _ ⟨A,n,c,l,e,h1,h2⟩ k=>⟨A,n,c,l,e,h1,h2.keepU k⟩
def fUV (m:Nat) (k:Int):UF:= .mk' (fun v w=>UV w m v k) fun _ _ _ ⟨s,A,n,c,l,e,h1,h2⟩ k=>⟨s,A,n,c,l,e,h1.keepU k,h2⟩
def fB (b:Bool):UF:= .eq (.bool b)
def fI (z:Int):UF:= .eq (.int .i64 z)
theorem zSf {F:Fence} {m:Nat} {P:Wh} {w0:Wb} {ops:Array Oper} {G:Nat->SF} {o:Oper} {l:List Oper} (h:qK F m P w0 ops G o) (k:Obs F m P w0 ops G l):Obs F m P w0 ops G (o::l):=⟨h,k⟩
theorem oc {F:Fence} {m:Nat} {P:Wh} {w0:Wb} {ops:Array Oper} {G:Nat->SF} {o:Oper} {l:List Oper} (h:qK F m P w0 ops G o) (k:Obs F m P w0 ops G l):Obs F m P w0 ops G (o::l):=⟨h,k⟩
theorem lr {n:Nat}:n<=n:=pY n
theorem arf {α:Sort _} {a:α} {p:Prop}:a≠a->p:=fun e=>absurd rfl e
abbrev zP6:List Wc:= [.bool false, .slice none 0 0, .slice none 0 0, .bool false, .slice none 0 0, .slice none 0 0]
abbrev zR3:List Wc:= [.bool false, .slice none 0 0, .slice none 0 0]
theorem fmz {α:Type} {p:α->Prop} {a:α} {l:List α} (h:p a/\ ∀x,x∈l->p x): ∀x,x∈a::l->p x:=List.forall_mem_cons.2 h
theorem fnz {α:Type} {p:α->Prop}: ∀x,x∈([]:List α)->p x:=List.forall_mem_nil p
theorem iiz {α β:Type} {p:α->β->Prop}: ∀a b,p a b->p a b:=fun _ _ h=>h
theorem mz1 {α:Type} {a b0:α} {l:List α}:a∈b0::a::l:= .tail _ (.head _)
theorem mz2 {α:Type} {a b0 b1:α} {l:List α}:a∈b0::b1::a::l:= .tail _ (.tail _ (.head _))
theorem mz3 {α:Type} {a b0 b1 b2:α} {l:List α}:a∈b0::b1::b2::a::l:= .tail _ (.tail _ (.tail _ (.head _)))
theorem mz4 {α:Type} {a b0 b1 b2 b3:α} {l:List α}:a∈b0::b1::b2::b3::a::l:= .tail _ (.tail _ (.tail _ (.tail _ (.head _))))
theorem mz5 {α:Type} {a b0 b1 b2 b3 b4:α} {l:List α}:a∈b0::b1::b2::b3::b4::a::l:= .tail _ (.tail _ (.tail _ (.tail _ (.tail _ (.head _)))))
theorem mz6 {α:Type} {a b0 b1 b2 b3 b4 b5:α} {l:List α}:a∈b0::b1::b2::b3::b4::b5::a::l:= .tail _ (.tail _ (.tail _ (.tail _ (.tail _ (.tail _ (.head _))))))
theorem mz7 {α:Type} {a b0 b1 b2 b3 b4 b5 b6:α} {l:List α}:a∈b0::b1::b2::b3::b4::b5::b6::a::l:= .tail _ (.tail _ (.tail _ (.tail _ (.tail _ (.tail _ (.tail _ (.head _)))))))
theorem mz8 {α:Type} {a b0 b1 b2 b3 b4 b5 b6 b7:α} {l:List α}:a∈b0::b1::b2::b3::b4::b5::b6::b7::a::l:= .tail _ (.tail _ (.tail _ (.tail _ (.tail _ (.tail _ (.tail _ (.tail _ (.head _))))))))
theorem mz9 {α:Type} {a b0 b1 b2 b3 b4 b5 b6 b7 b8:α} {l:List α}:a∈b0::b1::b2::b3::b4::b5::b6::b7::b8::a::l:= .tail _ (.tail _ (.tail _ (.tail _ (.tail _ (.tail _ (.tail _ (.tail _ (.tail _ (.head _)))))))))
theorem zJv {α:Type} {a b0 b1 b2 b3 b4 b5 b6 b7 b8 b9:α} {l:List α}:a∈b0::b1::b2::b3::b4::b5::b6::b7::b8::b9::a::l:= .tail _ (.tail _ (.tail _ (.tail _ (.tail _ (.tail _ (.tail _ (.tail _ (.tail _ (.tail _ (.head _))))))))))
theorem zRc {α:Type} {a b0 b1 b2 b3 b4 b5 b6 b7 b8 b9 b10:α} {l:List α}:a∈b0::b1::b2::b3::b4::b5::b6::b7::b8::b9::b10::a::l:= .tail _ (.tail _ (.tail _ (.tail _ (.tail _ (.tail _ (.tail _ (.tail _ (.tail _ (.tail _ (.tail _ (.head _)))))))))))
theorem zSg {α:Type} {a b0 b1 b2 b3 b4 b5 b6 b7 b8 b9 b10 b11:α} {l:List α}:a∈b0::b1::b2::b3::b4::b5::b6::b7::b8::b9::b10::b11::a::l:= .tail _ (.tail _ (.tail _ (.tail _ (.tail _ (.tail _ (.tail _ (.tail _ (.tail _ (.tail _ (.tail _ (.tail _ (.head _))))))))))))
theorem zRb {α:Type} {a b0 b1 b2 b3 b4 b5 b6 b7 b8 b9 b10 b11 b12:α} {l:List α}:a∈b0::b1::b2::b3::b4::b5::b6::b7::b8::b9::b10::b11::b12::a::l:= .tail _ (.tail _ (.tail _ (.tail _ (.tail _ (.tail _ (.tail _ (.tail _ (.tail _ (.tail _ (.tail _ (.tail _ (.tail _ (.head _)))))))))))))
theorem zTD {α:Type} {a b0 b1 b2 b3 b4 b5 b6 b7 b8 b9 b10 b11 b12 b13:α} {l:List α}:a∈b0::b1::b2::b3::b4::b5::b6::b7::b8::b9::b10::b11::b12::b13::a::l:= .tail _ (.tail _ (.tail _ (.tail _ (.tail _ (.tail _ (.tail _ (.tail _ (.tail _ (.tail _ (.tail _ (.tail _ (.tail _ (.tail _ (.head _))))))))))))))
theorem zTC {α:Type} {a b0 b1 b2 b3 b4 b5 b6 b7 b8 b9 b10 b11 b12 b13 b14:α} {l:List α}:a∈b0::b1::b2::b3::b4::b5::b6::b7::b8::b9::b10::b11::b12::b13::b14::a::l:= .tail _ (.tail _ (.tail _ (.tail _ (.tail _ (.tail _ (.tail _ (.tail _ (.tail _ (.tail _ (.tail _ (.tail _ (.tail _ (.tail _ (.tail _ (.head _)))))))))))))))
theorem zE {F:Fence} {m:Nat} {P:Wh} {w0:Wb} {ops:Array Oper} {G:Nat->SF}:Obs F m P w0 ops G []:=trivial
def CF.at (C:CF) (k:Nat):CF:=⟨fun cs w=> ∃ds,C.p ds w/\cs=ds.drop k,fun _ _ _ ⟨ds,h1,h2⟩ hb=>⟨ds,C.st _ _ _ h1 hb,h2⟩⟩
abbrev Rw.X (f:UF) (n:Nat):Rw:=.s (wC ((CU.agg f).cf.at n))
abbrev Rw.Y (f:UF):Rw:=.s (wC (cg f))
section
variable {F:Fence} {m:Nat} {P:Wh} {w0:Wb} {ops:Array Oper} {G:Nat->SF} {d:Tmp} {ty:We} {pos:String} {aft:Array Edge}
theorem zP {x:Wg} {s:We} {f:Nat} {C:CF} (k:Nat) (hk:zCz P s f=some k) (hx: ∀v W,(fct G x).p v W->(wC C).p v W:=by first|exact fun _ _ h=>h|exact fun _ _ h=>h.2) (hd: ∀v W,(wC (C.at k)).p v W->(G d).p v W:=by exact fun _ _ h=>h):qK F m P w0 ops G ⟨some d, .fieldAddr s x f,ty,pos,aft,none⟩:=
 zIx (C':=C.at k) k hk hx (fun cs _ h=>⟨cs,h,rfl⟩) hd
theorem yZ {x:Wg} {s:We} {f:Nat} {C:CF} (i k:Nat) (hk:zCz P s f=some k) (hx: ∀v W,(fct G x).p v W->(wC (C.at i)).p v W:=by exact fun _ _ h=>h) (hd: ∀v W,(wC (C.at (i+k))).p v W->(G d).p v W:=by exact fun _ _ h=>h):qK F m P w0 ops G ⟨some d, .fieldAddr s x f,ty,pos,aft,none⟩:=
 zIx (C':=C.at (i+k)) k hk hx (fun cs _ ⟨ds,h1,h2⟩=>⟨ds,h1,by rw [h2,List.drop_drop]⟩) hd
theorem jI {x:Wg} {t:We} {C:CF} {k:Nat} (hk:zCL P t=true) (hx: ∀v W,(fct G x).p v W->(wC (C.at k)).p v W:=by exact fun _ _ h=>h) (h: ∀cs W,C.p cs W-> ∃u,cs[k]?=some u/\(G d).p u W):qK F m P w0 ops G ⟨some d, .load t x,ty,pos,aft,none⟩:=
 yW hk hx fun cs W ⟨ds,h1,h2⟩=>let ⟨u,h3,h4⟩:=h ds W h1;⟨u,by rw [h2,List.getElem?_drop];exact h3,h4⟩
theorem zS {x:Wg} {t:We} {C:CF} {k:Nat} (z:Nat) (hk:zAN P t=some z) (hx: ∀v W,(fct G x).p v W->(wC (C.at k)).p v W:=by exact fun _ _ h=>h) (h: ∀cs W,C.p cs W->k+z<=cs.length/\(G d).p (.agg ((cs.drop k).take z).toArray) W):qK F m P w0 ops G ⟨some d, .load t x,ty,pos,aft,none⟩:=
 zBO z hk hx fun cs W ⟨ds,h1,h2⟩=>let ⟨h3,h4⟩:=h ds W h1;⟨by rw [h2,sP];omega,by rw [h2];exact h4⟩
theorem zR {x:Wg} {t:We} {f:UF} (z:Nat) (hk:zAN P t=some z) (hx: ∀v W,(fct G x).p v W->(wC (cg f)).p v W:=by first|exact fun _ _ h=>h|exact fun _ _ h=>h.2) (hz: ∀cs:List Wc, ∀W,f.p (.agg cs.toArray) W->cs.length=z) (hd: ∀v W,f.p v W->(G d).p v W:=by exact fun _ _ h=>h):qK F m P w0 ops G ⟨some d, .load t x,ty,pos,aft,none⟩:=
 zBO z hk hx fun cs W h=>⟨by rw [hz cs W h];exact pY _,by
  have h1:=hz cs W h
  rw [sQ oN]
  exact hd _ _ h⟩
theorem zBN {x:Wg} {a:Addr} (hx: ∀v W,(fct G x).p v W->v= .pointer (some a)) (hd: ∀W,(G d).p (.pointer (some a)) W:=by exact fun _=>rfl):qK F m P w0 ops G ⟨some d, .nilCheck x,ty,pos,aft,none⟩:=
 qO (fun _ e=>by cases e) (fun _ e=>by cases e) fun b W hb hh=>by
  have e:=hx _ _ (hh x (by simp [Op.operands]))
  exact ⟨.pointer (some a),by simp [execOp,e],hd W⟩
theorem jS {x:Wg} {s:We} {f:Nat} {b o:Nat} (k:Nat) (hk:zCz P s f=some k) (hx: ∀v W,(fct G x).p v W->v= pO b o) (hd: ∀W,(G d).p (.pointer (some ⟨b,o+k,none⟩)) W:=by exact fun _=>rfl):qK F m P w0 ops G ⟨some d, .fieldAddr s x f,ty,pos,aft,none⟩:=
 qO (fun _ e=>by cases e) (fun _ e=>by cases e) fun c W hb hh=>by
  have e:=hx _ _ (hh x (by simp [Op.operands]))
  refine ⟨.pointer (some ⟨b,o+k,none⟩), ?_,hd W⟩
  unfold zCz at hk
  split at hk<;>try cases hk
  rename_i fs hu
  split at hk<;>try cases hk
  rename_i f' hf
  split at hk<;>try cases hk
  rename_i i hi
  split at hk<;>try cases hk
  rename_i hz
  simp [execOp,Instr.fieldAt,rE hu,hf,e,Instr.sureAddr,fieldPlace,sizeOf,typeInfo,hi,hz,rI]
theorem wD {W:Wb} {f g:SF} (h: ∀v W,f.p v W->g.p v W): ∀e W',Ret W f e W'->Ret W g e W':=fun _ _ ⟨v,e,h1,h2⟩=>⟨v,e,h _ _ h1,h2⟩
end
theorem jT {xs ys:Array Wc} (h:Value.agg xs=Value.agg ys):xs=ys:=by injection h
theorem zL6 {cs:List Wc} {W:Wb} {m:Nat} {k:Int} (h:(fUV m k).p (.agg cs.toArray) W): ∃s A n c,cs= [.bool s, .slice A n c]/\ ∃l,Rd W A n c l/\Lt l/\n<=m/\iv s l=k:=by
 obtain ⟨s,A,n,c,l,e,h1⟩:=h
 have:=rB Array.toList (jT e)
 exact ⟨s,A,n,c,by simpa using this,l,h1⟩
theorem zFQ {cs:List Wc} {W:Wb} {k:Int} (h:(fNV k).p (.agg cs.toArray) W): ∃A n c,cs= [.bool (decide (k<0)), .slice A n c]/\ ∃l,Is l k.natAbs/\Rd W A n c l:=by
 obtain ⟨A,n,c,l,e,h1⟩:=h
 have:=rB Array.toList (jT e)
 exact ⟨A,n,c,by simpa using this,l,h1⟩
theorem zNH (m:Nat) (k:Int): ∀cs:List Wc, ∀W,(fUV m k).p (.agg cs.toArray) W->cs.length=2:=fun cs W h=>by
 obtain ⟨s,A,n,c,rfl,_⟩:=zL6 h
 rfl
theorem zOe (k:Int): ∀cs:List Wc, ∀W,(fNV k).p (.agg cs.toArray) W->cs.length=2:=fun cs W h=>by
 obtain ⟨A,n,c,rfl,_⟩:=zFQ h
 rfl
theorem zGJ {k:Int} (cs:List Wc) (W:Wb) (h:(CU.agg (fNV k)).p cs W): ∃u,cs[1]?=some u/\qC W u k.natAbs:=by
 obtain ⟨A,n,c,rfl,l,h1,h2⟩:=zFQ h
 exact ⟨_,rfl,A,n,c,l,rfl,h1,h2⟩
theorem zKU {k:Int} (cs:List Wc) (W:Wb) (h:(CU.agg (fNV k)).p cs W): ∃u,cs[0]?=some u/\u= .bool (decide (k<0)):=by
 obtain ⟨A,n,c,rfl,l,h1,h2⟩:=zFQ h
 exact ⟨_,rfl,rfl⟩
theorem zNI {m:Nat} {k:Int} {v:Wc} {W:Wb} (h:(fUV m k).p v W):(CU.agg (fUV m k)).p v.cells.toList W/\v.cells.toList.all zV=true:=by
 obtain ⟨s,A,n,c,l,rfl,h1⟩:=h
 exact ⟨⟨s,A,n,c,l,rfl,h1⟩,rfl⟩
theorem zFO {k:Int} (v:Wc) (W:Wb) (h:(fNV k).p v W): ∃vs:List Wc,v= .agg vs.toArray/\vs.length=2/\(∀u,u∈vs->u.oneCell'=true)/\vs.all zV=true/\(CU.agg (fNV k)).p vs W:=by
 obtain ⟨A,n,c,l,rfl,h1⟩:=h
 exact ⟨[_,_],rfl,rfl,fun u hu=>by simp at hu;rcases hu with rfl|rfl<;>rfl,rfl,A,n,c,l,rfl,h1⟩
theorem NV.nat {W:Wb} {v:Wc} {k:Int} (h:NV W v k): ∃A n c,v= .agg #[.bool (decide (k<0)), .slice A n c]/\qC W (.slice A n c) k.natAbs:=by
 obtain ⟨A,n,c,l,rfl,h1,h2⟩:=h
 exact ⟨A,n,c,rfl,A,n,c,l,rfl,h1,h2⟩
theorem zTZ (s:Bool) (A:Wf Addr) (n c:Nat):prog.built 26 [(0, .bool s),(1, .slice A n c)]=some #[.bool s, .slice A n c]:=by kernel_rfl
theorem zP8 {s:Bool} {u v:Wc} {W:Wb} {m x:Nat} (hu:u= .bool s) (hv:qC W v x) (hx:x<BB^m): ∃cells,prog.built 26 [(0,u),(1,v)]=some cells/\UV W m (.agg cells) (if s then -(x:Int) else x):=by
 obtain ⟨A,n,c,l,rfl,h1,h2⟩:=hv
 subst hu
 refine ⟨_,zTZ s A n c,s,A,n,c,l,rfl,h2,h1.lt,by rw [<-h2.len];exact h1.len hx, ?_⟩
 unfold iv
 rw [h1.val]
theorem zQK (s s':Bool) (A A':Wf Addr) (n n' c c':Nat):z9 prog 109 2 [(0, .agg #[.bool s, .slice A n c]),(1, .agg #[.bool s', .slice A' n' c'])]=some (26,#[.bool s, .slice A n c, .bool s', .slice A' n' c']):=by kernel_rfl
theorem zAS {u v:Wc} {W:Wb} {m:Nat} {k k':Int} (hu:UV W m u k) (hv:UV W m v k'): ∃e cs,z9 prog 109 2 [(0,u),(1,v)]=some (e,cs)/\ISV (W.alloc (.cells cs e)) m (.slice (some ⟨W.heap.size,0,none⟩) 2 2) [k,k']:=by
 obtain ⟨s,A,n,c,l,rfl,h1,h2,h3,rfl⟩:=hu
 obtain ⟨s',A',n',c',l',rfl,h1',h2',h3',rfl⟩:=hv
 exact ⟨_,_,zQK s s' A A' n n' c c',ISV.two ⟨s,A,n,c,l,rfl,h1,h2,h3,rfl⟩ ⟨s',A',n',c',l',rfl,h1',h2',h3',rfl⟩ _⟩
def zJm (m:Nat) (ks:List Int):SF:=⟨fun v W=>ISV W m v ks,fun _ _ _ h hb=>h.below hb⟩
def zOk (x:Nat):SF:=⟨fun v _=> ∃n:Nat,v= .int .i64 n/\(x=0↔n=0),fun _ _ _ h _=>h⟩
section
variable {F:Fence} {m:Nat} {P:Wh} {w0:Wb} {ops:Array Oper} {G:Nat->SF} {d:Tmp} {ty:We} {pos:String} {aft:Array Edge}
theorem zCa {x:Wg} {t:We} (ht:P.underlying t=some (.slice (P.elem t))) (h: ∀v W,(fct G x).p v W-> ∃A n c,v= .slice A n c/\(G d).p (.int .i64 (n:Nat)) W):qK F m P w0 ops G ⟨some d, .call ⟨.builtin .len,#[x],#[t]⟩,ty,pos,aft,none⟩:=by
 intro b W K Q hb hr hK
 obtain ⟨A,n,c,e,hd⟩:=h _ _ (yU hr (x:=x) (by simp [Op.operands,Call.operands]))
 refine ⟨fun f hf=>(by
  unfold Oper.about at hf
  simp [resolve,go_sem] at hf), ?_⟩
 rw [pR _ _ _ (fun _ e=>by cases e)]
 have:(execOp b.eval ⟨some d, .call ⟨.builtin .len,#[x],#[t]⟩,ty,pos,aft,none⟩).run P W= .ok (.value (.int .i64 (n:Nat))) W:=by
  simp [execOp,resolve,invoke,builtin,e,run_len_slice _ _ _ _ _ _ ht,goInt]
 rw [this]
 exact hK _ _ (fun d' e'=>by cases e';exact hd) (pM _ _)
theorem zDx {x:Wg} {t:We} {k:Nat} (ht:P.underlying t=some (.slice (P.elem t))) (hx: ∀v W,(fct G x).p v W->qC W v k) (hd: ∀v W,(zOk k).p v W->(G d).p v W:=by exact fun _ _ h=>h):qK F m P w0 ops G ⟨some d, .call ⟨.builtin .len,#[x],#[t]⟩,ty,pos,aft,none⟩:=
 zCa ht fun v W h=>by
  obtain ⟨A,n,c,l,e,h1,h2⟩:=hx v W h
  exact ⟨A,n,c,e,hd _ _ ⟨n,rfl,by rw [<-h2.len];exact h1.zero_iff⟩⟩
theorem zPy {op:BinOp} {t:We} {x y:Wg} {t':We} (h: ∀u v W,(fct G x).p u W->(fct G y).p v W-> ∃r,(∀W,(eqGuard op t x y u v).run P W= .ok () W)/\(∀W,(binOp op t u v).run P W= .ok r W)/\(G d).p r W):qK F m P w0 ops G ⟨some d, .binOp op t x y t',ty,pos,aft,none⟩:=
 qO (fun _ e=>by cases e) (fun _ e=>by cases e) fun b W hb hh=>by
  obtain ⟨r,h1,h2,h3⟩:=h _ _ W (hh x (by simp [Op.operands])) (hh y (by simp [Op.operands]))
  exact ⟨r,by simp [execOp,h1,h2],h3⟩
theorem zDy {t:We} {x:Wg} {t':We} {k:Nat} {b:Bool} (hb:b=decide (k=0)) (hx: ∀v W,(fct G x).p v W->(zOk k).p v W:=by exact fun _ _ h=>h) (hd: ∀W,(G d).p (.bool b) W:=by exact fun _=>rfl):qK F m P w0 ops G ⟨some d, .binOp .eql t x (.const (.int .i64 0)) t',ty,pos,aft,none⟩:=
 zPy fun u v W hu hv=>by
  obtain ⟨n,rfl,h1⟩:=hx u W hu
  obtain rfl:v= .int .i64 0:=hv
  refine ⟨.bool b,fun _=>rfl,fun _=> ?_,hd W⟩
  have h2:((n:Int)==0)=b:=by
   rw [hb,Bool.eq_iff_iff]
   simp only [rA,rR]
   omega
  simp only [binOp,Op.intCmp]
  rw [h2]
  rfl
end
def QVp (m:Nat) (k:Int) (d:Nat) (v:Wc) (w:Wb):Prop:= ∃b s t,v= .agg #[b,s,t]/\UV w m (.agg #[b,s]) k/\LV w m t d
def QNp (q:Rat) (v:Wc) (w:Wb):Prop:= ∃b s t,v= .agg #[b,s,t]/\NV w (.agg #[b,s]) q.num/\qC w t q.den
def QMp (m:Nat) (k:Int) (d:Nat) (v:Wc) (w:Wb):Prop:= ∃b s t,v= .agg #[b,s,t]/\NV w (.agg #[b,s]) k/\LV w m t d
def QAp (m:Nat) (sg:Bool) (x:Nat) (d:Nat) (v:Wc) (w:Wb):Prop:= ∃s t,v= .agg #[.bool sg,s,t]/\qC w s x/\LV w m t d
def fQV (m:Nat) (k:Int) (d:Nat):UF:= .mk' (QVp m k d) fun _ _ _ ⟨b,s,t,e,h1,h2⟩ u=>⟨b,s,t,e,(fUV m k).us _ _ _ h1 u,(fLV m d).us _ _ _ h2 u⟩
def fQN (q:Rat):UF:= .mk' (QNp q) fun _ _ _ ⟨b,s,t,e,h1,h2⟩ u=>⟨b,s,t,e,(fNV q.num).us _ _ _ h1 u,(qR q.den).us _ _ _ h2 u⟩
def fQM (m:Nat) (k:Int) (d:Nat):UF:= .mk' (QMp m k d) fun _ _ _ ⟨b,s,t,e,h1,h2⟩ u=>⟨b,s,t,e,(fNV k).us _ _ _ h1 u,(fLV m d).us _ _ _ h2 u⟩
def fQA (m:Nat) (sg:Bool) (x d:Nat):UF:= .mk' (QAp m sg x d) fun _ _ _ ⟨s,t,e,h1,h2⟩ u=>⟨s,t,e,(qR x).us _ _ _ h1 u,(fLV m d).us _ _ _ h2 u⟩
theorem zAE {cs:List Wc} {b s t:Wc} (h:Value.agg cs.toArray= .agg #[b,s,t]):cs= [b,s,t]:=by
 have:=rB Array.toList (jT h)
 simpa using this
theorem zN6 (m:Nat) (k:Int) (d:Nat): ∀cs:List Wc, ∀W,(fQV m k d).p (.agg cs.toArray) W->cs.length=3:=fun cs W ⟨b,s,t,e,_⟩=>by rw [zAE e];rfl
theorem y9 (q:Rat): ∀cs:List Wc, ∀W,(fQN q).p (.agg cs.toArray) W->cs.length=3:=fun cs W ⟨b,s,t,e,_⟩=>by rw [zAE e];rfl
theorem zKy {m:Nat} {k:Int} {d:Nat} (cs:List Wc) (W:Wb) (h:(CU.agg (fQV m k d)).p cs W):0+2<=cs.length/\UV W m (.agg ((cs.drop 0).take 2).toArray) k:=by
 obtain ⟨b,s,t,e,h1,_⟩:=h
 rw [zAE e]
 exact ⟨by simp,h1⟩
theorem zGy {m:Nat} {k:Int} {d:Nat} (cs:List Wc) (W:Wb) (h:(CU.agg (fQV m k d)).p cs W): ∃u,cs[2]?=some u/\LV W m u d:=by
 obtain ⟨b,s,t,e,_,h1⟩:=h
 rw [zAE e]
 exact ⟨t,rfl,h1⟩
theorem zQW {m:Nat} {k:Int} {d:Nat} (cs:List Wc) (W:Wb) (h:(CU.agg (fQV m k d)).p cs W): ∃u,cs[0]?=some u/\ ∃s:Bool,u= .bool s:=by
 obtain ⟨b,s,t,e,⟨s',A,n,c,l,e',_⟩,_⟩:=h
 rw [zAE e]
 have:=rB Array.toList (jT e')
 exact ⟨b,rfl,s',by simp at this;exact this.1⟩
theorem zAQ {q:Rat} (cs:List Wc) (W:Wb) (h:(CU.agg (fQN q)).p cs W):0+2<=cs.length/\NV W (.agg ((cs.drop 0).take 2).toArray) q.num:=by
 obtain ⟨b,s,t,e,h1,_⟩:=h
 rw [zAE e]
 exact ⟨by simp,h1⟩
theorem zAC {q:Rat} (cs:List Wc) (W:Wb) (h:(CU.agg (fQN q)).p cs W): ∃u,cs[2]?=some u/\qC W u q.den:=by
 obtain ⟨b,s,t,e,_,h1⟩:=h
 rw [zAE e]
 exact ⟨t,rfl,h1⟩
theorem zQZ {q:Rat} (cs:List Wc) (W:Wb) (h:(CU.agg (fQN q)).p cs W): ∃u,cs[1]?=some u/\qC W u q.num.natAbs:=by
 obtain ⟨b,s,t,e,h1,_⟩:=h
 rw [zAE e]
 exact zGJ [b,s] W h1
theorem zQY {q:Rat} (cs:List Wc) (W:Wb) (h:(CU.agg (fQN q)).p cs W): ∃u,cs[0]?=some u/\u= .bool (decide (q.num<0)):=by
 obtain ⟨b,s,t,e,h1,_⟩:=h
 rw [zAE e]
 exact zKU [b,s] W h1
theorem zIn {q:Rat} (cs:List Wc) (W:Wb) (h:(CU.agg (fQN q)).p cs W):0+3<=cs.length/\QNp q (.agg ((cs.drop 0).take 3).toArray) W:=by
 have h1:=y9 q cs W h
 exact ⟨by omega,by rw [List.drop_zero,sQ oN];exact h⟩
theorem zQ1 {m:Nat} {k:Int} {d:Nat} (cs:List Wc) (W:Wb) (h:(CU.agg (fQM m k d)).p cs W): ∃u,cs[1]?=some u/\qC W u k.natAbs:=by
 obtain ⟨b,s,t,e,h1,_⟩:=h
 rw [zAE e]
 exact zGJ [b,s] W h1
theorem zQ0 {m:Nat} {k:Int} {d:Nat} (cs:List Wc) (W:Wb) (h:(CU.agg (fQM m k d)).p cs W): ∃u,cs[2]?=some u/\LV W m u d:=by
 obtain ⟨b,s,t,e,_,h1⟩:=h
 rw [zAE e]
 exact ⟨t,rfl,h1⟩
theorem LV.form {W:Wb} {m:Nat} {v:Wc} {x:Nat} (h:LV W m v x): ∃A n c,v= .slice A n c:=by
 obtain ⟨A,n,c,l,e,_⟩:=h
 exact ⟨A,n,c,e⟩
theorem qC.form {W:Wb} {v:Wc} {x:Nat} (h:qC W v x): ∃A n c,v= .slice A n c:=by
 obtain ⟨A,n,c,l,e,_⟩:=h
 exact ⟨A,n,c,e⟩
theorem UV.form {W:Wb} {m:Nat} {b s:Wc} {k:Int} (h:UV W m (.agg #[b,s]) k): ∃sg A n c,b= .bool sg/\s= .slice A n c:=by
 obtain ⟨s',A,n,c,l,e,_⟩:=h
 have:=rB Array.toList (jT e)
 simp at this
 exact ⟨s',A,n,c,this.1,this.2⟩
theorem NV.form {W:Wb} {b s:Wc} {k:Int} (h:NV W (.agg #[b,s]) k): ∃A n c,b= .bool (decide (k<0))/\s= .slice A n c:=by
 obtain ⟨A,n,c,l,e,_⟩:=h
 have:=rB Array.toList (jT e)
 simp at this
 exact ⟨A,n,c,this.1,this.2⟩
theorem zDv {m:Nat} {k:Int} {d:Nat} {v:Wc} {W:Wb} (h:(fQV m k d).p v W): ∃sg A n c A' n' c',v= .agg #[.bool sg, .slice A n c, .slice A' n' c']:=by
 obtain ⟨b,s,t,rfl,h1,h2⟩:=h
 obtain ⟨sg,A,n,c,rfl,rfl⟩:=h1.form
 obtain ⟨A',n',c',rfl⟩:=h2.form
 exact ⟨_,_,_,_,_,_,_,rfl⟩
theorem zB6 {q:Rat} {v:Wc} {W:Wb} (h:(fQN q).p v W): ∃A n c A' n' c',v= .agg #[.bool (decide (q.num<0)), .slice A n c, .slice A' n' c']:=by
 obtain ⟨b,s,t,rfl,h1,h2⟩:=h
 obtain ⟨A,n,c,rfl,rfl⟩:=h1.form
 obtain ⟨A',n',c',rfl⟩:=h2.form
 exact ⟨_,_,_,_,_,_,rfl⟩
theorem zEp {m:Nat} {k:Int} {d:Nat} {v:Wc} {W:Wb} (h:(fQV m k d).p v W):(CU.agg (fQV m k d)).p v.cells.toList W/\v.cells.toList.all zV=true:=by
 obtain ⟨sg,A,n,c,A',n',c',rfl⟩:=zDv h
 exact ⟨h,rfl⟩
theorem zIo {q:Rat} {v:Wc} {W:Wb} (h:(fQN q).p v W):(CU.agg (fQN q)).p v.cells.toList W/\v.cells.toList.all zV=true:=by
 obtain ⟨A,n,c,A',n',c',rfl⟩:=zB6 h
 exact ⟨h,rfl⟩
theorem zGf {sg:Bool} {A A':Wf Addr} {n c n' c':Nat} (u:Wc) (hu:u∈ [Value.bool sg, .slice A n c, .slice A' n' c']):u.oneCell'=true:=by
 simp at hu
 rcases hu with rfl|rfl|rfl<;>rfl
theorem yB {q:Rat} (v:Wc) (W:Wb) (h:(fQN q).p v W): ∃vs:List Wc,v= .agg vs.toArray/\vs.length=3/\(∀u,u∈vs->u.oneCell'=true)/\vs.all zV=true/\(CU.agg (fQN q)).p vs W:=by
 obtain ⟨A,n,c,A',n',c',rfl⟩:=zB6 h
 exact ⟨[_,_,_],rfl,rfl,zGf,rfl,h⟩
theorem zHx {q:Rat} {m:Nat} {v:Wc} {W:Wb} (h:QNp q v W) (hq:QB q m):QVp m q.num q.den v W:=by
 obtain ⟨b,s,t,e,h1,h2⟩:=h
 exact ⟨b,s,t,e,h1.uv' hq.1,h2.lv hq.2⟩
theorem zPo {m m':Nat} {k:Int} {d:Nat} {v:Wc} {W:Wb} (h:QVp m k d v W) (hm:m<=m'):QVp m' k d v W:=by
 obtain ⟨b,s,t,e,h1,h2⟩:=h
 exact ⟨b,s,t,e,h1.mono hm,h2.mono hm⟩
theorem zTX (s:Bool) (A A':Wf Addr) (n n' c c':Nat):prog.built 28 [(0, .agg #[.bool s, .slice A n c]),(1, .slice A' n' c')]=some #[.bool s, .slice A n c, .slice A' n' c']:=by kernel_rfl
theorem zG1 {u v:Wc} {W:Wb} {q:Rat} (hu:NV W u q.num) (hv:qC W v q.den): ∃cells,prog.built 28 [(0,u),(1,v)]=some cells/\QNp q (.agg cells) W:=by
 obtain ⟨A,n,c,rfl,h1⟩:=hu.nat
 obtain ⟨A',n',c',rfl⟩:=hv.form
 exact ⟨_,zTX _ _ _ _ _ _ _,_,_,_,rfl,hu,hv⟩
theorem zTg:z9 prog 24 1 [(0, .int .u32 1)]=some (69,#[.int .u32 1]):=by kernel_rfl
theorem zNV {u:Wc} {W:Wb} (hu:u= .int .u32 1): ∃e cs,z9 prog 24 1 [(0,u)]=some (e,cs)/\qC (W.alloc (.cells cs e)) (.slice (some ⟨W.heap.size,0,none⟩) 1 1) 1:=by
 subst hu
 refine ⟨_,_,zTg,_,1,1, [1],rfl,⟨fun y hy=>by simp at hy;subst hy;decide,fun hn=>by simp, ?_⟩,Rd.new W [1] _ _ (by simp [zA7]) fL⟩
 show sm (lm [1]) 1=1
 simp [sm,lm]
theorem zTh (A:Wf Addr) (n c:Nat):prog.built 26 [(1, .slice A n c)]=some #[.bool false, .slice A n c]:=by kernel_rfl
theorem zLJ {v:Wc} {W:Wb} {x:Nat} (hv:qC W v x): ∃cells,prog.built 26 [(1,v)]=some cells/\NV W (.agg cells) x:=by
 obtain ⟨A,n,c,l,rfl,h1,h2⟩:=hv
 refine ⟨_,zTh _ _ _,A,n,c,l,by rw [decide_eq_false oN],by rw [Int.natAbs_natCast];exact h1,h2⟩
theorem zTY (s:Bool) (A A':Wf Addr) (n n' c c':Nat):prog.built 98 [(0, .agg #[.bool s, .slice A n c, .slice A' n' c'])]=some #[.bool s, .slice A n c, .slice A' n' c']:=by kernel_rfl
theorem zR4 {v:Wc} {W:Wb} {m:Nat} {k:Int} {d:Nat} (hv:QVp m k d v W): ∃cells,prog.built 98 [(0,v)]=some cells/\QVp m k d (.agg cells) W:=by
 obtain ⟨sg,A,n,c,A',n',c',rfl⟩:=zDv hv
 exact ⟨_,zTY _ _ _ _ _ _ _,hv⟩
def QKp (k:Int) (d:Nat) (v:Wc) (w:Wb):Prop:= ∃b s t,v= .agg #[b,s,t]/\NV w (.agg #[b,s]) k/\qC w t d
def fQK (k:Int) (d:Nat):UF:= .mk' (QKp k d) fun _ _ _ ⟨b,s,t,e,h1,h2⟩ u=>⟨b,s,t,e,(fNV k).us _ _ _ h1 u,(qR d).us _ _ _ h2 u⟩
theorem zQ2 {k:Int} {d m:Nat} {v:Wc} {W:Wb} (h:QKp k d v W) (hk:Bd k m) (hd:d<BB^m):QVp m k d v W:=by
 obtain ⟨b,s,t,e,h1,h2⟩:=h
 exact ⟨b,s,t,e,h1.uv' hk,h2.lv hd⟩
theorem zQ3 {k:Int} {d:Nat} (cs:List Wc) (W:Wb) (h:(CU.agg (fQK k d)).p cs W): ∃u,cs[2]?=some u/\qC W u d:=by
 obtain ⟨b,s,t,e,_,h1⟩:=h
 rw [zAE e]
 exact ⟨t,rfl,h1⟩
theorem zEA {v:Wc} {W:Wb} {x:Nat} (h:qC W v x):v.cells=#[v]/\v.oneCell'=true/\zV v=true:=by
 obtain ⟨A,n,c,rfl⟩:=h.form
 exact ⟨rfl,rfl,rfl⟩
theorem zMj {m:Nat} {k:Int} {d:Nat} {q:Rat} (v:Wc) (W:Wb) (h:(fQN q).p v W):v.cells.size=3/\(∀u,u∈v.cells.toList->u.oneCell'=true)/\v.cells.toList.all zV=true/\ ∀cs,(CU.agg (fQV m k d)).p cs W->0+3<=cs.length/\(CU.agg (fQN q)).p (qW cs 0 v.cells.toList) W:=by
 obtain ⟨A,n,c,A',n',c',rfl⟩:=zB6 h
 refine ⟨rfl,zGf,rfl,fun cs hc=> ?_⟩
 obtain ⟨b,s,t,e,_⟩:=hc
 rw [zAE e]
 exact ⟨by simp,h⟩
theorem zOR {m:Nat} {k0 k:Int} {d:Nat} (v:Wc) (W:Wb) (h:(fNV k).p v W):v.cells.size=2/\(∀u,u∈v.cells.toList->u.oneCell'=true)/\v.cells.toList.all zV=true/\ ∀cs,(CU.agg (fQV m k0 d)).p cs W->0+2<=cs.length/\(CU.agg (fQM m k d)).p (qW cs 0 v.cells.toList) W:=by
 obtain ⟨A,n,c,rfl,h1⟩:=NV.nat h
 refine ⟨rfl,fun u hu=>by simp [Value.cells] at hu;rcases hu with rfl|rfl<;>rfl,rfl,fun cs hc=> ?_⟩
 obtain ⟨b,s,t,e,_,h2⟩:=hc
 rw [zAE e]
 exact ⟨by simp,_,_,t,rfl,h,h2⟩
theorem zHk {k0 k:Int} {d:Nat} (v:Wc) (W:Wb) (h:(fNV k).p v W):v.cells.size=2/\(∀u,u∈v.cells.toList->u.oneCell'=true)/\v.cells.toList.all zV=true/\ ∀cs,(CU.agg (fQK k0 d)).p cs W->0+2<=cs.length/\(CU.agg (fQK k d)).p (qW cs 0 v.cells.toList) W:=by
 obtain ⟨A,n,c,rfl,h1⟩:=NV.nat h
 refine ⟨rfl,fun u hu=>by simp [Value.cells] at hu;rcases hu with rfl|rfl<;>rfl,rfl,fun cs hc=> ?_⟩
 obtain ⟨b,s,t,e,_,h2⟩:=hc
 rw [zAE e]
 exact ⟨by simp,_,_,t,rfl,h,h2⟩
theorem zJZ {k:Int} {d0 d:Nat} (v:Wc) (W:Wb) (h:(qR d).p v W):v.cells.size=1/\(∀u,u∈v.cells.toList->u.oneCell'=true)/\v.cells.toList.all zV=true/\ ∀cs,(CU.agg (fQK k d0)).p cs W->2+1<=cs.length/\(CU.agg (fQK k d)).p (qW cs 2 v.cells.toList) W:=by
 obtain ⟨h1,h2,h3⟩:=zEA h
 rw [h1]
 refine ⟨rfl,fun u hu=>by simp at hu;rw [hu];exact h2,by simp [h3],fun cs hc=> ?_⟩
 obtain ⟨b,s,t,e,h4,_⟩:=hc
 rw [zAE e]
 exact ⟨by simp,b,s,v,rfl,h4,h⟩
theorem zQG {m:Nat} {k:Int} {x d:Nat} (v:Wc) (W:Wb) (h:(qR x).p v W):v.cells.size=1/\(∀u,u∈v.cells.toList->u.oneCell'=true)/\v.cells.toList.all zV=true/\ ∀cs,(CU.agg (fQM m k d)).p cs W->1+1<=cs.length/\(CU.agg (fQA m (decide (k<0)) x d)).p (qW cs 1 v.cells.toList) W:=by
 obtain ⟨h1,h2,h3⟩:=zEA h
 rw [h1]
 refine ⟨rfl,fun u hu=>by simp at hu;rw [hu];exact h2,by simp [h3],fun cs hc=> ?_⟩
 obtain ⟨b,s,t,e,h4,h5⟩:=hc
 obtain ⟨A,n,c,rfl,rfl⟩:=h4.form
 rw [zAE e]
 exact ⟨by simp,v,t,rfl,h,h5⟩
theorem zQF {m:Nat} {sg:Bool} {q:Rat} {x y d:Nat} (hs:sg=decide (q.num<0)) (hx:x=q.num.natAbs) (hy:y=q.den) (v:Wc) (W:Wb) (h:(qR y).p v W):v.cells.size=1/\(∀u,u∈v.cells.toList->u.oneCell'=true)/\v.cells.toList.all zV=true/\ ∀cs,(CU.agg (fQA m sg x d)).p cs W->2+1<=cs.length/\(CU.agg (fQN q)).p (qW cs 2 v.cells.toList) W:=by
 obtain ⟨h1,h2,h3⟩:=zEA h
 rw [h1]
 refine ⟨rfl,fun u hu=>by simp at hu;rw [hu];exact h2,by simp [h3],fun cs hc=> ?_⟩
 obtain ⟨s,t,e,h4,_⟩:=hc
 rw [zAE e]
 refine ⟨by simp, .bool sg,s,v,rfl, ?_,by rw [<-hy];exact h⟩
 obtain ⟨A,n,c,l,rfl,g1,g2⟩:=h4
 exact ⟨A,n,c,l,by rw [hs],by rw [<-hx];exact g1,g2⟩
def RVp (m:Nat) (q:Rat) (v:Wc) (w:Wb):Prop:= ∃k d,QVp m k d v w/\mkRat k d=q
def fRV (m:Nat) (q:Rat):UF:= .mk' (RVp m q) fun _ _ _ ⟨k,d,h,e⟩ u=>⟨k,d,(fQV m k d).us _ _ _ h u,e⟩
theorem wH {m:Nat} {q:Rat} {v:Wc} {W:Wb} (h:QNp q v W) (hq:QB q m):RVp m q v W:=⟨_,_,zHx h hq,Rat.mkRat_self q⟩
theorem RVp.mono {m m':Nat} {q:Rat} {v:Wc} {W:Wb} (h:RVp m q v W) (hm:m<=m'):RVp m' q v W:=by
 obtain ⟨k,d,h1,h2⟩:=h
 exact ⟨k,d,zPo h1 hm,h2⟩
theorem RVp.qb {m:Nat} {q:Rat} {v:Wc} {W:Wb} (h:RVp m q v W) (hm:0<m):QB q m:=by
 obtain ⟨k,d,⟨b,s,t,_,h1,h2⟩,rfl⟩:=h
 exact vD h1.bd h2.bound hm
theorem jN (m:Nat) (q:Rat): ∀cs:List Wc, ∀W,(fRV m q).p (.agg cs.toArray) W->cs.length=3:=fun cs W ⟨k,d,h,_⟩=>zN6 m k d cs W h
theorem zAZ {m:Nat} {q:Rat} {v:Wc} {W:Wb} (h:(fRV m q).p v W):(CU.agg (fRV m q)).p v.cells.toList W/\v.cells.toList.all zV=true:=by
 obtain ⟨k,d,h1,h2⟩:=h
 obtain ⟨g1,g2⟩:=zEp h1
 exact ⟨⟨k,d,g1,h2⟩,g2⟩
theorem zD5 {P:Wh} {f:FuncId} {args:Array Wc} {W:Wb} {u:Wc} (h:Calls P f args W fun e w'=>e= .returned u/\Below W.heap.size W w'):Calls P f args W (Ret W (UF.eq u).tS):=h.mono fun _ _ ⟨h1,h2⟩=>⟨u,h1,rfl,h2⟩
attribute [local go_sem] Oper.semAt_some y5 z7
theorem zTR {W:Wb} (k:Int) (h: -9223372036854775808<=k/\k<=9223372036854775807):Calls prog 76 #[.int .i64 k] W (zGa W k):=
 (zH5 k h.1 h.2 W).mono fun _ _=>qJ.v
def SF.row (z:Nat) (Cs:List CU):SF:=⟨fun v W=> ∃A c,v= .slice A Cs.length c/\Cs.length<=c/\c<=9223372036854775807/\(A=none->c=0)/\ ∀i C,Cs[i]?=some C-> ∃b o cs,A=some ⟨b,o,none⟩/\Mem W b (o+i*z) cs/\C.p cs W,
 fun _ _ _ ⟨A,c,h1,h2,h3,h4,h5⟩ hb=>⟨A,c,h1,h2,h3,h4,fun i C hi=>let ⟨b,o,cs,g1,g2,g3⟩:=h5 i C hi;⟨b,o,cs,g1,g2.below hb,C.us _ _ _ g3 (zL hb)⟩⟩⟩
theorem yL {z:Nat} {Cs:List CU} {l v:Wc} {W0 W:Wb} (hl:(SF.row z Cs).p l W0) (h:v=l) (hb:Below W0.heap.size W0 W):(SF.row z Cs).p v W:=by subst h;exact (SF.row z Cs).st _ _ _ hl hb
def zAw (P:Wh) (t:We):Wf Nat:=match P.underlying t with
 |some (.slice e)=>(P.info? e).map (·.size)
 |_=>none
section
variable {F:Fence} {m:Nat} {P:Wh} {w0:Wb} {ops:Array Oper} {G:Nat->SF} {d:Tmp} {ty:We} {pos:String} {aft:Array Edge}
theorem zCv {x y:Wg} {t:We} {z:Nat} {Cs:List CU} {i:Nat} {C:CU} (hz:zAw P t=some z) (hi:Cs[i]?=some C) (hx: ∀v W,(fct G x).p v W->(SF.row z Cs).p v W) (hy: ∀v W,(fct G y).p v W->v= .int .i64 (i:Int)) (hd: ∀v W,(wC C.cf).p v W->(G d).p v W:=by exact fun _ _ h=>h):qK F m P w0 ops G ⟨some d, .indexAddr t x y,ty,pos,aft,none⟩:=
 qO (fun _ e=>by cases e) (fun _ e=>by cases e) fun b W hb hh=>by
  obtain ⟨A,c,e,h2,h3,h4,h5⟩:=hx _ _ (hh x (by simp [Op.operands]))
  have e2:=hy _ _ (hh y (by simp [Op.operands]))
  obtain ⟨b',o,cs,rfl,h6,h7⟩:=h5 i C hi
  have hlt:i<Cs.length:=(rF.1 hi).1
  unfold zAw at hz
  split at hz<;>try cases hz
  rename_i e' hu
  cases hin:P.info? e' with
  |none=>rw [hin] at hz;cases hz
  |some ie=>
   rw [hin] at hz
   simp only [Option.map_some,sS] at hz
   have hel:P.elem t=e':=by simp [Program.elem,hu]
   refine ⟨.pointer (some ⟨b',o+i*z,none⟩), ?_,hd _ _ ⟨b',o+i*z,cs,rfl,h7,h6⟩⟩
   have hb1:(0:Int)<=(i:Int)/\(i:Int)<(Cs.length:Nat):=by omega
   simp only [execOp,e,e2]
   rw [rC,run_indexAt_slice _ _ _ _ _ _ _ (by rw [hel];exact hu),if_pos hb1,hel]
   simp [sizeOf,typeInfo,hin,hz,rI]
def SF.imp (c:Prop) (f:SF):SF:=⟨fun v W=>c->f.p v W,fun _ _ _ h hb hc=>f.st _ _ _ (h hc) hb⟩
theorem zDf {op:Op} (L:List (Nat×SF)) (f:SF) (hL: ∀q,q∈L-> ∀v W,(G q.1).p v W->q.2.p v W) (hd: ∀v W,f.p v W->(G d).p v W) (hnd:(!(zDt ⟨some d,op,ty,pos,aft,none⟩).contains d&& !(L.map (·.1)).contains d)=true)
  (h:qK F m P w0 ops (upd (upd G [(d,f)]) L) ⟨some d,op,ty,pos,aft,none⟩):qK F m P w0 ops G ⟨some d,op,ty,pos,aft,none⟩:=by
 rw [pK] at hnd
 intro b W K Q hb hr hK
 refine h b W K Q hb (fun t ht=> ?_) fun v W' hv hb'=>hK v W' (fun d' e=> ?_) hb'
 ·have hne:Nat.beq d t=false:=by
   cases e:Nat.beq d t with
   |false=>rfl
   |true=>
    have:=rJ e
    subst this
    have h1:=hnd.1
    rw [pP.2 ht] at h1
    cases h1
  have key: ∀l:List (Nat×SF),(∀q,q∈l-> ∀v W,(G q.1).p v W->q.2.p v W)->(upd (upd G [(d,f)]) l t).p (b.tmps.getD t undef) W:=by
   intro l
   induction l with
   |nil=>
    intro _
    show (bif Nat.beq d t then f else G t).p _ _
    rw [hne]
    exact hr t ht
   | cons q l ih=>
    intro hl
    show (bif Nat.beq q.1 t then q.2 else upd (upd G [(d,f)]) l t).p _ _
    cases e:Nat.beq q.1 t with
    |true=>
     have e2:=rJ e
     exact hl q fL _ _ (by rw [e2];exact hr t ht)
    |false=>exact ih fun x hx=>hl x (by simp [hx])
  exact key L hL
 ·cases e
  have h1:=hv d rfl
  rw [q8 (by simpa using hnd.2)] at h1
  have h2:(bif Nat.beq d d then f else G d).p v W':=h1
  rw [show Nat.beq d d=true from Nat.beq_refl d] at h2
  exact hd v W' h2
theorem zIu {b c:Bool} {v:Wc} (h:v= .bool c) (e:b=true):v= .bool (b&&c):=by rw [e];exact h
theorem zGE {b c:Bool} {v:Wc} (h:v= .bool false) (e:b=false):v= .bool (b&&c):=by rw [e];exact h
theorem zKI {b c:Bool} {v:Wc} (h:v= .bool true) (e:b=true):v= .bool (b||c):=by rw [e];exact h
theorem zIt {b c:Bool} {v:Wc} (h:v= .bool c) (e:b=false):v= .bool (b||c):=by rw [e];exact h
theorem z5 {op:BinOp} {t:We} {x y:Wg} {t':We} (k:IntKind) (u v:Int) (r:Bool) (hx: ∀q W,(fct G x).p q W->q= .int k u) (hy: ∀q W,(fct G y).p q W->q= .int k v) (hr:(match op with| .eql=>u==v| .neq=>u !=v| .lss=>decide (u<v)| .leq=>decide (u<=v)| .gtr=>decide (u>v)| .geq=>decide (u≥v)|_=>false)=r) (ho:(match op with| .eql| .neq| .lss| .leq| .gtr| .geq=>true|_=>false)=true) (hd: ∀W,(G d).p (.bool r) W:=by exact fun _=>rfl):qK F m P w0 ops G ⟨some d, .binOp op t x y t',ty,pos,aft,none⟩:=
 zC6 (.int k u) (.int k v) (.bool r) hx hy (fun W=>by cases op<;>simp [eqGuard]) (fun W=>by
  cases op<;>first
   |exact absurd ho Bool.false_ne_true
   |(subst hr;simp [binOp,Op.intCmp])) hd
theorem yX {t:We} {x y:Wg} {t':We} (k:IntKind) (u v r:Int) (hx: ∀q W,(fct G x).p q W->q= .int k u) (hy: ∀q W,(fct G y).p q W->q= .int k v) (hr:k.wrap (u+v)=r) (hd: ∀W,(G d).p (.int k r) W:=by exact fun _=>rfl):qK F m P w0 ops G ⟨some d, .binOp .add t x y t',ty,pos,aft,none⟩:=
 zC6 (.int k u) (.int k v) (.int k r) hx hy (fun W=>by simp [eqGuard]) (fun W=>by simp [binOp,Op.intArith,hr]) hd
theorem zPv {x y:Wg} {ats:Array We} (u v:Int) (hx: ∀q W,(fct G x).p q W->q= .int .i64 u) (hy: ∀q W,(fct G y).p q W->q= .int .i64 v) (hd: ∀W,(G d).p (.int .i64 (min u v)) W:=by exact fun _=>rfl):qK F m P w0 ops G ⟨some d, .call ⟨.builtin .min,#[x,y],ats⟩,ty,pos,aft,none⟩:=by
 intro b W K Q hb hr hK
 have e1:=hx _ _ (yU hr (x:=x) (by simp [Op.operands,Call.operands]))
 have e2:=hy _ _ (yU hr (x:=y) (by simp [Op.operands,Call.operands]))
 refine ⟨fun f hf=>(by
  unfold Oper.about at hf
  simp [resolve,go_sem] at hf), ?_⟩
 rw [pR _ _ _ (fun _ e=>by cases e)]
 have:(execOp b.eval ⟨some d, .call ⟨.builtin .min,#[x,y],ats⟩,ty,pos,aft,none⟩).run P W= .ok (.value (.int .i64 (min u v))) W:=by
  have h:min u v=if v<u then v else u:=by split<;>omega
  simp [execOp,resolve,invoke,builtin,e1,e2,Builtin.min_,Builtin.min2,h]
 rw [this]
 exact hK _ _ (fun d' e'=>by cases e';exact hd _) (pM _ _)
theorem zFK {x:Wg} {t:We} {z:Nat} {Cs:List CU} (ht:P.underlying t=some (.slice (P.elem t))) (hx: ∀v W,(fct G x).p v W->(SF.row z Cs).p v W:=by exact fun _ _ h=>h) (hd: ∀W,(G d).p (.int .i64 (Cs.length:Nat)) W:=by exact fun _=>rfl):qK F m P w0 ops G ⟨some d, .call ⟨.builtin .len,#[x],#[t]⟩,ty,pos,aft,none⟩:=
 zCa ht fun v W h=>by
  obtain ⟨A,c,e,_⟩:=hx v W h
  exact ⟨A,Cs.length,c,e,hd W⟩
end
section
variable {S:Nat->Prop} {F:Fence} {m:Nat} {P:Wh} {Q:Exit->Act->Wb->Prop} {w0:Wb} {K:List (Nat×KF)} {B:List Bx} {n:Nat} {ds:List Deferred} {a:Act} {w:Wb}
end
theorem zPj {W:Wb} {m:Nat} {v:Wc} {k:Int} (h:UV W m v k) (hm:m<=90000):Calls prog 72 #[v] W (zGa W (-k)):=by
 obtain ⟨s,A,n,c,l,rfl,h1,h2,h3,rfl⟩:=h
 exact (zGv s A n c l W h1 h2 oN).mono fun _ _=>qJ.v
theorem zFG {W:Wb} {m:Nat} {v:Wc} {k:Int} (h:UV W m v k) (hm:m<=90000):Calls prog 69 #[v] W (zGa W k):=by
 obtain ⟨s,A,n,c,l,rfl,h1,h2,h3,rfl⟩:=h
 exact (zAg s A n c l W h1 h2 oN).mono fun _ _=>qJ.v
theorem zIk {W:Wb} {m:Nat} {v:Wc} {k:Int} (h:UV W m v k) (hm:m<=90000):Calls prog 41 #[v] W fun e w'=>e= .returned (.int .i64 k.sign)/\Below W.heap.size W w':=by
 obtain ⟨s,A,n,c,l,rfl,h1,h2,h3,rfl⟩:=h
 exact zJb s A n c l W h1 h2 oN
theorem zPi {W:Wb} {m:Nat} {v v':Wc} {k k':Int} (h:UV W m v k) (h':UV W m v' k') (hm:m<=90000):Calls prog 73 #[v,v'] W (zGa W (k - k')):=by
 obtain ⟨s,A,n,c,l,rfl,h1,h2,h3,rfl⟩:=h
 obtain ⟨s',A',n',c',l',rfl,h1',h2',h3',rfl⟩:=h'
 exact (zKw s A n c l s' A' n' c' l' W h1 h2 h1' h2' m h3 h3' hm).mono fun _ _=>qJ.v
theorem zQV {W:Wb} (k:Int) (h: -9223372036854775808<=k/\k<=9223372036854775807):Calls prog 38 #[.int .i64 k] W (zGa W k):=
 (zIl k h.1 h.2 W).mono fun _ _=>qJ.v
theorem zPl {W:Wb} {m:Nat} {v:Wc} {ks:List Int} {k:Int} (h:ISV W m v ks) (hm:m<=2000) (hn:ks.length<=1000) (hk:ks.sum=k):Calls prog 70 #[v] W (zGa W k):=by
 obtain ⟨is,h1,h2⟩:=h
 have hl:is.length=ks.length:=by rw [<-h2,List.length_map]
 obtain ⟨A,c,e,h3,h4,h5⟩:=h1
 have hb: ∀j,j<=is.length->(zDn is j).natAbs<BB^(m+1000):=by
  intro j hj
  have key: ∀j,Bd (zDn is j) (m+j):=by
   intro j
   induction j with
   |zero=>exact Nat.pow_pos yS
   |succ j ih=>
    have e1:zDn is (j+1)=zDn is j+zDz is j:=rfl
    rw [e1]
    exact (ih.add ((show Bd (zDz is j) m from zFU h5 j).mono oN)).mono oN
  exact (key j).mono oN
 have:=zPm (m+1000) (⟨A,c,e,h3,h4,h5⟩:IS W m v is) oN oN oN hb
 rw [zED is is.length (pY _),List.take_length,h2,hk] at this
 exact this
theorem zDu {W:Wb} {m:Nat} {v:Wc} {ks:List Int} {k:Int} (h:ISV W m v ks) (hn:m*ks.length+m+1<=40000) (hk:ks.foldl (·*·) 1=k) (hl:ks.length<=1000):Calls prog 56 #[v] W (zGa W k):=by
 obtain ⟨is,h1,h2⟩:=h
 have hl2:is.length=ks.length:=by rw [<-h2,List.length_map]
 obtain ⟨A,c,e,h3,h4,h5⟩:=h1
 have:=zPk (m*ks.length+m+1) (⟨A,c,e,h3,h4,h5⟩:IS W m v is) oN oN oN (fun k hk=>(zFX h5 k).mono (by
  have:m*k<=m*ks.length:=Nat.mul_le_mul_left _ oN
  omega))
 rw [zDA is is.length (pY _),List.take_length,h2,hk] at this
 exact this
end Go.Proofs.Wd

namespace Go.Proofs.Wd
open Tryz
open Go.RowKit
section
variable {S:Nat->Prop} {w0:Wb} {K:List (Nat×KF)} {B:List Bx} {n:Nat} {ds:List Deferred} {a:Act} {w:Wb}
theorem zBR {c:Prop} {f:SF} {v:Wc} {W:Wb} (e:c) (h:(SF.imp c f).p v W):f.p v W:=h e
def zAH (K0 K:List (Nat×KF)) (B:List Bx) (a:Act) (t:Nat):SF:=if t∈K.map (·.1)++B.map (·.t) then ⟨fun v W=>(jM (K0++K) B t).p v W/\v=a.tmps.getD t undef,fun _ _ _ h hb=>⟨(jM (K0++K) B t).st _ _ _ h.1 hb,h.2⟩⟩ else jM (K0++K) B t
variable {F:Fence} {m:Nat} {P:Wh} {ops:Array Oper} {Q:Exit->Act->Wb->Prop}
theorem zEe (K0:List (Nat×KF)) (k:Nat) (L:List (Nat×Rw)) (h:StS S w0 (K0++K) B n ds a w) {Goal:Prop} {Fin:Act->Wb->Prop}
  (hT: ∀G':Nat->SF,At w G' n ds a w->Obs F m P w ops (upd G' (zJ L)) (ops.toList.take k)->(∀a' w',At w (zCd ops k (upd G' (zJ L))) n ds a' w'->Fin a' w')->Goal)
  (hap:qV ops=true) (hks:((L.map (·.1)).all fun t=>(List.range k).any fun i=>zQ ops i==some t)=true) (hun:zAG ops (K.map (·.1)++B.map (·.t))=true) (hnd:zAm (L.map (·.1))=true)
  (hobs:Obs F m P w ops (upd (jM (K0++K) B) (zJ L)) (ops.toList.take k))
  (hfin: ∀a w,StS S w0 (zBj L++K) B n ds a w->(∀q,q∈zJ L->q.2.p (a.tmps.getD q.1 undef) w)->Fin a w):Goal:=by
 have hkeys:(zJ L).map (·.1)=L.map (·.1):=by simp [zJ]
 have hsame: ∀t,t∈K.map (·.1)++B.map (·.t)-> ∀i,zQ ops i≠some t:=fun t ht i hi=>by
  have h1:=pE.1 hun t ht
  obtain ⟨o,ho,_⟩:=yT hi
  have h2:=pE.1 h1 i (pH.2 (pF.1 ho).1)
  rw [hi] at h2
  simp at h2
 have hv: ∀t,t∈K.map (·.1)++B.map (·.t)->a.tmps.getD t undef=a.tmps.getD t undef:=fun _ _=>rfl
 -- the slots of K and B stay: a table that says so
 have hA:=h.at
 refine hT (zAH K0 K B a) ⟨hA.gr,hA.size,hA.nd,fun t=> ?_⟩ ?_ fun a' w' hA'=> ?_
 ·by_cases ht:t∈K.map (·.1)++B.map (·.t)
  ·unfold zAH;rw [if_pos ht];exact ⟨hA.sl t,rfl⟩
  ·unfold zAH;rw [if_neg ht];exact hA.sl t
 ·-- the obligations hold with the stronger table
  have hkn: ∀t,t∈K.map (·.1)++B.map (·.t)->((zJ L).map (·.1)).contains t=false:=fun t ht=>by
   cases hc:((zJ L).map (·.1)).contains t with
   |false=>rfl
   |true=>
    exfalso
    have hm:=pP.1 hc
    rw [hkeys] at hm
    obtain ⟨i,_,he⟩:=pQ.1 (pE.1 hks t hm)
    exact hsame t ht i (by simpa using he)
  have hle: ∀t v W,(upd (zAH K0 K B a) (zJ L) t).p v W->(upd (jM (K0++K) B) (zJ L) t).p v W:=fun t v W hh=>by
   by_cases ht:t∈K.map (·.1)++B.map (·.t)
   ·rw [q8 (hkn t ht)] at hh ⊢
    unfold zAH at hh
    rw [if_pos ht] at hh
    exact hh.1
   ·have: ∀l:List (Nat×SF),upd (zAH K0 K B a) l t=upd (jM (K0++K) B) l t:=fun l=>by
     induction l with
     |nil=>exact if_neg ht
     |cons q l ih=>
      show (bif Nat.beq q.1 t then q.2 else upd _ l t)=(bif Nat.beq q.1 t then q.2 else upd _ l t)
      rw [ih]
    rwa [this] at hh
  have hge: ∀t,(∃i,zQ ops i=some t)-> ∀v W,(upd (jM (K0++K) B) (zJ L) t).p v W->(upd (zAH K0 K B a) (zJ L) t).p v W:=fun t ⟨i,hi⟩ v W hh=>by
   have ht: ¬t∈K.map (·.1)++B.map (·.t):=fun ht=>hsame t ht i hi
   have: ∀l:List (Nat×SF),upd (zAH K0 K B a) l t=upd (jM (K0++K) B) l t:=fun l=>by
    induction l with
    |nil=>exact if_neg ht
    |cons q l ih=>
     show (bif Nat.beq q.1 t then q.2 else upd _ l t)=(bif Nat.beq q.1 t then q.2 else upd _ l t)
     rw [ih]
   rwa [this]
  have hconv: ∀(o:Oper),o∈ops.toList->qK F m P w ops (upd (jM (K0++K) B) (zJ L)) o->qK F m P w ops (upd (zAH K0 K B a) (zJ L)) o:=by
   intro o ho hg
   have hdst: ∀d,o.dst=some d-> ∃i,zQ ops i=some d:=fun d hd=>by
    obtain ⟨i,hi⟩:=List.getElem?_of_mem ho
    exact ⟨i,by rw [qG (o:=o) (by simpa using hi)];exact hd⟩
   have hop:zJy F m P w (upd (jM (K0++K) B) (zJ L)) o->zJy F m P w (upd (zAH K0 K B a) (zJ L)) o:=fun h1 b W K' Q' hb hr hK'=>
    h1 b W K' Q' hb (fun t ht=>hle t _ _ (hr t ht)) fun v W' hv hb'=>hK' v W' (fun d hd=>hge d (hdst d hd) _ _ (hv d hd)) hb'
   unfold qK at hg ⊢
   cases hgd:o.guard with
   |none=>rw [hgd] at hg;exact hop hg
   |some q=>
    rw [hgd] at hg
    obtain ⟨g,bv,h1,h2,h3,h4⟩:=hg
    exact ⟨g,bv,h1,fun v W hh=>h2 v W (hle g v W hh),fun e=>hop (h3 e),fun e=>⟨fun d hd W=>hge d (hdst d hd) _ _ ((h4 e).1 d hd W),(h4 e).2⟩⟩
  have hall: ∀l:List Oper,(∀o,o∈l->o∈ops.toList)->Obs F m P w ops (upd (jM (K0++K) B) (zJ L)) l->Obs F m P w ops (upd (zAH K0 K B a) (zJ L)) l:=by
   intro l
   induction l with
   |nil=>intro _ _;trivial
   |cons o l ih=>intro hm ho;exact ⟨hconv o (hm o fL) ho.1,ih (fun o' ho'=>hm o' (by simp [ho'])) ho.2⟩
  exact hall _ (fun o ho=>sT ho) hobs
 ·have hg:=hA'.gr
  have hslot: ∀t,t∈K.map (·.1)++B.map (·.t)->a'.tmps.getD t undef=a.tmps.getD t undef:=fun t ht=>by
   have h1:=hA'.sl t
   unfold zCd at h1
   have h2:((List.range ops.size).any fun i=>decide (k<=i)&&(zQ ops i==some t))=false:=by
    refine rK.2 fun i _=> ?_
    have:=hsame t ht i
    simp [this]
   rw [h2] at h1
   have h3:((zJ L).map (·.1)).contains t=false:=by
    cases hc:((zJ L).map (·.1)).contains t with
    |false=>rfl
    |true=>
     exfalso
     have hm:=pP.1 hc
     rw [hkeys] at hm
     obtain ⟨i,_,he⟩:=pQ.1 (pE.1 hks t hm)
     exact hsame t ht i (by simpa using he)
   rw [show (bif false then SF.any else upd _ (zJ L) t)=upd _ (zJ L) t from rfl,q8 h3,zAH,if_pos ht] at h1
   exact h1.2
  have hrow: ∀q,q∈zJ L->q.2.p (a'.tmps.getD q.1 undef) w':=fun q hm2=>by
   have h1:=hA'.sl q.1
   obtain ⟨i,hi,he⟩:=pQ.1 (pE.1 hks q.1 (by rw [<-hkeys];exact pJ.2 ⟨_,hm2,rfl⟩))
   have hik:=pH.1 hi
   have he:zQ ops i=some q.1:=by simpa using he
   unfold zCd at h1
   have h2:((List.range ops.size).any fun j=>decide (k<=j)&&(zQ ops j==some q.1))=false:=by
    refine rK.2 fun j _=> ?_
    by_cases hj:k<=j
    ·have:zQ ops j≠some q.1:=fun e=>by
      obtain ⟨oi,ho1,hd1⟩:=yT he
      obtain ⟨oj,ho2,hd2⟩:=yT e
      exact jL hap ho1 ho2 oN hd1 hd2
     simp [this]
    ·simp [hj]
   rw [h2,show (bif false then SF.any else upd (zAH K0 K B a) (zJ L) q.1)=upd (zAH K0 K B a) (zJ L) q.1 from rfl,zBH (q:=q) (by rw [hkeys];exact hnd) hm2] at h1
   exact h1
  refine hfin a' w' ⟨h.gr.trans hg,hA'.size,hA'.nd,fun q hq=> ?_,h.bx.keep hg (zL hg) B fun x hx=>hslot _ (rS _ (pJ.2 ⟨x,hx,rfl⟩)),j9 h.mks hg,h.so.imp (fun hu q hq=>(by
   rcases rG.1 hq with hq|hq
   ·obtain ⟨f,e,_⟩:=q7 hq;exact ⟨f,e⟩
   ·exact hu q (rS _ hq))) (fun x=>x)⟩ hrow
  rcases rG.1 hq with hq|hq
  ·obtain ⟨f,hqf,hm⟩:=q7 hq
   have h1:=hrow (q.1,f.tS) (pJ.2 ⟨_,hm,rfl⟩)
   rw [hqf]
   exact h1
  ·rw [hslot q.1 (sU _ (pJ.2 ⟨q,hq,rfl⟩))]
   exact KF.us (h.sl q (rS _ hq)) (zL hg)
theorem zHs {id:Nat} (K0:List (Nat×KF)) (pre:List Nat) (k:Nat) (L:List (Nat×Rw)) (hmix:P.follows .mixedOrders=true) (h:StS S w0 (K0++K) B n ds a w)
  (hchk:(zBs ops pre k n (L.map (·.1))&&zAG ops (K.map (·.1)++B.map (·.t))&&zAm (L.map (·.1)))=true)
  (hobs:Obs F m P w ops (upd (jM (K0++K) B) (zJ L)) (ops.toList.take k))
  (hfin: ∀Q',(∀a w,Q .normal a w->Q' .normal a w)-> ∀a w,StS S w0 (zBj L++K) B n ds a w->zA8 F m P ops Q' k a w):(Code.region id ops true).wpIn F m P Q a w:=by
 simp only [pK] at hchk
 have hkeys:(zJ L).map (·.1)=L.map (·.1):=by simp [zJ]
 have h0:=hchk.1.1
 unfold zBs at h0
 simp only [pK] at h0
 obtain ⟨⟨⟨⟨⟨⟨⟨⟨⟨⟨⟨⟨⟨⟨⟨hap,_⟩,_⟩,_⟩,_⟩,hks⟩,_⟩,_⟩,_⟩,_⟩,_⟩,_⟩,_⟩,_⟩,_⟩,_⟩:=h0
 exact zEe K0 k L h (fun G' hA hO hF=>zB4 pre k (zJ L) hmix (by rw [hkeys];exact hchk.1.1) hA hO hF) hap hks hchk.1.2 hchk.2 hobs (fun a w h _=>hfin (y4 Q) (fun a w h=>h) a w h)
end
theorem zDb {p:Nat->Prop}: ∀n,p n-> ∃s,p s/\ ∀k,k<s-> ¬p k:=by
 intro n
 induction n using Nat.strongRecOn with
 | _ n ih=>
  intro hn
  by_cases h: ∃k,k<n/\p k
  ·obtain ⟨k,hk,hp⟩:=h
   exact ih k hk hp
  ·exact ⟨n,hn,fun k hk hp=>h ⟨k,hk,hp⟩⟩
section
variable {S:Nat->Prop} {F:Fence} {m:Nat} {P:Wh} {Q:Exit->Act->Wb->Prop} {w0:Wb} {K:List (Nat×KF)} {B:List Bx} {n:Nat} {ds:List Deferred} {a:Act} {w:Wb}
theorem zH3 {σ:Type} {c:Code} (I:σ->Prop) (Kf:σ->List (Nat×KF)) (Bf:σ->List Bx) (Df:σ->List Deferred) (mu:σ->Nat) (x0:σ) (hI:I x0) (h0:StS S w0 (Kf x0) (Bf x0) n (Df x0) a w)
  (round: ∀x a w,I x->StS S w0 (Kf x) (Bf x) n (Df x) a w->c.wpIn F m P (Exit.then (fun a' w'=> ∃y,I y/\mu y<mu x/\StS S w0 (Kf y) (Bf y) n (Df y) a' w') Q) a w):(Code.loop c).wpIn F m P Q a w:=by
 have low: ∀a w,(∃k, ∃x,I x/\mu x=k/\StS S w0 (Kf x) (Bf x) n (Df x) a w)-> ∃k,(∃x,I x/\mu x=k/\StS S w0 (Kf x) (Bf x) n (Df x) a w)/\ ∀j,j<k-> ¬ ∃x,I x/\mu x=j/\StS S w0 (Kf x) (Bf x) n (Df x) a w:=
  fun a w ⟨k,hk⟩=>zDb k hk
 open Classical in
 refine wpIn_loop (fun a w=> ∃k, ∃x,I x/\mu x=k/\StS S w0 (Kf x) (Bf x) n (Df x) a w) (fun a w=>if h: ∃k, ∃x,I x/\mu x=k/\StS S w0 (Kf x) (Bf x) n (Df x) a w then Classical.choose (low a w h) else 0) ⟨_,x0,hI,rfl,h0⟩ ?_
 rintro a w hA
 have e0:=rX (low a w hA)
 obtain ⟨x,hx,hm,hst⟩:=e0.1
 refine rL ?_ (round x a w hx hst)
 intro e a' w' h
 cases e with
 |normal=>
  obtain ⟨y,h1,h2,h3⟩: ∃y,I y/\mu y<mu x/\StS S w0 (Kf y) (Bf y) n (Df y) a' w':=h
  have hA': ∃k, ∃x,I x/\mu x=k/\StS S w0 (Kf x) (Bf x) n (Df x) a' w':=⟨_,y,h1,rfl,h3⟩
  refine ⟨hA', ?_⟩
  simp only [dif_pos hA,dif_pos hA']
  have e1:=rX (low a' w' hA')
  have:Classical.choose (low a' w' hA')<=mu y:=Nat.not_lt.1 fun hlt=>e1.2 _ hlt ⟨y,h1,rfl,h3⟩
  omega
 |_=>exact h
theorem zCV {σ:Type} {c:Code} (t:Nat) (Cf:σ->CU) (I:σ->Prop) (Kf:σ->List (Nat×KF)) (mu:σ->Nat) (x0:σ) (hI:I x0) (h0:StS S w0 (Kf x0) B n ds a w) (hB:zEk B t (Cf x0)=B)
  (round: ∀x a w,I x->StS S w0 (Kf x) (zEk B t (Cf x)) n ds a w->c.wpIn F m P (Exit.then (fun a' w'=> ∃y,I y/\mu y<mu x/\StS S w0 (Kf y) (zEk B t (Cf y)) n ds a' w') Q) a w):(Code.loop c).wpIn F m P Q a w:=
 zH3 I Kf (fun x=>zEk B t (Cf x)) (fun _=>ds) mu x0 hI (by rw [hB];exact h0) round
theorem zBh {σ:Type} {c:Code} (I:σ->Prop) (Kf:σ->List (Nat×KF)) (mu:σ->Nat) (x0:σ) (hI:I x0) (h0:StS S w0 (Kf x0) B n ds a w)
  (round: ∀x a w,I x->StS S w0 (Kf x) B n ds a w->c.wpIn F m P (Exit.then (fun a' w'=> ∃y,I y/\mu y<mu x/\StS S w0 (Kf y) B n ds a' w') Q) a w):(Code.loop c).wpIn F m P Q a w:=
 zH3 I Kf (fun _=>B) (fun _=>ds) mu x0 hI h0 round
theorem StS.popB {x:Bx} (h:StS S w0 K (x::B) n ds a w):StS S w0 K B n ds a w:=⟨h.gr,h.size,h.nd,h.sl,h.bx.2,h.mks,h.so⟩
theorem StS.renew (h:St w0 K B n ds a w) (K':List (Nat×KF)) (hK: ∀q,q∈K'->q∈K∨ ∃g,q.2=KF.u g/\(q.1,KF.o g.tS)∈K):St w0 K' B n ds a w:=
 ⟨h.gr,h.size,h.nd,fun q hq=>by
  rcases hK q hq with h1|⟨g,e,h1⟩
  ·exact h.sl q h1
  ·have:=h.sl _ h1
   rw [e]
   exact g.us _ _ _ this (zL h.gr.below),h.bx,h.mks, .inr fun _ h=>h⟩
end
end Go.Proofs.Wd

namespace Go.Proofs.Wd
open Tryz
open Go.RowKit
structure NewB where
 i:Nat
 d:Nat
 e:We
 cs:List Wc
 f:SF
def SF.isIn (f:SF) (L:List (Nat×SF)) (d:Nat):Prop:=(d,f)∈L
def zLY (al:List NewB) (a:Act):Prop:= ∀q q',q∈al->q'∈al->q.i≠q'.i-> ∀b b',blk (a.tmps.getD q.d undef)=some b->blk (a.tmps.getD q'.d undef)=some b'->b≠b'
section
variable {S:Nat->Prop} {w0:Wb} {K:List (Nat×KF)} {B:List Bx} {n:Nat} {ds:List Deferred} {a:Act} {w:Wb} {F:Fence} {m:Nat} {P:Wh} {ops:Array Oper} {Q:Exit->Act->Wb->Prop}
theorem zB8 {te:We} {cs:List Wc} {W:Wb} {C:CU} (hC: ∀W,C.p cs W) (hn:cs.all zV=true) (v:Wc) (w:Wb) (h:(wT W te cs).p v w):(wI W te C).p v w:=by
 obtain ⟨b,h1,h2,h3⟩:=h
 exact ⟨b,cs,h1,h2,h3,hC w,hn⟩
theorem StS.adoptA (h:StS S w0 K B n ds a w) {W:Wb} {te:We} {C:CU} (r:Bool) (t:Nat) (hv:(wI W te C).p (a.tmps.getD t undef) w) (hW:BlS S w0 W) (hB: ∀y,y∈B->y.b<W.heap.size∨(r=true/\y.r=true)∨ ∀b,blk (a.tmps.getD t undef)=some b->y.b≠b): ∃b,W.heap.size<=b/\blk (a.tmps.getD t undef)=some b/\StS S w0 K (⟨t,te,C,b,r⟩::B) n ds a w:=by
 obtain ⟨b,cs,h1,h2,h3,h4,h5⟩:=hv
 refine ⟨b,h2,by rw [h1];rfl,h.gr,h.size,h.nd,h.sl,⟨⟨cs,h1, .inr (.inl (pL hW.size h2)),h3,h4,h5,fun y hy=> ?_⟩,h.bx⟩,h.mks,h.so⟩
 rcases hB y hy with e|e|e
 ·left
  show y.b≠b
  omega
 ·exact .inr e
 ·exact .inl (e b (by rw [h1];rfl))
end
/-! ### Answers of a function that ranges over functions -/
theorem zKM {B b:Nat} {W W':Wb} (h:Oth B W W') {cs:Array Wc} {t:We} {z:Nat×Nat} (hc:W.heap[b]?=some (.cells cs t z)):W'.heap[b]?=some (.cells cs t z):=by
 rcases h.block b with e|⟨_,⟨o,ho,hn⟩,_⟩
 ·exact e.trans hc
 ·rw [hc] at ho
  cases ho
  cases hn
section
variable {S:Nat->Prop} {F:Fence} {m:Nat} {P:Wh} {Q:Exit->Act->Wb->Prop} {w0:Wb} {K:List (Nat×KF)} {B:List Bx} {n:Nat} {ds:List Deferred} {a:Act} {w:Wb}
theorem StS.resM (h:St w0 K B n ds a w) {fn:Func} {f:SF} {v:Wc} (hr: ∀w',Oth w0.heap.size w w'->(results fn a.tmps).run P w'= .ok v w') (hv: ∀w',Oth w0.heap.size w w'->f.p v w'):bodyPostM Fence.wide 0 P fn (Ret w0 f) .ret a w:=by
 obtain ⟨Ds,hm⟩:=h.mks
 show LeavesInM Fence.wide 0 P fn a.tmps (Ret w0 f) a.defers .returning w
 rw [h.nd]
 exact yY w hr Ds _ w hm (Oth.refl _ _) fun w' ho=>⟨v,rfl,hv w' ho,jQ h.gr.below ho lr⟩
def inB (B:List Bx) (k:Nat):Prop:= ∃x,x∈B/\x.b=k/\x.r=false
structure Itr (N:Nat) (W W':World):Prop where
 os:W'.os=W.os
 tape:W'.tape=W.tape
 output:W'.output=W.output
 size:W.heap.size<=W'.heap.size
 low: ∀k:Nat,k<N->W'.heap[k]?=W.heap[k]?
 oth: ∀(k:Nat) (o:Obj),W.heap[k]?=some o->o.isCells=false->W'.heap[k]?=some o
 keep:yO W W'
def Ev (Ef:Nat->List UF) (k:Nat) (xs:Array Wc) (W:Wb):Prop:=xs.size=(Ef k).length/\ ∀(j:Nat) (f:UF),(Ef k)[j]?=some f->f.p (xs.getD j undef) W
theorem wY {S':Nat->Prop} {w1 W W':Wb} {a1:Act}: ∀(B B':List Bx),B'.map (fun x=>(x.t,x.e,x.b,x.r))=B.map (fun x=>(x.t,x.e,x.b,x.r))->yH S w0 a W B->yH S' w1 a1 W' B'->yH S w0 a W' B'
 | [], [],_,_,_=>trivial
 | [],_::_,e,_,_=>by cases e
 |_::_, [],e,_,_=>by cases e
 |x::B,x'::B',e,h,h'=>by
  simp only [pX,List.cons.injEq,rT] at e
  obtain ⟨⟨e1,e2,e3,e4⟩,e5⟩:=e
  obtain ⟨⟨cs,h1,h2,_⟩,hr⟩:=h
  obtain ⟨⟨cs',_,_,g3,g4,g5,g6⟩,gr⟩:=h'
  exact ⟨⟨cs',by rw [e1,e3];exact h1,by rw [e3,e4];exact h2,g3,g4,g5,g6⟩,wY B B' e5 hr gr⟩
theorem wO {S':Nat->Prop} {w1 W:Wb} {a1:Act}: ∀(B:List Bx),(∀x,x∈B->x.r=true∨w1.heap.size<=x.b∨S' x.b)->(∀x,x∈B->a1.tmps.getD x.t undef=a.tmps.getD x.t undef)->yH S w0 a W B->yH S' w1 a1 W B
 | [],_,_,_=>trivial
 |x::B,hS,hsl,h=>by
  obtain ⟨⟨cs,h1,_,h3⟩,hr⟩:=h
  exact ⟨⟨cs,(hsl x (rU ..)).trans h1,hS x (rU ..),h3⟩,wO B (fun y hy=>hS y (rV _ hy)) (fun y hy=>hsl y (rV _ hy)) hr⟩
theorem wL {W W':Wb} (hk:yO W W'): ∀(B:List Bx),(∀x,x∈B->W'.heap[x.b]?=W.heap[x.b]?)->yH S w0 a W B->yH S w0 a W' B
 | [],_,_=>trivial
 |x::B,hs,h=>by
  obtain ⟨⟨cs,h1,h2,h3,h4,h5⟩,hr⟩:=h
  exact ⟨⟨cs,h1,h2,(hs x (rU ..)).trans h3,x.c.us _ _ _ h4 hk,h5⟩,wL hk B (fun y hy=>hs y (rV _ hy)) hr⟩
theorem zBD {W:Wb} {b:Nat} {cs:List Wc} {t:We} {z:Nat×Nat} (h3:W.heap[b]?=some (.cells cs.toArray t z)) (h5:cs.all zV=true) {q:Addr} (hq:q.block=b) {u:Wc} (hu:W.cell? q=some u):zV u=true:=by
 have h6:W.cell? q=if q.spot.isSome then none else cs.toArray[q.off]?:=by
  unfold World.cell?
  rw [hq,h3]
 rw [h6] at hu
 split at hu
 ·cases hu
 ·exact pE.1 h5 _ (List.mem_of_getElem? (by simpa using hu))
theorem jE {W:Wb} {b:Nat} {o:Obj} (h:W.heap[b]?=some o) (hc:o.isCells=false) {q:Addr} (hq:q.block=b):W.cell? q=none:=zDm (a:=q) (by rw [hq];exact h) hc
theorem StS.itr (h:StS S w0 K B n ds a w) {N:Nat} {w':Wb} (hi:Itr N w w') (hN:w0.heap.size<=N) (hB: ∀x,x∈B->x.b<N):StS S w0 K B n ds a w':=
 ⟨⟨hi.os.trans h.gr.os,hi.tape.trans h.gr.tape,hi.output.trans h.gr.output,pL h.gr.size hi.size,fun k hk hs=>(hi.low k (pT hk hN)).trans (h.gr.block k hk hs)⟩,h.size,h.nd,fun q hq=>KF.us (h.sl q hq) hi.keep,
  wL hi.keep B (fun x hx=>hi.low _ (hB x hx)) h.bx,h.mks.imp fun _ hm=>hm.keep fun k o ho hc=>hi.oth k o ho hc,h.so⟩
theorem StS.put (h:StS S w0 K B n ds a w) {l:Nat} {o o':Obj} (ho:w.heap[l]?=some o) (hc:o.isCells=false) (hD: ∀Ds,Marks w0.heap.size w ds Ds->l ∉ Ds) (hS:S l∨w0.heap.size<=l):StS S w0 K B n ds a (w.putObj l o'):=by
 have hk:yO w (w.putObj l o'):=fun q u hq=>by
  by_cases e:q.block=l
  ·rw [jE ho hc e] at hq
   cases hq
  ·exact (pU (pG e)).trans hq
 refine ⟨⟨h.gr.os,h.gr.tape,h.gr.output,by rw [rM];exact h.gr.size,fun k hk' hs=>(pG (fun e=> ?_)).trans (h.gr.block k hk' hs)⟩,h.size,h.nd,fun q hq=>KF.us (h.sl q hq) hk,wL hk B (fun x hx=>pG fun e=> ?_) h.bx, ?_,h.so⟩
 ·subst e
  rcases hS with hS|hS
  ·exact hs hS
  ·omega
 ·obtain ⟨cs,_,_,h3,_⟩:=h.bx.mem x hx
  rw [e,ho] at h3
  cases h3
  cases hc
 ·obtain ⟨Ds,hm⟩:=h.mks
  refine ⟨Ds,hm.eq,hm.nodup,fun D hd=>⟨(hm.at_ D hd).1,(pG fun e=> ?_).trans (hm.at_ D hd).2⟩⟩
  subst e
  exact hD Ds hm hd
/-! ### The values that a round is handed -/
theorem zCD: ∀(L:List (Nat×Wc)) (t:Array Wc),(L.foldl (fun t (p,v)=>t.setIfInBounds p v) t).size=t.size
 | [],_=>rfl
 |_::L,t=>by rw [sV,zCD L];simp
theorem zAy (q:Nat): ∀(L:List (Nat×Wc)) (t:Array Wc),q ∉ L.map (·.1)->(L.foldl (fun t (p,v)=>t.setIfInBounds p v) t).getD q undef=t.getD q undef
 | [],_,_=>rfl
 |(p,v)::L,t,h=>by
  rw [pX,pV,not_or] at h
  rw [sV,zAy q L _ h.2]
  exact zBl (fun e=>h.1 e.symm)
theorem zD8: ∀(L:List (Nat×Wc)) (t:Array Wc) (p:Nat) (v:Wc),(L.map (·.1)).Nodup->(p,v)∈L->p<t.size->(L.foldl (fun t (p,v)=>t.setIfInBounds p v) t).getD p undef=v
 | (p',v')::L,t,p,v,hn,hm,ht=>by
  rw [pX,sX] at hn
  rw [sV]
  rcases pV.1 hm with e|hm
  ·cases e
   rw [zAy _ L _ hn.1]
   simp [pN,ht]
  ·exact zD8 L _ p v hn.2 hm (by simpa using ht)
theorem BlS.sub {S S':Nat->Prop} {w w':Wb} (h:BlS S w w') (hs: ∀k,S k->S' k):BlS S' w w':=⟨h.os,h.tape,h.output,h.size,fun k hk hn=>h.block k hk fun hh=>hn (hs k hh)⟩
theorem zEB: ∀{Ds Ds':List Nat},Ds.map mark=Ds'.map mark->Ds=Ds'
 | [], [],_=>rfl
 | [],_::_,e=>by cases e
 |_::_, [],e=>by cases e
 |D::Ds,D'::Ds',e=>by
  simp only [pX,List.cons.injEq] at e
  rw [zEB e.2,show D=D' from by simpa [mark] using e.1]
theorem StS.rebase {w':Wb} (h:StS S w0 K B n [] a w) (hk:yO w w') (hS: ∀q,w0.heap.size<=q->S q) (hb: ∀x,x∈B->w'.heap[x.b]?=w.heap[x.b]?):StS S w' K B n [] a w':=by
 have hu: ∀q,q∈K-> ∃f,q.2= .u f:=by
  rcases h.so with hu|hs
  ·exact hu
  ·exact absurd (hS w0.heap.size lr) (hs _)
 refine ⟨BlS.refl _ _,h.size,h.nd,fun q hq=> ?_,wL hk B hb (wO B (fun x hx=> ?_) (fun _ _=>rfl) h.bx),⟨[],Marks.nil _ _⟩, .inl hu⟩
 ·obtain ⟨f,e⟩:=hu q hq
  have:=h.sl q hq
  rw [e] at this ⊢
  exact f.us _ _ _ this hk
 ·obtain ⟨_,_,hc,_⟩:=h.bx.mem x hx
  rcases hc with hc|hc|hc
  ·exact .inl hc
  ·exact .inr (.inr (hS _ hc))
  ·exact .inr (.inr hc)
theorem yQ: ∀{l:List Nat},zAm l=true->l.Nodup
 | [],_=>List.nodup_nil
 |x::l,h=>by
  unfold zAm at h
  rw [pK] at h
  refine sX.2 ⟨fun hm=> ?_,yQ h.2⟩
  rw [pP.2 hm] at h
  exact absurd h.1 (by decide)
/-! ### The range -/
def zHG:KF->Bool
 | .u _=>true
 | .o _=>false
def zTz (R1:Act->Wb->Prop) (cz:Code) (R2:Act->Wb->Prop):Exit->Act->Wb->Prop
 | .normal,a,W=>R1 a W
 | .exit id,a,W=>cz= .exit id/\R2 a W
 | .ret,a,W=>cz= .ret/\R2 a W
 | .goto t,a,W=>cz= .goto t/\R2 a W
 | .panic _,_,_=>False
 | .outgrown,_,_=>False
abbrev zDO (x:Bx):Nat×We×Nat×Bool:=(x.t,x.e,x.b,x.r)
theorem zDC {B B':List Bx} (e:B'.map zDO=B.map zDO) {k:Nat} (h:inB B' k):inB B k:=by
 obtain ⟨x,hx,h1,h2⟩:=h
 have:zDO x∈B.map zDO:=by rw [<-e];exact pJ.2 ⟨x,hx,rfl⟩
 obtain ⟨y,hy,hxy⟩:=pJ.1 this
 simp only [zDO,rT] at hxy
 exact ⟨y,hy,hxy.2.2.1.trans h1,hxy.2.2.2.trans h2⟩
theorem zDF {B B':List Bx} (e:B'.map zDO=B.map zDO) {x:Bx} (hx:x∈B'): ∃y,y∈B/\y.t=x.t/\y.b=x.b/\y.r=x.r:=by
 have:zDO x∈B.map zDO:=by rw [<-e];exact pJ.2 ⟨x,hx,rfl⟩
 obtain ⟨y,hy,hxy⟩:=pJ.1 this
 simp only [zDO,rT] at hxy
 exact ⟨y,hy,hxy.1,hxy.2.2.1,hxy.2.2.2⟩
theorem StS.more (h:StS S w0 K B n ds a w) {D:Nat} (hB:w0.heap.size<=D) (hD:w.heap[D]?=some (.deferred (some []))) (hn: ∀Ds,Marks w0.heap.size w ds Ds->D ∉ Ds):StS S w0 K B n (mark D::ds) { a with defers:=mark D::a.defers } w:=
 ⟨h.gr,h.size,by rw [h.nd],h.sl,wO (a:=a) B (fun x hx=>(h.bx.mem x hx).elim fun _ hh=>hh.2.1) (fun _ _=>rfl) h.bx,(h.mks.elim fun Ds hm=>⟨D::Ds,hm.more (hn Ds hm) hB hD⟩),h.so⟩
end
section
variable {F:Fence} {n:Nat} {P:Wh} {ops:Array Oper} {Q:Exit->Act->Wb->Prop}
def zFp (ops:Array Oper) (listed0:Array Bool) (fl:Nat->Bool) (k:Nat):Bool:=(List.range ops.size).all fun j=>decide (j<k)||(List.range k).all fun i=>fl i||listed0.getD i true||zCh ops ops.size i j
def zA9 (ops:Array Oper) (i:Nat):Array Bool:=((List.range ops.size).map fun j=>zCh ops ops.size j i).toArray
theorem zIM {i:Nat} {listed:Array Bool} (hs: ∀j,j<ops.size->zCh ops ops.size j i=true->listed.getD j true=true) (h:Region.free .any ops (zA9 ops i) i=true):Region.free .any ops listed i=true:=by
 unfold Region.free at h ⊢
 split at h
 ·exact h
 ·refine pE.2 fun j hj=> ?_
  have h1:=pE.1 h j hj
  have h2:(zA9 ops i).getD j true=zCh ops ops.size j i:=by
   unfold zA9
   rw [pN]
   simp [pH.1 hj]
  rw [h2] at h1
  cases hc:zCh ops ops.size j i with
  |true=>rw [hs j (pH.1 hj) hc,Bool.or_true,Bool.true_or]
  |false=>
   rw [hc,Bool.or_false] at h1
   rw [Bool.or_assoc,Bool.or_comm (listed.getD j true), <-Bool.or_assoc,h1,Bool.true_or]
theorem zLm {i:Nat} {o:Oper} {a:Act} {w:Wb} {K:Act->Wb->Prop} (ho:ops[i]?=some o) (hfl:zDh ops i=true) (h:wpOpIn F n P ops (y4 Q) i K a w): ∃d v,o.dst=some d/\jU P ops (fun _=>True) o v a/\K (a.put (some d) v) w:=by
 unfold zDh at hfl
 rw [ho] at hfl
 unfold wpOpIn at h
 rw [ho] at h
 split at hfl
 ·rename_i d x ty pos aft he
  cases he
  refine ⟨d,a.eval x,rfl,⟨.inl ⟨rfl,fun w _=>rfl⟩,fun w=>rfl⟩, ?_⟩
  have h2:=h.2
  rw [pR _ _ _ (fun _ e=>by cases e)] at h2
  exact h2
 ·rename_i d x j ty pos aft he
  cases he
  have h2:=h.2
  rw [pR _ _ _ (fun _ e=>by cases e)] at h2
  cases hrun:(Instr.extract (a.eval x) j).run P w with
  |halt y w'=>
   have he:(execOp a.eval ⟨some d, .extract x j,ty,pos,aft,none⟩).run P w= .halt y w':=by simp [execOp,hrun]
   rw [he] at h2
   cases y<;>exact h2.elim
  | ok v w'=>
   have hw:w'=w:=by
    unfold Instr.extract at hrun
    split at hrun
    ·split at hrun
     ·simp at hrun;exact hrun.2.symm
     ·simp at hrun
    ·simp at hrun
   subst hw
   have he:(execOp a.eval ⟨some d, .extract x j,ty,pos,aft,none⟩).run P w'= .ok (.value v) w':=by simp [execOp,hrun]
   rw [he] at h2
   exact ⟨d,v,rfl,⟨.inl ⟨rfl,fun w _=>by simp [execOp,zB1 _ _ _ w hrun]⟩,fun w=>rfl⟩,h2⟩
 ·cases hfl
variable {listed0:Array Bool} {A:Nat->Bool} {E:Nat->Wc->Wb->Prop} {C:Wb->Prop} {a0:Act}
theorem zRm {k z:Nat} (fl:Nat->Bool) (hpl:jD ops=true) (hns:Region.noSelect ops=true) (hzs:ops.size<=z) (hfree: ∀i,i<k->fl i=true->zDh ops i=true/\Region.free .any ops (zA9 ops i) i=true) (hear:zAY ops=true) (htl:zFp ops listed0 fl k=true) (hap:qV ops=true) (hfr:zAa ops a0.tmps.size=true) (hkl:decide (k<=ops.size)=true) (hC: ∀w w',C w->Below w.heap.size w w'->C w') (hE: ∀i v w w',E i v w->Below w.heap.size w w'->E i v w')
  (hspec: ∀i,i<k->listed0.getD i true=false-> ∀o,ops[i]?=some o-> ∀a w,FlowB ops listed0 A E C a0 (fun j=>listed0.getD j true=false/\ ∃e∈o.after,Region.binds .any e=true/\e.on=j) a w-> ∀K:Act->Wb->Prop,(∀v w',E i v w'->Below w.heap.size w w'->(A i=true-> ∀b,blk v=some b->w.heap.size<=b/\b<w'.heap.size)->K (a.put o.dst v) w')->wpOpIn F n P ops (y4 Q) i K a w)
  (hfin: ∀a w,FlowB ops listed0 A E C a0 (fun i=>i<k/\listed0.getD i true=false) a w->qY F n P .any ops z (fun _=>True) (y4 Q) (ops.size - k) (z4 ops.size k) a w):
  ∀(fuel:Nat) (listed:Array Bool) (a:Act) (w:Wb),listed.count false=fuel->listed.size=ops.size->(∀i,k<=i->listed.getD i false=false)->zFg ops listed->(∀i,listed0.getD i true=true->i<ops.size->listed.getD i false=true)->
   FlowB ops listed0 A E C a0 (fun i=>listed0.getD i true=false/\listed.getD i false=true) a w->qY F n P .any ops z (fun _=>True) (y4 Q) fuel listed a w:=by
 have hkl':=sY hkl
 intro fuel
 induction fuel with
 | zero=>
  intro listed a w hc hs hlate hcl hsub hf
  have hno: ∀i,listed.getD i true=true:=fun i=>by
   cases hg:listed.getD i true with
   |true=>rfl
   |false=>
    have:=jB hg
    omega
  have hk2:k=ops.size:=by
   rcases pS k ops.size with hlt|hge
   ·exfalso
    have h1:=hno k
    have h2:=hlate k lr
    have hlt2:k<listed.size:=by omega
    simp [hlt2] at h1 h2
    rw [h1] at h2
    cases h2
   ·omega
  have hl:listed=z4 ops.size k:=by
   refine Array.ext (by simp [z4,hs]) fun i h1 h2=> ?_
   have:=hno i
   simp [h1] at this
   simp [z4,this]
   omega
  have:=hfin a w (hf.mono fun i hi=>⟨hi.2,by
   have h1:=hno i
   have hlt:i<listed.size:=by omega
   simp [hlt] at h1 ⊢
   exact h1⟩)
  rw [hl]
  rwa [show ops.size - k=0 from by omega] at this
 | succ fuel ih=>
  intro listed a w hc hs hlate hcl hsub hf
  by_cases hall: ∀i,i<k->listed.getD i false=true
  ·have hl:listed=z4 ops.size k:=by
    refine Array.ext (by simp [z4,hs]) fun i h1 h2=> ?_
    by_cases hik:i<k
    ·have:=hall i hik
     simp [h1] at this
     simp [z4,this,hik]
    ·have:=hlate i oN
     simp [h1] at this
     simp [z4,this,hik]
   have hcnt:listed.count false=ops.size - k:=by
    rw [hl]
    unfold z4
    rw [List.count_toArray,List.count_eq_countP,List.countP_map]
    have: ∀m,k<=m->List.countP ((fun x=>x==false) ∘ fun i=>decide (i<k)) (List.range m)=m - k:=by
     intro m
     induction m with
     |zero=>intro h;simp
     | succ m ihm=>
      intro h
      rw [List.range_succ,List.countP_append]
      by_cases e:k=m+1
      ·subst e
       have:List.countP ((fun x=>x==false) ∘ fun i=>decide (i<m+1)) (List.range m)=0:=by
        rw [List.countP_eq_zero]
        intro x hx
        have:=pH.1 hx
        simp;omega
       rw [this];simp
      ·rw [ihm oN]
       have e2:decide (m<k)=false:=decide_eq_false oN
       simp [e2]
       omega
    exact this ops.size hkl'
   have hf':=hfin a w (hf.mono fun i hi=>⟨hi.2,hall i hi.1⟩)
   rw [<-hl, <-hcnt,hc] at hf'
   exact hf'
  ·simp only [rY] at hall
   obtain ⟨u0,huk0,hu0⟩:=hall
   obtain ⟨u,⟨huk,hu⟩,hmin⟩:=zDb (p:=fun u=>u<k/\ ¬listed.getD u false=true) u0 ⟨huk0,hu0⟩
   have hlt:u<listed.size:=by omega
   have hu':listed.getD u true=false:=by
    simp [hlt] at hu ⊢
    exact hu
   have hsome: ∀i,listed.getD i true=false->Region.ready .any ops listed≠ []:=by
    intro i
    induction i using Nat.strongRecOn with
    | _ i ihi=>
     intro hi hnil
     have hlt:i<listed.size:=by
      rcases pS i listed.size with e|e
      ·exact e
      ·simp [pZ e] at hi
     have ho:ops[i]?=some (ops[i]'(by rw [<-hs];exact hlt)):=pW _
     by_cases hall: ∀e∈(ops[i]'(by rw [<-hs];exact hlt)).after,Region.binds .any e=true->listed.getD e.on false=true
     ·have hm:i∈Region.ready .any ops listed:=rD.2 ⟨hi,_,ho,hall⟩
      rw [hnil] at hm
      cases hm
     ·simp only [rY] at hall
      obtain ⟨e,he,hb,hg⟩:=hall
      have hel:=zAM hear ho he hb
      refine ihi e.on hel ?_ hnil
      have hlt2:e.on<listed.size:=by omega
      simp [hlt2] at hg ⊢
      exact hg
   by_cases hfu:fl u=true
   ·have hul:u<ops.size:=by omega
    have hou:ops[u]?=some ops[u]:=pW hul
    have hdone: ∀e∈ops[u].after,Region.binds .any e=true->listed.getD e.on false=true:=fun e he hb=>by
     have hel:=zAM hear hou he hb
     exact tE fun hc=>hmin e.on hel ⟨by omega,hc⟩
    have hrd:(Region.ready .any ops listed).contains u=true:=pP.2 (rD.2 ⟨hu',_,hou,hdone⟩)
    have hl0u:listed0.getD u true=false:=by
     cases hg:listed0.getD u true with
     |false=>rfl
     |true=>exact absurd (hsub u hg hul) hu
    obtain ⟨hflo,hfre⟩:=hfree u huk hfu
    have hw:=hspec u huk hl0u _ hou a w (hf.mono fun j hj=>(by
     obtain ⟨hj0,e,he,hb,rfl⟩:=hj
     exact ⟨hj0,hdone e he hb⟩)) (fun a' w'=> ∃v,a'=a.put ops[u].dst v/\E u v w'/\Below w.heap.size w w'/\(A u=true-> ∀b,blk v=some b->w.heap.size<=b/\b<w'.heap.size)) (fun v w' hv hb hA=>⟨v,rfl,hv,hb,hA⟩)
    obtain ⟨d,v0,hd,hy,v,hpe,hv,hb,hA⟩:=zLm hou hflo hw
    refine zN (i:=u) (v:=v0) hpl (by unfold zA1;rw [pZ hzs]) hou hns (zIM (fun j hj hc=>(by
     have h9:=zAj hcl _ j u _ hou hdone hc
     have g:j<listed.size:=by omega
     simp [g] at h9 ⊢
     exact h9)) hfre) hrd (fun _ _ _ h=>h) trivial hy ?_
    rw [hd,hpe]
    refine ih (listed.setIfInBounds u true) (a.put ops[u].dst v) w ?_ (by simpa using hs) (fun j hj=> ?_) (fun j oj hj hoj e he hbe=> ?_) (fun j hj hjl=> ?_) ((hf.put hap hfr hC hE hou hl0u hv hb hA).mono fun j hj=> ?_)
    ·have:=jB hu'
     omega
    ·rw [pI false oN]
     exact hlate j hj
    ·by_cases e2:j=u
     ·subst e2
      rw [hou] at hoj
      cases hoj
      by_cases e3:e.on=j
      ·rw [e3];exact hj
      ·rw [pI false (Ne.symm e3)]
       exact hdone e he hbe
     ·rw [pI false (Ne.symm e2)] at hj
      have:=hcl j oj hj hoj e he hbe
      by_cases e3:e.on=u
      ·rw [e3]
       have hlt:u<listed.size:=by omega
       simp [hlt]
      ·rw [pI false (Ne.symm e3)]
       exact this
    ·by_cases e3:j=u
     ·subst e3
      rw [hl0u] at hj
      cases hj
     ·rw [pI false (Ne.symm e3)]
      exact hsub j hj hjl
    ·by_cases e:j=u
     ·exact .inr e
     ·left
      rw [pI false (Ne.symm e)] at hj
      exact hj
   ·refine ⟨fun hnil=>(hsome u hu' hnil).elim,fun i hi=> ?_⟩
    obtain ⟨hun,o,ho,hall⟩:=rD.1 hi
    have hil:=(pF.1 ho).1
    have hl0:listed0.getD i true=false:=by
     cases hg:listed0.getD i true with
     |false=>rfl
     |true=>
      have:=hsub i hg hil
      have hlt3:i<listed.size:=by omega
      simp [hlt3] at this hun
      rw [this] at hun
      cases hun
    have hik:i<k:=by
     rcases pS i k with e|e
     ·exact e
     ·exfalso
      have h1:=pE.1 htl i (pH.2 hil)
      simp only [sZ,rR] at h1
      rcases h1 with h1|h1
      ·omega
      ·have h2:=pE.1 h1 u (pH.2 huk)
       simp only [sZ] at h2
       rcases h2 with (h2|h2)|h2
       ·exact hfu h2
       ·exact hu (hsub u h2 oN)
       ·exact hu (zAj hcl _ u i o ho hall h2)
    refine hspec i hik hl0 o ho a w (hf.mono fun j hj=> ?_) _ fun v w' hv hb hA=>⟨.inr trivial, ?_⟩
    ·obtain ⟨hj0,e,he,hb,rfl⟩:=hj
     exact ⟨hj0,hall e he hb⟩
    ·refine ih (listed.setIfInBounds i true) (a.put o.dst v) w' ?_ (by simpa using hs) (fun j hj=> ?_) (fun j oj hj hoj e he hbe=> ?_) (fun j hj hjl=> ?_) ((hf.put hap hfr hC hE ho hl0 hv hb hA).mono fun j hj=> ?_)
     ·have:=jB hun
      omega
     ·rw [pI false oN]
      exact hlate j hj
     ·by_cases e2:j=i
      ·subst e2
       rw [ho] at hoj
       cases hoj
       by_cases e3:e.on=j
       ·rw [e3];exact hj
       ·rw [pI false (Ne.symm e3)]
        exact hall e he hbe
      ·rw [pI false (Ne.symm e2)] at hj
       have:=hcl j oj hj hoj e he hbe
       by_cases e3:e.on=i
       ·rw [e3]
        have hlt:i<listed.size:=by omega
        simp [hlt]
       ·rw [pI false (Ne.symm e3)]
        exact this
     ·by_cases e3:j=i
      ·subst e3
       rw [hl0] at hj
       cases hj
      ·rw [pI false (Ne.symm e3)]
       exact hsub j hj hjl
     ·by_cases e:j=i
      ·exact .inr e
      ·left
       rw [pI false (Ne.symm e)] at hj
       exact hj
theorem zLl {k z fuel:Nat} {w:Wb} (fl:Nat->Bool) (hpl:jD ops=true) (hns:Region.noSelect ops=true) (hzs:ops.size<=z) (hfree: ∀i,i<k->fl i=true->zDh ops i=true/\Region.free .any ops (zA9 ops i) i=true) (A:Nat->Bool) (E:Nat->Wc->Wb->Prop) (C:Wb->Prop) (hear:zAY ops=true) (htl:zFp ops listed0 fl k=true) (hap:qV ops=true) (hfr:zAa ops a0.tmps.size=true) (hkl:decide (k<=ops.size)=true)
    (hcnt:listed0.count false=fuel) (hsz:listed0.size=ops.size) (hcl:zCi ops listed0=true) (hto:zE3 listed0 k=true)
    (hC: ∀w w',C w->Below w.heap.size w w'->C w') (hE: ∀i v w w',E i v w->Below w.heap.size w w'->E i v w') (hw:C w)
    (hspec: ∀i,i<k->listed0.getD i true=false-> ∀o,ops[i]?=some o-> ∀a w,FlowB ops listed0 A E C a0 (fun j=>listed0.getD j true=false/\ ∃e∈o.after,Region.binds .any e=true/\e.on=j) a w-> ∀K:Act->Wb->Prop,(∀v w',E i v w'->Below w.heap.size w w'->(A i=true-> ∀b,blk v=some b->w.heap.size<=b/\b<w'.heap.size)->K (a.put o.dst v) w')->wpOpIn F n P ops (y4 Q) i K a w)
    (hfin: ∀a w,FlowB ops listed0 A E C a0 (fun i=>i<k/\listed0.getD i true=false) a w->qY F n P .any ops z (fun _=>True) (y4 Q) (ops.size - k) (z4 ops.size k) a w):
    qY F n P .any ops z (fun _=>True) (y4 Q) fuel listed0 a0 w:=by
  have hcontra: ∀i,listed0.getD i true=false->listed0.getD i false=true->False:=fun i h1 h2=>by
    rcases pS i listed0.size with g|g
    . simp [g] at h1 h2
      rw [h1] at h2
      cases h2
    . simp [pZ g] at h2
  exact zRm fl hpl hns hzs hfree hear htl hap hfr hkl hC hE hspec hfin fuel listed0 a0 w hcnt hsz (fun i hi=>zEu hto hi) (zBt hcl) (fun i hi hl=>by
      have g:i<listed0.size:=by omega
      simp [g] at hi ⊢
      exact hi)
    ⟨⟨hw,rfl,rfl,fun _ _=>rfl,fun i o t hi=>(hcontra i hi.1 hi.2).elim⟩,fun i o t b hi=>(hcontra i hi.1 hi.2).elim,fun i j oi oj ti tj bi bj hi=>(hcontra i hi.1 hi.2).elim⟩
end
def zD4 (ops:Array Oper) (fl:Nat->Bool) (k n:Nat) (keys:List Nat):Bool:=
 qV ops&&zAa ops n&&jD ops&&Region.noSelect ops&&decide (k<=ops.size)&&
 keys.all (fun t=>(List.range k).any fun i=>zQ ops i==some t)&&
 (List.range k).all (fun i=>match ops[i]? with
  |none=>true
  |some o=>(looks ops o).all fun t=>(List.range ops.size).all fun j=> !(zQ ops j==some t)||o.after.any fun e=>Region.binds .any e&&e.on==j)&&
 (List.range k).all (fun i=> !fl i||(zDh ops i&&Region.free .any ops (zA9 ops i) i))&&
 (zAY ops&&zFp ops (Array.replicate ops.size false) fl k&&(List.range (ops.size - k)).all fun r=>Region.ready .any ops (z4 ops.size (k+r))== [k+r])
theorem zFE {F:Fence} {m:Nat} {P:Wh} {ops:Array Oper} {Q:Exit->Act->Wb->Prop} {id:Nat} {w0:Wb} {G:Nat->SF} {n:Nat} {ds:List Deferred} {a:Act} {w:Wb} (fl:Nat->Bool) (al:List NewB) (k:Nat) (L:List (Nat×SF)) (hmix:P.follows .mixedOrders=true)
  (hal: ∀q,q∈al->q.i<k/\q.f.isIn L q.d/\zAm (L.map (·.1))=true/\(∃ty pos aft,ops[q.i]?=some ⟨some q.d, .alloc q.e,ty,pos,aft,none⟩)/\zeroCells P q.e=some q.cs/\ ∀v W,(wT w0 q.e q.cs).p v W->q.f.p v W)
  (hchk:zD4 ops fl k n (L.map (·.1))=true) (h:At w0 G n ds a w) (hobs:Obs F m P w0 ops (upd G L) (ops.toList.take k))
  (hfin: ∀a w,At w0 (zCd ops k (upd G L)) n ds a w->zLY al a->wpOpsIn F m P ops (y4 Q) (List.range' k (ops.size - k)) a w):(Code.region id ops true).wpIn F m P Q a w:=by
 unfold zD4 at hchk
 simp only [pK] at hchk
 obtain ⟨⟨⟨⟨⟨⟨⟨⟨hap,hfr⟩,hpl⟩,hns⟩,hk⟩,hkeys⟩,hrd⟩,hflk⟩,hdr⟩:=hchk
 have hk:=sY hk
 have hget: ∀i o,i<k->ops[i]?=some o->qK F m P w0 ops (upd G L) o:=fun i o hi ho=>hobs.get i o (by rw [tF hi];simpa using ho)
 have hkey: ∀t,(∀j,j<k->zQ ops j≠some t)->upd G L t=G t:=fun t ht=>by
  refine q8 ?_
  cases hc:(L.map (·.1)).contains t with
  |false=>rfl
  |true=>
   exfalso
   have hm:=pP.1 hc
   obtain ⟨i,hi,he⟩:=pQ.1 (pE.1 hkeys t hm)
   exact ht i (pH.1 hi) (by simpa using he)
 have hst: ∀t,(∀j,j<k->zQ ops j≠some t)->(upd G L t).p (a.tmps.getD t undef) w:=fun t ht=>by rw [hkey t ht];exact h.sl t
 have hmask: ∀(a:Act) (w:Wb),(∀t,(∃j,j<k/\zQ ops j=some t)∨(∀j,zQ ops j≠some t)->(upd G L t).p (a.tmps.getD t undef) w)-> ∀t,(zCd ops k (upd G L) t).p (a.tmps.getD t undef) w:=fun a w hh t=>by
  unfold zCd
  cases hc:(List.range ops.size).any fun i=>decide (k<=i)&&(zQ ops i==some t) with
  |true=>trivial
  | false=>
   refine hh t ?_
   by_cases hex: ∃j,zQ ops j=some t
   ·obtain ⟨j,hj⟩:=hex
    left
    refine ⟨j, ?_,hj⟩
    have hlt:j<ops.size:=by
     rcases pS j ops.size with e|e
     ·exact e
     ·rw [zQ,pZ e] at hj;cases hj
    have:=rK.1 hc j (pH.2 hlt)
    simp [hj] at this
    omega
   ·exact .inr fun j hj=>hex ⟨j,hj⟩
 have hrd': ∀i o,i<k->ops[i]?=some o-> ∀t,t∈looks ops o-> ∀j,zQ ops j=some t->(o.after.any fun e=>Region.binds .any e&&e.on==j)=true:=fun i o hi ho t ht j hj=>by
  have h1:=pE.1 hrd i (pH.2 hi)
  rw [ho] at h1
  have hlt:j<ops.size:=by
   rcases pS j ops.size with e|e
   ·exact e
   ·rw [zQ,pZ e] at hj;cases hj
  have h2:=pE.1 (pE.1 h1 t ht) j (pH.2 hlt)
  rw [hj] at h2
  simpa using h2
 obtain ⟨⟨hear,htl⟩,hch⟩:=hdr
 have hch': ∀r,r<ops.size - k->Region.ready .any ops (z4 ops.size (k+r))= [k+r]:=fun r hr=>by
  have:=pE.1 hch r (pH.2 hr)
  simpa using this
 have hfl: ∀i,(Array.replicate ops.size false).getD i false=false:=fun i=>by
  rw [pN,rZ]
  split<;>rfl
 have hft: ∀i,i<ops.size->(Array.replicate ops.size false).getD i true=false:=fun i hi=>by
  rw [pN,rZ,if_pos hi]
  rfl
 have hnd: ∀t,(∀j,zQ ops j≠some t)->zAR ops (Array.replicate ops.size false) t=false:=fun t ht=>by
  cases hd:zAR ops (Array.replicate ops.size false) t with
  |false=>rfl
  |true=>
   exfalso
   unfold zAR at hd
   obtain ⟨i,_,hp⟩:=pQ.1 hd
   simp only [pK,rA] at hp
   exact ht i (by rw [<-zDi];exact hp.2)
 refine zY ops.size (fun _=>True) hmix ?_
 have hdrew:Below w.heap.size w w.drew:=(pM _ w).drew
 refine zLl (Q:=Q) (k:=k) (z:=ops.size) (w:=w.drew) fl hpl hns lr (fun i hi he=>(by have:=pE.1 hflk i (pH.2 hi);rw [he] at this;simpa using this)) (fun i=>al.any fun q=>q.i==i) (fun i v W=> ∀o,ops[i]?=some o-> ∀d,o.dst=some d->(upd G L d).p v W) (fun W=>Below w0.heap.size w0 W/\Below w.heap.size w W) hear htl hap (by rw [h.size];exact hfr) (by simpa using hk) tG fL ?hcl ?hto (fun W W' hC hb=>⟨hC.1.trans (hb.mono hC.1.size),hC.2.trans (hb.mono hC.2.size)⟩) (fun i v W W' hE hb o ho d hd=>(upd G L d).st _ _ _ (hE o ho d hd) hb) ⟨h.gr.trans (hdrew.mono h.gr.size),hdrew⟩ ?spec ?fin
 case hcl=>
  unfold zCi
  refine pE.2 fun i hi=> ?_
  rw [hfl i]
  rfl
 case hto=>
  unfold zE3
  refine pE.2 fun i hi=> ?_
  rw [hfl i]
  simp
 case spec=>
  intro i hik hl o ho b W hf K hK
  by_cases hAi:(al.any fun q=>q.i==i)=true
  ·obtain ⟨q,hq,hqi⟩:=pQ.1 hAi
   obtain rfl:q.i=i:=by simpa using hqi
   obtain ⟨_,hin,hndL,⟨ty,pos,aft,hop⟩,hz,hown⟩:=hal q hq
   rw [ho] at hop
   cases hop
   have hg:qK F m P W ops (fun _=>wT W q.e q.cs) ⟨some q.d, .alloc q.e,ty,pos,aft,none⟩:=zC7 hz
   refine jZ ho hg (fun j g hj=> ?_) (pM _ _) (fun t ht=>by cases ht) (fun v W' hv hb=> ?_)
   ·rw [hf.at_.size,h.size]
    obtain ⟨oj,hoj,hdj⟩:=yT hj
    exact qB hfr hoj hdj
   ·obtain ⟨b',e1,h1,h2⟩:=hv q.d rfl
    refine hK v W' (fun o' ho' d hd=> ?_) hb (fun _ b'' hb''=> ?_)
    ·rw [ho] at ho'
     cases ho'
     cases hd
     rw [zBH (q:=(q.d,q.f)) hndL hin]
     exact hown v W' ⟨b',e1,pL hf.at_.cls.1.size h1,h2⟩
    ·subst e1
     cases hb''
     exact ⟨h1,(pF.1 h2).1⟩
  refine jZ ho (hget i o hik ho) (fun j g hj=> ?_) hf.at_.cls.1 (fun t ht=> ?_) (fun v W' hv hb=>hK v W' (fun o' ho' d hd=>by rw [ho] at ho';cases ho';exact hv d hd) hb (fun e=>absurd e hAi))
  ·rw [hf.at_.size,h.size]
   cases hoj:ops[j]? with
   |none=>rw [zQ,hoj] at hj;cases hj
   |some oj=>rw [qG hoj] at hj;exact qB hfr hoj hj
  ·by_cases hex: ∃j,zQ ops j=some t
   ·obtain ⟨j,hj⟩:=hex
    have h1:=hrd' i o hik ho t ht j hj
    obtain ⟨x,hx,he⟩:=Array.any_eq_true.1 h1
    simp only [pK,rA] at he
    cases hoj:ops[j]? with
    |none=>rw [zQ,hoj] at hj;cases hj
    |some oj=>
     rw [qG hoj] at hj
     exact hf.at_.vals j oj t ⟨hft j (pF.1 hoj).1,_,sC hx,he.1,he.2⟩ hoj hj oj hoj t hj
   ·have hno: ∀j,zQ ops j≠some t:=fun j hj=>hex ⟨j,hj⟩
    rw [hf.at_.keep t (hnd t hno)]
    exact (upd G L t).st _ _ _ (hst t (fun j _=>hno j)) hf.at_.cls.2
 case fin=>
  intro b W hf
  have hA:At w0 (zCd ops k (upd G L)) n ds b W:=⟨hf.at_.cls.1,by rw [hf.at_.size];exact h.size,by rw [hf.at_.defers];exact h.nd,hmask b W fun t ht=>by
   rcases ht with ⟨j,hjk,hj⟩|hno
   ·cases hoj:ops[j]? with
    |none=>rw [zQ,hoj] at hj;cases hj
    |some oj=>
     rw [qG hoj] at hj
     exact hf.at_.vals j oj t ⟨hjk,hft j (pF.1 hoj).1⟩ hoj hj oj hoj t hj
   ·rw [hf.at_.keep t (hnd t hno)]
    exact (upd G L t).st _ _ _ (hst t (fun j _=>hno j)) hf.at_.cls.2⟩
  have h2:=forced (Q:=y4 Q) hch' (ops.size - k) 0 b W oN (by simpa using hfin b W hA (fun q q' hq hq' hne b1 b2 e1 e2=>(by
   obtain ⟨g1,_,_,⟨_,_,_,g2⟩,_⟩:=hal q hq
   obtain ⟨g1',_,_,⟨_,_,_,g2'⟩,_⟩:=hal q' hq'
   exact hf.apart q.i q'.i _ _ q.d q'.d b1 b2 ⟨g1,hft _ oN⟩ ⟨g1',hft _ oN⟩ hne (pQ.2 ⟨q,hq,by simp⟩) (pQ.2 ⟨q',hq',by simp⟩) g2 g2' rfl rfl e1 e2)))
  have h3: ∀(f:Nat) (l:Array Bool) (a:Act) (w:Wb),wpAnyIn F m P .any ops (y4 Q) f l a w->qY F m P .any ops ops.size (fun _=>True) (y4 Q) f l a w:=by
   intro f
   induction f with
   |zero=>intro l a w hh;exact hh
   |succ f ih=>intro l a w hh;exact ⟨hh.1,fun i hi=>wpOpIn_mono (fun a w h5=>⟨.inr trivial,ih _ _ _ h5⟩) (hh.2 i hi)⟩
  exact h3 _ _ _ _ (by simpa using h2)
section
variable {S:Nat->Prop} {w0:Wb} {K:List (Nat×KF)} {B:List Bx} {n:Nat} {ds:List Deferred} {a:Act} {w:Wb} {F:Fence} {m:Nat} {P:Wh} {ops:Array Oper} {Q:Exit->Act->Wb->Prop}
theorem zBi {id:Nat} (fl:Nat->Bool) (al:List NewB) (k:Nat) (L:List (Nat×Rw)) (hmix:P.follows .mixedOrders=true) (h:StS S w0 K B n ds a w)
  (hal: ∀q,q∈al->q.i<k/\q.f.isIn (zJ L) q.d/\(∃ty pos aft,ops[q.i]?=some ⟨some q.d, .alloc q.e,ty,pos,aft,none⟩)/\zeroCells P q.e=some q.cs/\ ∀v W,(wT w q.e q.cs).p v W->q.f.p v W)
  (hchk:(zD4 ops fl k n (L.map (·.1))&&zAG ops (K.map (·.1)++B.map (·.t))&&zAm (L.map (·.1)))=true)
  (hobs:Obs F m P w ops (upd (jM K B) (zJ L)) (ops.toList.take k))
  (hfin: ∀Q',(∀a w,Q .normal a w->Q' .normal a w)-> ∀a w,StS S w0 (zBj L++K) B n ds a w->(∀q,q∈zJ L->q.2.p (a.tmps.getD q.1 undef) w)->zLY al a->zA8 F m P ops Q' k a w):(Code.region id ops true).wpIn F m P Q a w:=by
 simp only [pK] at hchk
 have hkeys:(zJ L).map (·.1)=L.map (·.1):=by simp [zJ]
 have h0:=hchk.1.1
 unfold zD4 at h0
 simp only [pK] at h0
 obtain ⟨⟨⟨⟨⟨⟨⟨⟨hap,_⟩,_⟩,_⟩,_⟩,hks⟩,_⟩,_⟩,_⟩:=h0
 exact zCq k L h (Fin:=fun a w=>zLY al a->zA8 F m P ops (y4 Q) k a w) (fun G' hA hO hF=>zFE fl al k (zJ L) hmix (fun q hq=>let ⟨g1,g2,g3,g4,g5⟩:=hal q hq;⟨g1,g2,by rw [hkeys];exact hchk.2,g3,g4,g5⟩) (by rw [hkeys];exact hchk.1.1) hA hO (fun a w hA hD=>hF a w hA hD)) hap hks hchk.1.2 hchk.2 hobs (fun a w h hr hD=>hfin (y4 Q) (fun a w h=>h) a w h hr hD)
end
section
variable {S:Nat->Prop} {F:Fence} {m:Nat} {P:Wh} {Q:Exit->Act->Wb->Prop} {w0:Wb} {K:List (Nat×KF)} {B:List Bx} {n:Nat} {ds:List Deferred} {a:Act} {w:Wb}
theorem zCw {σ:Type} {c:Code} (Inv:σ->Act->Wb->Prop) (mu:σ->Nat) (x0:σ) (h0:Inv x0 a w)
  (round: ∀x a w,Inv x a w->c.wpIn F m P (Exit.then (fun a' w'=> ∃y,mu y<mu x/\Inv y a' w') Q) a w):(Code.loop c).wpIn F m P Q a w:=by
 have low: ∀a w,(∃k, ∃x,mu x=k/\Inv x a w)-> ∃k,(∃x,mu x=k/\Inv x a w)/\ ∀j,j<k-> ¬ ∃x,mu x=j/\Inv x a w:=
  fun a w ⟨k,hk⟩=>zDb k hk
 open Classical in
 refine wpIn_loop (fun a w=> ∃k, ∃x,mu x=k/\Inv x a w) (fun a w=>if h: ∃k, ∃x,mu x=k/\Inv x a w then Classical.choose (low a w h) else 0) ⟨_,x0,rfl,h0⟩ ?_
 rintro a w hA
 have e0:=rX (low a w hA)
 obtain ⟨x,hm,hst⟩:=e0.1
 refine rL ?_ (round x a w hst)
 intro e a' w' h
 cases e with
 |normal=>
  obtain ⟨y,h2,h3⟩: ∃y,mu y<mu x/\Inv y a' w':=h
  have hA': ∃k, ∃x,mu x=k/\Inv x a' w':=⟨_,y,rfl,h3⟩
  refine ⟨hA', ?_⟩
  simp only [dif_pos hA,dif_pos hA']
  have e1:=rX (low a' w' hA')
  have:Classical.choose (low a' w' hA')<=mu y:=Nat.not_lt.1 fun hlt=>e1.2 _ hlt ⟨y,rfl,h3⟩
  omega
 |_=>exact h
theorem StS.learn (h:StS S w0 K B n ds a w) (t:Nat) (v:Wc) (e:a.tmps.getD t undef=v):StS S w0 ((t, .u (UF.eq v))::K) B n ds a w:=
 ⟨h.gr,h.size,h.nd,fun q hq=>by
  rcases pV.1 hq with rfl|hq
  ·exact e
  ·exact h.sl q hq,h.bx,h.mks,h.so.imp (fun hu q hq=>(by
   rcases pV.1 hq with rfl|hq
   ·exact ⟨_,rfl⟩
   ·exact hu q hq)) (fun x=>x)⟩
theorem StS.self (h:StS S w0 K B n [] a w) (hu: ∀q,q∈K-> ∃f,q.2= .u f):StS (inB B) w K B n [] a w:=by
 refine ⟨BlS.refl _ _,h.size,h.nd,fun q hq=> ?_,wO (a:=a) B (fun x hx=> ?_) (fun _ _=>rfl) h.bx,⟨[],Marks.nil _ _⟩, .inl hu⟩
 ·obtain ⟨f,e⟩:=hu q hq
  have:=h.sl q hq
  rw [e] at this ⊢
  exact this
 ·cases hr:x.r with
  |true=>exact .inl rfl
  |false=>exact .inr (.inr ⟨x,hx,rfl,hr⟩)
theorem y8 {w1:Wb} (hb:BlS (inB B) w w1) (hbx:yH S w0 a w B):yO w w1:=fun q u hq=>by
 have hlt:=sD w _ hq
 by_cases e:inB B q.block
 ·exfalso
  obtain ⟨x,hx,e1,_⟩:=e
  obtain ⟨cs,_,_,h3,_,h5⟩:=hbx.mem x hx
  have:=zBD h3 h5 e1.symm hq
  cases this
 ·exact (pU (hb.block _ hlt e)).trans hq
theorem zGU {a:Act} {d:Tmp} {y:Wg} {l:Nat} {xs:Array Wg} {ats:Array We} {ty:We} {pos:String} {aft:Array Edge} {w:Wb} (hy:a.eval y= .func (.yield l) #[] #[]):
  (execOp a.eval ⟨some d, .call ⟨.value y,xs,ats⟩,ty,pos,aft,none⟩).run P w=(Instr.yield l (xs.map a.eval)).run P w:=by
 simp only [execOp,resolve,hy]
 simp [invoke,Deferred.ofValue,rC,rN,Result.andThen]
theorem zSJ (f:Wg->Wc) (x y:Wg):(Array.map f #[x,y]).getD 0 undef=f x:=by simp [pN]
theorem zSI (f:Wg->Wc) (x y:Wg):(Array.map f #[x,y]).getD 1 undef=f y:=by simp [pN]
theorem zFV {f:FuncId} {fn:Func} {c:Code} {args:Array Wc} {R:Ending->Wb->Prop}
  (hf:P.funcs[f]?=some fn) (hb:fn.body=some c) (h:c.wpIn Fence.wide 0 P (bodyPost P fn R) { tmps:=args++Array.replicate (fn.ntmps - args.size) undef,defers:= [] } w):Calls P f args w R:=zBe hf hb h
theorem yN {K:List (Nat×KF)} (h:(K.all fun q=>zHG q.2)=true): ∀q,q∈K-> ∃f,q.2=KF.u f:=fun q hq=>by
 have:=pE.1 h q hq
 cases hq2:q.2 with
 |u f=>exact ⟨f,rfl⟩
 |o f=>rw [hq2] at this;cases this
theorem zFv {fn:Func} {args:Array Wc} (S:Nat->Prop) (K0:List (Nat×UF)) (B0:List Bx) (hn:Nat.ble args.size fn.ntmps=true) (hK: ∀q,q∈K0->q.1<args.size/\q.2.p (args.getD q.1 undef) w)
  (hB:yH S w ⟨args, []⟩ w B0) (hBs: ∀x,x∈B0->x.t<args.size):StS S w (K0.map fun q=>(q.1,KF.u q.2)) B0 fn.ntmps [] { tmps:=args++Array.replicate (fn.ntmps - args.size) undef,defers:= [] } w:=by
 have hn:=Nat.le_of_ble_eq_true hn
 refine ⟨BlS.refl _ _,by simp;omega,rfl,fun q hq=> ?_,yH.keep (a:=⟨args, []⟩) (pM _ _) iiz B0 (fun x hx=> ?_) hB,⟨[],Marks.nil _ _⟩, .inl fun q hq=> ?_⟩
 ·obtain ⟨p,hp,rfl⟩:=pJ.1 hq
  obtain ⟨h1,h2⟩:=hK p hp
  have:(args++Array.replicate (fn.ntmps - args.size) undef).getD p.1 undef=args.getD p.1 undef:=by
   rw [pN,pN,tH h1]
  show p.2.p ((args++Array.replicate (fn.ntmps - args.size) undef).getD p.1 undef) w
  rw [this]
  exact h2
 ·show (args++Array.replicate (fn.ntmps - args.size) undef).getD x.t undef=args.getD x.t undef
  rw [pN,pN,tH (hBs x hx)]
 ·obtain ⟨p,hp,rfl⟩:=pJ.1 hq
  exact ⟨_,rfl⟩
def zLt (W:Wb) (gf:Nat) (te:We) (C:CU):SF:=⟨fun v w=> ∃(b:Nat) (cs:List Wc),v= .func (.func gf) #[] #[pO b 0]/\W.heap.size<=b/\w.heap[b]?=some (.cells cs.toArray te (0,0))/\C.p cs w/\cs.all zV=true,fun _ _ _ ⟨b,cs,h1,h2,h3,h4,h5⟩ hb=>⟨b,cs,h1,h2,(hb.block b (pF.1 h3).1).trans h3,C.us _ _ _ h4 (zL hb),h5⟩⟩
theorem zGT {W W':Wb} {gf:Nat} {te:We} {C:CU} (h:W.heap.size<=W'.heap.size) (v:Wc) (w:Wb) (hv:(zLt W' gf te C).p v w):(zLt W gf te C).p v w:=by
 obtain ⟨b,cs,h1,h2,h3⟩:=hv
 exact ⟨b,cs,h1,pL h h2,h3⟩
theorem StS.boxAt (h:StS S w0 K B n ds a w) {c:Nat} {z:Bx} (hB:zE7 B c=some z): ∃cs:List Wc,w.heap[z.b]?=some (.cells cs.toArray z.e (0,0))/\z.c.p cs w/\cs.all zV=true:=by
 obtain ⟨cs,_,_,h3,h4,h5⟩:=h.bx.mem z (zAi hB).1
 exact ⟨cs,h3,h4,h5⟩
theorem StS.inB_new (h:St w0 K B n ds a w) {q:Nat} (hq:inB B q):w0.heap.size<=q:=by
 obtain ⟨x,hx,e,hr⟩:=hq
 obtain ⟨_,_,hc,_⟩:=h.bx.mem x hx
 rcases hc with hc|hc|hc
 ·rw [hr] at hc;cases hc
 ·omega
 ·exact hc.elim
def wB (vs:List Wc):CU:=⟨fun cs _=>cs=vs,fun _ _ _ h _=>h⟩
end
def CU.ok (z:Nat) (C:CU):Prop:= ∀cs W,C.p cs W->cs.length=z/\cs.all zV=true/\ ∀u,u∈cs->u.oneCell'=true
def zAs (w:Wb) (base:Nat) (e:We) (z:Nat) (v:Wc) (Cs:List CU):Prop:=
 (v= .slice none 0 0/\Cs= [])∨ ∃g cap cur,v= .slice (some ⟨g,0,none⟩) Cs.length cap/\base<=g/\w.heap[g]?=some (.cells cur e (0,0))/\Cs.length<=cap/\cap<=maxLen/\cur.size=cap*z/\cur.toList.all zV=true/\ ∀(i:Nat) (C:CU),Cs[i]?=some C->C.p ((cur.toList.drop (i*z)).take z) w
theorem zAs.nil (w:Wb) (base:Nat) (e:We) (z:Nat):zAs w base e z (.slice none 0 0) []:= .inl ⟨rfl,rfl⟩
theorem zAs.lt {w:Wb} {base e z v Cs} (h:zAs w base e z v Cs): ∀k,v.ownBlock=some k->base<=k/\k<w.heap.size:=by
 intro k hk
 rcases h with ⟨rfl,_⟩|⟨g,cap,cur,rfl,hb,hg,_⟩
 ·simp [Value.ownBlock] at hk
 ·simp [Value.ownBlock] at hk
  subst hk
  exact ⟨hb,(pF.1 hg).1⟩
theorem zAs.mono {w:Wb} {base base' e z v Cs} (h:zAs w base e z v Cs) (hb:base'<=base):zAs w base' e z v Cs:=
 h.imp id fun ⟨g,cap,cur,h1,h2,h3⟩=>⟨g,cap,cur,h1,pL hb h2,h3⟩
theorem zAs.keep {w w':Wb} {base e z v Cs} (h:zAs w base e z v Cs) (hb: ∀k,v.ownBlock=some k->w'.heap[k]?=w.heap[k]?) (hk:yO w w'):zAs w' base e z v Cs:=by
 rcases h with h|⟨g,cap,cur,rfl,h2,h3,h4,h5,h6,h7,h8⟩
 ·exact .inl h
 ·exact .inr ⟨g,cap,cur,rfl,h2,(hb g rfl).trans h3,h4,h5,h6,h7,fun i C hi=>C.us _ _ _ (h8 i C hi) hk⟩
theorem zAs.below {w w':Wb} {base e z v Cs} (h:zAs w base e z v Cs) (hb:Below w.heap.size w w'):zAs w' base e z v Cs:=
 h.keep (fun k hk=>hb.block k (h.lt k hk).2) (zL hb)
theorem zAs.row {w:Wb} {base e z v Cs} (h:zAs w base e z v Cs):(SF.row z Cs).p v w:=by
 rcases h with ⟨rfl,rfl⟩|⟨g,cap,cur,rfl,h2,h3,h4,h5,h6,h7,h8⟩
 ·exact ⟨none,0,rfl,pY _,by decide,fun _=>rfl,fun i C hi=>by simp at hi⟩
 ·refine ⟨_,cap,rfl,h4,by unfold maxLen at h5;omega,fun e=>(by cases e),fun i C hi=>⟨g,0,_,rfl,fun j u hj=> ?_,h8 i C hi⟩⟩
  rw [List.getElem?_take] at hj
  split at hj
  ·rw [List.getElem?_drop] at hj
   unfold World.cell?
   simp only [h3]
   have:0+i*z+j=i*z+j:=by omega
   rw [this]
   simpa using hj
  ·cases hj
theorem zAs.keepU {w w':Wb} {base e z v Cs} (h:zAs w base e z v Cs) (hg:w.grownBy w' v.ownBlock):yO w w':=fun p x hp=>by
 have hlt:=sD w _ hp
 by_cases e1:some p.block=v.ownBlock
 ·exfalso
  rcases h with ⟨rfl,_⟩|⟨g,cap,cur,rfl,h2,h3,h4,h5,h6,h7,h8⟩
  ·simp [Value.ownBlock] at e1
  ·simp [Value.ownBlock] at e1
   have:=zBD (cs:=cur.toList) (z:=(0,0)) (by simpa using h3) h7 e1 hp
   cases this
 ·exact (pU (hg.block _ hlt e1)).trans hp
def zDH (P:Wh) (t:We):Wf (We×Nat×Bool):=match P.underlying t with
 | some (.slice e)=>match P.info? e with
  |some i=>match i.zero with
   |some zv=>some (e,i.size,zv.cells.size==i.size&&zv.cells.toList.all zV&&decide (0<i.size)&&Nat.ble i.bytes 1000)
   |none=>none
  |none=>none
 |_=>none
theorem zBF {P:Wh} {t e:We} {z:Nat} (h:zDH P t=some (e,z,true)):P.underlying t=some (.slice e)/\ ∃i zv,P.info? e=some i/\i.zero=some zv/\i.size=z/\i.bytes<=1000/\zv.cells.size=z/\zv.cells.toList.all zV=true/\0<z:=by
 unfold zDH at h
 split at h<;>try cases h
 rename_i e' hu
 split at h<;>try cases h
 rename_i i hi
 split at h<;>try cases h
 rename_i zv hz
 simp only [sS,rT,pK,rA,rR] at h
 obtain ⟨rfl,rfl,⟨⟨h1,h2⟩,h3⟩,h4⟩:=h
 exact ⟨hu,i,zv,hi,hz,rfl,Nat.le_of_ble_eq_true h4,h1,h2,h3⟩
theorem zA3 {zc:Array Wc} (h:zc.toList.all zV=true) (n:Nat):(Builtin.zeroCells zc n).toList.all zV=true:=by
  refine pE.2 fun u hu=> ?_
  simp only [Builtin.zeroCells,Array.toList_map,pJ,Array.toList_range,pH] at hu
  obtain ⟨i,hi,rfl⟩:=hu
  have h0 : 0 < zc.size := by rcases Nat.eq_zero_or_pos zc.size with h|h;· rw [h] at hi;omega
                              . exact h
  have hlt:i % zc.size<zc.size:=Nat.mod_lt _ h0
  have:zc[i % zc.size]!∈zc.toList:=by
    rw [getElem!_pos zc _ hlt]
    exact Array.getElem_mem_toList hlt
  exact pE.1 h _ this
theorem zC0 {W:Wb} {b z:Nat}: ∀(Ds:List CU) (o:Nat),(∀C,C∈Ds->CU.ok z C)->(∀(i:Nat) (C:CU),Ds[i]?=some C-> ∃cs,Mem W b (o+i*z) cs/\C.p cs W)->
  ∃news:List Wc,news.length=Ds.length*z/\(∀j u,news[j]?=some u->W.cell? ⟨b,o+j,none⟩=some u)/\(∀u,u∈news->u.oneCell'=true)/\news.all zV=true/\ ∀(i:Nat) (C:CU),Ds[i]?=some C->C.p ((news.drop (i*z)).take z) W
 | [],o,_,_=>⟨[],by simp,by simp,by simp,rfl,by simp⟩
 | D::Ds,o,hok,h=>by
  obtain ⟨cs,h1,h2⟩:=h 0 D rfl
  obtain ⟨hl,hn,h1c⟩:=hok D fL cs W h2
  obtain ⟨ns,g1,g2,g3,g4,g5⟩:=zC0 Ds (o+z) (fun C hC=>hok C (by simp [hC])) fun i C hi=>by
   obtain ⟨cs',h3,h4⟩:=h (i+1) C (by simpa using hi)
   refine ⟨cs', ?_,h4⟩
   rwa [show o+(i+1)*z=o+z+i*z by rw [rH];omega] at h3
  refine ⟨cs++ns,by rw [rO,hl,g1,List.length_cons,rH];omega,fun j u hj=> ?_,fun u hu=> ?_,by rw [sE,hn,g4];rfl,fun i C hi=> ?_⟩
  ·rcases pS j z with hlt|hge
   ·rw [tI oN] at hj
    have:=h1 j u hj
    rwa [show o+0*z+j=o+j by omega] at this
   ·rw [tJ oN] at hj
    have:=g2 _ u hj
    rwa [show o+z+(j - cs.length)=o+j by omega] at this
  ·rcases rG.1 hu with hu|hu
   ·exact h1c u hu
   ·exact g3 u hu
  ·cases i with
   |zero=>
    obtain rfl:D=C:=by simpa using hi
    rw [show 0*z=0 by omega,List.drop_zero,tK oN,sQ oN]
    exact h2
   |succ i=>
    rw [show (i+1)*z=cs.length+i*z by rw [rH];omega,List.drop_append]
    have e1:cs.drop (cs.length+i*z)= []:=List.drop_eq_nil_of_le oN
    rw [e1,tA,show cs.length+i*z - cs.length=i*z by omega]
    exact g5 i C (by simpa using hi)
theorem zBX {cs ds:List Wc} {z i n:Nat} (h:cs.length=n*z) (hi:i<n):((cs++ds).drop (i*z)).take z=(cs.drop (i*z)).take z:=by
 have h1:i*z+z<=n*z:=by rw [<-Nat.succ_mul];exact sF _ hi
 rw [List.drop_append_of_le_length oN,tK (by rw [sP];omega)]
theorem zLD {cs ds:List Wc} {z i n:Nat} (h:cs.length=n*z):(cs++ds).drop ((n+i)*z)=ds.drop (i*z):=by
 rw [rH, <-h,List.drop_append]
 have e1:cs.drop (cs.length+i*z)= []:=List.drop_eq_nil_of_le oN
 rw [e1,tA]
 congr 1
 omega
theorem zCu {w w':Wb} {z:Nat} {Cs Ds:List CU} {cs ds es:List Wc} (hl:cs.length=Cs.length*z) (hd:ds.length=Ds.length*z) (h1: ∀(i:Nat) (C:CU),Cs[i]?=some C->C.p ((cs.drop (i*z)).take z) w) (h2: ∀(i:Nat) (C:CU),Ds[i]?=some C->C.p ((ds.drop (i*z)).take z) w) (hk:yO w w'):
  ∀(i:Nat) (C:CU),(Cs++Ds)[i]?=some C->C.p (((cs++ds++es).drop (i*z)).take z) w':=fun i C hi=>by
 rcases pS i Cs.length with hlt|hge
 ·rw [tI hlt] at hi
  rw [List.append_assoc,zBX hl hlt]
  exact C.us _ _ _ (h1 i C hi) hk
 ·obtain ⟨j,rfl⟩: ∃j,i=Cs.length+j:=⟨i - Cs.length,by omega⟩
  rw [tJ oN,Nat.add_sub_cancel_left] at hi
  have hj:j<Ds.length:=(rF.1 hi).1
  rw [List.append_assoc,zLD hl,zBX hd hj]
  exact C.us _ _ _ (h2 j C hi) hk
theorem zCO {a b c:List Wc} (ha:a.all zV=true) (hb:b.all zV=true) (hc:c.all zV=true):(a++b++c).all zV=true:=by
 rw [sE,sE,ha,hb,hc];rfl
theorem zFA {P:Wh} {w:Wb} {base:Nat} {t ty e:We} {z:Nat} {v v2:Wc} {Cs Ds:List CU} (happ:zDH P t=some (e,z,true)) (hr:zAs w base e z v Cs) (h2:(SF.row z Ds).p v2 w) (hD: ∀C,C∈Ds->CU.ok z C)
    (hsz:Cs.length+Ds.length<=140000000000) (hbase:base<=w.heap.size):
    ∃v' w',(Builtin.append_ #[t,t] ty #[v,v2]).run P w= .ok v' w'/\zAs w' base e z v' (Cs++Ds)/\w.grownBy w' v.ownBlock/\(v'.ownBlock=v.ownBlock∨v'.ownBlock=some w.heap.size):=by
  obtain ⟨ht,i,zv,hi,hz,hs,hby0,hzs,hzn,hz0⟩:=zBF happ
  have hmx:Cs.length+Ds.length<=maxLen:=by unfold maxLen;omega
  have hbb:(Cs.length+Ds.length)*i.bytes<=140737488355328:=pL (Nat.mul_le_mul hsz hby0) (by decide)
  obtain ⟨A,c,rfl,hlc,hcm,hAn,hel⟩:=h2
  have hsmall:Cs.length+Ds.length<=9223372036854775807:=by unfold maxLen at hmx;omega
  cases A with
  | none=>
    have hD0:Ds= []:=by
      cases Ds with
      |nil=>rfl
      |cons D Ds=>obtain ⟨b,o,cs,e1,_⟩:=hel 0 D rfl;cases e1
    subst hD0
    have hc:=hAn rfl
    subst hc
    rcases hr with ⟨rfl,rfl⟩|⟨g,cap,cur,rfl,g2,g3,g4,g5,g6,g7,g8⟩
    . refine ⟨.slice none 0 0,w, ?_, .inl ⟨rfl,rfl⟩,⟨rfl,rfl,rfl,pY _,fun _ _ _=>rfl⟩, .inl rfl⟩
      simp [Builtin.append_,rE ht,sizeOf,typeInfo,hi,Builtin.lenOf,Builtin.firstCells]
    . refine ⟨_,w, ?_, .inr ⟨g,cap,cur,rfl,g2,g3,by simpa using g4,g5,g6,g7,by simpa using g8⟩,⟨rfl,rfl,rfl,pY _,fun _ _ _=>rfl⟩, .inl rfl⟩
      simp [Builtin.append_,rE ht,sizeOf,typeInfo,hi,Builtin.lenOf,Builtin.firstCells,g4,storeCells]
  | some ad=>
    obtain ⟨news,n1,n2,n3,n4,n5⟩: ∃news:List Wc,news.length=Ds.length*z/\(∀j u,news[j]?=some u->w.cell? (ad.add j)=some u)/\(∀u,u∈news->u.oneCell'=true)/\news.all zV=true/\ ∀(i:Nat) (C:CU),Ds[i]?=some C->C.p ((news.drop (i*z)).take z) w:=by
      cases Ds with
      |nil=>exact ⟨[],by simp,by simp,by simp,rfl,by simp⟩
      | cons D Ds=>
        obtain ⟨b,o,cs,e1,_⟩:=hel 0 D rfl
        cases e1
        obtain ⟨news,k1,k2,k3⟩:=zC0 (W:=w) (b:=b) (z:=z) (D::Ds) o hD fun i C hiC=>by
          obtain ⟨b',o',cs',e',m1,m2⟩:=hel i C hiC
          cases e'
          exact ⟨cs',m1,m2⟩
        exact ⟨news,k1,fun j u hj=>by rw [rI];exact k2 j u hj,k3⟩
    -- what the growing arm leaves
    have grown: ∀(old:Nat) (cs:List Wc) (row:Wf Nat),cs.length=Cs.length*z->cs.all zV=true->(∀(i:Nat) (C:CU),Cs[i]?=some C->C.p ((cs.drop (i*z)).take z) w)->old<Cs.length+Ds.length->
        zAs (w.drew.alloc (.cells (cs.toArray++news.toArray++Builtin.zeroCells zv.cells (grownCap w (Cs.length+Ds.length) old e - (Cs.length+Ds.length))) e)) base e z (.slice (some ⟨w.heap.size,0,none⟩) (Cs.length+Ds.length) (grownCap w (Cs.length+Ds.length) old e)) (Cs++Ds)/\
        w.grownBy (w.drew.alloc (.cells (cs.toArray++news.toArray++Builtin.zeroCells zv.cells (grownCap w (Cs.length+Ds.length) old e - (Cs.length+Ds.length))) e)) row:=by
      intro old cs row hl hn hcs ho
      have hge:=grownCap_ge w (Cs.length+Ds.length) old e
      have hcm:grownCap w (Cs.length+Ds.length) old e<=maxLen:=grownCap_le_maxLen w (Cs.length+Ds.length) old e hmx
      refine ⟨.inr ⟨w.heap.size,_,_,by rw [rO],hbase,heap_alloc_new w.drew _,by rw [rO];exact hge,hcm, ?_, ?_, ?_⟩,⟨rfl,rfl,rfl,by simp,fun k hk _=>heap_alloc_old w.drew _ hk⟩⟩
      . simp only [Array.size_append,tB,size_zeroCells,hzs,hl,n1, <-rH]
        congr 1
        omega
      . simp only [tC]
        exact zCO hn n4 (zA3 hzn _)
      . simp only [tC]
        exact zCu hl n1 hcs n5 (zL ⟨rfl,rfl,rfl,by simp,fun k hk=>heap_alloc_old w.drew _ hk⟩)
    rcases hr with ⟨rfl,rfl⟩|⟨g,cap,cur,rfl,g2,g3,g4,g5,g6,g7,g8⟩
    . by_cases hm:Ds.length=0
      . have hD0:=List.eq_nil_of_length_eq_zero hm
        subst hD0
        refine ⟨.slice none 0 0,w, ?_, .inl ⟨rfl,rfl⟩,⟨rfl,rfl,rfl,pY _,fun _ _ _=>rfl⟩, .inl rfl⟩
        simp [Builtin.append_,rE ht,sizeOf,typeInfo,hi,Builtin.lenOf,Builtin.firstCells,loadCells,loadCellsFrom]
      . have hr:=run_append_nil (P:=P) w t ty e i zv ht hi hz ad Ds.length c news (by rw [hs];exact n1) n2 oN (by simp at hsmall;omega) (by simp at hbb;omega)
        have hgr:=grown 0 [] (Value.ownBlock (.slice none 0 0)) fL rfl fL (by simp;omega)
        simp only [List.length_nil,Nat.zero_add,tA,Array.empty_append] at hgr ⊢
        exact ⟨_,_,hr,hgr.1,hgr.2, .inr rfl⟩
    . by_cases hroom:Cs.length+Ds.length<=cap
      . have hfit:Cs.length*i.size+news.length<=cur.size:=by rw [n1,g6,hs, <-rH];exact sF _ hroom
        have hr:=run_append_room (P:=P) w t ty e i ht hi g Cs.length cap cur g3 ad Ds.length c news (by rw [hs];exact n1) n2 n3 hroom hfit
        rw [hs] at hr hfit
        have hgr:w.grownBy (w.setRow g (cur.toList.take (Cs.length*z)++news++cur.toList.drop (Cs.length*z+news.length)).toArray) (some g):=zBk w g _
        have hk:yO w (w.setRow g (cur.toList.take (Cs.length*z)++news++cur.toList.drop (Cs.length*z+news.length)).toArray):=
          zAs.keepU (v:= .slice (some ⟨g,0,none⟩) Cs.length cap) (Cs:=Cs) (base:=base) (e:=e) (z:=z) (.inr ⟨g,cap,cur,rfl,g2,g3,g4,g5,g6,g7,g8⟩) hgr
        have hcl:cur.toList.length=cap*z:=g6
        have hle:Cs.length*z<=cur.toList.length:=by rw [hcl];exact sF _ g4
        have htl:(cur.toList.take (Cs.length*z)).length=Cs.length*z:=by rw [tD,Nat.min_eq_left hle]
        have hsub: ∀u,u∈cur.toList->zV u=true:=pE.1 g7
        refine ⟨_,_,hr, .inr ⟨g,cap,_,by rw [rO],g2,setRow_heap w g cur _ e _ g3,by rw [rO];exact hroom,g5, ?_, ?_, ?_⟩,hgr, .inl rfl⟩
        . simp only [tB,rO,tD,sP,Array.length_toList]
          rw [<-g6]
          omega
        . exact zCO (pE.2 fun u hu=>hsub u (sT hu)) n4 (pE.2 fun u hu=>hsub u (List.mem_of_mem_drop hu))
        . refine zCu htl n1 (fun j C hj=> ?_) n5 hk
          have hlt:j<Cs.length:=(rF.1 hj).1
          have h1:=g8 j C hj
          rw [<-List.take_append_drop (Cs.length*z) cur.toList,zBX htl hlt] at h1
          exact h1
      . have htl:(cur.toList.take (Cs.length*z)).length=Cs.length*z:=by
          rw [tD,show cur.toList.length=cap*z from g6,Nat.min_eq_left (sF _ g4)]
        have holds: ∀j u,(cur.toList.take (Cs.length*z))[j]?=some u->w.cell? ((⟨g,0,none⟩:Addr).add j)=some u:=fun j u hj=>by
          rw [rI,Nat.zero_add]
          rw [List.getElem?_take] at hj
          split at hj
          . unfold World.cell?
            simp only [g3]
            simpa using hj
          . cases hj
        have hr:=run_append_grow (P:=P) w t ty e i zv ht hi hz ⟨g,0,none⟩ Cs.length cap (cur.toList.take (Cs.length*z)) (by rw [hs];exact htl) holds ad Ds.length c news (by rw [hs];exact n1) n2 oN oN (growslice_fits oN hbb)
        have hgr:=grown cap (cur.toList.take (Cs.length*z)) (Value.ownBlock (.slice (some ⟨g,0,none⟩) Cs.length cap)) htl (pE.2 fun u hu=>pE.1 g7 u (sT hu)) (fun j C hj=>by
          have hlt:j<Cs.length:=(rF.1 hj).1
          have h1:=g8 j C hj
          rw [<-List.take_append_drop (Cs.length*z) cur.toList,zBX htl hlt] at h1
          exact h1) oN
        exact ⟨_,_,hr,hgr.1,hgr.2, .inr rfl⟩
section
variable {S:Nat->Prop} {F:Fence} {m:Nat} {P:Wh} {Q:Exit->Act->Wb->Prop} {w0 w1:Wb} {K K0:List (Nat×KF)} {B B0:List Bx} {n n0:Nat} {ds ds0:List Deferred} {a a0:Act} {w:Wb}
theorem yH.ro {S':Nat->Prop} {w':Wb}: ∀(B:List Bx),(∀x,x∈B->x.r=true)->yH S w0 a w B->yH S' w' a w B
 | [],_,_=>trivial
 |x::B,hr,⟨⟨cs,h1,_,h3⟩,h4⟩=>⟨⟨cs,h1, .inl (hr x fL),h3⟩,yH.ro B (fun y hy=>hr y (by simp [hy])) h4⟩
def frz (B:List Bx):List Bx:=B.map fun x=>⟨x.t,x.e,x.c,x.b,true⟩
theorem yH.freeze: ∀(B:List Bx),yH S w0 a w B->yH S w0 a w (frz B)
 | [],_=>trivial
 |x::B,⟨⟨cs,h1,_,h3,h4,h5,h6⟩,h7⟩=>⟨⟨cs,h1, .inl rfl,h3,h4,h5,fun y hy=>by
  obtain ⟨z,hz,rfl⟩:=pJ.1 hy
  exact .inr ⟨rfl,rfl⟩⟩,yH.freeze B h7⟩
theorem StS.freeze (h:StS S w0 K B n ds a w):StS S w0 K (frz B) n ds a w:=⟨h.gr,h.size,h.nd,h.sl,yH.freeze B h.bx,h.mks,h.so⟩
theorem StS.below (h:St w0 K B n ds a w):Below w0.heap.size w0 w:=h.gr.below
theorem StS.reb (h:St w0 K B n [] a w) (hB:(B.all fun x=>x.r)=true) (K':List (Nat×KF)) (hK: ∀q,q∈K'->q∈K∨ ∃f,q.2= .o f/\f.p (a.tmps.getD q.1 undef) w):St w K' B n [] a w:=
 ⟨BlS.refl _ _,h.size,h.nd,fun q hq=>by
  rcases hK q hq with hq|⟨f,e,hf⟩
  ·have h1:=h.sl q hq
   cases h2:q.2 with
   |u f=>rw [h2] at h1;exact h1
   |o f=>rw [h2] at h1;exact f.st _ _ _ h1 h.below
  ·rw [e];exact hf,yH.ro B (fun x hx=>by simpa using pE.1 hB x hx) h.bx,⟨[],Marks.nil _ _⟩, .inr fun _ hh=>hh⟩
theorem StS.val (h:StS S w0 K B n ds a w) {t:Nat} {v:Wc} (hm:(t,KF.u (UF.eq v))∈K):a.tmps.getD t undef=v:=h.sl _ hm
theorem StS.back (h0:StS S w0 K0 B0 n0 ds0 a0 w1) (h:St w1 K B n [] a w) (hu:(K.all fun q=>zHG q.2)=true):StS S w0 K B n [] a w:=
 ⟨h0.gr.trans h.below,h.size,h.nd,fun q hq=>by
  have h1:=h.sl q hq
  obtain ⟨f,e⟩:=yN hu q hq
  rw [e] at h1 ⊢
  exact h1,by
  have: ∀B:List Bx,yH noS w1 a w B->yH S w0 a w B:=fun B=>by
   induction B with
   |nil=>exact fun _=>trivial
   |cons x B ih=>
    intro ⟨⟨cs,h1,h2,h3⟩,h4⟩
    exact ⟨⟨cs,h1,h2.imp id fun h=> .inl (by rcases h with h|h;exact pL h0.gr.size h;exact h.elim),h3⟩,ih h4⟩
  exact this B h.bx,⟨[],Marks.nil _ _⟩, .inl (yN hu)⟩
theorem StS.resN (h:St w1 K B n [] a w) (hb:Below w0.heap.size w0 w1) {fn:Func} {f:SF} {t:Nat} (hr:fn.results=#[.tmp t]) (hd:f.p (a.tmps.getD t undef) w):bodyPost P fn (Ret w0 f) .ret a w:=by
 refine ⟨h.nd,_, ?_,⟨_,rfl,hd,hb.trans (h.below.mono hb.size)⟩⟩
 simp [results,hr]
theorem vJ (h:St w1 K B n [] a w) (hb:Below w0.heap.size w0 w1) {fn:Func} {f:SF} {t:Nat} (hr:fn.results=#[.tmp t]) (hd: ∀v W,(jM K B t).p v W->f.p v W):bodyPost P fn (Ret w0 f) .ret a w:=
 h.resN hb hr (hd _ _ (h.at.sl t))
def wE (W:Wb) (e:We) (z:Nat) (Cs:List CU):SF:=⟨fun v w=>zAs w W.heap.size e z v Cs,fun _ _ _ h hb=>h.below hb⟩
theorem jR {W:Wb} {e:We} {z:Nat} {Cs:List CU} (v:Wc) (w:Wb) (h:(wE W e z Cs).p v w):(SF.row z Cs).p v w:=zAs.row h
theorem zQE {ops:Array Oper} {k d:Nat} {x y:Wg} {t ty:We} {pos:String} {aft:Array Edge} {e:We} {z base:Nat} {v:Wc} {Cs:List CU} (Ds:List CU) (h0:StS S w0 K0 B0 n0 ds0 a0 w1) (h:St w1 K B n [] a w) (hb0:w0.heap.size<=base) (hr:base<=w1.heap.size/\zAs w1 base e z v Cs)
  (ho:ops[k]?=some ⟨some d, .call ⟨.builtin .append,#[x,y],#[t,t]⟩,ty,pos,aft,none⟩) (happ:zDH P t=some (e,z,true)) (hf:zAc K B n d=true) (hu:(K.all fun q=>zHG q.2)=true)
  (hx:a.eval x=v) (hy:(SF.row z Ds).p (a.eval y) w) (hD: ∀C,C∈Ds->CU.ok z C) (hsz:Cs.length+Ds.length<=140000000000) (hB: ∀q,q∈B->q.r=true->q.b<base)
  (fin: ∀v' a' w',(base<=w'.heap.size/\zAs w' base e z v' (Cs++Ds))->StS S w0 ((d, .u (UF.eq v'))::K) B n [] a' w'->zA8 F m P ops Q (k+1) a' w'):zA8 F m P ops Q k a w:=by
 have hb1:=h.below
 have hr':zAs w base e z v Cs:=hr.2.below hb1
 obtain ⟨v',w',hrun,g1,g2,_⟩:=zFA (P:=P) (ty:=ty) happ hr' hy hD hsz (pL hr.1 hb1.size)
 have hrun2:(execOp a.eval ⟨some d, .call ⟨.builtin .append,#[x,y],#[t,t]⟩,ty,pos,aft,none⟩).run P w= .ok (.value v') w':=by
  simp only [execOp,resolve,invoke,builtin,rC,rN,rW,sG,pX,rQ,hx,hrun]
 refine j5 ho rfl ⟨fun f hf=>(by
  unfold Oper.about at hf
  simp [resolve,go_sem] at hf), ?_⟩
 rw [pR _ _ _ (fun _ e=>by cases e),hrun2]
 have hk:yO w w':=hr'.keepU g2
 have hlt:=hr.2.lt
 have s0:=h0.back h hu
 have s1:StS S w0 K B n [] a w':=by
  refine ⟨?_,s0.size,s0.nd,fun q hq=>KF.us (s0.sl q hq) hk, ?_,⟨[],Marks.nil _ _⟩,s0.so⟩
  ·cases hv:v.ownBlock with
   |none=>
    refine ⟨g2.os.trans s0.gr.os,g2.tape.trans s0.gr.tape,g2.output.trans s0.gr.output,pL s0.gr.size g2.size,fun k hk1 hk2=> ?_⟩
    exact (g2.block k (pT hk1 s0.gr.size) (by rw [hv];simp)).trans (s0.gr.block k hk1 hk2)
   |some g=>exact s0.gr.grown (by rw [hv] at g2;exact g2) (.inl (pL hb0 (hlt g hv).1))
  ·refine wL hk B (fun q hq=> ?_) s0.bx
   obtain ⟨_,_,hc,h3,_⟩:=h.bx.mem q hq
   refine g2.block _ (pF.1 h3).1 fun e=> ?_
   have h4:=hlt _ e.symm
   rcases hc with hc|hc|hc
   ·have:=hB q hq hc;omega
   ·omega
   ·exact hc
 exact fin v' _ w' ⟨pL (pL hr.1 hb1.size) g2.size,g1⟩ (s1.set hf (pM _ _) rfl)
theorem zJW {σ:Type} {c:Code} (I:σ->Wb->Prop) (Kf:σ->List (Nat×KF)) (mu:σ->Nat) (x0:σ) (hI:I x0 w) (h0:StS S w0 (Kf x0) B n ds a w)
  (round: ∀x a w,I x w->StS S w0 (Kf x) B n ds a w->c.wpIn F m P (Exit.then (fun a' w'=> ∃y,mu y<mu x/\I y w'/\StS S w0 (Kf y) B n ds a' w') Q) a w):(Code.loop c).wpIn F m P Q a w:=
 zCw (fun x a w=>I x w/\StS S w0 (Kf x) B n ds a w) mu x0 ⟨hI,h0⟩ fun x a w h=>round x a w h.1 h.2
end
def SF.fn (P:Wh) (T:Array Wc->Wb->SF->Prop):SF:=⟨fun v W=> ∃f caps,v= .func (.func f) #[] caps/\Enters P f/\ ∀W',Below W.heap.size W W'-> ∀args R,T args W' R->Calls P f (args++caps) W' (Ret W' R),fun _ _ _ ⟨f,caps,h1,h2,h3⟩ hb=>⟨f,caps,h1,h2,fun W' hb'=>h3 W' (hb.trans (hb'.mono hb.size))⟩⟩
section
variable {F:Fence} {m:Nat} {P:Wh} {w0:Wb} {ops:Array Oper} {G:Nat->SF} {d:Tmp} {ty:We} {pos:String} {aft:Array Edge}
theorem zKT {y:Wg} {xs:Array Wg} {ats:Array We} (T:Array Wc->Wb->SF->Prop) (hF:zHN F m P) (hy: ∀v W,Below w0.heap.size w0 W->(fct G y).p v W->(SF.fn P T).p v W)
  (h: ∀(b:Act) (W:Wb),Below w0.heap.size w0 W->(∀x,x∈xs.toList->(fct G x).p (b.eval x) W)->T (xs.map b.eval) W (G d)):
  qK F m P w0 ops G ⟨some d, .call ⟨.value y,xs,ats⟩,ty,pos,aft,none⟩:=by
 intro b W K Q hb hr hK
 have hin: ∀x,x∈(Op.call ⟨.value y,xs,ats⟩).operands.toList->(fct G x).p (b.eval x) W:=fun x hx=>yU hr hx
 obtain ⟨f,caps,e1,he,hc⟩:=hy _ _ hb (hin y (by simp [Op.operands,Call.operands]))
 have h1:=h b W hb fun x hx=>hin x (by simp [Op.operands,Call.operands];right;simpa using hx)
 refine ⟨fun g _=>hF.1 g, ?_⟩
 have hrun:(execOp b.eval ⟨some d, .call ⟨.value y,xs,ats⟩,ty,pos,aft,none⟩).run P W= .ok (.enter f (xs.map b.eval++caps)) W:=by
  simp only [execOp,resolve,e1,Deferred.ofValue,rC,rN,rW,invoke]
  rw [show (#[]:Array Wc)++xs.map b.eval=xs.map b.eval by simp]
  exact he _ _
 rw [pR _ _ _ (fun _ e=>by cases e),hrun]
 simp only [Oper.uponIn_enter]
 refine ⟨hF.2.1,CallsIn.mono (hF.2.2 _ _ _ (Ret W (G d)) (hc W (pM _ _) _ _ h1)) fun e W' he=> ?_⟩
 obtain ⟨v,rfl,hv,hb'⟩:=he
 exact hK v W' (fun d' e=>by cases e;exact hv) hb'
theorem zQ7 {y:Wg} {xs:Array Wg} {ats:Array We} (T:Array Wc->Wb->SF->Prop) (hF:zHN F m P) (hy: ∀v W,(fct G y).p v W->(SF.fn P T).p v W)
  (h: ∀(b:Act) (W:Wb),Below w0.heap.size w0 W->(∀x,x∈xs.toList->(fct G x).p (b.eval x) W)->T (xs.map b.eval) W (G d)):
  qK F m P w0 ops G ⟨some d, .call ⟨.value y,xs,ats⟩,ty,pos,aft,none⟩:=zKT T hF (fun v W _ h=>hy v W h) h
theorem zQ8 {y x x':Wg} {ats:Array We} (T:Array Wc->Wb->SF->Prop) (hF:zHN F m P) (hy: ∀v W,(fct G y).p v W->(SF.fn P T).p v W) (h: ∀u v W,Below w0.heap.size w0 W->(fct G x).p u W->(fct G x').p v W->T #[u,v] W (G d)):qK F m P w0 ops G ⟨some d, .call ⟨.value y,#[x,x'],ats⟩,ty,pos,aft,none⟩:=
 zQ7 T hF hy fun b W hb hh=>by simpa using h _ _ W hb (hh x fL) (hh x' fL)
end
def zTo (f:UF):Prop:= ∀v W,f.p v W-> ∃s A n c A' n' c',v= .agg #[.bool s, .slice A n c, .slice A' n' c']
theorem zA4 (q:Rat):zTo (fQN q):=fun _ _ h=>by
 obtain ⟨A,n,c,A',n',c',e⟩:=zB6 h
 exact ⟨_,A,n,c,A',n',c',e⟩
def PTp (f g:UF) (v:Wc) (w:Wb):Prop:= ∃s A n c A' n' c' s2 B k d B' k' d',v= .agg #[.bool s, .slice A n c, .slice A' n' c', .bool s2, .slice B k d, .slice B' k' d']/\f.p (.agg #[.bool s, .slice A n c, .slice A' n' c']) w/\g.p (.agg #[.bool s2, .slice B k d, .slice B' k' d']) w
def fPT (f g:UF):UF:= .mk' (PTp f g) fun _ _ _ ⟨s,A,n,c,A',n',c',s2,B,k,d,B',k',d',e,h1,h2⟩ u=>⟨s,A,n,c,A',n',c',s2,B,k,d,B',k',d',e,f.us _ _ _ h1 u,g.us _ _ _ h2 u⟩
abbrev fPN (p:V2):UF:=fPT (fQN p.1) (fQN p.2)
abbrev fPV (m:Nat) (p:V2):UF:=fPT (fRV m p.1) (fRV m p.2)
theorem zDN {cs:List Wc} {a b c d e f:Wc} (h:Value.agg cs.toArray= .agg #[a,b,c,d,e,f]):cs= [a,b,c,d,e,f]:=by
 have:=rB Array.toList (jT h)
 simpa using this
theorem yP (f g:UF): ∀cs:List Wc, ∀W,(fPT f g).p (.agg cs.toArray) W->cs.length=6:=fun cs W ⟨_,_,_,_,_,_,_,_,_,_,_,_,_,_,e,_⟩=>by rw [zDN e];rfl
theorem zIs {f g:UF} (cs:List Wc) (W:Wb) (h:(CU.agg (fPT f g)).p cs W):0+3<=cs.length/\f.p (.agg ((cs.drop 0).take 3).toArray) W:=by
 obtain ⟨_,_,_,_,_,_,_,_,_,_,_,_,_,_,e,h1,_⟩:=h
 rw [zDN e]
 exact ⟨by simp,h1⟩
theorem zIr {f g:UF} (cs:List Wc) (W:Wb) (h:(CU.agg (fPT f g)).p cs W):3+3<=cs.length/\g.p (.agg ((cs.drop 3).take 3).toArray) W:=by
 obtain ⟨_,_,_,_,_,_,_,_,_,_,_,_,_,_,e,_,h1⟩:=h
 rw [zDN e]
 exact ⟨by simp,h1⟩
theorem zAI {f g:UF} {v:Wc} {W:Wb} (h:(fPT f g).p v W):(CU.agg (fPT f g)).p v.cells.toList W/\v.cells.toList.all zV=true:=by
 obtain ⟨s,A,n,c,A',n',c',s2,B,k,d,B',k',d',rfl,h1,h2⟩:=h
 exact ⟨⟨s,A,n,c,A',n',c',s2,B,k,d,B',k',d',rfl,h1,h2⟩,rfl⟩
theorem zJ4 {s s2:Bool} {A A' B B':Wf Addr} {n c n' c' k d k' d':Nat} (u:Wc) (hu:u∈ [Value.bool s, .slice A n c, .slice A' n' c', .bool s2, .slice B k d, .slice B' k' d']):u.oneCell'=true:=by
 simp only [pV,List.not_mem_nil,or_false] at hu
 rcases hu with rfl|rfl|rfl|rfl|rfl|rfl<;>rfl
theorem jX {f g:UF} (v:Wc) (W:Wb) (h:(fPT f g).p v W): ∃vs:List Wc,v= .agg vs.toArray/\vs.length=6/\(∀u,u∈vs->u.oneCell'=true)/\vs.all zV=true/\(CU.agg (fPT f g)).p vs W:=by
 obtain ⟨s,A,n,c,A',n',c',s2,B,k,d,B',k',d',rfl,h1,h2⟩:=h
 exact ⟨_,rfl,rfl,zJ4,rfl,s,A,n,c,A',n',c',s2,B,k,d,B',k',d',rfl,h1,h2⟩
theorem zBc (f g:UF):CU.ok 6 (CU.agg (fPT f g)):=fun cs W ⟨s,A,n,c,A',n',c',s2,B,k,d,B',k',d',e,_⟩=>by
 rw [zDN e]
 exact ⟨rfl,rfl,zJ4⟩
theorem zHy {f g f' g':UF} (hf: ∀v W,f.p v W->f'.p v W) (hg: ∀v W,g.p v W->g'.p v W) {v:Wc} {W:Wb} (h:(fPT f g).p v W):(fPT f' g').p v W:=by
 obtain ⟨s,A,n,c,A',n',c',s2,B,k,d,B',k',d',e,h1,h2⟩:=h
 exact ⟨s,A,n,c,A',n',c',s2,B,k,d,B',k',d',e,hf _ _ h1,hg _ _ h2⟩
theorem zCG {p:V2} {m:Nat} (h1:QB p.1 m) (h2:QB p.2 m) {v:Wc} {W:Wb} (h:(fPN p).p v W):(fPV m p).p v W:=zHy (fun _ _ h=>wH h h1) (fun _ _ h=>wH h h2) h
theorem zBJ {p:V2} {m m':Nat} (hm:m<=m') {v:Wc} {W:Wb} (h:(fPV m p).p v W):(fPV m' p).p v W:=zHy (fun _ _ h=>RVp.mono h hm) (fun _ _ h=>RVp.mono h hm) h
theorem bPt (s:Bool) (A A':Wf Addr) (n n' c c':Nat) (s2:Bool) (B B':Wf Addr) (k k' d d':Nat):prog.built 30 [(0, .agg #[.bool s, .slice A n c, .slice A' n' c']),(1, .agg #[.bool s2, .slice B k d, .slice B' k' d'])]=some #[.bool s, .slice A n c, .slice A' n' c', .bool s2, .slice B k d, .slice B' k' d']:=by kernel_rfl
theorem zQn {f g:UF} {u v:Wc} {W:Wb} (hf:zTo f) (hg:zTo g) (hu:f.p u W) (hv:g.p v W): ∃cells,prog.built 30 [(0,u),(1,v)]=some cells/\(fPT f g).p (.agg cells) W:=by
 obtain ⟨s,A,n,c,A',n',c',rfl⟩:=hf _ _ hu
 obtain ⟨s2,B,k,d,B',k',d',rfl⟩:=hg _ _ hv
 exact ⟨_,bPt _ _ _ _ _ _ _ _ _ _ _ _ _ _,s,A,n,c,A',n',c',s2,B,k,d,B',k',d',rfl,hu,hv⟩
abbrev pns (ps:List V2):List CU:=ps.map fun p=>CU.agg (fPN p)
abbrev pvs (m:Nat) (ps:List V2):List CU:=ps.map fun p=>CU.agg (fPV m p)
theorem zCF {ps:List V2} {i:Nat} (h:i<ps.length):(pns ps)[i]?=some (CU.agg (fPN (at_ ps i))):=by
 unfold pns at_;rw [List.getElem?_map,tL,sI h];rfl
theorem zAV {m:Nat} {ps:List V2} {i:Nat} (h:i<ps.length):(pvs m ps)[i]?=some (CU.agg (fPV m (at_ ps i))):=by
 unfold pvs at_;rw [List.getElem?_map,tL,sI h];rfl
theorem zN8 (ps:List V2): ∀C,C∈pns ps->CU.ok 6 C:=fun C hC=>by
 obtain ⟨p,_,rfl⟩:=pJ.1 hC
 exact zBc _ _
theorem zHp {z:Nat} {Cs Ds:List CU} (hl:Cs.length=Ds.length) (h: ∀(i:Nat) (C D:CU),Cs[i]?=some C->Ds[i]?=some D-> ∀cs W,C.p cs W->D.p cs W) (v:Wc) (W:Wb) (hv:(SF.row z Cs).p v W):(SF.row z Ds).p v W:=by
 obtain ⟨A,c,e,h2,h3,h4,h5⟩:=hv
 rw [hl] at e h2
 refine ⟨A,c,e,h2,h3,h4,fun i D hD=> ?_⟩
 have hi:i<Cs.length:=by rw [hl];exact (rF.1 hD).1
 obtain ⟨b,o,cs,g1,g2,g3⟩:=h5 i _ (sI hi)
 exact ⟨b,o,cs,g1,g2,h i _ _ (sI hi) hD cs W g3⟩
theorem zKF {ps:List V2} {m:Nat} (hp: ∀p,p∈ps->QB p.1 m/\QB p.2 m) (v:Wc) (W:Wb) (hv:(SF.row 6 (pns ps)).p v W):(SF.row 6 (pvs m ps)).p v W:=
 zHp fL (fun i C D hC hD cs W h=>by
  have hi:i<ps.length:=by have:=(rF.1 hC).1;simpa using this
  rw [zCF hi] at hC
  rw [zAV hi] at hD
  cases hC;cases hD
  have:=hp _ (zCj hi)
  exact zCG this.1 this.2 h) v W hv
section
variable {F:Fence} {m:Nat} {P:Wh} {w0:Wb} {ops:Array Oper} {G:Nat->SF} {d:Tmp} {ty:We} {pos:String} {aft:Array Edge}
theorem zKS {f:FuncId} {cs:Array Wg} (h: ∀(b:Act) (W:Wb),Below w0.heap.size w0 W->(∀x,x∈cs.toList->(fct G x).p (b.eval x) W)->(G d).p (.func (.func f) #[] (cs.map b.eval)) W):qK F m P w0 ops G ⟨some d, .makeFunc (.func f) #[] cs,ty,pos,aft,none⟩:=
 qO (fun _ e=>by cases e) (fun _ e=>by cases e) fun b W hb hh=>by
  have:=h b W hb fun x hx=>hh x (by simpa [Op.operands] using hx)
  exact ⟨_,by simp [execOp,Instr.makeFunc],this⟩
theorem zIw {f:FuncId} {x:Wg} (h: ∀u W,Below w0.heap.size w0 W->(fct G x).p u W->(G d).p (.func (.func f) #[] #[u]) W):qK F m P w0 ops G ⟨some d, .makeFunc (.func f) #[] #[x],ty,pos,aft,none⟩:=
 zKS fun b W hb hh=>by simpa using h _ W hb (hh x fL)
theorem zZ {x y:Wg} {t:We} {z:Nat} {Cs:List CU} {i:Nat} {C:CU} (hz:zAw P t=some z) (hi:Cs[i]?=some C) (hx: ∀v W,Below w0.heap.size w0 W->(fct G x).p v W->(SF.row z Cs).p v W) (hy: ∀v W,(fct G y).p v W->v= .int .i64 (i:Int)) (hd: ∀v W,(wC C.cf).p v W->(G d).p v W:=by exact fun _ _ h=>h):qK F m P w0 ops G ⟨some d, .indexAddr t x y,ty,pos,aft,none⟩:=
 qO (fun _ e=>by cases e) (fun _ e=>by cases e) fun b W hb hh=>by
  obtain ⟨A,c,e,h2,h3,h4,h5⟩:=hx _ _ hb (hh x (by simp [Op.operands]))
  have e2:=hy _ _ (hh y (by simp [Op.operands]))
  obtain ⟨b',o,cs,rfl,h6,h7⟩:=h5 i C hi
  have hlt:i<Cs.length:=(rF.1 hi).1
  unfold zAw at hz
  split at hz<;>try cases hz
  rename_i e' hu
  cases hin:P.info? e' with
  |none=>rw [hin] at hz;cases hz
  |some ie=>
   rw [hin] at hz
   simp only [Option.map_some,sS] at hz
   have hel:P.elem t=e':=by simp [Program.elem,hu]
   refine ⟨.pointer (some ⟨b',o+i*z,none⟩), ?_,hd _ _ ⟨b',o+i*z,cs,rfl,h7,h6⟩⟩
   have hb1:(0:Int)<=(i:Int)/\(i:Int)<(Cs.length:Nat):=by omega
   simp only [execOp,e,e2]
   rw [rC,run_indexAt_slice _ _ _ _ _ _ _ (by rw [hel];exact hu),if_pos hb1,hel]
   simp [sizeOf,typeInfo,hin,hz,rI]
theorem y7 {x:Wg} {t:We} {z:Nat} {Cs:List CU} (ht:P.underlying t=some (.slice (P.elem t))) (hx: ∀v W,Below w0.heap.size w0 W->(fct G x).p v W->(SF.row z Cs).p v W) (hd: ∀W,(G d).p (.int .i64 (Cs.length:Nat)) W:=by exact fun _=>rfl):qK F m P w0 ops G ⟨some d, .call ⟨.builtin .len,#[x],#[t]⟩,ty,pos,aft,none⟩:=by
 intro b W K Q hb hr hK
 obtain ⟨A,c,e,_⟩:=hx _ _ hb (yU hr (x:=x) (by simp [Op.operands,Call.operands]))
 refine ⟨fun f hf=>(by
  unfold Oper.about at hf
  simp [resolve,go_sem] at hf), ?_⟩
 rw [pR _ _ _ (fun _ e=>by cases e)]
 have:(execOp b.eval ⟨some d, .call ⟨.builtin .len,#[x],#[t]⟩,ty,pos,aft,none⟩).run P W= .ok (.value (.int .i64 (Cs.length:Nat))) W:=by
  simp [execOp,resolve,invoke,builtin,e,run_len_slice _ _ _ _ _ _ ht,goInt]
 rw [this]
 exact hK _ _ (fun d' e'=>by cases e';exact hd _) (pM _ _)
theorem zB9 {t:We} {x y:Wg} {t':We} (k:IntKind) (u v r:Int) (hx: ∀q W,(fct G x).p q W->q= .int k u) (hy: ∀q W,(fct G y).p q W->q= .int k v) (hv:v≠0) (hr:u.tmod v=r) (hd: ∀W,(G d).p (.int k r) W:=by exact fun _=>rfl):qK F m P w0 ops G ⟨some d, .binOp .rem t x y t',ty,pos,aft,none⟩:=
 zC6 (.int k u) (.int k v) (.int k r) hx hy (fun W=>by simp [eqGuard]) (fun W=>by simp [binOp,Op.intDiv,hv,hr]) hd
end
section
variable {F:Fence} {m:Nat} {P:Wh} {ops:Array Oper} {Q:Exit->Act->Wb->Prop}
theorem zHr {S:Nat->Prop} {w0:Wb} {K:List (Nat×KF)} {B:List Bx} {n:Nat} {ds:List Deferred} {a:Act} {w:Wb} {id:Nat} (k:Nat) (L:List (Nat×Rw)) (h:StS S w0 K B n ds a w)
  (hchk:(zD3 ops k n (L.map (·.1))&&zEU ops k (K.map (·.1)++B.map (·.t))&&zAm (L.map (·.1)))=true)
  (hobs:Obs F m P w ops (upd (jM K B) (zJ L)) (ops.toList.take k))
  (hfin: ∀a w,StS S w0 (zBj L++K) B n ds a w->(∀q,q∈zJ L->q.2.p (a.tmps.getD q.1 undef) w)->zA8 F m P ops Q k a w):(Code.region id ops false).wpIn F m P Q a w:=by
 simp only [pK] at hchk
 obtain ⟨⟨hchk,hun⟩,hnd⟩:=hchk
 unfold zD3 at hchk
 simp only [pK] at hchk
 obtain ⟨⟨⟨⟨⟨hap,hfr⟩,hpl⟩,hk⟩,hkeys⟩,hrd⟩:=hchk
 have hk:=sY hk
 have hks:(zJ L).map (·.1)=L.map (·.1):=by simp [zJ]
 have hsame: ∀t,t∈K.map (·.1)++B.map (·.t)-> ∀i,i<k->zQ ops i≠some t:=fun t ht i hi he=>by
  have h2:=pE.1 (pE.1 hun t ht) i (pH.2 hi)
  rw [he] at h2
  simp at h2
 have hA:=h.at
 have hkn: ∀t,(∀j,j<k->zQ ops j≠some t)->upd (jM K B) (zJ L) t=jM K B t:=fun t ht=>by
  refine q8 ?_
  cases hc:((zJ L).map (·.1)).contains t with
  |false=>rfl
  |true=>
   exfalso
   have hm:=pP.1 hc
   rw [hks] at hm
   obtain ⟨i,hi,he⟩:=pQ.1 (pE.1 hkeys t hm)
   exact ht i (pH.1 hi) (by simpa using he)
 refine wpIn_region ?_
 rw [List.range_eq_range']
 -- the table, the kept slots' values said
 let G1:Nat->SF:=fun t=>if t∈K.map (·.1)++B.map (·.t) then ⟨fun v W=>(upd (jM K B) (zJ L) t).p v W/\v=a.tmps.getD t undef,fun _ _ _ h hb=>⟨(upd (jM K B) (zJ L) t).st _ _ _ h.1 hb,h.2⟩⟩ else upd (jM K B) (zJ L) t
 have hle: ∀t v W,(G1 t).p v W->(upd (jM K B) (zJ L) t).p v W:=fun t v W hh=>by
  by_cases ht:t∈K.map (·.1)++B.map (·.t)
  ·simp only [G1,if_pos ht] at hh
   exact hh.1
  ·simp only [G1,if_neg ht] at hh
   exact hh
 have hge: ∀t,(∃i,i<k/\zQ ops i=some t)->G1 t=upd (jM K B) (zJ L) t:=fun t ⟨i,hi,he⟩=>by
  simp only [G1]
  rw [if_neg fun ht=>hsame t ht i hi he]
 have hobs': ∀i o,i<k->ops[i]?=some o->qK F m P w ops G1 o:=fun i o hi ho=>by
  have hg:=hobs.get i o (by rw [tF hi];simpa using ho)
  have hop:zJy F m P w (upd (jM K B) (zJ L)) o->zJy F m P w G1 o:=fun h1 b W K' Q' hb hr hK'=>
   h1 b W K' Q' hb (fun t ht=>hle t _ _ (hr t ht)) fun v W' hv hb'=>hK' v W' (fun d hd=>by rw [hge d ⟨i,hi,by rw [qG ho];exact hd⟩];exact hv d hd) hb'
  unfold qK at hg ⊢
  cases hgd:o.guard with
  |none=>rw [hgd] at hg;exact hop hg
  |some q=>
   rw [hgd] at hg
   obtain ⟨g,bv,h1,h2,h3,h4⟩:=hg
   exact ⟨g,bv,h1,fun v W hh=>h2 v W (hle g v W hh),fun e=>hop (h3 e),fun e=>⟨fun d hd W=>by rw [hge d ⟨i,hi,by rw [qG ho];exact hd⟩];exact (h4 e).1 d hd W,(h4 e).2⟩⟩
 refine zFw (G:=G1) (k:=k) (n:=n) (a0:=a) (wA:=w) (w0:=w) hap hfr hk (fun i o hi ho t ht j hj=> ?_) (fun t ht=> ?_) hobs' (fun a' w' hb hs hd hh=> ?_) k 0 a w oN (pM _ _) (pM _ _) h.size rfl (fun t ⟨j,hj,_⟩=>absurd hj oN) (fun t _=>rfl)
 ·have h1:=pE.1 hrd i (pH.2 hi)
  rw [ho] at h1
  obtain ⟨oj,hoj,_⟩:=yT hj
  have h2:=pE.1 (pE.1 h1 t ht) j (pH.2 (pF.1 hoj).1)
  rw [hj] at h2
  simpa using h2
 ·have h1:=hA.sl t
  rw [<-hkn t ht] at h1
  by_cases hm:t∈K.map (·.1)++B.map (·.t)
  ·simp only [G1,if_pos hm]
   exact ⟨h1,by first|rfl|trivial⟩
  ·simp only [G1,if_neg hm]
   exact h1
 ·have hslot: ∀t,t∈K.map (·.1)++B.map (·.t)->a'.tmps.getD t undef=a.tmps.getD t undef:=fun t ht=>by
   have h1:=hh t
   simp only [G1,if_pos ht] at h1
   exact h1.2
  have hrow: ∀q,q∈zJ L->q.2.p (a'.tmps.getD q.1 undef) w':=fun q hm2=>by
   have h1:=hle q.1 _ _ (hh q.1)
   rwa [zBH (q:=q) (by rw [hks];exact hnd) hm2] at h1
  refine hfin a' w' ⟨h.gr.trans hb,hs,by rw [hd];exact h.nd,fun q hq=> ?_,h.bx.keep hb (zL hb) B fun x hx=>hslot _ (rS _ (pJ.2 ⟨x,hx,rfl⟩)),j9 h.mks hb,h.so.imp (fun hu q hq=>(by
   rcases rG.1 hq with hq|hq
   ·obtain ⟨f,e,_⟩:=q7 hq;exact ⟨f,e⟩
   ·exact hu q hq)) (fun x=>x)⟩ hrow
  rcases rG.1 hq with hq|hq
  ·obtain ⟨f,hqf,hm⟩:=q7 hq
   have hm2:((q.1,f.tS):Nat×SF)∈zJ L:=pJ.2 ⟨_,hm,rfl⟩
   have h1:=hle q.1 _ _ (hh q.1)
   rw [zBH (q:=(q.1,f.tS)) (by rw [hks];exact hnd) hm2] at h1
   rw [hqf]
   exact h1
  ·rw [hslot q.1 (sU _ (pJ.2 ⟨q,hq,rfl⟩))]
   exact KF.us (h.sl q hq) (zL hb)
end
section
variable {S:Nat->Prop} {F:Fence} {m:Nat} {P:Wh} {ops:Array Oper} {Q:Exit->Act->Wb->Prop} {w0:Wb} {K:List (Nat×KF)} {B:List Bx} {n:Nat} {ds:List Deferred} {a:Act} {w:Wb}
theorem zB5 {id:Nat} (K0:List (Nat×KF)) (pre:List Nat) (k:Nat) (L:List (Nat×Rw)) (hmix:P.follows .mixedOrders=true) (h:StS S w0 (K0++K) B n ds a w)
  (hchk:(zBs ops pre k n (L.map (·.1))&&zAG ops (K.map (·.1)++B.map (·.t))&&zAm (L.map (·.1)))=true)
  (hobs:Obs F m P w ops (upd (jM (K0++K) B) (zJ L)) (ops.toList.take k))
  (hfin: ∀Q',(∀a w,Q .normal a w->Q' .normal a w)-> ∀a w,StS S w0 (zBj L++K) B n ds a w->(∀q,q∈zJ L->q.2.p (a.tmps.getD q.1 undef) w)->zA8 F m P ops Q' k a w):(Code.region id ops true).wpIn F m P Q a w:=by
 simp only [pK] at hchk
 have hkeys:(zJ L).map (·.1)=L.map (·.1):=by simp [zJ]
 have h0:=hchk.1.1
 unfold zBs at h0
 simp only [pK] at h0
 obtain ⟨⟨⟨⟨⟨⟨⟨⟨⟨⟨⟨⟨⟨⟨⟨hap,_⟩,_⟩,_⟩,_⟩,hks⟩,_⟩,_⟩,_⟩,_⟩,_⟩,_⟩,_⟩,_⟩,_⟩,_⟩:=h0
 exact zEe K0 k L h (fun G' hA hO hF=>zB4 pre k (zJ L) hmix (by rw [hkeys];exact hchk.1.1) hA hO hF) hap hks hchk.1.2 hchk.2 hobs (fun a w h hr=>hfin (y4 Q) (fun a w h=>h) a w h hr)
end
theorem StS.toSt {S:Nat->Prop} {w0:Wb} {K:List (Nat×KF)} {B:List Bx} {n:Nat} {ds:List Deferred} {a:Act} {w:Wb} (h:StS S w0 K B n ds a w) (hS: ∀k, ¬S k) (hB:(B.all fun x=>x.r)=true):St w0 K B n ds a w:=
 ⟨⟨h.gr.os,h.gr.tape,h.gr.output,h.gr.size,fun k hk _=>h.gr.block k hk (hS k)⟩,h.size,h.nd,h.sl,yH.ro B (fun x hx=>by simpa using pE.1 hB x hx) h.bx,h.mks, .inr fun _ hh=>hh⟩
section
variable {S:Nat->Prop} {w0:Wb} {K:List (Nat×KF)} {B:List Bx} {n:Nat} {ds:List Deferred} {a:Act} {w:Wb}
theorem zFd {c:Nat} {C:CU}: ∀(B:List Bx),(∀x,x∈B->x.t=c-> ∀cs W,x.c.p cs W->C.p cs W)->yH S w0 a w B->yH S w0 a w (zEk B c C)
 | [],_,_=>trivial
 | x::B,hw,h=>by
  obtain ⟨⟨cs,h1,h2,h3,h4,h5,h6⟩,hr⟩:=h
  unfold zEk
  cases e:Nat.beq x.t c with
  |true=>exact ⟨⟨cs,h1,h2,h3,hw x (rU ..) (rJ e) cs w h4,h5,h6⟩,hr⟩
  |false=>
   refine ⟨⟨cs,h1,h2,h3,h4,h5,fun y hy=> ?_⟩,zFd B (fun y hy=>hw y (rV _ hy)) hr⟩
   have:(y.b,y.r)∈(zEk B c C).map (fun x=>(x.b,x.r)):=pJ.2 ⟨y,hy,rfl⟩
   rw [zJ6] at this
   obtain ⟨z,hz,ez⟩:=pJ.1 this
   simp only [rT] at ez
   have:=h6 z hz
   rw [ez.1,ez.2] at this
   exact this
theorem StS.weakB (h:StS S w0 K B n ds a w) (c:Nat) (C:CU) {z:Bx} (hB:zE7 B c=some z) (hu:(B.map (·.t)).Nodup) (hi: ∀cs W,z.c.p cs W->C.p cs W):StS S w0 K (zEk B c C) n ds a w:=
 ⟨h.gr,h.size,h.nd,h.sl,zFd B (fun x hx e=>by
  obtain ⟨hz,hzc⟩:=zAi hB
  have:x=z:=by
   have hinj: ∀(B:List Bx),(B.map (·.t)).Nodup->x∈B->z∈B->x.t=z.t->x=z:=by
    intro B
    induction B with
    |nil=>intro _ h1;cases h1
    | cons y B ih=>
     intro hn h1 h2 e
     rw [pX,sX] at hn
     rcases pV.1 h1 with h3|h3
     ·rcases pV.1 h2 with h4|h4
      ·rw [h3,h4]
      ·exact absurd (pJ.2 ⟨z,h4,by rw [<-e,h3]⟩) hn.1
     ·rcases pV.1 h2 with h4|h4
      ·exact absurd (pJ.2 ⟨x,h3,by rw [e,h4]⟩) hn.1
      ·exact ih hn.2 h3 h4 e
   exact hinj B hu hx hz (e.trans hzc.symm)
  rw [this]
  exact hi) h.bx,h.mks,h.so⟩
end
theorem zOj {P:Wh} {T:Array Wc->Wb->SF->Prop} {f:FuncId} {caps:Array Wc} {W:Wb} (he:Enters P f) (h: ∀W',Below W.heap.size W W'-> ∀args R,T args W' R->Calls P f (args++caps) W' (Ret W' R)):(SF.fn P T).p (.func (.func f) #[] caps) W:=⟨f,caps,rfl,he,h⟩
end Go.Proofs.Wd

namespace Go.Proofs.Wd
open Tryz
set_option maxRecDepth 100000
open Go.RowKit Lb
def zTr (a b:Nat) (w:Wb) (x y:Wc) (w':Wb):Prop:= ∃p q:Nat,x= .int .u64 p/\y= .int .u64 q/\Nat.gcd p q=Nat.gcd a b/\p<18446744073709551616/\q<18446744073709551616/\Below w.heap.size w w'
theorem zKt {W:Wb} {u v:Wc} (a b:Nat) (hu:u= .int .u64 (a:Int)) (hv:v= .int .u64 (b:Int)) (ha:a<18446744073709551616) (hb:b<18446744073709551616):Calls prog 83 #[u,v] W (Ret W (UF.eq (.int .u64 ((Nat.gcd a b:Nat):Int))).tS):=by
 subst hu
 subst hv
 have hmix:prog.follows .mixedOrders=true:=by kernel_rfl
 go_enter func83,ntmps83
 go_wp2
 go_loopw [0,1] (zTr a b W) (fun _ y _=>(intOf y).toNat)
 case atStart=>exact ⟨a,b,rfl,rfl,rfl,ha,hb,pM _ _⟩
 case round=>
  obtain ⟨p,q,rfl,rfl,hg,hp,hq,hB⟩:=hrel
  have HG:=hid hg
  clear hg
  by_cases h0:0<q
  ·have hq0:(q:Int)≠0:=by omega
   have hmod:(p:Int).tmod (q:Int)=((p % q:Nat):Int):=by rw [Int.tmod_eq_emod_of_nonneg oN,Int.natCast_emod]
   have hlt:p % q<q:=Nat.mod_lt _ h0
   obtain ⟨r,hr⟩: ∃r,p % q=r:=⟨_,rfl⟩
   rw [hr] at hmod hlt
   have HR:=hid hr
   clear hr
   go_wp2
   refine (wpIn_wide (n:=0)).1 ?_
   refine zY 100 (fun _=>True) hmix ?_
   refine zN (i:=0) (v:= ?vv1) kG kG rfl kG kG kG (fun _ _ _ h=>h) trivial ⟨.inl ⟨rfl, ?yy1⟩,fun _=>rfl⟩ ?_
   case yy1=>
    rintro wx _
    go_simp
    first|done|rfl
   refine zN (i:=1) (v:= ?vv2) kG kG rfl kG kG kG (fun _ _ _ h=>h) trivial ⟨.inl ⟨rfl, ?yy2⟩,fun _=>rfl⟩ ?_
   case yy2=>
    rintro wx _
    go_simp
    first|done|rfl
   refine zN (i:=2) (v:= ?vv3) kG kG rfl kG kG kG (fun _ _ _ h=>h) trivial ⟨.inl ⟨rfl, ?yy3⟩,fun _=>rfl⟩ ?_
   case yy3=>
    rintro wx _
    go_simp
    first|done|rfl
   refine zN (i:=3) (v:= .int .u64 (r:Nat)) kG kG rfl kG kG kG (fun _ _ _ h=>h) trivial ⟨.inl ⟨rfl, ?y3⟩,fun _=>rfl⟩ ?_
   case y3=>
    rintro wx _
    go_simp
    omega
   refine zAo (i:=4) kG rfl (fun K hK=> ?_)
   go_simp
   refine hK _ _ (.inr trivial) ?_
   clear hK K
   refine zAo (i:=5) kG rfl (fun K hK=> ?_)
   go_simp
   refine hK _ _ (.inr trivial) ?_
   clear hK K
   refine zBS kG ?_
   go_wp2
   go_roundw
   case rel=>exact ⟨q,r,rfl,by go_num,by rw [<-HG.out, <-HR.out,Nat.gcd_comm p q,Nat.gcd_rec q p,Nat.gcd_comm],hq,by omega,hB.drew⟩
   case measure=>simp [intOf];omega
  ·obtain rfl:q=0:=by omega
   go_wp2
   go_ret
   have:=HG.out
   rw [Nat.gcd_zero_right] at this
   subst this
   exact ⟨_,rfl,rfl,hB⟩
section
variable {F:Fence} {n:Nat} {P:Wh} {ops:Array Oper} {Q:Exit->Act->Wb->Prop}
def zQj (P:Wh) (w0:Wb) (ops:Array Oper) (G:Nat->SF) (o:Oper):Prop:=
 ∀(b:Act) (W:Wb),Below w0.heap.size w0 W->(∀t,t∈looks ops o->(G t).p (b.tmps.getD t undef) W)-> ∃v,jU P ops (fun W'=>Below w0.heap.size w0 W') o v b
theorem zI1 {CW:Wb->Prop} {i:Nat} {o:Oper} {v:Wc} {a:Act} {w:Wb} {K:Act->Wb->Prop} (ho:ops[i]?=some o) (hpl:jD ops=true) (hy:jU P ops CW o v a) (hw:CW w) (h:wpOpIn F n P ops Q i K a w):K (a.put o.dst v) w:=by
 unfold wpOpIn at h
 simp only [ho] at h
 rcases hy.1 with ⟨hw',hv⟩|⟨hw',rfl⟩
 ·simp only [hw',if_true,Oper.wpIn,pR _ _ _ (zBL hpl ho),hv w hw,Oper.uponIn] at h
  exact h.2
 ·simp only [hw',Bool.false_eq_true,if_false] at h
  exact h.2
variable {listed0:Array Bool} {A:Nat->Bool} {E:Nat->Wc->Wb->Prop} {C:Wb->Prop} {a0:Act}
end
section
variable {S:Nat->Prop} {w0:Wb} {K:List (Nat×KF)} {B:List Bx} {n:Nat} {ds:List Deferred} {a:Act} {w:Wb} {F:Fence} {m:Nat} {P:Wh} {ops:Array Oper} {Q:Exit->Act->Wb->Prop}
end
section
variable {w0:Wb} {P:Wh} {ops:Array Oper} {G:Nat->SF} {d:Tmp} {ty:We} {pos:String} {aft:Array Edge}
theorem zLp {op:Op} (hc: ∀c,op≠ .call c) (h: ∀(b:Act) (W:Wb),Below w0.heap.size w0 W->(∀x,x∈op.operands.toList->(fct G x).p (b.eval x) W)-> ∃v, ∀W',Below w0.heap.size w0 W'->(execOp b.eval ⟨some d,op,ty,pos,aft,none⟩).run P W'= .ok (.value v) W'):zQj P w0 ops G ⟨some d,op,ty,pos,aft,none⟩:=by
 intro b W hb hr
 obtain ⟨v,hv⟩:=h b W hb fun x hx=>yU (fun t ht=>hr t (by unfold looks;simpa using ht)) hx
 refine ⟨v, .inl ⟨rfl,hv⟩,fun w=> ?_⟩
 unfold Oper.about
 split
 ·rename_i c hcc;exact absurd hcc (hc c)
 ·rfl
theorem zPU {x:Wg}:zQj P w0 ops G ⟨some d, .move x,ty,pos,aft,none⟩:=zLp (fun _ e=>by cases e) fun b _ _ _=>⟨b.eval x,fun _ _=>rfl⟩
section
variable {l:Wc} {x y:Wg} {t:We} {z:Nat} {Cs:List CU} {i:Nat} {C:CU}
end
end
section
variable {S:Nat->Prop} {w0:Wb} {K:List (Nat×KF)} {B:List Bx} {n:Nat} {ds:List Deferred} {a:Act} {w:Wb} {F:Fence} {m:Nat} {P:Wh} {ops:Array Oper} {Q:Exit->Act->Wb->Prop}
end
def inL:List Nat->Nat->Bool
 | [],_=>false
 |k::l,i=>bif Nat.beq k i then true else inL l i
theorem zFZ (l m:List Nat) (i:Nat):inL (l++m) i=(inL l i||inL m i):=by
 induction l with
 |nil=>rfl
 |cons k l ih=>
  show (bif Nat.beq k i then true else inL (l++m) i)=((bif Nat.beq k i then true else inL l i)||inL m i)
  cases Nat.beq k i with
  |true=>rfl
  |false=>exact ih
theorem zPM {l:List Nat} {i:Nat} (h:inL l i=true):i∈l:=by
 induction l with
 |nil=>cases h
 |cons k l ih=>
  have h:(bif Nat.beq k i then true else inL l i)=true:=h
  cases e:Nat.beq k i with
  |true=>rw [rJ e];exact rU ..
  |false=>rw [e] at h;exact rV _ (ih h)
def lst (n:Nat) (D:List Nat):Array Bool:=((List.range n).map (inL D)).toArray
theorem zD1 (n:Nat) (D:List Nat):(lst n D).size=n:=by simp [lst]
theorem zA5 {n i:Nat} {D:List Nat} {d:Bool} (h:i<n):(lst n D).getD i d=inL D i:=by simp [lst,h]
theorem zPF {n i:Nat} {D:List Nat} {d:Bool} (h:n<=i):(lst n D).getD i d=d:=by
 rw [pN,pZ (by rw [zD1];exact h)]
 rfl
theorem zDK {n i:Nat} {D:List Nat} (h:(lst n D).getD i true=false):i<n/\inL D i=false:=by
 rcases pS i n with g|g
 ·rw [zA5 g] at h;exact ⟨g,h⟩
 ·rw [zPF g] at h;cases h
theorem zGP {l:Array Bool} {n:Nat} {D:List Nat} (hs:l.size=n) (h: ∀i,i<n->l.getD i false=inL D i):l=lst n D:=by
 refine Array.ext (by rw [hs,zD1]) fun i h1 h2=> ?_
 have:=h i oN
 rw [pN,pW h1] at this
 have e:l[i]=inL D i:=this
 rw [e]
 simp [lst]
theorem zK3 {n i:Nat} {D:List Nat} (hi:i<n):(lst n D).setIfInBounds i true=lst n (i::D):=by
 refine zGP (by simp [lst]) fun j hj=> ?_
 show _=(bif Nat.beq i j then true else inL D j)
 by_cases e:i=j
 ·subst e
  rw [pN,Array.getElem?_setIfInBounds_self_of_lt (by rw [zD1];exact hi),Nat.beq_refl]
  rfl
 ·rw [pI false e,zA5 hj]
  cases h:Nat.beq i j with
  |true=>exact absurd (rJ h) e
  |false=>rfl
def zQA (ops:Array Oper) (D fl D':List Nat):Bool:=(List.range ops.size).all fun j=>inL D' j||(List.range ops.size).all fun i=> !inL D' i||inL fl i||inL D i||zCh ops ops.size i j
section
variable {F:Fence} {n:Nat} {P:Wh} {ops:Array Oper} {Q:Exit->Act->Wb->Prop}
variable {A:Nat->Bool} {E:Nat->Wc->Wb->Prop} {C:Wb->Prop} {a0:Act}
theorem zSH {D D':List Nat} {z:Nat} (fl:List Nat) (hpl:jD ops=true) (hns:Region.noSelect ops=true) (hzs:ops.size<=z) (CW:Wb->Prop) (hCW: ∀w,C w->CW w) (hfree: ∀i,inL D i=false->inL D' i=true->inL fl i=true->Region.free .any ops (zA9 ops i) i=true)
  (hfk: ∀i,inL D' i=true->inL fl i=true->(lst ops.size D).getD i true=false-> ∀o,ops[i]?=some o-> ∀a w,FlowB ops (lst ops.size D) A E C a0 (fun j=>(lst ops.size D).getD j true=false/\ ∃e∈o.after,Region.binds .any e=true/\e.on=j) a w-> ∃v,jU P ops CW o v a)
  (hear:zAY ops=true) (htl:zQA ops D fl D'=true) (hap:qV ops=true) (hfr:zAa ops a0.tmps.size=true) (hcl':zFg ops (lst ops.size D')) (hC: ∀w w',C w->Below w.heap.size w w'->C w') (hE: ∀i v w w',E i v w->Below w.heap.size w w'->E i v w')
  (hspec: ∀i,inL D' i=true->(lst ops.size D).getD i true=false-> ∀o,ops[i]?=some o-> ∀a w,FlowB ops (lst ops.size D) A E C a0 (fun j=>(lst ops.size D).getD j true=false/\ ∃e∈o.after,Region.binds .any e=true/\e.on=j) a w-> ∀K:Act->Wb->Prop,(∀v w',E i v w'->Below w.heap.size w w'->(A i=true-> ∀b,blk v=some b->w.heap.size<=b/\b<w'.heap.size)->K (a.put o.dst v) w')->wpOpIn F n P ops (y4 Q) i K a w)
  (hfin: ∀a w,FlowB ops (lst ops.size D) A E C a0 (fun i=>inL D' i=true/\(lst ops.size D).getD i true=false) a w->qY F n P .any ops z CW (y4 Q) ((lst ops.size D').count false) (lst ops.size D') a w):
  ∀(fuel:Nat) (listed:Array Bool) (a:Act) (w:Wb),listed.count false=fuel->listed.size=ops.size->(∀i,i<ops.size->inL D' i=false->listed.getD i false=false)->zFg ops listed->(∀i,i<ops.size->inL D i=true->listed.getD i false=true)->
   FlowB ops (lst ops.size D) A E C a0 (fun i=>(lst ops.size D).getD i true=false/\listed.getD i false=true) a w->qY F n P .any ops z CW (y4 Q) fuel listed a w:=by
 intro fuel
 induction fuel with
 | zero=>
  intro listed a w hc hs hlate hcl hsub hf
  have hno: ∀i,listed.getD i true=true:=fun i=>by
   cases hg:listed.getD i true with
   |true=>rfl
   |false=>have:=jB hg;omega
  have hall: ∀i,i<ops.size->listed.getD i false=true:=fun i hi=>by
   have h1:=hno i
   have hlt:i<listed.size:=by omega
   simp [hlt] at h1 ⊢
   exact h1
  have hl:listed=lst ops.size D':=zGP hs fun i hi=>by
   rw [hall i hi]
   cases h:inL D' i with
   |true=>rfl
   |false=>have:=hlate i hi h;rw [hall i hi] at this;cases this
  have:=hfin a w (hf.mono fun i hi=>⟨hi.2,hall i (zDK hi.2).1⟩)
  rw [<-hl,hc] at this
  exact this
 | succ fuel ih=>
  intro listed a w hc hs hlate hcl hsub hf
  by_cases hall: ∀i,i<ops.size->inL D' i=true->listed.getD i false=true
  ·have hl:listed=lst ops.size D':=zGP hs fun i hi=>by
    cases h:inL D' i with
    |true=>exact hall i hi h
    |false=>exact hlate i hi h
   have:=hfin a w (hf.mono fun i hi=>⟨hi.2,hall i (zDK hi.2).1 hi.1⟩)
   rw [<-hl,hc] at this
   exact this
  ·simp only [rY] at hall
   obtain ⟨u0,hu0l,hu0p,hu0⟩:=hall
   obtain ⟨u,⟨hul,hup,hu⟩,hmin⟩:=zDb (p:=fun u=>u<ops.size/\inL D' u=true/\ ¬listed.getD u false=true) u0 ⟨hu0l,hu0p,hu0⟩
   have hlt:u<listed.size:=by omega
   have hu':listed.getD u true=false:=by
    simp [hlt] at hu ⊢
    exact hu
   have hl0u:(lst ops.size D).getD u true=false:=by
    rw [zA5 hul]
    cases hg:inL D u with
    |false=>rfl
    |true=>exact absurd (hsub u hul hg) hu
   have hsome: ∀i,listed.getD i true=false->Region.ready .any ops listed≠ []:=by
    intro i
    induction i using Nat.strongRecOn with
    | _ i ihi=>
     intro hi hnil
     have hlt:i<listed.size:=by
      rcases pS i listed.size with e|e
      ·exact e
      ·simp [pZ e] at hi
     have ho:ops[i]?=some (ops[i]'(by rw [<-hs];exact hlt)):=pW _
     by_cases hall: ∀e∈(ops[i]'(by rw [<-hs];exact hlt)).after,Region.binds .any e=true->listed.getD e.on false=true
     ·have hm:i∈Region.ready .any ops listed:=rD.2 ⟨hi,_,ho,hall⟩
      rw [hnil] at hm
      cases hm
     ·simp only [rY] at hall
      obtain ⟨e,he,hb,hg⟩:=hall
      have hel:=zAM hear ho he hb
      refine ihi e.on hel ?_ hnil
      have hlt2:e.on<listed.size:=by omega
      simp [hlt2] at hg ⊢
      exact hg
   by_cases hfu:inL fl u=true
   ·have hou:ops[u]?=some ops[u]:=pW hul
    have hdone: ∀e∈ops[u].after,Region.binds .any e=true->listed.getD e.on false=true:=fun e he hb=>by
     have hel:=zAM hear hou he hb
     have hpe:inL D' e.on=true:=by
      have:=hcl' u _ (by rw [zA5 hul];exact hup) hou e he hb
      rwa [zA5 oN] at this
     exact tE fun hc=>hmin e.on hel ⟨by omega,hpe,hc⟩
    have hrd:(Region.ready .any ops listed).contains u=true:=pP.2 (rD.2 ⟨hu',_,hou,hdone⟩)
    have hfre:=hfree u (zDK hl0u).2 hup hfu
    obtain ⟨v0,hy⟩:=hfk u hup hfu hl0u _ hou a w (hf.mono fun j hj=>(by
     obtain ⟨hj0,e,he,hb,rfl⟩:=hj
     exact ⟨hj0,hdone e he hb⟩))
    have hw:=hspec u hup hl0u _ hou a w (hf.mono fun j hj=>(by
     obtain ⟨hj0,e,he,hb,rfl⟩:=hj
     exact ⟨hj0,hdone e he hb⟩)) (fun a' w'=> ∃v,a'=a.put ops[u].dst v/\E u v w'/\Below w.heap.size w w'/\(A u=true-> ∀b,blk v=some b->w.heap.size<=b/\b<w'.heap.size)) (fun v w' hv hb hA=>⟨v,rfl,hv,hb,hA⟩)
    obtain ⟨v,hpe,hv,hb,hA⟩:=zI1 hou hpl hy (hCW _ hf.at_.cls) hw
    refine zN (i:=u) (v:=v0) hpl (by unfold zA1;rw [pZ hzs]) hou hns (zIM (fun j hj hc=>(by
     have h9:=zAj hcl _ j u _ hou hdone hc
     have g:j<listed.size:=by omega
     simp [g] at h9 ⊢
     exact h9)) hfre) hrd (fun _ _ _ h=>h) (hCW _ hf.at_.cls) hy ?_
    rw [hpe]
    refine ih (listed.setIfInBounds u true) (a.put ops[u].dst v) w ?_ (by simpa using hs) (fun j hj hjp=> ?_) (fun j oj hj hoj e he hbe=> ?_) (fun j hj hjl=> ?_) ((hf.put hap hfr hC hE hou hl0u hv hb hA).mono fun j hj=> ?_)
    ·have:=jB hu'
     omega
    ·rw [pI false (fun e=>by subst e;rw [hup] at hjp;cases hjp)]
     exact hlate j hj hjp
    ·by_cases e2:j=u
     ·subst e2
      rw [hou] at hoj
      cases hoj
      by_cases e3:e.on=j
      ·rw [e3];exact hj
      ·rw [pI false (Ne.symm e3)]
       exact hdone e he hbe
     ·rw [pI false (Ne.symm e2)] at hj
      have:=hcl j oj hj hoj e he hbe
      by_cases e3:e.on=u
      ·rw [e3]
       simp [hlt]
      ·rw [pI false (Ne.symm e3)]
       exact this
    ·by_cases e3:j=u
     ·rw [e3];simp [hlt]
     ·rw [pI false (Ne.symm e3)]
      exact hsub j hj hjl
    ·by_cases e:j=u
     ·exact .inr e
     ·left
      rw [pI false (Ne.symm e)] at hj
      exact hj
   ·refine ⟨fun hnil=>(hsome u hu' hnil).elim,fun i hi=> ?_⟩
    obtain ⟨hun,o,ho,hall⟩:=rD.1 hi
    have hil:=(pF.1 ho).1
    have hl0:(lst ops.size D).getD i true=false:=by
     rw [zA5 hil]
     cases hg:inL D i with
     |false=>rfl
     |true=>
      have:=hsub i hil hg
      have hlt3:i<listed.size:=by omega
      simp [hlt3] at hun
      simp [hlt3] at this
      rw [this] at hun
      cases hun
    have hip:inL D' i=true:=by
     cases hg:inL D' i with
     |true=>rfl
     |false=>
      exfalso
      have h1:=pE.1 htl i (pH.2 hil)
      rw [hg,Bool.false_or] at h1
      have h2:=pE.1 h1 u (pH.2 hul)
      simp only [sZ,rP] at h2
      rcases h2 with ((h2|h2)|h2)|h2
      ·rw [hup] at h2;cases h2
      ·exact hfu h2
      ·exact hu (hsub u hul h2)
      ·exact hu (zAj hcl _ u i o ho hall h2)
    refine hspec i hip hl0 o ho a w (hf.mono fun j hj=> ?_) _ fun v w' hv hb hA=>⟨.inr (hCW _ (hC _ _ hf.at_.cls hb)), ?_⟩
    ·obtain ⟨hj0,e,he,hb,rfl⟩:=hj
     exact ⟨hj0,hall e he hb⟩
    ·refine ih (listed.setIfInBounds i true) (a.put o.dst v) w' ?_ (by simpa using hs) (fun j hj hjp=> ?_) (fun j oj hj hoj e he hbe=> ?_) (fun j hj hjl=> ?_) ((hf.put hap hfr hC hE ho hl0 hv hb hA).mono fun j hj=> ?_)
     ·have:=jB hun
      omega
     ·rw [pI false (fun e=>by subst e;rw [hip] at hjp;cases hjp)]
      exact hlate j hj hjp
     ·by_cases e2:j=i
      ·subst e2
       rw [ho] at hoj
       cases hoj
       by_cases e3:e.on=j
       ·rw [e3];exact hj
       ·rw [pI false (Ne.symm e3)]
        exact hall e he hbe
      ·rw [pI false (Ne.symm e2)] at hj
       have:=hcl j oj hj hoj e he hbe
       by_cases e3:e.on=i
       ·rw [e3]
        have hlt:i<listed.size:=by omega
        simp [hlt]
       ·rw [pI false (Ne.symm e3)]
        exact this
     ·by_cases e3:j=i
      ·have hlt:i<listed.size:=by omega
       rw [e3];simp [hlt]
      ·rw [pI false (Ne.symm e3)]
       exact hsub j hj hjl
     ·by_cases e:j=i
      ·exact .inr e
      ·left
       rw [pI false (Ne.symm e)] at hj
       exact hj
end
def zJu (F:Fence) (m:Nat) (P:Wh) (ops:Array Oper) (CW:Wb->Prop) (Q:Exit->Act->Wb->Prop) (D:List Nat) (a:Act) (w:Wb):Prop:=
 qY F m P .any ops ops.size CW (y4 Q) ((lst ops.size D).count false) (lst ops.size D) a w
def Gr (CW:Wb->Prop) (w:Wb):Prop:= ∀w',Below w.heap.size w w'->CW w'
abbrev GW (wb:Wb):Wb->Prop:=fun W=>Below wb.heap.size wb W
theorem zRk {wb w:Wb} (h:Below wb.heap.size wb w):Gr (GW wb) w:=fun _ hb=>h.trans (hb.mono h.size)
def FdC (P:Wh) (CW:Wb->Prop) (w:Wb) (ops:Array Oper) (G:Nat->SF) (o:Oper):Prop:=
 ∀(b:Act) (W:Wb),Below w.heap.size w W->(∀t,t∈looks ops o->(G t).p (b.tmps.getD t undef) W)-> ∃v,jU P ops CW o v b
theorem zQj.c {P:Wh} {wb w:Wb} {ops:Array Oper} {G:Nat->SF} {o:Oper} (h:zQj P wb ops G o) (hb:Below wb.heap.size wb w):FdC P (GW wb) w ops G o:=fun b W hW hr=>h b W (hb.trans (hW.mono hb.size)) hr
def zM9 (ops:Array Oper) (D':List Nat) (G:Nat->SF) (t:Nat):SF:=bif (List.range ops.size).any (fun i=> !inL D' i&&(zQ ops i==some t)) then SF.any else G t
def zSh (ops:Array Oper) (fl D is:List Nat) (n:Nat) (keys ts:List Nat):Bool:=
 qV ops&&zAa ops n&&jD ops&&Region.noSelect ops&&zAY ops&&zAm keys&&
 zCi ops (lst ops.size D)&&zCi ops (lst ops.size (is++D))&&
 keys.all (fun t=>is.any fun i=> !inL D i&&(zQ ops i==some t))&&
 ts.all (fun t=>(List.range ops.size).all fun i=>inL D i|| !(zQ ops i==some t))&&
 is.all (fun i=>decide (i<ops.size)&& !inL D i&&(!inL fl i||Region.free .any ops (zA9 ops i) i)&&match ops[i]? with
  |none=>true
  |some o=>(looks ops o).all fun t=>(List.range ops.size).all fun j=>inL D j|| !(zQ ops j==some t)||o.after.any fun e=>Region.binds .any e&&e.on==j)&&
 zQA ops D fl (is++D)
def zMp (ops:Array Oper) (is:List Nat):List Oper:=is.filterMap fun i=>ops[i]?
theorem zFx {F:Fence} {m:Nat} {P:Wh} {w0:Wb} {ops ops':Array Oper} {G:Nat->SF}: ∀{is:List Nat},Obs F m P w0 ops' G (zMp ops is)-> ∀i,i∈is-> ∀o,ops[i]?=some o->qK F m P w0 ops' G o
 | [],_,i,hi,_,_=>by cases hi
 | k::is,h,i,hi,o,ho=>by
  unfold zMp at h
  rw [List.filterMap_cons] at h
  cases hk:ops[k]? with
  |none=>
   rw [hk] at h
   rcases pV.1 hi with rfl|hi
   ·rw [ho] at hk;cases hk
   ·exact zFx h i hi o ho
  |some ok=>
   rw [hk] at h
   rcases pV.1 hi with rfl|hi
   ·rw [ho] at hk;cases hk;exact h.1
   ·exact zFx h.2 i hi o ho
theorem zO7 {F:Fence} {m:Nat} {P:Wh} {ops:Array Oper} {Q:Exit->Act->Wb->Prop} {CW:Wb->Prop} {G:Nat->SF} {n:Nat} {ds:List Deferred} {a:Act} {w:Wb} {D:List Nat} (fl is ts:List Nat) (L:List (Nat×SF))
  (hcw:Gr CW w) (hchk:zSh ops fl D is n (L.map (·.1)) ts=true) (h:At w G n ds a w) (hobs:Obs F m P w ops (upd G L) (zMp ops is))
  (hfd: ∀i o,inL fl i=true->ops[i]?=some o->FdC P CW w ops (upd G L) o)
  (hfin: ∀a w',At w (zM9 ops (is++D) (upd G L)) n ds a w'->zJu F m P ops CW Q (is++D) a w'):zJu F m P ops CW Q D a w:=by
 unfold zSh at hchk
 simp only [pK] at hchk
 obtain ⟨⟨⟨⟨⟨⟨⟨⟨⟨⟨⟨hap,hfr⟩,hpl⟩,hns⟩,hear⟩,hndk⟩,hc1⟩,hc2⟩,hkeys⟩,hts⟩,his⟩,htl⟩:=hchk
 have hisD: ∀i,inL (is++D) i=true->inL D i=false->i∈is:=fun i h1 h2=>by
  rw [zFZ,h2,Bool.or_false] at h1
  exact zPM h1
 have hkey: ∀t,(∀j,inL D j=false->j∈is->zQ ops j≠some t)->upd G L t=G t:=fun t ht=>by
  refine q8 ?_
  cases hc:(L.map (·.1)).contains t with
  |false=>rfl
  |true=>
   exfalso
   obtain ⟨i,hi,he⟩:=pQ.1 (pE.1 hkeys t (pP.1 hc))
   simp only [pK,rP,rA] at he
   exact ht i he.1 hi he.2
 have hst: ∀t,(∀j,inL D j=false->j∈is->zQ ops j≠some t)->(upd G L t).p (a.tmps.getD t undef) w:=fun t ht=>by rw [hkey t ht];exact h.sl t
 have hspecs: ∀i,i∈is->i<ops.size/\(inL fl i=true->Region.free .any ops (zA9 ops i) i=true)/\ ∀o,ops[i]?=some o-> ∀t,t∈looks ops o-> ∀j,inL D j=false->zQ ops j=some t->(o.after.any fun e=>Region.binds .any e&&e.on==j)=true:=fun i hi=>by
  have h1:=pE.1 his i hi
  simp only [pK,rR] at h1
  refine ⟨h1.1.1.1,fun hf=>(by have h2:=h1.1.2;rw [hf] at h2;simpa using h2),fun o ho t ht j hj hjd=> ?_⟩
  have h2:=h1.2
  rw [ho] at h2
  have hlt:j<ops.size:=by
   rcases pS j ops.size with e|e
   ·exact e
   ·rw [zQ,pZ e] at hjd;cases hjd
  have h3:=pE.1 (pE.1 h2 t ht) j (pH.2 hlt)
  rw [hj,hjd] at h3
  simpa using h3
 have hnd: ∀t,(∀j,inL D j=false->zQ ops j≠some t)->zAR ops (lst ops.size D) t=false:=fun t ht=>by
  cases hd:zAR ops (lst ops.size D) t with
  |false=>rfl
  |true=>
   exfalso
   unfold zAR at hd
   obtain ⟨i,hi,hp⟩:=pQ.1 hd
   simp only [pK,rA,rP] at hp
   have hp1:=hp.1
   rw [zA5 (pH.1 hi)] at hp1
   exact ht i hp1 (by rw [<-zDi];exact hp.2)
 -- what an operation looks at holds where those it waits for have run
 have hlook: ∀i o,i∈is->ops[i]?=some o-> ∀b W,FlowB ops (lst ops.size D) (fun _=>false) (fun i v W=> ∀o,ops[i]?=some o-> ∀d,o.dst=some d->(upd G L d).p v W) (fun W=>Below w.heap.size w W) a (fun j=>(lst ops.size D).getD j true=false/\ ∃e∈o.after,Region.binds .any e=true/\e.on=j) b W-> ∀t,t∈looks ops o->(upd G L t).p (b.tmps.getD t undef) W:=fun i o hi ho b W hf t ht=>by
  by_cases hex: ∃j,inL D j=false/\zQ ops j=some t
  ·obtain ⟨j,hjD,hj⟩:=hex
   have h1:=(hspecs i hi).2.2 o ho t ht j hjD hj
   obtain ⟨x,hx,he⟩:=Array.any_eq_true.1 h1
   simp only [pK,rA] at he
   cases hoj:ops[j]? with
   |none=>rw [zQ,hoj] at hj;cases hj
   |some oj=>
    rw [qG hoj] at hj
    exact hf.at_.vals j oj t ⟨by rw [zA5 (pF.1 hoj).1];exact hjD,_,sC hx,he.1,he.2⟩ hoj hj oj hoj t hj
  ·have hno: ∀j,inL D j=false->zQ ops j≠some t:=fun j h1 h2=>hex ⟨j,h1,h2⟩
   rw [hf.at_.keep t (hnd t hno)]
   exact (upd G L t).st _ _ _ (hst t (fun j hj _=>hno j hj)) hf.at_.cls
 refine zSH (Q:=Q) (D:=D) (D':=is++D) (z:=ops.size) (a0:=a) (A:=fun _=>false) (E:=fun i v W=> ∀o,ops[i]?=some o-> ∀d,o.dst=some d->(upd G L d).p v W) (C:=fun W=>Below w.heap.size w W) fl hpl hns lr CW hcw ?hfree ?hfk hear htl hap (by rw [h.size];exact hfr) (zBt hc2) (fun W W' hC hb=>hC.trans (hb.mono hC.size)) (fun i v W W' hE hb o ho d hd=>(upd G L d).st _ _ _ (hE o ho d hd) hb) ?spec ?fin _ (lst ops.size D) a w rfl (zD1 _ _) (fun i hi hp=> ?_) (zBt hc1) (fun i hi hp=>by rw [zA5 hi];exact hp) ⟨⟨pM _ _,rfl,rfl,fun _ _=>rfl,fun i o t hi=> ?_⟩,fun i o t b hi hA=>(by cases hA),fun i j oi oj ti tj bi bj hi hj hne hA=>(by cases hA)⟩
 case hfree=>exact fun i hD hp hf=>(hspecs i (hisD i hp hD)).2.1 hf
 case hfk=>
  intro i hp hf hl o ho b W hfl
  have hi:=hisD i hp (zDK hl).2
  exact hfd i o hf ho b W hfl.at_.cls (hlook i o hi ho b W hfl)
 case spec=>
  intro i hp hl o ho b W hfl K hK
  have hi:=hisD i hp (zDK hl).2
  refine jZ ho (zFx hobs i hi o ho) (fun j g hj=> ?_) hfl.at_.cls (hlook i o hi ho b W hfl) (fun v W' hv hb=>hK v W' (fun o' ho' d hd=>by rw [ho] at ho';cases ho';exact hv d hd) hb (fun e=>by cases e))
  rw [hfl.at_.size,h.size]
  obtain ⟨oj,hoj,hdj⟩:=yT hj
  exact qB hfr hoj hdj
 case fin=>
  intro b W hfl
  refine hfin b W ⟨hfl.at_.cls,by rw [hfl.at_.size];exact h.size,by rw [hfl.at_.defers];exact h.nd,fun t=> ?_⟩
  unfold zM9
  cases hc:(List.range ops.size).any fun i=> !inL (is++D) i&&(zQ ops i==some t) with
  |true=>trivial
  | false=>
   show (upd G L t).p _ _
   by_cases hex: ∃j,inL D j=false/\zQ ops j=some t
   ·obtain ⟨j,hjD,hj⟩:=hex
    have hlt:j<ops.size:=by
     rcases pS j ops.size with e|e
     ·exact e
     ·rw [zQ,pZ e] at hj;cases hj
    have h1:=rK.1 hc j (pH.2 hlt)
    rw [hj] at h1
    have hjp:inL (is++D) j=true:=by simpa using h1
    cases hoj:ops[j]? with
    |none=>rw [zQ,hoj] at hj;cases hj
    |some oj=>
     rw [qG hoj] at hj
     exact hfl.at_.vals j oj t ⟨hjp,by rw [zA5 hlt];exact hjD⟩ hoj hj oj hoj t hj
   ·have hno: ∀j,inL D j=false->zQ ops j≠some t:=fun j h1 h2=>hex ⟨j,h1,h2⟩
    rw [hfl.at_.keep t (hnd t hno)]
    exact (upd G L t).st _ _ _ (hst t (fun j hj _=>hno j hj)) hfl.at_.cls
 ·rw [zA5 hi]
  cases h:inL D i with
  |false=>rfl
  |true=>rw [zFZ,h,Bool.or_true] at hp;cases hp
 ·have h1:=zDK hi.1
  have h2:=hi.2
  rw [zA5 h1.1,h1.2] at h2
  cases h2
section
variable {S:Nat->Prop} {w0:Wb} {K:List (Nat×KF)} {B:List Bx} {n:Nat} {ds:List Deferred} {a:Act} {w:Wb} {F:Fence} {m:Nat} {P:Wh} {ops:Array Oper} {Q:Exit->Act->Wb->Prop} {wb:Wb} {CW:Wb->Prop} {D:List Nat}
theorem StS.later (h:StS S w0 K B n ds a w) {w':Wb} (hb:Below w.heap.size w w'):StS S w0 K B n ds a w':=
 ⟨h.gr.trans hb,h.size,h.nd,fun q hq=>KF.us (h.sl q hq) (zL hb),h.bx.keep hb (zL hb) B (fun _ _=>rfl),j9 h.mks hb,h.so⟩
theorem zO6 {id:Nat} (CW:Wb->Prop) (hmix:P.follows .mixedOrders=true) (h:StS S w0 K B n ds a w) (fin: ∀w1,Below w.heap.size w w1->StS S w0 K B n ds a w1->zJu F m P ops CW Q [] a w1):(Code.region id ops true).wpIn F m P Q a w:=by
 refine zY ops.size CW hmix ?_
 have hd:Below w.heap.size w w.drew:=(pM _ w).drew
 have:=fin w.drew hd (h.later hd)
 unfold zJu at this
 have e:lst ops.size []=Array.replicate ops.size false:=by
  refine (zGP fL fun i hi=> ?_).symm
  rw [pN,rZ,if_pos hi]
  rfl
 rw [e,tG] at this
 exact this
theorem zMD (h:(List.range ops.size).all (inL D)=true) (hQ:Q .normal a w):zJu F m P ops CW Q D a w:=by
 have e:lst ops.size D=Array.replicate ops.size true:=(zGP fL fun i hi=>by
  rw [pN,rZ,if_pos hi]
  exact (pE.1 h i (pH.2 hi)).symm).symm
 have hc:(lst ops.size D).count false=0:=by rw [e];simp [Array.count_replicate]
 unfold zJu
 rw [hc]
 refine ⟨List.eq_nil_iff_forall_not_mem.2 fun i hi=> ?_,hQ⟩
 have h1:=(rD.1 hi).1
 have h2:=zDK h1
 rw [pE.1 h i (pH.2 h2.1)] at h2
 cases h2.2
theorem zG8 {o:Oper} (h:o.guard=none):Region.wanted o (yielded ops a.tmps)=true:=by unfold Region.wanted;rw [h]
theorem zMC {i:Nat} {o:Oper} (hr:Region.ready .any ops (lst ops.size D)= [i]) (ho:ops[i]?=some o) (hw:Region.wanted o (yielded ops a.tmps)=true) (h:o.wpIn F m P a w (fun a' w'=>CW w'/\zJu F m P ops CW Q (i::D) a' w') (y4 Q)):zJu F m P ops CW Q D a w:=by
 have hi:=(rD.1 (show i∈Region.ready .any ops (lst ops.size D) by rw [hr];simp)).1
 have hlt:=(zDK hi).1
 have hc:=jB hi
 rw [zK3 hlt] at hc
 unfold zJu
 rw [<-hc]
 refine ⟨fun e=>(by rw [hr] at e;cases e),fun j hj=> ?_⟩
 rw [hr] at hj
 obtain rfl:j=i:=by simpa using hj
 unfold wpOpIn
 rw [ho]
 show (if Region.wanted o (yielded ops a.tmps)=true then _ else _)
 rw [if_pos hw]
 refine Oper.wpIn_mono (fun a' w' hh=>⟨.inr hh.1, ?_⟩) h
 rw [zK3 hlt]
 exact hh.2
theorem zKi (fl is:List Nat) (L:List (Nat×Rw)) (hcw:Gr CW w) (h:StS S w0 K B n ds a w)
  (hchk:zSh ops fl D is n (L.map (·.1)) (K.map (·.1)++B.map (·.t))=true)
  (hobs:Obs F m P w ops (upd (jM K B) (zJ L)) (zMp ops is))
  (hfd: ∀i o,inL fl i=true->ops[i]?=some o->FdC P CW w ops (upd (jM K B) (zJ L)) o)
  (hfin: ∀a' w',Below w.heap.size w w'->StS S w0 (zBj L++K) B n ds a' w'->(∀q,q∈zJ L->q.2.p (a'.tmps.getD q.1 undef) w')->zJu F m P ops CW Q (is++D) a' w'):zJu F m P ops CW Q D a w:=by
 have hchk0:=hchk
 unfold zSh at hchk0
 simp only [pK] at hchk0
 obtain ⟨⟨⟨⟨⟨⟨⟨⟨⟨⟨⟨hap,hfr⟩,hpl⟩,hns⟩,hear⟩,hndk⟩,hc1⟩,hc2⟩,hks⟩,hts⟩,his⟩,htl⟩:=hchk0
 have hkeys:(zJ L).map (·.1)=L.map (·.1):=by simp [zJ]
 have hsame: ∀t,t∈K.map (·.1)++B.map (·.t)-> ∀i,inL D i=false->zQ ops i≠some t:=fun t ht i hD hi=>by
  have h1:=pE.1 hts t ht
  obtain ⟨o,ho,_⟩:=yT hi
  have h2:=pE.1 h1 i (pH.2 (pF.1 ho).1)
  rw [hi,hD] at h2
  simp at h2
 have hkn: ∀t,t∈K.map (·.1)++B.map (·.t)->((zJ L).map (·.1)).contains t=false:=fun t ht=>by
  cases hc:((zJ L).map (·.1)).contains t with
  |false=>rfl
  |true=>
   exfalso
   have hm:=pP.1 hc
   rw [hkeys] at hm
   obtain ⟨i,_,he⟩:=pQ.1 (pE.1 hks t hm)
   simp only [pK,rP,rA] at he
   exact hsame t ht i he.1 he.2
 have hno: ∀(l:List (Nat×SF)) t, ¬t∈K.map (·.1)++B.map (·.t)->upd (y6 K B a) l t=upd (jM K B) l t:=fun l t ht=>by
  induction l with
  |nil=>exact if_neg ht
  |cons q l ih=>
   show (bif Nat.beq q.1 t then q.2 else upd _ l t)=(bif Nat.beq q.1 t then q.2 else upd _ l t)
   rw [ih]
 have hle: ∀t v W,(upd (y6 K B a) (zJ L) t).p v W->(upd (jM K B) (zJ L) t).p v W:=fun t v W hh=>by
  by_cases ht:t∈K.map (·.1)++B.map (·.t)
  ·rw [q8 (hkn t ht)] at hh ⊢
   unfold y6 at hh
   rw [if_pos ht] at hh
   exact hh.1
  ·rwa [hno _ t ht] at hh
 have hA:=h.at
 refine zO7 fl is (K.map (·.1)++B.map (·.t)) (zJ L) hcw (by rw [hkeys];exact hchk) (G:=y6 K B a) (ds:=ds) ⟨hA.gr,hA.size,hA.nd,fun t=> ?_⟩ ?_ (fun i o hi ho b W hb hr=>hfd i o hi ho b W hb (fun t ht=>hle t _ _ (hr t ht))) fun a' w' hA'=> ?_
 ·by_cases ht:t∈K.map (·.1)++B.map (·.t)
  ·unfold y6;rw [if_pos ht];exact ⟨hA.sl t,rfl⟩
  ·unfold y6;rw [if_neg ht];exact hA.sl t
 ·have hge: ∀t,(∃i,inL D i=false/\zQ ops i=some t)-> ∀v W,(upd (jM K B) (zJ L) t).p v W->(upd (y6 K B a) (zJ L) t).p v W:=fun t ⟨i,hD,hi⟩ v W hh=>by
   rw [hno _ t (fun ht=>hsame t ht i hD hi)]
   exact hh
  have hconv: ∀(i:Nat) (o:Oper),inL D i=false->ops[i]?=some o->qK F m P w ops (upd (jM K B) (zJ L)) o->qK F m P w ops (upd (y6 K B a) (zJ L)) o:=by
   intro i o hD ho hg
   have hdst: ∀d,o.dst=some d-> ∃i,inL D i=false/\zQ ops i=some d:=fun d hd=>⟨i,hD,by rw [qG ho];exact hd⟩
   have hop:zJy F m P w (upd (jM K B) (zJ L)) o->zJy F m P w (upd (y6 K B a) (zJ L)) o:=fun h1 b W K' Q' hb hr hK'=>
    h1 b W K' Q' hb (fun t ht=>hle t _ _ (hr t ht)) fun v W' hv hb'=>hK' v W' (fun d hd=>hge d (hdst d hd) _ _ (hv d hd)) hb'
   unfold qK at hg ⊢
   cases hgd:o.guard with
   |none=>rw [hgd] at hg;exact hop hg
   |some q=>
    rw [hgd] at hg
    obtain ⟨g,bv,h1,h2,h3,h4⟩:=hg
    exact ⟨g,bv,h1,fun v W hh=>h2 v W (hle g v W hh),fun e=>hop (h3 e),fun e=>⟨fun d hd W=>hge d (hdst d hd) _ _ ((h4 e).1 d hd W),(h4 e).2⟩⟩
  have hall: ∀l:List Nat,(∀i,i∈l->inL D i=false/\i<ops.size)->Obs F m P w ops (upd (jM K B) (zJ L)) (zMp ops l)->Obs F m P w ops (upd (y6 K B a) (zJ L)) (zMp ops l):=by
   intro l
   induction l with
   |nil=>intro _ _;trivial
   |cons i l ih=>
    intro hm ho
    obtain ⟨hD,hlt⟩:=hm i fL
    have hoi:ops[i]?=some ops[i]:=pW hlt
    have e:zMp ops (i::l)=ops[i]::zMp ops l:=by unfold zMp;rw [List.filterMap_cons,hoi]
    rw [e] at ho ⊢
    exact ⟨hconv i _ hD hoi ho.1,ih (fun j hj=>hm j (by simp [hj])) ho.2⟩
  refine hall is (fun i hi=> ?_) hobs
  have h1:=pE.1 his i hi
  simp only [pK,rR,rP] at h1
  exact ⟨h1.1.1.2,h1.1.1.1⟩
 ·have hg:=hA'.gr
  have hslot: ∀t,t∈K.map (·.1)++B.map (·.t)->a'.tmps.getD t undef=a.tmps.getD t undef:=fun t ht=>by
   have h1:=hA'.sl t
   unfold zM9 at h1
   have h2:((List.range ops.size).any fun i=> !inL (is++D) i&&(zQ ops i==some t))=false:=by
    refine rK.2 fun i _=> ?_
    cases hD:inL D i with
    |true=>simp [zFZ,hD]
    |false=>have:=hsame t ht i hD;simp [this]
   rw [h2,show (bif false then SF.any else upd (y6 K B a) (zJ L) t)=upd (y6 K B a) (zJ L) t from rfl,q8 (hkn t ht),y6,if_pos ht] at h1
   exact h1.2
  have hrow: ∀q,q∈zJ L->q.2.p (a'.tmps.getD q.1 undef) w':=fun q hm2=>by
   have h1:=hA'.sl q.1
   obtain ⟨i,hi,he⟩:=pQ.1 (pE.1 hks q.1 (by rw [<-hkeys];exact pJ.2 ⟨_,hm2,rfl⟩))
   simp only [pK,rP,rA] at he
   have hiL:inL (is++D) i=true:=by
    rw [zFZ]
    have:inL is i=true:=by
     have: ∀l:List Nat,i∈l->inL l i=true:=fun l hl=>by
      induction l with
      |nil=>cases hl
      |cons k l ih=>
       show (bif Nat.beq k i then true else inL l i)=true
       rcases pV.1 hl with rfl|hl
       ·rw [Nat.beq_refl];rfl
       ·rw [ih hl];cases Nat.beq k i<;>rfl
     exact this is hi
    rw [this,Bool.true_or]
   unfold zM9 at h1
   have h2:((List.range ops.size).any fun j=> !inL (is++D) j&&(zQ ops j==some q.1))=false:=by
    refine rK.2 fun j _=> ?_
    by_cases hj:j=i
    ·subst hj;simp [hiL]
    ·have:zQ ops j≠some q.1:=fun e=>by
      obtain ⟨oi,ho1,hd1⟩:=yT he.2
      obtain ⟨oj,ho2,hd2⟩:=yT e
      exact jL hap ho1 ho2 (Ne.symm hj) hd1 hd2
     simp [this]
   rw [h2,show (bif false then SF.any else upd (y6 K B a) (zJ L) q.1)=upd (y6 K B a) (zJ L) q.1 from rfl,zBH (q:=q) (by rw [hkeys];exact hndk) hm2] at h1
   exact h1
  refine hfin a' w' hg ⟨h.gr.trans hg,hA'.size,hA'.nd,fun q hq=> ?_,h.bx.keep hg (zL hg) B fun x hx=>hslot _ (rS _ (pJ.2 ⟨x,hx,rfl⟩)),j9 h.mks hg,h.so.imp (fun hu q hq=>(by
   rcases rG.1 hq with hq|hq
   ·obtain ⟨f,e,_⟩:=q7 hq;exact ⟨f,e⟩
   ·exact hu q hq)) (fun x=>x)⟩ hrow
  rcases rG.1 hq with hq|hq
  ·obtain ⟨f,hqf,hm⟩:=q7 hq
   have h1:=hrow (q.1,f.tS) (pJ.2 ⟨_,hm,rfl⟩)
   rw [hqf]
   exact h1
  ·rw [hslot q.1 (sU _ (pJ.2 ⟨q,hq,rfl⟩))]
   exact KF.us (h.sl q hq) (zL hg)
theorem zME {i d:Nat} {x y:Wg} {t ty:We} {pos:String} {aft:Array Edge} {gd:Wf (Nat×Bool)} {e:We} {z:Nat} {v:Wc} {Cs:List CU} (Ds:List CU) (hwb:Below wb.heap.size wb w) (h:StS S w0 K B n [] a w) (hb0:w0.heap.size<=wb.heap.size) (hr:zAs w wb.heap.size e z v Cs)
  (ho:ops[i]?=some ⟨some d, .call ⟨.builtin .append,#[x,y],#[t,t]⟩,ty,pos,aft,gd⟩) (hw:Region.wanted ⟨some d, .call ⟨.builtin .append,#[x,y],#[t,t]⟩,ty,pos,aft,gd⟩ (yielded ops a.tmps)=true) (hrd:Region.ready .any ops (lst ops.size D)= [i]) (happ:zDH P t=some (e,z,true)) (hf:zAc K B n d=true)
  (hx:a.eval x=v) (hy:(SF.row z Ds).p (a.eval y) w) (hD: ∀C,C∈Ds->CU.ok z C) (hsz:Cs.length+Ds.length<=140000000000) (hB: ∀q,q∈B->q.b<wb.heap.size)
  (fin: ∀v' a' w',Below wb.heap.size wb w'->zAs w' wb.heap.size e z v' (Cs++Ds)->StS S w0 ((d, .u (UF.eq v'))::K) B n [] a' w'->zJu F m P ops (GW wb) Q (i::D) a' w'):zJu F m P ops (GW wb) Q D a w:=by
 obtain ⟨v',w',hrun,g1,g2,_⟩:=zFA (P:=P) (ty:=ty) happ hr hy hD hsz hwb.size
 have hrun2:(execOp a.eval ⟨some d, .call ⟨.builtin .append,#[x,y],#[t,t]⟩,ty,pos,aft,gd⟩).run P w= .ok (.value v') w':=by
  simp only [execOp,resolve,invoke,builtin,rC,rN,rW,sG,pX,rQ,hx,hrun]
 have hk:yO w w':=hr.keepU g2
 have hlt:=hr.lt
 have s1:StS S w0 K B n [] a w':=by
  refine ⟨?_,h.size,h.nd,fun q hq=>KF.us (h.sl q hq) hk, ?_,⟨[],Marks.nil _ _⟩,h.so⟩
  ·cases hv:v.ownBlock with
   |none=>
    refine ⟨g2.os.trans h.gr.os,g2.tape.trans h.gr.tape,g2.output.trans h.gr.output,pL h.gr.size g2.size,fun k hk1 hk2=> ?_⟩
    exact (g2.block k (pT hk1 h.gr.size) (by rw [hv];simp)).trans (h.gr.block k hk1 hk2)
   |some g=>exact h.gr.grown (by rw [hv] at g2;exact g2) (.inl (pL hb0 (hlt g hv).1))
  ·refine wL hk B (fun q hq=> ?_) h.bx
   obtain ⟨_,_,hc,h3,_⟩:=h.bx.mem q hq
   refine g2.block _ (pF.1 h3).1 fun e=> ?_
   have h4:=hlt _ e.symm
   have:=hB q hq
   omega
 have hb':Below wb.heap.size wb w':=⟨g2.os.trans hwb.os,g2.tape.trans hwb.tape,g2.output.trans hwb.output,pL hwb.size g2.size,fun k hk1=>(g2.block k (pT hk1 hwb.size) (fun e=>by have:=hlt _ e.symm;omega)).trans (hwb.block k hk1)⟩
 refine zMC hrd ho hw ⟨fun f hf=>(by
  unfold Oper.about at hf
  simp [resolve,go_sem] at hf), ?_⟩
 rw [pR _ _ _ (fun _ e=>by cases e),hrun2]
 exact ⟨hb',fin v' _ w' hb' g1 (s1.set hf (pM _ _) rfl)⟩
end
section
variable {F:Fence} {m:Nat} {P:Wh} {w0:Wb} {ops:Array Oper} {G:Nat->SF} {d:Tmp} {ty:We} {pos:String} {aft:Array Edge}
def vC (W:Wb) (e:We):SF:=⟨fun v w=> ∃g,v= .slice (some ⟨g,0,none⟩) 0 0/\W.heap.size<=g/\w.heap[g]?=some (.cells #[] e (0,0)),fun _ _ _ ⟨g,h1,h2,h3⟩ hb=>⟨g,h1,h2,(hb.block g (pF.1 h3).1).trans h3⟩⟩
theorem zKO {t e:We} {z:Nat} (happ:zDH P t=some (e,z,true)) (hd: ∀v W,(vC w0 e).p v W->(G d).p v W:=by exact fun _ _ h=>h):qK F m P w0 ops G ⟨some d, .buildSlice t 0 #[],ty,pos,aft,none⟩:=
 zKR (fun _ e=>by cases e) (fun _ e=>by cases e) fun b W hb hh=>by
  obtain ⟨ht,i,zv,hi,hz,hs,hby0,hzs,hzn,hz0⟩:=zBF happ
  refine ⟨.slice (some ⟨W.heap.size,0,none⟩) 0 0, .cells #[] e, ?_,hd _ _ ⟨W.heap.size,rfl,hb.size,heap_alloc_new W _⟩⟩
  simp [execOp,Instr.buildSlice,rE ht,sizeOf,typeInfo,hi,newRow,Instr.fill]
  congr 2
  exact Array.eq_empty_of_size_eq_zero fL
theorem zPz {x y:Wg} {t e:We} {z:Nat} (Ds:List CU) (happ:zDH P t=some (e,z,true)) (hx: ∀v W,(fct G x).p v W->(vC w0 e).p v W) (hy: ∀v W,Below w0.heap.size w0 W->(fct G y).p v W->(SF.row z Ds).p v W) (hD: ∀C,C∈Ds->CU.ok z C) (hsz:Ds.length<=140000000000) (hd: ∀v W,(wE w0 e z Ds).p v W->(G d).p v W:=by exact fun _ _ h=>h):qK F m P w0 ops G ⟨some d, .call ⟨.builtin .append,#[x,y],#[t,t]⟩,ty,pos,aft,none⟩:=by
 intro bb W K Q hb hr hK
 obtain ⟨g,ex,hg,hgc⟩:=hx _ _ (yU hr (x:=x) (by simp [Op.operands,Call.operands]))
 have h2:=hy _ _ hb (yU hr (x:=y) (by simp [Op.operands,Call.operands]))
 obtain ⟨ht,i,zv,hi,hz,hs,hby0,hzs,hzn,hz0⟩:=zBF happ
 have hemp:zAs W w0.heap.size e z (.slice (some ⟨g,0,none⟩) 0 0) []:= .inr ⟨g,0,#[],rfl,hg,hgc,pY _,Nat.zero_le _,by simp,rfl,fun i C hi=>by simp at hi⟩
 refine ⟨fun f hf=>(by
  unfold Oper.about at hf
  simp [resolve,go_sem] at hf), ?_⟩
 rw [pR _ _ _ (fun _ e=>by cases e)]
 have hev: ∀v' W',(Builtin.append_ #[t,t] ty #[.slice (some ⟨g,0,none⟩) 0 0,bb.eval y]).run P W= .ok v' W'->(execOp bb.eval ⟨some d, .call ⟨.builtin .append,#[x,y],#[t,t]⟩,ty,pos,aft,none⟩).run P W= .ok (.value v') W':=fun v' W' h=>by
  simp only [execOp,resolve,invoke,builtin,rC,rN,rW,sG,pX,rQ,ex,h]
 by_cases h0:Ds= []
 ·subst h0
  obtain ⟨A,c,ey,hlc,hcm,hAn,hel⟩:=h2
  have hrun:(Builtin.append_ #[t,t] ty #[.slice (some ⟨g,0,none⟩) 0 0,bb.eval y]).run P W= .ok (.slice (some ⟨g,0,none⟩) 0 0) W:=by
   rw [ey]
   cases A with
   |none=>simp [Builtin.append_,rE ht,sizeOf,typeInfo,hi,Builtin.lenOf,Builtin.firstCells,storeCells]
   |some ad=>simp [Builtin.append_,rE ht,sizeOf,typeInfo,hi,Builtin.lenOf,Builtin.firstCells,loadCells,loadCellsFrom,storeCells]
  rw [hev _ _ hrun]
  exact hK _ _ (fun d' e'=>by cases e';exact hd _ _ hemp) (pM _ _)
 ·have h0:0<Ds.length:=List.length_pos_iff.2 h0
  have hmx:Ds.length<=maxLen:=by unfold maxLen;omega
  have hbb:Ds.length*i.bytes<=140737488355328:=pL (Nat.mul_le_mul hsz hby0) (by decide)
  obtain ⟨A,c,ey,hlc,hcm,hAn,hel⟩:=h2
  obtain ⟨D,Ds',rfl⟩: ∃D Ds',Ds=D::Ds':=by
   cases Ds with
   |nil=>simp at h0
   |cons D Ds'=>exact ⟨D,Ds',rfl⟩
  obtain ⟨b',o',cs',rfl,_⟩:=hel 0 D rfl
  obtain ⟨news,n1,n2,n3,n4,n5⟩:=zC0 (W:=W) (b:=b') (z:=z) (D::Ds') o' hD fun i C hiC=>by
   obtain ⟨b'',o'',cs'',e',m1,m2⟩:=hel i C hiC
   cases e'
   exact ⟨cs'',m1,m2⟩
  have hgr:=run_append_grow (P:=P) W t ty e i zv ht hi hz ⟨g,0,none⟩ 0 0 [] fL fL ⟨b',o',none⟩ (D::Ds').length c news (by rw [hs];exact n1) (fun j u hj=>by rw [rI];exact n2 j u hj) oN oN (growslice_fits oN (by simpa using hbb))
  simp only [Nat.zero_add,Array.empty_append] at hgr
  have hge:=grownCap_ge W (D::Ds').length 0 e
  have hcm':grownCap W (D::Ds').length 0 e<=maxLen:=grownCap_le_maxLen W (D::Ds').length 0 e hmx
  rw [hev _ _ (by rw [ey];exact hgr)]
  have hbw:Below W.heap.size W (W.drew.alloc (.cells (news.toArray++Builtin.zeroCells zv.cells (grownCap W (D::Ds').length 0 e - (D::Ds').length)) e)):=⟨rfl,rfl,rfl,by simp,fun k hk=>heap_alloc_old W.drew _ hk⟩
  refine hK _ _ (fun d' e'=>by
   cases e'
   refine hd _ _ (.inr ⟨W.heap.size,_,_,rfl,hb.size,heap_alloc_new W.drew _,hge,hcm', ?_, ?_, ?_⟩)
   ·simp only [Array.size_append,tB,size_zeroCells,hzs,n1, <-rH]
    congr 1
    omega
   ·rw [tC,sE,n4,zA3 hzn];rfl
   ·have:=zCu (Cs:= []) (cs:= []) (es:=(Builtin.zeroCells zv.cells (grownCap W (D::Ds').length 0 e - (D::Ds').length)).toList) fL n1 fL n5 (zL hbw)
    simpa using this) hbw
theorem zRn {S:Nat->Prop} {wa:Wb} {K:List (Nat×KF)} {B:List Bx} {n kk:Nat} {ds:List Deferred} {a:Act} {t:We} {c:Nat} (h:StS S wa K B n ds a w0) {y:Bx} (hB:zE7 B c=some y) (hsz:zAN P t=some kk) (hyl: ∀cs W,y.c.p cs W->cs.length=kk) (hx: ∀v W,(fct G (.tmp c)).p v W->v= pO y.b 0):zQj P w0 ops G ⟨some d, .load t (.tmp c),ty,pos,aft,none⟩:=
 zLp (fun _ e=>by cases e) fun b W _ hh=>by
  have e1:=hx _ _ (hh (.tmp c) (by simp [Op.operands]))
  obtain ⟨hy,_⟩:=zAi hB
  obtain ⟨cs,_,_,h3,h4,_⟩:=h.bx.mem y hy
  refine ⟨.agg cs.toArray,fun W' hb'=> ?_⟩
  have h5:W'.heap[y.b]?=some (.cells cs.toArray y.e (0,0)):=(hb'.block _ (pF.1 h3).1).trans h3
  have e2:b.eval (.tmp c)= (pO y.b 0):=e1
  simp [execOp,Instr.loadAt,e2,Instr.sureAddr,zDV hsz (hyl _ _ h4) h5]
theorem zLo {CW:Wb->Prop}: ∀i o,inL [] i=true->ops[i]?=some o->FdC P CW w0 ops G o:=fun _ _ h=>by cases h
theorem zIO {k:Nat} {o':Oper} {l:List Nat} (hk:ops[k]?=some o') {CW:Wb->Prop} (h:FdC P CW w0 ops G o') (hl: ∀i o,inL l i=true->ops[i]?=some o->FdC P CW w0 ops G o): ∀i o,inL (k::l) i=true->ops[i]?=some o->FdC P CW w0 ops G o:=fun i o hi ho=>by
 have hi:(bif Nat.beq k i then true else inL l i)=true:=hi
 cases e:Nat.beq k i with
 |true=>
  have:=rJ e
  subst this
  rw [hk] at ho
  cases ho
  exact h
 |false=>
  rw [e] at hi
  exact hl i o hi ho
end
section
variable {S:Nat->Prop} {F:Fence} {m:Nat} {P:Wh} {Q:Exit->Act->Wb->Prop} {w0 w1:Wb} {K K0:List (Nat×KF)} {B B0:List Bx} {n n0:Nat} {ds ds0:List Deferred} {a a0:Act} {w:Wb}
end
def zCB (W W':Wb):Prop:=W.heap.size<=W'.heap.size/\ ∀(q:Nat) (o:Obj),W.heap[q]?=some o->o.isCells=true->W'.heap[q]?=some o
theorem jJ {W W':Wb} (h:Below W.heap.size W W'):zCB W W':=⟨h.size,fun q o ho _=>(h.block q (pF.1 ho).1).trans ho⟩
theorem zA2 {W:Wb} {l:Nat} {o o':Obj} (h:W.heap[l]?=some o) (hc:o.isCells=false):zCB W (W.putObj l o'):=⟨by rw [rM];exact pY _,fun q o2 ho h2=>by
 have hne:q≠l:=fun e=>by
  subst e
  rw [h] at ho
  cases ho
  rw [hc] at h2
  cases h2
 exact (pG hne).trans ho⟩
theorem zCB.keepU {W W':Wb} (h:zCB W W'):yO W W':=fun q u hq=>by
 have hlt:=sD W _ hq
 obtain ⟨o,ho⟩: ∃o,W.heap[q.block]?=some o:=⟨_,pW hlt⟩
 cases hc:o.isCells with
 |false=>rw [jE ho hc rfl] at hq;cases hq
 |true=>exact (pU ((h.2 _ _ ho hc).trans ho.symm)).trans hq
theorem zAs.keepC {w w':Wb} {base:Nat} {e:We} {z:Nat} {v:Wc} {Cs:List CU} (h:zAs w base e z v Cs) (hk:zCB w w'):zAs w' base e z v Cs:=h.keep (fun k hv=>by
 rcases h with ⟨rfl,_⟩|⟨g,cap,cur,rfl,hb,hg,_⟩
 ·simp [Value.ownBlock] at hv
 ·simp [Value.ownBlock] at hv
  subst hv
  exact (hk.2 _ _ hg rfl).trans hg.symm) hk.keepU
theorem qA {N:Nat} {W W':Wb} (h:Below W.heap.size W W') (hN:N<=W.heap.size):Itr N W W':=⟨h.os,h.tape,h.output,h.size,fun k hk=>h.block k (pT hk hN),fun k o ho _=>(h.block k (pF.1 ho).1).trans ho,zL h⟩
structure RndO (N:Nat) (C O:Nat->Prop) (W W':World):Prop where
 os:W'.os=W.os
 tape:W'.tape=W.tape
 output:W'.output=W.output
 size:W.heap.size<=W'.heap.size
 low: ∀k:Nat,k<N-> ¬C k->W'.heap[k]?=W.heap[k]?
 own: ∀k:Nat,O k->W'.heap[k]?=W.heap[k]?
 keep:yO W W'
def ItD (P:Wh) (gf:Nat) (lb:Array Wc) (Ef:Nat->List UF) (N:Nat) (C:Nat->Prop) (w:Wb):Prop:=
 ∀(l:Nat) (J:Nat->(Nat->Prop)->Wb->Prop) (Z:Wb->Prop) (W:Wb),w.heap.size<=W.heap.size->Below w.heap.size w W->yO w W->
  (∀k O O' W1 W2,J k O W1->Below W1.heap.size W1 W2->(∀q,O' q->O q∨W1.heap.size<=q)->J k O' W2)->(∀W1 W2,Z W1->Below W1.heap.size W1 W2->Z W2)->
  (∀k O W1 xs,k<N->J k O W1->(∀q,O q->W.heap.size<=q/\q<W1.heap.size)->Ev Ef k xs W1->YieldAt Fence.wide 0 P l xs W1 fun e W'=>((e= .returned (.bool true)/\J (k+1) O W')∨(e= .returned (.bool false)/\Z W'))/\RndO w.heap.size C O W1 W')->
  J 0 (fun _=>False) W->Calls P gf (#[.func (.yield l) #[] #[]]++lb) W fun e W'=>(∃v,e= .returned v)/\((∃O,J N O W')∨Z W')
section
variable {S:Nat->Prop} {P:Wh} {Q:Exit->Act->Wb->Prop} {w0:Wb} {K:List (Nat×KF)} {B:List Bx} {n:Nat} {ds:List Deferred} {a:Act} {w:Wb}
theorem zDM {W W':Wb} {l:Nat} {o:Obj} {R:Nat->Prop} (hb:BlS (fun k=>inB B k∨k=l∨R k) W W') (hbx:yH S w0 a W B) (ho:W.heap[l]?=some o) (hc:o.isCells=false) (hR: ∀q,R q-> ∃(cs:Array Wc) (t:We) (z:Nat×Nat),W.heap[q]?=some (.cells cs t z)/\cs.toList.all zV=true):yO W W':=fun q u hq=>by
 have hlt:=sD W _ hq
 by_cases e:inB B q.block∨q.block=l∨R q.block
 ·exfalso
  rcases e with ⟨x,hx,e1,_⟩|e1|e1
  ·obtain ⟨cs,_,_,h3,_,h5⟩:=hbx.mem x hx
   have:=zBD h3 h5 e1.symm hq
   cases this
  ·rw [jE ho hc e1] at hq
   cases hq
  ·obtain ⟨cs,t,z,h3,h5⟩:=hR _ e1
   have:=zBD (cs:=cs.toList) (by simpa using h3) h5 rfl hq
   cases this
 ·exact (pU (hb.block _ hlt e)).trans hq
theorem StS.turnedX (h:StS S w0 K B n ds a w) {B':List Bx} {S' S2:Nat->Prop} {w1 w':Wb} {a1:Act} {l N:Nat} {o:Obj} (hb:BlS S2 w w') (h2: ∀q,q<N->S2 q->inB B q∨q=l) (hN:w0.heap.size<=N) (hU:yO w w') (ho:w.heap[l]?=some o) (hc:o.isCells=false) (hl:w0.heap.size<=l)
  (hD: ∀Ds,Marks w0.heap.size w ds Ds->l ∉ Ds/\ ∀D,D∈Ds->D<N) (hk:B'.map zDO=B.map zDO) (hx:yH S' w1 a1 w' B'):StS S w0 K B' n ds a w':=by
 have hin: ∀k,k<w0.heap.size-> ¬S k-> ¬S2 k:=fun k hk hs hh=>by
  rcases h2 k oN hh with ⟨x,hx,h1,h2⟩|hh
  ·obtain ⟨_,_,hc,_⟩:=h.bx.mem x hx
   rcases hc with hc|hc|hc
   ·rw [h2] at hc;cases hc
   ·omega
   ·exact hs (h1▸hc)
  ·omega
 refine ⟨⟨hb.os.trans h.gr.os,hb.tape.trans h.gr.tape,hb.output.trans h.gr.output,pL h.gr.size hb.size,fun k hk hs=>(hb.block k (pT hk h.gr.size) (hin k hk hs)).trans (h.gr.block k hk hs)⟩,
  h.size,h.nd,fun q hq=>KF.us (h.sl q hq) hU,wY B B' hk h.bx hx, ?_,h.so⟩
 obtain ⟨Ds,hm⟩:=h.mks
 refine ⟨Ds,hm.eq,hm.nodup,fun D hd=>⟨(hm.at_ D hd).1,(hb.block D (hm.lt D hd) fun hh=> ?_).trans (hm.at_ D hd).2⟩⟩
 rcases h2 D ((hD Ds hm).2 D hd) hh with ⟨x,hx,h1,_⟩|hh
 ·obtain ⟨cs,_,_,h3,_⟩:=h.bx.mem x hx
  rw [h1,(hm.at_ D hd).2] at h3
  cases h3
 ·subst hh
  exact (hD Ds hm).1 hd
theorem zJX {g:Wg} {ps:Array Tmp} {assign body:Code} {gf:Nat} {lb:Array Wc} {Ef:Nat->List UF} {N:Nat}
  (Bf:Nat->List Bx) (Bz:List Bx) (cz:Code) (Kr:Nat->List (Nat×KF)) (h:StS S w0 K (Bf 0) n ds a w)
  (hg: ∀v W,(Wd.fct (jM K (Bf 0)) g).p v W->v= .func (.func gf) #[] lb) (eg: ∀args w,(callFunc gf args).run P w= .ok (.enter gf args) w)
  (hit:ItD P gf lb Ef N (inB (Bf 0)) w) {X:Nat->(Nat->Prop)->Wb->Prop} {XZ:Wb->Prop} (hX: ∀k R W W',zCB W W'->X k R W->X k R W') (hXZ: ∀W W',zCB W W'->XZ W->XZ W') (hx0:X 0 (fun _=>False) w) (hEl: ∀k,(Ef k).length=ps.size)
  (hKr: ∀k q,q∈Kr k->(q∈K/\zHG q.2=true/\ps.toList.contains q.1=false)∨ ∃(j:Nat) (f:UF),ps[j]?=some q.1/\(Ef k)[j]?=some f/\q.2= .u f)
  (hps:zAm ps.toList=true) (hpl:(ps.toList.all fun p=>Nat.blt p n)=true) (hpB:((Bf 0).all fun x=> !ps.toList.contains x.t)=true)
  (hBf: ∀k,(Bf k).map zDO=(Bf 0).map zDO) (hBz:Bz.map zDO=(Bf 0).map zDO)
  (rounds: ∀l k R xs W,k<N->X k R W->(∀q,R q->w.heap.size+2<=q/\q<W.heap.size)->w.heap.size+2<=W.heap.size->StS S w0 K (Bf k) n ds a W->StS (fun q=>inB (Bf 0) q∨W.heap.size<=q∨R q) W (Kr k) (Bf k) n [] { tmps:=(ps.zip xs).foldl (fun t (p,v)=>t.setIfInBounds p v) a.tmps,defers:= [] } W->
   assign.wpIn (Fence.wide.inRound l) 0 P (Exit.then (fun a1 W1=>BlS (fun q=>inB (Bf 0) q∨W.heap.size<=q∨R q) W W1/\ ∀W2,zCB W1 W2->(∀p,W2.cell? p=W1.cell? p)->(∀K B,StS (fun q=>inB (Bf 0) q∨W.heap.size<=q∨R q) W K B n [] a1 W1->StS (fun q=>inB (Bf 0) q∨W.heap.size<=q∨R q) W2 K B n [] a1 W2)->
    body.wpIn (Fence.wide.inRound l) 0 P (zTz (fun a2 W3=>StS (fun q=>inB (Bf 0) q∨W.heap.size<=q∨R q) W2 [] (Bf (k+1)) n [] a2 W3/\ ∃R',(∀q,R' q->R q∨W.heap.size<=q)/\(∀q,R' q->q<W3.heap.size/\ ∃(cs:Array Wc) (t:We) (z:Nat×Nat),W3.heap[q]?=some (.cells cs t z)/\cs.toList.all zV=true)/\X (k+1) R' W3) cz (fun a2 W3=>StS (fun q=>inB (Bf 0) q∨W.heap.size<=q∨R q) W2 [] Bz n [] a2 W3/\XZ W3)) a1 W2) (fun _ _ _=>False))
    { tmps:=(ps.zip xs).foldl (fun t (p,v)=>t.setIfInBounds p v) a.tmps,defers:= [] } W)
  (done: ∀D W R,X N R W->StS S w0 K (Bf N) n (mark D::ds) { a with defers:=mark D::a.defers } W->Q .normal { a with defers:=mark D::a.defers } W)
  (stop: ∀D W,XZ W->StS S w0 K Bz n (mark D::ds) { a with defers:=mark D::a.defers } W->cz.wpIn Fence.wide 0 P Q { a with defers:=mark D::a.defers } W):
  (Code.rangeFunc g ps assign body).wpIn Fence.wide 0 P Q a w:=by
 refine wpIn_rangeFunc ?_
 intro fn hfn
 show ∃l mark w₁ d w₁' f args w₂,(Instr.enterLoop fn a.tmps ps assign body none).run P w=_/\_
 obtain ⟨rec,hrec⟩: ∃rec:LoopState->Wf Code->Loop,rec=fun st pe=>{ state:=st,pending:=pe,fn,tmps:=a.tmps,params:=ps,assign,body,defers:=w.heap.size }:=⟨_,rfl⟩
 obtain ⟨W1,hW1⟩: ∃W1,(w.alloc (.deferred (some []))).alloc (.loop (rec .ready none))=W1:=⟨_,rfl⟩
 have hL1:W1.heap[w.heap.size+1]?=some (.loop (rec .ready none)):=by
  rw [<-hW1];have:=sJ (w.alloc (.deferred (some []))) (.loop (rec .ready none));rwa [World.size_alloc] at this
 have hK1:W1.heap[w.heap.size]?=some (.deferred (some [])):=by
  rw [<-hW1];exact (Below.heap_alloc _ _ _ fL).trans (sJ w _)
 have hb1:Below w.heap.size w W1:=by
  rw [<-hW1];exact ((pM _ w).alloc lr _).alloc fL _
 have hz1:W1.heap.size=w.heap.size+2:=by rw [<-hW1];simp
 have hgv:a.eval g= .func (.func gf) #[] lb:=hg _ _ (h.fct g)
 have hold:=h.old
 have hw0:=h.gr.size
 have hi1:Itr w.heap.size w W1:=⟨hb1.os,hb1.tape,hb1.output,hb1.size,fun k hk=>hb1.block k hk,fun k o ho _=>(hb1.block k (pF.1 ho).1).trans ho,zL hb1⟩
 have hs1:=h.itr hi1 hw0 hold
 have hbk: ∀{k:Nat} {x:Bx},x∈Bf k->x.b<w.heap.size:=fun {k x} hx=>by
  obtain ⟨y,hy,_,e,_⟩:=zDF (hBf k) hx
  rw [<-e]
  exact hold y hy
 have hbz: ∀{x:Bx},x∈Bz->x.b<w.heap.size:=fun {x} hx=>by
  obtain ⟨y,hy,_,e,_⟩:=zDF hBz hx
  rw [<-e]
  exact hold y hy
 have hin: ∀{q:Nat},inB (Bf 0) q->q<w.heap.size:=fun {q} ⟨x,hx,e,_⟩=>by rw [<-e];exact hold x hx
 have hinz: ∀(k:Nat) {q:Nat},inB (Bf k) q->inB (Bf 0) q:=fun k _ hq=>zDC (hBf k) hq
 have hDl: ∀{W:Wb} {o:Obj},W.heap[w.heap.size+1]?=some o->(∃r,o= .loop r)-> ∀Ds,Marks w0.heap.size W ds Ds->w.heap.size+1 ∉ Ds:=fun {W o} ho hr Ds hm hh=>by
  obtain ⟨r,rfl⟩:=hr
  rw [(hm.at_ _ hh).2] at ho
  cases ho
 have hDs: ∀{W:Wb} Ds,Marks w0.heap.size W ds Ds-> ∀D,D∈Ds->D<w.heap.size:=fun {W} Ds hm D hd=>by
  obtain ⟨Ds',hm'⟩:=h.mks
  have:Ds=Ds':=by
   have e:=hm.eq.symm.trans hm'.eq
   exact zEB e
  subst this
  exact hm'.lt D hd
 refine ⟨w.heap.size+1, [{ target:= .collected w.heap.size,args:=#[] }],W1,{ target:= .fn (.func gf) lb,args:=#[.func (.yield (w.heap.size+1)) #[] #[]] },W1,gf,
  #[.func (.yield (w.heap.size+1)) #[] #[]]++lb,W1, ?_, ?_, ?_, ?_,fun h=>absurd h (by simp [Fence.wide]), ?_⟩
 ·rw [<-hW1,hrec];exact run_enterLoop_outer _ _ _ _ _
 ·simp only [resolve,hgv]
  simp [go_sem]
 ·intro f' _;trivial
 ·simp [invoke,go_sem,eg]
 ·refine callsIn_wide.2 ((hit (w.heap.size+1)
   (fun k O W=>StS S w0 K (Bf k) n ds a W/\W.heap[w.heap.size+1]?=some (.loop (rec .ready none))/\W.heap[w.heap.size]?=some (.deferred (some []))/\w.heap.size+2<=W.heap.size/\ ∃R,(∀q,R q-> ¬O q/\w.heap.size+2<=q/\q<W.heap.size/\ ∃(cs:Array Wc) (t:We) (z:Nat×Nat),W.heap[q]?=some (.cells cs t z)/\cs.toList.all zV=true)/\X k R W)
   (fun W=>StS S w0 K Bz n ds a W/\W.heap[w.heap.size+1]?=some (.loop (rec .done (some cz)))/\W.heap[w.heap.size]?=some (.deferred (some []))/\w.heap.size+2<=W.heap.size/\XZ W)
   W1 oN hb1 (zL hb1)
   (fun k O O' A B ⟨h1,h3,h4,h5,R,hR,h6⟩ hi hO=>⟨h1.itr (qA hi h5) oN (fun x hx=>by have:=hbk hx;omega),(qA hi h5).oth _ _ h3 rfl,(qA hi h5).oth _ _ h4 rfl,pL h5 hi.size,R,fun q hq=>by
    obtain ⟨r1,r2,r3,cs,t,z,r4,r5⟩:=hR q hq
    refine ⟨fun ho=> ?_,r2,pT r3 hi.size,cs,t,z,(hi.block q r3).trans r4,r5⟩
    rcases hO q ho with e|e
    ·exact r1 e
    ·omega,hX _ _ _ _ (jJ hi) h6⟩)
   (fun A B ⟨h1,h3,h4,h5,h6⟩ hi=>⟨h1.itr (qA hi h5) oN (fun x hx=>by have:=hbz hx;omega),(qA hi h5).oth _ _ h3 rfl,(qA hi h5).oth _ _ h4 rfl,pL h5 hi.size,hXZ _ _ (jJ hi) h6⟩)
   ?_ ⟨hs1,hL1,hK1,by omega,fun _=>False,fun q hq=>hq.elim,hX _ _ _ _ (jJ hb1) hx0⟩).mono ?_)
  ·rintro k O W xs hk ⟨hs,hl,hd,hsz5,R,hR,hxk⟩ hOr ⟨hxs,hev⟩
   have hlt:w.heap.size+1<W.heap.size:=(pF.1 hl).1
   have hy:=run_yield (P:=P) (args:=xs) hl (by rw [hrec];exact hxs.trans (hEl k))
   rw [hrec] at hy
   have hxs':xs.size=ps.size:=hxs.trans (hEl k)
   have hzip:(ps.zip xs).foldl (fun t (p,v)=>t.setIfInBounds p v) a.tmps=(ps.toList.zip xs.toList).foldl (fun t (p,v)=>t.setIfInBounds p v) a.tmps:=by
    rw [<-Array.foldl_toList,Array.toList_zip]
   have hzf:(ps.toList.zip xs.toList).map (·.1)=ps.toList:=by
    rw [List.map_fst_zip]
    simp [hxs']
   have hnd:ps.toList.Nodup:=yQ hps
   have hs0:StS (fun q=>inB (Bf 0) q∨W.heap.size<=q∨R q) W (Kr k) (Bf k) n [] { tmps:=(ps.zip xs).foldl (fun t (p,v)=>t.setIfInBounds p v) a.tmps,defers:= [] } W:=by
    refine ⟨BlS.refl _ _, ?_,rfl,fun q hq=> ?_, ?_,⟨[],Marks.nil _ _⟩, .inl fun q hq=> ?_⟩
    ·show ((ps.zip xs).foldl (fun t (p,v)=>t.setIfInBounds p v) a.tmps).size=n
     rw [hzip,zCD]
     exact h.size
    ·show q.2.p W (((ps.zip xs).foldl (fun t (p,v)=>t.setIfInBounds p v) a.tmps).getD q.1 undef) W
     rw [hzip]
     rcases hKr k q hq with ⟨h1,h2,h3⟩|⟨j,f,h1,h2,h3⟩
     ·rw [zAy q.1 _ _ (by rw [hzf];intro hc;rw [pP.2 hc] at h3;cases h3)]
      have:=hs.sl q h1
      cases hq2:q.2 with
      |u f=>rw [hq2] at this;exact this
      |o f=>rw [hq2] at h2;cases h2
     ·have hj:j<ps.size:=(pF.1 h1).1
      have hjx:j<xs.size:=by omega
      have e1:=hev j f h2
      have e2:xs.getD j undef=xs[j]:=by rw [pN,pW hjx];rfl
      have e3:ps[j]=q.1:=(pF.1 h1).2
      rw [zD8 _ _ q.1 xs[j] (by rw [hzf];exact hnd) (by
       refine List.mem_iff_getElem?.2 ⟨j, ?_⟩
       rw [tM]
       exact ⟨by rw [sK];exact h1,by rw [sK,pW hjx]⟩) (by
       have:=pE.1 hpl q.1 (by rw [<-e3];exact Array.mem_toList_iff.2 (sC hj))
       rw [h.size]
       simpa using this)]
      rw [h3]
      rw [e2] at e1
      exact e1
    ·refine wO (Bf k) (fun x hx=> ?_) (fun x hx=> ?_) hs.bx
     ·cases hr:x.r with
      |true=>exact .inl rfl
      |false=>exact .inr (.inr (.inl (hinz k ⟨x,hx,rfl,hr⟩)))
     ·show ((ps.zip xs).foldl (fun t (p,v)=>t.setIfInBounds p v) a.tmps).getD x.t undef=_
      rw [hzip]
      obtain ⟨y,hy,e,_⟩:=zDF (hBf k) hx
      refine zAy _ _ _ ?_
      rw [hzf, <-e]
      intro hc
      have:=pE.1 hpB y hy
      rw [pP.2 hc] at this
      cases this
    ·rcases hKr k q hq with ⟨h1,h2,h3⟩|⟨j,f,h1,h2,h3⟩
     ·cases hq2:q.2 with
      |u f=>exact ⟨f,rfl⟩
      |o f=>rw [hq2] at h2;cases h2
     ·exact ⟨f,h3⟩
   have hnl: ¬(inB (Bf 0) (w.heap.size+1)∨W.heap.size<=w.heap.size+1∨R (w.heap.size+1)):=fun hh=>by
    rcases hh with hh|hh|hh
    ·have:=hin hh;omega
    ·omega
    ·have:=(hR _ hh).2.1;omega
   have hnd2: ¬(inB (Bf 0) w.heap.size∨W.heap.size<=w.heap.size∨R w.heap.size):=fun hh=>by
    rcases hh with hh|hh|hh
    ·have:=hin hh;omega
    ·omega
    ·have:=(hR _ hh).2.1;omega
   refine ⟨fn,_,assign,body,hy,roundIn_of_wpIn hfn (rL ?_ (rounds (w.heap.size+1) k R xs W hk hxk (fun q hq=>⟨(hR q hq).2.1,(hR q hq).2.2.1⟩) hsz5 hs hs0))⟩
   intro e a1 Wa hp
   cases e with
   | normal=>
    obtain ⟨hgr,hcont⟩:=hp
    have hla:Wa.heap[w.heap.size+1]?=some (.loop (rec .ready none)):=(hgr.block _ hlt hnl).trans hl
    have hda:Wa.heap[w.heap.size]?=some (.deferred (some [])):=(hgr.block _ oN hnd2).trans hd
    have hlta:w.heap.size+1<Wa.heap.size:=(pF.1 hla).1
    refine ⟨_,run_beginRound hla (by rw [hrec]), ?_⟩
    obtain ⟨W2,hW2⟩: ∃W2,Wa.putObj (w.heap.size+1) (.loop { rec .ready none with state:= .busy })=W2:=⟨_,rfl⟩
    rw [hW2]
    have hl2:W2.heap[w.heap.size+1]?=some (.loop { rec .ready none with state:= .busy }):=by rw [<-hW2];exact sL hlta
    have hd2:W2.heap[w.heap.size]?=some (.deferred (some [])):=by rw [<-hW2];exact (pG oN).trans hda
    have hz2:W2.heap.size=Wa.heap.size:=by rw [<-hW2,rM]
    have hk2:yO Wa W2:=fun q u hq=>by
     by_cases e:q.block=w.heap.size+1
     ·rw [jE hla rfl e] at hq
      cases hq
     ·rw [<-hW2]
      exact (pU (pG e)).trans hq
    have hcell: ∀p,W2.cell? p=Wa.cell? p:=fun p=>by
     by_cases e:p.block=w.heap.size+1
     ·rw [jE hla rfl e,jE hl2 rfl e]
     ·rw [<-hW2]
      exact pU (pG e)
    have hbody:=hcont W2 (by rw [<-hW2];exact zA2 hla rfl) hcell (fun K' B' hs'=>hs'.rebase hk2 (fun _ hq=> .inr (.inl hq)) (fun x hx=>by
     obtain ⟨cs,_,_,h3,_⟩:=hs'.bx.mem x hx
     rw [<-hW2]
     refine pG fun e=> ?_
     rw [e,hla] at h3
     cases h3))
    refine rL ?_ hbody
    intro e a3 W3 hp3
    have fin: ∀(jump:Wf Code) (B':List Bx),StS (fun q=>inB (Bf 0) q∨W.heap.size<=q∨R q) W2 [] B' n [] a3 W3->B'.map zDO=(Bf 0).map zDO-> ∃W4,(Instr.endRound (w.heap.size+1) jump).run P W3= .ok (.bool jump.isNone) W4/\W4.heap[w.heap.size+1]?=some (.loop (rec (if jump.isNone then .ready else .done) jump))/\W4.heap[w.heap.size]?=some (.deferred (some []))/\RndO w.heap.size (inB (Bf 0)) O W W4/\StS S w0 K B' n ds a W4/\w.heap.size+2<=W4.heap.size/\zCB W3 W4/\(∀q,q≠w.heap.size+1->W4.heap[q]?=W3.heap[q]?)/\W4.heap.size=W3.heap.size:=by
     intro jump B' h3 hB'
     have hl3:W3.heap[w.heap.size+1]?=some (.loop { rec .ready none with state:= .busy }):=(h3.gr.block _ oN hnl).trans hl2
     have hd3:W3.heap[w.heap.size]?=some (.deferred (some [])):=(h3.gr.block _ oN hnd2).trans hd2
     have hlt3:w.heap.size+1<W3.heap.size:=(pF.1 hl3).1
     have hrun:=run_endRound (P:=P) jump hl3
     have hbx3: ∀x,x∈B'->x.b≠w.heap.size+1:=fun x hx e=>by
      obtain ⟨cs,_,_,h4,_⟩:=h3.bx.mem x hx
      rw [e,hl3] at h4
      cases h4
     obtain ⟨W4,hW4⟩: ∃W4,W3.putObj (w.heap.size+1) (.loop (rec (if jump.isNone then .ready else .done) jump))=W4:=⟨_,rfl⟩
     have hrun4:(Instr.endRound (w.heap.size+1) jump).run P W3= .ok (.bool jump.isNone) W4:=by rw [hrun, <-hW4,hrec]
     have hz3:=h3.gr.size
     have hz4:W4.heap.size=W3.heap.size:=by rw [<-hW4,rM]
     have hza:=hgr.size
     have hk4:yO W3 W4:=fun q u hq=>by
      by_cases e:q.block=w.heap.size+1
      ·rw [jE hl3 rfl e] at hq
       cases hq
      ·rw [<-hW4]
       exact (pU (pG e)).trans hq
     have hb4:BlS (fun q=>inB (Bf 0) q∨q=w.heap.size+1∨R q) W W4:=by
      refine ⟨?_, ?_, ?_,by omega,fun q hq hns=> ?_⟩
      ·rw [<-hW4];exact h3.gr.os.trans (by rw [<-hW2];exact hgr.os)
      ·rw [<-hW4];exact h3.gr.tape.trans (by rw [<-hW2];exact hgr.tape)
      ·rw [<-hW4];exact h3.gr.output.trans (by rw [<-hW2];exact hgr.output)
      ·have hne:q≠w.heap.size+1:=fun e=>hns (.inr (.inl e))
       have hni: ¬(inB (Bf 0) q∨W.heap.size<=q∨R q):=fun hh=>by
        rcases hh with hh|hh|hh
        ·exact hns (.inl hh)
        ·omega
        ·exact hns (.inr (.inr hh))
       rw [<-hW4,pG hne,h3.gr.block q oN hni, <-hW2,pG hne]
       exact hgr.block q hq hni
     have hKU:=zDM (B:=Bf k) (hb4.sub fun q hq=>hq.imp (zDC (hBf k).symm) id) hs.bx hl rfl (fun q hq=>(hR q hq).2.2.2)
     have hgt: ∀q,q≠w.heap.size+1->W4.heap[q]?=W3.heap[q]?:=fun q hq=>by rw [<-hW4];exact pG hq
     refine ⟨W4,hrun4,by rw [<-hW4];exact sL hlt3,by rw [<-hW4];exact (pG oN).trans hd3,⟨hb4.os,hb4.tape,hb4.output,hb4.size,fun q hq hc=>hb4.block q oN fun hh=> ?_,fun q hq=>hb4.block q (hOr q hq).2 fun hh=> ?_,hKU⟩, ?_,by omega,by rw [<-hW4];exact zA2 hl3 rfl,hgt,hz4⟩
     ·rcases hh with hh|hh|hh
      ·exact hc hh
      ·omega
      ·have:=(hR q hh).2.1;omega
     ·have h9:=(hOr q hq).1
      rcases hh with hh|hh|hh
      ·have:=hin hh;omega
      ·omega
      ·exact (hR q hh).1 hq
     ·exact hs.turnedX (N:=w.heap.size+2) (hb4.sub fun q hq=>hq.imp (zDC (hBf k).symm) id) (fun q hq hh=>by
       rcases hh with hh|hh|hh
       ·exact .inl hh
       ·exact .inr hh
       ·have:=(hR q hh).2.1;omega) oN hKU hl rfl oN (fun Ds hm=>⟨hDl hl ⟨_,rfl⟩ Ds hm,fun D hD=>by have:=hDs Ds hm D hD;omega⟩) (hB'.trans (hBf k).symm) (wL hk4 B' (fun x hx=>by rw [<-hW4];exact pG (hbx3 x hx)) h3.bx)
    cases e with
    | normal=>
     obtain ⟨h3,R',hR1,hR2,hx3⟩:=hp3
     obtain ⟨W4,hr,hl4,hd4,hrn,hs4,hz4,hkc,hgt,hz43⟩:=fin none _ h3 (hBf _)
     refine ⟨_,W4,hr, .inl ⟨rfl,hs4,hl4,hd4,hz4,R',fun q hq=> ?_,hX _ _ _ _ hkc hx3⟩,hrn⟩
     obtain ⟨r1,cs,t,z,r2,r3⟩:=hR2 q hq
     have hq2:w.heap.size+2<=q:=by
      rcases hR1 q hq with e|e
      ·exact (hR q e).2.1
      ·omega
     refine ⟨fun ho=> ?_,hq2,by omega,cs,t,z,(hgt q oN).trans r2,r3⟩
     rcases hR1 q hq with e|e
     ·exact (hR q e).1 ho
     ·have:=(hOr q ho).2;omega
    |ret=>
     obtain ⟨hc,h3,hx3⟩:=hp3
     obtain ⟨W4,hr,hl4,hd4,hrn,hs4,hz4,hkc,hgt,hz43⟩:=fin (some .ret) _ h3 hBz
     exact ⟨_,W4,hr, .inr ⟨rfl,hs4,by rw [hc];exact hl4,hd4,hz4,hXZ _ _ hkc hx3⟩,hrn⟩
    |exit id=>
     obtain ⟨hc,h3,hx3⟩:=hp3
     obtain ⟨W4,hr,hl4,hd4,hrn,hs4,hz4,hkc,hgt,hz43⟩:=fin (some (.exit id)) _ h3 hBz
     exact ⟨_,W4,hr, .inr ⟨rfl,hs4,by rw [hc];exact hl4,hd4,hz4,hXZ _ _ hkc hx3⟩,hrn⟩
    |goto t=>
     obtain ⟨hc,h3,hx3⟩:=hp3
     obtain ⟨W4,hr,hl4,hd4,hrn,hs4,hz4,hkc,hgt,hz43⟩:=fin (some (.goto t)) _ h3 hBz
     exact ⟨_,W4,hr, .inr ⟨rfl,hs4,by rw [hc];exact hl4,hd4,hz4,hXZ _ _ hkc hx3⟩,hrn⟩
    |panic ch=>exact hp3.elim
    |outgrown=>exact hp3.elim
   |_=>exact hp.elim
  ·have hend: ∀{W2:Wb} {B':List Bx} {pe:Wf Code} {st:LoopState},StS S w0 K B' n ds a W2->W2.heap[w.heap.size+1]?=some (.loop (rec st pe))->W2.heap[w.heap.size]?=some (.deferred (some []))-> ∀o':Obj,StS S w0 K B' n (mark w.heap.size::ds) { a with defers:=mark w.heap.size::a.defers } (W2.putObj (w.heap.size+1) o'):=fun {W2 B' pe st} hs hl hd o'=>by
    have h1:=hs.put (o':=o') hl rfl (hDl hl ⟨_,rfl⟩) (.inr oN)
    exact h1.more hw0 ((pG oN).trans hd) (fun Ds hm hh=>absurd (hDs Ds hm _ hh) (Nat.lt_irrefl _))
   rintro e W2 ⟨⟨v,rfl⟩,(⟨O,hs,hl,hd,_,R,_,hx5⟩|⟨hs,hl,hd,_,hx5⟩)⟩
   ·exact ⟨none,_,by have:=sO (P:=P) hl (by rw [hrec];simp);rw [hrec] at this;exact this,done _ _ R (hX _ _ _ _ (zA2 hl rfl) hx5) (hend hs hl hd _)⟩
   ·exact ⟨some cz,_,by have:=sO (P:=P) hl (by rw [hrec];simp);rw [hrec] at this;exact this,stop _ _ (hXZ _ _ (zA2 hl rfl) hx5) (hend hs hl hd _)⟩
theorem StS.is1 {t:Nat} {e:We} {C:CU} {b:Nat} {r:Bool} {v:Wc} (h:StS S w0 K [⟨t,e,C,b,r⟩] n ds a w) (hv:w.heap[b]?=some (.cells #[v] e (0,0))):StS S w0 K [⟨t,e,wB [v],b,r⟩] n ds a w:=by
 refine ⟨h.gr,h.size,h.nd,h.sl, ?_,h.mks,h.so⟩
 obtain ⟨⟨cs,h1,h2,h3,h4,h5,h6⟩,h7⟩:=h.bx
 rw [show w.heap[b]?=_ from hv] at h3
 injection h3 with h3
 injection h3 with h3
 have e1:cs= [v]:=by simpa using rB Array.toList h3.symm
 exact ⟨⟨cs,h1,h2,hv.trans (by rw [e1]),e1,h5,h6⟩,h7⟩
theorem zNS {m:Nat} {F:Fence} {w1:Wb} {ops:Array Oper} {k d:Nat} {x y:Wg} {t ty:We} {pos:String} {aft:Array Edge} {e:We} {z base:Nat} {v:Wc} {Cs:List CU} (Ds:List CU) (h:StS S w1 K B n [] a w) (hbw:base<=w.heap.size) (hr:zAs w base e z v Cs) (hown: ∀g,v.ownBlock=some g->S g∨w1.heap.size<=g)
  (ho:ops[k]?=some ⟨some d, .call ⟨.builtin .append,#[x,y],#[t,t]⟩,ty,pos,aft,none⟩) (happ:zDH P t=some (e,z,true)) (hf:zAc K B n d=true) (hu:(K.all fun q=>zHG q.2)=true)
  (hx:a.eval x=v) (hy:(SF.row z Ds).p (a.eval y) w) (hD: ∀C,C∈Ds->CU.ok z C) (hsz:Cs.length+Ds.length<=140000000000) (hB: ∀q,q∈B->v.ownBlock≠some q.b)
  (fin: ∀v' a' w',w.heap.size<=w'.heap.size->zAs w' base e z v' (Cs++Ds)->(v'.ownBlock=v.ownBlock∨v'.ownBlock=some w.heap.size)->(∀q,q∈B->v'.ownBlock≠some q.b)->StS S w1 ((d, .u (UF.eq v'))::K) B n [] a' w'->zA8 F m P ops Q (k+1) a' w'):zA8 F m P ops Q k a w:=by
 obtain ⟨v',w',hrun,g1,g2,g3⟩:=zFA (P:=P) (ty:=ty) happ hr hy hD hsz hbw
 have hrun2:(execOp a.eval ⟨some d, .call ⟨.builtin .append,#[x,y],#[t,t]⟩,ty,pos,aft,none⟩).run P w= .ok (.value v') w':=by
  simp only [execOp,resolve,invoke,builtin,rC,rN,rW,sG,pX,rQ,hx,hrun]
 refine j5 ho rfl ⟨fun f hf=>(by
  unfold Oper.about at hf
  simp [resolve,go_sem] at hf), ?_⟩
 rw [pR _ _ _ (fun _ e=>by cases e),hrun2]
 have hk:yO w w':=hr.keepU g2
 have s1:StS S w1 K B n [] a w':=by
  refine ⟨?_,h.size,h.nd,fun q hq=> ?_, ?_,⟨[],Marks.nil _ _⟩, .inl (yN hu)⟩
  ·cases hv:v.ownBlock with
   |none=>
    refine ⟨g2.os.trans h.gr.os,g2.tape.trans h.gr.tape,g2.output.trans h.gr.output,pL h.gr.size g2.size,fun k hk1 hk2=> ?_⟩
    exact (g2.block k (pT hk1 h.gr.size) (by rw [hv];simp)).trans (h.gr.block k hk1 hk2)
   |some g=>exact h.gr.grown (by rw [hv] at g2;exact g2) ((hown g hv).symm)
  ·obtain ⟨f,ef⟩:=yN hu q hq
   have h1:=h.sl q hq
   rw [ef] at h1 ⊢
   exact f.us _ _ _ h1 hk
  ·refine wL hk B (fun q hq=> ?_) h.bx
   obtain ⟨_,_,hc,h3,_⟩:=h.bx.mem q hq
   exact g2.block _ (pF.1 h3).1 fun e=>hB q hq e.symm
 refine fin v' _ w' g2.size g1 g3 (fun q hq e=> ?_) (s1.set hf (pM _ _) rfl)
 rcases g3 with g3|g3
 ·exact hB q hq (g3.symm.trans e)
 ·obtain ⟨_,_,_,h3,_⟩:=h.bx.mem q hq
  have h5:=(pF.1 h3).1
  have h6:=g3.symm.trans e
  injection h6 with h6
  omega
theorem StS.yieldedO (h:StS S w0 K B n [] a w) {N:Nat} {C O:Nat->Prop} {w':Wb} (hr:RndO N C O w w') (hu: ∀q,q∈K-> ∃f,q.2= .u f) (hC: ∀x,x∈B->x.b<N/\ ¬C x.b):StS (inB B) w' K B n [] a w':=by
 refine ⟨BlS.refl _ _,h.size,h.nd,fun q hq=> ?_,wL hr.keep B (fun x hx=>hr.low _ (hC x hx).1 (hC x hx).2) (wO (a:=a) B (fun x hx=> ?_) (fun _ _=>rfl) h.bx),⟨[],Marks.nil _ _⟩, .inl hu⟩
 ·obtain ⟨f,e⟩:=hu q hq
  have:=h.sl q hq
  rw [e] at this ⊢
  exact f.us _ _ _ this hr.keep
 ·cases hrr:x.r with
  |true=>exact .inl rfl
  |false=>exact .inr (.inr ⟨x,hx,rfl,hrr⟩)
theorem zFr {ops:Array Oper} {k d l:Nat} {y:Wg} {xs:Array Wg} {ats:Array We} {ty:We} {pos:String} {aft:Array Edge} {Jn Z:Wb->Prop} {N:Nat} {C O:Nat->Prop} (ho:ops[k]?=some ⟨some d, .call ⟨.value y,xs,ats⟩,ty,pos,aft,none⟩)
  (h:StS S w0 K B n [] a w) (hy: ∀v W,(Wd.fct (jM K B) y).p v W->v= .func (.yield l) #[] #[]) (hf:zAc K B n d=true) (hu: ∀q,q∈K-> ∃f,q.2= .u f) (hC: ∀x,x∈B->x.b<N/\ ¬C x.b)
  (Y:YieldAt Fence.wide 0 P l (xs.map a.eval) w fun e W'=>((e= .returned (.bool true)/\Jn W')∨(e= .returned (.bool false)/\Z W'))/\RndO N C O w W')
  (fin: ∀a' w' bv,RndO N C O w w'->((bv=true/\Jn w')∨(bv=false/\Z w'))->StS (inB B) w' ((d, .u (uB bv))::K) B n [] a' w'->zA8 Fence.wide 0 P ops Q (k+1) a' w'):zA8 Fence.wide 0 P ops Q k a w:=by
 have hyv:a.eval y= .func (.yield l) #[] #[]:=hy _ _ (h.fct y)
 obtain ⟨fn,tmps,assign,body,hrun,hR⟩:=Y
 refine j5 ho rfl ⟨fun g _=>trivial, ?_⟩
 rw [pR _ _ _ (fun _ e=>by cases e),zGU hyv,hrun]
 rw [Oper.uponIn_round]
 refine ⟨fun hh=>absurd hh (by simp [Fence.wide]),RoundIn.mono hR fun e W' he=> ?_⟩
 obtain ⟨he,hr⟩:=he
 have s1:=h.yieldedO hr hu hC
 rcases he with ⟨rfl,hJ⟩|⟨rfl,hZ⟩
 ·exact fin _ _ true hr (.inl ⟨rfl,hJ⟩) (s1.set hf (pM _ _) rfl)
 ·exact fin _ _ false hr (.inr ⟨rfl,hZ⟩) (s1.set hf (pM _ _) rfl)
end
def ItM (P:Wh) (gf:Nat) (lb:Array Wc) (Ef:Nat->List UF) (N:Nat) (C M:Nat->Prop) (w:Wb):Prop:=
 ∀(l:Nat) (J:Nat->(Nat->Prop)->Wb->Prop) (Z:Wb->Prop) (W:Wb),w.heap.size<=W.heap.size->Below w.heap.size w W->yO w W->
  (∀k O O' W1 W2,J k O W1->Below W1.heap.size W1 W2->(∀q,O' q->O q∨W1.heap.size<=q)->J k O' W2)->(∀W1 W2,Z W1->Below W1.heap.size W1 W2->Z W2)->
  (∀k O W1,J k O W1-> ∀q,M q->W1.heap[q]?=w.heap[q]?)->
  (∀k O W1 xs,k<N->J k O W1->(∀q,O q->W.heap.size<=q/\q<W1.heap.size)->Ev Ef k xs W1->YieldAt Fence.wide 0 P l xs W1 fun e W'=>((e= .returned (.bool true)/\J (k+1) O W')∨(e= .returned (.bool false)/\Z W'))/\RndO w.heap.size (fun q=>C q∨M q) O W1 W')->
  J 0 (fun _=>False) W->Calls P gf (#[.func (.yield l) #[] #[]]++lb) W fun e W'=>(∃v,e= .returned v)/\((∃O,J N O W')∨Z W')
section
variable {S:Nat->Prop} {P:Wh} {Q:Exit->Act->Wb->Prop} {w0:Wb} {K:List (Nat×KF)} {B:List Bx} {n:Nat} {ds:List Deferred} {a:Act} {w:Wb}
theorem StS.turnedM (h:StS S w0 K B n ds a w) {B':List Bx} {S' S2:Nat->Prop} {w1 w':Wb} {a1:Act} {l N:Nat} {o:Obj} (hb:BlS S2 w w') {M:Nat->Prop} (h2: ∀q,q<N->S2 q->inB B q∨q=l∨M q) (hM0: ∀q,M q->w0.heap.size<=q/\ ∃(cs:Array Wc) (t:We) (z:Nat×Nat),w.heap[q]?=some (.cells cs t z)) (hN:w0.heap.size<=N) (hU:yO w w') (ho:w.heap[l]?=some o) (hc:o.isCells=false) (hl:w0.heap.size<=l)
  (hD: ∀Ds,Marks w0.heap.size w ds Ds->l ∉ Ds/\ ∀D,D∈Ds->D<N) (hk:B'.map zDO=B.map zDO) (hx:yH S' w1 a1 w' B'):StS S w0 K B' n ds a w':=by
 have hin: ∀k,k<w0.heap.size-> ¬S k-> ¬S2 k:=fun k hk hs hh=>by
  rcases h2 k oN hh with ⟨x,hx,h1,h2⟩|hh|hh
  ·obtain ⟨_,_,hc,_⟩:=h.bx.mem x hx
   rcases hc with hc|hc|hc
   ·rw [h2] at hc;cases hc
   ·omega
   ·exact hs (h1▸hc)
  ·omega
  ·have:=(hM0 k hh).1;omega
 refine ⟨⟨hb.os.trans h.gr.os,hb.tape.trans h.gr.tape,hb.output.trans h.gr.output,pL h.gr.size hb.size,fun k hk hs=>(hb.block k (pT hk h.gr.size) (hin k hk hs)).trans (h.gr.block k hk hs)⟩,
  h.size,h.nd,fun q hq=>KF.us (h.sl q hq) hU,wY B B' hk h.bx hx, ?_,h.so⟩
 obtain ⟨Ds,hm⟩:=h.mks
 refine ⟨Ds,hm.eq,hm.nodup,fun D hd=>⟨(hm.at_ D hd).1,(hb.block D (hm.lt D hd) fun hh=> ?_).trans (hm.at_ D hd).2⟩⟩
 rcases h2 D ((hD Ds hm).2 D hd) hh with ⟨x,hx,h1,_⟩|hh|hh
 ·obtain ⟨cs,_,_,h3,_⟩:=h.bx.mem x hx
  rw [h1,(hm.at_ D hd).2] at h3
  cases h3
 ·subst hh
  exact (hD Ds hm).1 hd
 ·obtain ⟨cs,t,z,h3⟩:=(hM0 D hh).2
  rw [(hm.at_ D hd).2] at h3
  cases h3
theorem zGj {g:Wg} {ps:Array Tmp} {assign body:Code} {gf:Nat} {lb:Array Wc} {Ef:Nat->List UF} {N:Nat}
  (Bf:Nat->List Bx) (Bz:List Bx) (cz:Code) (Kr:Nat->List (Nat×KF)) (h:StS S w0 K (Bf 0) n ds a w)
  (hg: ∀v W,(Wd.fct (jM K (Bf 0)) g).p v W->v= .func (.func gf) #[] lb) (eg: ∀args w,(callFunc gf args).run P w= .ok (.enter gf args) w)
  {M:Nat->Prop} (hM: ∀q,M q->w0.heap.size<=q/\q<w.heap.size/\ ∃(cs:Array Wc) (t:We) (z:Nat×Nat),w.heap[q]?=some (.cells cs t z)/\cs.toList.all zV=true) (hit:ItM P gf lb Ef N (inB (Bf 0)) M w) {X:Nat->(Nat->Prop)->Wb->Prop} {XZ:Wb->Prop} (hX: ∀k R W W',zCB W W'->X k R W->X k R W') (hXZ: ∀W W',zCB W W'->XZ W->XZ W') (hx0:X 0 (fun _=>False) w) (hEl: ∀k,(Ef k).length=ps.size)
  (hKr: ∀k q,q∈Kr k->(q∈K/\zHG q.2=true/\ps.toList.contains q.1=false)∨ ∃(j:Nat) (f:UF),ps[j]?=some q.1/\(Ef k)[j]?=some f/\q.2= .u f)
  (hps:zAm ps.toList=true) (hpl:(ps.toList.all fun p=>Nat.blt p n)=true) (hpB:((Bf 0).all fun x=> !ps.toList.contains x.t)=true)
  (hBf: ∀k,(Bf k).map zDO=(Bf 0).map zDO) (hBz:Bz.map zDO=(Bf 0).map zDO)
  (rounds: ∀l k R xs W,k<N->X k R W->(∀q,M q->W.heap[q]?=w.heap[q]?)->(∀q,R q->w.heap.size+2<=q/\q<W.heap.size)->w.heap.size+2<=W.heap.size->StS S w0 K (Bf k) n ds a W->StS (fun q=>inB (Bf 0) q∨W.heap.size<=q∨R q∨M q) W (Kr k) (Bf k) n [] { tmps:=(ps.zip xs).foldl (fun t (p,v)=>t.setIfInBounds p v) a.tmps,defers:= [] } W->
   assign.wpIn (Fence.wide.inRound l) 0 P (Exit.then (fun a1 W1=>BlS (fun q=>inB (Bf 0) q∨W.heap.size<=q∨R q∨M q) W W1/\ ∀W2,zCB W1 W2->(∀p,W2.cell? p=W1.cell? p)->(∀K B,StS (fun q=>inB (Bf 0) q∨W.heap.size<=q∨R q∨M q) W K B n [] a1 W1->StS (fun q=>inB (Bf 0) q∨W.heap.size<=q∨R q∨M q) W2 K B n [] a1 W2)->
    body.wpIn (Fence.wide.inRound l) 0 P (zTz (fun a2 W3=>StS (fun q=>inB (Bf 0) q∨W.heap.size<=q∨R q∨M q) W2 [] (Bf (k+1)) n [] a2 W3/\ ∃R',(∀q,R' q->R q∨W.heap.size<=q)/\(∀q,R' q->q<W3.heap.size/\ ∃(cs:Array Wc) (t:We) (z:Nat×Nat),W3.heap[q]?=some (.cells cs t z)/\cs.toList.all zV=true)/\X (k+1) R' W3/\ ∀q,M q->W3.heap[q]?=w.heap[q]?) cz (fun a2 W3=>StS (fun q=>inB (Bf 0) q∨W.heap.size<=q∨R q∨M q) W2 [] Bz n [] a2 W3/\XZ W3)) a1 W2) (fun _ _ _=>False))
    { tmps:=(ps.zip xs).foldl (fun t (p,v)=>t.setIfInBounds p v) a.tmps,defers:= [] } W)
  (done: ∀D W R,X N R W->StS S w0 K (Bf N) n (mark D::ds) { a with defers:=mark D::a.defers } W->Q .normal { a with defers:=mark D::a.defers } W)
  (stop: ∀D W,XZ W->StS S w0 K Bz n (mark D::ds) { a with defers:=mark D::a.defers } W->cz.wpIn Fence.wide 0 P Q { a with defers:=mark D::a.defers } W):
  (Code.rangeFunc g ps assign body).wpIn Fence.wide 0 P Q a w:=by
 refine wpIn_rangeFunc ?_
 intro fn hfn
 show ∃l mark w₁ d w₁' f args w₂,(Instr.enterLoop fn a.tmps ps assign body none).run P w=_/\_
 obtain ⟨rec,hrec⟩: ∃rec:LoopState->Wf Code->Loop,rec=fun st pe=>{ state:=st,pending:=pe,fn,tmps:=a.tmps,params:=ps,assign,body,defers:=w.heap.size }:=⟨_,rfl⟩
 obtain ⟨W1,hW1⟩: ∃W1,(w.alloc (.deferred (some []))).alloc (.loop (rec .ready none))=W1:=⟨_,rfl⟩
 have hL1:W1.heap[w.heap.size+1]?=some (.loop (rec .ready none)):=by
  rw [<-hW1];have:=sJ (w.alloc (.deferred (some []))) (.loop (rec .ready none));rwa [World.size_alloc] at this
 have hK1:W1.heap[w.heap.size]?=some (.deferred (some [])):=by
  rw [<-hW1];exact (Below.heap_alloc _ _ _ fL).trans (sJ w _)
 have hb1:Below w.heap.size w W1:=by
  rw [<-hW1];exact ((pM _ w).alloc lr _).alloc fL _
 have hz1:W1.heap.size=w.heap.size+2:=by rw [<-hW1];simp
 have hgv:a.eval g= .func (.func gf) #[] lb:=hg _ _ (h.fct g)
 have hold:=h.old
 have hw0:=h.gr.size
 have hi1:Itr w.heap.size w W1:=⟨hb1.os,hb1.tape,hb1.output,hb1.size,fun k hk=>hb1.block k hk,fun k o ho _=>(hb1.block k (pF.1 ho).1).trans ho,zL hb1⟩
 have hs1:=h.itr hi1 hw0 hold
 have hbk: ∀{k:Nat} {x:Bx},x∈Bf k->x.b<w.heap.size:=fun {k x} hx=>by
  obtain ⟨y,hy,_,e,_⟩:=zDF (hBf k) hx
  rw [<-e]
  exact hold y hy
 have hbz: ∀{x:Bx},x∈Bz->x.b<w.heap.size:=fun {x} hx=>by
  obtain ⟨y,hy,_,e,_⟩:=zDF hBz hx
  rw [<-e]
  exact hold y hy
 have hin: ∀{q:Nat},inB (Bf 0) q->q<w.heap.size:=fun {q} ⟨x,hx,e,_⟩=>by rw [<-e];exact hold x hx
 have hinz: ∀(k:Nat) {q:Nat},inB (Bf k) q->inB (Bf 0) q:=fun k _ hq=>zDC (hBf k) hq
 have hDl: ∀{W:Wb} {o:Obj},W.heap[w.heap.size+1]?=some o->(∃r,o= .loop r)-> ∀Ds,Marks w0.heap.size W ds Ds->w.heap.size+1 ∉ Ds:=fun {W o} ho hr Ds hm hh=>by
  obtain ⟨r,rfl⟩:=hr
  rw [(hm.at_ _ hh).2] at ho
  cases ho
 have hDs: ∀{W:Wb} Ds,Marks w0.heap.size W ds Ds-> ∀D,D∈Ds->D<w.heap.size:=fun {W} Ds hm D hd=>by
  obtain ⟨Ds',hm'⟩:=h.mks
  have:Ds=Ds':=by
   have e:=hm.eq.symm.trans hm'.eq
   exact zEB e
  subst this
  exact hm'.lt D hd
 refine ⟨w.heap.size+1, [{ target:= .collected w.heap.size,args:=#[] }],W1,{ target:= .fn (.func gf) lb,args:=#[.func (.yield (w.heap.size+1)) #[] #[]] },W1,gf,
  #[.func (.yield (w.heap.size+1)) #[] #[]]++lb,W1, ?_, ?_, ?_, ?_,fun h=>absurd h (by simp [Fence.wide]), ?_⟩
 ·rw [<-hW1,hrec];exact run_enterLoop_outer _ _ _ _ _
 ·simp only [resolve,hgv]
  simp [go_sem]
 ·intro f' _;trivial
 ·simp [invoke,go_sem,eg]
 ·refine callsIn_wide.2 ((hit (w.heap.size+1)
   (fun k O W=>StS S w0 K (Bf k) n ds a W/\W.heap[w.heap.size+1]?=some (.loop (rec .ready none))/\W.heap[w.heap.size]?=some (.deferred (some []))/\w.heap.size+2<=W.heap.size/\ ∃R,(∀q,R q-> ¬O q/\w.heap.size+2<=q/\q<W.heap.size/\ ∃(cs:Array Wc) (t:We) (z:Nat×Nat),W.heap[q]?=some (.cells cs t z)/\cs.toList.all zV=true)/\X k R W/\ ∀q,M q->W.heap[q]?=w.heap[q]?)
   (fun W=>StS S w0 K Bz n ds a W/\W.heap[w.heap.size+1]?=some (.loop (rec .done (some cz)))/\W.heap[w.heap.size]?=some (.deferred (some []))/\w.heap.size+2<=W.heap.size/\XZ W)
   W1 oN hb1 (zL hb1)
   (fun k O O' A B ⟨h1,h3,h4,h5,R,hR,h6,h7⟩ hi hO=>⟨h1.itr (qA hi h5) oN (fun x hx=>by have:=hbk hx;omega),(qA hi h5).oth _ _ h3 rfl,(qA hi h5).oth _ _ h4 rfl,pL h5 hi.size,R,fun q hq=>by
    obtain ⟨r1,r2,r3,cs,t,z,r4,r5⟩:=hR q hq
    refine ⟨fun ho=> ?_,r2,pT r3 hi.size,cs,t,z,(hi.block q r3).trans r4,r5⟩
    rcases hO q ho with e|e
    ·exact r1 e
    ·omega,hX _ _ _ _ (jJ hi) h6,fun q hq=>(hi.block q (by have:=(hM q hq).2.1;omega)).trans (h7 q hq)⟩)
   (fun A B ⟨h1,h3,h4,h5,h6⟩ hi=>⟨h1.itr (qA hi h5) oN (fun x hx=>by have:=hbz hx;omega),(qA hi h5).oth _ _ h3 rfl,(qA hi h5).oth _ _ h4 rfl,pL h5 hi.size,hXZ _ _ (jJ hi) h6⟩)
   (fun k O W1 hJ=>by obtain ⟨_,_,_,_,_,_,_,h7⟩:=hJ;exact h7)
   ?_ ⟨hs1,hL1,hK1,by omega,fun _=>False,fun q hq=>hq.elim,hX _ _ _ _ (jJ hb1) hx0,fun q hq=>hb1.block q (hM q hq).2.1⟩).mono ?_)
  ·rintro k O W xs hk ⟨hs,hl,hd,hsz5,R,hR,hxk,hmk⟩ hOr ⟨hxs,hev⟩
   have hlt:w.heap.size+1<W.heap.size:=(pF.1 hl).1
   have hy:=run_yield (P:=P) (args:=xs) hl (by rw [hrec];exact hxs.trans (hEl k))
   rw [hrec] at hy
   have hxs':xs.size=ps.size:=hxs.trans (hEl k)
   have hzip:(ps.zip xs).foldl (fun t (p,v)=>t.setIfInBounds p v) a.tmps=(ps.toList.zip xs.toList).foldl (fun t (p,v)=>t.setIfInBounds p v) a.tmps:=by
    rw [<-Array.foldl_toList,Array.toList_zip]
   have hzf:(ps.toList.zip xs.toList).map (·.1)=ps.toList:=by
    rw [List.map_fst_zip]
    simp [hxs']
   have hnd:ps.toList.Nodup:=yQ hps
   have hs0:StS (fun q=>inB (Bf 0) q∨W.heap.size<=q∨R q∨M q) W (Kr k) (Bf k) n [] { tmps:=(ps.zip xs).foldl (fun t (p,v)=>t.setIfInBounds p v) a.tmps,defers:= [] } W:=by
    refine ⟨BlS.refl _ _, ?_,rfl,fun q hq=> ?_, ?_,⟨[],Marks.nil _ _⟩, .inl fun q hq=> ?_⟩
    ·show ((ps.zip xs).foldl (fun t (p,v)=>t.setIfInBounds p v) a.tmps).size=n
     rw [hzip,zCD]
     exact h.size
    ·show q.2.p W (((ps.zip xs).foldl (fun t (p,v)=>t.setIfInBounds p v) a.tmps).getD q.1 undef) W
     rw [hzip]
     rcases hKr k q hq with ⟨h1,h2,h3⟩|⟨j,f,h1,h2,h3⟩
     ·rw [zAy q.1 _ _ (by rw [hzf];intro hc;rw [pP.2 hc] at h3;cases h3)]
      have:=hs.sl q h1
      cases hq2:q.2 with
      |u f=>rw [hq2] at this;exact this
      |o f=>rw [hq2] at h2;cases h2
     ·have hj:j<ps.size:=(pF.1 h1).1
      have hjx:j<xs.size:=by omega
      have e1:=hev j f h2
      have e2:xs.getD j undef=xs[j]:=by rw [pN,pW hjx];rfl
      have e3:ps[j]=q.1:=(pF.1 h1).2
      rw [zD8 _ _ q.1 xs[j] (by rw [hzf];exact hnd) (by
       refine List.mem_iff_getElem?.2 ⟨j, ?_⟩
       rw [tM]
       exact ⟨by rw [sK];exact h1,by rw [sK,pW hjx]⟩) (by
       have:=pE.1 hpl q.1 (by rw [<-e3];exact Array.mem_toList_iff.2 (sC hj))
       rw [h.size]
       simpa using this)]
      rw [h3]
      rw [e2] at e1
      exact e1
    ·refine wO (Bf k) (fun x hx=> ?_) (fun x hx=> ?_) hs.bx
     ·cases hr:x.r with
      |true=>exact .inl rfl
      |false=>exact .inr (.inr (.inl (hinz k ⟨x,hx,rfl,hr⟩)))
     ·show ((ps.zip xs).foldl (fun t (p,v)=>t.setIfInBounds p v) a.tmps).getD x.t undef=_
      rw [hzip]
      obtain ⟨y,hy,e,_⟩:=zDF (hBf k) hx
      refine zAy _ _ _ ?_
      rw [hzf, <-e]
      intro hc
      have:=pE.1 hpB y hy
      rw [pP.2 hc] at this
      cases this
    ·rcases hKr k q hq with ⟨h1,h2,h3⟩|⟨j,f,h1,h2,h3⟩
     ·cases hq2:q.2 with
      |u f=>exact ⟨f,rfl⟩
      |o f=>rw [hq2] at h2;cases h2
     ·exact ⟨f,h3⟩
   have hnl: ¬(inB (Bf 0) (w.heap.size+1)∨W.heap.size<=w.heap.size+1∨R (w.heap.size+1)∨M (w.heap.size+1)):=fun hh=>by
    rcases hh with hh|hh|hh|hh
    ·have:=hin hh;omega
    ·omega
    ·have:=(hR _ hh).2.1;omega
    ·have:=(hM _ hh).2.1;omega
   have hnd2: ¬(inB (Bf 0) w.heap.size∨W.heap.size<=w.heap.size∨R w.heap.size∨M w.heap.size):=fun hh=>by
    rcases hh with hh|hh|hh|hh
    ·have:=hin hh;omega
    ·omega
    ·have:=(hR _ hh).2.1;omega
    ·have:=(hM _ hh).2.1;omega
   refine ⟨fn,_,assign,body,hy,roundIn_of_wpIn hfn (rL ?_ (rounds (w.heap.size+1) k R xs W hk hxk hmk (fun q hq=>⟨(hR q hq).2.1,(hR q hq).2.2.1⟩) hsz5 hs hs0))⟩
   intro e a1 Wa hp
   cases e with
   | normal=>
    obtain ⟨hgr,hcont⟩:=hp
    have hla:Wa.heap[w.heap.size+1]?=some (.loop (rec .ready none)):=(hgr.block _ hlt hnl).trans hl
    have hda:Wa.heap[w.heap.size]?=some (.deferred (some [])):=(hgr.block _ oN hnd2).trans hd
    have hlta:w.heap.size+1<Wa.heap.size:=(pF.1 hla).1
    refine ⟨_,run_beginRound hla (by rw [hrec]), ?_⟩
    obtain ⟨W2,hW2⟩: ∃W2,Wa.putObj (w.heap.size+1) (.loop { rec .ready none with state:= .busy })=W2:=⟨_,rfl⟩
    rw [hW2]
    have hl2:W2.heap[w.heap.size+1]?=some (.loop { rec .ready none with state:= .busy }):=by rw [<-hW2];exact sL hlta
    have hd2:W2.heap[w.heap.size]?=some (.deferred (some [])):=by rw [<-hW2];exact (pG oN).trans hda
    have hz2:W2.heap.size=Wa.heap.size:=by rw [<-hW2,rM]
    have hk2:yO Wa W2:=fun q u hq=>by
     by_cases e:q.block=w.heap.size+1
     ·rw [jE hla rfl e] at hq
      cases hq
     ·rw [<-hW2]
      exact (pU (pG e)).trans hq
    have hcell: ∀p,W2.cell? p=Wa.cell? p:=fun p=>by
     by_cases e:p.block=w.heap.size+1
     ·rw [jE hla rfl e,jE hl2 rfl e]
     ·rw [<-hW2]
      exact pU (pG e)
    have hbody:=hcont W2 (by rw [<-hW2];exact zA2 hla rfl) hcell (fun K' B' hs'=>hs'.rebase hk2 (fun _ hq=> .inr (.inl hq)) (fun x hx=>by
     obtain ⟨cs,_,_,h3,_⟩:=hs'.bx.mem x hx
     rw [<-hW2]
     refine pG fun e=> ?_
     rw [e,hla] at h3
     cases h3))
    refine rL ?_ hbody
    intro e a3 W3 hp3
    have fin: ∀(jump:Wf Code) (B':List Bx),StS (fun q=>inB (Bf 0) q∨W.heap.size<=q∨R q∨M q) W2 [] B' n [] a3 W3->B'.map zDO=(Bf 0).map zDO-> ∃W4,(Instr.endRound (w.heap.size+1) jump).run P W3= .ok (.bool jump.isNone) W4/\W4.heap[w.heap.size+1]?=some (.loop (rec (if jump.isNone then .ready else .done) jump))/\W4.heap[w.heap.size]?=some (.deferred (some []))/\RndO w.heap.size (fun q=>inB (Bf 0) q∨M q) O W W4/\StS S w0 K B' n ds a W4/\w.heap.size+2<=W4.heap.size/\zCB W3 W4/\(∀q,q≠w.heap.size+1->W4.heap[q]?=W3.heap[q]?)/\W4.heap.size=W3.heap.size:=by
     intro jump B' h3 hB'
     have hl3:W3.heap[w.heap.size+1]?=some (.loop { rec .ready none with state:= .busy }):=(h3.gr.block _ oN hnl).trans hl2
     have hd3:W3.heap[w.heap.size]?=some (.deferred (some [])):=(h3.gr.block _ oN hnd2).trans hd2
     have hlt3:w.heap.size+1<W3.heap.size:=(pF.1 hl3).1
     have hrun:=run_endRound (P:=P) jump hl3
     have hbx3: ∀x,x∈B'->x.b≠w.heap.size+1:=fun x hx e=>by
      obtain ⟨cs,_,_,h4,_⟩:=h3.bx.mem x hx
      rw [e,hl3] at h4
      cases h4
     obtain ⟨W4,hW4⟩: ∃W4,W3.putObj (w.heap.size+1) (.loop (rec (if jump.isNone then .ready else .done) jump))=W4:=⟨_,rfl⟩
     have hrun4:(Instr.endRound (w.heap.size+1) jump).run P W3= .ok (.bool jump.isNone) W4:=by rw [hrun, <-hW4,hrec]
     have hz3:=h3.gr.size
     have hz4:W4.heap.size=W3.heap.size:=by rw [<-hW4,rM]
     have hza:=hgr.size
     have hk4:yO W3 W4:=fun q u hq=>by
      by_cases e:q.block=w.heap.size+1
      ·rw [jE hl3 rfl e] at hq
       cases hq
      ·rw [<-hW4]
       exact (pU (pG e)).trans hq
     have hb4:BlS (fun q=>inB (Bf 0) q∨q=w.heap.size+1∨R q∨M q) W W4:=by
      refine ⟨?_, ?_, ?_,by omega,fun q hq hns=> ?_⟩
      ·rw [<-hW4];exact h3.gr.os.trans (by rw [<-hW2];exact hgr.os)
      ·rw [<-hW4];exact h3.gr.tape.trans (by rw [<-hW2];exact hgr.tape)
      ·rw [<-hW4];exact h3.gr.output.trans (by rw [<-hW2];exact hgr.output)
      ·have hne:q≠w.heap.size+1:=fun e=>hns (.inr (.inl e))
       have hni: ¬(inB (Bf 0) q∨W.heap.size<=q∨R q∨M q):=fun hh=>by
        rcases hh with hh|hh|hh
        ·exact hns (.inl hh)
        ·omega
        ·exact hns (.inr (.inr hh))
       rw [<-hW4,pG hne,h3.gr.block q oN hni, <-hW2,pG hne]
       exact hgr.block q hq hni
     have hKU:=zDM (B:=Bf k) (hb4.sub fun q hq=>hq.imp (zDC (hBf k).symm) id) hs.bx hl rfl (fun q hq=>by
      rcases hq with hq|hq
      ·exact (hR q hq).2.2.2
      ·obtain ⟨_,_,cs,t,z,m1,m2⟩:=hM q hq
       exact ⟨cs,t,z,(hmk q hq).trans m1,m2⟩)
     have hgt: ∀q,q≠w.heap.size+1->W4.heap[q]?=W3.heap[q]?:=fun q hq=>by rw [<-hW4];exact pG hq
     refine ⟨W4,hrun4,by rw [<-hW4];exact sL hlt3,by rw [<-hW4];exact (pG oN).trans hd3,⟨hb4.os,hb4.tape,hb4.output,hb4.size,fun q hq hc=>hb4.block q oN fun hh=> ?_,fun q hq=>hb4.block q (hOr q hq).2 fun hh=> ?_,hKU⟩, ?_,by omega,by rw [<-hW4];exact zA2 hl3 rfl,hgt,hz4⟩
     ·rcases hh with hh|hh|hh|hh
      ·exact hc (.inl hh)
      ·omega
      ·have:=(hR q hh).2.1;omega
      ·exact hc (.inr hh)
     ·have h9:=(hOr q hq).1
      rcases hh with hh|hh|hh|hh
      ·have:=hin hh;omega
      ·omega
      ·exact (hR q hh).1 hq
      ·have:=(hM q hh).2.1;omega
     ·exact hs.turnedM (M:=M) (N:=w.heap.size+2) (hb4.sub fun q hq=>hq.imp (zDC (hBf k).symm) id) (fun q hq hh=>by
       rcases hh with hh|hh|hh|hh
       ·exact .inl hh
       ·exact .inr (.inl hh)
       ·have:=(hR q hh).2.1;omega
       ·exact .inr (.inr hh)) (fun q hq=>by
       obtain ⟨m0,_,cs,t,z,m1,_⟩:=hM q hq
       exact ⟨m0,cs,t,z,(hmk q hq).trans m1⟩) oN hKU hl rfl oN (fun Ds hm=>⟨hDl hl ⟨_,rfl⟩ Ds hm,fun D hD=>by have:=hDs Ds hm D hD;omega⟩) (hB'.trans (hBf k).symm) (wL hk4 B' (fun x hx=>by rw [<-hW4];exact pG (hbx3 x hx)) h3.bx)
    cases e with
    | normal=>
     obtain ⟨h3,R',hR1,hR2,hx3,hm3⟩:=hp3
     obtain ⟨W4,hr,hl4,hd4,hrn,hs4,hz4,hkc,hgt,hz43⟩:=fin none _ h3 (hBf _)
     refine ⟨_,W4,hr, .inl ⟨rfl,hs4,hl4,hd4,hz4,R',fun q hq=> ?_,hX _ _ _ _ hkc hx3,fun q hq=>(hgt q (by have:=(hM q hq).2.1;omega)).trans (hm3 q hq)⟩,hrn⟩
     obtain ⟨r1,cs,t,z,r2,r3⟩:=hR2 q hq
     have hq2:w.heap.size+2<=q:=by
      rcases hR1 q hq with e|e
      ·exact (hR q e).2.1
      ·omega
     refine ⟨fun ho=> ?_,hq2,by omega,cs,t,z,(hgt q oN).trans r2,r3⟩
     rcases hR1 q hq with e|e
     ·exact (hR q e).1 ho
     ·have:=(hOr q ho).2;omega
    |ret=>
     obtain ⟨hc,h3,hx3⟩:=hp3
     obtain ⟨W4,hr,hl4,hd4,hrn,hs4,hz4,hkc,hgt,hz43⟩:=fin (some .ret) _ h3 hBz
     exact ⟨_,W4,hr, .inr ⟨rfl,hs4,by rw [hc];exact hl4,hd4,hz4,hXZ _ _ hkc hx3⟩,hrn⟩
    |exit id=>
     obtain ⟨hc,h3,hx3⟩:=hp3
     obtain ⟨W4,hr,hl4,hd4,hrn,hs4,hz4,hkc,hgt,hz43⟩:=fin (some (.exit id)) _ h3 hBz
     exact ⟨_,W4,hr, .inr ⟨rfl,hs4,by rw [hc];exact hl4,hd4,hz4,hXZ _ _ hkc hx3⟩,hrn⟩
    |goto t=>
     obtain ⟨hc,h3,hx3⟩:=hp3
     obtain ⟨W4,hr,hl4,hd4,hrn,hs4,hz4,hkc,hgt,hz43⟩:=fin (some (.goto t)) _ h3 hBz
     exact ⟨_,W4,hr, .inr ⟨rfl,hs4,by rw [hc];exact hl4,hd4,hz4,hXZ _ _ hkc hx3⟩,hrn⟩
    |panic ch=>exact hp3.elim
    |outgrown=>exact hp3.elim
   |_=>exact hp.elim
  ·have hend: ∀{W2:Wb} {B':List Bx} {pe:Wf Code} {st:LoopState},StS S w0 K B' n ds a W2->W2.heap[w.heap.size+1]?=some (.loop (rec st pe))->W2.heap[w.heap.size]?=some (.deferred (some []))-> ∀o':Obj,StS S w0 K B' n (mark w.heap.size::ds) { a with defers:=mark w.heap.size::a.defers } (W2.putObj (w.heap.size+1) o'):=fun {W2 B' pe st} hs hl hd o'=>by
    have h1:=hs.put (o':=o') hl rfl (hDl hl ⟨_,rfl⟩) (.inr oN)
    exact h1.more hw0 ((pG oN).trans hd) (fun Ds hm hh=>absurd (hDs Ds hm _ hh) (Nat.lt_irrefl _))
   rintro e W2 ⟨⟨v,rfl⟩,(⟨O,hs,hl,hd,_,R,_,hx5,_⟩|⟨hs,hl,hd,_,hx5⟩)⟩
   ·exact ⟨none,_,by have:=sO (P:=P) hl (by rw [hrec];simp);rw [hrec] at this;exact this,done _ _ R (hX _ _ _ _ (zA2 hl rfl) hx5) (hend hs hl hd _)⟩
   ·exact ⟨some cz,_,by have:=sO (P:=P) hl (by rw [hrec];simp);rw [hrec] at this;exact this,stop _ _ (hXZ _ _ (zA2 hl rfl) hx5) (hend hs hl hd _)⟩
end
end Go.Proofs.Wd
