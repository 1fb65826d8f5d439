/- Natural numbers as values, and what prod and the references answer of  and what it needs. -/
import Derived.Test.YtdfhaibojmnmkaaGreatDoorMCX13
import Derived.Test.YtdfhaibojmnmkaaGreatDoorMCX7
import Derived.Test.YtdfhaibojmnmkaaGreatDoorMCX17
import Derived.Test.YtdfhaibojmnmkaaGreatDoorMCX6
import Derived.Test.YtdfhaibojmnmkaaGreatDoorMCX9
import Derived.Test.YtdfhaibojmnmkaaGreatDoorMCX3
import Derived.Test.YtdfhaibojmnmkaaGreatDoorMCX1
theorem kG {P:Prop} (h:P:=by kernel_rfl):P:=h
theorem oN {P:Prop} (h:P:=by omega):P:=h
namespace Go.Proofs.Wd
open Go.RowKit Lb
def LV (W:World) (m:Nat) (v:Value) (x:Nat):Prop:= ∃A n c l,v= .slice A n c/\Rd W A n c l/\Lt l/\n<=m/\val l=x
theorem LV.below {W W':World} {m:Nat} {v:Value} {x:Nat} (h:LV W m v x) (hb:Below W.heap.size W W'):LV W' m v x:=by
 obtain ⟨A,n,c,l,rfl,h1,h2⟩:=h
 exact ⟨A,n,c,l,rfl,h1.below hb,h2⟩
theorem LV.mono {W:World} {m m':Nat} {v:Value} {x:Nat} (h:LV W m v x) (hm:m<=m'):LV W m' v x:=by
 obtain ⟨A,n,c,l,rfl,h1,h2,h3,h4⟩:=h
 exact ⟨A,n,c,l,rfl,h1,h2,by omega,h4⟩
theorem LV.bound {W:World} {m:Nat} {v:Value} {x:Nat} (h:LV W m v x):x<BB^m:=by
 obtain ⟨A,n,c,l,rfl,h1,h2,h3,rfl⟩:=h
 exact Nat.lt_of_lt_of_le (qM h2) (Nat.pow_le_pow_right yY (by rw [h1.len];exact h3))
theorem qI.lv {W:World} {v:Value} {x m:Nat} (h:qI W v x) (hx:x<BB^m):LV W m v x:=by
 obtain ⟨A,n,c,l,rfl,h1,h2⟩:=h
 exact ⟨A,n,c,l,rfl,h2,h1.lt,by rw [<-h2.len];exact h1.len hx,h1.val⟩
def zMS (w:World) (x:Nat):Ending->World->Prop:=fun e w'=> ∃v,e= .returned v/\qI w' v x/\Below w.heap.size w w'
theorem q8.v {w:World} {x:Nat} {e:Ending} {w':World} (h:q8 w x e w'):zMS w x e w':=by
 obtain ⟨A,n,c,l,rfl,h1,h2,h3⟩:=h
 exact ⟨_,rfl,⟨A,n,c,l,rfl,h1,h2⟩,h3⟩
theorem zSc {W:World} {m:Nat} {v v':Value} {a b:Nat} (h:LV W m v a) (h':LV W m v' b) (hm:m<=40000):Calls Tryz.prog 175 #[v,v'] W (zMS W (a*b)):=by
 obtain ⟨A,n,c,l,rfl,h1,h2,h3,rfl⟩:=h
 obtain ⟨A',n',c',l',rfl,h1',h2',h3',rfl⟩:=h'
 exact (zLI A n c l A' n' c' l' W h1 h1' h2 h2' oN oN).mono fun _ _=>q8.v
def zUm (w:World) (x y:Nat):Ending->World->Prop:=fun e w'=> ∃v v',e= .returned (.tuple #[v,v'])/\qI w' v x/\qI w' v' y/\Below w.heap.size w w'
theorem LV.open {W:World} {m:Nat} {v:Value} {x:Nat} (h:LV W m v x): ∃A n c,v= .slice A n c/\n<=m/\n<=c/\c<=9223372036854775807/\LV W m (.slice A n c) x:=by
 obtain ⟨A,n,c,l,rfl,h1,h2,h3,h4⟩:=h
 exact ⟨A,n,c,rfl,h3,h1.le,h1.cap,⟨A,n,c,l,rfl,h1,h2,h3,h4⟩⟩
def zUn (w:World) (a b:Nat):Ending->World->Prop:=fun e w'=> ∃v v',e= .returned (.tuple #[v,v', .int .i64 0])/\qI w' v (a / b)/\qI w' v' (a % b)/\Below w.heap.size w w'
theorem zRG {W:World} {m:Nat} {v v':Value} {a b:Nat} (h:LV W m v a) (h':LV W m v' b) (hm:m<=10000) (h0:0<b):Calls Tryz.prog 115 #[v,v'] W (zUn W a b):=by
 obtain ⟨A,n,c,l,rfl,h1,h2,h3,rfl⟩:=h
 obtain ⟨A',n',c',l',rfl,h1',h2',h3',rfl⟩:=h'
 refine (zNu A n c l A' n' c' l' W h1 h1' h2 h2' oN oN h0).mono ?_
 rintro e w' ⟨A1,n1,c1,l1,A2,n2,c2,l2,rfl,i1,r1,i2,r2,hb⟩
 exact ⟨_,_,rfl,⟨A1,n1,c1,l1,rfl,i1,r1⟩,⟨A2,n2,c2,l2,rfl,i2,r2⟩,hb⟩
theorem zRH {W:World} {m:Nat} {v v':Value} {a b:Nat} (h:LV W m v a) (h':LV W m v' b):Calls Tryz.prog 146 #[v,v'] W fun e w'=>e= .returned (.int .i64 (zAr a b))/\W=w':=by
 obtain ⟨A,n,c,l,rfl,h1,h2,h3,rfl⟩:=h
 obtain ⟨A',n',c',l',rfl,h1',h2',h3',rfl⟩:=h'
 exact zEj A n c l A' n' c' l' W h1 h1' h2 h2'
theorem zQe {W:World} {m:Nat} {A:Option Addr} {n c:Nat} {A':Option Addr} {n' c':Nat} {x y:Nat} (h:LV W m (.slice A n c) x) (h':LV W m (.slice A' n' c') y) (hm:m<=10000) (t:TypeId):
  Calls Tryz.prog 143 #[.slice (some ⟨W.heap.size,0,none⟩) 2 2] (W.alloc (.cells #[.slice A n c, .slice A' n' c'] t)) (zMS (W.alloc (.cells #[.slice A n c, .slice A' n' c'] t)) (x+y)):=by
 obtain ⟨A1,n1,c1,l,e1,h1,h2,h3,rfl⟩:=h
 obtain ⟨A2,n2,c2,l',e2,h1',h2',h3',rfl⟩:=h'
 cases e1
 cases e2
 have:=zEk _ 2 2 _ _ (Rds.two h1 h2 oN h1' h2' oN t) (by decide)
 simp only [List.map_cons,List.map_nil,List.sum_cons,List.sum_nil,Nat.add_zero] at this
 exact this.mono fun _ _=>q8.v
def qU (x:Nat):UF:= .mk' (fun v w=>qI w v x) fun _ _ _ ⟨A,n,c,l,e,h1,h2⟩ k=>⟨A,n,c,l,e,h1,h2.keepU k⟩
def fLV (m x:Nat):UF:= .mk' (fun v w=>LV w m v x) fun _ _ _ ⟨A,n,c,l,e,h1,h2⟩ k=>⟨A,n,c,l,e,h1.keepU k,h2⟩
def fNV (k:Int):UF:= .mk' (fun v w=>NV w v k) fun _ _ _ ⟨A,n,c,l,e,h1,h2⟩ k=>⟨A,n,c,l,e,h1,h2.keepU k⟩
def fUV (m:Nat) (k:Int):UF:= .mk' (fun v w=>UV w m v k) fun _ _ _ ⟨s,A,n,c,l,e,h1,h2⟩ k=>⟨s,A,n,c,l,e,h1.keepU k,h2⟩
def fB (b:Bool):UF:= .eq (.bool b)
def fI (z:Int):UF:= .eq (.int .i64 z)
theorem zEr {F:Fence} {m:Nat} {P:Program} {w0:World} {ops:Array Oper} {G:Nat->SF} {o:Oper} {l:List Oper} (h:qK F m P w0 ops G o) (k:Obs F m P w0 ops G l):Obs F m P w0 ops G (o::l):=⟨h,k⟩
theorem oc {F:Fence} {m:Nat} {P:Program} {w0:World} {ops:Array Oper} {G:Nat->SF} {o:Oper} {l:List Oper} (h:qK F m P w0 ops G o) (k:Obs F m P w0 ops G l):Obs F m P w0 ops G (o::l):=⟨h,k⟩
theorem lr {n:Nat}:n<=n:=Nat.le_refl n
theorem arf {α:Sort _} {a:α} {p:Prop}:a≠a->p:=fun e=>absurd rfl e
abbrev zP6:List Value:= [.bool false, .slice none 0 0, .slice none 0 0, .bool false, .slice none 0 0, .slice none 0 0]
abbrev zR3:List Value:= [.bool false, .slice none 0 0, .slice none 0 0]
theorem fmz {α:Type} {p:α->Prop} {a:α} {l:List α} (h:p a/\ ∀x,x∈l->p x): ∀x,x∈a::l->p x:=List.forall_mem_cons.2 h
theorem fnz {α:Type} {p:α->Prop}: ∀x,x∈([]:List α)->p x:=List.forall_mem_nil p
theorem iiz {α β:Type} {p:α->β->Prop}: ∀a b,p a b->p a b:=fun _ _ h=>h
theorem mz1 {α:Type} {a b0:α} {l:List α}:a∈b0::a::l:= .tail _ (.head _)
theorem mz2 {α:Type} {a b0 b1:α} {l:List α}:a∈b0::b1::a::l:= .tail _ (.tail _ (.head _))
theorem mz3 {α:Type} {a b0 b1 b2:α} {l:List α}:a∈b0::b1::b2::a::l:= .tail _ (.tail _ (.tail _ (.head _)))
theorem mz4 {α:Type} {a b0 b1 b2 b3:α} {l:List α}:a∈b0::b1::b2::b3::a::l:= .tail _ (.tail _ (.tail _ (.tail _ (.head _))))
theorem mz5 {α:Type} {a b0 b1 b2 b3 b4:α} {l:List α}:a∈b0::b1::b2::b3::b4::a::l:= .tail _ (.tail _ (.tail _ (.tail _ (.tail _ (.head _)))))
theorem mz6 {α:Type} {a b0 b1 b2 b3 b4 b5:α} {l:List α}:a∈b0::b1::b2::b3::b4::b5::a::l:= .tail _ (.tail _ (.tail _ (.tail _ (.tail _ (.tail _ (.head _))))))
theorem mz7 {α:Type} {a b0 b1 b2 b3 b4 b5 b6:α} {l:List α}:a∈b0::b1::b2::b3::b4::b5::b6::a::l:= .tail _ (.tail _ (.tail _ (.tail _ (.tail _ (.tail _ (.tail _ (.head _)))))))
theorem mz8 {α:Type} {a b0 b1 b2 b3 b4 b5 b6 b7:α} {l:List α}:a∈b0::b1::b2::b3::b4::b5::b6::b7::a::l:= .tail _ (.tail _ (.tail _ (.tail _ (.tail _ (.tail _ (.tail _ (.tail _ (.head _))))))))
theorem mz9 {α:Type} {a b0 b1 b2 b3 b4 b5 b6 b7 b8:α} {l:List α}:a∈b0::b1::b2::b3::b4::b5::b6::b7::b8::a::l:= .tail _ (.tail _ (.tail _ (.tail _ (.tail _ (.tail _ (.tail _ (.tail _ (.tail _ (.head _)))))))))
theorem zTQ {α:Type} {a b0 b1 b2 b3 b4 b5 b6 b7 b8 b9:α} {l:List α}:a∈b0::b1::b2::b3::b4::b5::b6::b7::b8::b9::a::l:= .tail _ (.tail _ (.tail _ (.tail _ (.tail _ (.tail _ (.tail _ (.tail _ (.tail _ (.tail _ (.head _))))))))))
theorem zU6 {α:Type} {a b0 b1 b2 b3 b4 b5 b6 b7 b8 b9 b10:α} {l:List α}:a∈b0::b1::b2::b3::b4::b5::b6::b7::b8::b9::b10::a::l:= .tail _ (.tail _ (.tail _ (.tail _ (.tail _ (.tail _ (.tail _ (.tail _ (.tail _ (.tail _ (.tail _ (.head _)))))))))))
theorem zUN {α:Type} {a b0 b1 b2 b3 b4 b5 b6 b7 b8 b9 b10 b11:α} {l:List α}:a∈b0::b1::b2::b3::b4::b5::b6::b7::b8::b9::b10::b11::a::l:= .tail _ (.tail _ (.tail _ (.tail _ (.tail _ (.tail _ (.tail _ (.tail _ (.tail _ (.tail _ (.tail _ (.tail _ (.head _))))))))))))
theorem zU5 {α:Type} {a b0 b1 b2 b3 b4 b5 b6 b7 b8 b9 b10 b11 b12:α} {l:List α}:a∈b0::b1::b2::b3::b4::b5::b6::b7::b8::b9::b10::b11::b12::a::l:= .tail _ (.tail _ (.tail _ (.tail _ (.tail _ (.tail _ (.tail _ (.tail _ (.tail _ (.tail _ (.tail _ (.tail _ (.tail _ (.head _)))))))))))))
theorem zUM {α:Type} {a b0 b1 b2 b3 b4 b5 b6 b7 b8 b9 b10 b11 b12 b13:α} {l:List α}:a∈b0::b1::b2::b3::b4::b5::b6::b7::b8::b9::b10::b11::b12::b13::a::l:= .tail _ (.tail _ (.tail _ (.tail _ (.tail _ (.tail _ (.tail _ (.tail _ (.tail _ (.tail _ (.tail _ (.tail _ (.tail _ (.tail _ (.head _))))))))))))))
theorem zSb {α:Type} {a b0 b1 b2 b3 b4 b5 b6 b7 b8 b9 b10 b11 b12 b13 b14:α} {l:List α}:a∈b0::b1::b2::b3::b4::b5::b6::b7::b8::b9::b10::b11::b12::b13::b14::a::l:= .tail _ (.tail _ (.tail _ (.tail _ (.tail _ (.tail _ (.tail _ (.tail _ (.tail _ (.tail _ (.tail _ (.tail _ (.tail _ (.tail _ (.tail _ (.head _)))))))))))))))
theorem zE {F:Fence} {m:Nat} {P:Program} {w0:World} {ops:Array Oper} {G:Nat->SF}:Obs F m P w0 ops G []:=trivial
def CF.at (C:CF) (k:Nat):CF:=⟨fun cs w=> ∃ds,C.p ds w/\cs=ds.drop k,fun _ _ _ ⟨ds,h1,h2⟩ hb=>⟨ds,C.st _ _ _ h1 hb,h2⟩⟩
section
variable {F:Fence} {m:Nat} {P:Program} {w0:World} {ops:Array Oper} {G:Nat->SF} {d:Tmp} {ty:TypeId} {pos:String} {aft:Array Edge}
theorem zN {x:Operand} {s:TypeId} {f:Nat} {C:CF} (k:Nat) (hk:zCH P s f=some k) (hx: ∀v W,(fct G x).p v W->(SF.ptr C).p v W:=by first|exact fun _ _ h=>h|exact fun _ _ h=>h.2) (hd: ∀v W,(SF.ptr (C.at k)).p v W->(G d).p v W:=by exact fun _ _ h=>h):qK F m P w0 ops G ⟨some d, .fieldAddr s x f,ty,pos,aft,none⟩:=
 zI1 (C':=C.at k) k hk hx (fun cs _ h=>⟨cs,h,rfl⟩) hd
theorem yT {x:Operand} {s:TypeId} {f:Nat} {C:CF} (i k:Nat) (hk:zCH P s f=some k) (hx: ∀v W,(fct G x).p v W->(SF.ptr (C.at i)).p v W:=by exact fun _ _ h=>h) (hd: ∀v W,(SF.ptr (C.at (i+k))).p v W->(G d).p v W:=by exact fun _ _ h=>h):qK F m P w0 ops G ⟨some d, .fieldAddr s x f,ty,pos,aft,none⟩:=
 zI1 (C':=C.at (i+k)) k hk hx (fun cs _ ⟨ds,h1,h2⟩=>⟨ds,h1,by rw [h2,List.drop_drop]⟩) hd
theorem jK {x:Operand} {t:TypeId} {C:CF} {k:Nat} (hk:zDV P t=true) (hx: ∀v W,(fct G x).p v W->(SF.ptr (C.at k)).p v W:=by exact fun _ _ h=>h) (h: ∀cs W,C.p cs W-> ∃u,cs[k]?=some u/\(G d).p u W):qK F m P w0 ops G ⟨some d, .load t x,ty,pos,aft,none⟩:=
 jE hk hx fun cs W ⟨ds,h1,h2⟩=>let ⟨u,h3,h4⟩:=h ds W h1;⟨u,by rw [h2,List.getElem?_drop];exact h3,h4⟩
theorem zX {x:Operand} {t:TypeId} {C:CF} {k:Nat} (z:Nat) (hk:jN P t=some z) (hx: ∀v W,(fct G x).p v W->(SF.ptr (C.at k)).p v W:=by exact fun _ _ h=>h) (h: ∀cs W,C.p cs W->k+z<=cs.length/\(G d).p (.agg ((cs.drop k).take z).toArray) W):qK F m P w0 ops G ⟨some d, .load t x,ty,pos,aft,none⟩:=
 zAY z hk hx fun cs W ⟨ds,h1,h2⟩=>let ⟨h3,h4⟩:=h ds W h1;⟨by rw [h2,List.length_drop];omega,by rw [h2];exact h4⟩
theorem zJ {x:Operand} {t:TypeId} {f:UF} (z:Nat) (hk:jN P t=some z) (hx: ∀v W,(fct G x).p v W->(SF.ptr (CU.agg f).cf).p v W:=by first|exact fun _ _ h=>h|exact fun _ _ h=>h.2) (hz: ∀cs:List Value, ∀W,f.p (.agg cs.toArray) W->cs.length=z) (hd: ∀v W,f.p v W->(G d).p v W:=by exact fun _ _ h=>h):qK F m P w0 ops G ⟨some d, .load t x,ty,pos,aft,none⟩:=
 zAY z hk hx fun cs W h=>⟨by rw [hz cs W h];exact Nat.le_refl _,by
  have h1:=hz cs W h
  rw [List.take_of_length_le oN]
  exact hd _ _ h⟩
theorem zBX {x:Operand} {a:Addr} (hx: ∀v W,(fct G x).p v W->v= .pointer (some a)) (hd: ∀W,(G d).p (.pointer (some a)) W:=by exact fun _=>rfl):qK F m P w0 ops G ⟨some d, .nilCheck x,ty,pos,aft,none⟩:=
 qR (fun _ e=>by cases e) (fun _ e=>by cases e) fun b W hb hh=>by
  have e:=hx _ _ (hh x (by simp [Op.operands]))
  exact ⟨.pointer (some a),by simp [execOp,e],hd W⟩
theorem jL {x:Operand} {s:TypeId} {f:Nat} {b o:Nat} (k:Nat) (hk:zCH P s f=some k) (hx: ∀v W,(fct G x).p v W->v= .pointer (some ⟨b,o,none⟩)) (hd: ∀W,(G d).p (.pointer (some ⟨b,o+k,none⟩)) W:=by exact fun _=>rfl):qK F m P w0 ops G ⟨some d, .fieldAddr s x f,ty,pos,aft,none⟩:=
 qR (fun _ e=>by cases e) (fun _ e=>by cases e) fun c W hb hh=>by
  have e:=hx _ _ (hh x (by simp [Op.operands]))
  refine ⟨.pointer (some ⟨b,o+k,none⟩), ?_,hd W⟩
  unfold zCH at hk
  split at hk<;>try cases hk
  rename_i fs hu
  split at hk<;>try cases hk
  rename_i f' hf
  split at hk<;>try cases hk
  rename_i i hi
  split at hk<;>try cases hk
  rename_i hz
  simp [execOp,Instr.fieldAt,run_underlying hu,hf,e,Instr.sureAddr,fieldPlace,sizeOf,typeInfo,hi,hz,Addr.add_lit]
theorem Ret.to {W:World} {f g:SF} (h: ∀v W,f.p v W->g.p v W): ∀e W',Ret W f e W'->Ret W g e W':=fun _ _ ⟨v,e,h1,h2⟩=>⟨v,e,h _ _ h1,h2⟩
end
theorem jM {xs ys:Array Value} (h:Value.agg xs=Value.agg ys):xs=ys:=by injection h
theorem zM5 {cs:List Value} {W:World} {m:Nat} {k:Int} (h:(fUV m k).p (.agg cs.toArray) W): ∃s A n c,cs= [.bool s, .slice A n c]/\ ∃l,Rd W A n c l/\Lt l/\n<=m/\iv s l=k:=by
 obtain ⟨s,A,n,c,l,e,h1⟩:=h
 have:=congrArg Array.toList (jM e)
 exact ⟨s,A,n,c,by simpa using this,l,h1⟩
theorem zF7 {cs:List Value} {W:World} {k:Int} (h:(fNV k).p (.agg cs.toArray) W): ∃A n c,cs= [.bool (decide (k<0)), .slice A n c]/\ ∃l,Is l k.natAbs/\Rd W A n c l:=by
 obtain ⟨A,n,c,l,e,h1⟩:=h
 have:=congrArg Array.toList (jM e)
 exact ⟨A,n,c,by simpa using this,l,h1⟩
theorem zOG (m:Nat) (k:Int): ∀cs:List Value, ∀W,(fUV m k).p (.agg cs.toArray) W->cs.length=2:=fun cs W h=>by
 obtain ⟨s,A,n,c,rfl,_⟩:=zM5 h
 rfl
theorem zO7 (k:Int): ∀cs:List Value, ∀W,(fNV k).p (.agg cs.toArray) W->cs.length=2:=fun cs W h=>by
 obtain ⟨A,n,c,rfl,_⟩:=zF7 h
 rfl
theorem zG6 {k:Int} (cs:List Value) (W:World) (h:(CU.agg (fNV k)).p cs W): ∃u,cs[1]?=some u/\qI W u k.natAbs:=by
 obtain ⟨A,n,c,rfl,l,h1,h2⟩:=zF7 h
 exact ⟨_,rfl,A,n,c,l,rfl,h1,h2⟩
theorem zLG {k:Int} (cs:List Value) (W:World) (h:(CU.agg (fNV k)).p cs W): ∃u,cs[0]?=some u/\u= .bool (decide (k<0)):=by
 obtain ⟨A,n,c,rfl,l,h1,h2⟩:=zF7 h
 exact ⟨_,rfl,rfl⟩
theorem zOH {m:Nat} {k:Int} {v:Value} {W:World} (h:(fUV m k).p v W):(CU.agg (fUV m k)).p v.cells.toList W/\v.cells.toList.all yG=true:=by
 obtain ⟨s,A,n,c,l,rfl,h1⟩:=h
 exact ⟨⟨s,A,n,c,l,rfl,h1⟩,rfl⟩
theorem zF5 {k:Int} (v:Value) (W:World) (h:(fNV k).p v W): ∃vs:List Value,v= .agg vs.toArray/\vs.length=2/\(∀u,u∈vs->u.oneCell'=true)/\vs.all yG=true/\(CU.agg (fNV k)).p vs W:=by
 obtain ⟨A,n,c,l,rfl,h1⟩:=h
 exact ⟨[_,_],rfl,rfl,fun u hu=>by simp at hu;rcases hu with rfl|rfl<;>rfl,rfl,A,n,c,l,rfl,h1⟩
theorem NV.nat {W:World} {v:Value} {k:Int} (h:NV W v k): ∃A n c,v= .agg #[.bool (decide (k<0)), .slice A n c]/\qI W (.slice A n c) k.natAbs:=by
 obtain ⟨A,n,c,l,rfl,h1,h2⟩:=h
 exact ⟨A,n,c,rfl,A,n,c,l,rfl,h1,h2⟩
theorem zUW (s:Bool) (A:Option Addr) (n c:Nat):Tryz.prog.built 26 [(0, .bool s),(1, .slice A n c)]=some #[.bool s, .slice A n c]:=by kernel_rfl
theorem zRg {s:Bool} {u v:Value} {W:World} {m x:Nat} (hu:u= .bool s) (hv:qI W v x) (hx:x<BB^m): ∃cells,Tryz.prog.built 26 [(0,u),(1,v)]=some cells/\UV W m (.agg cells) (if s then -(x:Int) else x):=by
 obtain ⟨A,n,c,l,rfl,h1,h2⟩:=hv
 subst hu
 refine ⟨_,zUW s A n c,s,A,n,c,l,rfl,h2,h1.lt,by rw [<-h2.len];exact h1.len hx, ?_⟩
 unfold iv
 rw [h1.val]
theorem zRD (s s':Bool) (A A':Option Addr) (n n' c c':Nat):yK Tryz.prog 134 2 [(0, .agg #[.bool s, .slice A n c]),(1, .agg #[.bool s', .slice A' n' c'])]=some (26,#[.bool s, .slice A n c, .bool s', .slice A' n' c']):=by kernel_rfl
theorem zAW {u v:Value} {W:World} {m:Nat} {k k':Int} (hu:UV W m u k) (hv:UV W m v k'): ∃e cs,yK Tryz.prog 134 2 [(0,u),(1,v)]=some (e,cs)/\ISV (W.alloc (.cells cs e)) m (.slice (some ⟨W.heap.size,0,none⟩) 2 2) [k,k']:=by
 obtain ⟨s,A,n,c,l,rfl,h1,h2,h3,rfl⟩:=hu
 obtain ⟨s',A',n',c',l',rfl,h1',h2',h3',rfl⟩:=hv
 exact ⟨_,_,zRD s s' A A' n n' c c',ISV.two ⟨s,A,n,c,l,rfl,h1,h2,h3,rfl⟩ ⟨s',A',n',c',l',rfl,h1',h2',h3',rfl⟩ _⟩
def zKe (m:Nat) (ks:List Int):SF:=⟨fun v W=>ISV W m v ks,fun _ _ _ h hb=>h.below hb⟩
def zPg (x:Nat):SF:=⟨fun v _=> ∃n:Nat,v= .int .i64 n/\(x=0↔n=0),fun _ _ _ h _=>h⟩
section
variable {F:Fence} {m:Nat} {P:Program} {w0:World} {ops:Array Oper} {G:Nat->SF} {d:Tmp} {ty:TypeId} {pos:String} {aft:Array Edge}
theorem zFv {x:Operand} {t:TypeId} (ht:P.underlying t=some (.slice (P.elem t))) (h: ∀v W,(fct G x).p v W-> ∃A n c,v= .slice A n c/\(G d).p (.int .i64 (n:Nat)) W):qK F m P w0 ops G ⟨some d, .call ⟨.builtin .len,#[x],#[t]⟩,ty,pos,aft,none⟩:=by
 intro b W K Q hb hr hK
 obtain ⟨A,n,c,e,hd⟩:=h _ _ (qB hr (x:=x) (by simp [Op.operands,Call.operands]))
 refine ⟨fun f hf=>(by
  unfold Oper.about at hf
  simp [resolve,go_sem] at hf), ?_⟩
 rw [Oper.semAt_eq _ _ _ (fun _ e=>by cases e)]
 have:(execOp b.eval ⟨some d, .call ⟨.builtin .len,#[x],#[t]⟩,ty,pos,aft,none⟩).run P W= .ok (.value (.int .i64 (n:Nat))) W:=by
  simp [execOp,resolve,invoke,builtin,e,run_len_slice _ _ _ _ _ _ ht,goInt]
 rw [this]
 exact hK _ _ (fun d' e'=>by cases e';exact hd) (Below.refl _ _)
theorem zDQ {x:Operand} {t:TypeId} {k:Nat} (ht:P.underlying t=some (.slice (P.elem t))) (hx: ∀v W,(fct G x).p v W->qI W v k) (hd: ∀v W,(zPg k).p v W->(G d).p v W:=by exact fun _ _ h=>h):qK F m P w0 ops G ⟨some d, .call ⟨.builtin .len,#[x],#[t]⟩,ty,pos,aft,none⟩:=
 zFv ht fun v W h=>by
  obtain ⟨A,n,c,l,e,h1,h2⟩:=hx v W h
  exact ⟨A,n,c,e,hd _ _ ⟨n,rfl,by rw [<-h2.len];exact h1.zero_iff⟩⟩
theorem zQJ {op:BinOp} {t:TypeId} {x y:Operand} {t':TypeId} (h: ∀u v W,(fct G x).p u W->(fct G y).p v W-> ∃r,(∀W,(eqGuard op t x y u v).run P W= .ok () W)/\(∀W,(binOp op t u v).run P W= .ok r W)/\(G d).p r W):qK F m P w0 ops G ⟨some d, .binOp op t x y t',ty,pos,aft,none⟩:=
 qR (fun _ e=>by cases e) (fun _ e=>by cases e) fun b W hb hh=>by
  obtain ⟨r,h1,h2,h3⟩:=h _ _ W (hh x (by simp [Op.operands])) (hh y (by simp [Op.operands]))
  exact ⟨r,by simp [execOp,h1,h2],h3⟩
theorem zDR {t:TypeId} {x:Operand} {t':TypeId} {k:Nat} {b:Bool} (hb:b=decide (k=0)) (hx: ∀v W,(fct G x).p v W->(zPg k).p v W:=by exact fun _ _ h=>h) (hd: ∀W,(G d).p (.bool b) W:=by exact fun _=>rfl):qK F m P w0 ops G ⟨some d, .binOp .eql t x (.const (.int .i64 0)) t',ty,pos,aft,none⟩:=
 zQJ fun u v W hu hv=>by
  obtain ⟨n,rfl,h1⟩:=hx u W hu
  obtain rfl:v= .int .i64 0:=hv
  refine ⟨.bool b,fun _=>rfl,fun _=> ?_,hd W⟩
  have h2:((n:Int)==0)=b:=by
   rw [hb,Bool.eq_iff_iff]
   simp only [beq_iff_eq,decide_eq_true_eq]
   omega
  simp only [binOp,Op.intCmp]
  rw [h2]
  rfl
end
def QVp (m:Nat) (k:Int) (d:Nat) (v:Value) (w:World):Prop:= ∃b s t,v= .agg #[b,s,t]/\UV w m (.agg #[b,s]) k/\LV w m t d
def QNp (q:Rat) (v:Value) (w:World):Prop:= ∃b s t,v= .agg #[b,s,t]/\NV w (.agg #[b,s]) q.num/\qI w t q.den
def QMp (m:Nat) (k:Int) (d:Nat) (v:Value) (w:World):Prop:= ∃b s t,v= .agg #[b,s,t]/\NV w (.agg #[b,s]) k/\LV w m t d
def QAp (m:Nat) (sg:Bool) (x:Nat) (d:Nat) (v:Value) (w:World):Prop:= ∃s t,v= .agg #[.bool sg,s,t]/\qI w s x/\LV w m t d
def fQV (m:Nat) (k:Int) (d:Nat):UF:= .mk' (QVp m k d) fun _ _ _ ⟨b,s,t,e,h1,h2⟩ u=>⟨b,s,t,e,(fUV m k).us _ _ _ h1 u,(fLV m d).us _ _ _ h2 u⟩
def fQN (q:Rat):UF:= .mk' (QNp q) fun _ _ _ ⟨b,s,t,e,h1,h2⟩ u=>⟨b,s,t,e,(fNV q.num).us _ _ _ h1 u,(qU q.den).us _ _ _ h2 u⟩
def fQM (m:Nat) (k:Int) (d:Nat):UF:= .mk' (QMp m k d) fun _ _ _ ⟨b,s,t,e,h1,h2⟩ u=>⟨b,s,t,e,(fNV k).us _ _ _ h1 u,(fLV m d).us _ _ _ h2 u⟩
def fQA (m:Nat) (sg:Bool) (x d:Nat):UF:= .mk' (QAp m sg x d) fun _ _ _ ⟨s,t,e,h1,h2⟩ u=>⟨s,t,e,(qU x).us _ _ _ h1 u,(fLV m d).us _ _ _ h2 u⟩
theorem zAG {cs:List Value} {b s t:Value} (h:Value.agg cs.toArray= .agg #[b,s,t]):cs= [b,s,t]:=by
 have:=congrArg Array.toList (jM h)
 simpa using this
theorem zOY (m:Nat) (k:Int) (d:Nat): ∀cs:List Value, ∀W,(fQV m k d).p (.agg cs.toArray) W->cs.length=3:=fun cs W ⟨b,s,t,e,_⟩=>by rw [zAG e];rfl
theorem qY (q:Rat): ∀cs:List Value, ∀W,(fQN q).p (.agg cs.toArray) W->cs.length=3:=fun cs W ⟨b,s,t,e,_⟩=>by rw [zAG e];rfl
theorem zLk {m:Nat} {k:Int} {d:Nat} (cs:List Value) (W:World) (h:(CU.agg (fQV m k d)).p cs W):0+2<=cs.length/\UV W m (.agg ((cs.drop 0).take 2).toArray) k:=by
 obtain ⟨b,s,t,e,h1,_⟩:=h
 rw [zAG e]
 exact ⟨by simp,h1⟩
theorem zGT {m:Nat} {k:Int} {d:Nat} (cs:List Value) (W:World) (h:(CU.agg (fQV m k d)).p cs W): ∃u,cs[2]?=some u/\LV W m u d:=by
 obtain ⟨b,s,t,e,_,h1⟩:=h
 rw [zAG e]
 exact ⟨t,rfl,h1⟩
theorem zRN {m:Nat} {k:Int} {d:Nat} (cs:List Value) (W:World) (h:(CU.agg (fQV m k d)).p cs W): ∃u,cs[0]?=some u/\ ∃s:Bool,u= .bool s:=by
 obtain ⟨b,s,t,e,⟨s',A,n,c,l,e',_⟩,_⟩:=h
 rw [zAG e]
 have:=congrArg Array.toList (jM e')
 exact ⟨b,rfl,s',by simp at this;exact this.1⟩
theorem zA6 {q:Rat} (cs:List Value) (W:World) (h:(CU.agg (fQN q)).p cs W):0+2<=cs.length/\NV W (.agg ((cs.drop 0).take 2).toArray) q.num:=by
 obtain ⟨b,s,t,e,h1,_⟩:=h
 rw [zAG e]
 exact ⟨by simp,h1⟩
theorem zAS {q:Rat} (cs:List Value) (W:World) (h:(CU.agg (fQN q)).p cs W): ∃u,cs[2]?=some u/\qI W u q.den:=by
 obtain ⟨b,s,t,e,_,h1⟩:=h
 rw [zAG e]
 exact ⟨t,rfl,h1⟩
theorem zRP {q:Rat} (cs:List Value) (W:World) (h:(CU.agg (fQN q)).p cs W): ∃u,cs[1]?=some u/\qI W u q.num.natAbs:=by
 obtain ⟨b,s,t,e,h1,_⟩:=h
 rw [zAG e]
 exact zG6 [b,s] W h1
theorem zRO {q:Rat} (cs:List Value) (W:World) (h:(CU.agg (fQN q)).p cs W): ∃u,cs[0]?=some u/\u= .bool (decide (q.num<0)):=by
 obtain ⟨b,s,t,e,h1,_⟩:=h
 rw [zAG e]
 exact zLG [b,s] W h1
theorem zNH {q:Rat} (cs:List Value) (W:World) (h:(CU.agg (fQN q)).p cs W):0+3<=cs.length/\QNp q (.agg ((cs.drop 0).take 3).toArray) W:=by
 have h1:=qY q cs W h
 exact ⟨by omega,by rw [List.drop_zero,List.take_of_length_le oN];exact h⟩
theorem zRR {m:Nat} {k:Int} {d:Nat} (cs:List Value) (W:World) (h:(CU.agg (fQM m k d)).p cs W): ∃u,cs[1]?=some u/\qI W u k.natAbs:=by
 obtain ⟨b,s,t,e,h1,_⟩:=h
 rw [zAG e]
 exact zG6 [b,s] W h1
theorem zRQ {m:Nat} {k:Int} {d:Nat} (cs:List Value) (W:World) (h:(CU.agg (fQM m k d)).p cs W): ∃u,cs[2]?=some u/\LV W m u d:=by
 obtain ⟨b,s,t,e,_,h1⟩:=h
 rw [zAG e]
 exact ⟨t,rfl,h1⟩
theorem LV.form {W:World} {m:Nat} {v:Value} {x:Nat} (h:LV W m v x): ∃A n c,v= .slice A n c:=by
 obtain ⟨A,n,c,l,e,_⟩:=h
 exact ⟨A,n,c,e⟩
theorem qI.form {W:World} {v:Value} {x:Nat} (h:qI W v x): ∃A n c,v= .slice A n c:=by
 obtain ⟨A,n,c,l,e,_⟩:=h
 exact ⟨A,n,c,e⟩
theorem UV.form {W:World} {m:Nat} {b s:Value} {k:Int} (h:UV W m (.agg #[b,s]) k): ∃sg A n c,b= .bool sg/\s= .slice A n c:=by
 obtain ⟨s',A,n,c,l,e,_⟩:=h
 have:=congrArg Array.toList (jM e)
 simp at this
 exact ⟨s',A,n,c,this.1,this.2⟩
theorem NV.form {W:World} {b s:Value} {k:Int} (h:NV W (.agg #[b,s]) k): ∃A n c,b= .bool (decide (k<0))/\s= .slice A n c:=by
 obtain ⟨A,n,c,l,e,_⟩:=h
 have:=congrArg Array.toList (jM e)
 simp at this
 exact ⟨A,n,c,this.1,this.2⟩
theorem zDI {m:Nat} {k:Int} {d:Nat} {v:Value} {W:World} (h:(fQV m k d).p v W): ∃sg A n c A' n' c',v= .agg #[.bool sg, .slice A n c, .slice A' n' c']:=by
 obtain ⟨b,s,t,rfl,h1,h2⟩:=h
 obtain ⟨sg,A,n,c,rfl,rfl⟩:=h1.form
 obtain ⟨A',n',c',rfl⟩:=h2.form
 exact ⟨_,_,_,_,_,_,_,rfl⟩
theorem zCi {q:Rat} {v:Value} {W:World} (h:(fQN q).p v W): ∃A n c A' n' c',v= .agg #[.bool (decide (q.num<0)), .slice A n c, .slice A' n' c']:=by
 obtain ⟨b,s,t,rfl,h1,h2⟩:=h
 obtain ⟨A,n,c,rfl,rfl⟩:=h1.form
 obtain ⟨A',n',c',rfl⟩:=h2.form
 exact ⟨_,_,_,_,_,_,rfl⟩
theorem zET {m:Nat} {k:Int} {d:Nat} {v:Value} {W:World} (h:(fQV m k d).p v W):(CU.agg (fQV m k d)).p v.cells.toList W/\v.cells.toList.all yG=true:=by
 obtain ⟨sg,A,n,c,A',n',c',rfl⟩:=zDI h
 exact ⟨h,rfl⟩
theorem zOZ {q:Rat} {v:Value} {W:World} (h:(fQN q).p v W):(CU.agg (fQN q)).p v.cells.toList W/\v.cells.toList.all yG=true:=by
 obtain ⟨A,n,c,A',n',c',rfl⟩:=zCi h
 exact ⟨h,rfl⟩
theorem zGz {sg:Bool} {A A':Option Addr} {n c n' c':Nat} (u:Value) (hu:u∈ [Value.bool sg, .slice A n c, .slice A' n' c']):u.oneCell'=true:=by
 simp at hu
 rcases hu with rfl|rfl|rfl<;>rfl
theorem yL {q:Rat} (v:Value) (W:World) (h:(fQN q).p v W): ∃vs:List Value,v= .agg vs.toArray/\vs.length=3/\(∀u,u∈vs->u.oneCell'=true)/\vs.all yG=true/\(CU.agg (fQN q)).p vs W:=by
 obtain ⟨A,n,c,A',n',c',rfl⟩:=zCi h
 exact ⟨[_,_,_],rfl,rfl,zGz,rfl,h⟩
theorem zHV {q:Rat} {m:Nat} {v:Value} {W:World} (h:QNp q v W) (hq:QB q m):QVp m q.num q.den v W:=by
 obtain ⟨b,s,t,e,h1,h2⟩:=h
 exact ⟨b,s,t,e,h1.uv' hq.1,h2.lv hq.2⟩
theorem zQu {m m':Nat} {k:Int} {d:Nat} {v:Value} {W:World} (h:QVp m k d v W) (hm:m<=m'):QVp m' k d v W:=by
 obtain ⟨b,s,t,e,h1,h2⟩:=h
 exact ⟨b,s,t,e,h1.mono hm,h2.mono hm⟩
theorem zUU (s:Bool) (A A':Option Addr) (n n' c c':Nat):Tryz.prog.built 28 [(0, .agg #[.bool s, .slice A n c]),(1, .slice A' n' c')]=some #[.bool s, .slice A n c, .slice A' n' c']:=by kernel_rfl
theorem zHv {u v:Value} {W:World} {q:Rat} (hu:NV W u q.num) (hv:qI W v q.den): ∃cells,Tryz.prog.built 28 [(0,u),(1,v)]=some cells/\QNp q (.agg cells) W:=by
 obtain ⟨A,n,c,rfl,h1⟩:=hu.nat
 obtain ⟨A',n',c',rfl⟩:=hv.form
 exact ⟨_,zUU _ _ _ _ _ _ _,_,_,_,rfl,hu,hv⟩
theorem zUg:yK Tryz.prog 24 1 [(0, .int .u32 1)]=some (103,#[.int .u32 1]):=by kernel_rfl
theorem zOQ {u:Value} {W:World} (hu:u= .int .u32 1): ∃e cs,yK Tryz.prog 24 1 [(0,u)]=some (e,cs)/\qI (W.alloc (.cells cs e)) (.slice (some ⟨W.heap.size,0,none⟩) 1 1) 1:=by
 subst hu
 refine ⟨_,_,zUg,_,1,1, [1],rfl,⟨fun y hy=>by simp at hy;subst hy;decide,fun hn=>by simp, ?_⟩,Rd.new W [1] _ _ (by simp [zA5]) (by simp)⟩
 show sm (lm [1]) 1=1
 simp [sm,lm]
theorem zUh (A:Option Addr) (n c:Nat):Tryz.prog.built 26 [(1, .slice A n c)]=some #[.bool false, .slice A n c]:=by kernel_rfl
theorem zMI {v:Value} {W:World} {x:Nat} (hv:qI W v x): ∃cells,Tryz.prog.built 26 [(1,v)]=some cells/\NV W (.agg cells) x:=by
 obtain ⟨A,n,c,l,rfl,h1,h2⟩:=hv
 refine ⟨_,zUh _ _ _,A,n,c,l,by rw [decide_eq_false oN],by rw [Int.natAbs_natCast];exact h1,h2⟩
theorem zUV (s:Bool) (A A':Option Addr) (n n' c c':Nat):Tryz.prog.built 160 [(0, .agg #[.bool s, .slice A n c, .slice A' n' c'])]=some #[.bool s, .slice A n c, .slice A' n' c']:=by kernel_rfl
theorem zTe {v:Value} {W:World} {m:Nat} {k:Int} {d:Nat} (hv:QVp m k d v W): ∃cells,Tryz.prog.built 160 [(0,v)]=some cells/\QVp m k d (.agg cells) W:=by
 obtain ⟨sg,A,n,c,A',n',c',rfl⟩:=zDI hv
 exact ⟨_,zUV _ _ _ _ _ _ _,hv⟩
def QKp (k:Int) (d:Nat) (v:Value) (w:World):Prop:= ∃b s t,v= .agg #[b,s,t]/\NV w (.agg #[b,s]) k/\qI w t d
def fQK (k:Int) (d:Nat):UF:= .mk' (QKp k d) fun _ _ _ ⟨b,s,t,e,h1,h2⟩ u=>⟨b,s,t,e,(fNV k).us _ _ _ h1 u,(qU d).us _ _ _ h2 u⟩
theorem zRS {k:Int} {d m:Nat} {v:Value} {W:World} (h:QKp k d v W) (hk:Bd k m) (hd:d<BB^m):QVp m k d v W:=by
 obtain ⟨b,s,t,e,h1,h2⟩:=h
 exact ⟨b,s,t,e,h1.uv' hk,h2.lv hd⟩
theorem zRT {k:Int} {d:Nat} (cs:List Value) (W:World) (h:(CU.agg (fQK k d)).p cs W): ∃u,cs[2]?=some u/\qI W u d:=by
 obtain ⟨b,s,t,e,_,h1⟩:=h
 rw [zAG e]
 exact ⟨t,rfl,h1⟩
theorem zE2 {v:Value} {W:World} {x:Nat} (h:qI W v x):v.cells=#[v]/\v.oneCell'=true/\yG v=true:=by
 obtain ⟨A,n,c,rfl⟩:=h.form
 exact ⟨rfl,rfl,rfl⟩
theorem zNf {m:Nat} {k:Int} {d:Nat} {q:Rat} (v:Value) (W:World) (h:(fQN q).p v W):v.cells.size=3/\(∀u,u∈v.cells.toList->u.oneCell'=true)/\v.cells.toList.all yG=true/\ ∀cs,(CU.agg (fQV m k d)).p cs W->0+3<=cs.length/\(CU.agg (fQN q)).p (zAb cs 0 v.cells.toList) W:=by
 obtain ⟨A,n,c,A',n',c',rfl⟩:=zCi h
 refine ⟨rfl,zGz,rfl,fun cs hc=> ?_⟩
 obtain ⟨b,s,t,e,_⟩:=hc
 rw [zAG e]
 exact ⟨by simp,h⟩
theorem zPW {m:Nat} {k0 k:Int} {d:Nat} (v:Value) (W:World) (h:(fNV k).p v W):v.cells.size=2/\(∀u,u∈v.cells.toList->u.oneCell'=true)/\v.cells.toList.all yG=true/\ ∀cs,(CU.agg (fQV m k0 d)).p cs W->0+2<=cs.length/\(CU.agg (fQM m k d)).p (zAb cs 0 v.cells.toList) W:=by
 obtain ⟨A,n,c,rfl,h1⟩:=NV.nat h
 refine ⟨rfl,fun u hu=>by simp [Value.cells] at hu;rcases hu with rfl|rfl<;>rfl,rfl,fun cs hc=> ?_⟩
 obtain ⟨b,s,t,e,_,h2⟩:=hc
 rw [zAG e]
 exact ⟨by simp,_,_,t,rfl,h,h2⟩
theorem zHK {k0 k:Int} {d:Nat} (v:Value) (W:World) (h:(fNV k).p v W):v.cells.size=2/\(∀u,u∈v.cells.toList->u.oneCell'=true)/\v.cells.toList.all yG=true/\ ∀cs,(CU.agg (fQK k0 d)).p cs W->0+2<=cs.length/\(CU.agg (fQK k d)).p (zAb cs 0 v.cells.toList) W:=by
 obtain ⟨A,n,c,rfl,h1⟩:=NV.nat h
 refine ⟨rfl,fun u hu=>by simp [Value.cells] at hu;rcases hu with rfl|rfl<;>rfl,rfl,fun cs hc=> ?_⟩
 obtain ⟨b,s,t,e,_,h2⟩:=hc
 rw [zAG e]
 exact ⟨by simp,_,_,t,rfl,h,h2⟩
theorem zKC {k:Int} {d0 d:Nat} (v:Value) (W:World) (h:(qU d).p v W):v.cells.size=1/\(∀u,u∈v.cells.toList->u.oneCell'=true)/\v.cells.toList.all yG=true/\ ∀cs,(CU.agg (fQK k d0)).p cs W->2+1<=cs.length/\(CU.agg (fQK k d)).p (zAb cs 2 v.cells.toList) W:=by
 obtain ⟨h1,h2,h3⟩:=zE2 h
 rw [h1]
 refine ⟨rfl,fun u hu=>by simp at hu;rw [hu];exact h2,by simp [h3],fun cs hc=> ?_⟩
 obtain ⟨b,s,t,e,h4,_⟩:=hc
 rw [zAG e]
 exact ⟨by simp,b,s,v,rfl,h4,h⟩
theorem zRy {m:Nat} {k:Int} {x d:Nat} (v:Value) (W:World) (h:(qU x).p v W):v.cells.size=1/\(∀u,u∈v.cells.toList->u.oneCell'=true)/\v.cells.toList.all yG=true/\ ∀cs,(CU.agg (fQM m k d)).p cs W->1+1<=cs.length/\(CU.agg (fQA m (decide (k<0)) x d)).p (zAb cs 1 v.cells.toList) W:=by
 obtain ⟨h1,h2,h3⟩:=zE2 h
 rw [h1]
 refine ⟨rfl,fun u hu=>by simp at hu;rw [hu];exact h2,by simp [h3],fun cs hc=> ?_⟩
 obtain ⟨b,s,t,e,h4,h5⟩:=hc
 obtain ⟨A,n,c,rfl,rfl⟩:=h4.form
 rw [zAG e]
 exact ⟨by simp,v,t,rfl,h,h5⟩
theorem zRx {m:Nat} {sg:Bool} {q:Rat} {x y d:Nat} (hs:sg=decide (q.num<0)) (hx:x=q.num.natAbs) (hy:y=q.den) (v:Value) (W:World) (h:(qU y).p v W):v.cells.size=1/\(∀u,u∈v.cells.toList->u.oneCell'=true)/\v.cells.toList.all yG=true/\ ∀cs,(CU.agg (fQA m sg x d)).p cs W->2+1<=cs.length/\(CU.agg (fQN q)).p (zAb cs 2 v.cells.toList) W:=by
 obtain ⟨h1,h2,h3⟩:=zE2 h
 rw [h1]
 refine ⟨rfl,fun u hu=>by simp at hu;rw [hu];exact h2,by simp [h3],fun cs hc=> ?_⟩
 obtain ⟨s,t,e,h4,_⟩:=hc
 rw [zAG e]
 refine ⟨by simp, .bool sg,s,v,rfl, ?_,by rw [<-hy];exact h⟩
 obtain ⟨A,n,c,l,rfl,g1,g2⟩:=h4
 exact ⟨A,n,c,l,by rw [hs],by rw [<-hx];exact g1,g2⟩
def RVp (m:Nat) (q:Rat) (v:Value) (w:World):Prop:= ∃k d,QVp m k d v w/\mkRat k d=q
def fRV (m:Nat) (q:Rat):UF:= .mk' (RVp m q) fun _ _ _ ⟨k,d,h,e⟩ u=>⟨k,d,(fQV m k d).us _ _ _ h u,e⟩
theorem QNp.rv {m:Nat} {q:Rat} {v:Value} {W:World} (h:QNp q v W) (hq:QB q m):RVp m q v W:=⟨_,_,zHV h hq,Rat.mkRat_self q⟩
theorem RVp.mono {m m':Nat} {q:Rat} {v:Value} {W:World} (h:RVp m q v W) (hm:m<=m'):RVp m' q v W:=by
 obtain ⟨k,d,h1,h2⟩:=h
 exact ⟨k,d,zQu h1 hm,h2⟩
theorem RVp.qb {m:Nat} {q:Rat} {v:Value} {W:World} (h:RVp m q v W) (hm:0<m):QB q m:=by
 obtain ⟨k,d,⟨b,s,t,_,h1,h2⟩,rfl⟩:=h
 exact QB.of h1.bd h2.bound hm
theorem qD (m:Nat) (q:Rat): ∀cs:List Value, ∀W,(fRV m q).p (.agg cs.toArray) W->cs.length=3:=fun cs W ⟨k,d,h,_⟩=>zOY m k d cs W h
theorem jX {m:Nat} {q:Rat} {v:Value} {W:World} (h:(fRV m q).p v W):(CU.agg (fRV m q)).p v.cells.toList W/\v.cells.toList.all yG=true:=by
 obtain ⟨k,d,h1,h2⟩:=h
 obtain ⟨g1,g2⟩:=zET h1
 exact ⟨⟨k,d,g1,h2⟩,g2⟩
theorem zEw {P:Program} {f:FuncId} {args:Array Value} {W:World} {u:Value} (h:Calls P f args W fun e w'=>e= .returned u/\Below W.heap.size W w'):Calls P f args W (Ret W (UF.eq u).toSF):=h.mono fun _ _ ⟨h1,h2⟩=>⟨u,h1,rfl,h2⟩
attribute [local go_sem] Oper.semAt_some y9 yF
theorem zUK {W:World} (k:Int) (h: -9223372036854775808<=k/\k<=9223372036854775807):Calls Tryz.prog 161 #[.int .i64 k] W (zGu W k):=
 (zIz k h.1 h.2 W).mono fun _ _=>qL.v
def SF.row (z:Nat) (Cs:List CU):SF:=⟨fun v W=> ∃A c,v= .slice A Cs.length c/\Cs.length<=c/\c<=9223372036854775807/\(A=none->c=0)/\ ∀i C,Cs[i]?=some C-> ∃b o cs,A=some ⟨b,o,none⟩/\Mem W b (o+i*z) cs/\C.p cs W,
 fun _ _ _ ⟨A,c,h1,h2,h3,h4,h5⟩ hb=>⟨A,c,h1,h2,h3,h4,fun i C hi=>let ⟨b,o,cs,g1,g2,g3⟩:=h5 i C hi;⟨b,o,cs,g1,g2.below hb,C.us _ _ _ g3 (zT hb)⟩⟩⟩
theorem y5 {z:Nat} {Cs:List CU} {l v:Value} {W0 W:World} (hl:(SF.row z Cs).p l W0) (h:v=l) (hb:Below W0.heap.size W0 W):(SF.row z Cs).p v W:=by subst h;exact (SF.row z Cs).st _ _ _ hl hb
def jI (P:Program) (t:TypeId):Option Nat:=match P.underlying t with
 |some (.slice e)=>(P.info? e).map (·.size)
 |_=>none
section
variable {F:Fence} {m:Nat} {P:Program} {w0:World} {ops:Array Oper} {G:Nat->SF} {d:Tmp} {ty:TypeId} {pos:String} {aft:Array Edge}
theorem zBb {x y:Operand} {t:TypeId} {z:Nat} {Cs:List CU} {i:Nat} {C:CU} (hz:jI P t=some z) (hi:Cs[i]?=some C) (hx: ∀v W,(fct G x).p v W->(SF.row z Cs).p v W) (hy: ∀v W,(fct G y).p v W->v= .int .i64 (i:Int)) (hd: ∀v W,(SF.ptr C.cf).p v W->(G d).p v W:=by exact fun _ _ h=>h):qK F m P w0 ops G ⟨some d, .indexAddr t x y,ty,pos,aft,none⟩:=
 qR (fun _ e=>by cases e) (fun _ e=>by cases e) fun b W hb hh=>by
  obtain ⟨A,c,e,h2,h3,h4,h5⟩:=hx _ _ (hh x (by simp [Op.operands]))
  have e2:=hy _ _ (hh y (by simp [Op.operands]))
  obtain ⟨b',o,cs,rfl,h6,h7⟩:=h5 i C hi
  have hlt:i<Cs.length:=(List.getElem?_eq_some_iff.1 hi).1
  unfold jI at hz
  split at hz<;>try cases hz
  rename_i e' hu
  cases hin:P.info? e' with
  |none=>rw [hin] at hz;cases hz
  |some ie=>
   rw [hin] at hz
   simp only [Option.map_some,Option.some.injEq] at hz
   have hel:P.elem t=e':=by simp [Program.elem,hu]
   refine ⟨.pointer (some ⟨b',o+i*z,none⟩), ?_,hd _ _ ⟨b',o+i*z,cs,rfl,h7,h6⟩⟩
   have hb1:(0:Int)<=(i:Int)/\(i:Int)<(Cs.length:Nat):=by omega
   simp only [execOp,e,e2]
   rw [Sem.run_bind,run_indexAt_slice _ _ _ _ _ _ _ (by rw [hel];exact hu),if_pos hb1,hel]
   simp [sizeOf,typeInfo,hin,hz,Addr.add_lit]
def SF.imp (c:Prop) (f:SF):SF:=⟨fun v W=>c->f.p v W,fun _ _ _ h hb hc=>f.st _ _ _ (h hc) hb⟩
theorem zU {op:Op} (L:List (Nat×SF)) (f:SF) (hL: ∀q,q∈L-> ∀v W,(G q.1).p v W->q.2.p v W) (hd: ∀v W,f.p v W->(G d).p v W) (hnd:(!(zCS ⟨some d,op,ty,pos,aft,none⟩).contains d&& !(L.map (·.1)).contains d)=true)
  (h:qK F m P w0 ops (upd (upd G [(d,f)]) L) ⟨some d,op,ty,pos,aft,none⟩):qK F m P w0 ops G ⟨some d,op,ty,pos,aft,none⟩:=by
 rw [Bool.and_eq_true] at hnd
 intro b W K Q hb hr hK
 refine h b W K Q hb (fun t ht=> ?_) fun v W' hv hb'=>hK v W' (fun d' e=> ?_) hb'
 ·have hne:Nat.beq d t=false:=by
   cases e:Nat.beq d t with
   |false=>rfl
   |true=>
    have:=Nat.eq_of_beq_eq_true e
    subst this
    have h1:=hnd.1
    rw [List.contains_iff_mem.2 ht] at h1
    cases h1
  have key: ∀l:List (Nat×SF),(∀q,q∈l-> ∀v W,(G q.1).p v W->q.2.p v W)->(upd (upd G [(d,f)]) l t).p (b.tmps.getD t undef) W:=by
   intro l
   induction l with
   |nil=>
    intro _
    show (bif Nat.beq d t then f else G t).p _ _
    rw [hne]
    exact hr t ht
   | cons q l ih=>
    intro hl
    show (bif Nat.beq q.1 t then q.2 else upd (upd G [(d,f)]) l t).p _ _
    cases e:Nat.beq q.1 t with
    |true=>
     have e2:=Nat.eq_of_beq_eq_true e
     exact hl q (by simp) _ _ (by rw [e2];exact hr t ht)
    |false=>exact ih fun x hx=>hl x (by simp [hx])
  exact key L hL
 ·cases e
  have h1:=hv d rfl
  rw [jC (by simpa using hnd.2)] at h1
  have h2:(bif Nat.beq d d then f else G d).p v W':=h1
  rw [show Nat.beq d d=true from Nat.beq_refl d] at h2
  exact hd v W' h2
theorem jT {b c:Bool} {v:Value} (h:v= .bool c) (e:b=true):v= .bool (b&&c):=by rw [e];exact h
theorem qZ {b c:Bool} {v:Value} (h:v= .bool false) (e:b=false):v= .bool (b&&c):=by rw [e];exact h
theorem zDN {b c:Bool} {v:Value} (h:v= .bool true) (e:b=true):v= .bool (b||c):=by rw [e];exact h
theorem zCC {b c:Bool} {v:Value} (h:v= .bool c) (e:b=false):v= .bool (b||c):=by rw [e];exact h
theorem zR {op:BinOp} {t:TypeId} {x y:Operand} {t':TypeId} (k:IntKind) (u v:Int) (r:Bool) (hx: ∀q W,(fct G x).p q W->q= .int k u) (hy: ∀q W,(fct G y).p q W->q= .int k v) (hr:(match op with| .eql=>u==v| .neq=>u !=v| .lss=>decide (u<v)| .leq=>decide (u<=v)| .gtr=>decide (u>v)| .geq=>decide (u≥v)|_=>false)=r) (ho:(match op with| .eql| .neq| .lss| .leq| .gtr| .geq=>true|_=>false)=true) (hd: ∀W,(G d).p (.bool r) W:=by exact fun _=>rfl):qK F m P w0 ops G ⟨some d, .binOp op t x y t',ty,pos,aft,none⟩:=
 zB6 (.int k u) (.int k v) (.bool r) hx hy (fun W=>by cases op<;>simp [eqGuard]) (fun W=>by
  cases op<;>first
   |exact absurd ho Bool.false_ne_true
   |(subst hr;simp [binOp,Op.intCmp])) hd
theorem qF {t:TypeId} {x y:Operand} {t':TypeId} (k:IntKind) (u v r:Int) (hx: ∀q W,(fct G x).p q W->q= .int k u) (hy: ∀q W,(fct G y).p q W->q= .int k v) (hr:k.wrap (u+v)=r) (hd: ∀W,(G d).p (.int k r) W:=by exact fun _=>rfl):qK F m P w0 ops G ⟨some d, .binOp .add t x y t',ty,pos,aft,none⟩:=
 zB6 (.int k u) (.int k v) (.int k r) hx hy (fun W=>by simp [eqGuard]) (fun W=>by simp [binOp,Op.intArith,hr]) hd
theorem zQI {x y:Operand} {ats:Array TypeId} (u v:Int) (hx: ∀q W,(fct G x).p q W->q= .int .i64 u) (hy: ∀q W,(fct G y).p q W->q= .int .i64 v) (hd: ∀W,(G d).p (.int .i64 (min u v)) W:=by exact fun _=>rfl):qK F m P w0 ops G ⟨some d, .call ⟨.builtin .min,#[x,y],ats⟩,ty,pos,aft,none⟩:=by
 intro b W K Q hb hr hK
 have e1:=hx _ _ (qB hr (x:=x) (by simp [Op.operands,Call.operands]))
 have e2:=hy _ _ (qB hr (x:=y) (by simp [Op.operands,Call.operands]))
 refine ⟨fun f hf=>(by
  unfold Oper.about at hf
  simp [resolve,go_sem] at hf), ?_⟩
 rw [Oper.semAt_eq _ _ _ (fun _ e=>by cases e)]
 have:(execOp b.eval ⟨some d, .call ⟨.builtin .min,#[x,y],ats⟩,ty,pos,aft,none⟩).run P W= .ok (.value (.int .i64 (min u v))) W:=by
  have h:min u v=if v<u then v else u:=by split<;>omega
  simp [execOp,resolve,invoke,builtin,e1,e2,Builtin.min_,Builtin.min2,h]
 rw [this]
 exact hK _ _ (fun d' e'=>by cases e';exact hd _) (Below.refl _ _)
theorem zDP {x:Operand} {t:TypeId} {z:Nat} {Cs:List CU} (ht:P.underlying t=some (.slice (P.elem t))) (hx: ∀v W,(fct G x).p v W->(SF.row z Cs).p v W:=by exact fun _ _ h=>h) (hd: ∀W,(G d).p (.int .i64 (Cs.length:Nat)) W:=by exact fun _=>rfl):qK F m P w0 ops G ⟨some d, .call ⟨.builtin .len,#[x],#[t]⟩,ty,pos,aft,none⟩:=
 zFv ht fun v W h=>by
  obtain ⟨A,c,e,_⟩:=hx v W h
  exact ⟨A,Cs.length,c,e,hd W⟩
end
section
variable {S:Nat->Prop} {F:Fence} {m:Nat} {P:Program} {Q:Exit->Act->World->Prop} {w0:World} {K:List (Nat×KF)} {B:List Bx} {n:Nat} {ds:List Deferred} {a:Act} {w:World}
theorem zPV {c:Code} (N i:Nat) (Kf:Nat->List (Nat×KF)) (hi: ∀k,(i,KF.u (fI (k:Nat)))∈Kf k) (h0:StS S w0 (Kf 0) B n ds a w)
  (round: ∀k a w,k<=N->StS S w0 (Kf k) B n ds a w->c.wpIn F m P (Exit.then (fun a' w'=>k<N/\StS S w0 (Kf (k+1)) B n ds a' w') Q) a w):(Code.loop c).wpIn F m P Q a w:=by
 refine wpIn_loop (fun a w=> ∃k,k<=N/\StS S w0 (Kf k) B n ds a w) (fun a _=>N+1 - (match a.tmps.getD i undef with| .int _ z=>z.toNat|_=>0)) ⟨0,Nat.zero_le _,h0⟩ ?_
 rintro a w ⟨k,hk,hA⟩
 refine Code.wpIn_mono ?_ (round k a w hk hA)
 intro e a' w' h
 cases e with
 |normal=>
  obtain ⟨h1,h2⟩:k<N/\StS S w0 (Kf (k+1)) B n ds a' w':=h
  refine ⟨⟨k+1,h1,h2⟩, ?_⟩
  have e1:a.tmps.getD i undef= .int .i64 (k:Nat):=hA.sl _ (hi k)
  have e2:a'.tmps.getD i undef= .int .i64 ((k+1:Nat):Int):=h2.sl _ (hi (k+1))
  simp only [e1,e2,Int.toNat_natCast]
  have h3:N+1 - (k+1)<N+1 - k:=by omega
  exact h3
 |_=>exact h
end
theorem zQp {W:World} {m:Nat} {v:Value} {k:Int} (h:UV W m v k) (hm:m<=90000):Calls Tryz.prog 127 #[v] W (zGu W (-k)):=by
 obtain ⟨s,A,n,c,l,rfl,h1,h2,h3,rfl⟩:=h
 exact (zGQ s A n c l W h1 h2 oN).mono fun _ _=>qL.v
theorem zFT {W:World} {m:Nat} {v:Value} {k:Int} (h:UV W m v k) (hm:m<=90000):Calls Tryz.prog 110 #[v] W (zGu W k):=by
 obtain ⟨s,A,n,c,l,rfl,h1,h2,h3,rfl⟩:=h
 exact (zAj s A n c l W h1 h2 oN).mono fun _ _=>qL.v
theorem zIO {W:World} {m:Nat} {v:Value} {k:Int} (h:UV W m v k) (hm:m<=90000):Calls Tryz.prog 86 #[v] W fun e w'=>e= .returned (.int .i64 k.sign)/\Below W.heap.size W w':=by
 obtain ⟨s,A,n,c,l,rfl,h1,h2,h3,rfl⟩:=h
 exact zJX s A n c l W h1 h2 oN
theorem zQo {W:World} {m:Nat} {v v':Value} {k k':Int} (h:UV W m v k) (h':UV W m v' k') (hm:m<=90000):Calls Tryz.prog 87 #[v,v'] W (zGu W (k - k')):=by
 obtain ⟨s,A,n,c,l,rfl,h1,h2,h3,rfl⟩:=h
 obtain ⟨s',A',n',c',l',rfl,h1',h2',h3',rfl⟩:=h'
 exact (zLf s A n c l s' A' n' c' l' W h1 h2 h1' h2' m h3 h3' hm).mono fun _ _=>qL.v
theorem zRM {W:World} (k:Int) (h: -9223372036854775808<=k/\k<=9223372036854775807):Calls Tryz.prog 71 #[.int .i64 k] W (zGu W k):=
 (zIP k h.1 h.2 W).mono fun _ _=>qL.v
theorem zQr {W:World} {m:Nat} {v:Value} {ks:List Int} {k:Int} (h:ISV W m v ks) (hm:m<=2000) (hn:ks.length<=1000) (hk:ks.sum=k):Calls Tryz.prog 126 #[v] W (zGu W k):=by
 obtain ⟨is,h1,h2⟩:=h
 have hl:is.length=ks.length:=by rw [<-h2,List.length_map]
 obtain ⟨A,c,e,h3,h4,h5⟩:=h1
 have hb: ∀j,j<=is.length->(zDC is j).natAbs<BB^(m+1000):=by
  intro j hj
  have key: ∀j,Bd (zDC is j) (m+j):=by
   intro j
   induction j with
   |zero=>exact Nat.pow_pos yY
   |succ j ih=>
    have e1:zDC is (j+1)=zDC is j+zDU is j:=rfl
    rw [e1]
    exact (ih.add ((show Bd (zDU is j) m from zGc h5 j).mono oN)).mono oN
  exact (key j).mono oN
 have:=zQs (m+1000) (⟨A,c,e,h3,h4,h5⟩:IS W m v is) oN oN oN hb
 rw [zE5 is is.length (Nat.le_refl _),List.take_length,h2,hk] at this
 exact this
theorem zDH {W:World} {m:Nat} {v:Value} {ks:List Int} {k:Int} (h:ISV W m v ks) (hn:m*ks.length+m+1<=40000) (hk:ks.foldl (·*·) 1=k) (hl:ks.length<=1000):Calls Tryz.prog 69 #[v] W (zGu W k):=by
 obtain ⟨is,h1,h2⟩:=h
 have hl2:is.length=ks.length:=by rw [<-h2,List.length_map]
 obtain ⟨A,c,e,h3,h4,h5⟩:=h1
 have:=zQq (m*ks.length+m+1) (⟨A,c,e,h3,h4,h5⟩:IS W m v is) oN oN oN (fun k hk=>(zGe h5 k).mono (by
  have:m*k<=m*ks.length:=Nat.mul_le_mul_left _ oN
  omega))
 rw [zDW is is.length (Nat.le_refl _),List.take_length,h2,hk] at this
 exact this
end Go.Proofs.Wd

namespace Go.Proofs.Wd
open Go.RowKit
section
variable {S:Nat->Prop} {w0:World} {K:List (Nat×KF)} {B:List Bx} {n:Nat} {ds:List Deferred} {a:Act} {w:World}
theorem zL {c:Prop} {f:SF} {v:Value} {W:World} (e:c) (h:(SF.imp c f).p v W):f.p v W:=h e
def zAK (K0 K:List (Nat×KF)) (B:List Bx) (a:Act) (t:Nat):SF:=if t∈K.map (·.1)++B.map (·.t) then ⟨fun v W=>(jH (K0++K) B t).p v W/\v=a.tmps.getD t undef,fun _ _ _ h hb=>⟨(jH (K0++K) B t).st _ _ _ h.1 hb,h.2⟩⟩ else jH (K0++K) B t
variable {F:Fence} {m:Nat} {P:Program} {ops:Array Oper} {Q:Exit->Act->World->Prop}
theorem zEI (K0:List (Nat×KF)) (k:Nat) (L:List (Nat×Rw)) (h:StS S w0 (K0++K) B n ds a w) {Goal:Prop} {Fin:Act->World->Prop}
  (hT: ∀G':Nat->SF,At w G' n ds a w->Obs F m P w ops (upd G' (zM L)) (ops.toList.take k)->(∀a' w',At w (zCn ops k (upd G' (zM L))) n ds a' w'->Fin a' w')->Goal)
  (hap:qX ops=true) (hks:((L.map (·.1)).all fun t=>(List.range k).any fun i=>zW ops i==some t)=true) (hun:zAJ ops (K.map (·.1)++B.map (·.t))=true) (hnd:zAs (L.map (·.1))=true)
  (hobs:Obs F m P w ops (upd (jH (K0++K) B) (zM L)) (ops.toList.take k))
  (hfin: ∀a w,StS S w0 (zBm L++K) B n ds a w->(∀q,q∈zM L->q.2.p (a.tmps.getD q.1 undef) w)->Fin a w):Goal:=by
 have hkeys:(zM L).map (·.1)=L.map (·.1):=by simp [zM]
 have hsame: ∀t,t∈K.map (·.1)++B.map (·.t)-> ∀i,zW ops i≠some t:=fun t ht i hi=>by
  have h1:=List.all_eq_true.1 hun t ht
  obtain ⟨o,ho,_⟩:=yZ hi
  have h2:=List.all_eq_true.1 h1 i (List.mem_range.2 (Array.getElem?_eq_some_iff.1 ho).1)
  rw [hi] at h2
  simp at h2
 have hv: ∀t,t∈K.map (·.1)++B.map (·.t)->a.tmps.getD t undef=a.tmps.getD t undef:=fun _ _=>rfl
 -- the slots of K and B stay: a table that says so
 have hA:=h.at
 refine hT (zAK K0 K B a) ⟨hA.gr,hA.size,hA.nd,fun t=> ?_⟩ ?_ fun a' w' hA'=> ?_
 ·by_cases ht:t∈K.map (·.1)++B.map (·.t)
  ·unfold zAK;rw [if_pos ht];exact ⟨hA.sl t,rfl⟩
  ·unfold zAK;rw [if_neg ht];exact hA.sl t
 ·-- the obligations hold with the stronger table
  have hkn: ∀t,t∈K.map (·.1)++B.map (·.t)->((zM L).map (·.1)).contains t=false:=fun t ht=>by
   cases hc:((zM L).map (·.1)).contains t with
   |false=>rfl
   |true=>
    exfalso
    have hm:=List.contains_iff_mem.1 hc
    rw [hkeys] at hm
    obtain ⟨i,_,he⟩:=List.any_eq_true.1 (List.all_eq_true.1 hks t hm)
    exact hsame t ht i (by simpa using he)
  have hle: ∀t v W,(upd (zAK K0 K B a) (zM L) t).p v W->(upd (jH (K0++K) B) (zM L) t).p v W:=fun t v W hh=>by
   by_cases ht:t∈K.map (·.1)++B.map (·.t)
   ·rw [jC (hkn t ht)] at hh ⊢
    unfold zAK at hh
    rw [if_pos ht] at hh
    exact hh.1
   ·have: ∀l:List (Nat×SF),upd (zAK K0 K B a) l t=upd (jH (K0++K) B) l t:=fun l=>by
     induction l with
     |nil=>exact if_neg ht
     |cons q l ih=>
      show (bif Nat.beq q.1 t then q.2 else upd _ l t)=(bif Nat.beq q.1 t then q.2 else upd _ l t)
      rw [ih]
    rwa [this] at hh
  have hge: ∀t,(∃i,zW ops i=some t)-> ∀v W,(upd (jH (K0++K) B) (zM L) t).p v W->(upd (zAK K0 K B a) (zM L) t).p v W:=fun t ⟨i,hi⟩ v W hh=>by
   have ht: ¬t∈K.map (·.1)++B.map (·.t):=fun ht=>hsame t ht i hi
   have: ∀l:List (Nat×SF),upd (zAK K0 K B a) l t=upd (jH (K0++K) B) l t:=fun l=>by
    induction l with
    |nil=>exact if_neg ht
    |cons q l ih=>
     show (bif Nat.beq q.1 t then q.2 else upd _ l t)=(bif Nat.beq q.1 t then q.2 else upd _ l t)
     rw [ih]
   rwa [this]
  have hconv: ∀(o:Oper),o∈ops.toList->qK F m P w ops (upd (jH (K0++K) B) (zM L)) o->qK F m P w ops (upd (zAK K0 K B a) (zM L)) o:=by
   intro o ho hg
   have hdst: ∀d,o.dst=some d-> ∃i,zW ops i=some d:=fun d hd=>by
    obtain ⟨i,hi⟩:=List.getElem?_of_mem ho
    exact ⟨i,by rw [qH (o:=o) (by simpa using hi)];exact hd⟩
   have hop:zKn F m P w (upd (jH (K0++K) B) (zM L)) o->zKn F m P w (upd (zAK K0 K B a) (zM L)) o:=fun h1 b W K' Q' hb hr hK'=>
    h1 b W K' Q' hb (fun t ht=>hle t _ _ (hr t ht)) fun v W' hv hb'=>hK' v W' (fun d hd=>hge d (hdst d hd) _ _ (hv d hd)) hb'
   unfold qK at hg ⊢
   cases hgd:o.guard with
   |none=>rw [hgd] at hg;exact hop hg
   |some q=>
    rw [hgd] at hg
    obtain ⟨g,bv,h1,h2,h3,h4⟩:=hg
    exact ⟨g,bv,h1,fun v W hh=>h2 v W (hle g v W hh),fun e=>hop (h3 e),fun e=>⟨fun d hd W=>hge d (hdst d hd) _ _ ((h4 e).1 d hd W),(h4 e).2⟩⟩
  have hall: ∀l:List Oper,(∀o,o∈l->o∈ops.toList)->Obs F m P w ops (upd (jH (K0++K) B) (zM L)) l->Obs F m P w ops (upd (zAK K0 K B a) (zM L)) l:=by
   intro l
   induction l with
   |nil=>intro _ _;trivial
   |cons o l ih=>intro hm ho;exact ⟨hconv o (hm o (by simp)) ho.1,ih (fun o' ho'=>hm o' (by simp [ho'])) ho.2⟩
  exact hall _ (fun o ho=>List.mem_of_mem_take ho) hobs
 ·have hg:=hA'.gr
  have hslot: ∀t,t∈K.map (·.1)++B.map (·.t)->a'.tmps.getD t undef=a.tmps.getD t undef:=fun t ht=>by
   have h1:=hA'.sl t
   unfold zCn at h1
   have h2:((List.range ops.size).any fun i=>decide (k<=i)&&(zW ops i==some t))=false:=by
    refine List.any_eq_false.2 fun i _=> ?_
    have:=hsame t ht i
    simp [this]
   rw [h2] at h1
   have h3:((zM L).map (·.1)).contains t=false:=by
    cases hc:((zM L).map (·.1)).contains t with
    |false=>rfl
    |true=>
     exfalso
     have hm:=List.contains_iff_mem.1 hc
     rw [hkeys] at hm
     obtain ⟨i,_,he⟩:=List.any_eq_true.1 (List.all_eq_true.1 hks t hm)
     exact hsame t ht i (by simpa using he)
   rw [show (bif false then SF.any else upd _ (zM L) t)=upd _ (zM L) t from rfl,jC h3,zAK,if_pos ht] at h1
   exact h1.2
  have hrow: ∀q,q∈zM L->q.2.p (a'.tmps.getD q.1 undef) w':=fun q hm2=>by
   have h1:=hA'.sl q.1
   obtain ⟨i,hi,he⟩:=List.any_eq_true.1 (List.all_eq_true.1 hks q.1 (by rw [<-hkeys];exact List.mem_map.2 ⟨_,hm2,rfl⟩))
   have hik:=List.mem_range.1 hi
   have he:zW ops i=some q.1:=by simpa using he
   unfold zCn at h1
   have h2:((List.range ops.size).any fun j=>decide (k<=j)&&(zW ops j==some q.1))=false:=by
    refine List.any_eq_false.2 fun j _=> ?_
    by_cases hj:k<=j
    ·have:zW ops j≠some q.1:=fun e=>by
      obtain ⟨oi,ho1,hd1⟩:=yZ he
      obtain ⟨oj,ho2,hd2⟩:=yZ e
      exact jW hap ho1 ho2 oN hd1 hd2
     simp [this]
    ·simp [hj]
   rw [h2,show (bif false then SF.any else upd (zAK K0 K B a) (zM L) q.1)=upd (zAK K0 K B a) (zM L) q.1 from rfl,zBQ (q:=q) (by rw [hkeys];exact hnd) hm2] at h1
   exact h1
  refine hfin a' w' ⟨h.gr.trans hg,hA'.size,hA'.nd,fun q hq=> ?_,h.bx.keep hg (zT hg) B fun x hx=>hslot _ (List.mem_append_right _ (List.mem_map.2 ⟨x,hx,rfl⟩)),zAe h.mks hg,h.so.imp (fun hu q hq=>(by
   rcases List.mem_append.1 hq with hq|hq
   ·obtain ⟨f,e,_⟩:=jA hq;exact ⟨f,e⟩
   ·exact hu q (List.mem_append_right _ hq))) (fun x=>x)⟩ hrow
  rcases List.mem_append.1 hq with hq|hq
  ·obtain ⟨f,hqf,hm⟩:=jA hq
   have h1:=hrow (q.1,f.toSF) (List.mem_map.2 ⟨_,hm,rfl⟩)
   rw [hqf]
   exact h1
  ·rw [hslot q.1 (List.mem_append_left _ (List.mem_map.2 ⟨q,hq,rfl⟩))]
   exact KF.us (h.sl q (List.mem_append_right _ hq)) (zT hg)
theorem zHQ {id:Nat} (K0:List (Nat×KF)) (pre:List Nat) (k:Nat) (L:List (Nat×Rw)) (hmix:P.follows .mixedOrders=true) (h:StS S w0 (K0++K) B n ds a w)
  (hchk:(zBu ops pre k n (L.map (·.1))&&zAJ ops (K.map (·.1)++B.map (·.t))&&zAs (L.map (·.1)))=true)
  (hobs:Obs F m P w ops (upd (jH (K0++K) B) (zM L)) (ops.toList.take k))
  (hfin: ∀Q',(∀a w,Q .normal a w->Q' .normal a w)-> ∀a w,StS S w0 (zBm L++K) B n ds a w->zBj F m P ops Q' k a w):(Code.region id ops true).wpIn F m P Q a w:=by
 simp only [Bool.and_eq_true] at hchk
 have hkeys:(zM L).map (·.1)=L.map (·.1):=by simp [zM]
 have h0:=hchk.1.1
 unfold zBu at h0
 simp only [Bool.and_eq_true] at h0
 obtain ⟨⟨⟨⟨⟨⟨⟨⟨⟨⟨⟨⟨⟨⟨⟨hap,_⟩,_⟩,_⟩,_⟩,hks⟩,_⟩,_⟩,_⟩,_⟩,_⟩,_⟩,_⟩,_⟩,_⟩,_⟩:=h0
 exact zEI K0 k L h (fun G' hA hO hF=>zCh pre k (zM L) hmix (by rw [hkeys];exact hchk.1.1) hA hO hF) hap hks hchk.1.2 hchk.2 hobs (fun a w h _=>hfin (y8 Q) (fun a w h=>h) a w h)
end
theorem zDp {p:Nat->Prop}: ∀n,p n-> ∃s,p s/\ ∀k,k<s-> ¬p k:=by
 intro n
 induction n using Nat.strongRecOn with
 | _ n ih=>
  intro hn
  by_cases h: ∃k,k<n/\p k
  ·obtain ⟨k,hk,hp⟩:=h
   exact ih k hk hp
  ·exact ⟨n,hn,fun k hk hp=>h ⟨k,hk,hp⟩⟩
section
variable {S:Nat->Prop} {F:Fence} {m:Nat} {P:Program} {Q:Exit->Act->World->Prop} {w0:World} {K:List (Nat×KF)} {B:List Bx} {n:Nat} {ds:List Deferred} {a:Act} {w:World}
theorem zIt {σ:Type} {c:Code} (I:σ->Prop) (Kf:σ->List (Nat×KF)) (Bf:σ->List Bx) (Df:σ->List Deferred) (mu:σ->Nat) (x0:σ) (hI:I x0) (h0:StS S w0 (Kf x0) (Bf x0) n (Df x0) a w)
  (round: ∀x a w,I x->StS S w0 (Kf x) (Bf x) n (Df x) a w->c.wpIn F m P (Exit.then (fun a' w'=> ∃y,I y/\mu y<mu x/\StS S w0 (Kf y) (Bf y) n (Df y) a' w') Q) a w):(Code.loop c).wpIn F m P Q a w:=by
 have low: ∀a w,(∃k, ∃x,I x/\mu x=k/\StS S w0 (Kf x) (Bf x) n (Df x) a w)-> ∃k,(∃x,I x/\mu x=k/\StS S w0 (Kf x) (Bf x) n (Df x) a w)/\ ∀j,j<k-> ¬ ∃x,I x/\mu x=j/\StS S w0 (Kf x) (Bf x) n (Df x) a w:=
  fun a w ⟨k,hk⟩=>zDp k hk
 open Classical in
 refine wpIn_loop (fun a w=> ∃k, ∃x,I x/\mu x=k/\StS S w0 (Kf x) (Bf x) n (Df x) a w) (fun a w=>if h: ∃k, ∃x,I x/\mu x=k/\StS S w0 (Kf x) (Bf x) n (Df x) a w then Classical.choose (low a w h) else 0) ⟨_,x0,hI,rfl,h0⟩ ?_
 rintro a w hA
 have e0:=Classical.choose_spec (low a w hA)
 obtain ⟨x,hx,hm,hst⟩:=e0.1
 refine Code.wpIn_mono ?_ (round x a w hx hst)
 intro e a' w' h
 cases e with
 |normal=>
  obtain ⟨y,h1,h2,h3⟩: ∃y,I y/\mu y<mu x/\StS S w0 (Kf y) (Bf y) n (Df y) a' w':=h
  have hA': ∃k, ∃x,I x/\mu x=k/\StS S w0 (Kf x) (Bf x) n (Df x) a' w':=⟨_,y,h1,rfl,h3⟩
  refine ⟨hA', ?_⟩
  simp only [dif_pos hA,dif_pos hA']
  have e1:=Classical.choose_spec (low a' w' hA')
  have:Classical.choose (low a' w' hA')<=mu y:=Nat.not_lt.1 fun hlt=>e1.2 _ hlt ⟨y,h1,rfl,h3⟩
  omega
 |_=>exact h
theorem zGC {σ:Type} {c:Code} (t:Nat) (Cf:σ->CU) (I:σ->Prop) (Kf:σ->List (Nat×KF)) (mu:σ->Nat) (x0:σ) (hI:I x0) (h0:StS S w0 (Kf x0) B n ds a w) (hB:zEK B t (Cf x0)=B)
  (round: ∀x a w,I x->StS S w0 (Kf x) (zEK B t (Cf x)) n ds a w->c.wpIn F m P (Exit.then (fun a' w'=> ∃y,I y/\mu y<mu x/\StS S w0 (Kf y) (zEK B t (Cf y)) n ds a' w') Q) a w):(Code.loop c).wpIn F m P Q a w:=
 zIt I Kf (fun x=>zEK B t (Cf x)) (fun _=>ds) mu x0 hI (by rw [hB];exact h0) round
theorem zBF {σ:Type} {c:Code} (I:σ->Prop) (Kf:σ->List (Nat×KF)) (mu:σ->Nat) (x0:σ) (hI:I x0) (h0:StS S w0 (Kf x0) B n ds a w)
  (round: ∀x a w,I x->StS S w0 (Kf x) B n ds a w->c.wpIn F m P (Exit.then (fun a' w'=> ∃y,I y/\mu y<mu x/\StS S w0 (Kf y) B n ds a' w') Q) a w):(Code.loop c).wpIn F m P Q a w:=
 zIt I Kf (fun _=>B) (fun _=>ds) mu x0 hI h0 round
theorem StS.popB {x:Bx} (h:StS S w0 K (x::B) n ds a w):StS S w0 K B n ds a w:=⟨h.gr,h.size,h.nd,h.sl,h.bx.2,h.mks,h.so⟩
theorem StS.renew (h:St w0 K B n ds a w) (K':List (Nat×KF)) (hK: ∀q,q∈K'->q∈K∨ ∃g,q.2=KF.u g/\(q.1,KF.o g.toSF)∈K):St w0 K' B n ds a w:=
 ⟨h.gr,h.size,h.nd,fun q hq=>by
  rcases hK q hq with h1|⟨g,e,h1⟩
  ·exact h.sl q h1
  ·have:=h.sl _ h1
   rw [e]
   exact g.us _ _ _ this (zT h.gr.below),h.bx,h.mks, .inr fun _ h=>h⟩
end
end Go.Proofs.Wd

namespace Go.Proofs.Wd
open Go.RowKit
structure NewB where
 i:Nat
 d:Nat
 e:TypeId
 cs:List Value
 f:SF
def SF.isIn (f:SF) (L:List (Nat×SF)) (d:Nat):Prop:=(d,f)∈L
def zMW (al:List NewB) (a:Act):Prop:= ∀q q',q∈al->q'∈al->q.i≠q'.i-> ∀b b',blk (a.tmps.getD q.d undef)=some b->blk (a.tmps.getD q'.d undef)=some b'->b≠b'
section
variable {S:Nat->Prop} {w0:World} {K:List (Nat×KF)} {B:List Bx} {n:Nat} {ds:List Deferred} {a:Act} {w:World} {F:Fence} {m:Nat} {P:Program} {ops:Array Oper} {Q:Exit->Act->World->Prop}
theorem zCk {te:TypeId} {cs:List Value} {W:World} {C:CU} (hC: ∀W,C.p cs W) (hn:cs.all yG=true) (v:Value) (w:World) (h:(SF.own W te cs).p v w):(SF.newBox W te C).p v w:=by
 obtain ⟨b,h1,h2,h3⟩:=h
 exact ⟨b,cs,h1,h2,h3,hC w,hn⟩
theorem StS.adoptA (h:StS S w0 K B n ds a w) {W:World} {te:TypeId} {C:CU} (r:Bool) (t:Nat) (hv:(SF.newBox W te C).p (a.tmps.getD t undef) w) (hW:BlS S w0 W) (hB: ∀y,y∈B->y.b<W.heap.size∨(r=true/\y.r=true)∨ ∀b,blk (a.tmps.getD t undef)=some b->y.b≠b): ∃b,W.heap.size<=b/\blk (a.tmps.getD t undef)=some b/\StS S w0 K (⟨t,te,C,b,r⟩::B) n ds a w:=by
 obtain ⟨b,cs,h1,h2,h3,h4,h5⟩:=hv
 refine ⟨b,h2,by rw [h1];rfl,h.gr,h.size,h.nd,h.sl,⟨⟨cs,h1, .inr (.inl (Nat.le_trans hW.size h2)),h3,h4,h5,fun y hy=> ?_⟩,h.bx⟩,h.mks,h.so⟩
 rcases hB y hy with e|e|e
 ·left
  show y.b≠b
  omega
 ·exact .inr e
 ·exact .inl (e b (by rw [h1];rfl))
end
/-! ### Answers of a function that ranges over functions -/
theorem zLZ {B:Nat} {W W':World} (h:Oth B W W'):jO W W':=fun p _ hp=>(h.cell p).trans hp
theorem UF.oth (f:UF) {B:Nat} {v:Value} {W W':World} (h:Oth B W W') (hv:f.p v W):f.p v W':=f.us _ _ _ hv (zLZ h)
theorem zLx {B b:Nat} {W W':World} (h:Oth B W W') {cs:Array Value} {t:TypeId} {z:Nat×Nat} (hc:W.heap[b]?=some (.cells cs t z)):W'.heap[b]?=some (.cells cs t z):=by
 rcases h.block b with e|⟨_,⟨o,ho,hn⟩,_⟩
 ·exact e.trans hc
 ·rw [hc] at ho
  cases ho
  cases hn
section
variable {S:Nat->Prop} {F:Fence} {m:Nat} {P:Program} {Q:Exit->Act->World->Prop} {w0:World} {K:List (Nat×KF)} {B:List Bx} {n:Nat} {ds:List Deferred} {a:Act} {w:World}
theorem StS.resM (h:St w0 K B n ds a w) {fn:Func} {f:SF} {v:Value} (hr: ∀w',Oth w0.heap.size w w'->(results fn a.tmps).run P w'= .ok v w') (hv: ∀w',Oth w0.heap.size w w'->f.p v w'):bodyPostM Fence.wide 0 P fn (Ret w0 f) .ret a w:=by
 obtain ⟨Ds,hm⟩:=h.mks
 show LeavesInM Fence.wide 0 P fn a.tmps (Ret w0 f) a.defers .returning w
 rw [h.nd]
 exact y7 w hr Ds _ w hm (Oth.refl _ _) fun w' ho=>⟨v,rfl,hv w' ho,jZ h.gr.below ho lr⟩
theorem StS.resM1 (h:St w0 K B n ds a w) {fn:Func} (f:UF) {t:Nat} (hr:fn.results=#[.tmp t]) (hd: ∀v W,(jH K B t).p v W->f.p v W):bodyPostM Fence.wide 0 P fn (Ret w0 f.toSF) .ret a w:=
 h.resM (v:=a.tmps.getD t undef) (fun w' _=>by simp [results,hr]) fun w' ho=>f.oth ho (hd _ _ (h.at.sl t))
def inB (B:List Bx) (k:Nat):Prop:= ∃x,x∈B/\x.b=k/\x.r=false
structure Rnd (N:Nat) (C:Nat->Prop) (W W':World):Prop where
 os:W'.os=W.os
 tape:W'.tape=W.tape
 output:W'.output=W.output
 size:W.heap.size<=W'.heap.size
 low: ∀k:Nat,k<N-> ¬C k->W'.heap[k]?=W.heap[k]?
 cells: ∀(k:Nat) (o:Obj),W.heap[k]?=some o->o.isCells=true-> ¬C k->W'.heap[k]?=some o
 keep:jO W W'
structure Itr (N:Nat) (W W':World):Prop where
 os:W'.os=W.os
 tape:W'.tape=W.tape
 output:W'.output=W.output
 size:W.heap.size<=W'.heap.size
 low: ∀k:Nat,k<N->W'.heap[k]?=W.heap[k]?
 oth: ∀(k:Nat) (o:Obj),W.heap[k]?=some o->o.isCells=false->W'.heap[k]?=some o
 keep:jO W W'
def Ev (Ef:Nat->List UF) (k:Nat) (xs:Array Value) (W:World):Prop:=xs.size=(Ef k).length/\ ∀(j:Nat) (f:UF),(Ef k)[j]?=some f->f.p (xs.getD j undef) W
def ItC (P:Program) (gf:Nat) (lb:Array Value) (Ef:Nat->List UF) (N:Nat) (endless:Prop) (C:Nat->Prop) (w:World):Prop:=
 ∀(l:Nat) (J:Nat->World->Prop) (Z:World->Prop) (W:World),w.heap.size<=W.heap.size->Below w.heap.size w W->jO w W->
  (∀k W1 W2,J k W1->Itr W.heap.size W1 W2->J k W2)->(∀W1 W2,Z W1->Itr W.heap.size W1 W2->Z W2)->(endless-> ∀W, ¬J N W)->
  (∀k W1 xs,k<N->J k W1->Ev Ef k xs W1->YieldAt Fence.wide 0 P l xs W1 fun e W'=>((e= .returned (.bool true)/\J (k+1) W')∨(e= .returned (.bool false)/\Z W'))/\Rnd w.heap.size C W1 W')->
  J 0 W->Calls P gf (#[.func (.yield l) #[] #[]]++lb) W fun e W'=>(∃v,e= .returned v)/\(J N W'∨Z W')
theorem yQ.mix {S':Nat->Prop} {w1 W W':World} {a1:Act}: ∀(B B':List Bx),B'.map (fun x=>(x.t,x.e,x.b,x.r))=B.map (fun x=>(x.t,x.e,x.b,x.r))->yQ S w0 a W B->yQ S' w1 a1 W' B'->yQ S w0 a W' B'
 | [], [],_,_,_=>trivial
 | [],_::_,e,_,_=>by cases e
 |_::_, [],e,_,_=>by cases e
 |x::B,x'::B',e,h,h'=>by
  simp only [List.map_cons,List.cons.injEq,Prod.mk.injEq] at e
  obtain ⟨⟨e1,e2,e3,e4⟩,e5⟩:=e
  obtain ⟨⟨cs,h1,h2,_⟩,hr⟩:=h
  obtain ⟨⟨cs',_,_,g3,g4,g5,g6⟩,gr⟩:=h'
  exact ⟨⟨cs',by rw [e1,e3];exact h1,by rw [e3,e4];exact h2,g3,g4,g5,g6⟩,yQ.mix B B' e5 hr gr⟩
theorem yQ.over {S':Nat->Prop} {w1 W:World} {a1:Act}: ∀(B:List Bx),(∀x,x∈B->x.r=true∨w1.heap.size<=x.b∨S' x.b)->(∀x,x∈B->a1.tmps.getD x.t undef=a.tmps.getD x.t undef)->yQ S w0 a W B->yQ S' w1 a1 W B
 | [],_,_,_=>trivial
 |x::B,hS,hsl,h=>by
  obtain ⟨⟨cs,h1,_,h3⟩,hr⟩:=h
  exact ⟨⟨cs,(hsl x (List.mem_cons_self ..)).trans h1,hS x (List.mem_cons_self ..),h3⟩,yQ.over B (fun y hy=>hS y (List.mem_cons_of_mem _ hy)) (fun y hy=>hsl y (List.mem_cons_of_mem _ hy)) hr⟩
theorem yQ.stay {W W':World} (hk:jO W W'): ∀(B:List Bx),(∀x,x∈B->W'.heap[x.b]?=W.heap[x.b]?)->yQ S w0 a W B->yQ S w0 a W' B
 | [],_,_=>trivial
 |x::B,hs,h=>by
  obtain ⟨⟨cs,h1,h2,h3,h4,h5⟩,hr⟩:=h
  exact ⟨⟨cs,h1,h2,(hs x (List.mem_cons_self ..)).trans h3,x.c.us _ _ _ h4 hk,h5⟩,yQ.stay hk B (fun y hy=>hs y (List.mem_cons_of_mem _ hy)) hr⟩
theorem zDY {W:World} {b:Nat} {cs:List Value} {t:TypeId} {z:Nat×Nat} (h3:W.heap[b]?=some (.cells cs.toArray t z)) (h5:cs.all yG=true) {q:Addr} (hq:q.block=b) {u:Value} (hu:W.cell? q=some u):yG u=true:=by
 have h6:W.cell? q=if q.spot.isSome then none else cs.toArray[q.off]?:=by
  unfold World.cell?
  rw [hq,h3]
 rw [h6] at hu
 split at hu
 ·cases hu
 ·exact List.all_eq_true.1 h5 _ (List.mem_of_getElem? (by simpa using hu))
theorem zBi {W:World} {b:Nat} {o:Obj} (h:W.heap[b]?=some o) (hc:o.isCells=false) {q:Addr} (hq:q.block=b):W.cell? q=none:=zDz (a:=q) (by rw [hq];exact h) hc
theorem zE4 {W W':World} {l:Nat} {o:Obj} (hb:BlS (fun k=>inB B k∨k=l) W W') (hbx:yQ S w0 a W B) (ho:W.heap[l]?=some o) (hc:o.isCells=false):jO W W':=fun q u hq=>by
 have hlt:=World.block_lt_of_cell? W _ hq
 by_cases e:inB B q.block∨q.block=l
 ·exfalso
  rcases e with ⟨x,hx,e1,_⟩|e1
  ·obtain ⟨cs,_,_,h3,_,h5⟩:=hbx.mem x hx
   have:=zDY h3 h5 e1.symm hq
   cases this
  ·rw [zBi ho hc e1] at hq
   cases hq
 ·exact (World.cell?_of_block (hb.block _ hlt e)).trans hq
theorem StS.itr (h:StS S w0 K B n ds a w) {N:Nat} {w':World} (hi:Itr N w w') (hN:w0.heap.size<=N) (hB: ∀x,x∈B->x.b<N):StS S w0 K B n ds a w':=
 ⟨⟨hi.os.trans h.gr.os,hi.tape.trans h.gr.tape,hi.output.trans h.gr.output,Nat.le_trans h.gr.size hi.size,fun k hk hs=>(hi.low k (Nat.lt_of_lt_of_le hk hN)).trans (h.gr.block k hk hs)⟩,h.size,h.nd,fun q hq=>KF.us (h.sl q hq) hi.keep,
  yQ.stay hi.keep B (fun x hx=>hi.low _ (hB x hx)) h.bx,h.mks.imp fun _ hm=>hm.keep fun k o ho hc=>hi.oth k o ho hc,h.so⟩
theorem zMd {W W':World} {C:Nat->Prop} {N:Nat} (hb:BlS C W W') (_hN: ∀k,C k->k<W.heap.size) (hNW:N<=W.heap.size) {l:Nat} {o:Obj} (hl:N<=l) (ho:W.heap[l]?=some o) (hc:o.isCells=false) {C':Nat->Prop} (hC: ∀k,C k->C' k∨k=l) (hk:jO W W'):Rnd N C' W W':=by
 refine ⟨hb.os,hb.tape,hb.output,hb.size,fun k hk' hn=>hb.block k (Nat.lt_of_lt_of_le hk' hNW) fun hc'=> ?_,fun k o' hk' hcc hn=>(hb.block k (Array.getElem?_eq_some_iff.1 hk').1 fun hc'=> ?_).trans hk',hk⟩
 ·rcases hC k hc' with e|e
  ·exact hn e
  ·omega
 ·rcases hC k hc' with e|e
  ·exact hn e
  ·subst e
   rw [ho] at hk'
   cases hk'
   rw [hc] at hcc
   cases hcc
theorem StS.put (h:StS S w0 K B n ds a w) {l:Nat} {o o':Obj} (ho:w.heap[l]?=some o) (hc:o.isCells=false) (hD: ∀Ds,Marks w0.heap.size w ds Ds->l ∉ Ds) (hS:S l∨w0.heap.size<=l):StS S w0 K B n ds a (w.putObj l o'):=by
 have hk:jO w (w.putObj l o'):=fun q u hq=>by
  by_cases e:q.block=l
  ·rw [zBi ho hc e] at hq
   cases hq
  ·exact (World.cell?_of_block (World.putObj_heap_other e)).trans hq
 refine ⟨⟨h.gr.os,h.gr.tape,h.gr.output,by rw [World.putObj_size];exact h.gr.size,fun k hk' hs=>(World.putObj_heap_other (fun e=> ?_)).trans (h.gr.block k hk' hs)⟩,h.size,h.nd,fun q hq=>KF.us (h.sl q hq) hk,yQ.stay hk B (fun x hx=>World.putObj_heap_other fun e=> ?_) h.bx, ?_,h.so⟩
 ·subst e
  rcases hS with hS|hS
  ·exact hs hS
  ·omega
 ·obtain ⟨cs,_,_,h3,_⟩:=h.bx.mem x hx
  rw [e,ho] at h3
  cases h3
  cases hc
 ·obtain ⟨Ds,hm⟩:=h.mks
  refine ⟨Ds,hm.eq,hm.nodup,fun D hd=>⟨(hm.at_ D hd).1,(World.putObj_heap_other fun e=> ?_).trans (hm.at_ D hd).2⟩⟩
  subst e
  exact hD Ds hm hd
/-! ### The values that a round is handed -/
theorem zEA: ∀(L:List (Nat×Value)) (t:Array Value),(L.foldl (fun t (p,v)=>t.setIfInBounds p v) t).size=t.size
 | [],_=>rfl
 |_::L,t=>by rw [List.foldl_cons,zEA L];simp
theorem zBq (q:Nat): ∀(L:List (Nat×Value)) (t:Array Value),q ∉ L.map (·.1)->(L.foldl (fun t (p,v)=>t.setIfInBounds p v) t).getD q undef=t.getD q undef
 | [],_,_=>rfl
 |(p,v)::L,t,h=>by
  rw [List.map_cons,List.mem_cons,not_or] at h
  rw [List.foldl_cons,zBq q L _ h.2]
  exact zBn (fun e=>h.1 e.symm)
theorem zGv: ∀(L:List (Nat×Value)) (t:Array Value) (p:Nat) (v:Value),(L.map (·.1)).Nodup->(p,v)∈L->p<t.size->(L.foldl (fun t (p,v)=>t.setIfInBounds p v) t).getD p undef=v
 | (p',v')::L,t,p,v,hn,hm,ht=>by
  rw [List.map_cons,List.nodup_cons] at hn
  rw [List.foldl_cons]
  rcases List.mem_cons.1 hm with e|hm
  ·cases e
   rw [zBq _ L _ hn.1]
   simp [Array.getD_eq_getD_getElem?,ht]
  ·exact zGv L _ p v hn.2 hm (by simpa using ht)
theorem BlS.sub {S S':Nat->Prop} {w w':World} (h:BlS S w w') (hs: ∀k,S k->S' k):BlS S' w w':=⟨h.os,h.tape,h.output,h.size,fun k hk hn=>h.block k hk fun hh=>hn (hs k hh)⟩
theorem zHc: ∀{Ds Ds':List Nat},Ds.map mark=Ds'.map mark->Ds=Ds'
 | [], [],_=>rfl
 | [],_::_,e=>by cases e
 |_::_, [],e=>by cases e
 |D::Ds,D'::Ds',e=>by
  simp only [List.map_cons,List.cons.injEq] at e
  rw [zHc e.2,show D=D' from by simpa [mark] using e.1]
theorem StS.rebase {w':World} (h:StS S w0 K B n [] a w) (hk:jO w w') (hS: ∀q,w0.heap.size<=q->S q) (hb: ∀x,x∈B->w'.heap[x.b]?=w.heap[x.b]?):StS S w' K B n [] a w':=by
 have hu: ∀q,q∈K-> ∃f,q.2= .u f:=by
  rcases h.so with hu|hs
  ·exact hu
  ·exact absurd (hS w0.heap.size lr) (hs _)
 refine ⟨BlS.refl _ _,h.size,h.nd,fun q hq=> ?_,yQ.stay hk B hb (yQ.over B (fun x hx=> ?_) (fun _ _=>rfl) h.bx),⟨[],Marks.nil _ _⟩, .inl hu⟩
 ·obtain ⟨f,e⟩:=hu q hq
  have:=h.sl q hq
  rw [e] at this ⊢
  exact f.us _ _ _ this hk
 ·obtain ⟨_,_,hc,_⟩:=h.bx.mem x hx
  rcases hc with hc|hc|hc
  ·exact .inl hc
  ·exact .inr (.inr (hS _ hc))
  ·exact .inr (.inr hc)
theorem zAE: ∀{l:List Nat},zAs l=true->l.Nodup
 | [],_=>List.nodup_nil
 |x::l,h=>by
  unfold zAs at h
  rw [Bool.and_eq_true] at h
  refine List.nodup_cons.2 ⟨fun hm=> ?_,zAE h.2⟩
  rw [List.contains_iff_mem.2 hm] at h
  exact absurd h.1 (by decide)
/-! ### The range -/
def zSi:KF->Bool
 | .u _=>true
 | .o _=>false
def zUF (R1:Act->World->Prop) (cz:Code) (R2:Act->World->Prop):Exit->Act->World->Prop
 | .normal,a,W=>R1 a W
 | .exit id,a,W=>cz= .exit id/\R2 a W
 | .ret,a,W=>cz= .ret/\R2 a W
 | .goto t,a,W=>cz= .goto t/\R2 a W
 | .panic _,_,_=>False
 | .outgrown,_,_=>False
abbrev zGt (x:Bx):Nat×TypeId×Nat×Bool:=(x.t,x.e,x.b,x.r)
theorem zH8 {B B':List Bx} (e:B'.map zGt=B.map zGt) {k:Nat} (h:inB B' k):inB B k:=by
 obtain ⟨x,hx,h1,h2⟩:=h
 have:zGt x∈B.map zGt:=by rw [<-e];exact List.mem_map.2 ⟨x,hx,rfl⟩
 obtain ⟨y,hy,hxy⟩:=List.mem_map.1 this
 simp only [zGt,Prod.mk.injEq] at hxy
 exact ⟨y,hy,hxy.2.2.1.trans h1,hxy.2.2.2.trans h2⟩
theorem zIf {B B':List Bx} (e:B'.map zGt=B.map zGt) {x:Bx} (hx:x∈B'): ∃y,y∈B/\y.t=x.t/\y.b=x.b/\y.r=x.r:=by
 have:zGt x∈B.map zGt:=by rw [<-e];exact List.mem_map.2 ⟨x,hx,rfl⟩
 obtain ⟨y,hy,hxy⟩:=List.mem_map.1 this
 simp only [zGt,Prod.mk.injEq] at hxy
 exact ⟨y,hy,hxy.1,hxy.2.2.1,hxy.2.2.2⟩
theorem StS.turned (h:StS S w0 K B n ds a w) {B':List Bx} {S':Nat->Prop} {w1 w':World} {a1:Act} {l:Nat} {o:Obj} (hb:BlS (fun q=>inB B q∨q=l) w w') (ho:w.heap[l]?=some o) (hc:o.isCells=false) (hl:w0.heap.size<=l)
  (hD: ∀Ds,Marks w0.heap.size w ds Ds->l ∉ Ds) (hk:B'.map zGt=B.map zGt) (hx:yQ S' w1 a1 w' B'):StS S w0 K B' n ds a w':=by
 have hU:=zE4 hb h.bx ho hc
 have hin: ∀k,k<w0.heap.size-> ¬S k-> ¬(inB B k∨k=l):=fun k hk hs hh=>by
  rcases hh with ⟨x,hx,h1,h2⟩|hh
  ·obtain ⟨_,_,hc,_⟩:=h.bx.mem x hx
   rcases hc with hc|hc|hc
   ·rw [h2] at hc;cases hc
   ·omega
   ·exact hs (h1▸hc)
  ·omega
 refine ⟨⟨hb.os.trans h.gr.os,hb.tape.trans h.gr.tape,hb.output.trans h.gr.output,Nat.le_trans h.gr.size hb.size,fun k hk hs=>(hb.block k (Nat.lt_of_lt_of_le hk h.gr.size) (hin k hk hs)).trans (h.gr.block k hk hs)⟩,
  h.size,h.nd,fun q hq=>KF.us (h.sl q hq) hU,yQ.mix B B' hk h.bx hx, ?_,h.so⟩
 obtain ⟨Ds,hm⟩:=h.mks
 refine ⟨Ds,hm.eq,hm.nodup,fun D hd=>⟨(hm.at_ D hd).1,(hb.block D (hm.lt D hd) fun hh=> ?_).trans (hm.at_ D hd).2⟩⟩
 rcases hh with ⟨x,hx,h1,_⟩|hh
 ·obtain ⟨cs,_,_,h3,_⟩:=h.bx.mem x hx
  rw [h1,(hm.at_ D hd).2] at h3
  cases h3
 ·subst hh
  exact hD Ds hm hd
theorem StS.more (h:StS S w0 K B n ds a w) {D:Nat} (hB:w0.heap.size<=D) (hD:w.heap[D]?=some (.deferred (some []))) (hn: ∀Ds,Marks w0.heap.size w ds Ds->D ∉ Ds):StS S w0 K B n (mark D::ds) { a with defers:=mark D::a.defers } w:=
 ⟨h.gr,h.size,by rw [h.nd],h.sl,yQ.over (a:=a) B (fun x hx=>(h.bx.mem x hx).elim fun _ hh=>hh.2.1) (fun _ _=>rfl) h.bx,(h.mks.elim fun Ds hm=>⟨D::Ds,hm.more (hn Ds hm) hB hD⟩),h.so⟩
theorem zIu {g:Operand} {ps:Array Tmp} {assign body:Code} {gf:Nat} {lb:Array Value} {Ef:Nat->List UF} {N:Nat} {endless:Prop}
  (Bf:Nat->List Bx) (Bz:List Bx) (cz:Code) (Kr:Nat->List (Nat×KF)) (h:StS S w0 K (Bf 0) n ds a w)
  (hg: ∀v W,(Wd.fct (jH K (Bf 0)) g).p v W->v= .func (.func gf) #[] lb) (eg: ∀args w,(callFunc gf args).run P w= .ok (.enter gf args) w)
  (hit:ItC P gf lb Ef N endless (inB (Bf 0)) w) (hEl: ∀k,(Ef k).length=ps.size)
  (hKr: ∀k q,q∈Kr k->(q∈K/\zSi q.2=true/\ps.toList.contains q.1=false)∨ ∃(j:Nat) (f:UF),ps[j]?=some q.1/\(Ef k)[j]?=some f/\q.2= .u f)
  (hps:zAs ps.toList=true) (hpl:(ps.toList.all fun p=>Nat.blt p n)=true) (hpB:((Bf 0).all fun x=> !ps.toList.contains x.t)=true)
  (hBf: ∀k,(Bf k).map zGt=(Bf 0).map zGt) (hBz:Bz.map zGt=(Bf 0).map zGt) (hE0:endless->0<N)
  (rounds: ∀l k xs W,k<N->StS S w0 K (Bf k) n ds a W->StS (fun q=>inB (Bf 0) q∨W.heap.size<=q) W (Kr k) (Bf k) n [] { tmps:=(ps.zip xs).foldl (fun t (p,v)=>t.setIfInBounds p v) a.tmps,defers:= [] } W->
   assign.wpIn (Fence.wide.inRound l) 0 P (Exit.then (fun a1 W1=>BlS (fun q=>inB (Bf 0) q∨W.heap.size<=q) W W1/\ ∀W2,(∀p,W2.cell? p=W1.cell? p)->(∀K B,StS (fun q=>inB (Bf 0) q∨W.heap.size<=q) W K B n [] a1 W1->StS (fun q=>inB (Bf 0) q∨W.heap.size<=q) W2 K B n [] a1 W2)->
    body.wpIn (Fence.wide.inRound l) 0 P (zUF (fun a2 W3=>StS (fun q=>inB (Bf 0) q∨W.heap.size<=q) W2 [] (Bf (k+1)) n [] a2 W3/\(endless->k+1<N)) cz (fun a2 W3=>StS (fun q=>inB (Bf 0) q∨W.heap.size<=q) W2 [] Bz n [] a2 W3)) a1 W2) (fun _ _ _=>False))
    { tmps:=(ps.zip xs).foldl (fun t (p,v)=>t.setIfInBounds p v) a.tmps,defers:= [] } W)
  (done: ¬endless-> ∀D W,StS S w0 K (Bf N) n (mark D::ds) { a with defers:=mark D::a.defers } W->Q .normal { a with defers:=mark D::a.defers } W)
  (stop: ∀D W,StS S w0 K Bz n (mark D::ds) { a with defers:=mark D::a.defers } W->cz.wpIn Fence.wide 0 P Q { a with defers:=mark D::a.defers } W):
  (Code.rangeFunc g ps assign body).wpIn Fence.wide 0 P Q a w:=by
 refine wpIn_rangeFunc ?_
 intro fn hfn
 show ∃l mark w₁ d w₁' f args w₂,(Instr.enterLoop fn a.tmps ps assign body none).run P w=_/\_
 obtain ⟨rec,hrec⟩: ∃rec:LoopState->Option Code->Loop,rec=fun st pe=>{ state:=st,pending:=pe,fn,tmps:=a.tmps,params:=ps,assign,body,defers:=w.heap.size }:=⟨_,rfl⟩
 obtain ⟨W1,hW1⟩: ∃W1,(w.alloc (.deferred (some []))).alloc (.loop (rec .ready none))=W1:=⟨_,rfl⟩
 have hL1:W1.heap[w.heap.size+1]?=some (.loop (rec .ready none)):=by
  rw [<-hW1];have:=World.alloc_heap_new (w.alloc (.deferred (some []))) (.loop (rec .ready none));rwa [World.size_alloc] at this
 have hK1:W1.heap[w.heap.size]?=some (.deferred (some [])):=by
  rw [<-hW1];exact (Below.heap_alloc _ _ _ (by simp)).trans (World.alloc_heap_new w _)
 have hb1:Below w.heap.size w W1:=by
  rw [<-hW1];exact ((Below.refl _ w).alloc lr _).alloc (by simp) _
 have hz1:W1.heap.size=w.heap.size+2:=by rw [<-hW1];simp
 have hgv:a.eval g= .func (.func gf) #[] lb:=hg _ _ (h.fct g)
 have hold:=h.old
 have hw0:=h.gr.size
 have hi1:Itr w.heap.size w W1:=⟨hb1.os,hb1.tape,hb1.output,hb1.size,fun k hk=>hb1.block k hk,fun k o ho _=>(hb1.block k (Array.getElem?_eq_some_iff.1 ho).1).trans ho,zT hb1⟩
 have hs1:=h.itr hi1 hw0 hold
 have hbk: ∀{k:Nat} {x:Bx},x∈Bf k->x.b<w.heap.size:=fun {k x} hx=>by
  obtain ⟨y,hy,_,e,_⟩:=zIf (hBf k) hx
  rw [<-e]
  exact hold y hy
 have hbz: ∀{x:Bx},x∈Bz->x.b<w.heap.size:=fun {x} hx=>by
  obtain ⟨y,hy,_,e,_⟩:=zIf hBz hx
  rw [<-e]
  exact hold y hy
 have hin: ∀{q:Nat},inB (Bf 0) q->q<w.heap.size:=fun {q} ⟨x,hx,e,_⟩=>by rw [<-e];exact hold x hx
 have hinz: ∀(k:Nat) {q:Nat},inB (Bf k) q->inB (Bf 0) q:=fun k _ hq=>zH8 (hBf k) hq
 have hDl: ∀{W:World} {o:Obj},W.heap[w.heap.size+1]?=some o->(∃r,o= .loop r)-> ∀Ds,Marks w0.heap.size W ds Ds->w.heap.size+1 ∉ Ds:=fun {W o} ho hr Ds hm hh=>by
  obtain ⟨r,rfl⟩:=hr
  rw [(hm.at_ _ hh).2] at ho
  cases ho
 have hDs: ∀{W:World} Ds,Marks w0.heap.size W ds Ds-> ∀D,D∈Ds->D<w.heap.size:=fun {W} Ds hm D hd=>by
  obtain ⟨Ds',hm'⟩:=h.mks
  have:Ds=Ds':=by
   have e:=hm.eq.symm.trans hm'.eq
   exact zHc e
  subst this
  exact hm'.lt D hd
 refine ⟨w.heap.size+1, [{ target:= .collected w.heap.size,args:=#[] }],W1,{ target:= .fn (.func gf) lb,args:=#[.func (.yield (w.heap.size+1)) #[] #[]] },W1,gf,
  #[.func (.yield (w.heap.size+1)) #[] #[]]++lb,W1, ?_, ?_, ?_, ?_,fun h=>absurd h (by simp [Fence.wide]), ?_⟩
 ·rw [<-hW1,hrec];exact run_enterLoop_outer _ _ _ _ _
 ·simp only [resolve,hgv]
  simp [go_sem]
 ·intro f' _;trivial
 ·simp [invoke,go_sem,eg]
 ·refine callsIn_wide.2 ((hit (w.heap.size+1)
   (fun k W=>StS S w0 K (Bf k) n ds a W/\(endless->k<N)/\W.heap[w.heap.size+1]?=some (.loop (rec .ready none))/\W.heap[w.heap.size]?=some (.deferred (some [])))
   (fun W=>StS S w0 K Bz n ds a W/\W.heap[w.heap.size+1]?=some (.loop (rec .done (some cz)))/\W.heap[w.heap.size]?=some (.deferred (some [])))
   W1 oN hb1 (zT hb1)
   (fun k A B ⟨h1,h2,h3,h4⟩ hi=>⟨h1.itr hi oN (fun x hx=>by have:=hbk hx;omega),h2,hi.oth _ _ h3 rfl,hi.oth _ _ h4 rfl⟩)
   (fun A B ⟨h1,h3,h4⟩ hi=>⟨h1.itr hi oN (fun x hx=>by have:=hbz hx;omega),hi.oth _ _ h3 rfl,hi.oth _ _ h4 rfl⟩)
   (fun he W hJ=>absurd (hJ.2.1 he) (Nat.lt_irrefl _)) ?_ ⟨hs1,hE0,hL1,hK1⟩).mono ?_)
  ·rintro k W xs hk ⟨hs,hend,hl,hd⟩ ⟨hxs,hev⟩
   have hlt:w.heap.size+1<W.heap.size:=(Array.getElem?_eq_some_iff.1 hl).1
   have hy:=run_yield (P:=P) (args:=xs) hl (by rw [hrec];exact hxs.trans (hEl k))
   rw [hrec] at hy
   have hxs':xs.size=ps.size:=hxs.trans (hEl k)
   have hzip:(ps.zip xs).foldl (fun t (p,v)=>t.setIfInBounds p v) a.tmps=(ps.toList.zip xs.toList).foldl (fun t (p,v)=>t.setIfInBounds p v) a.tmps:=by
    rw [<-Array.foldl_toList,Array.toList_zip]
   have hzf:(ps.toList.zip xs.toList).map (·.1)=ps.toList:=by
    rw [List.map_fst_zip]
    simp [hxs']
   have hnd:ps.toList.Nodup:=zAE hps
   have hs0:StS (fun q=>inB (Bf 0) q∨W.heap.size<=q) W (Kr k) (Bf k) n [] { tmps:=(ps.zip xs).foldl (fun t (p,v)=>t.setIfInBounds p v) a.tmps,defers:= [] } W:=by
    refine ⟨BlS.refl _ _, ?_,rfl,fun q hq=> ?_, ?_,⟨[],Marks.nil _ _⟩, .inl fun q hq=> ?_⟩
    ·show ((ps.zip xs).foldl (fun t (p,v)=>t.setIfInBounds p v) a.tmps).size=n
     rw [hzip,zEA]
     exact h.size
    ·show q.2.p W (((ps.zip xs).foldl (fun t (p,v)=>t.setIfInBounds p v) a.tmps).getD q.1 undef) W
     rw [hzip]
     rcases hKr k q hq with ⟨h1,h2,h3⟩|⟨j,f,h1,h2,h3⟩
     ·rw [zBq q.1 _ _ (by rw [hzf];intro hc;rw [List.contains_iff_mem.2 hc] at h3;cases h3)]
      have:=hs.sl q h1
      cases hq2:q.2 with
      |u f=>rw [hq2] at this;exact this
      |o f=>rw [hq2] at h2;cases h2
     ·have hj:j<ps.size:=(Array.getElem?_eq_some_iff.1 h1).1
      have hjx:j<xs.size:=by omega
      have e1:=hev j f h2
      have e2:xs.getD j undef=xs[j]:=by rw [Array.getD_eq_getD_getElem?,Array.getElem?_eq_getElem hjx];rfl
      have e3:ps[j]=q.1:=(Array.getElem?_eq_some_iff.1 h1).2
      rw [zGv _ _ q.1 xs[j] (by rw [hzf];exact hnd) (by
       refine List.mem_iff_getElem?.2 ⟨j, ?_⟩
       rw [List.getElem?_zip_eq_some]
       exact ⟨by rw [Array.getElem?_toList];exact h1,by rw [Array.getElem?_toList,Array.getElem?_eq_getElem hjx]⟩) (by
       have:=List.all_eq_true.1 hpl q.1 (by rw [<-e3];exact Array.mem_toList_iff.2 (Array.getElem_mem hj))
       rw [h.size]
       simpa using this)]
      rw [h3]
      rw [e2] at e1
      exact e1
    ·refine yQ.over (Bf k) (fun x hx=> ?_) (fun x hx=> ?_) hs.bx
     ·cases hr:x.r with
      |true=>exact .inl rfl
      |false=>exact .inr (.inr (.inl (hinz k ⟨x,hx,rfl,hr⟩)))
     ·show ((ps.zip xs).foldl (fun t (p,v)=>t.setIfInBounds p v) a.tmps).getD x.t undef=_
      rw [hzip]
      obtain ⟨y,hy,e,_⟩:=zIf (hBf k) hx
      refine zBq _ _ _ ?_
      rw [hzf, <-e]
      intro hc
      have:=List.all_eq_true.1 hpB y hy
      rw [List.contains_iff_mem.2 hc] at this
      cases this
    ·rcases hKr k q hq with ⟨h1,h2,h3⟩|⟨j,f,h1,h2,h3⟩
     ·cases hq2:q.2 with
      |u f=>exact ⟨f,rfl⟩
      |o f=>rw [hq2] at h2;cases h2
     ·exact ⟨f,h3⟩
   have hnl: ¬(inB (Bf 0) (w.heap.size+1)∨W.heap.size<=w.heap.size+1):=fun hh=>by
    rcases hh with hh|hh
    ·have:=hin hh;omega
    ·omega
   have hnd2: ¬(inB (Bf 0) w.heap.size∨W.heap.size<=w.heap.size):=fun hh=>by
    rcases hh with hh|hh
    ·have:=hin hh;omega
    ·omega
   refine ⟨fn,_,assign,body,hy,roundIn_of_wpIn hfn (Code.wpIn_mono ?_ (rounds (w.heap.size+1) k xs W hk hs hs0))⟩
   intro e a1 Wa hp
   cases e with
   | normal=>
    obtain ⟨hgr,hcont⟩:=hp
    have hla:Wa.heap[w.heap.size+1]?=some (.loop (rec .ready none)):=(hgr.block _ hlt hnl).trans hl
    have hda:Wa.heap[w.heap.size]?=some (.deferred (some [])):=(hgr.block _ oN hnd2).trans hd
    have hlta:w.heap.size+1<Wa.heap.size:=(Array.getElem?_eq_some_iff.1 hla).1
    refine ⟨_,run_beginRound hla (by rw [hrec]), ?_⟩
    obtain ⟨W2,hW2⟩: ∃W2,Wa.putObj (w.heap.size+1) (.loop { rec .ready none with state:= .busy })=W2:=⟨_,rfl⟩
    rw [hW2]
    have hl2:W2.heap[w.heap.size+1]?=some (.loop { rec .ready none with state:= .busy }):=by rw [<-hW2];exact World.putObj_heap_same hlta
    have hd2:W2.heap[w.heap.size]?=some (.deferred (some [])):=by rw [<-hW2];exact (World.putObj_heap_other oN).trans hda
    have hz2:W2.heap.size=Wa.heap.size:=by rw [<-hW2,World.putObj_size]
    have hk2:jO Wa W2:=fun q u hq=>by
     by_cases e:q.block=w.heap.size+1
     ·rw [zBi hla rfl e] at hq
      cases hq
     ·rw [<-hW2]
      exact (World.cell?_of_block (World.putObj_heap_other e)).trans hq
    have hcell: ∀p,W2.cell? p=Wa.cell? p:=fun p=>by
     by_cases e:p.block=w.heap.size+1
     ·rw [zBi hla rfl e,zBi hl2 rfl e]
     ·rw [<-hW2]
      exact World.cell?_of_block (World.putObj_heap_other e)
    have hbody:=hcont W2 hcell (fun K' B' hs'=>hs'.rebase hk2 (fun _ hq=> .inr hq) (fun x hx=>by
     obtain ⟨cs,_,_,h3,_⟩:=hs'.bx.mem x hx
     rw [<-hW2]
     refine World.putObj_heap_other fun e=> ?_
     rw [e,hla] at h3
     cases h3))
    refine Code.wpIn_mono ?_ hbody
    intro e a3 W3 hp3
    have fin: ∀(jump:Option Code) (B':List Bx),StS (fun q=>inB (Bf 0) q∨W.heap.size<=q) W2 [] B' n [] a3 W3->B'.map zGt=(Bf 0).map zGt-> ∃W4,(Instr.endRound (w.heap.size+1) jump).run P W3= .ok (.bool jump.isNone) W4/\W4.heap[w.heap.size+1]?=some (.loop (rec (if jump.isNone then .ready else .done) jump))/\W4.heap[w.heap.size]?=some (.deferred (some []))/\Rnd w.heap.size (inB (Bf 0)) W W4/\StS S w0 K B' n ds a W4:=by
     intro jump B' h3 hB'
     have hl3:W3.heap[w.heap.size+1]?=some (.loop { rec .ready none with state:= .busy }):=(h3.gr.block _ oN hnl).trans hl2
     have hd3:W3.heap[w.heap.size]?=some (.deferred (some [])):=(h3.gr.block _ oN hnd2).trans hd2
     have hlt3:w.heap.size+1<W3.heap.size:=(Array.getElem?_eq_some_iff.1 hl3).1
     have hrun:=run_endRound (P:=P) jump hl3
     have hbx3: ∀x,x∈B'->x.b≠w.heap.size+1:=fun x hx e=>by
      obtain ⟨cs,_,_,h4,_⟩:=h3.bx.mem x hx
      rw [e,hl3] at h4
      cases h4
     obtain ⟨W4,hW4⟩: ∃W4,W3.putObj (w.heap.size+1) (.loop (rec (if jump.isNone then .ready else .done) jump))=W4:=⟨_,rfl⟩
     have hrun4:(Instr.endRound (w.heap.size+1) jump).run P W3= .ok (.bool jump.isNone) W4:=by rw [hrun, <-hW4,hrec]
     have hz3:=h3.gr.size
     have hz4:W4.heap.size=W3.heap.size:=by rw [<-hW4,World.putObj_size]
     have hza:=hgr.size
     have hk4:jO W3 W4:=fun q u hq=>by
      by_cases e:q.block=w.heap.size+1
      ·rw [zBi hl3 rfl e] at hq
       cases hq
      ·rw [<-hW4]
       exact (World.cell?_of_block (World.putObj_heap_other e)).trans hq
     have hb4:BlS (fun q=>inB (Bf 0) q∨q=w.heap.size+1) W W4:=by
      refine ⟨?_, ?_, ?_,by omega,fun q hq hns=> ?_⟩
      ·rw [<-hW4];exact h3.gr.os.trans (by rw [<-hW2];exact hgr.os)
      ·rw [<-hW4];exact h3.gr.tape.trans (by rw [<-hW2];exact hgr.tape)
      ·rw [<-hW4];exact h3.gr.output.trans (by rw [<-hW2];exact hgr.output)
      ·have hne:q≠w.heap.size+1:=fun e=>hns (.inr e)
       have hni: ¬(inB (Bf 0) q∨W.heap.size<=q):=fun hh=>by
        rcases hh with hh|hh
        ·exact hns (.inl hh)
        ·omega
       rw [<-hW4,World.putObj_heap_other hne,h3.gr.block q oN hni, <-hW2,World.putObj_heap_other hne]
       exact hgr.block q hq hni
     refine ⟨W4,hrun4,by rw [<-hW4];exact World.putObj_heap_same hlt3,by rw [<-hW4];exact (World.putObj_heap_other oN).trans hd3, ?_, ?_⟩
     ·exact zMd hb4 (fun q hq=>by
       rcases hq with hq|hq
       ·have:=hin hq;omega
       ·omega) oN (l:=w.heap.size+1) oN hl rfl (fun q hq=>hq) (zE4 (B:=Bf k) (hb4.sub fun q hq=>hq.imp (zH8 (hBf k).symm) id) hs.bx hl rfl)
     ·exact hs.turned (hb4.sub fun q hq=>hq.imp (zH8 (hBf k).symm) id) hl rfl oN (hDl hl ⟨_,rfl⟩) (hB'.trans (hBf k).symm) (yQ.stay hk4 B' (fun x hx=>by rw [<-hW4];exact World.putObj_heap_other (hbx3 x hx)) h3.bx)
    cases e with
    |normal=>
     obtain ⟨h3,hend3⟩:=hp3
     obtain ⟨W4,hr,hl4,hd4,hrn,hs4⟩:=fin none _ h3 (hBf _)
     exact ⟨_,W4,hr, .inl ⟨rfl,hs4,hend3,hl4,hd4⟩,hrn⟩
    |ret=>
     obtain ⟨hc,h3⟩:=hp3
     obtain ⟨W4,hr,hl4,hd4,hrn,hs4⟩:=fin (some .ret) _ h3 hBz
     exact ⟨_,W4,hr, .inr ⟨rfl,hs4,by rw [hc];exact hl4,hd4⟩,hrn⟩
    |exit id=>
     obtain ⟨hc,h3⟩:=hp3
     obtain ⟨W4,hr,hl4,hd4,hrn,hs4⟩:=fin (some (.exit id)) _ h3 hBz
     exact ⟨_,W4,hr, .inr ⟨rfl,hs4,by rw [hc];exact hl4,hd4⟩,hrn⟩
    |goto t=>
     obtain ⟨hc,h3⟩:=hp3
     obtain ⟨W4,hr,hl4,hd4,hrn,hs4⟩:=fin (some (.goto t)) _ h3 hBz
     exact ⟨_,W4,hr, .inr ⟨rfl,hs4,by rw [hc];exact hl4,hd4⟩,hrn⟩
    |panic ch=>exact hp3.elim
    |outgrown=>exact hp3.elim
   |_=>exact hp.elim
  ·have hend: ∀{W2:World} {B':List Bx} {pe:Option Code} {st:LoopState},StS S w0 K B' n ds a W2->W2.heap[w.heap.size+1]?=some (.loop (rec st pe))->W2.heap[w.heap.size]?=some (.deferred (some []))-> ∀o':Obj,StS S w0 K B' n (mark w.heap.size::ds) { a with defers:=mark w.heap.size::a.defers } (W2.putObj (w.heap.size+1) o'):=fun {W2 B' pe st} hs hl hd o'=>by
    have h1:=hs.put (o':=o') hl rfl (hDl hl ⟨_,rfl⟩) (.inr oN)
    exact h1.more hw0 ((World.putObj_heap_other oN).trans hd) (fun Ds hm hh=>absurd (hDs Ds hm _ hh) (Nat.lt_irrefl _))
   rintro e W2 ⟨⟨v,rfl⟩,(⟨hs,hend2,hl,hd⟩|⟨hs,hl,hd⟩)⟩
   ·exact ⟨none,_,by have:=run_endLoop (P:=P) hl (by rw [hrec];simp);rw [hrec] at this;exact this,done (fun he=>absurd (hend2 he) (Nat.lt_irrefl _)) _ _ (hend hs hl hd _)⟩
   ·exact ⟨some cz,_,by have:=run_endLoop (P:=P) hl (by rw [hrec];simp);rw [hrec] at this;exact this,stop _ _ (hend hs hl hd _)⟩
end
section
variable {F:Fence} {n:Nat} {P:Program} {ops:Array Oper} {Q:Exit->Act->World->Prop}
def zFG (ops:Array Oper) (listed0:Array Bool) (fl:Nat->Bool) (k:Nat):Bool:=(List.range ops.size).all fun j=>decide (j<k)||(List.range k).all fun i=>fl i||listed0.getD i true||zCt ops ops.size i j
def zA7 (ops:Array Oper) (i:Nat):Array Bool:=((List.range ops.size).map fun j=>zCt ops ops.size j i).toArray
theorem zJm {i:Nat} {listed:Array Bool} (hs: ∀j,j<ops.size->zCt ops ops.size j i=true->listed.getD j true=true) (h:Region.free .any ops (zA7 ops i) i=true):Region.free .any ops listed i=true:=by
 unfold Region.free at h ⊢
 split at h
 ·exact h
 ·refine List.all_eq_true.2 fun j hj=> ?_
  have h1:=List.all_eq_true.1 h j hj
  have h2:(zA7 ops i).getD j true=zCt ops ops.size j i:=by
   unfold zA7
   rw [Array.getD_eq_getD_getElem?]
   simp [List.mem_range.1 hj]
  rw [h2] at h1
  cases hc:zCt ops ops.size j i with
  |true=>rw [hs j (List.mem_range.1 hj) hc,Bool.or_true,Bool.true_or]
  |false=>
   rw [hc,Bool.or_false] at h1
   rw [Bool.or_assoc,Bool.or_comm (listed.getD j true), <-Bool.or_assoc,h1,Bool.true_or]
theorem zMf {i:Nat} {o:Oper} {a:Act} {w:World} {K:Act->World->Prop} (ho:ops[i]?=some o) (hfl:zDu ops i=true) (h:wpOpIn F n P ops (y8 Q) i K a w): ∃d v,o.dst=some d/\j5 P ops (fun _=>True) o v a/\K (a.put (some d) v) w:=by
 unfold zDu at hfl
 rw [ho] at hfl
 unfold wpOpIn at h
 rw [ho] at h
 split at hfl
 ·rename_i d x ty pos aft he
  cases he
  refine ⟨d,a.eval x,rfl,⟨.inl ⟨rfl,fun w _=>rfl⟩,fun w=>rfl⟩, ?_⟩
  have h2:=h.2
  rw [Oper.semAt_eq _ _ _ (fun _ e=>by cases e)] at h2
  exact h2
 ·rename_i d x j ty pos aft he
  cases he
  have h2:=h.2
  rw [Oper.semAt_eq _ _ _ (fun _ e=>by cases e)] at h2
  cases hrun:(Instr.extract (a.eval x) j).run P w with
  |halt y w'=>
   have he:(execOp a.eval ⟨some d, .extract x j,ty,pos,aft,none⟩).run P w= .halt y w':=by simp [execOp,hrun]
   rw [he] at h2
   cases y<;>exact h2.elim
  | ok v w'=>
   have hw:w'=w:=by
    unfold Instr.extract at hrun
    split at hrun
    ·split at hrun
     ·simp at hrun;exact hrun.2.symm
     ·simp at hrun
    ·simp at hrun
   subst hw
   have he:(execOp a.eval ⟨some d, .extract x j,ty,pos,aft,none⟩).run P w'= .ok (.value v) w':=by simp [execOp,hrun]
   rw [he] at h2
   exact ⟨d,v,rfl,⟨.inl ⟨rfl,fun w _=>by simp [execOp,zCg _ _ _ w hrun]⟩,fun w=>rfl⟩,h2⟩
 ·cases hfl
variable {listed0:Array Bool} {A:Nat->Bool} {E:Nat->Value->World->Prop} {C:World->Prop} {a0:Act}
theorem zSo {k z:Nat} (fl:Nat->Bool) (hpl:jG ops=true) (hns:Region.noSelect ops=true) (hzs:ops.size<=z) (hfree: ∀i,i<k->fl i=true->zDu ops i=true/\Region.free .any ops (zA7 ops i) i=true) (hear:zA1 ops=true) (htl:zFG ops listed0 fl k=true) (hap:qX ops=true) (hfr:zAf ops a0.tmps.size=true) (hkl:decide (k<=ops.size)=true) (hC: ∀w w',C w->Below w.heap.size w w'->C w') (hE: ∀i v w w',E i v w->Below w.heap.size w w'->E i v w')
  (hspec: ∀i,i<k->listed0.getD i true=false-> ∀o,ops[i]?=some o-> ∀a w,FlowB ops listed0 A E C a0 (fun j=>listed0.getD j true=false/\ ∃e∈o.after,Region.binds .any e=true/\e.on=j) a w-> ∀K:Act->World->Prop,(∀v w',E i v w'->Below w.heap.size w w'->(A i=true-> ∀b,blk v=some b->w.heap.size<=b/\b<w'.heap.size)->K (a.put o.dst v) w')->wpOpIn F n P ops (y8 Q) i K a w)
  (hfin: ∀a w,FlowB ops listed0 A E C a0 (fun i=>i<k/\listed0.getD i true=false) a w->q7 F n P .any ops z (fun _=>True) (y8 Q) (ops.size - k) (yE ops.size k) a w):
  ∀(fuel:Nat) (listed:Array Bool) (a:Act) (w:World),listed.count false=fuel->listed.size=ops.size->(∀i,k<=i->listed.getD i false=false)->zFC ops listed->(∀i,listed0.getD i true=true->i<ops.size->listed.getD i false=true)->
   FlowB ops listed0 A E C a0 (fun i=>listed0.getD i true=false/\listed.getD i false=true) a w->q7 F n P .any ops z (fun _=>True) (y8 Q) fuel listed a w:=by
 have hkl':=of_decide_eq_true hkl
 intro fuel
 induction fuel with
 | zero=>
  intro listed a w hc hs hlate hcl hsub hf
  have hno: ∀i,listed.getD i true=true:=fun i=>by
   cases hg:listed.getD i true with
   |true=>rfl
   |false=>
    have:=jF hg
    omega
  have hk2:k=ops.size:=by
   rcases Nat.lt_or_ge k ops.size with hlt|hge
   ·exfalso
    have h1:=hno k
    have h2:=hlate k lr
    have hlt2:k<listed.size:=by omega
    simp [hlt2] at h1 h2
    rw [h1] at h2
    cases h2
   ·omega
  have hl:listed=yE ops.size k:=by
   refine Array.ext (by simp [yE,hs]) fun i h1 h2=> ?_
   have:=hno i
   simp [h1] at this
   simp [yE,this]
   omega
  have:=hfin a w (hf.mono fun i hi=>⟨hi.2,by
   have h1:=hno i
   have hlt:i<listed.size:=by omega
   simp [hlt] at h1 ⊢
   exact h1⟩)
  rw [hl]
  rwa [show ops.size - k=0 from by omega] at this
 | succ fuel ih=>
  intro listed a w hc hs hlate hcl hsub hf
  by_cases hall: ∀i,i<k->listed.getD i false=true
  ·have hl:listed=yE ops.size k:=by
    refine Array.ext (by simp [yE,hs]) fun i h1 h2=> ?_
    by_cases hik:i<k
    ·have:=hall i hik
     simp [h1] at this
     simp [yE,this,hik]
    ·have:=hlate i oN
     simp [h1] at this
     simp [yE,this,hik]
   have hcnt:listed.count false=ops.size - k:=by
    rw [hl]
    unfold yE
    rw [List.count_toArray,List.count_eq_countP,List.countP_map]
    have: ∀m,k<=m->List.countP ((fun x=>x==false) ∘ fun i=>decide (i<k)) (List.range m)=m - k:=by
     intro m
     induction m with
     |zero=>intro h;simp
     | succ m ihm=>
      intro h
      rw [List.range_succ,List.countP_append]
      by_cases e:k=m+1
      ·subst e
       have:List.countP ((fun x=>x==false) ∘ fun i=>decide (i<m+1)) (List.range m)=0:=by
        rw [List.countP_eq_zero]
        intro x hx
        have:=List.mem_range.1 hx
        simp;omega
       rw [this];simp
      ·rw [ihm oN]
       have e2:decide (m<k)=false:=decide_eq_false oN
       simp [e2]
       omega
    exact this ops.size hkl'
   have hf':=hfin a w (hf.mono fun i hi=>⟨hi.2,hall i hi.1⟩)
   rw [<-hl, <-hcnt,hc] at hf'
   exact hf'
  ·simp only [Classical.not_forall] at hall
   obtain ⟨u0,huk0,hu0⟩:=hall
   obtain ⟨u,⟨huk,hu⟩,hmin⟩:=zDp (p:=fun u=>u<k/\ ¬listed.getD u false=true) u0 ⟨huk0,hu0⟩
   have hlt:u<listed.size:=by omega
   have hu':listed.getD u true=false:=by
    simp [hlt] at hu ⊢
    exact hu
   have hsome: ∀i,listed.getD i true=false->Region.ready .any ops listed≠ []:=by
    intro i
    induction i using Nat.strongRecOn with
    | _ i ihi=>
     intro hi hnil
     have hlt:i<listed.size:=by
      rcases Nat.lt_or_ge i listed.size with e|e
      ·exact e
      ·simp [Array.getElem?_eq_none e] at hi
     have ho:ops[i]?=some (ops[i]'(by rw [<-hs];exact hlt)):=Array.getElem?_eq_getElem _
     by_cases hall: ∀e∈(ops[i]'(by rw [<-hs];exact hlt)).after,Region.binds .any e=true->listed.getD e.on false=true
     ·have hm:i∈Region.ready .any ops listed:=mem_ready.2 ⟨hi,_,ho,hall⟩
      rw [hnil] at hm
      cases hm
     ·simp only [Classical.not_forall] at hall
      obtain ⟨e,he,hb,hg⟩:=hall
      have hel:=zAO hear ho he hb
      refine ihi e.on hel ?_ hnil
      have hlt2:e.on<listed.size:=by omega
      simp [hlt2] at hg ⊢
      exact hg
   by_cases hfu:fl u=true
   ·have hul:u<ops.size:=by omega
    have hou:ops[u]?=some ops[u]:=Array.getElem?_eq_getElem hul
    have hdone: ∀e∈ops[u].after,Region.binds .any e=true->listed.getD e.on false=true:=fun e he hb=>by
     have hel:=zAO hear hou he hb
     exact Classical.byContradiction fun hc=>hmin e.on hel ⟨by omega,hc⟩
    have hrd:(Region.ready .any ops listed).contains u=true:=List.contains_iff_mem.2 (mem_ready.2 ⟨hu',_,hou,hdone⟩)
    have hl0u:listed0.getD u true=false:=by
     cases hg:listed0.getD u true with
     |false=>rfl
     |true=>exact absurd (hsub u hg hul) hu
    obtain ⟨hflo,hfre⟩:=hfree u huk hfu
    have hw:=hspec u huk hl0u _ hou a w (hf.mono fun j hj=>(by
     obtain ⟨hj0,e,he,hb,rfl⟩:=hj
     exact ⟨hj0,hdone e he hb⟩)) (fun a' w'=> ∃v,a'=a.put ops[u].dst v/\E u v w'/\Below w.heap.size w w'/\(A u=true-> ∀b,blk v=some b->w.heap.size<=b/\b<w'.heap.size)) (fun v w' hv hb hA=>⟨v,rfl,hv,hb,hA⟩)
    obtain ⟨d,v0,hd,hy,v,hpe,hv,hb,hA⟩:=zMf hou hflo hw
    refine zQ (i:=u) (v:=v0) hpl (by unfold zA2;rw [Array.getElem?_eq_none hzs]) hou hns (zJm (fun j hj hc=>(by
     have h9:=zAm hcl _ j u _ hou hdone hc
     have g:j<listed.size:=by omega
     simp [g] at h9 ⊢
     exact h9)) hfre) hrd (fun _ _ _ h=>h) trivial hy ?_
    rw [hd,hpe]
    refine ih (listed.setIfInBounds u true) (a.put ops[u].dst v) w ?_ (by simpa using hs) (fun j hj=> ?_) (fun j oj hj hoj e he hbe=> ?_) (fun j hj hjl=> ?_) ((hf.put hap hfr hC hE hou hl0u hv hb hA).mono fun j hj=> ?_)
    ·have:=jF hu'
     omega
    ·rw [getD_set_ne false oN]
     exact hlate j hj
    ·by_cases e2:j=u
     ·subst e2
      rw [hou] at hoj
      cases hoj
      by_cases e3:e.on=j
      ·rw [e3];exact hj
      ·rw [getD_set_ne false (Ne.symm e3)]
       exact hdone e he hbe
     ·rw [getD_set_ne false (Ne.symm e2)] at hj
      have:=hcl j oj hj hoj e he hbe
      by_cases e3:e.on=u
      ·rw [e3]
       have hlt:u<listed.size:=by omega
       simp [hlt]
      ·rw [getD_set_ne false (Ne.symm e3)]
       exact this
    ·by_cases e3:j=u
     ·subst e3
      rw [hl0u] at hj
      cases hj
     ·rw [getD_set_ne false (Ne.symm e3)]
      exact hsub j hj hjl
    ·by_cases e:j=u
     ·exact .inr e
     ·left
      rw [getD_set_ne false (Ne.symm e)] at hj
      exact hj
   ·refine ⟨fun hnil=>(hsome u hu' hnil).elim,fun i hi=> ?_⟩
    obtain ⟨hun,o,ho,hall⟩:=mem_ready.1 hi
    have hil:=(Array.getElem?_eq_some_iff.1 ho).1
    have hl0:listed0.getD i true=false:=by
     cases hg:listed0.getD i true with
     |false=>rfl
     |true=>
      have:=hsub i hg hil
      have hlt3:i<listed.size:=by omega
      simp [hlt3] at this hun
      rw [this] at hun
      cases hun
    have hik:i<k:=by
     rcases Nat.lt_or_ge i k with e|e
     ·exact e
     ·exfalso
      have h1:=List.all_eq_true.1 htl i (List.mem_range.2 hil)
      simp only [Bool.or_eq_true,decide_eq_true_eq] at h1
      rcases h1 with h1|h1
      ·omega
      ·have h2:=List.all_eq_true.1 h1 u (List.mem_range.2 huk)
       simp only [Bool.or_eq_true] at h2
       rcases h2 with (h2|h2)|h2
       ·exact hfu h2
       ·exact hu (hsub u h2 oN)
       ·exact hu (zAm hcl _ u i o ho hall h2)
    refine hspec i hik hl0 o ho a w (hf.mono fun j hj=> ?_) _ fun v w' hv hb hA=>⟨.inr trivial, ?_⟩
    ·obtain ⟨hj0,e,he,hb,rfl⟩:=hj
     exact ⟨hj0,hall e he hb⟩
    ·refine ih (listed.setIfInBounds i true) (a.put o.dst v) w' ?_ (by simpa using hs) (fun j hj=> ?_) (fun j oj hj hoj e he hbe=> ?_) (fun j hj hjl=> ?_) ((hf.put hap hfr hC hE ho hl0 hv hb hA).mono fun j hj=> ?_)
     ·have:=jF hun
      omega
     ·rw [getD_set_ne false oN]
      exact hlate j hj
     ·by_cases e2:j=i
      ·subst e2
       rw [ho] at hoj
       cases hoj
       by_cases e3:e.on=j
       ·rw [e3];exact hj
       ·rw [getD_set_ne false (Ne.symm e3)]
        exact hall e he hbe
      ·rw [getD_set_ne false (Ne.symm e2)] at hj
       have:=hcl j oj hj hoj e he hbe
       by_cases e3:e.on=i
       ·rw [e3]
        have hlt:i<listed.size:=by omega
        simp [hlt]
       ·rw [getD_set_ne false (Ne.symm e3)]
        exact this
     ·by_cases e3:j=i
      ·subst e3
       rw [hl0] at hj
       cases hj
      ·rw [getD_set_ne false (Ne.symm e3)]
       exact hsub j hj hjl
     ·by_cases e:j=i
      ·exact .inr e
      ·left
       rw [getD_set_ne false (Ne.symm e)] at hj
       exact hj
theorem zMe {k z fuel:Nat} {w:World} (fl:Nat->Bool) (hpl:jG ops=true) (hns:Region.noSelect ops=true) (hzs:ops.size<=z) (hfree: ∀i,i<k->fl i=true->zDu ops i=true/\Region.free .any ops (zA7 ops i) i=true) (A:Nat->Bool) (E:Nat->Value->World->Prop) (C:World->Prop) (hear:zA1 ops=true) (htl:zFG ops listed0 fl k=true) (hap:qX ops=true) (hfr:zAf ops a0.tmps.size=true) (hkl:decide (k<=ops.size)=true)
    (hcnt:listed0.count false=fuel) (hsz:listed0.size=ops.size) (hcl:zCu ops listed0=true) (hto:zFu listed0 k=true)
    (hC: ∀w w',C w->Below w.heap.size w w'->C w') (hE: ∀i v w w',E i v w->Below w.heap.size w w'->E i v w') (hw:C w)
    (hspec: ∀i,i<k->listed0.getD i true=false-> ∀o,ops[i]?=some o-> ∀a w,FlowB ops listed0 A E C a0 (fun j=>listed0.getD j true=false/\ ∃e∈o.after,Region.binds .any e=true/\e.on=j) a w-> ∀K:Act->World->Prop,(∀v w',E i v w'->Below w.heap.size w w'->(A i=true-> ∀b,blk v=some b->w.heap.size<=b/\b<w'.heap.size)->K (a.put o.dst v) w')->wpOpIn F n P ops (y8 Q) i K a w)
    (hfin: ∀a w,FlowB ops listed0 A E C a0 (fun i=>i<k/\listed0.getD i true=false) a w->q7 F n P .any ops z (fun _=>True) (y8 Q) (ops.size - k) (yE ops.size k) a w):
    q7 F n P .any ops z (fun _=>True) (y8 Q) fuel listed0 a0 w:=by
  have hcontra: ∀i,listed0.getD i true=false->listed0.getD i false=true->False:=fun i h1 h2=>by
    rcases Nat.lt_or_ge i listed0.size with g|g
    · simp [g] at h1 h2
      rw [h1] at h2
      cases h2
    · simp [Array.getElem?_eq_none g] at h2
  exact zSo fl hpl hns hzs hfree hear htl hap hfr hkl hC hE hspec hfin fuel listed0 a0 w hcnt hsz (fun i hi=>zEX hto hi) (zBv hcl) (fun i hi hl=>by
      have g:i<listed0.size:=by omega
      simp [g] at hi ⊢
      exact hi)
    ⟨⟨hw,rfl,rfl,fun _ _=>rfl,fun i o t hi=>(hcontra i hi.1 hi.2).elim⟩,fun i o t b hi=>(hcontra i hi.1 hi.2).elim,fun i j oi oj ti tj bi bj hi=>(hcontra i hi.1 hi.2).elim⟩
end
def zEv (ops:Array Oper) (fl:Nat->Bool) (k n:Nat) (keys:List Nat):Bool:=
 qX ops&&zAf ops n&&jG ops&&Region.noSelect ops&&decide (k<=ops.size)&&
 keys.all (fun t=>(List.range k).any fun i=>zW ops i==some t)&&
 (List.range k).all (fun i=>match ops[i]? with
  |none=>true
  |some o=>(looks ops o).all fun t=>(List.range ops.size).all fun j=> !(zW ops j==some t)||o.after.any fun e=>Region.binds .any e&&e.on==j)&&
 (List.range k).all (fun i=> !fl i||(zDu ops i&&Region.free .any ops (zA7 ops i) i))&&
 (zA1 ops&&zFG ops (Array.replicate ops.size false) fl k&&(List.range (ops.size - k)).all fun r=>Region.ready .any ops (yE ops.size (k+r))== [k+r])
theorem zFQ {F:Fence} {m:Nat} {P:Program} {ops:Array Oper} {Q:Exit->Act->World->Prop} {id:Nat} {w0:World} {G:Nat->SF} {n:Nat} {ds:List Deferred} {a:Act} {w:World} (fl:Nat->Bool) (al:List NewB) (k:Nat) (L:List (Nat×SF)) (hmix:P.follows .mixedOrders=true)
  (hal: ∀q,q∈al->q.i<k/\q.f.isIn L q.d/\zAs (L.map (·.1))=true/\(∃ty pos aft,ops[q.i]?=some ⟨some q.d, .alloc q.e,ty,pos,aft,none⟩)/\zeroCells P q.e=some q.cs/\ ∀v W,(SF.own w0 q.e q.cs).p v W->q.f.p v W)
  (hchk:zEv ops fl k n (L.map (·.1))=true) (h:At w0 G n ds a w) (hobs:Obs F m P w0 ops (upd G L) (ops.toList.take k))
  (hfin: ∀a w,At w0 (zCn ops k (upd G L)) n ds a w->zMW al a->wpOpsIn F m P ops (y8 Q) (List.range' k (ops.size - k)) a w):(Code.region id ops true).wpIn F m P Q a w:=by
 unfold zEv at hchk
 simp only [Bool.and_eq_true] at hchk
 obtain ⟨⟨⟨⟨⟨⟨⟨⟨hap,hfr⟩,hpl⟩,hns⟩,hk⟩,hkeys⟩,hrd⟩,hflk⟩,hdr⟩:=hchk
 have hk:=of_decide_eq_true hk
 have hget: ∀i o,i<k->ops[i]?=some o->qK F m P w0 ops (upd G L) o:=fun i o hi ho=>hobs.get i o (by rw [List.getElem?_take_of_lt hi];simpa using ho)
 have hkey: ∀t,(∀j,j<k->zW ops j≠some t)->upd G L t=G t:=fun t ht=>by
  refine jC ?_
  cases hc:(L.map (·.1)).contains t with
  |false=>rfl
  |true=>
   exfalso
   have hm:=List.contains_iff_mem.1 hc
   obtain ⟨i,hi,he⟩:=List.any_eq_true.1 (List.all_eq_true.1 hkeys t hm)
   exact ht i (List.mem_range.1 hi) (by simpa using he)
 have hst: ∀t,(∀j,j<k->zW ops j≠some t)->(upd G L t).p (a.tmps.getD t undef) w:=fun t ht=>by rw [hkey t ht];exact h.sl t
 have hmask: ∀(a:Act) (w:World),(∀t,(∃j,j<k/\zW ops j=some t)∨(∀j,zW ops j≠some t)->(upd G L t).p (a.tmps.getD t undef) w)-> ∀t,(zCn ops k (upd G L) t).p (a.tmps.getD t undef) w:=fun a w hh t=>by
  unfold zCn
  cases hc:(List.range ops.size).any fun i=>decide (k<=i)&&(zW ops i==some t) with
  |true=>trivial
  | false=>
   refine hh t ?_
   by_cases hex: ∃j,zW ops j=some t
   ·obtain ⟨j,hj⟩:=hex
    left
    refine ⟨j, ?_,hj⟩
    have hlt:j<ops.size:=by
     rcases Nat.lt_or_ge j ops.size with e|e
     ·exact e
     ·rw [zW,Array.getElem?_eq_none e] at hj;cases hj
    have:=List.any_eq_false.1 hc j (List.mem_range.2 hlt)
    simp [hj] at this
    omega
   ·exact .inr fun j hj=>hex ⟨j,hj⟩
 have hrd': ∀i o,i<k->ops[i]?=some o-> ∀t,t∈looks ops o-> ∀j,zW ops j=some t->(o.after.any fun e=>Region.binds .any e&&e.on==j)=true:=fun i o hi ho t ht j hj=>by
  have h1:=List.all_eq_true.1 hrd i (List.mem_range.2 hi)
  rw [ho] at h1
  have hlt:j<ops.size:=by
   rcases Nat.lt_or_ge j ops.size with e|e
   ·exact e
   ·rw [zW,Array.getElem?_eq_none e] at hj;cases hj
  have h2:=List.all_eq_true.1 (List.all_eq_true.1 h1 t ht) j (List.mem_range.2 hlt)
  rw [hj] at h2
  simpa using h2
 obtain ⟨⟨hear,htl⟩,hch⟩:=hdr
 have hch': ∀r,r<ops.size - k->Region.ready .any ops (yE ops.size (k+r))= [k+r]:=fun r hr=>by
  have:=List.all_eq_true.1 hch r (List.mem_range.2 hr)
  simpa using this
 have hfl: ∀i,(Array.replicate ops.size false).getD i false=false:=fun i=>by
  rw [Array.getD_eq_getD_getElem?,Array.getElem?_replicate]
  split<;>rfl
 have hft: ∀i,i<ops.size->(Array.replicate ops.size false).getD i true=false:=fun i hi=>by
  rw [Array.getD_eq_getD_getElem?,Array.getElem?_replicate,if_pos hi]
  rfl
 have hnd: ∀t,(∀j,zW ops j≠some t)->zAT ops (Array.replicate ops.size false) t=false:=fun t ht=>by
  cases hd:zAT ops (Array.replicate ops.size false) t with
  |false=>rfl
  |true=>
   exfalso
   unfold zAT at hd
   obtain ⟨i,_,hp⟩:=List.any_eq_true.1 hd
   simp only [Bool.and_eq_true,beq_iff_eq] at hp
   exact ht i (by rw [<-zB3];exact hp.2)
 refine yB ops.size (fun _=>True) hmix ?_
 have hdrew:Below w.heap.size w w.drew:=(Below.refl _ w).drew
 refine zMe (Q:=Q) (k:=k) (z:=ops.size) (w:=w.drew) fl hpl hns lr (fun i hi he=>(by have:=List.all_eq_true.1 hflk i (List.mem_range.2 hi);rw [he] at this;simpa using this)) (fun i=>al.any fun q=>q.i==i) (fun i v W=> ∀o,ops[i]?=some o-> ∀d,o.dst=some d->(upd G L d).p v W) (fun W=>Below w0.heap.size w0 W/\Below w.heap.size w W) hear htl hap (by rw [h.size];exact hfr) (by simpa using hk) Array.count_replicate_self (by simp) ?hcl ?hto (fun W W' hC hb=>⟨hC.1.trans (hb.mono hC.1.size),hC.2.trans (hb.mono hC.2.size)⟩) (fun i v W W' hE hb o ho d hd=>(upd G L d).st _ _ _ (hE o ho d hd) hb) ⟨h.gr.trans (hdrew.mono h.gr.size),hdrew⟩ ?spec ?fin
 case hcl=>
  unfold zCu
  refine List.all_eq_true.2 fun i hi=> ?_
  rw [hfl i]
  rfl
 case hto=>
  unfold zFu
  refine List.all_eq_true.2 fun i hi=> ?_
  rw [hfl i]
  simp
 case spec=>
  intro i hik hl o ho b W hf K hK
  by_cases hAi:(al.any fun q=>q.i==i)=true
  ·obtain ⟨q,hq,hqi⟩:=List.any_eq_true.1 hAi
   obtain rfl:q.i=i:=by simpa using hqi
   obtain ⟨_,hin,hndL,⟨ty,pos,aft,hop⟩,hz,hown⟩:=hal q hq
   rw [ho] at hop
   cases hop
   have hg:qK F m P W ops (fun _=>SF.own W q.e q.cs) ⟨some q.d, .alloc q.e,ty,pos,aft,none⟩:=zDj hz
   refine zAa ho hg (fun j g hj=> ?_) (Below.refl _ _) (fun t ht=>by cases ht) (fun v W' hv hb=> ?_)
   ·rw [hf.at_.size,h.size]
    obtain ⟨oj,hoj,hdj⟩:=yZ hj
    exact qE hfr hoj hdj
   ·obtain ⟨b',e1,h1,h2⟩:=hv q.d rfl
    refine hK v W' (fun o' ho' d hd=> ?_) hb (fun _ b'' hb''=> ?_)
    ·rw [ho] at ho'
     cases ho'
     cases hd
     rw [zBQ (q:=(q.d,q.f)) hndL hin]
     exact hown v W' ⟨b',e1,Nat.le_trans hf.at_.cls.1.size h1,h2⟩
    ·subst e1
     cases hb''
     exact ⟨h1,(Array.getElem?_eq_some_iff.1 h2).1⟩
  refine zAa ho (hget i o hik ho) (fun j g hj=> ?_) hf.at_.cls.1 (fun t ht=> ?_) (fun v W' hv hb=>hK v W' (fun o' ho' d hd=>by rw [ho] at ho';cases ho';exact hv d hd) hb (fun e=>absurd e hAi))
  ·rw [hf.at_.size,h.size]
   cases hoj:ops[j]? with
   |none=>rw [zW,hoj] at hj;cases hj
   |some oj=>rw [qH hoj] at hj;exact qE hfr hoj hj
  ·by_cases hex: ∃j,zW ops j=some t
   ·obtain ⟨j,hj⟩:=hex
    have h1:=hrd' i o hik ho t ht j hj
    obtain ⟨x,hx,he⟩:=Array.any_eq_true.1 h1
    simp only [Bool.and_eq_true,beq_iff_eq] at he
    cases hoj:ops[j]? with
    |none=>rw [zW,hoj] at hj;cases hj
    |some oj=>
     rw [qH hoj] at hj
     exact hf.at_.vals j oj t ⟨hft j (Array.getElem?_eq_some_iff.1 hoj).1,_,Array.getElem_mem hx,he.1,he.2⟩ hoj hj oj hoj t hj
   ·have hno: ∀j,zW ops j≠some t:=fun j hj=>hex ⟨j,hj⟩
    rw [hf.at_.keep t (hnd t hno)]
    exact (upd G L t).st _ _ _ (hst t (fun j _=>hno j)) hf.at_.cls.2
 case fin=>
  intro b W hf
  have hA:At w0 (zCn ops k (upd G L)) n ds b W:=⟨hf.at_.cls.1,by rw [hf.at_.size];exact h.size,by rw [hf.at_.defers];exact h.nd,hmask b W fun t ht=>by
   rcases ht with ⟨j,hjk,hj⟩|hno
   ·cases hoj:ops[j]? with
    |none=>rw [zW,hoj] at hj;cases hj
    |some oj=>
     rw [qH hoj] at hj
     exact hf.at_.vals j oj t ⟨hjk,hft j (Array.getElem?_eq_some_iff.1 hoj).1⟩ hoj hj oj hoj t hj
   ·rw [hf.at_.keep t (hnd t hno)]
    exact (upd G L t).st _ _ _ (hst t (fun j _=>hno j)) hf.at_.cls.2⟩
  have h2:=forced (Q:=y8 Q) hch' (ops.size - k) 0 b W oN (by simpa using hfin b W hA (fun q q' hq hq' hne b1 b2 e1 e2=>(by
   obtain ⟨g1,_,_,⟨_,_,_,g2⟩,_⟩:=hal q hq
   obtain ⟨g1',_,_,⟨_,_,_,g2'⟩,_⟩:=hal q' hq'
   exact hf.apart q.i q'.i _ _ q.d q'.d b1 b2 ⟨g1,hft _ oN⟩ ⟨g1',hft _ oN⟩ hne (List.any_eq_true.2 ⟨q,hq,by simp⟩) (List.any_eq_true.2 ⟨q',hq',by simp⟩) g2 g2' rfl rfl e1 e2)))
  have h3: ∀(f:Nat) (l:Array Bool) (a:Act) (w:World),wpAnyIn F m P .any ops (y8 Q) f l a w->q7 F m P .any ops ops.size (fun _=>True) (y8 Q) f l a w:=by
   intro f
   induction f with
   |zero=>intro l a w hh;exact hh
   |succ f ih=>intro l a w hh;exact ⟨hh.1,fun i hi=>wpOpIn_mono (fun a w h5=>⟨.inr trivial,ih _ _ _ h5⟩) (hh.2 i hi)⟩
  exact h3 _ _ _ _ (by simpa using h2)
section
variable {S:Nat->Prop} {w0:World} {K:List (Nat×KF)} {B:List Bx} {n:Nat} {ds:List Deferred} {a:Act} {w:World} {F:Fence} {m:Nat} {P:Program} {ops:Array Oper} {Q:Exit->Act->World->Prop}
theorem zBR {id:Nat} (fl:Nat->Bool) (al:List NewB) (k:Nat) (L:List (Nat×Rw)) (hmix:P.follows .mixedOrders=true) (h:StS S w0 K B n ds a w)
  (hal: ∀q,q∈al->q.i<k/\q.f.isIn (zM L) q.d/\(∃ty pos aft,ops[q.i]?=some ⟨some q.d, .alloc q.e,ty,pos,aft,none⟩)/\zeroCells P q.e=some q.cs/\ ∀v W,(SF.own w q.e q.cs).p v W->q.f.p v W)
  (hchk:(zEv ops fl k n (L.map (·.1))&&zAJ ops (K.map (·.1)++B.map (·.t))&&zAs (L.map (·.1)))=true)
  (hobs:Obs F m P w ops (upd (jH K B) (zM L)) (ops.toList.take k))
  (hfin: ∀Q',(∀a w,Q .normal a w->Q' .normal a w)-> ∀a w,StS S w0 (zBm L++K) B n ds a w->(∀q,q∈zM L->q.2.p (a.tmps.getD q.1 undef) w)->zMW al a->zBj F m P ops Q' k a w):(Code.region id ops true).wpIn F m P Q a w:=by
 simp only [Bool.and_eq_true] at hchk
 have hkeys:(zM L).map (·.1)=L.map (·.1):=by simp [zM]
 have h0:=hchk.1.1
 unfold zEv at h0
 simp only [Bool.and_eq_true] at h0
 obtain ⟨⟨⟨⟨⟨⟨⟨⟨hap,_⟩,_⟩,_⟩,_⟩,hks⟩,_⟩,_⟩,_⟩:=h0
 exact zCA k L h (Fin:=fun a w=>zMW al a->zBj F m P ops (y8 Q) k a w) (fun G' hA hO hF=>zFQ fl al k (zM L) hmix (fun q hq=>let ⟨g1,g2,g3,g4,g5⟩:=hal q hq;⟨g1,g2,by rw [hkeys];exact hchk.2,g3,g4,g5⟩) (by rw [hkeys];exact hchk.1.1) hA hO (fun a w hA hD=>hF a w hA hD)) hap hks hchk.1.2 hchk.2 hobs (fun a w h hr hD=>hfin (y8 Q) (fun a w h=>h) a w h hr hD)
end
section
variable {S:Nat->Prop} {F:Fence} {m:Nat} {P:Program} {Q:Exit->Act->World->Prop} {w0:World} {K:List (Nat×KF)} {B:List Bx} {n:Nat} {ds:List Deferred} {a:Act} {w:World}
theorem zDT {σ:Type} {c:Code} (Inv:σ->Act->World->Prop) (mu:σ->Nat) (x0:σ) (h0:Inv x0 a w)
  (round: ∀x a w,Inv x a w->c.wpIn F m P (Exit.then (fun a' w'=> ∃y,mu y<mu x/\Inv y a' w') Q) a w):(Code.loop c).wpIn F m P Q a w:=by
 have low: ∀a w,(∃k, ∃x,mu x=k/\Inv x a w)-> ∃k,(∃x,mu x=k/\Inv x a w)/\ ∀j,j<k-> ¬ ∃x,mu x=j/\Inv x a w:=
  fun a w ⟨k,hk⟩=>zDp k hk
 open Classical in
 refine wpIn_loop (fun a w=> ∃k, ∃x,mu x=k/\Inv x a w) (fun a w=>if h: ∃k, ∃x,mu x=k/\Inv x a w then Classical.choose (low a w h) else 0) ⟨_,x0,rfl,h0⟩ ?_
 rintro a w hA
 have e0:=Classical.choose_spec (low a w hA)
 obtain ⟨x,hm,hst⟩:=e0.1
 refine Code.wpIn_mono ?_ (round x a w hst)
 intro e a' w' h
 cases e with
 |normal=>
  obtain ⟨y,h2,h3⟩: ∃y,mu y<mu x/\Inv y a' w':=h
  have hA': ∃k, ∃x,mu x=k/\Inv x a' w':=⟨_,y,rfl,h3⟩
  refine ⟨hA', ?_⟩
  simp only [dif_pos hA,dif_pos hA']
  have e1:=Classical.choose_spec (low a' w' hA')
  have:Classical.choose (low a' w' hA')<=mu y:=Nat.not_lt.1 fun hlt=>e1.2 _ hlt ⟨y,rfl,h3⟩
  omega
 |_=>exact h
theorem StS.learn (h:StS S w0 K B n ds a w) (t:Nat) (v:Value) (e:a.tmps.getD t undef=v):StS S w0 ((t, .u (UF.eq v))::K) B n ds a w:=
 ⟨h.gr,h.size,h.nd,fun q hq=>by
  rcases List.mem_cons.1 hq with rfl|hq
  ·exact e
  ·exact h.sl q hq,h.bx,h.mks,h.so.imp (fun hu q hq=>(by
   rcases List.mem_cons.1 hq with rfl|hq
   ·exact ⟨_,rfl⟩
   ·exact hu q hq)) (fun x=>x)⟩
theorem StS.self (h:StS S w0 K B n [] a w) (hu: ∀q,q∈K-> ∃f,q.2= .u f):StS (inB B) w K B n [] a w:=by
 refine ⟨BlS.refl _ _,h.size,h.nd,fun q hq=> ?_,yQ.over (a:=a) B (fun x hx=> ?_) (fun _ _=>rfl) h.bx,⟨[],Marks.nil _ _⟩, .inl hu⟩
 ·obtain ⟨f,e⟩:=hu q hq
  have:=h.sl q hq
  rw [e] at this ⊢
  exact this
 ·cases hr:x.r with
  |true=>exact .inl rfl
  |false=>exact .inr (.inr ⟨x,hx,rfl,hr⟩)
theorem zH5 {w1:World} (hb:BlS (inB B) w w1) (hbx:yQ S w0 a w B):jO w w1:=fun q u hq=>by
 have hlt:=World.block_lt_of_cell? w _ hq
 by_cases e:inB B q.block
 ·exfalso
  obtain ⟨x,hx,e1,_⟩:=e
  obtain ⟨cs,_,_,h3,_,h5⟩:=hbx.mem x hx
  have:=zDY h3 h5 e1.symm hq
  cases this
 ·exact (World.cell?_of_block (hb.block _ hlt e)).trans hq
theorem StS.itr_to {S':Nat->Prop} {w1:World} {K':List (Nat×KF)} {n':Nat} {ds':List Deferred} {a':Act} {N:Nat} (h0:StS S' w0 K' B n' ds' a' w) (h1:BlS (inB B) w w1) (hN: ∀x,x∈B->x.r=false->N<=x.b) (hNw:N<=w.heap.size):Itr N w w1:=
 ⟨h1.os,h1.tape,h1.output,h1.size,fun k hk=>h1.block k (Nat.lt_of_lt_of_le hk hNw) fun ⟨x,hx,e,hr⟩=>(by have:=hN x hx hr;omega),
  fun k o ho hc=>(h1.block k (Array.getElem?_eq_some_iff.1 ho).1 fun ⟨x,hx,e,_⟩=>(by
   obtain ⟨cs,_,_,h3,_⟩:=h0.bx.mem x hx
   rw [e,ho] at h3
   cases h3
   cases hc)).trans ho,zH5 h1 h0.bx⟩
theorem StS.yielded (h:StS S w0 K B n [] a w) {N:Nat} {C:Nat->Prop} {w':World} (hr:Rnd N C w w') (hu: ∀q,q∈K-> ∃f,q.2= .u f) (hC: ∀x,x∈B-> ¬C x.b):StS (inB B) w' K B n [] a w':=by
 refine ⟨BlS.refl _ _,h.size,h.nd,fun q hq=> ?_,yQ.stay hr.keep B (fun x hx=> ?_) (yQ.over (a:=a) B (fun x hx=> ?_) (fun _ _=>rfl) h.bx),⟨[],Marks.nil _ _⟩, .inl hu⟩
 ·obtain ⟨f,e⟩:=hu q hq
  have:=h.sl q hq
  rw [e] at this ⊢
  exact f.us _ _ _ this hr.keep
 ·obtain ⟨cs,_,_,h3,_⟩:=h.bx.mem x hx
  rw [h3]
  exact hr.cells _ _ h3 rfl (hC x hx)
 ·cases hrr:x.r with
  |true=>exact .inl rfl
  |false=>exact .inr (.inr ⟨x,hx,rfl,hrr⟩)
theorem zHm {a:Act} {d:Tmp} {y:Operand} {l:Nat} {xs:Array Operand} {ats:Array TypeId} {ty:TypeId} {pos:String} {aft:Array Edge} {w:World} (hy:a.eval y= .func (.yield l) #[] #[]):
  (execOp a.eval ⟨some d, .call ⟨.value y,xs,ats⟩,ty,pos,aft,none⟩).run P w=(Instr.yield l (xs.map a.eval)).run P w:=by
 simp only [execOp,resolve,hy]
 simp [invoke,Deferred.ofValue,Sem.run_bind,Sem.run_pure,Result.andThen]
theorem zTX (f:Operand->Value) (x y:Operand):(Array.map f #[x,y]).getD 0 undef=f x:=by simp [Array.getD_eq_getD_getElem?]
theorem zTW (f:Operand->Value) (x y:Operand):(Array.map f #[x,y]).getD 1 undef=f y:=by simp [Array.getD_eq_getD_getElem?]
theorem zJf {f:FuncId} {fn:Func} {c:Code} {args:Array Value} {R:Ending->World->Prop}
  (hf:P.funcs[f]?=some fn) (hb:fn.body=some c) (h:c.wpIn Fence.wide 0 P (bodyPost P fn R) { tmps:=args++Array.replicate (fn.ntmps - args.size) undef,defers:= [] } w):Calls P f args w R:=zBd hf hb h
theorem zAw {K:List (Nat×KF)} (h:(K.all fun q=>zSi q.2)=true): ∀q,q∈K-> ∃f,q.2=KF.u f:=fun q hq=>by
 have:=List.all_eq_true.1 h q hq
 cases hq2:q.2 with
 |u f=>exact ⟨f,rfl⟩
 |o f=>rw [hq2] at this;cases this
theorem zIw {fn:Func} {args:Array Value} (S:Nat->Prop) (K0:List (Nat×UF)) (B0:List Bx) (hn:Nat.ble args.size fn.ntmps=true) (hK: ∀q,q∈K0->q.1<args.size/\q.2.p (args.getD q.1 undef) w)
  (hB:yQ S w ⟨args, []⟩ w B0) (hBs: ∀x,x∈B0->x.t<args.size):StS S w (K0.map fun q=>(q.1,KF.u q.2)) B0 fn.ntmps [] { tmps:=args++Array.replicate (fn.ntmps - args.size) undef,defers:= [] } w:=by
 have hn:=Nat.le_of_ble_eq_true hn
 refine ⟨BlS.refl _ _,by simp;omega,rfl,fun q hq=> ?_,yQ.keep (a:=⟨args, []⟩) (Below.refl _ _) iiz B0 (fun x hx=> ?_) hB,⟨[],Marks.nil _ _⟩, .inl fun q hq=> ?_⟩
 ·obtain ⟨p,hp,rfl⟩:=List.mem_map.1 hq
  obtain ⟨h1,h2⟩:=hK p hp
  have:(args++Array.replicate (fn.ntmps - args.size) undef).getD p.1 undef=args.getD p.1 undef:=by
   rw [Array.getD_eq_getD_getElem?,Array.getD_eq_getD_getElem?,Array.getElem?_append_left h1]
  show p.2.p ((args++Array.replicate (fn.ntmps - args.size) undef).getD p.1 undef) w
  rw [this]
  exact h2
 ·show (args++Array.replicate (fn.ntmps - args.size) undef).getD x.t undef=args.getD x.t undef
  rw [Array.getD_eq_getD_getElem?,Array.getD_eq_getD_getElem?,Array.getElem?_append_left (hBs x hx)]
 ·obtain ⟨p,hp,rfl⟩:=List.mem_map.1 hq
  exact ⟨_,rfl⟩
def zMk (W:World) (gf:Nat) (te:TypeId) (C:CU):SF:=⟨fun v w=> ∃(b:Nat) (cs:List Value),v= .func (.func gf) #[] #[.pointer (some ⟨b,0,none⟩)]/\W.heap.size<=b/\w.heap[b]?=some (.cells cs.toArray te (0,0))/\C.p cs w/\cs.all yG=true,fun _ _ _ ⟨b,cs,h1,h2,h3,h4,h5⟩ hb=>⟨b,cs,h1,h2,(hb.block b (Array.getElem?_eq_some_iff.1 h3).1).trans h3,C.us _ _ _ h4 (zT hb),h5⟩⟩
theorem zHl {W W':World} {gf:Nat} {te:TypeId} {C:CU} (h:W.heap.size<=W'.heap.size) (v:Value) (w:World) (hv:(zMk W' gf te C).p v w):(zMk W gf te C).p v w:=by
 obtain ⟨b,cs,h1,h2,h3⟩:=hv
 exact ⟨b,cs,h1,Nat.le_trans h h2,h3⟩
theorem StS.boxAt (h:StS S w0 K B n ds a w) {c:Nat} {z:Bx} (hB:zFg B c=some z): ∃cs:List Value,w.heap[z.b]?=some (.cells cs.toArray z.e (0,0))/\z.c.p cs w/\cs.all yG=true:=by
 obtain ⟨cs,_,_,h3,h4,h5⟩:=h.bx.mem z (zAl hB).1
 exact ⟨cs,h3,h4,h5⟩
theorem StS.inB_new (h:St w0 K B n ds a w) {q:Nat} (hq:inB B q):w0.heap.size<=q:=by
 obtain ⟨x,hx,e,hr⟩:=hq
 obtain ⟨_,_,hc,_⟩:=h.bx.mem x hx
 rcases hc with hc|hc|hc
 ·rw [hr] at hc;cases hc
 ·omega
 ·exact hc.elim
def CU.is (vs:List Value):CU:=⟨fun cs _=>cs=vs,fun _ _ _ h _=>h⟩
end
def CU.ok (z:Nat) (C:CU):Prop:= ∀cs W,C.p cs W->cs.length=z/\cs.all yG=true/\ ∀u,u∈cs->u.oneCell'=true
def zCb (w:World) (base:Nat) (e:TypeId) (z:Nat) (v:Value) (Cs:List CU):Prop:=
 (v= .slice none 0 0/\Cs= [])∨ ∃g cap cur,v= .slice (some ⟨g,0,none⟩) Cs.length cap/\base<=g/\w.heap[g]?=some (.cells cur e (0,0))/\Cs.length<=cap/\cap<=maxLen/\cur.size=cap*z/\cur.toList.all yG=true/\ ∀(i:Nat) (C:CU),Cs[i]?=some C->C.p ((cur.toList.drop (i*z)).take z) w
theorem zCb.nil (w:World) (base:Nat) (e:TypeId) (z:Nat):zCb w base e z (.slice none 0 0) []:= .inl ⟨rfl,rfl⟩
theorem zCb.lt {w:World} {base e z v Cs} (h:zCb w base e z v Cs): ∀k,v.ownBlock=some k->base<=k/\k<w.heap.size:=by
 intro k hk
 rcases h with ⟨rfl,_⟩|⟨g,cap,cur,rfl,hb,hg,_⟩
 ·simp [Value.ownBlock] at hk
 ·simp [Value.ownBlock] at hk
  subst hk
  exact ⟨hb,(Array.getElem?_eq_some_iff.1 hg).1⟩
theorem zCb.mono {w:World} {base base' e z v Cs} (h:zCb w base e z v Cs) (hb:base'<=base):zCb w base' e z v Cs:=
 h.imp id fun ⟨g,cap,cur,h1,h2,h3⟩=>⟨g,cap,cur,h1,Nat.le_trans hb h2,h3⟩
theorem zCb.keep {w w':World} {base e z v Cs} (h:zCb w base e z v Cs) (hb: ∀k,v.ownBlock=some k->w'.heap[k]?=w.heap[k]?) (hk:jO w w'):zCb w' base e z v Cs:=by
 rcases h with h|⟨g,cap,cur,rfl,h2,h3,h4,h5,h6,h7,h8⟩
 ·exact .inl h
 ·exact .inr ⟨g,cap,cur,rfl,h2,(hb g rfl).trans h3,h4,h5,h6,h7,fun i C hi=>C.us _ _ _ (h8 i C hi) hk⟩
theorem zCb.below {w w':World} {base e z v Cs} (h:zCb w base e z v Cs) (hb:Below w.heap.size w w'):zCb w' base e z v Cs:=
 h.keep (fun k hk=>hb.block k (h.lt k hk).2) (zT hb)
theorem zCb.row {w:World} {base e z v Cs} (h:zCb w base e z v Cs):(SF.row z Cs).p v w:=by
 rcases h with ⟨rfl,rfl⟩|⟨g,cap,cur,rfl,h2,h3,h4,h5,h6,h7,h8⟩
 ·exact ⟨none,0,rfl,Nat.le_refl _,by decide,fun _=>rfl,fun i C hi=>by simp at hi⟩
 ·refine ⟨_,cap,rfl,h4,by unfold maxLen at h5;omega,fun e=>(by cases e),fun i C hi=>⟨g,0,_,rfl,fun j u hj=> ?_,h8 i C hi⟩⟩
  rw [List.getElem?_take] at hj
  split at hj
  ·rw [List.getElem?_drop] at hj
   unfold World.cell?
   simp only [h3]
   have:0+i*z+j=i*z+j:=by omega
   rw [this]
   simpa using hj
  ·cases hj
theorem zCb.keepU {w w':World} {base e z v Cs} (h:zCb w base e z v Cs) (hg:w.grownBy w' v.ownBlock):jO w w':=fun p x hp=>by
 have hlt:=World.block_lt_of_cell? w _ hp
 by_cases e1:some p.block=v.ownBlock
 ·exfalso
  rcases h with ⟨rfl,_⟩|⟨g,cap,cur,rfl,h2,h3,h4,h5,h6,h7,h8⟩
  ·simp [Value.ownBlock] at e1
  ·simp [Value.ownBlock] at e1
   have:=zDY (cs:=cur.toList) (z:=(0,0)) (by simpa using h3) h7 e1 hp
   cases this
 ·exact (World.cell?_of_block (hg.block _ hlt e1)).trans hp
def zIh (P:Program) (t:TypeId):Option (TypeId×Nat×Bool):=match P.underlying t with
 | some (.slice e)=>match P.info? e with
  |some i=>match i.zero with
   |some zv=>some (e,i.size,zv.cells.size==i.size&&zv.cells.toList.all yG&&decide (0<i.size)&&Nat.ble i.bytes 1000)
   |none=>none
  |none=>none
 |_=>none
theorem zD0 {P:Program} {t e:TypeId} {z:Nat} (h:zIh P t=some (e,z,true)):P.underlying t=some (.slice e)/\ ∃i zv,P.info? e=some i/\i.zero=some zv/\i.size=z/\i.bytes<=1000/\zv.cells.size=z/\zv.cells.toList.all yG=true/\0<z:=by
 unfold zIh at h
 split at h<;>try cases h
 rename_i e' hu
 split at h<;>try cases h
 rename_i i hi
 split at h<;>try cases h
 rename_i zv hz
 simp only [Option.some.injEq,Prod.mk.injEq,Bool.and_eq_true,beq_iff_eq,decide_eq_true_eq] at h
 obtain ⟨rfl,rfl,⟨⟨h1,h2⟩,h3⟩,h4⟩:=h
 exact ⟨hu,i,zv,hi,hz,rfl,Nat.le_of_ble_eq_true h4,h1,h2,h3⟩
theorem zB4 {zc:Array Value} (h:zc.toList.all yG=true) (n:Nat):(Builtin.zeroCells zc n).toList.all yG=true:=by
  refine List.all_eq_true.2 fun u hu=> ?_
  simp only [Builtin.zeroCells,Array.toList_map,List.mem_map,Array.toList_range,List.mem_range] at hu
  obtain ⟨i,hi,rfl⟩:=hu
  have h0 : 0 < zc.size := by rcases Nat.eq_zero_or_pos zc.size with h|h;· rw [h] at hi;omega
                              · exact h
  have hlt:i % zc.size<zc.size:=Nat.mod_lt _ h0
  have:zc[i % zc.size]!∈zc.toList:=by
    rw [getElem!_pos zc _ hlt]
    exact Array.getElem_mem_toList hlt
  exact List.all_eq_true.1 h _ this
theorem zEN {W:World} {b z:Nat}: ∀(Ds:List CU) (o:Nat),(∀C,C∈Ds->CU.ok z C)->(∀(i:Nat) (C:CU),Ds[i]?=some C-> ∃cs,Mem W b (o+i*z) cs/\C.p cs W)->
  ∃news:List Value,news.length=Ds.length*z/\(∀j u,news[j]?=some u->W.cell? ⟨b,o+j,none⟩=some u)/\(∀u,u∈news->u.oneCell'=true)/\news.all yG=true/\ ∀(i:Nat) (C:CU),Ds[i]?=some C->C.p ((news.drop (i*z)).take z) W
 | [],o,_,_=>⟨[],by simp,by simp,by simp,rfl,by simp⟩
 | D::Ds,o,hok,h=>by
  obtain ⟨cs,h1,h2⟩:=h 0 D rfl
  obtain ⟨hl,hn,h1c⟩:=hok D (by simp) cs W h2
  obtain ⟨ns,g1,g2,g3,g4,g5⟩:=zEN Ds (o+z) (fun C hC=>hok C (by simp [hC])) fun i C hi=>by
   obtain ⟨cs',h3,h4⟩:=h (i+1) C (by simpa using hi)
   refine ⟨cs', ?_,h4⟩
   rwa [show o+(i+1)*z=o+z+i*z by rw [Nat.add_mul];omega] at h3
  refine ⟨cs++ns,by rw [List.length_append,hl,g1,List.length_cons,Nat.add_mul];omega,fun j u hj=> ?_,fun u hu=> ?_,by rw [List.all_append,hn,g4];rfl,fun i C hi=> ?_⟩
  ·rcases Nat.lt_or_ge j z with hlt|hge
   ·rw [List.getElem?_append_left oN] at hj
    have:=h1 j u hj
    rwa [show o+0*z+j=o+j by omega] at this
   ·rw [List.getElem?_append_right oN] at hj
    have:=g2 _ u hj
    rwa [show o+z+(j - cs.length)=o+j by omega] at this
  ·rcases List.mem_append.1 hu with hu|hu
   ·exact h1c u hu
   ·exact g3 u hu
  ·cases i with
   |zero=>
    obtain rfl:D=C:=by simpa using hi
    rw [show 0*z=0 by omega,List.drop_zero,List.take_append_of_le_length oN,List.take_of_length_le oN]
    exact h2
   |succ i=>
    rw [show (i+1)*z=cs.length+i*z by rw [Nat.add_mul];omega,List.drop_append]
    have e1:cs.drop (cs.length+i*z)= []:=List.drop_eq_nil_of_le oN
    rw [e1,List.nil_append,show cs.length+i*z - cs.length=i*z by omega]
    exact g5 i C (by simpa using hi)
theorem zC5 {cs ds:List Value} {z i n:Nat} (h:cs.length=n*z) (hi:i<n):((cs++ds).drop (i*z)).take z=(cs.drop (i*z)).take z:=by
 have h1:i*z+z<=n*z:=by rw [<-Nat.succ_mul];exact Nat.mul_le_mul_right _ hi
 rw [List.drop_append_of_le_length oN,List.take_append_of_le_length (by rw [List.length_drop];omega)]
theorem zMv {cs ds:List Value} {z i n:Nat} (h:cs.length=n*z):(cs++ds).drop ((n+i)*z)=ds.drop (i*z):=by
 rw [Nat.add_mul, <-h,List.drop_append]
 have e1:cs.drop (cs.length+i*z)= []:=List.drop_eq_nil_of_le oN
 rw [e1,List.nil_append]
 congr 1
 omega
theorem zDO {w w':World} {z:Nat} {Cs Ds:List CU} {cs ds es:List Value} (hl:cs.length=Cs.length*z) (hd:ds.length=Ds.length*z) (h1: ∀(i:Nat) (C:CU),Cs[i]?=some C->C.p ((cs.drop (i*z)).take z) w) (h2: ∀(i:Nat) (C:CU),Ds[i]?=some C->C.p ((ds.drop (i*z)).take z) w) (hk:jO w w'):
  ∀(i:Nat) (C:CU),(Cs++Ds)[i]?=some C->C.p (((cs++ds++es).drop (i*z)).take z) w':=fun i C hi=>by
 rcases Nat.lt_or_ge i Cs.length with hlt|hge
 ·rw [List.getElem?_append_left hlt] at hi
  rw [List.append_assoc,zC5 hl hlt]
  exact C.us _ _ _ (h1 i C hi) hk
 ·obtain ⟨j,rfl⟩: ∃j,i=Cs.length+j:=⟨i - Cs.length,by omega⟩
  rw [List.getElem?_append_right oN,Nat.add_sub_cancel_left] at hi
  have hj:j<Ds.length:=(List.getElem?_eq_some_iff.1 hi).1
  rw [List.append_assoc,zMv hl,zC5 hd hj]
  exact C.us _ _ _ (h2 j C hi) hk
theorem zIi {a b c:List Value} (ha:a.all yG=true) (hb:b.all yG=true) (hc:c.all yG=true):(a++b++c).all yG=true:=by
 rw [List.all_append,List.all_append,ha,hb,hc];rfl
theorem zKR {P:Program} {w:World} {base:Nat} {t ty e:TypeId} {z:Nat} {v v2:Value} {Cs Ds:List CU} (happ:zIh P t=some (e,z,true)) (hr:zCb w base e z v Cs) (h2:(SF.row z Ds).p v2 w) (hD: ∀C,C∈Ds->CU.ok z C)
    (hsz:Cs.length+Ds.length<=140000000000) (hbase:base<=w.heap.size):
    ∃v' w',(Builtin.append_ #[t,t] ty #[v,v2]).run P w= .ok v' w'/\zCb w' base e z v' (Cs++Ds)/\w.grownBy w' v.ownBlock/\(v'.ownBlock=v.ownBlock∨v'.ownBlock=some w.heap.size):=by
  obtain ⟨ht,i,zv,hi,hz,hs,hby0,hzs,hzn,hz0⟩:=zD0 happ
  have hmx:Cs.length+Ds.length<=maxLen:=by unfold maxLen;omega
  have hbb:(Cs.length+Ds.length)*i.bytes<=140737488355328:=Nat.le_trans (Nat.mul_le_mul hsz hby0) (by decide)
  obtain ⟨A,c,rfl,hlc,hcm,hAn,hel⟩:=h2
  have hsmall:Cs.length+Ds.length<=9223372036854775807:=by unfold maxLen at hmx;omega
  cases A with
  | none=>
    have hD0:Ds= []:=by
      cases Ds with
      |nil=>rfl
      |cons D Ds=>obtain ⟨b,o,cs,e1,_⟩:=hel 0 D rfl;cases e1
    subst hD0
    have hc:=hAn rfl
    subst hc
    rcases hr with ⟨rfl,rfl⟩|⟨g,cap,cur,rfl,g2,g3,g4,g5,g6,g7,g8⟩
    · refine ⟨.slice none 0 0,w, ?_, .inl ⟨rfl,rfl⟩,⟨rfl,rfl,rfl,Nat.le_refl _,fun _ _ _=>rfl⟩, .inl rfl⟩
      simp [Builtin.append_,run_underlying ht,sizeOf,typeInfo,hi,Builtin.lenOf,Builtin.firstCells]
    · refine ⟨_,w, ?_, .inr ⟨g,cap,cur,rfl,g2,g3,by simpa using g4,g5,g6,g7,by simpa using g8⟩,⟨rfl,rfl,rfl,Nat.le_refl _,fun _ _ _=>rfl⟩, .inl rfl⟩
      simp [Builtin.append_,run_underlying ht,sizeOf,typeInfo,hi,Builtin.lenOf,Builtin.firstCells,g4,storeCells]
  | some ad=>
    obtain ⟨news,n1,n2,n3,n4,n5⟩: ∃news:List Value,news.length=Ds.length*z/\(∀j u,news[j]?=some u->w.cell? (ad.add j)=some u)/\(∀u,u∈news->u.oneCell'=true)/\news.all yG=true/\ ∀(i:Nat) (C:CU),Ds[i]?=some C->C.p ((news.drop (i*z)).take z) w:=by
      cases Ds with
      |nil=>exact ⟨[],by simp,by simp,by simp,rfl,by simp⟩
      | cons D Ds=>
        obtain ⟨b,o,cs,e1,_⟩:=hel 0 D rfl
        cases e1
        obtain ⟨news,k1,k2,k3⟩:=zEN (W:=w) (b:=b) (z:=z) (D::Ds) o hD fun i C hiC=>by
          obtain ⟨b',o',cs',e',m1,m2⟩:=hel i C hiC
          cases e'
          exact ⟨cs',m1,m2⟩
        exact ⟨news,k1,fun j u hj=>by rw [Addr.add_lit];exact k2 j u hj,k3⟩
    -- what the growing arm leaves
    have grown: ∀(old:Nat) (cs:List Value) (row:Option Nat),cs.length=Cs.length*z->cs.all yG=true->(∀(i:Nat) (C:CU),Cs[i]?=some C->C.p ((cs.drop (i*z)).take z) w)->old<Cs.length+Ds.length->
        zCb (w.drew.alloc (.cells (cs.toArray++news.toArray++Builtin.zeroCells zv.cells (grownCap w (Cs.length+Ds.length) old e - (Cs.length+Ds.length))) e)) base e z (.slice (some ⟨w.heap.size,0,none⟩) (Cs.length+Ds.length) (grownCap w (Cs.length+Ds.length) old e)) (Cs++Ds)/\
        w.grownBy (w.drew.alloc (.cells (cs.toArray++news.toArray++Builtin.zeroCells zv.cells (grownCap w (Cs.length+Ds.length) old e - (Cs.length+Ds.length))) e)) row:=by
      intro old cs row hl hn hcs ho
      have hge:=grownCap_ge w (Cs.length+Ds.length) old e
      have hcm:grownCap w (Cs.length+Ds.length) old e<=maxLen:=grownCap_le_maxLen w (Cs.length+Ds.length) old e hmx
      refine ⟨.inr ⟨w.heap.size,_,_,by rw [List.length_append],hbase,heap_alloc_new w.drew _,by rw [List.length_append];exact hge,hcm, ?_, ?_, ?_⟩,⟨rfl,rfl,rfl,by simp,fun k hk _=>heap_alloc_old w.drew _ hk⟩⟩
      · simp only [Array.size_append,List.size_toArray,size_zeroCells,hzs,hl,n1, <-Nat.add_mul]
        congr 1
        omega
      · simp only [Array.toList_append]
        exact zIi hn n4 (zB4 hzn _)
      · simp only [Array.toList_append]
        exact zDO hl n1 hcs n5 (zT ⟨rfl,rfl,rfl,by simp,fun k hk=>heap_alloc_old w.drew _ hk⟩)
    rcases hr with ⟨rfl,rfl⟩|⟨g,cap,cur,rfl,g2,g3,g4,g5,g6,g7,g8⟩
    · by_cases hm:Ds.length=0
      · have hD0:=List.eq_nil_of_length_eq_zero hm
        subst hD0
        refine ⟨.slice none 0 0,w, ?_, .inl ⟨rfl,rfl⟩,⟨rfl,rfl,rfl,Nat.le_refl _,fun _ _ _=>rfl⟩, .inl rfl⟩
        simp [Builtin.append_,run_underlying ht,sizeOf,typeInfo,hi,Builtin.lenOf,Builtin.firstCells,loadCells,loadCellsFrom]
      · have hr:=run_append_nil (P:=P) w t ty e i zv ht hi hz ad Ds.length c news (by rw [hs];exact n1) n2 oN (by simp at hsmall;omega) (by simp at hbb;omega)
        have hgr:=grown 0 [] (Value.ownBlock (.slice none 0 0)) (by simp) rfl (by simp) (by simp;omega)
        simp only [List.length_nil,Nat.zero_add,List.nil_append,Array.empty_append] at hgr ⊢
        exact ⟨_,_,hr,hgr.1,hgr.2, .inr rfl⟩
    · by_cases hroom:Cs.length+Ds.length<=cap
      · have hfit:Cs.length*i.size+news.length<=cur.size:=by rw [n1,g6,hs, <-Nat.add_mul];exact Nat.mul_le_mul_right _ hroom
        have hr:=run_append_room (P:=P) w t ty e i ht hi g Cs.length cap cur g3 ad Ds.length c news (by rw [hs];exact n1) n2 n3 hroom hfit
        rw [hs] at hr hfit
        have hgr:w.grownBy (w.setRow g (cur.toList.take (Cs.length*z)++news++cur.toList.drop (Cs.length*z+news.length)).toArray) (some g):=zDt w g _
        have hk:jO w (w.setRow g (cur.toList.take (Cs.length*z)++news++cur.toList.drop (Cs.length*z+news.length)).toArray):=
          zCb.keepU (v:= .slice (some ⟨g,0,none⟩) Cs.length cap) (Cs:=Cs) (base:=base) (e:=e) (z:=z) (.inr ⟨g,cap,cur,rfl,g2,g3,g4,g5,g6,g7,g8⟩) hgr
        have hcl:cur.toList.length=cap*z:=g6
        have hle:Cs.length*z<=cur.toList.length:=by rw [hcl];exact Nat.mul_le_mul_right _ g4
        have htl:(cur.toList.take (Cs.length*z)).length=Cs.length*z:=by rw [List.length_take,Nat.min_eq_left hle]
        have hsub: ∀u,u∈cur.toList->yG u=true:=List.all_eq_true.1 g7
        refine ⟨_,_,hr, .inr ⟨g,cap,_,by rw [List.length_append],g2,setRow_heap w g cur _ e _ g3,by rw [List.length_append];exact hroom,g5, ?_, ?_, ?_⟩,hgr, .inl rfl⟩
        · simp only [List.size_toArray,List.length_append,List.length_take,List.length_drop,Array.length_toList]
          rw [<-g6]
          omega
        · exact zIi (List.all_eq_true.2 fun u hu=>hsub u (List.mem_of_mem_take hu)) n4 (List.all_eq_true.2 fun u hu=>hsub u (List.mem_of_mem_drop hu))
        · refine zDO htl n1 (fun j C hj=> ?_) n5 hk
          have hlt:j<Cs.length:=(List.getElem?_eq_some_iff.1 hj).1
          have h1:=g8 j C hj
          rw [<-List.take_append_drop (Cs.length*z) cur.toList,zC5 htl hlt] at h1
          exact h1
      · have htl:(cur.toList.take (Cs.length*z)).length=Cs.length*z:=by
          rw [List.length_take,show cur.toList.length=cap*z from g6,Nat.min_eq_left (Nat.mul_le_mul_right _ g4)]
        have holds: ∀j u,(cur.toList.take (Cs.length*z))[j]?=some u->w.cell? ((⟨g,0,none⟩:Addr).add j)=some u:=fun j u hj=>by
          rw [Addr.add_lit,Nat.zero_add]
          rw [List.getElem?_take] at hj
          split at hj
          · unfold World.cell?
            simp only [g3]
            simpa using hj
          · cases hj
        have hr:=run_append_grow (P:=P) w t ty e i zv ht hi hz ⟨g,0,none⟩ Cs.length cap (cur.toList.take (Cs.length*z)) (by rw [hs];exact htl) holds ad Ds.length c news (by rw [hs];exact n1) n2 oN oN (growslice_fits oN hbb)
        have hgr:=grown cap (cur.toList.take (Cs.length*z)) (Value.ownBlock (.slice (some ⟨g,0,none⟩) Cs.length cap)) htl (List.all_eq_true.2 fun u hu=>List.all_eq_true.1 g7 u (List.mem_of_mem_take hu)) (fun j C hj=>by
          have hlt:j<Cs.length:=(List.getElem?_eq_some_iff.1 hj).1
          have h1:=g8 j C hj
          rw [<-List.take_append_drop (Cs.length*z) cur.toList,zC5 htl hlt] at h1
          exact h1) oN
        exact ⟨_,_,hr,hgr.1,hgr.2, .inr rfl⟩
section
variable {S:Nat->Prop} {F:Fence} {m:Nat} {P:Program} {Q:Exit->Act->World->Prop} {w0 w1:World} {K K0:List (Nat×KF)} {B B0:List Bx} {n n0:Nat} {ds ds0:List Deferred} {a a0:Act} {w:World}
theorem yQ.ro {S':Nat->Prop} {w':World}: ∀(B:List Bx),(∀x,x∈B->x.r=true)->yQ S w0 a w B->yQ S' w' a w B
 | [],_,_=>trivial
 |x::B,hr,⟨⟨cs,h1,_,h3⟩,h4⟩=>⟨⟨cs,h1, .inl (hr x (by simp)),h3⟩,yQ.ro B (fun y hy=>hr y (by simp [hy])) h4⟩
def frz (B:List Bx):List Bx:=B.map fun x=>⟨x.t,x.e,x.c,x.b,true⟩
theorem yQ.freeze: ∀(B:List Bx),yQ S w0 a w B->yQ S w0 a w (frz B)
 | [],_=>trivial
 |x::B,⟨⟨cs,h1,_,h3,h4,h5,h6⟩,h7⟩=>⟨⟨cs,h1, .inl rfl,h3,h4,h5,fun y hy=>by
  obtain ⟨z,hz,rfl⟩:=List.mem_map.1 hy
  exact .inr ⟨rfl,rfl⟩⟩,yQ.freeze B h7⟩
theorem StS.freeze (h:StS S w0 K B n ds a w):StS S w0 K (frz B) n ds a w:=⟨h.gr,h.size,h.nd,h.sl,yQ.freeze B h.bx,h.mks,h.so⟩
theorem StS.below (h:St w0 K B n ds a w):Below w0.heap.size w0 w:=h.gr.below
theorem StS.reb (h:St w0 K B n [] a w) (hB:(B.all fun x=>x.r)=true) (K':List (Nat×KF)) (hK: ∀q,q∈K'->q∈K∨ ∃f,q.2= .o f/\f.p (a.tmps.getD q.1 undef) w):St w K' B n [] a w:=
 ⟨BlS.refl _ _,h.size,h.nd,fun q hq=>by
  rcases hK q hq with hq|⟨f,e,hf⟩
  ·have h1:=h.sl q hq
   cases h2:q.2 with
   |u f=>rw [h2] at h1;exact h1
   |o f=>rw [h2] at h1;exact f.st _ _ _ h1 h.below
  ·rw [e];exact hf,yQ.ro B (fun x hx=>by simpa using List.all_eq_true.1 hB x hx) h.bx,⟨[],Marks.nil _ _⟩, .inr fun _ hh=>hh⟩
theorem StS.val (h:StS S w0 K B n ds a w) {t:Nat} {v:Value} (hm:(t,KF.u (UF.eq v))∈K):a.tmps.getD t undef=v:=h.sl _ hm
theorem StS.back (h0:StS S w0 K0 B0 n0 ds0 a0 w1) (h:St w1 K B n [] a w) (hu:(K.all fun q=>zSi q.2)=true):StS S w0 K B n [] a w:=
 ⟨h0.gr.trans h.below,h.size,h.nd,fun q hq=>by
  have h1:=h.sl q hq
  obtain ⟨f,e⟩:=zAw hu q hq
  rw [e] at h1 ⊢
  exact h1,by
  have: ∀B:List Bx,yQ noS w1 a w B->yQ S w0 a w B:=fun B=>by
   induction B with
   |nil=>exact fun _=>trivial
   |cons x B ih=>
    intro ⟨⟨cs,h1,h2,h3⟩,h4⟩
    exact ⟨⟨cs,h1,h2.imp id fun h=> .inl (by rcases h with h|h;exact Nat.le_trans h0.gr.size h;exact h.elim),h3⟩,ih h4⟩
  exact this B h.bx,⟨[],Marks.nil _ _⟩, .inl (zAw hu)⟩
theorem StS.resN (h:St w1 K B n [] a w) (hb:Below w0.heap.size w0 w1) {fn:Func} {f:SF} {t:Nat} (hr:fn.results=#[.tmp t]) (hd:f.p (a.tmps.getD t undef) w):bodyPost P fn (Ret w0 f) .ret a w:=by
 refine ⟨h.nd,_, ?_,⟨_,rfl,hd,hb.trans (h.below.mono hb.size)⟩⟩
 simp [results,hr]
theorem StS.resB (h:St w1 K B n [] a w) (hb:Below w0.heap.size w0 w1) {fn:Func} {f:SF} {t:Nat} (hr:fn.results=#[.tmp t]) (hd: ∀v W,(jH K B t).p v W->f.p v W):bodyPost P fn (Ret w0 f) .ret a w:=
 h.resN hb hr (hd _ _ (h.at.sl t))
def SF.newRow (W:World) (e:TypeId) (z:Nat) (Cs:List CU):SF:=⟨fun v w=>zCb w W.heap.size e z v Cs,fun _ _ _ h hb=>h.below hb⟩
theorem zJ8 {W:World} {e:TypeId} {z:Nat} {Cs:List CU} (v:Value) (w:World) (h:(SF.newRow W e z Cs).p v w):(SF.row z Cs).p v w:=zCb.row h
theorem zRu {ops:Array Oper} {k d:Nat} {x y:Operand} {t ty:TypeId} {pos:String} {aft:Array Edge} {e:TypeId} {z base:Nat} {v:Value} {Cs:List CU} (Ds:List CU) (h0:StS S w0 K0 B0 n0 ds0 a0 w1) (h:St w1 K B n [] a w) (hb0:w0.heap.size<=base) (hr:base<=w1.heap.size/\zCb w1 base e z v Cs)
  (ho:ops[k]?=some ⟨some d, .call ⟨.builtin .append,#[x,y],#[t,t]⟩,ty,pos,aft,none⟩) (happ:zIh P t=some (e,z,true)) (hf:zAt K B n d=true) (hu:(K.all fun q=>zSi q.2)=true)
  (hx:a.eval x=v) (hy:(SF.row z Ds).p (a.eval y) w) (hD: ∀C,C∈Ds->CU.ok z C) (hsz:Cs.length+Ds.length<=140000000000) (hB: ∀q,q∈B->q.r=true->q.b<base)
  (fin: ∀v' a' w',(base<=w'.heap.size/\zCb w' base e z v' (Cs++Ds))->StS S w0 ((d, .u (UF.eq v'))::K) B n [] a' w'->zBj F m P ops Q (k+1) a' w'):zBj F m P ops Q k a w:=by
 have hb1:=h.below
 have hr':zCb w base e z v Cs:=hr.2.below hb1
 obtain ⟨v',w',hrun,g1,g2,_⟩:=zKR (P:=P) (ty:=ty) happ hr' hy hD hsz (Nat.le_trans hr.1 hb1.size)
 have hrun2:(execOp a.eval ⟨some d, .call ⟨.builtin .append,#[x,y],#[t,t]⟩,ty,pos,aft,none⟩).run P w= .ok (.value v') w':=by
  simp only [execOp,resolve,invoke,builtin,Sem.run_bind,Sem.run_pure,Result.andThen_ok,List.map_toArray,List.map_cons,List.map_nil,hx,hrun]
 refine zBw ho rfl ⟨fun f hf=>(by
  unfold Oper.about at hf
  simp [resolve,go_sem] at hf), ?_⟩
 rw [Oper.semAt_eq _ _ _ (fun _ e=>by cases e),hrun2]
 have hk:jO w w':=hr'.keepU g2
 have hlt:=hr.2.lt
 have s0:=h0.back h hu
 have s1:StS S w0 K B n [] a w':=by
  refine ⟨?_,s0.size,s0.nd,fun q hq=>KF.us (s0.sl q hq) hk, ?_,⟨[],Marks.nil _ _⟩,s0.so⟩
  ·cases hv:v.ownBlock with
   |none=>
    refine ⟨g2.os.trans s0.gr.os,g2.tape.trans s0.gr.tape,g2.output.trans s0.gr.output,Nat.le_trans s0.gr.size g2.size,fun k hk1 hk2=> ?_⟩
    exact (g2.block k (Nat.lt_of_lt_of_le hk1 s0.gr.size) (by rw [hv];simp)).trans (s0.gr.block k hk1 hk2)
   |some g=>exact s0.gr.grown (by rw [hv] at g2;exact g2) (.inl (Nat.le_trans hb0 (hlt g hv).1))
  ·refine yQ.stay hk B (fun q hq=> ?_) s0.bx
   obtain ⟨_,_,hc,h3,_⟩:=h.bx.mem q hq
   refine g2.block _ (Array.getElem?_eq_some_iff.1 h3).1 fun e=> ?_
   have h4:=hlt _ e.symm
   rcases hc with hc|hc|hc
   ·have:=hB q hq hc;omega
   ·omega
   ·exact hc
 exact fin v' _ w' ⟨Nat.le_trans (Nat.le_trans hr.1 hb1.size) g2.size,g1⟩ (s1.set hf (Below.refl _ _) rfl)
theorem zHI {σ:Type} {c:Code} (I:σ->World->Prop) (Kf:σ->List (Nat×KF)) (mu:σ->Nat) (x0:σ) (hI:I x0 w) (h0:StS S w0 (Kf x0) B n ds a w)
  (round: ∀x a w,I x w->StS S w0 (Kf x) B n ds a w->c.wpIn F m P (Exit.then (fun a' w'=> ∃y,mu y<mu x/\I y w'/\StS S w0 (Kf y) B n ds a' w') Q) a w):(Code.loop c).wpIn F m P Q a w:=
 zDT (fun x a w=>I x w/\StS S w0 (Kf x) B n ds a w) mu x0 ⟨hI,h0⟩ fun x a w h=>round x a w h.1 h.2
end
def SF.fn (P:Program) (T:Array Value->World->SF->Prop):SF:=⟨fun v W=> ∃f caps,v= .func (.func f) #[] caps/\Enters P f/\ ∀W',Below W.heap.size W W'-> ∀args R,T args W' R->Calls P f (args++caps) W' (Ret W' R),fun _ _ _ ⟨f,caps,h1,h2,h3⟩ hb=>⟨f,caps,h1,h2,fun W' hb'=>h3 W' (hb.trans (hb'.mono hb.size))⟩⟩
section
variable {F:Fence} {m:Nat} {P:Program} {w0:World} {ops:Array Oper} {G:Nat->SF} {d:Tmp} {ty:TypeId} {pos:String} {aft:Array Edge}
theorem zLD {y:Operand} {xs:Array Operand} {ats:Array TypeId} (T:Array Value->World->SF->Prop) (hF:zIk F m P) (hy: ∀v W,Below w0.heap.size w0 W->(fct G y).p v W->(SF.fn P T).p v W)
  (h: ∀(b:Act) (W:World),Below w0.heap.size w0 W->(∀x,x∈xs.toList->(fct G x).p (b.eval x) W)->T (xs.map b.eval) W (G d)):
  qK F m P w0 ops G ⟨some d, .call ⟨.value y,xs,ats⟩,ty,pos,aft,none⟩:=by
 intro b W K Q hb hr hK
 have hin: ∀x,x∈(Op.call ⟨.value y,xs,ats⟩).operands.toList->(fct G x).p (b.eval x) W:=fun x hx=>qB hr hx
 obtain ⟨f,caps,e1,he,hc⟩:=hy _ _ hb (hin y (by simp [Op.operands,Call.operands]))
 have h1:=h b W hb fun x hx=>hin x (by simp [Op.operands,Call.operands];right;simpa using hx)
 refine ⟨fun g _=>hF.1 g, ?_⟩
 have hrun:(execOp b.eval ⟨some d, .call ⟨.value y,xs,ats⟩,ty,pos,aft,none⟩).run P W= .ok (.enter f (xs.map b.eval++caps)) W:=by
  simp only [execOp,resolve,e1,Deferred.ofValue,Sem.run_bind,Sem.run_pure,Result.andThen_ok,invoke]
  rw [show (#[]:Array Value)++xs.map b.eval=xs.map b.eval by simp]
  exact he _ _
 rw [Oper.semAt_eq _ _ _ (fun _ e=>by cases e),hrun]
 simp only [Oper.uponIn_enter]
 refine ⟨hF.2.1,CallsIn.mono (hF.2.2 _ _ _ (Ret W (G d)) (hc W (Below.refl _ _) _ _ h1)) fun e W' he=> ?_⟩
 obtain ⟨v,rfl,hv,hb'⟩:=he
 exact hK v W' (fun d' e=>by cases e;exact hv) hb'
theorem zO3 {y:Operand} {xs:Array Operand} {ats:Array TypeId} (T:Array Value->World->SF->Prop) (hF:zIk F m P) (hy: ∀v W,(fct G y).p v W->(SF.fn P T).p v W)
  (h: ∀(b:Act) (W:World),Below w0.heap.size w0 W->(∀x,x∈xs.toList->(fct G x).p (b.eval x) W)->T (xs.map b.eval) W (G d)):
  qK F m P w0 ops G ⟨some d, .call ⟨.value y,xs,ats⟩,ty,pos,aft,none⟩:=zLD T hF (fun v W _ h=>hy v W h) h
theorem zR6 {y x:Operand} {ats:Array TypeId} (T:Array Value->World->SF->Prop) (hF:zIk F m P) (hy: ∀v W,(fct G y).p v W->(SF.fn P T).p v W) (h: ∀u W,Below w0.heap.size w0 W->(fct G x).p u W->T #[u] W (G d)):qK F m P w0 ops G ⟨some d, .call ⟨.value y,#[x],ats⟩,ty,pos,aft,none⟩:=
 zO3 T hF hy fun b W hb hh=>by simpa using h _ W hb (hh x (by simp))
theorem zR5 {y x x':Operand} {ats:Array TypeId} (T:Array Value->World->SF->Prop) (hF:zIk F m P) (hy: ∀v W,(fct G y).p v W->(SF.fn P T).p v W) (h: ∀u v W,Below w0.heap.size w0 W->(fct G x).p u W->(fct G x').p v W->T #[u,v] W (G d)):qK F m P w0 ops G ⟨some d, .call ⟨.value y,#[x,x'],ats⟩,ty,pos,aft,none⟩:=
 zO3 T hF hy fun b W hb hh=>by simpa using h _ _ W hb (hh x (by simp)) (hh x' (by simp))
end
def zUo (f:UF):Prop:= ∀v W,f.p v W-> ∃s A n c A' n' c',v= .agg #[.bool s, .slice A n c, .slice A' n' c']
theorem zAL (q:Rat):zUo (fQN q):=fun _ _ h=>by
 obtain ⟨A,n,c,A',n',c',e⟩:=zCi h
 exact ⟨_,A,n,c,A',n',c',e⟩
def PTp (f g:UF) (v:Value) (w:World):Prop:= ∃s A n c A' n' c' s2 B k d B' k' d',v= .agg #[.bool s, .slice A n c, .slice A' n' c', .bool s2, .slice B k d, .slice B' k' d']/\f.p (.agg #[.bool s, .slice A n c, .slice A' n' c']) w/\g.p (.agg #[.bool s2, .slice B k d, .slice B' k' d']) w
def fPT (f g:UF):UF:= .mk' (PTp f g) fun _ _ _ ⟨s,A,n,c,A',n',c',s2,B,k,d,B',k',d',e,h1,h2⟩ u=>⟨s,A,n,c,A',n',c',s2,B,k,d,B',k',d',e,f.us _ _ _ h1 u,g.us _ _ _ h2 u⟩
abbrev fPN (p:V2):UF:=fPT (fQN p.1) (fQN p.2)
abbrev fPV (m:Nat) (p:V2):UF:=fPT (fRV m p.1) (fRV m p.2)
theorem zDy {cs:List Value} {a b c d e f:Value} (h:Value.agg cs.toArray= .agg #[a,b,c,d,e,f]):cs= [a,b,c,d,e,f]:=by
 have:=congrArg Array.toList (jM h)
 simpa using this
theorem zP (f g:UF): ∀cs:List Value, ∀W,(fPT f g).p (.agg cs.toArray) W->cs.length=6:=fun cs W ⟨_,_,_,_,_,_,_,_,_,_,_,_,_,_,e,_⟩=>by rw [zDy e];rfl
theorem zFi {f g:UF} (cs:List Value) (W:World) (h:(CU.agg (fPT f g)).p cs W):0+3<=cs.length/\f.p (.agg ((cs.drop 0).take 3).toArray) W:=by
 obtain ⟨_,_,_,_,_,_,_,_,_,_,_,_,_,_,e,h1,_⟩:=h
 rw [zDy e]
 exact ⟨by simp,h1⟩
theorem zDK {f g:UF} (cs:List Value) (W:World) (h:(CU.agg (fPT f g)).p cs W):3+3<=cs.length/\g.p (.agg ((cs.drop 3).take 3).toArray) W:=by
 obtain ⟨_,_,_,_,_,_,_,_,_,_,_,_,_,_,e,_,h1⟩:=h
 rw [zDy e]
 exact ⟨by simp,h1⟩
theorem zBS {f g:UF} (cs:List Value) (W:World) (h:(CU.agg (fPT f g)).p cs W):0+6<=cs.length/\(fPT f g).p (.agg ((cs.drop 0).take 6).toArray) W:=by
 obtain ⟨s,A,n,c,A',n',c',s2,B,k,d,B',k',d',e,h1,h2⟩:=h
 rw [zDy e]
 exact ⟨by simp,s,A,n,c,A',n',c',s2,B,k,d,B',k',d',rfl,h1,h2⟩
theorem yP {f g:UF} {v:Value} {W:World} (h:(fPT f g).p v W):(CU.agg (fPT f g)).p v.cells.toList W/\v.cells.toList.all yG=true:=by
 obtain ⟨s,A,n,c,A',n',c',s2,B,k,d,B',k',d',rfl,h1,h2⟩:=h
 exact ⟨⟨s,A,n,c,A',n',c',s2,B,k,d,B',k',d',rfl,h1,h2⟩,rfl⟩
theorem zKF {s s2:Bool} {A A' B B':Option Addr} {n c n' c' k d k' d':Nat} (u:Value) (hu:u∈ [Value.bool s, .slice A n c, .slice A' n' c', .bool s2, .slice B k d, .slice B' k' d']):u.oneCell'=true:=by
 simp only [List.mem_cons,List.not_mem_nil,or_false] at hu
 rcases hu with rfl|rfl|rfl|rfl|rfl|rfl<;>rfl
theorem yR {f g:UF} (v:Value) (W:World) (h:(fPT f g).p v W): ∃vs:List Value,v= .agg vs.toArray/\vs.length=6/\(∀u,u∈vs->u.oneCell'=true)/\vs.all yG=true/\(CU.agg (fPT f g)).p vs W:=by
 obtain ⟨s,A,n,c,A',n',c',s2,B,k,d,B',k',d',rfl,h1,h2⟩:=h
 exact ⟨_,rfl,rfl,zKF,rfl,s,A,n,c,A',n',c',s2,B,k,d,B',k',d',rfl,h1,h2⟩
theorem zDL (f g:UF):CU.ok 6 (CU.agg (fPT f g)):=fun cs W ⟨s,A,n,c,A',n',c',s2,B,k,d,B',k',d',e,_⟩=>by
 rw [zDy e]
 exact ⟨rfl,rfl,zKF⟩
theorem zFY {f g f' g':UF} (hf: ∀v W,f.p v W->f'.p v W) (hg: ∀v W,g.p v W->g'.p v W) {v:Value} {W:World} (h:(fPT f g).p v W):(fPT f' g').p v W:=by
 obtain ⟨s,A,n,c,A',n',c',s2,B,k,d,B',k',d',e,h1,h2⟩:=h
 exact ⟨s,A,n,c,A',n',c',s2,B,k,d,B',k',d',e,hf _ _ h1,hg _ _ h2⟩
theorem zBa {p:V2} {m:Nat} (h1:QB p.1 m) (h2:QB p.2 m) {v:Value} {W:World} (h:(fPN p).p v W):(fPV m p).p v W:=zFY (fun _ _ h=>QNp.rv h h1) (fun _ _ h=>QNp.rv h h2) h
theorem zFV {p:V2} {m m':Nat} (hm:m<=m') {v:Value} {W:World} (h:(fPV m p).p v W):(fPV m' p).p v W:=zFY (fun _ _ h=>RVp.mono h hm) (fun _ _ h=>RVp.mono h hm) h
theorem bPt (s:Bool) (A A':Option Addr) (n n' c c':Nat) (s2:Bool) (B B':Option Addr) (k k' d d':Nat):Tryz.prog.built 30 [(0, .agg #[.bool s, .slice A n c, .slice A' n' c']),(1, .agg #[.bool s2, .slice B k d, .slice B' k' d'])]=some #[.bool s, .slice A n c, .slice A' n' c', .bool s2, .slice B k d, .slice B' k' d']:=by kernel_rfl
theorem zRe {f g:UF} {u v:Value} {W:World} (hf:zUo f) (hg:zUo g) (hu:f.p u W) (hv:g.p v W): ∃cells,Tryz.prog.built 30 [(0,u),(1,v)]=some cells/\(fPT f g).p (.agg cells) W:=by
 obtain ⟨s,A,n,c,A',n',c',rfl⟩:=hf _ _ hu
 obtain ⟨s2,B,k,d,B',k',d',rfl⟩:=hg _ _ hv
 exact ⟨_,bPt _ _ _ _ _ _ _ _ _ _ _ _ _ _,s,A,n,c,A',n',c',s2,B,k,d,B',k',d',rfl,hu,hv⟩
abbrev pns (ps:List V2):List CU:=ps.map fun p=>CU.agg (fPN p)
abbrev pvs (m:Nat) (ps:List V2):List CU:=ps.map fun p=>CU.agg (fPV m p)
theorem zCT {ps:List V2} {i:Nat} (h:i<ps.length):(pns ps)[i]?=some (CU.agg (fPN (at_ ps i))):=by
 unfold pns at_;rw [List.getElem?_map,List.getD_eq_getElem?_getD,List.getElem?_eq_getElem h];rfl
theorem jS {m:Nat} {ps:List V2} {i:Nat} (h:i<ps.length):(pvs m ps)[i]?=some (CU.agg (fPV m (at_ ps i))):=by
 unfold pvs at_;rw [List.getElem?_map,List.getD_eq_getElem?_getD,List.getElem?_eq_getElem h];rfl
theorem zLs (ps:List V2): ∀C,C∈pns ps->CU.ok 6 C:=fun C hC=>by
 obtain ⟨p,_,rfl⟩:=List.mem_map.1 hC
 exact zDL _ _
theorem zKU {z:Nat} {Cs Ds:List CU} (hl:Cs.length=Ds.length) (h: ∀(i:Nat) (C D:CU),Cs[i]?=some C->Ds[i]?=some D-> ∀cs W,C.p cs W->D.p cs W) (v:Value) (W:World) (hv:(SF.row z Cs).p v W):(SF.row z Ds).p v W:=by
 obtain ⟨A,c,e,h2,h3,h4,h5⟩:=hv
 rw [hl] at e h2
 refine ⟨A,c,e,h2,h3,h4,fun i D hD=> ?_⟩
 have hi:i<Cs.length:=by rw [hl];exact (List.getElem?_eq_some_iff.1 hD).1
 obtain ⟨b,o,cs,g1,g2,g3⟩:=h5 i _ (List.getElem?_eq_getElem hi)
 exact ⟨b,o,cs,g1,g2,h i _ _ (List.getElem?_eq_getElem hi) hD cs W g3⟩
theorem zQC {ps:List V2} {m:Nat} (hp: ∀p,p∈ps->QB p.1 m/\QB p.2 m) (v:Value) (W:World) (hv:(SF.row 6 (pns ps)).p v W):(SF.row 6 (pvs m ps)).p v W:=
 zKU (by simp) (fun i C D hC hD cs W h=>by
  have hi:i<ps.length:=by have:=(List.getElem?_eq_some_iff.1 hC).1;simpa using this
  rw [zCT hi] at hC
  rw [jS hi] at hD
  cases hC;cases hD
  have:=hp _ (zFc hi)
  exact zBa this.1 this.2 h) v W hv
section
variable {F:Fence} {m:Nat} {P:Program} {w0:World} {ops:Array Oper} {G:Nat->SF} {d:Tmp} {ty:TypeId} {pos:String} {aft:Array Edge}
theorem zQH {f:FuncId} {cs:Array Operand} (h: ∀(b:Act) (W:World),Below w0.heap.size w0 W->(∀x,x∈cs.toList->(fct G x).p (b.eval x) W)->(G d).p (.func (.func f) #[] (cs.map b.eval)) W):qK F m P w0 ops G ⟨some d, .makeFunc (.func f) #[] cs,ty,pos,aft,none⟩:=
 qR (fun _ e=>by cases e) (fun _ e=>by cases e) fun b W hb hh=>by
  have:=h b W hb fun x hx=>hh x (by simpa [Op.operands] using hx)
  exact ⟨_,by simp [execOp,Instr.makeFunc],this⟩
theorem zEo {f:FuncId} {x:Operand} (h: ∀u W,Below w0.heap.size w0 W->(fct G x).p u W->(G d).p (.func (.func f) #[] #[u]) W):qK F m P w0 ops G ⟨some d, .makeFunc (.func f) #[] #[x],ty,pos,aft,none⟩:=
 zQH fun b W hb hh=>by simpa using h _ W hb (hh x (by simp))
theorem qW {x y:Operand} {t:TypeId} {z:Nat} {Cs:List CU} {i:Nat} {C:CU} (hz:jI P t=some z) (hi:Cs[i]?=some C) (hx: ∀v W,Below w0.heap.size w0 W->(fct G x).p v W->(SF.row z Cs).p v W) (hy: ∀v W,(fct G y).p v W->v= .int .i64 (i:Int)) (hd: ∀v W,(SF.ptr C.cf).p v W->(G d).p v W:=by exact fun _ _ h=>h):qK F m P w0 ops G ⟨some d, .indexAddr t x y,ty,pos,aft,none⟩:=
 qR (fun _ e=>by cases e) (fun _ e=>by cases e) fun b W hb hh=>by
  obtain ⟨A,c,e,h2,h3,h4,h5⟩:=hx _ _ hb (hh x (by simp [Op.operands]))
  have e2:=hy _ _ (hh y (by simp [Op.operands]))
  obtain ⟨b',o,cs,rfl,h6,h7⟩:=h5 i C hi
  have hlt:i<Cs.length:=(List.getElem?_eq_some_iff.1 hi).1
  unfold jI at hz
  split at hz<;>try cases hz
  rename_i e' hu
  cases hin:P.info? e' with
  |none=>rw [hin] at hz;cases hz
  |some ie=>
   rw [hin] at hz
   simp only [Option.map_some,Option.some.injEq] at hz
   have hel:P.elem t=e':=by simp [Program.elem,hu]
   refine ⟨.pointer (some ⟨b',o+i*z,none⟩), ?_,hd _ _ ⟨b',o+i*z,cs,rfl,h7,h6⟩⟩
   have hb1:(0:Int)<=(i:Int)/\(i:Int)<(Cs.length:Nat):=by omega
   simp only [execOp,e,e2]
   rw [Sem.run_bind,run_indexAt_slice _ _ _ _ _ _ _ (by rw [hel];exact hu),if_pos hb1,hel]
   simp [sizeOf,typeInfo,hin,hz,Addr.add_lit]
theorem qN {x:Operand} {t:TypeId} {z:Nat} {Cs:List CU} (ht:P.underlying t=some (.slice (P.elem t))) (hx: ∀v W,Below w0.heap.size w0 W->(fct G x).p v W->(SF.row z Cs).p v W) (hd: ∀W,(G d).p (.int .i64 (Cs.length:Nat)) W:=by exact fun _=>rfl):qK F m P w0 ops G ⟨some d, .call ⟨.builtin .len,#[x],#[t]⟩,ty,pos,aft,none⟩:=by
 intro b W K Q hb hr hK
 obtain ⟨A,c,e,_⟩:=hx _ _ hb (qB hr (x:=x) (by simp [Op.operands,Call.operands]))
 refine ⟨fun f hf=>(by
  unfold Oper.about at hf
  simp [resolve,go_sem] at hf), ?_⟩
 rw [Oper.semAt_eq _ _ _ (fun _ e=>by cases e)]
 have:(execOp b.eval ⟨some d, .call ⟨.builtin .len,#[x],#[t]⟩,ty,pos,aft,none⟩).run P W= .ok (.value (.int .i64 (Cs.length:Nat))) W:=by
  simp [execOp,resolve,invoke,builtin,e,run_len_slice _ _ _ _ _ _ ht,goInt]
 rw [this]
 exact hK _ _ (fun d' e'=>by cases e';exact hd _) (Below.refl _ _)
theorem zF0 {t:TypeId} {x y:Operand} {t':TypeId} (k:IntKind) (u v r:Int) (hx: ∀q W,(fct G x).p q W->q= .int k u) (hy: ∀q W,(fct G y).p q W->q= .int k v) (hv:v≠0) (hr:u.tmod v=r) (hd: ∀W,(G d).p (.int k r) W:=by exact fun _=>rfl):qK F m P w0 ops G ⟨some d, .binOp .rem t x y t',ty,pos,aft,none⟩:=
 zB6 (.int k u) (.int k v) (.int k r) hx hy (fun W=>by simp [eqGuard]) (fun W=>by simp [binOp,Op.intDiv,hv,hr]) hd
end
section
variable {F:Fence} {m:Nat} {P:Program} {ops:Array Oper} {Q:Exit->Act->World->Prop}
theorem zHP {S:Nat->Prop} {w0:World} {K:List (Nat×KF)} {B:List Bx} {n:Nat} {ds:List Deferred} {a:Act} {w:World} {id:Nat} (k:Nat) (L:List (Nat×Rw)) (h:StS S w0 K B n ds a w)
  (hchk:(zEu ops k n (L.map (·.1))&&zFp ops k (K.map (·.1)++B.map (·.t))&&zAs (L.map (·.1)))=true)
  (hobs:Obs F m P w ops (upd (jH K B) (zM L)) (ops.toList.take k))
  (hfin: ∀a w,StS S w0 (zBm L++K) B n ds a w->(∀q,q∈zM L->q.2.p (a.tmps.getD q.1 undef) w)->zBj F m P ops Q k a w):(Code.region id ops false).wpIn F m P Q a w:=by
 simp only [Bool.and_eq_true] at hchk
 obtain ⟨⟨hchk,hun⟩,hnd⟩:=hchk
 unfold zEu at hchk
 simp only [Bool.and_eq_true] at hchk
 obtain ⟨⟨⟨⟨⟨hap,hfr⟩,hpl⟩,hk⟩,hkeys⟩,hrd⟩:=hchk
 have hk:=of_decide_eq_true hk
 have hks:(zM L).map (·.1)=L.map (·.1):=by simp [zM]
 have hsame: ∀t,t∈K.map (·.1)++B.map (·.t)-> ∀i,i<k->zW ops i≠some t:=fun t ht i hi he=>by
  have h2:=List.all_eq_true.1 (List.all_eq_true.1 hun t ht) i (List.mem_range.2 hi)
  rw [he] at h2
  simp at h2
 have hA:=h.at
 have hkn: ∀t,(∀j,j<k->zW ops j≠some t)->upd (jH K B) (zM L) t=jH K B t:=fun t ht=>by
  refine jC ?_
  cases hc:((zM L).map (·.1)).contains t with
  |false=>rfl
  |true=>
   exfalso
   have hm:=List.contains_iff_mem.1 hc
   rw [hks] at hm
   obtain ⟨i,hi,he⟩:=List.any_eq_true.1 (List.all_eq_true.1 hkeys t hm)
   exact ht i (List.mem_range.1 hi) (by simpa using he)
 refine wpIn_region ?_
 rw [List.range_eq_range']
 -- the table, the kept slots' values said
 let G1:Nat->SF:=fun t=>if t∈K.map (·.1)++B.map (·.t) then ⟨fun v W=>(upd (jH K B) (zM L) t).p v W/\v=a.tmps.getD t undef,fun _ _ _ h hb=>⟨(upd (jH K B) (zM L) t).st _ _ _ h.1 hb,h.2⟩⟩ else upd (jH K B) (zM L) t
 have hle: ∀t v W,(G1 t).p v W->(upd (jH K B) (zM L) t).p v W:=fun t v W hh=>by
  by_cases ht:t∈K.map (·.1)++B.map (·.t)
  ·simp only [G1,if_pos ht] at hh
   exact hh.1
  ·simp only [G1,if_neg ht] at hh
   exact hh
 have hge: ∀t,(∃i,i<k/\zW ops i=some t)->G1 t=upd (jH K B) (zM L) t:=fun t ⟨i,hi,he⟩=>by
  simp only [G1]
  rw [if_neg fun ht=>hsame t ht i hi he]
 have hobs': ∀i o,i<k->ops[i]?=some o->qK F m P w ops G1 o:=fun i o hi ho=>by
  have hg:=hobs.get i o (by rw [List.getElem?_take_of_lt hi];simpa using ho)
  have hop:zKn F m P w (upd (jH K B) (zM L)) o->zKn F m P w G1 o:=fun h1 b W K' Q' hb hr hK'=>
   h1 b W K' Q' hb (fun t ht=>hle t _ _ (hr t ht)) fun v W' hv hb'=>hK' v W' (fun d hd=>by rw [hge d ⟨i,hi,by rw [qH ho];exact hd⟩];exact hv d hd) hb'
  unfold qK at hg ⊢
  cases hgd:o.guard with
  |none=>rw [hgd] at hg;exact hop hg
  |some q=>
   rw [hgd] at hg
   obtain ⟨g,bv,h1,h2,h3,h4⟩:=hg
   exact ⟨g,bv,h1,fun v W hh=>h2 v W (hle g v W hh),fun e=>hop (h3 e),fun e=>⟨fun d hd W=>by rw [hge d ⟨i,hi,by rw [qH ho];exact hd⟩];exact (h4 e).1 d hd W,(h4 e).2⟩⟩
 refine zFK (G:=G1) (k:=k) (n:=n) (a0:=a) (wA:=w) (w0:=w) hap hfr hk (fun i o hi ho t ht j hj=> ?_) (fun t ht=> ?_) hobs' (fun a' w' hb hs hd hh=> ?_) k 0 a w oN (Below.refl _ _) (Below.refl _ _) h.size rfl (fun t ⟨j,hj,_⟩=>absurd hj oN) (fun t _=>rfl)
 ·have h1:=List.all_eq_true.1 hrd i (List.mem_range.2 hi)
  rw [ho] at h1
  obtain ⟨oj,hoj,_⟩:=yZ hj
  have h2:=List.all_eq_true.1 (List.all_eq_true.1 h1 t ht) j (List.mem_range.2 (Array.getElem?_eq_some_iff.1 hoj).1)
  rw [hj] at h2
  simpa using h2
 ·have h1:=hA.sl t
  rw [<-hkn t ht] at h1
  by_cases hm:t∈K.map (·.1)++B.map (·.t)
  ·simp only [G1,if_pos hm]
   exact ⟨h1,by first|rfl|trivial⟩
  ·simp only [G1,if_neg hm]
   exact h1
 ·have hslot: ∀t,t∈K.map (·.1)++B.map (·.t)->a'.tmps.getD t undef=a.tmps.getD t undef:=fun t ht=>by
   have h1:=hh t
   simp only [G1,if_pos ht] at h1
   exact h1.2
  have hrow: ∀q,q∈zM L->q.2.p (a'.tmps.getD q.1 undef) w':=fun q hm2=>by
   have h1:=hle q.1 _ _ (hh q.1)
   rwa [zBQ (q:=q) (by rw [hks];exact hnd) hm2] at h1
  refine hfin a' w' ⟨h.gr.trans hb,hs,by rw [hd];exact h.nd,fun q hq=> ?_,h.bx.keep hb (zT hb) B fun x hx=>hslot _ (List.mem_append_right _ (List.mem_map.2 ⟨x,hx,rfl⟩)),zAe h.mks hb,h.so.imp (fun hu q hq=>(by
   rcases List.mem_append.1 hq with hq|hq
   ·obtain ⟨f,e,_⟩:=jA hq;exact ⟨f,e⟩
   ·exact hu q hq)) (fun x=>x)⟩ hrow
  rcases List.mem_append.1 hq with hq|hq
  ·obtain ⟨f,hqf,hm⟩:=jA hq
   have hm2:((q.1,f.toSF):Nat×SF)∈zM L:=List.mem_map.2 ⟨_,hm,rfl⟩
   have h1:=hle q.1 _ _ (hh q.1)
   rw [zBQ (q:=(q.1,f.toSF)) (by rw [hks];exact hnd) hm2] at h1
   rw [hqf]
   exact h1
  ·rw [hslot q.1 (List.mem_append_left _ (List.mem_map.2 ⟨q,hq,rfl⟩))]
   exact KF.us (h.sl q hq) (zT hb)
end
section
variable {S:Nat->Prop} {F:Fence} {m:Nat} {P:Program} {ops:Array Oper} {Q:Exit->Act->World->Prop} {w0:World} {K:List (Nat×KF)} {B:List Bx} {n:Nat} {ds:List Deferred} {a:Act} {w:World}
theorem zD3 {id:Nat} (K0:List (Nat×KF)) (pre:List Nat) (k:Nat) (L:List (Nat×Rw)) (hmix:P.follows .mixedOrders=true) (h:StS S w0 (K0++K) B n ds a w)
  (hchk:(zBu ops pre k n (L.map (·.1))&&zAJ ops (K.map (·.1)++B.map (·.t))&&zAs (L.map (·.1)))=true)
  (hobs:Obs F m P w ops (upd (jH (K0++K) B) (zM L)) (ops.toList.take k))
  (hfin: ∀Q',(∀a w,Q .normal a w->Q' .normal a w)-> ∀a w,StS S w0 (zBm L++K) B n ds a w->(∀q,q∈zM L->q.2.p (a.tmps.getD q.1 undef) w)->zBj F m P ops Q' k a w):(Code.region id ops true).wpIn F m P Q a w:=by
 simp only [Bool.and_eq_true] at hchk
 have hkeys:(zM L).map (·.1)=L.map (·.1):=by simp [zM]
 have h0:=hchk.1.1
 unfold zBu at h0
 simp only [Bool.and_eq_true] at h0
 obtain ⟨⟨⟨⟨⟨⟨⟨⟨⟨⟨⟨⟨⟨⟨⟨hap,_⟩,_⟩,_⟩,_⟩,hks⟩,_⟩,_⟩,_⟩,_⟩,_⟩,_⟩,_⟩,_⟩,_⟩,_⟩:=h0
 exact zEI K0 k L h (fun G' hA hO hF=>zCh pre k (zM L) hmix (by rw [hkeys];exact hchk.1.1) hA hO hF) hap hks hchk.1.2 hchk.2 hobs (fun a w h hr=>hfin (y8 Q) (fun a w h=>h) a w h hr)
end
theorem StS.toSt {S:Nat->Prop} {w0:World} {K:List (Nat×KF)} {B:List Bx} {n:Nat} {ds:List Deferred} {a:Act} {w:World} (h:StS S w0 K B n ds a w) (hS: ∀k, ¬S k) (hB:(B.all fun x=>x.r)=true):St w0 K B n ds a w:=
 ⟨⟨h.gr.os,h.gr.tape,h.gr.output,h.gr.size,fun k hk _=>h.gr.block k hk (hS k)⟩,h.size,h.nd,h.sl,yQ.ro B (fun x hx=>by simpa using List.all_eq_true.1 hB x hx) h.bx,h.mks, .inr fun _ hh=>hh⟩
section
variable {S:Nat->Prop} {w0:World} {K:List (Nat×KF)} {B:List Bx} {n:Nat} {ds:List Deferred} {a:Act} {w:World}
theorem zFB {c:Nat} {C:CU}: ∀(B:List Bx),(∀x,x∈B->x.t=c-> ∀cs W,x.c.p cs W->C.p cs W)->yQ S w0 a w B->yQ S w0 a w (zEK B c C)
 | [],_,_=>trivial
 | x::B,hw,h=>by
  obtain ⟨⟨cs,h1,h2,h3,h4,h5,h6⟩,hr⟩:=h
  unfold zEK
  cases e:Nat.beq x.t c with
  |true=>exact ⟨⟨cs,h1,h2,h3,hw x (List.mem_cons_self ..) (Nat.eq_of_beq_eq_true e) cs w h4,h5,h6⟩,hr⟩
  |false=>
   refine ⟨⟨cs,h1,h2,h3,h4,h5,fun y hy=> ?_⟩,zFB B (fun y hy=>hw y (List.mem_cons_of_mem _ hy)) hr⟩
   have:(y.b,y.r)∈(zEK B c C).map (fun x=>(x.b,x.r)):=List.mem_map.2 ⟨y,hy,rfl⟩
   rw [zKI] at this
   obtain ⟨z,hz,ez⟩:=List.mem_map.1 this
   simp only [Prod.mk.injEq] at ez
   have:=h6 z hz
   rw [ez.1,ez.2] at this
   exact this
theorem StS.weakB (h:StS S w0 K B n ds a w) (c:Nat) (C:CU) {z:Bx} (hB:zFg B c=some z) (hu:(B.map (·.t)).Nodup) (hi: ∀cs W,z.c.p cs W->C.p cs W):StS S w0 K (zEK B c C) n ds a w:=
 ⟨h.gr,h.size,h.nd,h.sl,zFB B (fun x hx e=>by
  obtain ⟨hz,hzc⟩:=zAl hB
  have:x=z:=by
   have hinj: ∀(B:List Bx),(B.map (·.t)).Nodup->x∈B->z∈B->x.t=z.t->x=z:=by
    intro B
    induction B with
    |nil=>intro _ h1;cases h1
    | cons y B ih=>
     intro hn h1 h2 e
     rw [List.map_cons,List.nodup_cons] at hn
     rcases List.mem_cons.1 h1 with h3|h3
     ·rcases List.mem_cons.1 h2 with h4|h4
      ·rw [h3,h4]
      ·exact absurd (List.mem_map.2 ⟨z,h4,by rw [<-e,h3]⟩) hn.1
     ·rcases List.mem_cons.1 h2 with h4|h4
      ·exact absurd (List.mem_map.2 ⟨x,h3,by rw [e,h4]⟩) hn.1
      ·exact ih hn.2 h3 h4 e
   exact hinj B hu hx hz (e.trans hzc.symm)
  rw [this]
  exact hi) h.bx,h.mks,h.so⟩
end
theorem zJo {P:Program} {T:Array Value->World->SF->Prop} {f:FuncId} {caps:Array Value} {W:World} (he:Enters P f) (h: ∀W',Below W.heap.size W W'-> ∀args R,T args W' R->Calls P f (args++caps) W' (Ret W' R)):(SF.fn P T).p (.func (.func f) #[] caps) W:=⟨f,caps,rfl,he,h⟩
end Go.Proofs.Wd

namespace Go.Proofs.Wd
set_option maxRecDepth 100000
open Go.RowKit Lb
def zUr (a b:Nat) (w:World) (x y:Value) (w':World):Prop:= ∃p q:Nat,x= .int .u64 p/\y= .int .u64 q/\Nat.gcd p q=Nat.gcd a b/\p<18446744073709551616/\q<18446744073709551616/\Below w.heap.size w w'
theorem zLb {W:World} {u v:Value} (a b:Nat) (hu:u= .int .u64 (a:Int)) (hv:v= .int .u64 (b:Int)) (ha:a<18446744073709551616) (hb:b<18446744073709551616):Calls Tryz.prog 112 #[u,v] W (Ret W (UF.eq (.int .u64 ((Nat.gcd a b:Nat):Int))).toSF):=by
 subst hu
 subst hv
 have hmix:Tryz.prog.follows .mixedOrders=true:=by kernel_rfl
 go_enter Tryz.func112,Tryz.ntmps112
 go_wp2
 go_loopw [0,1] (zUr a b W) (fun _ y _=>(intOf y).toNat)
 case atStart=>exact ⟨a,b,rfl,rfl,rfl,ha,hb,Below.refl _ _⟩
 case round=>
  obtain ⟨p,q,rfl,rfl,hg,hp,hq,hB⟩:=hrel
  have HG:=hid hg
  clear hg
  by_cases h0:0<q
  ·have hq0:(q:Int)≠0:=by omega
   have hmod:(p:Int).tmod (q:Int)=((p % q:Nat):Int):=by rw [Int.tmod_eq_emod_of_nonneg oN,Int.natCast_emod]
   have hlt:p % q<q:=Nat.mod_lt _ h0
   obtain ⟨r,hr⟩: ∃r,p % q=r:=⟨_,rfl⟩
   rw [hr] at hmod hlt
   have HR:=hid hr
   clear hr
   go_wp2
   refine (wpIn_wide (n:=0)).1 ?_
   refine yB 100 (fun _=>True) hmix ?_
   refine zQ (i:=0) (v:= ?vv1) kG kG rfl kG kG kG (fun _ _ _ h=>h) trivial ⟨.inl ⟨rfl, ?yy1⟩,fun _=>rfl⟩ ?_
   case yy1=>
    rintro wx _
    go_simp
    first|done|rfl
   refine zQ (i:=1) (v:= ?vv2) kG kG rfl kG kG kG (fun _ _ _ h=>h) trivial ⟨.inl ⟨rfl, ?yy2⟩,fun _=>rfl⟩ ?_
   case yy2=>
    rintro wx _
    go_simp
    first|done|rfl
   refine zQ (i:=2) (v:= ?vv3) kG kG rfl kG kG kG (fun _ _ _ h=>h) trivial ⟨.inl ⟨rfl, ?yy3⟩,fun _=>rfl⟩ ?_
   case yy3=>
    rintro wx _
    go_simp
    first|done|rfl
   refine zQ (i:=3) (v:= .int .u64 (r:Nat)) kG kG rfl kG kG kG (fun _ _ _ h=>h) trivial ⟨.inl ⟨rfl, ?y3⟩,fun _=>rfl⟩ ?_
   case y3=>
    rintro wx _
    go_simp
    omega
   refine zAq (i:=4) kG rfl (fun K hK=> ?_)
   go_simp
   refine hK _ _ (.inr trivial) ?_
   clear hK K
   refine zAq (i:=5) kG rfl (fun K hK=> ?_)
   go_simp
   refine hK _ _ (.inr trivial) ?_
   clear hK K
   refine zB9 kG ?_
   go_wp2
   go_roundw
   case rel=>exact ⟨q,r,rfl,by go_num,by rw [<-HG.out, <-HR.out,Nat.gcd_comm p q,Nat.gcd_rec q p,Nat.gcd_comm],hq,by omega,hB.drew⟩
   case measure=>simp [intOf];omega
  ·obtain rfl:q=0:=by omega
   go_wp2
   go_ret
   have:=HG.out
   rw [Nat.gcd_zero_right] at this
   subst this
   exact ⟨_,rfl,rfl,hB⟩
section
variable {F:Fence} {n:Nat} {P:Program} {ops:Array Oper} {Q:Exit->Act->World->Prop}
def zC3 (P:Program) (w0:World) (ops:Array Oper) (G:Nat->SF) (o:Oper):Prop:=
 ∀(b:Act) (W:World),Below w0.heap.size w0 W->(∀t,t∈looks ops o->(G t).p (b.tmps.getD t undef) W)-> ∃v,j5 P ops (fun W'=>Below w0.heap.size w0 W') o v b
theorem zJK {CW:World->Prop} {i:Nat} {o:Oper} {v:Value} {a:Act} {w:World} {K:Act->World->Prop} (ho:ops[i]?=some o) (hpl:jG ops=true) (hy:j5 P ops CW o v a) (hw:CW w) (h:wpOpIn F n P ops Q i K a w):K (a.put o.dst v) w:=by
 unfold wpOpIn at h
 simp only [ho] at h
 rcases hy.1 with ⟨hw',hv⟩|⟨hw',rfl⟩
 ·simp only [hw',if_true,Oper.wpIn,Oper.semAt_eq _ _ _ (zBV hpl ho),hv w hw,Oper.uponIn] at h
  exact h.2
 ·simp only [hw',Bool.false_eq_true,if_false] at h
  exact h.2
variable {listed0:Array Bool} {A:Nat->Bool} {E:Nat->Value->World->Prop} {C:World->Prop} {a0:Act}
end
section
variable {S:Nat->Prop} {w0:World} {K:List (Nat×KF)} {B:List Bx} {n:Nat} {ds:List Deferred} {a:Act} {w:World} {F:Fence} {m:Nat} {P:Program} {ops:Array Oper} {Q:Exit->Act->World->Prop}
end
section
variable {w0:World} {P:Program} {ops:Array Oper} {G:Nat->SF} {d:Tmp} {ty:TypeId} {pos:String} {aft:Array Edge}
theorem zE6 {op:Op} (hc: ∀c,op≠ .call c) (h: ∀(b:Act) (W:World),Below w0.heap.size w0 W->(∀x,x∈op.operands.toList->(fct G x).p (b.eval x) W)-> ∃v, ∀W',Below w0.heap.size w0 W'->(execOp b.eval ⟨some d,op,ty,pos,aft,none⟩).run P W'= .ok (.value v) W'):zC3 P w0 ops G ⟨some d,op,ty,pos,aft,none⟩:=by
 intro b W hb hr
 obtain ⟨v,hv⟩:=h b W hb fun x hx=>qB (fun t ht=>hr t (by unfold looks;simpa using ht)) hx
 refine ⟨v, .inl ⟨rfl,hv⟩,fun w=> ?_⟩
 unfold Oper.about
 split
 ·rename_i c hcc;exact absurd hcc (hc c)
 ·rfl
theorem zCs {x:Operand}:zC3 P w0 ops G ⟨some d, .move x,ty,pos,aft,none⟩:=zE6 (fun _ e=>by cases e) fun b _ _ _=>⟨b.eval x,fun _ _=>rfl⟩
theorem zPf {op:BinOp} {t:TypeId} {x y:Operand} {t':TypeId} (u v r:Value) (hx: ∀q W,(fct G x).p q W->q=u) (hy: ∀q W,(fct G y).p q W->q=v) (hr: ∀W,(binOp op t u v).run P W= .ok r W) (hg: ∀W,(eqGuard op t x y u v).run P W= .ok () W):zC3 P w0 ops G ⟨some d, .binOp op t x y t',ty,pos,aft,none⟩:=
 zE6 (fun _ e=>by cases e) fun b W _ hh=>by
  have e1:=hx _ _ (hh x (by simp [Op.operands]))
  have e2:=hy _ _ (hh y (by simp [Op.operands]))
  exact ⟨r,fun W' _=>by simp [execOp,e1,e2,hr W',hg W']⟩
def fOp (w0:World) (C:CU):UF:= .mk' (fun v _=> ∃b o cs,v= .pointer (some ⟨b,o,none⟩)/\C.p cs w0/\Mem w0 b o cs) fun _ _ _ h _=>h
theorem zMi {t:TypeId} {x y:Operand} {t':TypeId} (k:IntKind) (u v:Int) (hx: ∀q W,(fct G x).p q W->q= .int k u) (hy: ∀q W,(fct G y).p q W->q= .int k v):zC3 P w0 ops G ⟨some d, .binOp .add t x y t',ty,pos,aft,none⟩:=
 zPf (.int k u) (.int k v) (.int k (k.wrap (u+v))) hx hy (fun W=>by simp [binOp,Op.intArith]) (fun W=>by simp [eqGuard])
theorem zMh {t:TypeId} {x y:Operand} {t':TypeId} (k:IntKind) (u v:Int) (hx: ∀q W,(fct G x).p q W->q= .int k u) (hy: ∀q W,(fct G y).p q W->q= .int k v) (hv:v≠0):zC3 P w0 ops G ⟨some d, .binOp .rem t x y t',ty,pos,aft,none⟩:=
 zPf (.int k u) (.int k v) (.int k (u.tmod v)) hx hy (fun W=>by simp [binOp,Op.intDiv,hv]) (fun W=>by simp [eqGuard])
theorem zPe {x:Operand} {t:TypeId} {z:Nat} {Cs:List CU} (ht:P.underlying t=some (.slice (P.elem t))) (hx: ∀v W,Below w0.heap.size w0 W->(fct G x).p v W->(SF.row z Cs).p v W):zC3 P w0 ops G ⟨some d, .call ⟨.builtin .len,#[x],#[t]⟩,ty,pos,aft,none⟩:=by
 intro b W hb hr
 obtain ⟨A,c,e,_⟩:=hx _ _ hb (qB (o:=⟨some d, .call ⟨.builtin .len,#[x],#[t]⟩,ty,pos,aft,none⟩) (fun t' ht'=>hr t' (by unfold looks;simpa using ht')) (x:=x) (by simp [Op.operands,Call.operands]))
 refine ⟨.int .i64 (Cs.length:Nat), .inl ⟨rfl,fun W' _=>by simp [execOp,resolve,invoke,builtin,e,run_len_slice _ _ _ _ _ _ ht,goInt]⟩,fun w=> ?_⟩
 unfold Oper.about
 simp [resolve,go_sem]
theorem zFr {t:TypeId} {z n c i b o:Nat} {W:World} (hz:jI P t=some z) (hi:i<n):(Instr.indexAt t (.slice (some ⟨b,o,none⟩) n c) (.int .i64 (i:Int))).run P W= .ok (.pointer (some ⟨b,o+i*z,none⟩)) W:=by
 unfold jI at hz
 split at hz<;>try cases hz
 rename_i e' hu
 obtain ⟨ie,hin,hz⟩:=Option.map_eq_some_iff.1 hz
 have hel:P.elem t=e':=by simp [Program.elem,hu]
 have hb1:(0:Int)<=(i:Int)/\(i:Int)<(n:Nat):=by omega
 rw [run_indexAt_slice _ _ _ _ _ _ _ (by rw [hel];exact hu),if_pos hb1,hel]
 simp [sizeOf,typeInfo,hin,hz,Addr.add_lit]
section
variable {l:Value} {x y:Operand} {t:TypeId} {z:Nat} {Cs:List CU} {i:Nat} {C:CU}
theorem zHk (hz:jI P t=some z) (hi:Cs[i]?=some C) (hl:(SF.row z Cs).p l w0) (hx: ∀v W,(fct G x).p v W->v=l) (hy: ∀v W,(fct G y).p v W->v= .int .i64 (i:Int)):zC3 P w0 ops G ⟨some d, .indexAddr t x y,ty,pos,aft,none⟩:=
 zE6 (fun _ e=>by cases e) fun b W hb hh=>by
  have e1:=hx _ _ (hh x (by simp [Op.operands]))
  have e2:=hy _ _ (hh y (by simp [Op.operands]))
  obtain ⟨A,c,rfl,h2,h3,h4,h5⟩:=hl
  obtain ⟨b',o,cs,rfl,h6,h7⟩:=h5 i C hi
  exact ⟨.pointer (some ⟨b',o+i*z,none⟩),fun W' _=>by simp [execOp,e1,e2,zFr hz (List.getElem?_eq_some_iff.1 hi).1]⟩
theorem zTr {F:Fence} {m:Nat} (f:UF) (k:Nat) (hk:jN P t=some k) (hx: ∀v W,(fct G x).p v W->(fOp w0 C).p v W) (h: ∀cs W,C.p cs W->0+k<=cs.length/\f.p (.agg ((cs.drop 0).take k).toArray) W) (hd: ∀v W,f.p v W->(G d).p v W:=by exact fun _ _ h=>h):qK F m P w0 ops G ⟨some d, .load t x,ty,pos,aft,none⟩:=
 qR (fun _ e=>by cases e) (fun _ e=>by cases e) fun b W hb hh=>by
  obtain ⟨a,q,cs,e,h2,h3⟩:=hx _ _ (hh x (by simp [Op.operands]))
  obtain ⟨h4,h5⟩:=h cs W (C.us _ _ _ h2 (zT hb))
  rw [List.drop_zero] at h5
  exact ⟨_,by simp [execOp,Instr.loadAt,e,Instr.sureAddr,zAc hk (h3.below hb) oN],hd _ _ h5⟩
theorem zJp (f:UF) (k:Nat) (hk:jN P t=some k) (hx: ∀v W,(fct G x).p v W->(fOp w0 C).p v W) (h: ∀cs W,C.p cs W->0+k<=cs.length/\f.p (.agg ((cs.drop 0).take k).toArray) W):zC3 P w0 ops G ⟨some d, .load t x,ty,pos,aft,none⟩:=
 zE6 (fun _ e=>by cases e) fun b W hb hh=>by
  obtain ⟨a,q,cs,e,h2,h3⟩:=hx _ _ (hh x (by simp [Op.operands]))
  obtain ⟨h4,h5⟩:=h cs W (C.us _ _ _ h2 (zT hb))
  exact ⟨.agg (cs.take k).toArray,fun W' hb'=>by simp [execOp,Instr.loadAt,e,Instr.sureAddr,zAc hk (h3.below hb') oN]⟩
end
end
section
variable {S:Nat->Prop} {w0:World} {K:List (Nat×KF)} {B:List Bx} {n:Nat} {ds:List Deferred} {a:Act} {w:World} {F:Fence} {m:Nat} {P:Program} {ops:Array Oper} {Q:Exit->Act->World->Prop}
theorem zIr {k:Nat} {o:Oper} (ho:ops[k]?=some o) (hw:Region.wanted o (yielded ops a.tmps)=true) (h:o.wpIn F m P a w (zBj F m P ops Q (k+1)) Q):zBj F m P ops Q k a w:=by
 have hlt:=(Array.getElem?_eq_some_iff.1 ho).1
 unfold zBj
 rw [show ops.size - k=(ops.size - (k+1))+1 from by omega,List.range'_succ,wpOpsIn_cons]
 unfold wpOpIn
 rw [ho]
 show (if Region.wanted o (yielded ops a.tmps)=true then _ else _)
 rw [if_pos hw]
 exact h
theorem zKA {k:Nat} {o:Oper} (ho:ops[k]?=some o) (hw:Region.wanted o (yielded ops a.tmps)=false) (hab: ∀f,o.about P w a.eval=some f->F.fn f) (h:zBj F m P ops Q (k+1) (a.put o.dst undef) w):zBj F m P ops Q k a w:=by
 have hlt:=(Array.getElem?_eq_some_iff.1 ho).1
 unfold zBj
 rw [show ops.size - k=(ops.size - (k+1))+1 from by omega,List.range'_succ,wpOpsIn_cons]
 unfold wpOpIn
 rw [ho]
 show (if Region.wanted o (yielded ops a.tmps)=true then _ else _)
 rw [hw,if_neg (by decide)]
 exact ⟨hab,h⟩
def zLw (u:Value) (want:Bool):Bool:=match u with| .bool b=>b !=want|_=>true
theorem zKt {k d j g:Nat} {want:Bool} {op:Op} {ty:TypeId} {pos:String} {aft:Array Edge} (u:Value) (hj:zW ops j=some g) (hu:a.tmps.getD g undef=u) (hne:zLw u want=true):Region.wanted ⟨some d,op,ty,pos,aft,some (j,want)⟩ (yielded ops a.tmps)=false:=by
 unfold Region.wanted
 show (yielded ops a.tmps j==some want)=false
 unfold yielded
 rw [zB3,hj]
 show ((match (a.tmps[g]?:Option Value) with|some (.bool b)=>some b|_=>none)==some want)=false
 cases e:a.tmps[g]? with
 |none=>rfl
 |some x=>
  have hx:x=u:=by rw [Array.getD_eq_getD_getElem?,e] at hu;exact hu
  subst hx
  cases x<;>first|rfl|(simp [zLw] at hne;simp [hne])
theorem zGx {k d j g:Nat} {want:Bool} {op:Op} {ty:TypeId} {pos:String} {aft:Array Edge} (hj:zW ops j=some g) (hu:a.tmps.getD g undef= .bool want):Region.wanted ⟨some d,op,ty,pos,aft,some (j,want)⟩ (yielded ops a.tmps)=true:=by
 unfold Region.wanted
 show (yielded ops a.tmps j==some want)=true
 unfold yielded
 rw [zB3,hj]
 show ((match (a.tmps[g]?:Option Value) with|some (.bool b)=>some b|_=>none)==some want)=true
 cases e:a.tmps[g]? with
 |none=>rw [Array.getD_eq_getD_getElem?,e] at hu;cases hu
 |some x=>
  have hx:x= .bool want:=by rw [Array.getD_eq_getD_getElem?,e] at hu;exact hu
  subst hx
  simp
theorem zBr {k d j g:Nat} {want:Bool} {op:Op} {ty:TypeId} {pos:String} {aft:Array Edge} (u:Value) (ho:ops[k]?=some ⟨some d,op,ty,pos,aft,some (j,want)⟩) (hj:zW ops j=some g) (h:StS S w0 K B n ds a w) (hu: ∀v W,(jH K B g).p v W->v=u) (hne:zLw u want=true) (hf:zAt K B n d=true)
  (fin: ∀a w,StS S w0 ((d, .u (UF.eq undef))::K) B n ds a w->zBj F m P ops Q (k+1) a w) (hab: ∀f,F.fn f:=by exact fun _=>trivial):zBj F m P ops Q k a w:=
 zKA ho (zKt (k:=k) u hj (hu _ _ (h.at.sl g)) hne) (fun f _=>hab f) (fin _ _ (h.set hf (Below.refl _ _) rfl))
theorem zBk {k d j g:Nat} {want:Bool} {op:Op} {ty:TypeId} {pos:String} {aft:Array Edge} (f:UF) (ho:ops[k]?=some ⟨some d,op,ty,pos,aft,some (j,want)⟩) (hj:zW ops j=some g) (h:StS S w0 K B n ds a w) (hu: ∀v W,(jH K B g).p v W->v= .bool want) (hf:zAt K B n d=true) (hob:qK F m P w ops (upd (jH K B) [(d,f.toSF)]) ⟨some d,op,ty,pos,aft,none⟩)
  (hrd:(zCS ⟨some d,op,ty,pos,aft,none⟩).contains d=false) (fin: ∀a w,StS S w0 ((d, .u f)::K) B n ds a w->zBj F m P ops Q (k+1) a w):zBj F m P ops Q k a w:=by
 refine zIr ho (zGx (k:=k) hj (hu _ _ (h.at.sl g))) (hob a w _ Q (Below.refl _ _) (fun t ht=> ?_) fun v W' hv hb=>fin _ _ (h.set hf hb ?_))
 ·have hne:Nat.beq d t=false:=by
   cases e:Nat.beq d t with
   |false=>rfl
   |true=>
    have:=Nat.eq_of_beq_eq_true e
    subst this
    rw [List.contains_iff_mem.2 ht] at hrd
    cases hrd
  show (bif Nat.beq d t then f.toSF else jH K B t).p _ _
  rw [hne]
  exact h.at.sl t
 ·have:=hv d rfl
  have e:(upd (jH K B) [(d,f.toSF)]) d=f.toSF:=by
   show (bif Nat.beq d d then f.toSF else _)=_
   rw [show Nat.beq d d=true from Nat.beq_refl d]
   rfl
  rw [e] at this
  exact this
end
def inL:List Nat->Nat->Bool
 | [],_=>false
 |k::l,i=>bif Nat.beq k i then true else inL l i
theorem zGf (l m:List Nat) (i:Nat):inL (l++m) i=(inL l i||inL m i):=by
 induction l with
 |nil=>rfl
 |cons k l ih=>
  show (bif Nat.beq k i then true else inL (l++m) i)=((bif Nat.beq k i then true else inL l i)||inL m i)
  cases Nat.beq k i with
  |true=>rfl
  |false=>exact ih
theorem zQU {l:List Nat} {i:Nat} (h:inL l i=true):i∈l:=by
 induction l with
 |nil=>cases h
 |cons k l ih=>
  have h:(bif Nat.beq k i then true else inL l i)=true:=h
  cases e:Nat.beq k i with
  |true=>rw [Nat.eq_of_beq_eq_true e];exact List.mem_cons_self ..
  |false=>rw [e] at h;exact List.mem_cons_of_mem _ (ih h)
def lst (n:Nat) (D:List Nat):Array Bool:=((List.range n).map (inL D)).toArray
theorem zEs (n:Nat) (D:List Nat):(lst n D).size=n:=by simp [lst]
theorem zA3 {n i:Nat} {D:List Nat} {d:Bool} (h:i<n):(lst n D).getD i d=inL D i:=by simp [lst,h]
theorem zQO {n i:Nat} {D:List Nat} {d:Bool} (h:n<=i):(lst n D).getD i d=d:=by
 rw [Array.getD_eq_getD_getElem?,Array.getElem?_eq_none (by rw [zEs];exact h)]
 rfl
theorem zD8 {n i:Nat} {D:List Nat} (h:(lst n D).getD i true=false):i<n/\inL D i=false:=by
 rcases Nat.lt_or_ge i n with g|g
 ·rw [zA3 g] at h;exact ⟨g,h⟩
 ·rw [zQO g] at h;cases h
theorem zHf {l:Array Bool} {n:Nat} {D:List Nat} (hs:l.size=n) (h: ∀i,i<n->l.getD i false=inL D i):l=lst n D:=by
 refine Array.ext (by rw [hs,zEs]) fun i h1 h2=> ?_
 have:=h i oN
 rw [Array.getD_eq_getD_getElem?,Array.getElem?_eq_getElem h1] at this
 have e:l[i]=inL D i:=this
 rw [e]
 simp [lst]
theorem zLO {n i:Nat} {D:List Nat} (hi:i<n):(lst n D).setIfInBounds i true=lst n (i::D):=by
 refine zHf (by simp [lst]) fun j hj=> ?_
 show _=(bif Nat.beq i j then true else inL D j)
 by_cases e:i=j
 ·subst e
  rw [Array.getD_eq_getD_getElem?,Array.getElem?_setIfInBounds_self_of_lt (by rw [zEs];exact hi),Nat.beq_refl]
  rfl
 ·rw [getD_set_ne false e,zA3 hj]
  cases h:Nat.beq i j with
  |true=>exact absurd (Nat.eq_of_beq_eq_true h) e
  |false=>rfl
def zRt (ops:Array Oper) (D fl D':List Nat):Bool:=(List.range ops.size).all fun j=>inL D' j||(List.range ops.size).all fun i=> !inL D' i||inL fl i||inL D i||zCt ops ops.size i j
section
variable {F:Fence} {n:Nat} {P:Program} {ops:Array Oper} {Q:Exit->Act->World->Prop}
variable {A:Nat->Bool} {E:Nat->Value->World->Prop} {C:World->Prop} {a0:Act}
theorem zTV {D D':List Nat} {z:Nat} (fl:List Nat) (hpl:jG ops=true) (hns:Region.noSelect ops=true) (hzs:ops.size<=z) (CW:World->Prop) (hCW: ∀w,C w->CW w) (hfree: ∀i,inL D i=false->inL D' i=true->inL fl i=true->Region.free .any ops (zA7 ops i) i=true)
  (hfk: ∀i,inL D' i=true->inL fl i=true->(lst ops.size D).getD i true=false-> ∀o,ops[i]?=some o-> ∀a w,FlowB ops (lst ops.size D) A E C a0 (fun j=>(lst ops.size D).getD j true=false/\ ∃e∈o.after,Region.binds .any e=true/\e.on=j) a w-> ∃v,j5 P ops CW o v a)
  (hear:zA1 ops=true) (htl:zRt ops D fl D'=true) (hap:qX ops=true) (hfr:zAf ops a0.tmps.size=true) (hcl':zFC ops (lst ops.size D')) (hC: ∀w w',C w->Below w.heap.size w w'->C w') (hE: ∀i v w w',E i v w->Below w.heap.size w w'->E i v w')
  (hspec: ∀i,inL D' i=true->(lst ops.size D).getD i true=false-> ∀o,ops[i]?=some o-> ∀a w,FlowB ops (lst ops.size D) A E C a0 (fun j=>(lst ops.size D).getD j true=false/\ ∃e∈o.after,Region.binds .any e=true/\e.on=j) a w-> ∀K:Act->World->Prop,(∀v w',E i v w'->Below w.heap.size w w'->(A i=true-> ∀b,blk v=some b->w.heap.size<=b/\b<w'.heap.size)->K (a.put o.dst v) w')->wpOpIn F n P ops (y8 Q) i K a w)
  (hfin: ∀a w,FlowB ops (lst ops.size D) A E C a0 (fun i=>inL D' i=true/\(lst ops.size D).getD i true=false) a w->q7 F n P .any ops z CW (y8 Q) ((lst ops.size D').count false) (lst ops.size D') a w):
  ∀(fuel:Nat) (listed:Array Bool) (a:Act) (w:World),listed.count false=fuel->listed.size=ops.size->(∀i,i<ops.size->inL D' i=false->listed.getD i false=false)->zFC ops listed->(∀i,i<ops.size->inL D i=true->listed.getD i false=true)->
   FlowB ops (lst ops.size D) A E C a0 (fun i=>(lst ops.size D).getD i true=false/\listed.getD i false=true) a w->q7 F n P .any ops z CW (y8 Q) fuel listed a w:=by
 intro fuel
 induction fuel with
 | zero=>
  intro listed a w hc hs hlate hcl hsub hf
  have hno: ∀i,listed.getD i true=true:=fun i=>by
   cases hg:listed.getD i true with
   |true=>rfl
   |false=>have:=jF hg;omega
  have hall: ∀i,i<ops.size->listed.getD i false=true:=fun i hi=>by
   have h1:=hno i
   have hlt:i<listed.size:=by omega
   simp [hlt] at h1 ⊢
   exact h1
  have hl:listed=lst ops.size D':=zHf hs fun i hi=>by
   rw [hall i hi]
   cases h:inL D' i with
   |true=>rfl
   |false=>have:=hlate i hi h;rw [hall i hi] at this;cases this
  have:=hfin a w (hf.mono fun i hi=>⟨hi.2,hall i (zD8 hi.2).1⟩)
  rw [<-hl,hc] at this
  exact this
 | succ fuel ih=>
  intro listed a w hc hs hlate hcl hsub hf
  by_cases hall: ∀i,i<ops.size->inL D' i=true->listed.getD i false=true
  ·have hl:listed=lst ops.size D':=zHf hs fun i hi=>by
    cases h:inL D' i with
    |true=>exact hall i hi h
    |false=>exact hlate i hi h
   have:=hfin a w (hf.mono fun i hi=>⟨hi.2,hall i (zD8 hi.2).1 hi.1⟩)
   rw [<-hl,hc] at this
   exact this
  ·simp only [Classical.not_forall] at hall
   obtain ⟨u0,hu0l,hu0p,hu0⟩:=hall
   obtain ⟨u,⟨hul,hup,hu⟩,hmin⟩:=zDp (p:=fun u=>u<ops.size/\inL D' u=true/\ ¬listed.getD u false=true) u0 ⟨hu0l,hu0p,hu0⟩
   have hlt:u<listed.size:=by omega
   have hu':listed.getD u true=false:=by
    simp [hlt] at hu ⊢
    exact hu
   have hl0u:(lst ops.size D).getD u true=false:=by
    rw [zA3 hul]
    cases hg:inL D u with
    |false=>rfl
    |true=>exact absurd (hsub u hul hg) hu
   have hsome: ∀i,listed.getD i true=false->Region.ready .any ops listed≠ []:=by
    intro i
    induction i using Nat.strongRecOn with
    | _ i ihi=>
     intro hi hnil
     have hlt:i<listed.size:=by
      rcases Nat.lt_or_ge i listed.size with e|e
      ·exact e
      ·simp [Array.getElem?_eq_none e] at hi
     have ho:ops[i]?=some (ops[i]'(by rw [<-hs];exact hlt)):=Array.getElem?_eq_getElem _
     by_cases hall: ∀e∈(ops[i]'(by rw [<-hs];exact hlt)).after,Region.binds .any e=true->listed.getD e.on false=true
     ·have hm:i∈Region.ready .any ops listed:=mem_ready.2 ⟨hi,_,ho,hall⟩
      rw [hnil] at hm
      cases hm
     ·simp only [Classical.not_forall] at hall
      obtain ⟨e,he,hb,hg⟩:=hall
      have hel:=zAO hear ho he hb
      refine ihi e.on hel ?_ hnil
      have hlt2:e.on<listed.size:=by omega
      simp [hlt2] at hg ⊢
      exact hg
   by_cases hfu:inL fl u=true
   ·have hou:ops[u]?=some ops[u]:=Array.getElem?_eq_getElem hul
    have hdone: ∀e∈ops[u].after,Region.binds .any e=true->listed.getD e.on false=true:=fun e he hb=>by
     have hel:=zAO hear hou he hb
     have hpe:inL D' e.on=true:=by
      have:=hcl' u _ (by rw [zA3 hul];exact hup) hou e he hb
      rwa [zA3 oN] at this
     exact Classical.byContradiction fun hc=>hmin e.on hel ⟨by omega,hpe,hc⟩
    have hrd:(Region.ready .any ops listed).contains u=true:=List.contains_iff_mem.2 (mem_ready.2 ⟨hu',_,hou,hdone⟩)
    have hfre:=hfree u (zD8 hl0u).2 hup hfu
    obtain ⟨v0,hy⟩:=hfk u hup hfu hl0u _ hou a w (hf.mono fun j hj=>(by
     obtain ⟨hj0,e,he,hb,rfl⟩:=hj
     exact ⟨hj0,hdone e he hb⟩))
    have hw:=hspec u hup hl0u _ hou a w (hf.mono fun j hj=>(by
     obtain ⟨hj0,e,he,hb,rfl⟩:=hj
     exact ⟨hj0,hdone e he hb⟩)) (fun a' w'=> ∃v,a'=a.put ops[u].dst v/\E u v w'/\Below w.heap.size w w'/\(A u=true-> ∀b,blk v=some b->w.heap.size<=b/\b<w'.heap.size)) (fun v w' hv hb hA=>⟨v,rfl,hv,hb,hA⟩)
    obtain ⟨v,hpe,hv,hb,hA⟩:=zJK hou hpl hy (hCW _ hf.at_.cls) hw
    refine zQ (i:=u) (v:=v0) hpl (by unfold zA2;rw [Array.getElem?_eq_none hzs]) hou hns (zJm (fun j hj hc=>(by
     have h9:=zAm hcl _ j u _ hou hdone hc
     have g:j<listed.size:=by omega
     simp [g] at h9 ⊢
     exact h9)) hfre) hrd (fun _ _ _ h=>h) (hCW _ hf.at_.cls) hy ?_
    rw [hpe]
    refine ih (listed.setIfInBounds u true) (a.put ops[u].dst v) w ?_ (by simpa using hs) (fun j hj hjp=> ?_) (fun j oj hj hoj e he hbe=> ?_) (fun j hj hjl=> ?_) ((hf.put hap hfr hC hE hou hl0u hv hb hA).mono fun j hj=> ?_)
    ·have:=jF hu'
     omega
    ·rw [getD_set_ne false (fun e=>by subst e;rw [hup] at hjp;cases hjp)]
     exact hlate j hj hjp
    ·by_cases e2:j=u
     ·subst e2
      rw [hou] at hoj
      cases hoj
      by_cases e3:e.on=j
      ·rw [e3];exact hj
      ·rw [getD_set_ne false (Ne.symm e3)]
       exact hdone e he hbe
     ·rw [getD_set_ne false (Ne.symm e2)] at hj
      have:=hcl j oj hj hoj e he hbe
      by_cases e3:e.on=u
      ·rw [e3]
       simp [hlt]
      ·rw [getD_set_ne false (Ne.symm e3)]
       exact this
    ·by_cases e3:j=u
     ·rw [e3];simp [hlt]
     ·rw [getD_set_ne false (Ne.symm e3)]
      exact hsub j hj hjl
    ·by_cases e:j=u
     ·exact .inr e
     ·left
      rw [getD_set_ne false (Ne.symm e)] at hj
      exact hj
   ·refine ⟨fun hnil=>(hsome u hu' hnil).elim,fun i hi=> ?_⟩
    obtain ⟨hun,o,ho,hall⟩:=mem_ready.1 hi
    have hil:=(Array.getElem?_eq_some_iff.1 ho).1
    have hl0:(lst ops.size D).getD i true=false:=by
     rw [zA3 hil]
     cases hg:inL D i with
     |false=>rfl
     |true=>
      have:=hsub i hil hg
      have hlt3:i<listed.size:=by omega
      simp [hlt3] at hun
      simp [hlt3] at this
      rw [this] at hun
      cases hun
    have hip:inL D' i=true:=by
     cases hg:inL D' i with
     |true=>rfl
     |false=>
      exfalso
      have h1:=List.all_eq_true.1 htl i (List.mem_range.2 hil)
      rw [hg,Bool.false_or] at h1
      have h2:=List.all_eq_true.1 h1 u (List.mem_range.2 hul)
      simp only [Bool.or_eq_true,Bool.not_eq_true'] at h2
      rcases h2 with ((h2|h2)|h2)|h2
      ·rw [hup] at h2;cases h2
      ·exact hfu h2
      ·exact hu (hsub u hul h2)
      ·exact hu (zAm hcl _ u i o ho hall h2)
    refine hspec i hip hl0 o ho a w (hf.mono fun j hj=> ?_) _ fun v w' hv hb hA=>⟨.inr (hCW _ (hC _ _ hf.at_.cls hb)), ?_⟩
    ·obtain ⟨hj0,e,he,hb,rfl⟩:=hj
     exact ⟨hj0,hall e he hb⟩
    ·refine ih (listed.setIfInBounds i true) (a.put o.dst v) w' ?_ (by simpa using hs) (fun j hj hjp=> ?_) (fun j oj hj hoj e he hbe=> ?_) (fun j hj hjl=> ?_) ((hf.put hap hfr hC hE ho hl0 hv hb hA).mono fun j hj=> ?_)
     ·have:=jF hun
      omega
     ·rw [getD_set_ne false (fun e=>by subst e;rw [hip] at hjp;cases hjp)]
      exact hlate j hj hjp
     ·by_cases e2:j=i
      ·subst e2
       rw [ho] at hoj
       cases hoj
       by_cases e3:e.on=j
       ·rw [e3];exact hj
       ·rw [getD_set_ne false (Ne.symm e3)]
        exact hall e he hbe
      ·rw [getD_set_ne false (Ne.symm e2)] at hj
       have:=hcl j oj hj hoj e he hbe
       by_cases e3:e.on=i
       ·rw [e3]
        have hlt:i<listed.size:=by omega
        simp [hlt]
       ·rw [getD_set_ne false (Ne.symm e3)]
        exact this
     ·by_cases e3:j=i
      ·have hlt:i<listed.size:=by omega
       rw [e3];simp [hlt]
      ·rw [getD_set_ne false (Ne.symm e3)]
       exact hsub j hj hjl
     ·by_cases e:j=i
      ·exact .inr e
      ·left
       rw [getD_set_ne false (Ne.symm e)] at hj
       exact hj
end
def zIl (F:Fence) (m:Nat) (P:Program) (ops:Array Oper) (CW:World->Prop) (Q:Exit->Act->World->Prop) (D:List Nat) (a:Act) (w:World):Prop:=
 q7 F m P .any ops ops.size CW (y8 Q) ((lst ops.size D).count false) (lst ops.size D) a w
def Gr (CW:World->Prop) (w:World):Prop:= ∀w',Below w.heap.size w w'->CW w'
abbrev GW (wb:World):World->Prop:=fun W=>Below wb.heap.size wb W
theorem zGi {wb w:World} (h:Below wb.heap.size wb w):Gr (GW wb) w:=fun _ hb=>h.trans (hb.mono h.size)
def FdC (P:Program) (CW:World->Prop) (w:World) (ops:Array Oper) (G:Nat->SF) (o:Oper):Prop:=
 ∀(b:Act) (W:World),Below w.heap.size w W->(∀t,t∈looks ops o->(G t).p (b.tmps.getD t undef) W)-> ∃v,j5 P ops CW o v b
theorem zC3.c {P:Program} {wb w:World} {ops:Array Oper} {G:Nat->SF} {o:Oper} (h:zC3 P wb ops G o) (hb:Below wb.heap.size wb w):FdC P (GW wb) w ops G o:=fun b W hW hr=>h b W (hb.trans (hW.mono hb.size)) hr
def zN3 (ops:Array Oper) (D':List Nat) (G:Nat->SF) (t:Nat):SF:=bif (List.range ops.size).any (fun i=> !inL D' i&&(zW ops i==some t)) then SF.any else G t
def zTt (ops:Array Oper) (fl D is:List Nat) (n:Nat) (keys ts:List Nat):Bool:=
 qX ops&&zAf ops n&&jG ops&&Region.noSelect ops&&zA1 ops&&zAs keys&&
 zCu ops (lst ops.size D)&&zCu ops (lst ops.size (is++D))&&
 keys.all (fun t=>is.any fun i=> !inL D i&&(zW ops i==some t))&&
 ts.all (fun t=>(List.range ops.size).all fun i=>inL D i|| !(zW ops i==some t))&&
 is.all (fun i=>decide (i<ops.size)&& !inL D i&&(!inL fl i||Region.free .any ops (zA7 ops i) i)&&match ops[i]? with
  |none=>true
  |some o=>(looks ops o).all fun t=>(List.range ops.size).all fun j=>inL D j|| !(zW ops j==some t)||o.after.any fun e=>Region.binds .any e&&e.on==j)&&
 zRt ops D fl (is++D)
def zNm (ops:Array Oper) (is:List Nat):List Oper:=is.filterMap fun i=>ops[i]?
theorem zFL {F:Fence} {m:Nat} {P:Program} {w0:World} {ops ops':Array Oper} {G:Nat->SF}: ∀{is:List Nat},Obs F m P w0 ops' G (zNm ops is)-> ∀i,i∈is-> ∀o,ops[i]?=some o->qK F m P w0 ops' G o
 | [],_,i,hi,_,_=>by cases hi
 | k::is,h,i,hi,o,ho=>by
  unfold zNm at h
  rw [List.filterMap_cons] at h
  cases hk:ops[k]? with
  |none=>
   rw [hk] at h
   rcases List.mem_cons.1 hi with rfl|hi
   ·rw [ho] at hk;cases hk
   ·exact zFL h i hi o ho
  |some ok=>
   rw [hk] at h
   rcases List.mem_cons.1 hi with rfl|hi
   ·rw [ho] at hk;cases hk;exact h.1
   ·exact zFL h.2 i hi o ho
theorem zQa {F:Fence} {m:Nat} {P:Program} {ops:Array Oper} {Q:Exit->Act->World->Prop} {CW:World->Prop} {G:Nat->SF} {n:Nat} {ds:List Deferred} {a:Act} {w:World} {D:List Nat} (fl is ts:List Nat) (L:List (Nat×SF))
  (hcw:Gr CW w) (hchk:zTt ops fl D is n (L.map (·.1)) ts=true) (h:At w G n ds a w) (hobs:Obs F m P w ops (upd G L) (zNm ops is))
  (hfd: ∀i o,inL fl i=true->ops[i]?=some o->FdC P CW w ops (upd G L) o)
  (hfin: ∀a w',At w (zN3 ops (is++D) (upd G L)) n ds a w'->zIl F m P ops CW Q (is++D) a w'):zIl F m P ops CW Q D a w:=by
 unfold zTt at hchk
 simp only [Bool.and_eq_true] at hchk
 obtain ⟨⟨⟨⟨⟨⟨⟨⟨⟨⟨⟨hap,hfr⟩,hpl⟩,hns⟩,hear⟩,hndk⟩,hc1⟩,hc2⟩,hkeys⟩,hts⟩,his⟩,htl⟩:=hchk
 have hisD: ∀i,inL (is++D) i=true->inL D i=false->i∈is:=fun i h1 h2=>by
  rw [zGf,h2,Bool.or_false] at h1
  exact zQU h1
 have hkey: ∀t,(∀j,inL D j=false->j∈is->zW ops j≠some t)->upd G L t=G t:=fun t ht=>by
  refine jC ?_
  cases hc:(L.map (·.1)).contains t with
  |false=>rfl
  |true=>
   exfalso
   obtain ⟨i,hi,he⟩:=List.any_eq_true.1 (List.all_eq_true.1 hkeys t (List.contains_iff_mem.1 hc))
   simp only [Bool.and_eq_true,Bool.not_eq_true',beq_iff_eq] at he
   exact ht i he.1 hi he.2
 have hst: ∀t,(∀j,inL D j=false->j∈is->zW ops j≠some t)->(upd G L t).p (a.tmps.getD t undef) w:=fun t ht=>by rw [hkey t ht];exact h.sl t
 have hspecs: ∀i,i∈is->i<ops.size/\(inL fl i=true->Region.free .any ops (zA7 ops i) i=true)/\ ∀o,ops[i]?=some o-> ∀t,t∈looks ops o-> ∀j,inL D j=false->zW ops j=some t->(o.after.any fun e=>Region.binds .any e&&e.on==j)=true:=fun i hi=>by
  have h1:=List.all_eq_true.1 his i hi
  simp only [Bool.and_eq_true,decide_eq_true_eq] at h1
  refine ⟨h1.1.1.1,fun hf=>(by have h2:=h1.1.2;rw [hf] at h2;simpa using h2),fun o ho t ht j hj hjd=> ?_⟩
  have h2:=h1.2
  rw [ho] at h2
  have hlt:j<ops.size:=by
   rcases Nat.lt_or_ge j ops.size with e|e
   ·exact e
   ·rw [zW,Array.getElem?_eq_none e] at hjd;cases hjd
  have h3:=List.all_eq_true.1 (List.all_eq_true.1 h2 t ht) j (List.mem_range.2 hlt)
  rw [hj,hjd] at h3
  simpa using h3
 have hnd: ∀t,(∀j,inL D j=false->zW ops j≠some t)->zAT ops (lst ops.size D) t=false:=fun t ht=>by
  cases hd:zAT ops (lst ops.size D) t with
  |false=>rfl
  |true=>
   exfalso
   unfold zAT at hd
   obtain ⟨i,hi,hp⟩:=List.any_eq_true.1 hd
   simp only [Bool.and_eq_true,beq_iff_eq,Bool.not_eq_true'] at hp
   have hp1:=hp.1
   rw [zA3 (List.mem_range.1 hi)] at hp1
   exact ht i hp1 (by rw [<-zB3];exact hp.2)
 -- what an operation looks at holds where those it waits for have run
 have hlook: ∀i o,i∈is->ops[i]?=some o-> ∀b W,FlowB ops (lst ops.size D) (fun _=>false) (fun i v W=> ∀o,ops[i]?=some o-> ∀d,o.dst=some d->(upd G L d).p v W) (fun W=>Below w.heap.size w W) a (fun j=>(lst ops.size D).getD j true=false/\ ∃e∈o.after,Region.binds .any e=true/\e.on=j) b W-> ∀t,t∈looks ops o->(upd G L t).p (b.tmps.getD t undef) W:=fun i o hi ho b W hf t ht=>by
  by_cases hex: ∃j,inL D j=false/\zW ops j=some t
  ·obtain ⟨j,hjD,hj⟩:=hex
   have h1:=(hspecs i hi).2.2 o ho t ht j hjD hj
   obtain ⟨x,hx,he⟩:=Array.any_eq_true.1 h1
   simp only [Bool.and_eq_true,beq_iff_eq] at he
   cases hoj:ops[j]? with
   |none=>rw [zW,hoj] at hj;cases hj
   |some oj=>
    rw [qH hoj] at hj
    exact hf.at_.vals j oj t ⟨by rw [zA3 (Array.getElem?_eq_some_iff.1 hoj).1];exact hjD,_,Array.getElem_mem hx,he.1,he.2⟩ hoj hj oj hoj t hj
  ·have hno: ∀j,inL D j=false->zW ops j≠some t:=fun j h1 h2=>hex ⟨j,h1,h2⟩
   rw [hf.at_.keep t (hnd t hno)]
   exact (upd G L t).st _ _ _ (hst t (fun j hj _=>hno j hj)) hf.at_.cls
 refine zTV (Q:=Q) (D:=D) (D':=is++D) (z:=ops.size) (a0:=a) (A:=fun _=>false) (E:=fun i v W=> ∀o,ops[i]?=some o-> ∀d,o.dst=some d->(upd G L d).p v W) (C:=fun W=>Below w.heap.size w W) fl hpl hns lr CW hcw ?hfree ?hfk hear htl hap (by rw [h.size];exact hfr) (zBv hc2) (fun W W' hC hb=>hC.trans (hb.mono hC.size)) (fun i v W W' hE hb o ho d hd=>(upd G L d).st _ _ _ (hE o ho d hd) hb) ?spec ?fin _ (lst ops.size D) a w rfl (zEs _ _) (fun i hi hp=> ?_) (zBv hc1) (fun i hi hp=>by rw [zA3 hi];exact hp) ⟨⟨Below.refl _ _,rfl,rfl,fun _ _=>rfl,fun i o t hi=> ?_⟩,fun i o t b hi hA=>(by cases hA),fun i j oi oj ti tj bi bj hi hj hne hA=>(by cases hA)⟩
 case hfree=>exact fun i hD hp hf=>(hspecs i (hisD i hp hD)).2.1 hf
 case hfk=>
  intro i hp hf hl o ho b W hfl
  have hi:=hisD i hp (zD8 hl).2
  exact hfd i o hf ho b W hfl.at_.cls (hlook i o hi ho b W hfl)
 case spec=>
  intro i hp hl o ho b W hfl K hK
  have hi:=hisD i hp (zD8 hl).2
  refine zAa ho (zFL hobs i hi o ho) (fun j g hj=> ?_) hfl.at_.cls (hlook i o hi ho b W hfl) (fun v W' hv hb=>hK v W' (fun o' ho' d hd=>by rw [ho] at ho';cases ho';exact hv d hd) hb (fun e=>by cases e))
  rw [hfl.at_.size,h.size]
  obtain ⟨oj,hoj,hdj⟩:=yZ hj
  exact qE hfr hoj hdj
 case fin=>
  intro b W hfl
  refine hfin b W ⟨hfl.at_.cls,by rw [hfl.at_.size];exact h.size,by rw [hfl.at_.defers];exact h.nd,fun t=> ?_⟩
  unfold zN3
  cases hc:(List.range ops.size).any fun i=> !inL (is++D) i&&(zW ops i==some t) with
  |true=>trivial
  | false=>
   show (upd G L t).p _ _
   by_cases hex: ∃j,inL D j=false/\zW ops j=some t
   ·obtain ⟨j,hjD,hj⟩:=hex
    have hlt:j<ops.size:=by
     rcases Nat.lt_or_ge j ops.size with e|e
     ·exact e
     ·rw [zW,Array.getElem?_eq_none e] at hj;cases hj
    have h1:=List.any_eq_false.1 hc j (List.mem_range.2 hlt)
    rw [hj] at h1
    have hjp:inL (is++D) j=true:=by simpa using h1
    cases hoj:ops[j]? with
    |none=>rw [zW,hoj] at hj;cases hj
    |some oj=>
     rw [qH hoj] at hj
     exact hfl.at_.vals j oj t ⟨hjp,by rw [zA3 hlt];exact hjD⟩ hoj hj oj hoj t hj
   ·have hno: ∀j,inL D j=false->zW ops j≠some t:=fun j h1 h2=>hex ⟨j,h1,h2⟩
    rw [hfl.at_.keep t (hnd t hno)]
    exact (upd G L t).st _ _ _ (hst t (fun j hj _=>hno j hj)) hfl.at_.cls
 ·rw [zA3 hi]
  cases h:inL D i with
  |false=>rfl
  |true=>rw [zGf,h,Bool.or_true] at hp;cases hp
 ·have h1:=zD8 hi.1
  have h2:=hi.2
  rw [zA3 h1.1,h1.2] at h2
  cases h2
section
variable {S:Nat->Prop} {w0:World} {K:List (Nat×KF)} {B:List Bx} {n:Nat} {ds:List Deferred} {a:Act} {w:World} {F:Fence} {m:Nat} {P:Program} {ops:Array Oper} {Q:Exit->Act->World->Prop} {wb:World} {CW:World->Prop} {D:List Nat}
theorem StS.later (h:StS S w0 K B n ds a w) {w':World} (hb:Below w.heap.size w w'):StS S w0 K B n ds a w':=
 ⟨h.gr.trans hb,h.size,h.nd,fun q hq=>KF.us (h.sl q hq) (zT hb),h.bx.keep hb (zT hb) B (fun _ _=>rfl),zAe h.mks hb,h.so⟩
theorem zEP {id:Nat} (CW:World->Prop) (hmix:P.follows .mixedOrders=true) (h:StS S w0 K B n ds a w) (fin: ∀w1,Below w.heap.size w w1->StS S w0 K B n ds a w1->zIl F m P ops CW Q [] a w1):(Code.region id ops true).wpIn F m P Q a w:=by
 refine yB ops.size CW hmix ?_
 have hd:Below w.heap.size w w.drew:=(Below.refl _ w).drew
 have:=fin w.drew hd (h.later hd)
 unfold zIl at this
 have e:lst ops.size []=Array.replicate ops.size false:=by
  refine (zHf (by simp) fun i hi=> ?_).symm
  rw [Array.getD_eq_getD_getElem?,Array.getElem?_replicate,if_pos hi]
  rfl
 rw [e,Array.count_replicate_self] at this
 exact this
theorem zDa (h:(List.range ops.size).all (inL D)=true) (hQ:Q .normal a w):zIl F m P ops CW Q D a w:=by
 have e:lst ops.size D=Array.replicate ops.size true:=(zHf (by simp) fun i hi=>by
  rw [Array.getD_eq_getD_getElem?,Array.getElem?_replicate,if_pos hi]
  exact (List.all_eq_true.1 h i (List.mem_range.2 hi)).symm).symm
 have hc:(lst ops.size D).count false=0:=by rw [e];simp [Array.count_replicate]
 unfold zIl
 rw [hc]
 refine ⟨List.eq_nil_iff_forall_not_mem.2 fun i hi=> ?_,hQ⟩
 have h1:=(mem_ready.1 hi).1
 have h2:=zD8 h1
 rw [List.all_eq_true.1 h i (List.mem_range.2 h2.1)] at h2
 cases h2.2
theorem zBP {o:Oper} (h:o.guard=none):Region.wanted o (yielded ops a.tmps)=true:=by unfold Region.wanted;rw [h]
theorem zIL {i:Nat} {o:Oper} (hr:Region.ready .any ops (lst ops.size D)= [i]) (ho:ops[i]?=some o) (hw:Region.wanted o (yielded ops a.tmps)=true) (h:o.wpIn F m P a w (fun a' w'=>CW w'/\zIl F m P ops CW Q (i::D) a' w') (y8 Q)):zIl F m P ops CW Q D a w:=by
 have hi:=(mem_ready.1 (show i∈Region.ready .any ops (lst ops.size D) by rw [hr];simp)).1
 have hlt:=(zD8 hi).1
 have hc:=jF hi
 rw [zLO hlt] at hc
 unfold zIl
 rw [<-hc]
 refine ⟨fun e=>(by rw [hr] at e;cases e),fun j hj=> ?_⟩
 rw [hr] at hj
 obtain rfl:j=i:=by simpa using hj
 unfold wpOpIn
 rw [ho]
 show (if Region.wanted o (yielded ops a.tmps)=true then _ else _)
 rw [if_pos hw]
 refine Oper.wpIn_mono (fun a' w' hh=>⟨.inr hh.1, ?_⟩) h
 rw [zLO hlt]
 exact hh.2
theorem zBx (fl is:List Nat) (L:List (Nat×Rw)) (hcw:Gr CW w) (h:StS S w0 K B n ds a w)
  (hchk:zTt ops fl D is n (L.map (·.1)) (K.map (·.1)++B.map (·.t))=true)
  (hobs:Obs F m P w ops (upd (jH K B) (zM L)) (zNm ops is))
  (hfd: ∀i o,inL fl i=true->ops[i]?=some o->FdC P CW w ops (upd (jH K B) (zM L)) o)
  (hfin: ∀a' w',Below w.heap.size w w'->StS S w0 (zBm L++K) B n ds a' w'->(∀q,q∈zM L->q.2.p (a'.tmps.getD q.1 undef) w')->zIl F m P ops CW Q (is++D) a' w'):zIl F m P ops CW Q D a w:=by
 have hchk0:=hchk
 unfold zTt at hchk0
 simp only [Bool.and_eq_true] at hchk0
 obtain ⟨⟨⟨⟨⟨⟨⟨⟨⟨⟨⟨hap,hfr⟩,hpl⟩,hns⟩,hear⟩,hndk⟩,hc1⟩,hc2⟩,hks⟩,hts⟩,his⟩,htl⟩:=hchk0
 have hkeys:(zM L).map (·.1)=L.map (·.1):=by simp [zM]
 have hsame: ∀t,t∈K.map (·.1)++B.map (·.t)-> ∀i,inL D i=false->zW ops i≠some t:=fun t ht i hD hi=>by
  have h1:=List.all_eq_true.1 hts t ht
  obtain ⟨o,ho,_⟩:=yZ hi
  have h2:=List.all_eq_true.1 h1 i (List.mem_range.2 (Array.getElem?_eq_some_iff.1 ho).1)
  rw [hi,hD] at h2
  simp at h2
 have hkn: ∀t,t∈K.map (·.1)++B.map (·.t)->((zM L).map (·.1)).contains t=false:=fun t ht=>by
  cases hc:((zM L).map (·.1)).contains t with
  |false=>rfl
  |true=>
   exfalso
   have hm:=List.contains_iff_mem.1 hc
   rw [hkeys] at hm
   obtain ⟨i,_,he⟩:=List.any_eq_true.1 (List.all_eq_true.1 hks t hm)
   simp only [Bool.and_eq_true,Bool.not_eq_true',beq_iff_eq] at he
   exact hsame t ht i he.1 he.2
 have hno: ∀(l:List (Nat×SF)) t, ¬t∈K.map (·.1)++B.map (·.t)->upd (qA K B a) l t=upd (jH K B) l t:=fun l t ht=>by
  induction l with
  |nil=>exact if_neg ht
  |cons q l ih=>
   show (bif Nat.beq q.1 t then q.2 else upd _ l t)=(bif Nat.beq q.1 t then q.2 else upd _ l t)
   rw [ih]
 have hle: ∀t v W,(upd (qA K B a) (zM L) t).p v W->(upd (jH K B) (zM L) t).p v W:=fun t v W hh=>by
  by_cases ht:t∈K.map (·.1)++B.map (·.t)
  ·rw [jC (hkn t ht)] at hh ⊢
   unfold qA at hh
   rw [if_pos ht] at hh
   exact hh.1
  ·rwa [hno _ t ht] at hh
 have hA:=h.at
 refine zQa fl is (K.map (·.1)++B.map (·.t)) (zM L) hcw (by rw [hkeys];exact hchk) (G:=qA K B a) (ds:=ds) ⟨hA.gr,hA.size,hA.nd,fun t=> ?_⟩ ?_ (fun i o hi ho b W hb hr=>hfd i o hi ho b W hb (fun t ht=>hle t _ _ (hr t ht))) fun a' w' hA'=> ?_
 ·by_cases ht:t∈K.map (·.1)++B.map (·.t)
  ·unfold qA;rw [if_pos ht];exact ⟨hA.sl t,rfl⟩
  ·unfold qA;rw [if_neg ht];exact hA.sl t
 ·have hge: ∀t,(∃i,inL D i=false/\zW ops i=some t)-> ∀v W,(upd (jH K B) (zM L) t).p v W->(upd (qA K B a) (zM L) t).p v W:=fun t ⟨i,hD,hi⟩ v W hh=>by
   rw [hno _ t (fun ht=>hsame t ht i hD hi)]
   exact hh
  have hconv: ∀(i:Nat) (o:Oper),inL D i=false->ops[i]?=some o->qK F m P w ops (upd (jH K B) (zM L)) o->qK F m P w ops (upd (qA K B a) (zM L)) o:=by
   intro i o hD ho hg
   have hdst: ∀d,o.dst=some d-> ∃i,inL D i=false/\zW ops i=some d:=fun d hd=>⟨i,hD,by rw [qH ho];exact hd⟩
   have hop:zKn F m P w (upd (jH K B) (zM L)) o->zKn F m P w (upd (qA K B a) (zM L)) o:=fun h1 b W K' Q' hb hr hK'=>
    h1 b W K' Q' hb (fun t ht=>hle t _ _ (hr t ht)) fun v W' hv hb'=>hK' v W' (fun d hd=>hge d (hdst d hd) _ _ (hv d hd)) hb'
   unfold qK at hg ⊢
   cases hgd:o.guard with
   |none=>rw [hgd] at hg;exact hop hg
   |some q=>
    rw [hgd] at hg
    obtain ⟨g,bv,h1,h2,h3,h4⟩:=hg
    exact ⟨g,bv,h1,fun v W hh=>h2 v W (hle g v W hh),fun e=>hop (h3 e),fun e=>⟨fun d hd W=>hge d (hdst d hd) _ _ ((h4 e).1 d hd W),(h4 e).2⟩⟩
  have hall: ∀l:List Nat,(∀i,i∈l->inL D i=false/\i<ops.size)->Obs F m P w ops (upd (jH K B) (zM L)) (zNm ops l)->Obs F m P w ops (upd (qA K B a) (zM L)) (zNm ops l):=by
   intro l
   induction l with
   |nil=>intro _ _;trivial
   |cons i l ih=>
    intro hm ho
    obtain ⟨hD,hlt⟩:=hm i (by simp)
    have hoi:ops[i]?=some ops[i]:=Array.getElem?_eq_getElem hlt
    have e:zNm ops (i::l)=ops[i]::zNm ops l:=by unfold zNm;rw [List.filterMap_cons,hoi]
    rw [e] at ho ⊢
    exact ⟨hconv i _ hD hoi ho.1,ih (fun j hj=>hm j (by simp [hj])) ho.2⟩
  refine hall is (fun i hi=> ?_) hobs
  have h1:=List.all_eq_true.1 his i hi
  simp only [Bool.and_eq_true,decide_eq_true_eq,Bool.not_eq_true'] at h1
  exact ⟨h1.1.1.2,h1.1.1.1⟩
 ·have hg:=hA'.gr
  have hslot: ∀t,t∈K.map (·.1)++B.map (·.t)->a'.tmps.getD t undef=a.tmps.getD t undef:=fun t ht=>by
   have h1:=hA'.sl t
   unfold zN3 at h1
   have h2:((List.range ops.size).any fun i=> !inL (is++D) i&&(zW ops i==some t))=false:=by
    refine List.any_eq_false.2 fun i _=> ?_
    cases hD:inL D i with
    |true=>simp [zGf,hD]
    |false=>have:=hsame t ht i hD;simp [this]
   rw [h2,show (bif false then SF.any else upd (qA K B a) (zM L) t)=upd (qA K B a) (zM L) t from rfl,jC (hkn t ht),qA,if_pos ht] at h1
   exact h1.2
  have hrow: ∀q,q∈zM L->q.2.p (a'.tmps.getD q.1 undef) w':=fun q hm2=>by
   have h1:=hA'.sl q.1
   obtain ⟨i,hi,he⟩:=List.any_eq_true.1 (List.all_eq_true.1 hks q.1 (by rw [<-hkeys];exact List.mem_map.2 ⟨_,hm2,rfl⟩))
   simp only [Bool.and_eq_true,Bool.not_eq_true',beq_iff_eq] at he
   have hiL:inL (is++D) i=true:=by
    rw [zGf]
    have:inL is i=true:=by
     have: ∀l:List Nat,i∈l->inL l i=true:=fun l hl=>by
      induction l with
      |nil=>cases hl
      |cons k l ih=>
       show (bif Nat.beq k i then true else inL l i)=true
       rcases List.mem_cons.1 hl with rfl|hl
       ·rw [Nat.beq_refl];rfl
       ·rw [ih hl];cases Nat.beq k i<;>rfl
     exact this is hi
    rw [this,Bool.true_or]
   unfold zN3 at h1
   have h2:((List.range ops.size).any fun j=> !inL (is++D) j&&(zW ops j==some q.1))=false:=by
    refine List.any_eq_false.2 fun j _=> ?_
    by_cases hj:j=i
    ·subst hj;simp [hiL]
    ·have:zW ops j≠some q.1:=fun e=>by
      obtain ⟨oi,ho1,hd1⟩:=yZ he.2
      obtain ⟨oj,ho2,hd2⟩:=yZ e
      exact jW hap ho1 ho2 (Ne.symm hj) hd1 hd2
     simp [this]
   rw [h2,show (bif false then SF.any else upd (qA K B a) (zM L) q.1)=upd (qA K B a) (zM L) q.1 from rfl,zBQ (q:=q) (by rw [hkeys];exact hndk) hm2] at h1
   exact h1
  refine hfin a' w' hg ⟨h.gr.trans hg,hA'.size,hA'.nd,fun q hq=> ?_,h.bx.keep hg (zT hg) B fun x hx=>hslot _ (List.mem_append_right _ (List.mem_map.2 ⟨x,hx,rfl⟩)),zAe h.mks hg,h.so.imp (fun hu q hq=>(by
   rcases List.mem_append.1 hq with hq|hq
   ·obtain ⟨f,e,_⟩:=jA hq;exact ⟨f,e⟩
   ·exact hu q hq)) (fun x=>x)⟩ hrow
  rcases List.mem_append.1 hq with hq|hq
  ·obtain ⟨f,hqf,hm⟩:=jA hq
   have h1:=hrow (q.1,f.toSF) (List.mem_map.2 ⟨_,hm,rfl⟩)
   rw [hqf]
   exact h1
  ·rw [hslot q.1 (List.mem_append_left _ (List.mem_map.2 ⟨q,hq,rfl⟩))]
   exact KF.us (h.sl q hq) (zT hg)
theorem zFP {i d:Nat} {x y:Operand} {t ty:TypeId} {pos:String} {aft:Array Edge} {gd:Option (Nat×Bool)} {e:TypeId} {z:Nat} {v:Value} {Cs:List CU} (Ds:List CU) (hwb:Below wb.heap.size wb w) (h:StS S w0 K B n [] a w) (hb0:w0.heap.size<=wb.heap.size) (hr:zCb w wb.heap.size e z v Cs)
  (ho:ops[i]?=some ⟨some d, .call ⟨.builtin .append,#[x,y],#[t,t]⟩,ty,pos,aft,gd⟩) (hw:Region.wanted ⟨some d, .call ⟨.builtin .append,#[x,y],#[t,t]⟩,ty,pos,aft,gd⟩ (yielded ops a.tmps)=true) (hrd:Region.ready .any ops (lst ops.size D)= [i]) (happ:zIh P t=some (e,z,true)) (hf:zAt K B n d=true)
  (hx:a.eval x=v) (hy:(SF.row z Ds).p (a.eval y) w) (hD: ∀C,C∈Ds->CU.ok z C) (hsz:Cs.length+Ds.length<=140000000000) (hB: ∀q,q∈B->q.b<wb.heap.size)
  (fin: ∀v' a' w',Below wb.heap.size wb w'->zCb w' wb.heap.size e z v' (Cs++Ds)->StS S w0 ((d, .u (UF.eq v'))::K) B n [] a' w'->zIl F m P ops (GW wb) Q (i::D) a' w'):zIl F m P ops (GW wb) Q D a w:=by
 obtain ⟨v',w',hrun,g1,g2,_⟩:=zKR (P:=P) (ty:=ty) happ hr hy hD hsz hwb.size
 have hrun2:(execOp a.eval ⟨some d, .call ⟨.builtin .append,#[x,y],#[t,t]⟩,ty,pos,aft,gd⟩).run P w= .ok (.value v') w':=by
  simp only [execOp,resolve,invoke,builtin,Sem.run_bind,Sem.run_pure,Result.andThen_ok,List.map_toArray,List.map_cons,List.map_nil,hx,hrun]
 have hk:jO w w':=hr.keepU g2
 have hlt:=hr.lt
 have s1:StS S w0 K B n [] a w':=by
  refine ⟨?_,h.size,h.nd,fun q hq=>KF.us (h.sl q hq) hk, ?_,⟨[],Marks.nil _ _⟩,h.so⟩
  ·cases hv:v.ownBlock with
   |none=>
    refine ⟨g2.os.trans h.gr.os,g2.tape.trans h.gr.tape,g2.output.trans h.gr.output,Nat.le_trans h.gr.size g2.size,fun k hk1 hk2=> ?_⟩
    exact (g2.block k (Nat.lt_of_lt_of_le hk1 h.gr.size) (by rw [hv];simp)).trans (h.gr.block k hk1 hk2)
   |some g=>exact h.gr.grown (by rw [hv] at g2;exact g2) (.inl (Nat.le_trans hb0 (hlt g hv).1))
  ·refine yQ.stay hk B (fun q hq=> ?_) h.bx
   obtain ⟨_,_,hc,h3,_⟩:=h.bx.mem q hq
   refine g2.block _ (Array.getElem?_eq_some_iff.1 h3).1 fun e=> ?_
   have h4:=hlt _ e.symm
   have:=hB q hq
   omega
 have hb':Below wb.heap.size wb w':=⟨g2.os.trans hwb.os,g2.tape.trans hwb.tape,g2.output.trans hwb.output,Nat.le_trans hwb.size g2.size,fun k hk1=>(g2.block k (Nat.lt_of_lt_of_le hk1 hwb.size) (fun e=>by have:=hlt _ e.symm;omega)).trans (hwb.block k hk1)⟩
 refine zIL hrd ho hw ⟨fun f hf=>(by
  unfold Oper.about at hf
  simp [resolve,go_sem] at hf), ?_⟩
 rw [Oper.semAt_eq _ _ _ (fun _ e=>by cases e),hrun2]
 exact ⟨hb',fin v' _ w' hb' g1 (s1.set hf (Below.refl _ _) rfl)⟩
theorem zBf {i c kk:Nat} {t:TypeId} {x:Operand} {ty:TypeId} {pos:String} {aft:Array Edge} (C:CU) (f:SF) (h:StS S w0 K B n ds a w) (ho:ops[i]?=some ⟨none, .store t (.tmp c) x,ty,pos,aft,none⟩) (hrd:Region.ready .any ops (lst ops.size D)= [i]) (hsz:jN P t=some kk) {y:Bx} (hB:zFg B c=some y) (hro:y.r=false) (hye:y.e=t) (hyl: ∀cs W,y.c.p cs W->cs.length=kk)
  (hx: ∀v W,(Wd.fct (jH K B) x).p v W->f.p v W) (hv: ∀v W,f.p v W-> ∃vs:List Value,v= .agg vs.toArray/\vs.length=kk/\(∀u,u∈vs->u.oneCell'=true)/\vs.all yG=true/\C.p vs W) (hcw: ∀vs:List Value,f.p (.agg vs.toArray) w->Gr CW (w.setRow y.b vs.toArray))
  (fin: ∀w',Gr CW w'->(∀k,k≠y.b->w'.heap[k]?=w.heap[k]?)->StS S w0 K (zEK B c C) n ds a w'->zIl F m P ops CW Q (i::D) a w'):zIl F m P ops CW Q D a w:=by
 obtain ⟨hy,hyc⟩:=zAl hB
 obtain ⟨cs,h1,h2,h3,h4,h5⟩:=h.bx.mem y hy
 obtain ⟨vs,e,hl,ho1,hnl,hC⟩:=hv _ _ (hx _ _ (h.fct x))
 rw [hyc] at h1
 have hk:jO w (w.setRow y.b vs.toArray):=zCf h3 (by simpa using h5)
 have hg:=hcw vs (by rw [<-e];exact hx _ _ (h.fct x))
 exact zIL hrd ho (zBP rfl) (zI0 hsz hye (hyl _ _ h4) h1 h3 e hl ho1 ⟨hg _ (Below.refl _ _),fin _ hg (fun k hk=>setRow_other w y.b k _ hk) (h.turn hB hro (zDt w y.b vs.toArray) (setRow_heap w y.b cs.toArray vs.toArray y.e (0,0) h3) (C.us _ _ _ hC hk) hnl)⟩)
end
section
variable {F:Fence} {m:Nat} {P:Program} {w0:World} {ops:Array Oper} {G:Nat->SF} {d:Tmp} {ty:TypeId} {pos:String} {aft:Array Edge}
def SF.emp (W:World) (e:TypeId):SF:=⟨fun v w=> ∃g,v= .slice (some ⟨g,0,none⟩) 0 0/\W.heap.size<=g/\w.heap[g]?=some (.cells #[] e (0,0)),fun _ _ _ ⟨g,h1,h2,h3⟩ hb=>⟨g,h1,h2,(hb.block g (Array.getElem?_eq_some_iff.1 h3).1).trans h3⟩⟩
theorem zG4 {t e:TypeId} {z:Nat} (happ:zIh P t=some (e,z,true)) (hd: ∀v W,(SF.emp w0 e).p v W->(G d).p v W:=by exact fun _ _ h=>h):qK F m P w0 ops G ⟨some d, .buildSlice t 0 #[],ty,pos,aft,none⟩:=
 zLB (fun _ e=>by cases e) (fun _ e=>by cases e) fun b W hb hh=>by
  obtain ⟨ht,i,zv,hi,hz,hs,hby0,hzs,hzn,hz0⟩:=zD0 happ
  refine ⟨.slice (some ⟨W.heap.size,0,none⟩) 0 0, .cells #[] e, ?_,hd _ _ ⟨W.heap.size,rfl,hb.size,heap_alloc_new W _⟩⟩
  simp [execOp,Instr.buildSlice,run_underlying ht,sizeOf,typeInfo,hi,newRow,Instr.fill]
  congr 2
  exact Array.eq_empty_of_size_eq_zero (by simp)
theorem zLE {x y:Operand} {t e:TypeId} {z:Nat} (Ds:List CU) (happ:zIh P t=some (e,z,true)) (hx: ∀v W,(fct G x).p v W->(SF.emp w0 e).p v W) (hy: ∀v W,Below w0.heap.size w0 W->(fct G y).p v W->(SF.row z Ds).p v W) (hD: ∀C,C∈Ds->CU.ok z C) (hsz:Ds.length<=140000000000) (hd: ∀v W,(SF.newRow w0 e z Ds).p v W->(G d).p v W:=by exact fun _ _ h=>h):qK F m P w0 ops G ⟨some d, .call ⟨.builtin .append,#[x,y],#[t,t]⟩,ty,pos,aft,none⟩:=by
 intro bb W K Q hb hr hK
 obtain ⟨g,ex,hg,hgc⟩:=hx _ _ (qB hr (x:=x) (by simp [Op.operands,Call.operands]))
 have h2:=hy _ _ hb (qB hr (x:=y) (by simp [Op.operands,Call.operands]))
 obtain ⟨ht,i,zv,hi,hz,hs,hby0,hzs,hzn,hz0⟩:=zD0 happ
 have hemp:zCb W w0.heap.size e z (.slice (some ⟨g,0,none⟩) 0 0) []:= .inr ⟨g,0,#[],rfl,hg,hgc,Nat.le_refl _,Nat.zero_le _,by simp,rfl,fun i C hi=>by simp at hi⟩
 refine ⟨fun f hf=>(by
  unfold Oper.about at hf
  simp [resolve,go_sem] at hf), ?_⟩
 rw [Oper.semAt_eq _ _ _ (fun _ e=>by cases e)]
 have hev: ∀v' W',(Builtin.append_ #[t,t] ty #[.slice (some ⟨g,0,none⟩) 0 0,bb.eval y]).run P W= .ok v' W'->(execOp bb.eval ⟨some d, .call ⟨.builtin .append,#[x,y],#[t,t]⟩,ty,pos,aft,none⟩).run P W= .ok (.value v') W':=fun v' W' h=>by
  simp only [execOp,resolve,invoke,builtin,Sem.run_bind,Sem.run_pure,Result.andThen_ok,List.map_toArray,List.map_cons,List.map_nil,ex,h]
 by_cases h0:Ds= []
 ·subst h0
  obtain ⟨A,c,ey,hlc,hcm,hAn,hel⟩:=h2
  have hrun:(Builtin.append_ #[t,t] ty #[.slice (some ⟨g,0,none⟩) 0 0,bb.eval y]).run P W= .ok (.slice (some ⟨g,0,none⟩) 0 0) W:=by
   rw [ey]
   cases A with
   |none=>simp [Builtin.append_,run_underlying ht,sizeOf,typeInfo,hi,Builtin.lenOf,Builtin.firstCells,storeCells]
   |some ad=>simp [Builtin.append_,run_underlying ht,sizeOf,typeInfo,hi,Builtin.lenOf,Builtin.firstCells,loadCells,loadCellsFrom,storeCells]
  rw [hev _ _ hrun]
  exact hK _ _ (fun d' e'=>by cases e';exact hd _ _ hemp) (Below.refl _ _)
 ·have h0:0<Ds.length:=List.length_pos_iff.2 h0
  have hmx:Ds.length<=maxLen:=by unfold maxLen;omega
  have hbb:Ds.length*i.bytes<=140737488355328:=Nat.le_trans (Nat.mul_le_mul hsz hby0) (by decide)
  obtain ⟨A,c,ey,hlc,hcm,hAn,hel⟩:=h2
  obtain ⟨D,Ds',rfl⟩: ∃D Ds',Ds=D::Ds':=by
   cases Ds with
   |nil=>simp at h0
   |cons D Ds'=>exact ⟨D,Ds',rfl⟩
  obtain ⟨b',o',cs',rfl,_⟩:=hel 0 D rfl
  obtain ⟨news,n1,n2,n3,n4,n5⟩:=zEN (W:=W) (b:=b') (z:=z) (D::Ds') o' hD fun i C hiC=>by
   obtain ⟨b'',o'',cs'',e',m1,m2⟩:=hel i C hiC
   cases e'
   exact ⟨cs'',m1,m2⟩
  have hgr:=run_append_grow (P:=P) W t ty e i zv ht hi hz ⟨g,0,none⟩ 0 0 [] (by simp) (by simp) ⟨b',o',none⟩ (D::Ds').length c news (by rw [hs];exact n1) (fun j u hj=>by rw [Addr.add_lit];exact n2 j u hj) oN oN (growslice_fits oN (by simpa using hbb))
  simp only [Nat.zero_add,Array.empty_append] at hgr
  have hge:=grownCap_ge W (D::Ds').length 0 e
  have hcm':grownCap W (D::Ds').length 0 e<=maxLen:=grownCap_le_maxLen W (D::Ds').length 0 e hmx
  rw [hev _ _ (by rw [ey];exact hgr)]
  have hbw:Below W.heap.size W (W.drew.alloc (.cells (news.toArray++Builtin.zeroCells zv.cells (grownCap W (D::Ds').length 0 e - (D::Ds').length)) e)):=⟨rfl,rfl,rfl,by simp,fun k hk=>heap_alloc_old W.drew _ hk⟩
  refine hK _ _ (fun d' e'=>by
   cases e'
   refine hd _ _ (.inr ⟨W.heap.size,_,_,rfl,hb.size,heap_alloc_new W.drew _,hge,hcm', ?_, ?_, ?_⟩)
   ·simp only [Array.size_append,List.size_toArray,size_zeroCells,hzs,n1, <-Nat.add_mul]
    congr 1
    omega
   ·rw [Array.toList_append,List.all_append,n4,zB4 hzn];rfl
   ·have:=zDO (Cs:= []) (cs:= []) (es:=(Builtin.zeroCells zv.cells (grownCap W (D::Ds').length 0 e - (D::Ds').length)).toList) (by simp) n1 (by simp) n5 (zT hbw)
    simpa using this) hbw
theorem zBC {CW:World->Prop}: ∀i o,inL [] i=true->ops[i]?=some o->FdC P CW w0 ops G o:=fun _ _ h=>by cases h
theorem qQ {k:Nat} {o':Oper} {l:List Nat} (hk:ops[k]?=some o') {CW:World->Prop} (h:FdC P CW w0 ops G o') (hl: ∀i o,inL l i=true->ops[i]?=some o->FdC P CW w0 ops G o): ∀i o,inL (k::l) i=true->ops[i]?=some o->FdC P CW w0 ops G o:=fun i o hi ho=>by
 have hi:(bif Nat.beq k i then true else inL l i)=true:=hi
 cases e:Nat.beq k i with
 |true=>
  have:=Nat.eq_of_beq_eq_true e
  subst this
  rw [hk] at ho
  cases ho
  exact h
 |false=>
  rw [e] at hi
  exact hl i o hi ho
end
section
variable {S:Nat->Prop} {F:Fence} {m:Nat} {P:Program} {Q:Exit->Act->World->Prop} {w0 w1:World} {K K0:List (Nat×KF)} {B B0:List Bx} {n n0:Nat} {ds ds0:List Deferred} {a a0:Act} {w:World}
end
end Go.Proofs.Wd
