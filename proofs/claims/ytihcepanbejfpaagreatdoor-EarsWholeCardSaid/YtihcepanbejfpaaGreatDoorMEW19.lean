/- Natural numbers as values, and what prod and the references answer of  and what it needs. -/
import Derived.Test.YtihcepanbejfpaaGreatDoorMEW13
import Derived.Test.YtihcepanbejfpaaGreatDoorMEW17
abbrev tK:=@List.getElem?_map
abbrev tL:=@Prod.mk.injEq
abbrev tM:=@List.take_append_of_le_length
abbrev tN:=@List.cons.injEq
abbrev tO:=@List.drop_append_of_le_length
abbrev tP:=@Bool.eq_iff_iff
abbrev tQ:=@Classical.choose_spec
abbrev tR:=@Bool.true_or
abbrev tS:=@Go.run_indexAt_slice
namespace Go.Proofs.Wd
open Tryz
open Go.RowKit Lb
variable {W W' w w' w0 w1 wb:WB}{N b base c' d gf i id j l m m' n n' z:Nat}{x y:WL}{e s t t' te ty:WF}{u v':WE}{a:Act}{A A':WG Addr}{F:Fence}{P:WH}{ops:Array Oper}{G:Nat->SF}{o:Oper}{p:V2}{f g:UF}{C:CU}{k k' k0:Int}{xs:Array WL}{cs:List WE}{op:Op}{q:Rat}{args:Array WE}{Cs Ds:List CU}{K:List (Nat×KF)}{B B':List Bx}{ds:List Deferred}{ats:Array WF}{ks:List Int}{S:Nat->Prop}{CW:WB->Prop}{D:List Nat}{pos:String}{aft:Array Edge}{ps:List V2}{want:Bool}
def LV(W:WB)(m:Nat)(v:WE)(x:Nat):Prop:=∃A n c l,v=.slice A n c/\Rd W A n c l/\Lt l/\n<=m/\val l=x
theorem LV.below{v:WE}{x:Nat}(h:LV W m v x)(hb:bW W W'):LV W' m v x:=by
 obtain⟨A,n,c,l,rfl,I,h2⟩:=h
 exact⟨A,n,c,l,rfl,I.below hb,h2⟩
theorem LV.mono{v:WE}{x:Nat}(h:LV W m v x)(hm:m<=m'):LV W m' v x:=by
 obtain⟨A,n,c,l,rfl,J,h2,h3,I⟩:=h
 exact⟨A,n,c,l,rfl,J,h2,oA,I⟩
theorem LV.bound{v:WE}{x:Nat}(h:LV W m v x):x<BB^m:=by
 obtain⟨A,n,c,l,rfl,I,h2,h3,rfl⟩:=h
 exact vV (qV h2) (vZ qC (by rw[I.len];exact h3))
theorem qN.lv{v:WE}{x:Nat}(h:qN W v x)(J:x<BB^m):LV W m v x:=by
 obtain⟨A,n,c,l,rfl,I,h2⟩:=h
 exact⟨A,n,c,l,rfl,h2,I.lt,by rw[<-h2.len];exact I.len J,I.val⟩
def zPO(w:WB)(x:Nat):Ending->WB->Prop:=fun e w'=>∃v,e=.returned v/\qN w' v x/\bW w w'
theorem jH.v{x:Nat}{e:Ending}(h:jH w x e w'):zPO w x e w':=by
 obtain⟨A,n,c,l,rfl,I,h2,h3⟩:=h
 exact⟨_,rfl,⟨A,n,c,l,rfl,I,h2⟩,h3⟩
theorem zWi{v:WE}{a:Nat}(h:LV W m v a)(O:LV W m v' b)(hm:m<=40000):Calls prog 106 #[v,v'] W (zPO W (a*b)):=by
 obtain⟨A,n,c,l,rfl,U,h2,h3,rfl⟩:=h
 obtain⟨A',n',c',l',rfl,J,I,h3',rfl⟩:=O
 exact(zOx A n c l A' n' c' l' W U J h2 I oA oA).mono fun _ _=>jH.v
def zY1(w:WB)(x y:Nat):Ending->WB->Prop:=fun e w'=>∃v v',e=.returned (.tuple #[v,v'])/\qN w' v x/\qN w' v' y/\bW w w'
theorem LV.open{v:WE}{x:Nat}(h:LV W m v x):∃A n c,v=.slice A n c/\n<=m/\n<=c/\c<=9223372036854775807/\LV W m (.slice A n c) x:=by
 obtain⟨A,n,c,l,rfl,I,h2,h3,J⟩:=h
 exact⟨A,n,c,rfl,h3,I.le,I.cap,⟨A,n,c,l,rfl,I,h2,h3,J⟩⟩
def zY2(w:WB)(a b:Nat):Ending->WB->Prop:=fun e w'=>∃v v',e=.returned (.tuple #[v,v',.int .i64 0])/\qN w' v (a/b)/\qN w' v' (a%b)/\bW w w'
theorem zVO{v:WE}{a:Nat}(h:LV W m v a)(U:LV W m v' b)(hm:m<=10000)(h0:0<b):Calls prog 85 #[v,v'] W (zY2 W a b):=by
 obtain⟨A,n,c,l,rfl,h1,h2,h3,rfl⟩:=h
 obtain⟨A',n',c',l',rfl,I,J,h3',rfl⟩:=U
 refine(zQC A n c l A' n' c' l' W h1 I h2 J oA oA h0).mono ?_
 rintro e w' ⟨O,n1,c1,l1,A2,n2,c2,l2,rfl,i1,r1,i2,r2,hb⟩
 exact⟨_,_,rfl,⟨O,n1,c1,l1,rfl,i1,r1⟩,⟨A2,n2,c2,l2,rfl,i2,r2⟩,hb⟩
theorem zVP{v:WE}{a:Nat}(h:LV W m v a)(O:LV W m v' b):Calls prog 114 #[v,v'] W fun e w'=>e=.returned (.int .i64 (zAN a b))/\W=w':=by
 obtain⟨A,n,c,l,rfl,U,h2,h3,rfl⟩:=h
 obtain⟨A',n',c',l',rfl,J,I,h3',rfl⟩:=O
 exact zFv A n c l A' n' c' l' W U J h2 I
theorem zTS{c:Nat}{x y:Nat}(h:LV W m (.slice A n c) x)(U:LV W m (.slice A' n' c') y)(hm:m<=10000)(t:WF):
  Calls prog 111 #[.slice (some ⟨W.heap.size,0,none⟩) 2 2] (W.alloc (.cells #[.slice A n c,.slice A' n' c'] t)) (zPO (W.alloc (.cells #[.slice A n c,.slice A' n' c'] t)) (x+y)):=by
 obtain⟨A1,n1,c1,l,e1,h1,h2,h3,rfl⟩:=h
 obtain⟨A2,n2,c2,l',O,I,J,h3',rfl⟩:=U
 cases e1
 cases O
 have:=zFw _ 2 2 _ _ (Rds.two h1 h2 oA I J oA t) fH
 simp only[xY,bP,nG,nN,uN]at this
 exact this.mono fun _ _=>jH.v
def qZ(x:Nat):UF:=.mk' (fun v w=>qN w v x) fun _ _ _ ⟨A,n,c,l,e,h1,h2⟩ k=>⟨A,n,c,l,e,h1,h2.keepU k⟩
def fLV(m x:Nat):UF:=.mk' (fun v w=>LV w m v x) fun _ _ _ ⟨A,n,c,l,e,h1,h2⟩ k=>⟨A,n,c,l,e,h1.keepU k,h2⟩
def fNV(k:Int):UF:=.mk' (fun v w=>NV w v k) fun _ _ _ ⟨A,n,c,l,e,h1,h2⟩ k=>⟨A,n,c,l,e,h1,h2.keepU k⟩
def fUV(m:Nat)(k:Int):UF:=.mk' (fun v w=>UV w m v k) fun _ _ _ ⟨s,A,n,c,l,e,h1,h2⟩ k=>⟨s,A,n,c,l,e,h1.keepU k,h2⟩
def fB(b:Bool):UF:=.eq (.bool b)
def fI(z:Int):UF:=.eq (.int .i64 z)
theorem zLz{l:List Oper}(h:qO F m P w0 ops G o)(k:Obs F m P w0 ops G l):Obs F m P w0 ops G (o::l):=⟨h,k⟩
theorem oc{l:List Oper}(h:qO F m P w0 ops G o)(k:Obs F m P w0 ops G l):Obs F m P w0 ops G (o::l):=⟨h,k⟩
theorem lr:n<=n:=vQ n
theorem arf{α:Sort _}{a:α}{p:Prop}:a≠a->p:=fun e=>absurd rfl e
abbrev zP6:List WE:=[.bool false, sN, sN,.bool false, sN, sN]
abbrev zR3:List WE:=[.bool false, sN, sN]
theorem fmz{α:Type}{p:α->Prop}{a:α}{l:List α}(h:p a/\∀x,x∈l->p x):∀x,x∈a::l->p x:=List.forall_mem_cons.2 h
theorem fU{α:Type}{p:α->Prop}{a:α}{l:List α}(h:p a)(k:∀x,x∈l->p x):∀x,x∈a::l->p x:=List.forall_mem_cons.2 ⟨h,k⟩
theorem fnz{α:Type}{p:α->Prop}:∀x,x∈([]:List α)->p x:=List.forall_mem_nil p
theorem iiz{α β:Type}{p:α->β->Prop}:∀a b,p a b->p a b:=fun _ _ h=>h
theorem mz1{α:Type}{a b0:α}{l:List α}:a∈b0::a::l:=.tail _ (.head _)
theorem mz2{α:Type}{a b0 I:α}{l:List α}:a∈b0::I::a::l:=.tail _ (.tail _ (.head _))
theorem mz3{α:Type}{a b0 I b2:α}{l:List α}:a∈b0::I::b2::a::l:=.tail _ (.tail _ (.tail _ (.head _)))
theorem mz4{α:Type}{a b0 I b2 b3:α}{l:List α}:a∈b0::I::b2::b3::a::l:=.tail _ (.tail _ (.tail _ (.tail _ (.head _))))
theorem mz5{α:Type}{a b0 I b2 b3 J:α}{l:List α}:a∈b0::I::b2::b3::J::a::l:=.tail _ (.tail _ (.tail _ (.tail _ (.tail _ (.head _)))))
theorem mz6{α:Type}{a b0 J b2 b3 O I:α}{l:List α}:a∈b0::J::b2::b3::O::I::a::l:=.tail _ (.tail _ (.tail _ (.tail _ (.tail _ (.tail _ (.head _))))))
theorem mz7{α:Type}{a b0 J b2 b3 U I O:α}{l:List α}:a∈b0::J::b2::b3::U::I::O::a::l:=.tail _ (.tail _ (.tail _ (.tail _ (.tail _ (.tail _ (.tail _ (.head _)))))))
theorem mz8{α:Type}{a b0 J b2 b3 U O b6 I:α}{l:List α}:a∈b0::J::b2::b3::U::O::b6::I::a::l:=.tail _ (.tail _ (.tail _ (.tail _ (.tail _ (.tail _ (.tail _ (.tail _ (.head _))))))))
theorem mz9{α:Type}{a b0 J b2 b3 b4 U b6 I O:α}{l:List α}:a∈b0::J::b2::b3::b4::U::b6::I::O::a::l:=.tail _ (.tail _ (.tail _ (.tail _ (.tail _ (.tail _ (.tail _ (.tail _ (.tail _ (.head _)))))))))
theorem zKe{α:Type}{a b0 J b2 b3 b4 U b6 I O b9:α}{l:List α}:a∈b0::J::b2::b3::b4::U::b6::I::O::b9::a::l:=.tail _ (.tail _ (.tail _ (.tail _ (.tail _ (.tail _ (.tail _ (.tail _ (.tail _ (.tail _ (.head _))))))))))
theorem zSz{α:Type}{a b0 O b2 b3 b4 b5 b6 J U b9 I:α}{l:List α}:a∈b0::O::b2::b3::b4::b5::b6::J::U::b9::I::a::l:=.tail _ (.tail _ (.tail _ (.tail _ (.tail _ (.tail _ (.tail _ (.tail _ (.tail _ (.tail _ (.tail _ (.head _)))))))))))
theorem zRg{α:Type}{a b0 U b2 b3 b4 b5 b6 O b8 b9 I J:α}{l:List α}:a∈b0::U::b2::b3::b4::b5::b6::O::b8::b9::I::J::a::l:=.tail _ (.tail _ (.tail _ (.tail _ (.tail _ (.tail _ (.tail _ (.tail _ (.tail _ (.tail _ (.tail _ (.tail _ (.head _))))))))))))
theorem zSy{α:Type}{a b0 b1 b2 b3 b4 b5 b6 U b8 b9 I J O:α}{l:List α}:a∈b0::b1::b2::b3::b4::b5::b6::U::b8::b9::I::J::O::a::l:=.tail _ (.tail _ (.tail _ (.tail _ (.tail _ (.tail _ (.tail _ (.tail _ (.tail _ (.tail _ (.tail _ (.tail _ (.tail _ (.head _)))))))))))))
theorem zX5{α:Type}{a b0 b1 b2 b3 b4 b5 b6 b7 b8 b9 I J O U:α}{l:List α}:a∈b0::b1::b2::b3::b4::b5::b6::b7::b8::b9::I::J::O::U::a::l:=.tail _ (.tail _ (.tail _ (.tail _ (.tail _ (.tail _ (.tail _ (.tail _ (.tail _ (.tail _ (.tail _ (.tail _ (.tail _ (.tail _ (.head _))))))))))))))
theorem zZf{α:Type}{a b0 b1 b2 b3 b4 b5 b6 b7 b8 b9 J O U h0 I:α}{l:List α}:a∈b0::b1::b2::b3::b4::b5::b6::b7::b8::b9::J::O::U::h0::I::a::l:=.tail _ (.tail _ (.tail _ (.tail _ (.tail _ (.tail _ (.tail _ (.tail _ (.tail _ (.tail _ (.tail _ (.tail _ (.tail _ (.tail _ (.tail _ (.head _)))))))))))))))
theorem zB:Obs F m P w0 ops G []:=trivial
def CF.at(C:CF)(k:Nat):CF:=⟨fun cs w=>∃ds,C.p ds w/\cs=ds.drop k,fun _ _ _ ⟨ds,h1,h2⟩ hb=>⟨ds,C.st _ _ _ h1 hb,h2⟩⟩
abbrev Rw.X(f:UF)(n:Nat):Rw:=.s (wC ((CU.agg f).cf.at n))
abbrev Rw.Y(f:UF):Rw:=.s (wC (cg f))
section
variable {F:Fence}{m:Nat}{P:WH}{w0:WB}{ops:Array Oper}{G:Nat->SF}{d:Tmp}{ty:WF}{pos:String}{aft:Array Edge}
theorem zL{f:Nat}{C:CF}(k:Nat)(J:zDD P s f=some k)(O:∀v W,(fct G x).p v W->(wC C).p v W:=by first|exact fun _ _ h=>h|exact fun _ _ h=>h.2)(I:∀v W,(wC (C.at k)).p v W->(G d).p v W:=by exact fun _ _ h=>h):qO F m P w0 ops G ⟨some d,.fieldAddr s x f,ty,pos,aft,none⟩:=
 zLw (C':=C.at k) k J O (fun cs _ h=>⟨cs,h,rfl⟩) I
theorem qK{f:Nat}{C:CF}(i k:Nat)(J:zDD P s f=some k)(U:∀v W,(fct G x).p v W->(wC (C.at i)).p v W:=by exact fun _ _ h=>h)(I:∀v W,(wC (C.at (i+k))).p v W->(G d).p v W:=by exact fun _ _ h=>h):qO F m P w0 ops G ⟨some d,.fieldAddr s x f,ty,pos,aft,none⟩:=
 zLw (C':=C.at (i+k)) k J U (fun cs _ ⟨ds,O,h2⟩=>⟨ds,O,by rw[h2,List.drop_drop]⟩) I
theorem jP{C:CF}{k:Nat}(I:zD1 P t=true)(O:∀v W,(fct G x).p v W->(wC (C.at k)).p v W:=by exact fun _ _ h=>h)(h:∀cs W,C.p cs W->∃u,cs[k]?=some u/\(G d).p u W):qO F m P w0 ops G ⟨some d,.load t x,ty,pos,aft,none⟩:=
 qE I O fun cs W ⟨ds,J,h2⟩=>let⟨u,h3,h4⟩:=h ds W J;⟨u,by rw[h2,uX];exact h3,h4⟩
theorem zQ{C:CF}{k:Nat}(z:Nat)(I:jR P t=some z)(O:∀v W,(fct G x).p v W->(wC (C.at k)).p v W:=by exact fun _ _ h=>h)(h:∀cs W,C.p cs W->k+z<=cs.length/\(G d).p (.agg ((cs.drop k).take z).toArray) W):qO F m P w0 ops G ⟨some d,.load t x,ty,pos,aft,none⟩:=
 zFA z I O fun cs W ⟨ds,J,h2⟩=>let⟨h3,h4⟩:=h ds W J;⟨by rw[h2,uK];omega,by rw[h2];exact h4⟩
theorem zT(z:Nat)(J:jR P t=some z)(O:∀v W,(fct G x).p v W->(wC (cg f)).p v W:=by first|exact fun _ _ h=>h|exact fun _ _ h=>h.2)(hz:∀cs:List WE,∀W,f.p (.agg cs.toArray) W->cs.length=z)(I:∀v W,f.p v W->(G d).p v W:=by exact fun _ _ h=>h):qO F m P w0 ops G ⟨some d,.load t x,ty,pos,aft,none⟩:=
 zFA z J O fun cs W h=>⟨by rw[hz cs W h];exact vQ _,by
  have h1:=hz cs W h
  rw[nK oA]
  exact I _ _ h⟩
theorem zCK{a:Addr}(O:∀v W,(fct G x).p v W->v=.pointer (some a))(I:∀W,(G d).p (.pointer (some a)) W:=by exact fun _=>rfl):qO F m P w0 ops G ⟨some d,.nilCheck x,ty,pos,aft,none⟩:=
 qG (fun _ e=>by cases e) (fun _ e=>by cases e) fun b W hb J=>by
  have e:=O _ _ (J x (by simp[Op.operands]))
  exact⟨.pointer (some a),by simp[execOp,e],I W⟩
theorem zAj{f:Nat}{o:Nat}(k:Nat)(I:zDD P s f=some k)(O:∀v W,(fct G x).p v W->v= pO b o)(U:∀W,(G d).p (.pointer (some ⟨b,o+k,none⟩)) W:=by exact fun _=>rfl):qO F m P w0 ops G ⟨some d,.fieldAddr s x f,ty,pos,aft,none⟩:=
 qG (fun _ e=>by cases e) (fun _ e=>by cases e) fun c W hb hh=>by
  have e:=O _ _ (hh x (by simp[Op.operands]))
  refine⟨.pointer (some ⟨b,o+k,none⟩),?_,U W⟩
  unfold zDD at I
  split at I<;>try cases I
  rename_i fs hu
  split at I<;>try cases I
  rename_i f' J
  split at I<;>try cases I
  rename_i i hi
  split at I<;>try cases I
  rename_i hz
  simp[execOp,Instr.fieldAt,bI hu,J,e,Instr.sureAddr,fieldPlace,sizeOf,typeInfo,hi,hz,xI]
theorem wG{f g:SF}(h:∀v W,f.p v W->g.p v W):∀e W',Ret W f e W'->Ret W g e W':=fun _ _ ⟨v,e,I,h2⟩=>⟨v,e,h _ _ I,h2⟩
end
theorem jX{xs I:Array WE}(h:Value.agg xs=Value.agg I):xs=I:=by injection h
theorem zP1(h:(fUV m k).p (.agg cs.toArray) W):∃s A n c,cs=[.bool s,.slice A n c]/\∃l,Rd W A n c l/\Lt l/\n<=m/\iv s l=k:=by
 obtain⟨s,A,n,c,l,e,I⟩:=h
 have:=vR Array.toList (jX e)
 exact⟨s,A,n,c,by simpa using this,l,I⟩
theorem zHZ(h:(fNV k).p (.agg cs.toArray) W):∃A n c,cs=[.bool (decide (k<0)),.slice A n c]/\∃l,Is l k.natAbs/\Rd W A n c l:=by
 obtain⟨A,n,c,l,e,I⟩:=h
 have:=vR Array.toList (jX e)
 exact⟨A,n,c,by simpa using this,l,I⟩
theorem zRZ(m:Nat)(k:Int):∀cs:List WE,∀W,(fUV m k).p (.agg cs.toArray) W->cs.length=2:=fun cs W h=>by
 obtain⟨s,A,n,c,rfl,_⟩:=zP1 h
 rfl
theorem zSx(k:Int):∀cs:List WE,∀W,(fNV k).p (.agg cs.toArray) W->cs.length=2:=fun cs W h=>by
 obtain⟨A,n,c,rfl,_⟩:=zHZ h
 rfl
theorem zJm(cs:List WE)(W:WB)(h:(CU.agg (fNV k)).p cs W):∃u,cs[1]?=some u/\qN W u k.natAbs:=by
 obtain⟨A,n,c,rfl,l,I,h2⟩:=zHZ h
 exact⟨_,rfl,A,n,c,l,rfl,I,h2⟩
theorem zOs(cs:List WE)(W:WB)(h:(CU.agg (fNV k)).p cs W):∃u,cs[0]?=some u/\u=.bool (decide (k<0)):=by
 obtain⟨A,n,c,rfl,l,h1,h2⟩:=zHZ h
 exact⟨_,rfl,rfl⟩
theorem zR0{v:WE}(h:(fUV m k).p v W):(CU.agg (fUV m k)).p v.cells.toList W/\v.cells.toList.all zY=true:=by
 obtain⟨s,A,n,c,l,rfl,I⟩:=h
 exact⟨⟨s,A,n,c,l,rfl,I⟩,rfl⟩
theorem zHX(v:WE)(W:WB)(h:(fNV k).p v W):∃vs:List WE,v=.agg vs.toArray/\vs.length=2/\(∀u,u∈vs->u.oneCell'=true)/\vs.all zY=true/\(CU.agg (fNV k)).p vs W:=by
 obtain⟨A,n,c,l,rfl,J⟩:=h
 exact⟨[_,_],rfl,rfl,fun u I=>by simp at I;rcases I with rfl|rfl<;>rfl,rfl,A,n,c,l,rfl,J⟩
theorem NV.nat{v:WE}(h:NV W v k):∃A n c,v=.agg #[.bool (decide (k<0)),.slice A n c]/\qN W (.slice A n c) k.natAbs:=by
 obtain⟨A,n,c,l,rfl,I,h2⟩:=h
 exact⟨A,n,c,rfl,A,n,c,l,rfl,I,h2⟩
theorem zZN(s:Bool)(A:WG Addr)(n c:Nat):prog.built 26 [(0,.bool s),(1,.slice A n c)]=some #[.bool s,.slice A n c]:=fJ
theorem zU3{s:Bool}{v:WE}{x:Nat}(J:u=.bool s)(O:qN W v x)(U:x<BB^m):∃cells,prog.built 26 [(0,u),(1,v)]=some cells/\UV W m (.agg cells) (if s then -(x:Int)else x):=by
 obtain⟨A,n,c,l,rfl,I,h2⟩:=O
 subst J
 refine⟨_,zZN s A n c,s,A,n,c,l,rfl,h2,I.lt,by rw[<-h2.len];exact I.len U,?_⟩
 unfold iv
 rw[I.val]
theorem zVH(s s':Bool)(A A':WG Addr)(n n' c c':Nat):yI prog 109 2 [(0,.agg #[.bool s,.slice A n c]),(1,.agg #[.bool s',.slice A' n' c'])]=some (26,#[.bool s,.slice A n c,.bool s',.slice A' n' c']):=fJ
theorem zBp{v:WE}(hu:UV W m u k)(hv:UV W m v k'):∃e cs,yI prog 109 2 [(0,u),(1,v)]=some (e,cs)/\ISV (W.alloc (.cells cs e)) m (.slice (some ⟨W.heap.size,0,none⟩) 2 2) [k,k']:=by
 obtain⟨s,A,n,c,l,rfl,U,h2,h3,rfl⟩:=hu
 obtain⟨s',A',n',c',l',rfl,I,O,J,rfl⟩:=hv
 exact⟨_,_,zVH s s' A A' n n' c c',ISV.two ⟨s,A,n,c,l,rfl,U,h2,h3,rfl⟩ ⟨s',A',n',c',l',rfl,I,O,J,rfl⟩ _⟩
def zMD(m:Nat)(ks:List Int):SF:=⟨fun v W=>ISV W m v ks,fun _ _ _ h hb=>h.below hb⟩
def zSL(x:Nat):SF:=⟨fun v _=>∃n:Nat,v=.int .i64 n/\(x=0↔n=0),fun _ _ _ h _=>h⟩
section
variable {F:Fence}{m:Nat}{P:WH}{w0:WB}{ops:Array Oper}{G:Nat->SF}{d:Tmp}{ty:WF}{pos:String}{aft:Array Edge}
theorem zC8(ht:P.underlying t=some (.slice (P.elem t)))(h:∀v W,(fct G x).p v W->∃A n c,v=.slice A n c/\(G d).p (.int .i64 (n:Nat)) W):qO F m P w0 ops G ⟨some d,.call ⟨.builtin .len,#[x],#[t]⟩,ty,pos,aft,none⟩:=by
 intro b W K Q hb hr hK
 obtain⟨A,n,c,e,hd⟩:=h _ _ (qB hr (x:=x) (by simp[Op.operands,Call.operands]))
 refine⟨fun f hf=>(by
  unfold Oper.about at hf
  simp[resolve,go_sem]at hf),?_⟩
 rw[bH _ _ _ (fun _ e=>by cases e)]
 have:(execOp b.eval ⟨some d,.call ⟨.builtin .len,#[x],#[t]⟩,ty,pos,aft,none⟩).run P W=.ok (.value (.int .i64 (n:Nat))) W:=by
  simp[execOp,resolve,invoke,builtin,e,pV _ _ _ _ _ _ ht,goInt]
 rw[this]
 exact hK _ _ (fun d' e'=>by cases e';exact hd) (xG _ _)
theorem zEX{k:Nat}(ht:P.underlying t=some (.slice (P.elem t)))(O:∀v W,(fct G x).p v W->qN W v k)(I:∀v W,(zSL k).p v W->(G d).p v W:=by exact fun _ _ h=>h):qO F m P w0 ops G ⟨some d,.call ⟨.builtin .len,#[x],#[t]⟩,ty,pos,aft,none⟩:=
 zC8 ht fun v W h=>by
  obtain⟨A,n,c,l,e,J,h2⟩:=O v W h
  exact⟨A,n,c,e,I _ _ ⟨n,rfl,by rw[<-h2.len];exact J.zero_iff⟩⟩
theorem zUp{op:BinOp}(h:∀u v W,(fct G x).p u W->(fct G y).p v W->∃r,(∀W,(eqGuard op t x y u v).run P W=.ok () W)/\(∀W,(binOp op t u v).run P W=.ok r W)/\(G d).p r W):qO F m P w0 ops G ⟨some d,.binOp op t x y t',ty,pos,aft,none⟩:=
 qG (fun _ e=>by cases e) (fun _ e=>by cases e) fun b W hb I=>by
  obtain⟨r,J,h2,h3⟩:=h _ _ W (I x (by simp[Op.operands])) (I y (by simp[Op.operands]))
  exact⟨r,by simp[execOp,J,h2],h3⟩
theorem zEY{k:Nat}{b:Bool}(hb:b=decide (k=0))(U:∀v W,(fct G x).p v W->(zSL k).p v W:=by exact fun _ _ h=>h)(I:∀W,(G d).p (.bool b) W:=by exact fun _=>rfl):qO F m P w0 ops G ⟨some d,.binOp .eql t x (.const (.int .i64 0)) t',ty,pos,aft,none⟩:=
 zUp fun u v W J O=>by
  obtain⟨n,rfl,h1⟩:=U u W J
  obtain rfl:v=.int .i64 0:=O
  refine⟨.bool b,fun _=>rfl,fun _=>?_,I W⟩
  have h2:((n:Int)==0)=b:=by
   rw[hb,tP]
   simp only[bC,bY]
   omega
  simp only[binOp,Op.intCmp]
  rw[h2]
  rfl
end
def QVp(m:Nat)(k:Int)(d:Nat)(v:WE)(w:WB):Prop:=∃b s t,v=.agg #[b,s,t]/\UV w m (.agg #[b,s]) k/\LV w m t d
def QNp(q:Rat)(v:WE)(w:WB):Prop:=∃b s t,v=.agg #[b,s,t]/\NV w (.agg #[b,s]) q.num/\qN w t q.den
def QMp(m:Nat)(k:Int)(d:Nat)(v:WE)(w:WB):Prop:=∃b s t,v=.agg #[b,s,t]/\NV w (.agg #[b,s]) k/\LV w m t d
def QAp(m:Nat)(sg:Bool)(x:Nat)(d:Nat)(v:WE)(w:WB):Prop:=∃s t,v=.agg #[.bool sg,s,t]/\qN w s x/\LV w m t d
def fQV(m:Nat)(k:Int)(d:Nat):UF:=.mk' (QVp m k d) fun _ _ _ ⟨b,s,t,e,h1,h2⟩ u=>⟨b,s,t,e,(fUV m k).us _ _ _ h1 u,(fLV m d).us _ _ _ h2 u⟩
def fQN(q:Rat):UF:=.mk' (QNp q) fun _ _ _ ⟨b,s,t,e,h1,h2⟩ u=>⟨b,s,t,e,(fNV q.num).us _ _ _ h1 u,(qZ q.den).us _ _ _ h2 u⟩
def fQM(m:Nat)(k:Int)(d:Nat):UF:=.mk' (QMp m k d) fun _ _ _ ⟨b,s,t,e,h1,h2⟩ u=>⟨b,s,t,e,(fNV k).us _ _ _ h1 u,(fLV m d).us _ _ _ h2 u⟩
def fQA(m:Nat)(sg:Bool)(x d:Nat):UF:=.mk' (QAp m sg x d) fun _ _ _ ⟨s,t,e,h1,h2⟩ u=>⟨s,t,e,(qZ x).us _ _ _ h1 u,(fLV m d).us _ _ _ h2 u⟩
theorem zBc{b s t:WE}(h:Value.agg cs.toArray=.agg #[b,s,t]):cs=[b,s,t]:=by
 have:=vR Array.toList (jX h)
 simpa using this
theorem zSn(m:Nat)(k:Int)(d:Nat):∀cs:List WE,∀W,(fQV m k d).p (.agg cs.toArray) W->cs.length=3:=fun cs W ⟨b,s,t,e,_⟩=>by rw[zBc e];rfl
theorem yW(q:Rat):∀cs:List WE,∀W,(fQN q).p (.agg cs.toArray) W->cs.length=3:=fun cs W ⟨b,s,t,e,_⟩=>by rw[zBc e];rfl
theorem zNX(cs:List WE)(W:WB)(h:(CU.agg (fQV m k d)).p cs W):0+2<=cs.length/\UV W m (.agg ((cs.drop 0).take 2).toArray) k:=by
 obtain⟨b,s,t,e,I,_⟩:=h
 rw[zBc e]
 exact⟨fG,I⟩
theorem zI5(cs:List WE)(W:WB)(h:(CU.agg (fQV m k d)).p cs W):∃u,cs[2]?=some u/\LV W m u d:=by
 obtain⟨b,s,t,e,_,I⟩:=h
 rw[zBc e]
 exact⟨t,rfl,I⟩
theorem zVW(cs:List WE)(W:WB)(h:(CU.agg (fQV m k d)).p cs W):∃u,cs[0]?=some u/\∃s:Bool,u=.bool s:=by
 obtain⟨b,s,t,e,⟨s',A,n,c,l,e',_⟩,_⟩:=h
 rw[zBc e]
 have:=vR Array.toList (jX e')
 exact⟨b,rfl,s',by simp at this;exact this.1⟩
theorem zBl(cs:List WE)(W:WB)(h:(CU.agg (fQN q)).p cs W):0+2<=cs.length/\NV W (.agg ((cs.drop 0).take 2).toArray) q.num:=by
 obtain⟨b,s,t,e,I,_⟩:=h
 rw[zBc e]
 exact⟨fG,I⟩
theorem zA8(cs:List WE)(W:WB)(h:(CU.agg (fQN q)).p cs W):∃u,cs[2]?=some u/\qN W u q.den:=by
 obtain⟨b,s,t,e,_,I⟩:=h
 rw[zBc e]
 exact⟨t,rfl,I⟩
theorem zVY(cs:List WE)(W:WB)(h:(CU.agg (fQN q)).p cs W):∃u,cs[1]?=some u/\qN W u q.num.natAbs:=by
 obtain⟨b,s,t,e,I,_⟩:=h
 rw[zBc e]
 exact zJm [b,s] W I
theorem zVX(cs:List WE)(W:WB)(h:(CU.agg (fQN q)).p cs W):∃u,cs[0]?=some u/\u=.bool (decide (q.num<0)):=by
 obtain⟨b,s,t,e,I,_⟩:=h
 rw[zBc e]
 exact zOs [b,s] W I
theorem zLk(cs:List WE)(W:WB)(h:(CU.agg (fQN q)).p cs W):0+3<=cs.length/\QNp q (.agg ((cs.drop 0).take 3).toArray) W:=by
 have h1:=yW q cs W h
 exact⟨oA,by rw[nJ,nK oA];exact h⟩
theorem zV0(cs:List WE)(W:WB)(h:(CU.agg (fQM m k d)).p cs W):∃u,cs[1]?=some u/\qN W u k.natAbs:=by
 obtain⟨b,s,t,e,I,_⟩:=h
 rw[zBc e]
 exact zJm [b,s] W I
theorem zVZ(cs:List WE)(W:WB)(h:(CU.agg (fQM m k d)).p cs W):∃u,cs[2]?=some u/\LV W m u d:=by
 obtain⟨b,s,t,e,_,I⟩:=h
 rw[zBc e]
 exact⟨t,rfl,I⟩
theorem LV.form{v:WE}{x:Nat}(h:LV W m v x):∃A n c,v=.slice A n c:=by
 obtain⟨A,n,c,l,e,_⟩:=h
 exact⟨A,n,c,e⟩
theorem qN.form{v:WE}{x:Nat}(h:qN W v x):∃A n c,v=.slice A n c:=by
 obtain⟨A,n,c,l,e,_⟩:=h
 exact⟨A,n,c,e⟩
theorem UV.form{b s:WE}(h:UV W m (.agg #[b,s]) k):∃sg A n c,b=.bool sg/\s=.slice A n c:=by
 obtain⟨s',A,n,c,l,e,_⟩:=h
 have:=vR Array.toList (jX e)
 simp at this
 exact⟨s',A,n,c,this.1,this.2⟩
theorem NV.form{b s:WE}(h:NV W (.agg #[b,s]) k):∃A n c,b=.bool (decide (k<0))/\s=.slice A n c:=by
 obtain⟨A,n,c,l,e,_⟩:=h
 have:=vR Array.toList (jX e)
 simp at this
 exact⟨A,n,c,this.1,this.2⟩
theorem zET{v:WE}(h:(fQV m k d).p v W):∃sg A n c A' n' c',v=.agg #[.bool sg,.slice A n c,.slice A' n' c']:=by
 obtain⟨b,s,t,rfl,I,h2⟩:=h
 obtain⟨sg,A,n,c,rfl,rfl⟩:=I.form
 obtain⟨A',n',c',rfl⟩:=h2.form
 exact⟨_,_,_,_,_,_,_,rfl⟩
theorem zC5{v:WE}(h:(fQN q).p v W):∃A n c A' n' c',v=.agg #[.bool (decide (q.num<0)),.slice A n c,.slice A' n' c']:=by
 obtain⟨b,s,t,rfl,I,h2⟩:=h
 obtain⟨A,n,c,rfl,rfl⟩:=I.form
 obtain⟨A',n',c',rfl⟩:=h2.form
 exact⟨_,_,_,_,_,_,rfl⟩
theorem zF5{v:WE}(h:(fQV m k d).p v W):(CU.agg (fQV m k d)).p v.cells.toList W/\v.cells.toList.all zY=true:=by
 obtain⟨sg,A,n,c,A',n',c',rfl⟩:=zET h
 exact⟨h,rfl⟩
theorem zLl{v:WE}(h:(fQN q).p v W):(CU.agg (fQN q)).p v.cells.toList W/\v.cells.toList.all zY=true:=by
 obtain⟨A,n,c,A',n',c',rfl⟩:=zC5 h
 exact⟨h,rfl⟩
theorem zIF{sg:Bool}{c:Nat}(u:WE)(I:u∈ [Value.bool sg,.slice A n c,.slice A' n' c']):u.oneCell'=true:=by
 simp at I
 rcases I with rfl|rfl|rfl<;>rfl
theorem zW(v:WE)(W:WB)(h:(fQN q).p v W):∃vs:List WE,v=.agg vs.toArray/\vs.length=3/\(∀u,u∈vs->u.oneCell'=true)/\vs.all zY=true/\(CU.agg (fQN q)).p vs W:=by
 obtain⟨A,n,c,A',n',c',rfl⟩:=zC5 h
 exact⟨[_,_,_],rfl,rfl,zIF,rfl,h⟩
theorem zJ7{v:WE}(h:QNp q v W)(I:QB q m):QVp m q.num q.den v W:=by
 obtain⟨b,s,t,e,J,h2⟩:=h
 exact⟨b,s,t,e,J.uv' I.1,h2.lv I.2⟩
theorem zT7{v:WE}(h:QVp m k d v W)(I:m<=m'):QVp m' k d v W:=by
 obtain⟨b,s,t,e,J,h2⟩:=h
 exact⟨b,s,t,e,J.mono I,h2.mono I⟩
theorem zZL(s:Bool)(A A':WG Addr)(n n' c c':Nat):prog.built 28 [(0,.agg #[.bool s,.slice A n c]),(1,.slice A' n' c')]=some #[.bool s,.slice A n c,.slice A' n' c']:=fJ
theorem zJJ{v:WE}(I:NV W u q.num)(J:qN W v q.den):∃cells,prog.built 28 [(0,u),(1,v)]=some cells/\QNp q (.agg cells) W:=by
 obtain⟨A,n,c,rfl,h1⟩:=I.nat
 obtain⟨A',n',c',rfl⟩:=J.form
 exact⟨_,zZL _ _ _ _ _ _ _,_,_,_,rfl,I,J⟩
theorem zYT:yI prog 24 1 [(0,.int .u32 1)]=some (69,#[.int .u32 1]):=fJ
theorem zSd(J:u=.int .u32 1):∃e cs,yI prog 24 1 [(0,u)]=some (e,cs)/\qN (W.alloc (.cells cs e)) (.slice (some ⟨W.heap.size,0,none⟩) 1 1) 1:=by
 subst J
 refine⟨_,_,zYT,_,1,1, [1],rfl,⟨fun y I=>by simp at I;subst I;decide,fun hn=>fG,?_⟩,Rd.new W [1] _ _ (by simp[zBQ]) fC⟩
 show sm (lm [1]) 1=1
 simp[sm,lm]
theorem zYU(A:WG Addr)(n c:Nat):prog.built 26 [(1,.slice A n c)]=some #[.bool false,.slice A n c]:=fJ
theorem zPA{v:WE}{x:Nat}(J:qN W v x):∃cells,prog.built 26 [(1,v)]=some cells/\NV W (.agg cells) x:=by
 obtain⟨A,n,c,l,rfl,I,h2⟩:=J
 refine⟨_,zYU _ _ _,A,n,c,l,by rw[xZ oA],by rw[rX];exact I,h2⟩
theorem zZM(s:Bool)(A A':WG Addr)(n n' c c':Nat):prog.built 98 [(0,.agg #[.bool s,.slice A n c,.slice A' n' c'])]=some #[.bool s,.slice A n c,.slice A' n' c']:=fJ
theorem zXj{v:WE}(I:QVp m k d v W):∃cells,prog.built 98 [(0,v)]=some cells/\QVp m k d (.agg cells) W:=by
 obtain⟨sg,A,n,c,A',n',c',rfl⟩:=zET I
 exact⟨_,zZM _ _ _ _ _ _ _,I⟩
def QKp(k:Int)(d:Nat)(v:WE)(w:WB):Prop:=∃b s t,v=.agg #[b,s,t]/\NV w (.agg #[b,s]) k/\qN w t d
def fQK(k:Int)(d:Nat):UF:=.mk' (QKp k d) fun _ _ _ ⟨b,s,t,e,h1,h2⟩ u=>⟨b,s,t,e,(fNV k).us _ _ _ h1 u,(qZ d).us _ _ _ h2 u⟩
theorem zV1{v:WE}(h:QKp k d v W)(J:Bd k m)(I:d<BB^m):QVp m k d v W:=by
 obtain⟨b,s,t,e,O,h2⟩:=h
 exact⟨b,s,t,e,O.uv' J,h2.lv I⟩
theorem zV2(cs:List WE)(W:WB)(h:(CU.agg (fQK k d)).p cs W):∃u,cs[2]?=some u/\qN W u d:=by
 obtain⟨b,s,t,e,_,I⟩:=h
 rw[zBc e]
 exact⟨t,rfl,I⟩
theorem zGi{v:WE}{x:Nat}(h:qN W v x):v.cells=#[v]/\v.oneCell'=true/\zY v=true:=by
 obtain⟨A,n,c,rfl⟩:=h.form
 exact⟨rfl,rfl,rfl⟩
theorem zQe(v:WE)(W:WB)(h:(fQN q).p v W):v.cells.size=3/\(∀u,u∈v.cells.toList->u.oneCell'=true)/\v.cells.toList.all zY=true/\∀cs,(CU.agg (fQV m k d)).p cs W->0+3<=cs.length/\(CU.agg (fQN q)).p (jD cs 0 v.cells.toList) W:=by
 obtain⟨A,n,c,A',n',c',rfl⟩:=zC5 h
 refine⟨rfl,zIF,rfl,fun cs I=>?_⟩
 obtain⟨b,s,t,e,_⟩:=I
 rw[zBc e]
 exact⟨fG,h⟩
theorem zTx(v:WE)(W:WB)(h:(fNV k).p v W):v.cells.size=2/\(∀u,u∈v.cells.toList->u.oneCell'=true)/\v.cells.toList.all zY=true/\∀cs,(CU.agg (fQV m k0 d)).p cs W->0+2<=cs.length/\(CU.agg (fQM m k d)).p (jD cs 0 v.cells.toList) W:=by
 obtain⟨A,n,c,rfl,h1⟩:=NV.nat h
 refine⟨rfl,fun u I=>by simp[Value.cells]at I;rcases I with rfl|rfl<;>rfl,rfl,fun cs J=>?_⟩
 obtain⟨b,s,t,e,_,h2⟩:=J
 rw[zBc e]
 exact⟨fG,_,_,t,rfl,h,h2⟩
theorem zJY(v:WE)(W:WB)(h:(fNV k).p v W):v.cells.size=2/\(∀u,u∈v.cells.toList->u.oneCell'=true)/\v.cells.toList.all zY=true/\∀cs,(CU.agg (fQK k0 d)).p cs W->0+2<=cs.length/\(CU.agg (fQK k d)).p (jD cs 0 v.cells.toList) W:=by
 obtain⟨A,n,c,rfl,h1⟩:=NV.nat h
 refine⟨rfl,fun u I=>by simp[Value.cells]at I;rcases I with rfl|rfl<;>rfl,rfl,fun cs J=>?_⟩
 obtain⟨b,s,t,e,_,h2⟩:=J
 rw[zBc e]
 exact⟨fG,_,_,t,rfl,h,h2⟩
theorem zNi{d0:Nat}(v:WE)(W:WB)(h:(qZ d).p v W):v.cells.size=1/\(∀u,u∈v.cells.toList->u.oneCell'=true)/\v.cells.toList.all zY=true/\∀cs,(CU.agg (fQK k d0)).p cs W->2+1<=cs.length/\(CU.agg (fQK k d)).p (jD cs 2 v.cells.toList) W:=by
 obtain⟨U,h2,h3⟩:=zGi h
 rw[U]
 refine⟨rfl,fun u I=>by simp at I;rw[I];exact h2,by simp[h3],fun cs O=>?_⟩
 obtain⟨b,s,t,e,J,_⟩:=O
 rw[zBc e]
 exact⟨fG,b,s,v,rfl,J,h⟩
theorem zVB{x:Nat}(v:WE)(W:WB)(h:(qZ x).p v W):v.cells.size=1/\(∀u,u∈v.cells.toList->u.oneCell'=true)/\v.cells.toList.all zY=true/\∀cs,(CU.agg (fQM m k d)).p cs W->1+1<=cs.length/\(CU.agg (fQA m (decide (k<0)) x d)).p (jD cs 1 v.cells.toList) W:=by
 obtain⟨U,h2,h3⟩:=zGi h
 rw[U]
 refine⟨rfl,fun u I=>by simp at I;rw[I];exact h2,by simp[h3],fun cs O=>?_⟩
 obtain⟨b,s,t,e,J,h5⟩:=O
 obtain⟨A,n,c,rfl,rfl⟩:=J.form
 rw[zBc e]
 exact⟨fG,v,t,rfl,h,h5⟩
theorem zVA{sg:Bool}{x y:Nat}(U:sg=decide (q.num<0))(O:x=q.num.natAbs)(hy:y=q.den)(v:WE)(W:WB)(h:(qZ y).p v W):v.cells.size=1/\(∀u,u∈v.cells.toList->u.oneCell'=true)/\v.cells.toList.all zY=true/\∀cs,(CU.agg (fQA m sg x d)).p cs W->2+1<=cs.length/\(CU.agg (fQN q)).p (jD cs 2 v.cells.toList) W:=by
 obtain⟨h1,h2,h3⟩:=zGi h
 rw[h1]
 refine⟨rfl,fun u I=>by simp at I;rw[I];exact h2,by simp[h3],fun cs hc=>?_⟩
 obtain⟨s,t,e,h4,_⟩:=hc
 rw[zBc e]
 refine⟨fG,.bool sg,s,v,rfl,?_,by rw[<-hy];exact h⟩
 obtain⟨A,n,c,l,rfl,J,g2⟩:=h4
 exact⟨A,n,c,l,by rw[U],by rw[<-O];exact J,g2⟩
def RVp(m:Nat)(q:Rat)(v:WE)(w:WB):Prop:=∃k d,QVp m k d v w/\mkRat k d=q
def fRV(m:Nat)(q:Rat):UF:=.mk' (RVp m q) fun _ _ _ ⟨k,d,h,e⟩ u=>⟨k,d,(fQV m k d).us _ _ _ h u,e⟩
theorem wH{v:WE}(h:QNp q v W)(I:QB q m):RVp m q v W:=⟨_,_,zJ7 h I,sE q⟩
theorem RVp.mono{v:WE}(h:RVp m q v W)(I:m<=m'):RVp m' q v W:=by
 obtain⟨k,d,J,h2⟩:=h
 exact⟨k,d,zT7 J I,h2⟩
theorem RVp.qb{v:WE}(h:RVp m q v W)(I:0<m):QB q m:=by
 obtain⟨k,d,⟨b,s,t,_,J,h2⟩,rfl⟩:=h
 exact vF J.bd h2.bound I
theorem qS(m:Nat)(q:Rat):∀cs:List WE,∀W,(fRV m q).p (.agg cs.toArray) W->cs.length=3:=fun cs W ⟨k,d,h,_⟩=>zSn m k d cs W h
theorem zAm{v:WE}(h:(fRV m q).p v W):(CU.agg (fRV m q)).p v.cells.toList W/\v.cells.toList.all zY=true:=by
 obtain⟨k,d,O,h2⟩:=h
 obtain⟨I,J⟩:=zF5 O
 exact⟨⟨k,d,I,h2⟩,J⟩
theorem zFJ{f:FuncId}(h:Calls P f args W fun e w'=>e=.returned u/\bW W w'):Calls P f args W (Ret W (UF.eq u).tS):=h.mono fun _ _ ⟨I,h2⟩=>⟨u,I,rfl,h2⟩
attribute [local go_sem] Oper.semAt_some qL yG
theorem zZx(k:Int)(h: -9223372036854775808<=k/\k<=9223372036854775807):Calls prog 76 #[.int .i64 k] W (zIz W k):=
 (zKY k h.1 h.2 W).mono fun _ _=>qT.v
def SF.row(z:Nat)(Cs:List CU):SF:=⟨fun v W=>∃A c,v=.slice A Cs.length c/\Cs.length<=c/\c<=9223372036854775807/\(A=none->c=0)/\∀i C,Cs[i]?=some C->∃b o cs,A=some ⟨b,o,none⟩/\Mem W b (o+i*z) cs/\C.p cs W,
 fun _ _ _ ⟨A,c,h1,h2,h3,h4,h5⟩ hb=>⟨A,c,h1,h2,h3,h4,fun i C hi=>let⟨b,o,cs,g1,g2,g3⟩:=h5 i C hi;⟨b,o,cs,g1,g2.below hb,C.us _ _ _ g3 (zR hb)⟩⟩⟩
theorem zCw{l v:WE}{W0:WB}(I:(SF.row z Cs).p l W0)(h:v=l)(hb:bW W0 W):(SF.row z Cs).p v W:=by subst h;exact(SF.row z Cs).st _ _ _ I hb
theorem yM{l:WE}(I:(SF.row z Cs).p l w0)(s:St w0 K B n ds a w)(v:WE)(W:WB)(hb:bW w W)(h:v=l):(SF.row z Cs).p v W:=zCw I h (s.up hb)
def qP(P:WH)(t:WF):WG Nat:=match P.underlying t with
 |some (.slice e)=>(P.info? e).map (·.size)
 |_=>none
section
variable {F:Fence}{m:Nat}{P:WH}{w0:WB}{ops:Array Oper}{G:Nat->SF}{d:Tmp}{ty:WF}{pos:String}{aft:Array Edge}
theorem zCm(hz:qP P t=some z)(hi:Cs[i]?=some C)(hx:∀v W,(fct G x).p v W->(SF.row z Cs).p v W)(hy:∀v W,(fct G y).p v W->v=.int .i64 (i:Int))(hd:∀v W,(wC C.cf).p v W->(G d).p v W:=by exact fun _ _ h=>h):qO F m P w0 ops G ⟨some d,.indexAddr t x y,ty,pos,aft,none⟩:=
 qG (fun _ e=>by cases e) (fun _ e=>by cases e) fun b W hb O=>by
  obtain⟨A,c,e,h2,h3,h4,h5⟩:=hx _ _ (O x (by simp[Op.operands]))
  have e2:=hy _ _ (O y (by simp[Op.operands]))
  obtain⟨b',o,cs,rfl,h6,h7⟩:=h5 i C hi
  have hlt:i<Cs.length:=(bE.1 hi).1
  unfold qP at hz
  split at hz<;>try cases hz
  rename_i e' U
  cases hin:P.info? e' with
  |none=>rw[hin]at hz;cases hz
  |some ie=>
   rw[hin]at hz
   simp only[mA,lX]at hz
   have I:P.elem t=e':=by simp[Program.elem,U]
   refine⟨.pointer (some ⟨b',o+i*z,none⟩),?_,hd _ _ ⟨b',o+i*z,cs,rfl,h7,h6⟩⟩
   have J:(0:Int)<=(i:Int)/\(i:Int)<(Cs.length:Nat):=oA
   simp only[execOp,e,e2]
   rw[cC,tS _ _ _ _ _ _ _ (by rw[I];exact U),if_pos J,I]
   simp[sizeOf,typeInfo,hin,hz,xI]
def SF.imp(c:Prop)(f:SF):SF:=⟨fun v W=>c->f.p v W,fun _ _ _ h hb hc=>f.st _ _ _ (h hc) hb⟩
theorem z5(L:List (Nat×SF))(f:SF)(hL:∀q,q∈L->∀v W,(G q.1).p v W->q.2.p v W)(hd:∀v W,f.p v W->(G d).p v W)(I:(!(zDY ⟨some d,op,ty,pos,aft,none⟩).contains d&& !(L.map (·.1)).contains d)=true)
  (h:qO F m P w0 ops (upd (upd G [(d,f)]) L) ⟨some d,op,ty,pos,aft,none⟩):qO F m P w0 ops G ⟨some d,op,ty,pos,aft,none⟩:=by
 rw[xW]at I
 intro b W K Q hb hr hK
 refine h b W K Q hb (fun t ht=>?_) fun v W' hv hb'=>hK v W' (fun d' e=>?_) hb'
 .have O:Nat.beq d t=false:=by
   cases e:Nat.beq d t with
   |false=>rfl
   |true=>
    have:=cH e
    subst this
    have J:=I.1
    rw[cE.2 ht]at J
    cases J
  have U:∀l:List (Nat×SF),(∀q,q∈l->∀v W,(G q.1).p v W->q.2.p v W)->(upd (upd G [(d,f)]) l t).p (b.tmps.getD t undef) W:=by
   intro l
   induction l with
   |nil=>
    intro _
    show(bif Nat.beq d t then f else G t).p _ _
    rw[O]
    exact hr t ht
   | cons q l ih=>
    intro hl
    show(bif Nat.beq q.1 t then q.2 else upd (upd G [(d,f)]) l t).p _ _
    cases e:Nat.beq q.1 t with
    |true=>
     have e2:=cH e
     exact hl q fC _ _ (by rw[e2];exact hr t ht)
    |false=>exact ih fun x hx=>hl x (by simp[hx])
  exact U L hL
 .cases e
  have J:=hv d rfl
  rw[zAP (by simpa using I.2)]at J
  have h2:(bif Nat.beq d d then f else G d).p v W':=J
  rw[show Nat.beq d d=true from mD d]at h2
  exact hd v W' h2
theorem zA0{b c:Bool}{v:WE}(h:v=.bool c)(e:b=true):v=.bool (b&&c):=by rw[e];exact h
theorem zAe{b c:Bool}{v:WE}(h:v=.bool false)(e:b=false):v=.bool (b&&c):=by rw[e];exact h
theorem zHP{b c:Bool}{v:WE}(h:v=.bool true)(e:b=true):v=.bool (b||c):=by rw[e];exact h
theorem zFy{b c:Bool}{v:WE}(h:v=.bool c)(e:b=false):v=.bool (b||c):=by rw[e];exact h
theorem zI{op:BinOp}(k:IntKind)(u v:Int)(r:Bool)(J:∀q W,(fct G x).p q W->q=.int k u)(hy:∀q W,(fct G y).p q W->q=.int k v)(U:(match op with| .eql=>u==v| .neq=>u !=v| .lss=>decide (u<v)| .leq=>decide (u<=v)| .gtr=>decide (u>v)| .geq=>decide (u≥v)|_=>false)=r)(I:(match op with| .eql| .neq| .lss| .leq| .gtr| .geq=>true|_=>false)=true)(O:∀W,(G d).p (.bool r) W:=by exact fun _=>rfl):qO F m P w0 ops G ⟨some d,.binOp op t x y t',ty,pos,aft,none⟩:=
 zDN (.int k u) (.int k v) (.bool r) J hy (fun W=>by cases op<;>simp[eqGuard]) (fun W=>by
  cases op<;>first
   |exact absurd I Bool.false_ne_true
   |(subst U;simp[binOp,Op.intCmp])) O
theorem yB(k:IntKind)(u v r:Int)(U:∀q W,(fct G x).p q W->q=.int k u)(J:∀q W,(fct G y).p q W->q=.int k v)(O:k.wrap (u+v)=r)(I:∀W,(G d).p (.int k r) W:=by exact fun _=>rfl):qO F m P w0 ops G ⟨some d,.binOp .add t x y t',ty,pos,aft,none⟩:=
 zDN (.int k u) (.int k v) (.int k r) U J (fun W=>by simp[eqGuard]) (fun W=>by simp[binOp,Op.intArith,O]) I
theorem zOq(u v:Int)(hx:∀q W,(fct G x).p q W->q=.int .i64 u)(hy:∀q W,(fct G y).p q W->q=.int .i64 v)(hd:∀W,(G d).p (.int .i64 (min u v)) W:=by exact fun _=>rfl):qO F m P w0 ops G ⟨some d,.call ⟨.builtin .min,#[x,y],ats⟩,ty,pos,aft,none⟩:=by
 intro b W K Q hb hr hK
 have e1:=hx _ _ (qB hr (x:=x) (by simp[Op.operands,Call.operands]))
 have e2:=hy _ _ (qB hr (x:=y) (by simp[Op.operands,Call.operands]))
 refine⟨fun f hf=>(by
  unfold Oper.about at hf
  simp[resolve,go_sem]at hf),?_⟩
 rw[bH _ _ _ (fun _ e=>by cases e)]
 have:(execOp b.eval ⟨some d,.call ⟨.builtin .min,#[x,y],ats⟩,ty,pos,aft,none⟩).run P W=.ok (.value (.int .i64 (min u v))) W:=by
  have h:min u v=if v<u then v else u:=by split<;>omega
  simp[execOp,resolve,invoke,builtin,e1,e2,Builtin.min_,Builtin.min2,h]
 rw[this]
 exact hK _ _ (fun d' e'=>by cases e';exact hd _) (xG _ _)
theorem zGd(ht:P.underlying t=some (.slice (P.elem t)))(J:∀v W,(fct G x).p v W->(SF.row z Cs).p v W:=by exact fun _ _ h=>h)(I:∀W,(G d).p (.int .i64 (Cs.length:Nat)) W:=by exact fun _=>rfl):qO F m P w0 ops G ⟨some d,.call ⟨.builtin .len,#[x],#[t]⟩,ty,pos,aft,none⟩:=
 zC8 ht fun v W h=>by
  obtain⟨A,c,e,_⟩:=J v W h
  exact⟨A,Cs.length,c,e,I W⟩
end
section
variable {S:Nat->Prop}{F:Fence}{m:Nat}{P:WH}{Q:Exit->Act->WB->Prop}{w0:WB}{K:List (Nat×KF)}{B:List Bx}{n:Nat}{ds:List Deferred}{a:Act}{w:WB}
end
theorem zT2{v:WE}(h:UV W m v k)(hm:m<=90000):Calls prog 72 #[v] W (zIz W (-k)):=by
 obtain⟨s,A,n,c,l,rfl,I,h2,h3,rfl⟩:=h
 exact(zI1 s A n c l W I h2 oA).mono fun _ _=>qT.v
theorem zHL{v:WE}(h:UV W m v k)(hm:m<=90000):Calls prog 69 #[v] W (zIz W k):=by
 obtain⟨s,A,n,c,l,rfl,I,h2,h3,rfl⟩:=h
 exact(zAD s A n c l W I h2 oA).mono fun _ _=>qT.v
theorem zLi{v:WE}(h:UV W m v k)(hm:m<=90000):Calls prog 41 #[v] W fun e w'=>e=.returned (.int .i64 k.sign)/\bW W w':=by
 obtain⟨s,A,n,c,l,rfl,I,h2,h3,rfl⟩:=h
 exact zMp s A n c l W I h2 oA
theorem zT1{v:WE}(h:UV W m v k)(U:UV W m v' k')(hm:m<=90000):Calls prog 73 #[v,v'] W (zIz W (k-k')):=by
 obtain⟨s,A,n,c,l,rfl,h1,h2,h3,rfl⟩:=h
 obtain⟨s',A',n',c',l',rfl,I,O,J,rfl⟩:=U
 exact(zNR s A n c l s' A' n' c' l' W h1 h2 I O m h3 J hm).mono fun _ _=>qT.v
theorem zVV(k:Int)(h: -9223372036854775808<=k/\k<=9223372036854775807):Calls prog 38 #[.int .i64 k] W (zIz W k):=
 (zLj k h.1 h.2 W).mono fun _ _=>qT.v
theorem zT4{v:WE}(h:ISV W m v ks)(hm:m<=2000)(hn:ks.length<=1000)(hk:ks.sum=k):Calls prog 70 #[v] W (zIz W k):=by
 obtain⟨is,U,h2⟩:=h
 have hl:is.length=ks.length:=by rw[<-h2,bF]
 obtain⟨A,c,e,h3,O,J⟩:=U
 have hb:∀j,j<=is.length->(zEL is j).natAbs<BB^(m+1000):=by
  intro j hj
  have I:∀j,Bd (zEL is j) (m+j):=by
   intro j
   induction j with
   |zero=>exact uO qC
   |succ j ih=>
    have e1:zEL is (j+1)=zEL is j+zE0 is j:=rfl
    rw[e1]
    exact(ih.add ((show Bd (zE0 is j) m from zIa J j).mono oA)).mono oA
  exact(I j).mono oA
 have:=zT5 (m+1000) (⟨A,c,e,h3,O,J⟩:IS W m v is) oA oA oA hb
 rw[zGm is is.length (vQ _),rT,h2,hk]at this
 exact this
theorem zES{v:WE}(h:ISV W m v ks)(hn:m*ks.length+m+1<=40000)(I:ks.foldl (·*·) 1=k)(hl:ks.length<=1000):Calls prog 56 #[v] W (zIz W k):=by
 obtain⟨is,U,h2⟩:=h
 have hl2:is.length=ks.length:=by rw[<-h2,bF]
 obtain⟨A,c,e,h3,O,J⟩:=U
 have:=zT3 (m*ks.length+m+1) (⟨A,c,e,h3,O,J⟩:IS W m v is) oA oA oA (fun k I=>(zIg J k).mono (by
  have:m*k<=m*ks.length:=uS _ oA
  omega))
 rw[zE1 is is.length (vQ _),rT,h2,I]at this
 exact this
section
variable {S:Nat->Prop}{w0:WB}{K:List (Nat×KF)}{B:List Bx}{n:Nat}{ds:List Deferred}{a:Act}{w:WB}
theorem zN{c:Prop}{f:SF}{v:WE}(e:c)(h:(SF.imp c f).p v W):f.p v W:=h e
variable {F:Fence}{m:Nat}{P:WH}{ops:Array Oper}{Q:Exit->Act->WB->Prop}
end
theorem zGl{p:Nat->Prop}:∀n,p n->∃s,p s/\∀k,k<s-> ¬p k:=by
 intro n
 induction n using Nat.strongRecOn with
 | _ n ih=>
  intro O
  by_cases h:∃k,k<n/\p k
  .obtain⟨k,I,J⟩:=h
   exact ih k I J
  .exact⟨n,O,fun k I J=>h ⟨k,I,J⟩⟩
section
variable {S:Nat->Prop}{F:Fence}{m:Nat}{P:WH}{Q:Exit->Act->WB->Prop}{w0:WB}{K:List (Nat×KF)}{B:List Bx}{n:Nat}{ds:List Deferred}{a:Act}{w:WB}
theorem zKW{σ:Type}{c:Code}(I:σ->Prop)(O:σ->List (Nat×KF))(U:σ->List Bx)(Df:σ->List Deferred)(J:σ->Nat)(x0:σ)(hI:I x0)(h0:StS S w0 (O x0) (U x0) n (Df x0) a w)
  (round:∀x a w,I x->StS S w0 (O x) (U x) n (Df x) a w->c.wpIn F m P (Exit.then (fun a' w'=>∃y,I y/\J y<J x/\StS S w0 (O y) (U y) n (Df y) a' w') Q) a w):(Code.loop c).wpIn F m P Q a w:=by
 have low:∀a w,(∃k,∃x,I x/\J x=k/\StS S w0 (O x) (U x) n (Df x) a w)->∃k,(∃x,I x/\J x=k/\StS S w0 (O x) (U x) n (Df x) a w)/\∀j,j<k-> ¬ ∃x,I x/\J x=j/\StS S w0 (O x) (U x) n (Df x) a w:=
  fun a w ⟨k,hk⟩=>zGl k hk
 open Classical in
 refine wpIn_loop (fun a w=>∃k,∃x,I x/\J x=k/\StS S w0 (O x) (U x) n (Df x) a w) (fun a w=>if h:∃k,∃x,I x/\J x=k/\StS S w0 (O x) (U x) n (Df x) a w then Classical.choose (low a w h)else 0) ⟨_,x0,hI,rfl,h0⟩ ?_
 rintro a w hA
 have e0:=tQ (low a w hA)
 obtain⟨x,hx,hm,h7⟩:=e0.1
 refine cW ?_ (round x a w hx h7)
 intro e a' w' h
 cases e with
 |normal=>
  obtain⟨y,h1,h2,h3⟩:∃y,I y/\J y<J x/\StS S w0 (O y) (U y) n (Df y) a' w':=h
  have h5:∃k,∃x,I x/\J x=k/\StS S w0 (O x) (U x) n (Df x) a' w':=⟨_,y,h1,rfl,h3⟩
  refine⟨h5,?_⟩
  simp only[dif_pos hA,dif_pos h5]
  have e1:=tQ (low a' w' h5)
  have:Classical.choose (low a' w' h5)<=J y:=Nat.not_lt.1 fun h8=>e1.2 _ h8 ⟨y,h1,rfl,h3⟩
  omega
 |_=>exact h
theorem zB4{σ:Type}{c:Code}(t:Nat)(O:σ->CU)(I:σ->Prop)(J:σ->List (Nat×KF))(mu:σ->Nat)(U:σ)(hI:I U)(h0:StS S w0 (J U) B n ds a w)(hB:zFh B t (O U)=B)
  (round:∀x a w,I x->StS S w0 (J x) (zFh B t (O x)) n ds a w->c.wpIn F m P (Exit.then (fun a' w'=>∃y,I y/\mu y<mu x/\StS S w0 (J y) (zFh B t (O y)) n ds a' w') Q) a w):(Code.loop c).wpIn F m P Q a w:=
 zKW I J (fun x=>zFh B t (O x)) (fun _=>ds) mu U hI (by rw[hB];exact h0) round
theorem zAs{σ:Type}{c:Code}(I:σ->Prop)(J:σ->List (Nat×KF))(O:σ->Nat)(U:σ)(hI:I U)(h0:StS S w0 (J U) B n ds a w)
  (round:∀x a w,I x->StS S w0 (J x) B n ds a w->c.wpIn F m P (Exit.then (fun a' w'=>∃y,I y/\O y<O x/\StS S w0 (J y) B n ds a' w') Q) a w):(Code.loop c).wpIn F m P Q a w:=
 zKW I J (fun _=>B) (fun _=>ds) O U hI h0 round
theorem StS.popB{x:Bx}(h:StS S w0 K (x::B) n ds a w):StS S w0 K B n ds a w:=⟨h.gr,h.size,h.nd,h.sl,h.bx.2,h.mks,h.so⟩
theorem StS.renew(h:St w0 K B n ds a w)(J:List (Nat×KF))(U:∀q,q∈J->q∈K∨ ∃g,q.2=KF.u g/\(q.1,KF.o g.tS)∈K):St w0 J B n ds a w:=
 ⟨h.gr,h.size,h.nd,fun q O=>by
  rcases U q O with I|⟨g,e,I⟩
  .exact h.sl q I
  .have:=h.sl _ I
   rw[e]
   exact g.us _ _ _ this (zR h.gr.below),h.bx,h.mks,.inr fun _ h=>h⟩
end
structure NewB where
 i:Nat
 d:Nat
 e:WF
 cs:List WE
 f:SF
def SF.isIn(f:SF)(L:List (Nat×SF))(d:Nat):Prop:=(d,f)∈L
def zPS(al:List NewB)(a:Act):Prop:=∀q q',q∈al->q'∈al->q.i≠q'.i->∀b b',blk (a.tmps.getD q.d undef)=some b->blk (a.tmps.getD q'.d undef)=some b'->b≠b'
section
variable {S:Nat->Prop}{w0:WB}{K:List (Nat×KF)}{B:List Bx}{n:Nat}{ds:List Deferred}{a:Act}{w:WB}{F:Fence}{m:Nat}{P:WH}{ops:Array Oper}{Q:Exit->Act->WB->Prop}
theorem zAK(I:∀W,C.p cs W)(O:cs.all zY=true)(v:WE)(w:WB)(h:(SF.own W te cs).p v w):(wJ W te C).p v w:=by
 obtain⟨b,J,h2,h3⟩:=h
 exact⟨b,cs,J,h2,h3,I w,O⟩
theorem StS.adoptA(h:StS S w0 K B n ds a w){W:WB}{te:WF}{C:CU}(r:Bool)(t:Nat)(hv:(wJ W te C).p (a.tmps.getD t undef) w)(hW:BlS S w0 W)(J:∀y,y∈B->y.b<W.heap.size∨(r=true/\y.r=true)∨ ∀b,blk (a.tmps.getD t undef)=some b->y.b≠b):∃b,W.heap.size<=b/\blk (a.tmps.getD t undef)=some b/\StS S w0 K (⟨t,te,C,b,r⟩::B) n ds a w:=by
 obtain⟨b,cs,I,h2,h3,O,U⟩:=hv
 refine⟨b,h2,by rw[I];rfl,h.gr,h.size,h.nd,h.sl,⟨⟨cs,I,.inr (.inl (xR hW.size h2)),h3,O,U,fun y hy=>?_⟩,h.bx⟩,h.mks,h.so⟩
 rcases J y hy with e|e|e
 .left
  show y.b≠b
  omega
 .exact .inr e
 .exact .inl (e b (by rw[I];rfl))
end
/-! ### Answers of a function that ranges over functions -/
theorem zOf{B:Nat}(h:Oth B W W'){cs:Array WE}{t:WF}{z:Nat×Nat}(J:W.heap[b]?=some (.cells cs t z)):W'.heap[b]?=some (.cells cs t z):=by
 rcases h.block b with e|⟨_,⟨o,I,O⟩,_⟩
 .exact e.trans J
 .rw[J]at I
  cases I
  cases O
section
variable {S:Nat->Prop}{F:Fence}{m:Nat}{P:WH}{Q:Exit->Act->WB->Prop}{w0:WB}{K:List (Nat×KF)}{B:List Bx}{n:Nat}{ds:List Deferred}{a:Act}{w:WB}
theorem StS.resM(h:St w0 K B n ds a w){fn:Func}{f:SF}{v:WE}(O:∀w',Oth w0.heap.size w w'->(results fn a.tmps).run P w'=.ok v w')(U:∀w',Oth w0.heap.size w w'->f.p v w'):bodyPostM Fence.wide 0 P fn (Ret w0 f) .ret a w:=by
 obtain⟨Ds,J⟩:=h.mks
 show LeavesInM Fence.wide 0 P fn a.tmps (Ret w0 f) a.defers .returning w
 rw[h.nd]
 exact qH w O Ds _ w J (Oth.refl _ _) fun w' I=>⟨v,rfl,U w' I,zAh h.gr.below I lr⟩
def inB(B:List Bx)(k:Nat):Prop:=∃x,x∈B/\x.b=k/\x.r=false
structure Itr(N:Nat)(W W':World):Prop where
 os:W'.os=W.os
 tape:W'.tape=W.tape
 output:W'.output=W.output
 size:W.heap.size<=W'.heap.size
 low:∀k:Nat,k<N->W'.heap[k]?=W.heap[k]?
 oth:∀(k:Nat) (o:Obj),W.heap[k]?=some o->o.isCells=false->W'.heap[k]?=some o
 keep:y7 W W'
def Ev(Ef:Nat->List UF)(k:Nat)(xs:Array WE)(W:WB):Prop:=xs.size=(Ef k).length/\∀(j:Nat) (f:UF),(Ef k)[j]?=some f->f.p (xs.getD j undef) W
theorem vG{S':Nat->Prop}{w1 W W':WB}{a1:Act}:∀(B B':List Bx),B'.map (fun x=>(x.t,x.e,x.b,x.r))=B.map (fun x=>(x.t,x.e,x.b,x.r))->yT S w0 a W B->yT S' w1 a1 W' B'->yT S w0 a W' B'
 | [], [],_,_,_=>trivial
 | [],_::_,e,_,_=>by cases e
 |_::_, [],e,_,_=>by cases e
 |x::B,x'::B',e,h,h'=>by
  simp only[xY,tN,tL]at e
  obtain⟨⟨e1,e2,I,e4⟩,J⟩:=e
  obtain⟨⟨cs,h1,h2,_⟩,hr⟩:=h
  obtain⟨⟨cs',_,_,U,g4,g5,O⟩,gr⟩:=h'
  exact⟨⟨cs',by rw[e1,I];exact h1,by rw[I,e4];exact h2,U,g4,g5,O⟩,vG B B' J hr gr⟩
theorem wR{S':Nat->Prop}{w1 W:WB}{J:Act}:∀(B:List Bx),(∀x,x∈B->x.r=true∨w1.heap.size<=x.b∨S' x.b)->(∀x,x∈B->J.tmps.getD x.t undef=a.tmps.getD x.t undef)->yT S w0 a W B->yT S' w1 J W B
 | [],_,_,_=>trivial
 |x::B,hS,hsl,h=>by
  obtain⟨⟨cs,O,_,h3⟩,U⟩:=h
  exact⟨⟨cs,(hsl x (bV ..)).trans O,hS x (bV ..),h3⟩,wR B (fun y I=>hS y (bZ _ I)) (fun y I=>hsl y (bZ _ I)) U⟩
theorem wO{W W':WB}(I:y7 W W'):∀(B:List Bx),(∀x,x∈B->W'.heap[x.b]?=W.heap[x.b]?)->yT S w0 a W B->yT S w0 a W' B
 | [],_,_=>trivial
 |x::B,hs,h=>by
  obtain⟨⟨cs,O,h2,h3,J,h5⟩,U⟩:=h
  exact⟨⟨cs,O,h2,(hs x (bV ..)).trans h3,x.c.us _ _ _ J I,h5⟩,wO I B (fun y hy=>hs y (bZ _ hy)) U⟩
theorem zCD{z:Nat×Nat}(h3:W.heap[b]?=some (.cells cs.toArray t z))(h5:cs.all zY=true){q:Addr}(J:q.block=b){u:WE}(I:W.cell? q=some u):zY u=true:=by
 have O:W.cell? q=if q.spot.isSome then none else cs.toArray[q.off]?:=by
  unfold World.cell?
  rw[J,h3]
 rw[O]at I
 split at I
 .cases I
 .exact xT.1 h5 _ (mJ (by simpa using I))
theorem zBA{o:Obj}(h:W.heap[b]?=some o)(J:o.isCells=false){q:Addr}(I:q.block=b):W.cell? q=none:=zEK (a:=q) (by rw[I];exact h) J
theorem StS.itr(h:StS S w0 K B n ds a w){N:Nat}{w':WB}(hi:Itr N w w')(hN:w0.heap.size<=N)(O:∀x,x∈B->x.b<N):StS S w0 K B n ds a w':=
 ⟨⟨hi.os.trans h.gr.os,hi.tape.trans h.gr.tape,hi.output.trans h.gr.output,xR h.gr.size hi.size,fun k I hs=>(hi.low k (vV I hN)).trans (h.gr.block k I hs)⟩,h.size,h.nd,fun q hq=>KF.us (h.sl q hq) hi.keep,
  wO hi.keep B (fun x hx=>hi.low _ (O x hx)) h.bx,h.mks.imp fun _ U=>U.keep fun k o J hc=>hi.oth k o J hc,h.so⟩
theorem StS.put(h:StS S w0 K B n ds a w){l:Nat}{o o':Obj}(ho:w.heap[l]?=some o)(hc:o.isCells=false)(hD:∀Ds,Marks w0.heap.size w ds Ds->l ∉ Ds)(O:S l∨w0.heap.size<=l):StS S w0 K B n ds a (w.putObj l o'):=by
 have hk:y7 w (w.putObj l o'):=fun q u J=>by
  by_cases e:q.block=l
  .rw[zBA ho hc e]at J
   cases J
  .exact(bQ (bO e)).trans J
 refine⟨⟨h.gr.os,h.gr.tape,h.gr.output,by rw[eK];exact h.gr.size,fun k h0 hs=>(bO (fun e=>?_)).trans (h.gr.block k h0 hs)⟩,h.size,h.nd,fun q J=>KF.us (h.sl q J) hk,wO hk B (fun x hx=>bO fun e=>?_) h.bx,?_,h.so⟩
 .subst e
  rcases O with O|O
  .exact hs O
  .omega
 .obtain⟨cs,_,_,h3,_⟩:=h.bx.mem x hx
  rw[e,ho]at h3
  cases h3
  cases hc
 .obtain⟨Ds,I⟩:=h.mks
  refine⟨Ds,I.eq,I.nodup,fun D U=>⟨(I.at_ D U).1,(bO fun e=>?_).trans (I.at_ D U).2⟩⟩
  subst e
  exact hD Ds I U
/-! ### The values that a round is handed -/
theorem zFL:∀(L:List (Nat×WE)) (t:Array WE),(L.foldl (fun t (p,v)=>t.setIfInBounds p v) t).size=t.size
 | [],_=>rfl
 |_::L,t=>by rw[eQ,zFL L];simp
theorem zCd(q:Nat):∀(L:List (Nat×WE)) (t:Array WE),q ∉ L.map (·.1)->(L.foldl (fun t (p,v)=>t.setIfInBounds p v) t).getD q undef=t.getD q undef
 | [],_,_=>rfl
 |(p,v)::L,t,h=>by
  rw[xY,xS,not_or]at h
  rw[eQ,zCd q L _ h.2]
  exact zB9 (fun e=>h.1 e.symm)
theorem zIA:∀(L:List (Nat×WE)) (t:Array WE) (p:Nat) (v:WE),(L.map (·.1)).Nodup->(p,v)∈L->p<t.size->(L.foldl (fun t (p,v)=>t.setIfInBounds p v) t).getD p undef=v
 | (p',v')::L,t,p,v,hn,I,ht=>by
  rw[xY,bU]at hn
  rw[eQ]
  rcases xS.1 I with e|I
  .cases e
   rw[zCd _ L _ hn.1]
   simp[xV,ht]
  .exact zIA L _ p v hn.2 I (by simpa using ht)
theorem BlS.sub{S':Nat->Prop}(h:BlS S w w')(U:∀k,S k->S' k):BlS S' w w':=⟨h.os,h.tape,h.output,h.size,fun k J I=>h.block k J fun O=>I (U k O)⟩
theorem zJs:∀{Ds Ds':List Nat},Ds.map mark=Ds'.map mark->Ds=Ds'
 | [], [],_=>rfl
 | [],_::_,e=>by cases e
 |_::_, [],e=>by cases e
 |D::Ds,D'::Ds',e=>by
  simp only[xY,tN]at e
  rw[zJs e.2,show D=D' from by simpa[mark]using e.1]
theorem StS.rebase(h:StS S w0 K B n [] a w)(hk:y7 w w')(U:∀q,w0.heap.size<=q->S q)(hb:∀x,x∈B->w'.heap[x.b]?=w.heap[x.b]?):StS S w' K B n [] a w':=by
 have J:∀q,q∈K->∃f,q.2=.u f:=by
  rcases h.so with J|hs
  .exact J
  .exact absurd (U w0.heap.size lr) (hs _)
 refine⟨BlS.refl _ _,h.size,h.nd,fun q O=>?_,wO hk B hb (wR B (fun x hx=>?_) (fun _ _=>rfl) h.bx),⟨[],Marks.nil _ _⟩,.inl J⟩
 .obtain⟨f,e⟩:=J q O
  have:=h.sl q O
  rw[e]at this ⊢
  exact f.us _ _ _ this hk
 .obtain⟨_,_,I,_⟩:=h.bx.mem x hx
  rcases I with I|I|I
  .exact .inl I
  .exact .inr (.inr (U _ I))
  .exact .inr (.inr I)
theorem jJ:∀{l:List Nat},zAf l=true->l.Nodup
 | [],_=>List.nodup_nil
 |x::l,h=>by
  unfold zAf at h
  rw[xW]at h
  refine bU.2 ⟨fun I=>?_,jJ h.2⟩
  rw[cE.2 I]at h
  exact absurd h.1 fH
/-! ### The range -/
def zJP:KF->Bool
 | .u _=>true
 | .o _=>false
def zZc(R1:Act->WB->Prop)(cz:Code)(R2:Act->WB->Prop):Exit->Act->WB->Prop
 | .normal,a,W=>R1 a W
 | .exit id,a,W=>cz=.exit id/\R2 a W
 | .ret,a,W=>cz=.ret/\R2 a W
 | .goto t,a,W=>cz=.goto t/\R2 a W
 | .panic _,_,_=>False
 | .outgrown,_,_=>False
abbrev zGC(x:Bx):Nat×WF×Nat×Bool:=(x.t,x.e,x.b,x.r)
theorem zKn(e:B'.map zGC=B.map zGC){k:Nat}(h:inB B' k):inB B k:=by
 obtain⟨x,U,O,h2⟩:=h
 have:zGC x∈B.map zGC:=by rw[<-e];exact xH.2 ⟨x,U,rfl⟩
 obtain⟨y,J,I⟩:=xH.1 this
 simp only[zGC,tL]at I
 exact⟨y,J,I.2.2.1.trans O,I.2.2.2.trans h2⟩
theorem zKC(e:B'.map zGC=B.map zGC){x:Bx}(O:x∈B'):∃y,y∈B/\y.t=x.t/\y.b=x.b/\y.r=x.r:=by
 have:zGC x∈B.map zGC:=by rw[<-e];exact xH.2 ⟨x,O,rfl⟩
 obtain⟨y,J,I⟩:=xH.1 this
 simp only[zGC,tL]at I
 exact⟨y,J,I.1,I.2.2.1,I.2.2.2⟩
theorem StS.more(h:StS S w0 K B n ds a w){D:Nat}(O:w0.heap.size<=D)(J:w.heap[D]?=some (.deferred (some [])))(hn:∀Ds,Marks w0.heap.size w ds Ds->D ∉ Ds):StS S w0 K B n (mark D::ds) { a with defers:=mark D::a.defers } w:=
 ⟨h.gr,h.size,by rw[h.nd],h.sl,wR (a:=a) B (fun x U=>(h.bx.mem x U).elim fun _ hh=>hh.2.1) (fun _ _=>rfl) h.bx,(h.mks.elim fun Ds I=>⟨D::Ds,I.more (hn Ds I) O J⟩),h.so⟩
end
section
variable {F:Fence}{n:Nat}{P:WH}{ops:Array Oper}{Q:Exit->Act->WB->Prop}
def zDm(ops:Array Oper)(i:Nat):Array Bool:=((List.range ops.size).map fun j=>zDO ops ops.size j i).toArray
theorem zRx{listed:Array Bool}(O:∀j,j<ops.size->zDO ops ops.size j i=true->listed.getD j true=true)(h:Region.free .any ops (zDm ops i) i=true):Region.free .any ops listed i=true:=by
 unfold Region.free at h ⊢
 split at h
 .exact h
 .refine xT.2 fun j I=>?_
  have J:=xT.1 h j I
  have h2:(zDm ops i).getD j true=zDO ops ops.size j i:=by
   unfold zDm
   rw[xV]
   simp[xU.1 I]
  rw[h2]at J
  cases hc:zDO ops ops.size j i with
  |true=>rw[O j (xU.1 I) hc,Bool.or_true,tR]
  |false=>
   rw[hc,Bool.or_false]at J
   rw[Bool.or_assoc,Bool.or_comm (listed.getD j true),<-Bool.or_assoc,J,tR]
theorem zOY{K:Act->WB->Prop}(O:ops[i]?=some o)(I:zEC ops i=true)(h:wpOpIn F n P ops (jW Q) i K a w):∃d v,o.dst=some d/\zAk P ops (fun _=>True) o v a/\K (a.put (some d) v) w:=by
 unfold zEC at I
 rw[O]at I
 unfold wpOpIn at h
 rw[O]at h
 split at I
 .rename_i d x ty pos aft J
  cases J
  refine⟨d,a.eval x,rfl,⟨.inl ⟨rfl,fun w _=>rfl⟩,fun w=>rfl⟩,?_⟩
  have h2:=h.2
  rw[bH _ _ _ (fun _ e=>by cases e)]at h2
  exact h2
 .rename_i d x j ty pos aft J
  cases J
  have h2:=h.2
  rw[bH _ _ _ (fun _ e=>by cases e)]at h2
  cases hrun:(Instr.extract (a.eval x) j).run P w with
  |halt y w'=>
   have J:(execOp a.eval ⟨some d,.extract x j,ty,pos,aft,none⟩).run P w=.halt y w':=by simp[execOp,hrun]
   rw[J]at h2
   cases y<;>exact h2.elim
  | ok v w'=>
   have U:w'=w:=by
    unfold Instr.extract at hrun
    split at hrun
    .split at hrun
     .simp at hrun;exact hrun.2.symm
     .simp at hrun
    .simp at hrun
   subst U
   have J:(execOp a.eval ⟨some d,.extract x j,ty,pos,aft,none⟩).run P w'=.ok (.value v) w':=by simp[execOp,hrun]
   rw[J]at h2
   exact⟨d,v,rfl,⟨.inl ⟨rfl,fun w _=>by simp[execOp,zC1 _ _ _ w hrun]⟩,fun w=>rfl⟩,h2⟩
 .cases I
theorem zMb{v:WE}{K:Act->WB->Prop}(O:ops[i]?=some o)(J:zAE ops=true)(hy:zAk P ops CW o v a)(hw:CW w)(h:wpOpIn F n P ops Q i K a w):K (a.put o.dst v) w:=by
 unfold wpOpIn at h
 simp only[O]at h
 rcases hy.1 with⟨I,U⟩|⟨I,rfl⟩
 .simp only[I,cG,Oper.wpIn,bH _ _ _ (zCJ J O),U w hw,Oper.uponIn]at h
  exact h.2
 .simp only[I,xL,xJ]at h
  exact h.2
end
def inL:List Nat->Nat->Bool
 | [],_=>false
 |k::l,i=>bif Nat.beq k i then true else inL l i
theorem zGn(l m:List Nat)(i:Nat):inL (l++m) i=(inL l i||inL m i):=by
 induction l with
 |nil=>rfl
 |cons k l ih=>
  show(bif Nat.beq k i then true else inL (l++m) i)=((bif Nat.beq k i then true else inL l i)||inL m i)
  cases Nat.beq k i with
  |true=>rfl
  |false=>exact ih
theorem zKm{l:List Nat}(h:inL l i=true):i∈l:=by
 induction l with
 |nil=>cases h
 |cons k l ih=>
  have h:(bif Nat.beq k i then true else inL l i)=true:=h
  cases e:Nat.beq k i with
  |true=>rw[cH e];exact bV ..
  |false=>rw[e]at h;exact bZ _ (ih h)
theorem zOU{l:List Nat}(h:i∈l):inL l i=true:=by
 induction l with
 |nil=>cases h
 |cons k l ih=>
  show(bif Nat.beq k i then true else inL l i)=true
  rcases xS.1 h with rfl|h
  .rw[mD];rfl
  .rw[ih h];cases Nat.beq k i<;>rfl
def lst(n:Nat)(D:List Nat):Array Bool:=((List.range n).map (inL D)).toArray
theorem zFF(n:Nat)(D:List Nat):(lst n D).size=n:=by simp[lst]
theorem zBy{d:Bool}(h:i<n):(lst n D).getD i d=inL D i:=by simp[lst,h]
theorem zUx{d:Bool}(h:n<=i):(lst n D).getD i d=d:=by
 rw[xV,cL (by rw[zFF];exact h)]
 rfl
theorem zEu(h:(lst n D).getD i true=false):i<n/\inL D i=false:=by
 rcases bJ i n with g|g
 .rw[zBy g]at h;exact⟨g,h⟩
 .rw[zUx g]at h;cases h
theorem zG3{l:Array Bool}(J:l.size=n)(h:∀i,i<n->l.getD i false=inL D i):l=lst n D:=by
 refine eF (by rw[J,zFF]) fun i I h2=>?_
 have:=h i oA
 rw[xV,cD I]at this
 have e:l[i]=inL D i:=this
 rw[e]
 simp[lst]
theorem zH3(hi:i<n):(lst n D).setIfInBounds i true=lst n (i::D):=by
 refine zG3 (by simp[lst]) fun j I=>?_
 show _=(bif Nat.beq i j then true else inL D j)
 by_cases e:i=j
 .subst e
  rw[xV,eL (by rw[zFF];exact hi),mD]
  rfl
 .rw[cB false e,zBy I]
  cases h:Nat.beq i j with
  |true=>exact absurd (cH h) e
  |false=>rfl
def zVv(ops:Array Oper)(D fl D':List Nat):Bool:=(List.range ops.size).all fun j=>inL D' j||(List.range ops.size).all fun i=> !inL D' i||inL fl i||inL D i||zDO ops ops.size i j
section
variable {F:Fence}{n:Nat}{P:WH}{ops:Array Oper}{Q:Exit->Act->WB->Prop}
variable {A:Nat->Bool}{E:Nat->WE->WB->Prop}{C:WB->Prop}{a0:Act}
theorem zYa{D':List Nat}(fl:List Nat)(hX:zAE ops=true)(qc:Region.noSelect ops=true)(qg:ops.size<=z)(CW:WB->Prop)(hP:∀w,C w->CW w)(hfree:∀i,inL D i=false->inL D' i=true->inL fl i=true->Region.free .any ops (zDm ops i) i=true)
  (hfk:∀i,inL D' i=true->inL fl i=true->(lst ops.size D).getD i true=false->∀o,ops[i]?=some o->∀a w,FlowB ops (lst ops.size D) A E C a0 (fun j=>(lst ops.size D).getD j true=false/\∃e∈o.after,Region.binds .any e=true/\e.on=j) a w->∃v,zAk P ops CW o v a)
  (hD:zCP ops=true)(qf:zVv ops D fl D'=true)(hU:jT ops=true)(hS:zBh ops a0.tmps.size=true)(q1:zJO ops (lst ops.size D'))(hC:∀w w',C w->bW w w'->C w')(hE:∀i v w w',E i v w->bW w w'->E i v w')
  (hr:∀i,inL D' i=true->(lst ops.size D).getD i true=false->∀o,ops[i]?=some o->∀a w,FlowB ops (lst ops.size D) A E C a0 (fun j=>(lst ops.size D).getD j true=false/\∃e∈o.after,Region.binds .any e=true/\e.on=j) a w->∀K:Act->WB->Prop,(∀v w',E i v w'->bW w w'->(A i=true->∀b,blk v=some b->w.heap.size<=b/\b<w'.heap.size)->K (a.put o.dst v) w')->wpOpIn F n P ops (jW Q) i K a w)
  (hG:∀a w,FlowB ops (lst ops.size D) A E C a0 (fun i=>inL D' i=true/\(lst ops.size D).getD i true=false) a w->zAc F n P .any ops z CW (jW Q) ((lst ops.size D').count false) (lst ops.size D') a w):
  ∀(fuel:Nat) (listed:Array Bool) (a:Act) (w:WB),listed.count false=fuel->listed.size=ops.size->(∀i,i<ops.size->inL D' i=false->listed.getD i false=false)->zJO ops listed->(∀i,i<ops.size->inL D i=true->listed.getD i false=true)->
   FlowB ops (lst ops.size D) A E C a0 (fun i=>(lst ops.size D).getD i true=false/\listed.getD i false=true) a w->zAc F n P .any ops z CW (jW Q) fuel listed a w:=by
 intro fuel
 induction fuel with
 | zero=>
  intro listed a w hc hs h0 hx h5 hf
  have qh:∀i,listed.getD i true=true:=fun i=>by
   cases hg:listed.getD i true with
   |true=>rfl
   |false=>have:=zAx hg;omega
  have I:∀i,i<ops.size->listed.getD i false=true:=fun i hi=>by
   have h1:=qh i
   have O:i<listed.size:=oA
   simp[O]at h1 ⊢
   exact h1
  have hl:listed=lst ops.size D':=zG3 hs fun i hi=>by
   rw[I i hi]
   cases h:inL D' i with
   |true=>rfl
   |false=>have:=h0 i hi h;rw[I i hi]at this;cases this
  have:=hG a w (hf.mono fun i hi=>⟨hi.2,I i (zEu hi.2).1⟩)
  rw[<-hl,hc]at this
  exact this
 | succ fuel ih=>
  intro listed a w hc hs h0 hx h5 hf
  by_cases I:∀i,i<ops.size->inL D' i=true->listed.getD i false=true
  .have hl:listed=lst ops.size D':=zG3 hs fun i hi=>by
    cases h:inL D' i with
    |true=>exact I i hi h
    |false=>exact h0 i hi h
   have:=hG a w (hf.mono fun i hi=>⟨hi.2,I i (zEu hi.2).1 hi.1⟩)
   rw[<-hl,hc]at this
   exact this
  .simp only[fZ]at I
   obtain⟨u0,q0,q4,qd⟩:=I
   obtain⟨u,⟨hh,hk,hu⟩,q5⟩:=zGl (p:=fun u=>u<ops.size/\inL D' u=true/\ ¬listed.getD u false=true) u0 ⟨q0,q4,qd⟩
   have O:u<listed.size:=oA
   have hR:listed.getD u true=false:=by
    simp[O]at hu ⊢
    exact hu
   have hd:(lst ops.size D).getD u true=false:=by
    rw[zBy hh]
    cases hg:inL D u with
    |false=>rfl
    |true=>exact absurd (h5 u hh hg) hu
   have hL:∀i,listed.getD i true=false->Region.ready .any ops listed≠ []:=by
    intro i
    induction i using Nat.strongRecOn with
    | _ i ihi=>
     intro hi ha
     have O:i<listed.size:=by
      rcases bJ i listed.size with e|e
      .exact e
      .simp[cL e]at hi
     have ho:ops[i]?=some (ops[i]'(by rw[<-hs];exact O)):=cD _
     by_cases I:∀e∈(ops[i]'(by rw[<-hs];exact O)).after,Region.binds .any e=true->listed.getD e.on false=true
     .have hm:i∈Region.ready .any ops listed:=cO.2 ⟨hi,_,ho,I⟩
      rw[ha]at hm
      cases hm
     .simp only[fZ]at I
      obtain⟨e,he,hb,hg⟩:=I
      have hM:=zCO hD ho he hb
      refine ihi e.on hM ?_ ha
      have hZ:e.on<listed.size:=oA
      simp[hZ]at hg ⊢
      exact hg
   by_cases hfu:inL fl u=true
   .have h4:ops[u]?=some ops[u]:=cD hh
    have U:∀e∈ops[u].after,Region.binds .any e=true->listed.getD e.on false=true:=fun e he hb=>by
     have hM:=zCO hD h4 he hb
     have hK:inL D' e.on=true:=by
      have:=q1 u _ (by rw[zBy hh];exact hk) h4 e he hb
      rwa [zBy oA]at this
     exact rC fun hc=>q5 e.on hM ⟨oA,hK,hc⟩
    have qj:(Region.ready .any ops listed).contains u=true:=cE.2 (cO.2 ⟨hR,_,h4,U⟩)
    have qa:=hfree u (zEu hd).2 hk hfu
    obtain⟨v0,hy⟩:=hfk u hk hfu hd _ h4 a w (hf.mono fun j J=>(by
     obtain⟨hq,e,he,hb,rfl⟩:=J
     exact⟨hq,U e he hb⟩))
    have hw:=hr u hk hd _ h4 a w (hf.mono fun j J=>(by
     obtain⟨hq,e,he,hb,rfl⟩:=J
     exact⟨hq,U e he hb⟩)) (fun a' w'=>∃v,a'=a.put ops[u].dst v/\E u v w'/\bW w w'/\(A u=true->∀b,blk v=some b->w.heap.size<=b/\b<w'.heap.size)) (fun v w' hv hb hA=>⟨v,rfl,hv,hb,hA⟩)
    obtain⟨v,hK,hv,hb,hA⟩:=zMb h4 hX hy (hP _ hf.at_.cls) hw
    refine zP (i:=u) (v:=v0) hX (by unfold zB7;rw[cL qg]) h4 qc (zRx (fun j J hc=>(by
     have h9:=zBZ hx _ j u _ h4 U hc
     have g:j<listed.size:=oA
     simp[g]at h9 ⊢
     exact h9)) qa) qj (fun _ _ _ h=>h) (hP _ hf.at_.cls) hy ?_
    rw[hK]
    refine ih (listed.setIfInBounds u true) (a.put ops[u].dst v) w ?_ (by simpa using hs) (fun j J h7=>?_) (fun j oj J h8 e he hp=>?_) (fun j J hO=>?_) ((hf.put hU hS hC hE h4 hd hv hb hA).mono fun j J=>?_)
    .have:=zAx hR
     omega
    .rw[cB false (fun e=>by subst e;rw[hk]at h7;cases h7)]
     exact h0 j J h7
    .by_cases e2:j=u
     .subst e2
      rw[h4]at h8
      cases h8
      by_cases e3:e.on=j
      .rw[e3];exact J
      .rw[cB false (bK e3)]
       exact U e he hp
     .rw[cB false (bK e2)]at J
      have:=hx j oj J h8 e he hp
      by_cases e3:e.on=u
      .rw[e3]
       simp[O]
      .rw[cB false (bK e3)]
       exact this
    .by_cases e3:j=u
     .rw[e3];simp[O]
     .rw[cB false (bK e3)]
      exact h5 j J hO
    .by_cases e:j=u
     .exact .inr e
     .left
      rw[cB false (bK e)]at J
      exact J
   .refine⟨fun ha=>(hL u hR ha).elim,fun i hi=>?_⟩
    obtain⟨hB,o,ho,I⟩:=cO.1 hi
    have hQ:=(xQ.1 ho).1
    have hW:(lst ops.size D).getD i true=false:=by
     rw[zBy hQ]
     cases hg:inL D i with
     |false=>rfl
     |true=>
      have:=h5 i hQ hg
      have hI:i<listed.size:=oA
      simp[hI]at hB
      simp[hI]at this
      rw[this]at hB
      cases hB
    have hV:inL D' i=true:=by
     cases hg:inL D' i with
     |true=>rfl
     |false=>
      exfalso
      have h1:=xT.1 qf i (xU.2 hQ)
      rw[hg,cS]at h1
      have h2:=xT.1 h1 u (xU.2 hh)
      simp only[cZ,cR]at h2
      rcases h2 with((h2|h2)|h2)|h2
      .rw[hk]at h2;cases h2
      .exact hfu h2
      .exact hu (h5 u hh h2)
      .exact hu (zBZ hx _ u i o ho I h2)
    refine hr i hV hW o ho a w (hf.mono fun j J=>?_) _ fun v w' hv hb hA=>⟨.inr (hP _ (hC _ _ hf.at_.cls hb)),?_⟩
    .obtain⟨hq,e,he,hb,rfl⟩:=J
     exact⟨hq,I e he hb⟩
    .refine ih (listed.setIfInBounds i true) (a.put o.dst v) w' ?_ (by simpa using hs) (fun j J h7=>?_) (fun j oj J h8 e he hp=>?_) (fun j J hO=>?_) ((hf.put hU hS hC hE ho hW hv hb hA).mono fun j J=>?_)
     .have:=zAx hB
      omega
     .rw[cB false (fun e=>by subst e;rw[hV]at h7;cases h7)]
      exact h0 j J h7
     .by_cases e2:j=i
      .subst e2
       rw[ho]at h8
       cases h8
       by_cases e3:e.on=j
       .rw[e3];exact J
       .rw[cB false (bK e3)]
        exact I e he hp
      .rw[cB false (bK e2)]at J
       have:=hx j oj J h8 e he hp
       by_cases e3:e.on=i
       .rw[e3]
        have O:i<listed.size:=oA
        simp[O]
       .rw[cB false (bK e3)]
        exact this
     .by_cases e3:j=i
      .have O:i<listed.size:=oA
       rw[e3];simp[O]
      .rw[cB false (bK e3)]
       exact h5 j J hO
     .by_cases e:j=i
      .exact .inr e
      .left
       rw[cB false (bK e)]at J
       exact J
end
def zGO(F:Fence)(m:Nat)(P:WH)(ops:Array Oper)(CW:WB->Prop)(Q:Exit->Act->WB->Prop)(D:List Nat)(a:Act)(w:WB):Prop:=
 zAc F m P .any ops ops.size CW (jW Q) ((lst ops.size D).count false) (lst ops.size D) a w
def Gr(CW:WB->Prop)(w:WB):Prop:=∀w',bW w w'->CW w'
def FdC(P:WH)(CW:WB->Prop)(w:WB)(ops:Array Oper)(G:Nat->SF)(o:Oper):Prop:=
 ∀(b:Act) (W:WB),bW w W->(∀t,t∈looks ops o->(G t).p (b.tmps.getD t undef) W)->∃v,zAk P ops CW o v b
def zRi(ops:Array Oper)(D':List Nat)(G:Nat->SF)(t:Nat):SF:=bif (List.range ops.size).any (fun i=> !inL D' i&&(yD ops i==some t))then SF.any else G t
def zVi(ops:Array Oper)(fl D is:List Nat)(n:Nat)(keys ts:List Nat):Bool:=
 jT ops&&zBh ops n&&zAE ops&&Region.noSelect ops&&zCP ops&&zAf keys&&
 zE6 ops (lst ops.size D)&&zE6 ops (lst ops.size (is++D))&&
 keys.all (fun t=>is.any fun i=> !inL D i&&(yD ops i==some t))&&
 ts.all (fun t=>(List.range ops.size).all fun i=>inL D i|| !(yD ops i==some t))&&
 is.all (fun i=>decide (i<ops.size)&& !inL D i&&(!inL fl i||Region.free .any ops (zDm ops i) i)&&match ops[i]? with
  |none=>true
  |some o=>(looks ops o).all fun t=>(List.range ops.size).all fun j=>inL D j|| !(yD ops j==some t)||o.after.any fun e=>Region.binds .any e&&e.on==j)&&
 zVv ops D fl (is++D)
def zK5(ops:Array Oper)(is:List Nat):List Oper:=is.filterMap fun i=>ops[i]?
theorem zFt{F:Fence}{m:Nat}{P:WH}{w0:WB}{ops I:Array Oper}{G:Nat->SF}:∀{is:List Nat},Obs F m P w0 I G (zK5 ops is)->∀i,i∈is->∀o,ops[i]?=some o->qO F m P w0 I G o
 | [],_,i,hi,_,_=>by cases hi
 | k::is,h,i,hi,o,ho=>by
  unfold zK5 at h
  rw[List.filterMap_cons]at h
  cases hk:ops[k]? with
  |none=>
   rw[hk]at h
   rcases xS.1 hi with rfl|hi
   .rw[ho]at hk;cases hk
   .exact zFt h i hi o ho
  |some ok=>
   rw[hk]at h
   rcases xS.1 hi with rfl|hi
   .rw[ho]at hk;cases hk;exact h.1
   .exact zFt h.2 i hi o ho
theorem zTP{Q:Exit->Act->WB->Prop}(fl is ts:List Nat)(al:List NewB)(L:List (Nat×SF))
  (q2:Gr CW w)(h8:zVi ops fl D is n (L.map (·.1)) ts=true)(h:At w G n ds a w)(hI:Obs F m P w ops (upd G L) (zK5 ops is))
  (hh:∀q,q∈al->q.i∈is/\q.f.isIn L q.d/\(∃ty pos aft,ops[q.i]?=some ⟨some q.d,.alloc q.e,ty,pos,aft,none⟩)/\zeroCells P q.e=some q.cs/\∀v W,(SF.own w q.e q.cs).p v W->q.f.p v W)
  (hV:∀i o,inL fl i=true->ops[i]?=some o->FdC P CW w ops (upd G L) o)
  (hR:∀a w',At w (zRi ops (is++D) (upd G L)) n ds a w'->zPS al a->zGO F m P ops CW Q (is++D) a w'):zGO F m P ops CW Q D a w:=by
 unfold zVi at h8
 simp only[xW]at h8
 obtain⟨⟨⟨⟨⟨⟨⟨⟨⟨⟨⟨hX,hF⟩,hZ⟩,hW⟩,hG⟩,hM⟩,qd⟩,qf⟩,hs⟩,hts⟩,hU⟩,q4⟩:=h8
 have h7:∀i,inL (is++D) i=true->inL D i=false->i∈is:=fun i J h2=>by
  rw[zGn,h2,Bool.or_false]at J
  exact zKm J
 have hS:∀t,(∀j,inL D j=false->j∈is->yD ops j≠some t)->upd G L t=G t:=fun t ht=>by
  refine zAP ?_
  cases hc:(L.map (·.1)).contains t with
  |false=>rfl
  |true=>
   exfalso
   obtain⟨i,hi,he⟩:=bX.1 (xT.1 hs t (cE.1 hc))
   simp only[xW,cR,bC]at he
   exact ht i he.1 hi he.2
 have hN:∀t,(∀j,inL D j=false->j∈is->yD ops j≠some t)->(upd G L t).p (a.tmps.getD t undef) w:=fun t ht=>by rw[hS t ht];exact h.sl t
 have h6:∀i,i∈is->i<ops.size/\(inL fl i=true->Region.free .any ops (zDm ops i) i=true)/\∀o,ops[i]?=some o->∀t,t∈looks ops o->∀j,inL D j=false->yD ops j=some t->(o.after.any fun e=>Region.binds .any e&&e.on==j)=true:=fun i hi=>by
  have J:=xT.1 hU i hi
  simp only[xW,bY]at J
  refine⟨J.1.1.1,fun hf=>(by have h2:=J.1.2;rw[hf]at h2;simpa using h2),fun o ho t ht j U hB=>?_⟩
  have h2:=J.2
  rw[ho]at h2
  have hk:j<ops.size:=by
   rcases bJ j ops.size with e|e
   .exact e
   .rw[yD,cL e]at hB;cases hB
  have h3:=xT.1 (xT.1 h2 t ht) j (xU.2 hk)
  rw[U,hB]at h3
  simpa using h3
 have hJ:∀t,(∀j,inL D j=false->yD ops j≠some t)->zB8 ops (lst ops.size D) t=false:=fun t ht=>by
  cases hd:zB8 ops (lst ops.size D) t with
  |false=>rfl
  |true=>
   exfalso
   unfold zB8 at hd
   obtain⟨i,hi,hp⟩:=bX.1 hd
   simp only[xW,bC,cR]at hp
   have hL:=hp.1
   rw[zBy (xU.1 hi)]at hL
   exact ht i hL (by rw[<-zDE];exact hp.2)
 -- what an operation looks at holds where those it waits for have run
 have h9:∀i o,i∈is->ops[i]?=some o->∀b W,FlowB ops (lst ops.size D) (fun i=>al.any fun q=>q.i==i) (fun i v W=>∀o,ops[i]?=some o->∀d,o.dst=some d->(upd G L d).p v W) (fun W=>bW w W) a (fun j=>(lst ops.size D).getD j true=false/\∃e∈o.after,Region.binds .any e=true/\e.on=j) b W->∀t,t∈looks ops o->(upd G L t).p (b.tmps.getD t undef) W:=fun i o hi ho b W hf t ht=>by
  by_cases hex:∃j,inL D j=false/\yD ops j=some t
  .obtain⟨j,hm,U⟩:=hex
   have J:=(h6 i hi).2.2 o ho t ht j hm U
   obtain⟨x,hx,he⟩:=fX.1 J
   simp only[xW,bC]at he
   cases O:ops[j]? with
   |none=>rw[yD,O]at U;cases U
   |some oj=>
    rw[jS O]at U
    exact hf.at_.vals j oj t ⟨by rw[zBy (xQ.1 O).1];exact hm,_,eC hx,he.1,he.2⟩ O U oj O t U
  .have h0:∀j,inL D j=false->yD ops j≠some t:=fun j J h2=>hex ⟨j,J,h2⟩
   rw[hf.at_.keep t (hJ t h0)]
   exact(upd G L t).st _ _ _ (hN t (fun j U _=>h0 j U)) hf.at_.cls
 have h0:∀i, ¬((lst ops.size D).getD i true=false/\(lst ops.size D).getD i false=true):=fun i hi=>by
  have J:=zEu hi.1
  have h2:=hi.2
  rw[zBy J.1,J.2]at h2
  cases h2
 refine zYa (Q:=Q) (D:=D) (D':=is++D) (z:=ops.size) (a0:=a) (A:=fun i=>al.any fun q=>q.i==i) (E:=fun i v W=>∀o,ops[i]?=some o->∀d,o.dst=some d->(upd G L d).p v W) (C:=fun W=>bW w W) fl hZ hW lr CW q2 ?hfree ?hfk hG q4 hX (by rw[h.size];exact hF) (zDh qf) (fun W W' hC hb=>hC.trans (hb.mono hC.size)) (fun i v W W' hE hb o ho d hd=>(upd G L d).st _ _ _ (hE o ho d hd) hb) ?spec ?fin _ (lst ops.size D) a w rfl (zFF _ _) (fun i hi hp=>?_) (zDh qd) (fun i hi hp=>by rw[zBy hi];exact hp) ⟨⟨xG _ _,rfl,rfl,fun _ _=>rfl,fun i o t hi=>(h0 i hi).elim⟩,fun i o t b hi=>(h0 i hi).elim,fun i j oi oj ti tj bi bj hi=>(h0 i hi).elim⟩
 case hfree=>exact fun i hD hp hf=>(h6 i (h7 i hp hD)).2.1 hf
 case hfk=>
  intro i hp hf hl o ho b W I
  have hi:=h7 i hp (zEu hl).2
  exact hV i o hf ho b W I.at_.cls (h9 i o hi ho b W I)
 case spec=>
  intro i hp hl o ho b W I K hK
  have hi:=h7 i hp (zEu hl).2
  have hQ:∀j g,yD ops j=some g->g<b.tmps.size:=fun j g U=>by
   rw[I.at_.size,h.size]
   obtain⟨oj,O,q3⟩:=jC U
   exact jB hF O q3
  by_cases hAi:(al.any fun q=>q.i==i)=true
  .obtain⟨q,hq,qa⟩:=bX.1 hAi
   obtain rfl:q.i=i:=by simpa using qa
   obtain⟨_,q5,⟨ty,pos,aft,hO⟩,hz,hT⟩:=hh q hq
   rw[ho]at hO
   cases hO
   refine zA4 ho (show qO F m P W ops (fun _=>SF.own W q.e q.cs) ⟨some q.d,.alloc q.e,ty,pos,aft,none⟩from zBY hz) hQ (xG _ _) (fun t ht=>by cases ht) (fun v W' hv hb=>?_)
   obtain⟨b',rfl,J,h2⟩:=hv q.d rfl
   refine hK _ W' (fun o' ha d hd=>?_) hb (fun _ b'' hP=>?_)
   .rw[ho]at ha
    cases ha
    cases hd
    rw[zDR (q:=(q.d,q.f)) hM q5]
    exact hT _ W' ⟨b',rfl,xR I.at_.cls.size J,h2⟩
   .cases hP
    exact⟨J,(xQ.1 h2).1⟩
  refine zA4 ho (zFt hI i hi o ho) hQ I.at_.cls (h9 i o hi ho b W I) (fun v W' hv hb=>hK v W' (fun o' ha d hd=>by rw[ho]at ha;cases ha;exact hv d hd) hb (fun e=>absurd e hAi))
 case fin=>
  intro b W I
  have hn:∀q,q∈al->inL (is++D) q.i=true/\(lst ops.size D).getD q.i true=false:=fun q hq=>by
   have J:=(hh q hq).1
   have h2:=xT.1 hU _ J
   simp only[xW,bY,cR]at h2
   exact⟨by rw[zGn,zOU J,tR],by rw[zBy h2.1.1.1];exact h2.1.1.2⟩
  refine hR b W ⟨I.at_.cls,by rw[I.at_.size];exact h.size,by rw[I.at_.defers];exact h.nd,fun t=>?_⟩ fun q q' hq hu q0 b1 b2 e1 e2=>(by
   obtain⟨_,_,⟨_,_,_,g2⟩,_⟩:=hh q hq
   obtain⟨_,_,⟨_,_,_,qc⟩,_⟩:=hh q' hu
   exact I.apart q.i q'.i _ _ q.d q'.d b1 b2 (hn q hq) (hn q' hu) q0 (bX.2 ⟨q,hq,fG⟩) (bX.2 ⟨q',hu,fG⟩) g2 qc rfl rfl e1 e2)
  unfold zRi
  cases hc:(List.range ops.size).any fun i=> !inL (is++D) i&&(yD ops i==some t)with
  |true=>trivial
  | false=>
   show(upd G L t).p _ _
   by_cases hex:∃j,inL D j=false/\yD ops j=some t
   .obtain⟨j,hm,U⟩:=hex
    have hk:j<ops.size:=by
     rcases bJ j ops.size with e|e
     .exact e
     .rw[yD,cL e]at U;cases U
    have J:=cP.1 hc j (xU.2 hk)
    rw[U]at J
    have hY:inL (is++D) j=true:=by simpa using J
    cases O:ops[j]? with
    |none=>rw[yD,O]at U;cases U
    |some oj=>
     rw[jS O]at U
     exact I.at_.vals j oj t ⟨hY,by rw[zBy hk];exact hm⟩ O U oj O t U
   .have h0:∀j,inL D j=false->yD ops j≠some t:=fun j J h2=>hex ⟨j,J,h2⟩
    rw[I.at_.keep t (hJ t h0)]
    exact(upd G L t).st _ _ _ (hN t (fun j U _=>h0 j U)) I.at_.cls
 .rw[zBy hi]
  cases h:inL D i with
  |false=>rfl
  |true=>rw[zGn,h,Bool.or_true]at hp;cases hp
section
variable {S:Nat->Prop}{w0:WB}{K:List (Nat×KF)}{B:List Bx}{n:Nat}{ds:List Deferred}{a:Act}{w:WB}{F:Fence}{m:Nat}{P:WH}{ops:Array Oper}{Q:Exit->Act->WB->Prop}{wb:WB}{CW:WB->Prop}{D:List Nat}
theorem StS.later(h:StS S w0 K B n ds a w){w':WB}(hb:bW w w'):StS S w0 K B n ds a w':=
 ⟨h.gr.trans hb,h.size,h.nd,fun q I=>KF.us (h.sl q I) (zR hb),h.bx.keep hb (zR hb) B (fun _ _=>rfl),zBx h.mks hb,h.so⟩
theorem zHG(CW:WB->Prop)(hmix:P.follows .mixedOrders=true)(h:StS S w0 K B n ds a w)(fin:∀w1,bW w w1->StS S w0 K B n ds a w1->zGO F m P ops CW Q [] a w1):(Code.region id ops true).wpIn F m P Q a w:=by
 refine yF ops.size CW hmix ?_
 have I:bW w w.drew:=(xG _ w).drew
 have:=fin w.drew I (h.later I)
 unfold zGO at this
 have e:lst ops.size []=Array.replicate ops.size false:=by
  refine(zG3 fC fun i hi=>?_).symm
  rw[xV,lD,if_pos hi]
  rfl
 rw[e,Array.count_replicate_self]at this
 exact this
theorem zFu(h:(List.range ops.size).all (inL D)=true)(O:Q .normal a w):zGO F m P ops CW Q D a w:=by
 have e:lst ops.size D=Array.replicate ops.size true:=(zG3 fC fun i hi=>by
  rw[xV,lD,if_pos hi]
  exact(xT.1 h i (xU.2 hi)).symm).symm
 have I:(lst ops.size D).count false=0:=by rw[e];simp[Array.count_replicate]
 unfold zGO
 rw[I]
 refine⟨lG.2 fun i hi=>?_,O⟩
 have J:=(cO.1 hi).1
 have h2:=zEu J
 rw[xT.1 h i (xU.2 h2.1)]at h2
 cases h2.2
theorem zNB(J:Region.ready .any ops (lst ops.size D)=[i])(h:wpOpIn F m P ops (jW Q) i (fun a' w'=>CW w'/\zGO F m P ops CW Q (i::D) a' w') a w):zGO F m P ops CW Q D a w:=by
 have hi:=(cO.1 (show i∈Region.ready .any ops (lst ops.size D) by rw[J];simp)).1
 have I:=(zEu hi).1
 have O:=zAx hi
 rw[zH3 I]at O
 unfold zGO
 rw[<-O]
 refine⟨fun e=>(by rw[J]at e;cases e),fun j U=>?_⟩
 rw[J]at U
 obtain rfl:j=i:=by simpa using U
 exact eD (fun a' w' hh=>⟨.inr hh.1,by rw[zH3 I];exact hh.2⟩) h
theorem zHH(fl is:List Nat)(al:List NewB)(L:List (Nat×Rw))(hV:Gr CW w)(h:StS S w0 K B n ds a w)
  (hk:zVi ops fl D is n (L.map (·.1)) (K.map (·.1)++B.map (·.t))=true)
  (hC:Obs F m P w ops (upd (zAb K B) (zS L)) (zK5 ops is))
  (hY:∀q,q∈al->q.i∈is/\q.f.isIn (zS L) q.d/\(∃ty pos aft,ops[q.i]?=some ⟨some q.d,.alloc q.e,ty,pos,aft,none⟩)/\zeroCells P q.e=some q.cs/\∀v W,(SF.own w q.e q.cs).p v W->q.f.p v W)
  (hP:∀i o,inL fl i=true->ops[i]?=some o->FdC P CW w ops (upd (zAb K B) (zS L)) o)
  (hK:∀a' w',bW w w'->StS S w0 (zAR L++K) B n ds a' w'->(∀q,q∈zS L->q.2.p (a'.tmps.getD q.1 undef) w')->zPS al a'->zGO F m P ops CW Q (is++D) a' w'):zGO F m P ops CW Q D a w:=by
 have U:=hk
 unfold zVi at U
 simp only[xW]at U
 obtain⟨⟨⟨⟨⟨⟨⟨⟨⟨⟨⟨hS,hfr⟩,hpl⟩,hns⟩,hear⟩,hE⟩,hc1⟩,hc2⟩,hG⟩,hR⟩,q3⟩,htl⟩:=U
 have J:(zS L).map (·.1)=L.map (·.1):=by simp[zS]
 have O:∀t,t∈K.map (·.1)++B.map (·.t)->∀i,inL D i=false->yD ops i≠some t:=fun t ht i hD hi=>by
  have I:=xT.1 hR t ht
  obtain⟨o,ho,_⟩:=jC hi
  have h2:=xT.1 I i (xU.2 (xQ.1 ho).1)
  rw[hi,hD]at h2
  simp at h2
 have hN:∀t,t∈K.map (·.1)++B.map (·.t)->((zS L).map (·.1)).contains t=false:=fun t ht=>by
  cases hc:((zS L).map (·.1)).contains t with
  |false=>rfl
  |true=>
   exfalso
   have hm:=cE.1 hc
   rw[J]at hm
   obtain⟨i,_,he⟩:=bX.1 (xT.1 hG t hm)
   simp only[xW,cR,bC]at he
   exact O t ht i he.1 he.2
 have hJ:∀(l:List (Nat×SF)) t, ¬t∈K.map (·.1)++B.map (·.t)->upd (zA2 K B a) l t=upd (zAb K B) l t:=fun l t ht=>by
  induction l with
  |nil=>exact if_neg ht
  |cons q l ih=>
   show(bif Nat.beq q.1 t then q.2 else upd _ l t)=(bif Nat.beq q.1 t then q.2 else upd _ l t)
   rw[ih]
 have hp:∀t v W,(upd (zA2 K B a) (zS L) t).p v W->(upd (zAb K B) (zS L) t).p v W:=fun t v W hh=>by
  by_cases ht:t∈K.map (·.1)++B.map (·.t)
  .rw[zAP (hN t ht)]at hh ⊢
   unfold zA2 at hh
   rw[if_pos ht]at hh
   exact hh.1
  .rwa [hJ _ t ht]at hh
 have hA:=h.at
 refine zTP fl is (K.map (·.1)++B.map (·.t)) al (zS L) hV (by rw[J];exact hk) (G:=zA2 K B a) (ds:=ds) ⟨hA.gr,hA.size,hA.nd,fun t=>?_⟩ ?_ hY (fun i o hi ho b W hb hr=>hP i o hi ho b W hb (fun t ht=>hp t _ _ (hr t ht))) fun a' w' h7 hD=>?_
 .by_cases ht:t∈K.map (·.1)++B.map (·.t)
  .unfold zA2;rw[if_pos ht];exact⟨hA.sl t,rfl⟩
  .unfold zA2;rw[if_neg ht];exact hA.sl t
 .have hB:∀t,(∃i,inL D i=false/\yD ops i=some t)->∀v W,(upd (zAb K B) (zS L) t).p v W->(upd (zA2 K B a) (zS L) t).p v W:=fun t ⟨i,hD,hi⟩ v W hh=>by
   rw[hJ _ t (fun ht=>O t ht i hD hi)]
   exact hh
  have hn:∀(i:Nat) (o:Oper),inL D i=false->ops[i]?=some o->qO F m P w ops (upd (zAb K B) (zS L)) o->qO F m P w ops (upd (zA2 K B a) (zS L)) o:=by
   intro i o hD ho hg
   have hl:∀d,o.dst=some d->∃i,inL D i=false/\yD ops i=some d:=fun d hd=>⟨i,hD,by rw[jS ho];exact hd⟩
   have hF:zPT F m P w (upd (zAb K B) (zS L)) o->zPT F m P w (upd (zA2 K B a) (zS L)) o:=fun I b W K' Q' hb hr q0=>
    I b W K' Q' hb (fun t ht=>hp t _ _ (hr t ht)) fun v W' hv hb'=>q0 v W' (fun d hd=>hB d (hl d hd) _ _ (hv d hd)) hb'
   unfold qO at hg ⊢
   cases hgd:o.guard with
   |none=>rw[hgd]at hg;exact hF hg
   |some q=>
    rw[hgd]at hg
    obtain⟨g,bv,I,h2,h3,h4⟩:=hg
    exact⟨g,bv,I,fun v W hh=>h2 v W (hp g v W hh),fun e=>hF (h3 e),fun e=>⟨fun d hd W=>hB d (hl d hd) _ _ ((h4 e).1 d hd W),(h4 e).2⟩⟩
  have hM:∀l:List Nat,(∀i,i∈l->inL D i=false/\i<ops.size)->Obs F m P w ops (upd (zAb K B) (zS L)) (zK5 ops l)->Obs F m P w ops (upd (zA2 K B a) (zS L)) (zK5 ops l):=by
   intro l
   induction l with
   |nil=>intro _ _;trivial
   |cons i l ih=>
    intro hm ho
    obtain⟨hD,q1⟩:=hm i fC
    have hI:ops[i]?=some ops[i]:=cD q1
    have e:zK5 ops (i::l)=ops[i]::zK5 ops l:=by unfold zK5;rw[List.filterMap_cons,hI]
    rw[e]at ho ⊢
    exact⟨hn i _ hD hI ho.1,ih (fun j hj=>hm j (by simp[hj])) ho.2⟩
  refine hM is (fun i hi=>?_) hC
  have I:=xT.1 q3 i hi
  simp only[xW,bY,cR]at I
  exact⟨I.1.1.2,I.1.1.1⟩
 .have hg:=h7.gr
  have h8:∀t,t∈K.map (·.1)++B.map (·.t)->a'.tmps.getD t undef=a.tmps.getD t undef:=fun t ht=>by
   have I:=h7.sl t
   unfold zRi at I
   have h2:((List.range ops.size).any fun i=> !inL (is++D) i&&(yD ops i==some t))=false:=by
    refine cP.2 fun i _=>?_
    cases hD:inL D i with
    |true=>simp[zGn,hD]
    |false=>have:=O t ht i hD;simp[this]
   rw[h2,show(bif false then SF.any else upd (zA2 K B a) (zS L) t)=upd (zA2 K B a) (zS L) t from rfl,zAP (hN t ht),zA2,if_pos ht]at I
   exact I.2
  have hf:∀q,q∈zS L->q.2.p (a'.tmps.getD q.1 undef) w':=fun q hz=>by
   have I:=h7.sl q.1
   obtain⟨i,hi,he⟩:=bX.1 (xT.1 hG q.1 (by rw[<-J];exact xH.2 ⟨_,hz,rfl⟩))
   simp only[xW,cR,bC]at he
   have hW:inL (is++D) i=true:=by
    rw[zGn]
    rw[zOU hi,tR]
   unfold zRi at I
   have h2:((List.range ops.size).any fun j=> !inL (is++D) j&&(yD ops j==some q.1))=false:=by
    refine cP.2 fun j _=>?_
    by_cases hj:j=i
    .subst hj;simp[hW]
    .have:yD ops j≠some q.1:=fun e=>by
      obtain⟨oi,hQ,hZ⟩:=jC he.2
      obtain⟨oj,hX,hT⟩:=jC e
      exact zAH hS hQ hX (bK hj) hZ hT
     simp[this]
   rw[h2,show(bif false then SF.any else upd (zA2 K B a) (zS L) q.1)=upd (zA2 K B a) (zS L) q.1 from rfl,zDR (q:=q) (by rw[J];exact hE) hz]at I
   exact I
  refine hK a' w' hg ⟨h.gr.trans hg,h7.size,h7.nd,fun q hq=>?_,h.bx.keep hg (zR hg) B fun x hx=>h8 _ (cX _ (xH.2 ⟨x,hx,rfl⟩)),zBx h.mks hg,h.so.imp (fun hu q hq=>(by
   rcases vW.1 hq with hq|hq
   .obtain⟨f,e,_⟩:=zA9 hq;exact⟨f,e⟩
   .exact hu q hq)) (fun x=>x)⟩ hf hD
  rcases vW.1 hq with hq|hq
  .obtain⟨f,hU,hm⟩:=zA9 hq
   have I:=hf (q.1,f.tS) (xH.2 ⟨_,hm,rfl⟩)
   rw[hU]
   exact I
  .rw[h8 q.1 (eA _ (xH.2 ⟨q,hq,rfl⟩))]
   exact KF.us (h.sl q hq) (zR hg)
theorem zHI(fl is:List Nat)(L:List (Nat×Rw))(h0:Gr CW w)(h:StS S w0 K B n ds a w)
  (I:zVi ops fl D is n (L.map (·.1)) (K.map (·.1)++B.map (·.t))=true)
  (J:Obs F m P w ops (upd (zAb K B) (zS L)) (zK5 ops is))
  (U:∀i o,inL fl i=true->ops[i]?=some o->FdC P CW w ops (upd (zAb K B) (zS L)) o)
  (O:∀a' w',bW w w'->StS S w0 (zAR L++K) B n ds a' w'->(∀q,q∈zS L->q.2.p (a'.tmps.getD q.1 undef) w')->zGO F m P ops CW Q (is++D) a' w'):zGO F m P ops CW Q D a w:=
 zHH fl is [] L h0 h I J (fun _ e=>by cases e) U fun a w hb s hr _=>O a w hb s hr
theorem Obs.below{G:Nat->SF}{w1:WB}(hb:bW w w1):∀{l:List Oper},Obs F m P w ops G l->Obs F m P w1 ops G l
 | [],_=>trivial
 | o::l,⟨h,t⟩=>by
  have I:zPT F m P w G o->zPT F m P w1 G o:=fun h b W K Q hb'=>h b W K Q (hb.trans (hb'.mono hb.size))
  refine⟨?_,Obs.below hb t⟩
  unfold qO at h ⊢
  cases e:o.guard with
  |none=>rw[e]at h;exact I h
  |some q=>
   rw[e]at h
   obtain⟨g,U,O,h2,h3,J⟩:=h
   exact⟨g,U,O,h2,fun e=>I (h3 e),J⟩
theorem zGU{k:Nat}(hk:k<=ops.size):zK5 ops (List.range k)=ops.toList.take k:=by
 induction k with
 |zero=>simp[zK5]
 |succ k I=>
  have e:ops[k]?=some ops[k]:=cD oA
  have I:=I oA
  unfold zK5 at I ⊢
  rw[eH,List.filterMap_append,I,nW]
  simp[e]
theorem zIW{k:Nat}(I:∀r,r<ops.size-k->Region.ready .any ops (yS ops.size (k+r))=[k+r]):
    ∀(f r:Nat) (D:List Nat) (a:Act) (w:WB),k+r+f=ops.size->(∀i,i<ops.size->inL D i=decide (i<k+r))->wpOpsIn F m P ops (jW Q) (List.range' (k+r) f) a w->zGO F m P ops (fun _=>True) Q D a w
  |0,r,D,a,w,hf,hD,h=>zFu (xT.2 fun i hi=>by
      have:=xU.1 hi
      rw[hD i this]
      exact lH oA) h
  | f+1,r,D,a,w,hf,hD,h=>by
    rw[eB]at h
    refine zNB (i:=k+r) ?_ (eD (fun a w h=>⟨trivial,zIW I f (r+1) ((k+r)::D) a w oA (fun i hi=>?_) h⟩) h)
    . rw[show lst ops.size D=yS ops.size (k+r)from(zG3 (by simp[yS]) fun i hi=>by rw[xV,zDc hi,hD i hi];rfl).symm]
      exact I r oA
    . show(bif Nat.beq (k+r) i then true else inL D i)=_
      rw[hD i hi]
      cases e:Nat.beq (k+r) i with
      |true=>exact(lH (by have:=cH e;omega)).symm
      | false=>
        have:k+r≠i:=fun h=>by rw[h,mD]at e;cases e
        exact rR.2 oA
theorem zOX{fl:List Nat}{k:Nat}(h:(fl.all fun i=>zEC ops i&&decide (i<k))=true)(I:Obs F m P w ops G (zK5 ops (List.range k))):∀i o,inL fl i=true->ops[i]?=some o->FdC P (fun _=>True) w ops G o:=fun i o hi J b W hb hr=>by
 have O:=xT.1 h i (zKm hi)
 simp only[xW,bY]at O
 have U:o.guard=none:=by
  have h2:=O.1
  unfold zEC at h2
  rw[J]at h2
  split at h2<;>first|cases h2|skip
  all_goals (rename_i e;cases e;rfl)
 have h2:=zFt I i (xU.2 O.2) o J
 unfold qO at h2
 rw[U]at h2
 have h3:wpOpIn F m P ops (jW fun _ _ _=>True) i (fun _ _=>True) b W:=by
  unfold wpOpIn
  rw[J]
  show(if Region.wanted o (yielded ops b.tmps)=true then _ else _)
  rw[if_pos (by unfold Region.wanted;rw[U])]
  exact h2 b W _ _ hb (fun t ht=>hr t (by unfold looks;simp[ht])) (fun _ _ _ _=>trivial)
 obtain⟨_,v,_,hy,_⟩:=zOY J O.1 h3
 exact⟨v,hy⟩
theorem zBs(fl:List Nat)(al:List NewB)(k:Nat)(L:List (Nat×Rw))(hmix:P.follows .mixedOrders=true)(h:StS S w0 K B n ds a w)
  (h5:∀q,q∈al->q.i<k/\q.f.isIn (zS L) q.d/\(∃ty pos aft,ops[q.i]?=some ⟨some q.d,.alloc q.e,ty,pos,aft,none⟩)/\zeroCells P q.e=some q.cs/\∀v W,(SF.own w q.e q.cs).p v W->q.f.p v W)
  (I:(zVi ops fl [] (List.range k) n (L.map (·.1)) (K.map (·.1)++B.map (·.t))&&(fl.all fun i=>zEC ops i&&decide (i<k))&&decide (k<=ops.size)&&(List.range (ops.size-k)).all fun r=>Region.ready .any ops (yS ops.size (k+r))==[k+r])=true)
  (J:Obs F m P w ops (upd (zAb K B) (zS L)) (ops.toList.take k))
  (U:∀Q',(∀a w,Q .normal a w->Q' .normal a w)->∀a w,StS S w0 (zAR L++K) B n ds a w->(∀q,q∈zS L->q.2.p (a.tmps.getD q.1 undef) w)->zPS al a->zAV F m P ops Q' k a w):(Code.region id ops true).wpIn F m P Q a w:=by
 simp only[xW,bY]at I
 obtain⟨⟨⟨h1,h2⟩,h3⟩,h4⟩:=I
 refine zHG (fun _=>True) hmix h fun w1 hb s=>?_
 have O:∀q,q∈al->q.i∈List.range k/\q.f.isIn (zS L) q.d/\(∃ty pos aft,ops[q.i]?=some ⟨some q.d,.alloc q.e,ty,pos,aft,none⟩)/\zeroCells P q.e=some q.cs/\∀v W,(SF.own w1 q.e q.cs).p v W->q.f.p v W:=fun q hq=>let⟨g1,g2,g3,g4,g5⟩:=h5 q hq;⟨xU.2 g1,g2,g3,g4,fun v W ⟨b,e,g,g'⟩=>g5 v W ⟨b,e,xR hb.size g,g'⟩⟩
 refine zHH fl (List.range k) al L (fun _ _=>trivial) s h1 (by rw[zGU h3];exact Obs.below hb J) O (zOX h2 (by rw[zGU h3];exact Obs.below hb J)) fun a w' hb' s hr hD=>zIW (k:=k) (fun r hr=>(by have:=xT.1 h4 r (xU.2 hr);simpa using this)) (ops.size-k) 0 _ a w' oA (fun i _=>?_) (U (jW Q) iiz a w' s hr hD)
 rw[tH,uN]
 cases e:inL (List.range k) i with
 |true=>exact(lH (xU.1 (zKm e))).symm
 |false=>exact(xZ fun hk=>by rw[zOU (xU.2 hk)]at e;cases e).symm
end
section
variable {S:Nat->Prop}{F:Fence}{m:Nat}{P:WH}{Q:Exit->Act->WB->Prop}{w0:WB}{K:List (Nat×KF)}{B:List Bx}{n:Nat}{ds:List Deferred}{a:Act}{w:WB}
theorem zDz{σ:Type}{c:Code}(I:σ->Act->WB->Prop)(J:σ->Nat)(x0:σ)(h0:I x0 a w)
  (round:∀x a w,I x a w->c.wpIn F m P (Exit.then (fun a' w'=>∃y,J y<J x/\I y a' w') Q) a w):(Code.loop c).wpIn F m P Q a w:=by
 have low:∀a w,(∃k,∃x,J x=k/\I x a w)->∃k,(∃x,J x=k/\I x a w)/\∀j,j<k-> ¬ ∃x,J x=j/\I x a w:=
  fun a w ⟨k,hk⟩=>zGl k hk
 open Classical in
 refine wpIn_loop (fun a w=>∃k,∃x,J x=k/\I x a w) (fun a w=>if h:∃k,∃x,J x=k/\I x a w then Classical.choose (low a w h)else 0) ⟨_,x0,rfl,h0⟩ ?_
 rintro a w hA
 have e0:=tQ (low a w hA)
 obtain⟨x,hm,U⟩:=e0.1
 refine cW ?_ (round x a w U)
 intro e a' w' h
 cases e with
 |normal=>
  obtain⟨y,h2,h3⟩:∃y,J y<J x/\I y a' w':=h
  have O:∃k,∃x,J x=k/\I x a' w':=⟨_,y,rfl,h3⟩
  refine⟨O,?_⟩
  simp only[dif_pos hA,dif_pos O]
  have e1:=tQ (low a' w' O)
  have:Classical.choose (low a' w' O)<=J y:=Nat.not_lt.1 fun h1=>e1.2 _ h1 ⟨y,rfl,h3⟩
  omega
 |_=>exact h
theorem StS.learn(h:StS S w0 K B n ds a w)(t:Nat)(v:WE)(e:a.tmps.getD t undef=v):StS S w0 ((t,.u (UF.eq v))::K) B n ds a w:=
 ⟨h.gr,h.size,h.nd,fun q I=>by
  rcases xS.1 I with rfl|I
  .exact e
  .exact h.sl q I,h.bx,h.mks,h.so.imp (fun J q I=>(by
   rcases xS.1 I with rfl|I
   .exact⟨_,rfl⟩
   .exact J q I)) (fun x=>x)⟩
theorem StS.self(h:StS S w0 K B n [] a w)(J:∀q,q∈K->∃f,q.2=.u f):StS (inB B) w K B n [] a w:=by
 refine⟨BlS.refl _ _,h.size,h.nd,fun q I=>?_,wR (a:=a) B (fun x O=>?_) (fun _ _=>rfl) h.bx,⟨[],Marks.nil _ _⟩,.inl J⟩
 .obtain⟨f,e⟩:=J q I
  have:=h.sl q I
  rw[e]at this ⊢
  exact this
 .cases hr:x.r with
  |true=>exact .inl rfl
  |false=>exact .inr (.inr ⟨x,O,rfl,hr⟩)
theorem qM(hb:BlS (inB B) w w1)(J:yT S w0 a w B):y7 w w1:=fun q u I=>by
 have O:=xK w _ I
 by_cases e:inB B q.block
 .exfalso
  obtain⟨x,U,e1,_⟩:=e
  obtain⟨cs,_,_,h3,_,h5⟩:=J.mem x U
  have:=zCD h3 h5 e1.symm I
  cases this
 .exact(bQ (hb.block _ O e)).trans I
theorem zJA{d:Tmp}(I:a.eval y=.func (.yield l) #[] #[]):
  (execOp a.eval ⟨some d,.call ⟨.value y,xs,ats⟩,ty,pos,aft,none⟩).run P w=(Instr.yield l (xs.map a.eval)).run P w:=by
 simp only[execOp,resolve,I]
 simp[invoke,Deferred.ofValue,cC,cF,Result.andThen]
theorem zYc(f:WL->WE)(x y:WL):(Array.map f #[x,y]).getD 0 undef=f x:=by simp[xV]
theorem zYb(f:WL->WE)(x y:WL):(Array.map f #[x,y]).getD 1 undef=f y:=by simp[xV]
theorem zIc{f:FuncId}{fn:Func}{c:Code}{R:Ending->WB->Prop}
  (I:P.funcs[f]?=some fn)(hb:fn.body=some c)(h:c.wpIn Fence.wide 0 P (bodyPost P fn R) { tmps:=args++Array.replicate (fn.ntmps-args.size) undef,defers:=[] } w):Calls P f args w R:=zB1 I hb h
theorem y6(h:(K.all fun q=>zJP q.2)=true):∀q,q∈K->∃f,q.2=KF.u f:=fun q I=>by
 have:=xT.1 h q I
 cases hq2:q.2 with
 |u f=>exact⟨f,rfl⟩
 |o f=>rw[hq2]at this;cases this
theorem zHw{fn:Func}(S:Nat->Prop)(K0:List (Nat×UF))(B0:List Bx)(U:Nat.ble args.size fn.ntmps=true)(hK:∀q,q∈K0->q.1<args.size/\q.2.p (args.getD q.1 undef) w)
  (hB:yT S w ⟨args, []⟩ w B0)(J:∀x,x∈B0->x.t<args.size):StS S w (K0.map fun q=>(q.1,KF.u q.2)) B0 fn.ntmps [] { tmps:=args++Array.replicate (fn.ntmps-args.size) undef,defers:=[] } w:=by
 have U:=mH U
 refine⟨BlS.refl _ _,fM,rfl,fun q I=>?_,yT.keep (a:=⟨args, []⟩) (xG _ _) iiz B0 (fun x hx=>?_) hB,⟨[],Marks.nil _ _⟩,.inl fun q I=>?_⟩
 .obtain⟨p,O,rfl⟩:=xH.1 I
  obtain⟨h1,h2⟩:=hK p O
  have:(args++Array.replicate (fn.ntmps-args.size) undef).getD p.1 undef=args.getD p.1 undef:=by
   rw[xV,xV,mL h1]
  show p.2.p ((args++Array.replicate (fn.ntmps-args.size) undef).getD p.1 undef) w
  rw[this]
  exact h2
 .show(args++Array.replicate (fn.ntmps-args.size) undef).getD x.t undef=args.getD x.t undef
  rw[xV,xV,mL (J x hx)]
 .obtain⟨p,O,rfl⟩:=xH.1 I
  exact⟨_,rfl⟩
def zO5(W:WB)(gf:Nat)(te:WF)(C:CU):SF:=⟨fun v w=>∃(b:Nat) (cs:List WE),v=.func (.func gf) #[] #[pO b 0]/\W.heap.size<=b/\w.heap[b]?=some (.cells cs.toArray te (0,0))/\C.p cs w/\cs.all zY=true,fun _ _ _ ⟨b,cs,h1,h2,h3,h4,h5⟩ hb=>⟨b,cs,h1,h2,(hb.block b (xQ.1 h3).1).trans h3,C.us _ _ _ h4 (zR hb),h5⟩⟩
theorem zJz(h:W.heap.size<=W'.heap.size)(v:WE)(w:WB)(J:(zO5 W' gf te C).p v w):(zO5 W gf te C).p v w:=by
 obtain⟨b,cs,I,h2,h3⟩:=J
 exact⟨b,cs,I,xR h h2,h3⟩
theorem StS.boxAt(h:StS S w0 K B n ds a w){c:Nat}{z:Bx}(J:zFk B c=some z):∃cs:List WE,w.heap[z.b]?=some (.cells cs.toArray z.e (0,0))/\z.c.p cs w/\cs.all zY=true:=by
 obtain⟨cs,_,_,h3,I,O⟩:=h.bx.mem z (zAp J).1
 exact⟨cs,h3,I,O⟩
theorem StS.inB_new(h:St w0 K B n ds a w){q:Nat}(J:inB B q):w0.heap.size<=q:=by
 obtain⟨x,U,e,O⟩:=J
 obtain⟨_,_,I,_⟩:=h.bx.mem x U
 rcases I with I|I|I
 .rw[O]at I;cases I
 .omega
 .exact I.elim
def wD(vs:List WE):CU:=⟨fun cs _=>cs=vs,fun _ _ _ h _=>h⟩
end
def CU.ok(z:Nat)(C:CU):Prop:=∀cs W,C.p cs W->cs.length=z/\cs.all zY=true/\∀u,u∈cs->u.oneCell'=true
def zAO(w:WB)(base:Nat)(e:WF)(z:Nat)(v:WE)(Cs:List CU):Prop:=
 (v= sN/\Cs=[])∨ ∃g cap cur,v=.slice (some ⟨g,0,none⟩) Cs.length cap/\base<=g/\w.heap[g]?=some (.cells cur e (0,0))/\Cs.length<=cap/\cap<=maxLen/\cur.size=cap*z/\cur.toList.all zY=true/\∀(i:Nat) (C:CU),Cs[i]?=some C->C.p ((cur.toList.drop (i*z)).take z) w
theorem zAO.nil(w:WB)(base:Nat)(e:WF)(z:Nat):zAO w base e z (sN) []:=.inl ⟨rfl,rfl⟩
theorem zAO.lt{base e z v Cs}(h:zAO w base e z v Cs):∀k,v.ownBlock=some k->base<=k/\k<w.heap.size:=by
 intro k I
 rcases h with⟨rfl,_⟩|⟨g,cap,cur,rfl,hb,J,_⟩
 .simp[Value.ownBlock]at I
 .simp[Value.ownBlock]at I
  subst I
  exact⟨hb,(xQ.1 J).1⟩
theorem zAO.mono{base base' e z v Cs}(h:zAO w base e z v Cs)(hb:base'<=base):zAO w base' e z v Cs:=
 h.imp id fun⟨g,cap,I,J,h2,h3⟩=>⟨g,cap,I,J,xR hb h2,h3⟩
theorem zAO.keep{base e z v Cs}(h:zAO w base e z v Cs)(hb:∀k,v.ownBlock=some k->w'.heap[k]?=w.heap[k]?)(hk:y7 w w'):zAO w' base e z v Cs:=by
 rcases h with h|⟨g,cap,I,rfl,h2,h3,J,O,h6,U,h8⟩
 .exact .inl h
 .exact .inr ⟨g,cap,I,rfl,h2,(hb g rfl).trans h3,J,O,h6,U,fun i C hi=>C.us _ _ _ (h8 i C hi) hk⟩
theorem zAO.below{base e z v Cs}(h:zAO w base e z v Cs)(hb:bW w w'):zAO w' base e z v Cs:=
 h.keep (fun k I=>hb.block k (h.lt k I).2) (zR hb)
theorem zAO.row{base e z v Cs}(h:zAO w base e z v Cs):(SF.row z Cs).p v w:=by
 rcases h with⟨rfl,rfl⟩|⟨g,cap,cur,rfl,h2,h3,J,O,h6,h7,U⟩
 .exact⟨none,0,rfl,vQ _,fH,fun _=>rfl,fun i C hi=>by simp at hi⟩
 .refine⟨_,cap,rfl,J,by unfold maxLen at O;omega,fun e=>(by cases e),fun i C hi=>⟨g,0,_,rfl,fun j u I=>?_,U i C hi⟩⟩
  rw[uU]at I
  split at I
  .rw[uX]at I
   unfold World.cell?
   simp only[h3]
   have:0+i*z+j=i*z+j:=oA
   rw[this]
   simpa using I
  .cases I
theorem zAO.keepU{base e z v Cs}(h:zAO w base e z v Cs)(U:w.grownBy w' v.ownBlock):y7 w w':=fun p x J=>by
 have I:=xK w _ J
 by_cases e1:some p.block=v.ownBlock
 .exfalso
  rcases h with⟨rfl,_⟩|⟨g,cap,O,rfl,h2,h3,h4,h5,h6,h7,h8⟩
  .simp[Value.ownBlock]at e1
  .simp[Value.ownBlock]at e1
   have:=zCD (cs:=O.toList) (z:=(0,0)) (by simpa using h3) h7 e1 J
   cases this
 .exact(bQ (U.block _ I e1)).trans J
def zE8(P:WH)(t:WF):WG (WF×Nat×Bool):=match P.underlying t with
 | some (.slice e)=>match P.info? e with
  |some i=>match i.zero with
   |some zv=>some (e,i.size,zv.cells.size==i.size&&zv.cells.toList.all zY&&decide (0<i.size)&&Nat.ble i.bytes 1000)
   |none=>none
  |none=>none
 |_=>none
theorem zCG(h:zE8 P t=some (e,z,true)):P.underlying t=some (.slice e)/\∃i zv,P.info? e=some i/\i.zero=some zv/\i.size=z/\i.bytes<=1000/\zv.cells.size=z/\zv.cells.toList.all zY=true/\0<z:=by
 unfold zE8 at h
 split at h<;>try cases h
 rename_i e' J
 split at h<;>try cases h
 rename_i i hi
 split at h<;>try cases h
 rename_i zv U
 simp only[lX,tL,xW,bC,bY]at h
 obtain⟨rfl,rfl,⟨⟨O,h2⟩,h3⟩,I⟩:=h
 exact⟨J,i,zv,hi,U,rfl,mH I,O,h2,h3⟩
theorem zBI{I:Array WE}(h:I.toList.all zY=true)(n:Nat):(Builtin.zeroCells I n).toList.all zY=true:=by
 refine xT.2 fun u O=>?_
 simp only[Builtin.zeroCells,Array.toList_map,xH,Array.toList_range,xU]at O
 obtain⟨i,hi,rfl⟩:=O
 have U:0<I.size:=by
  rcases uJ I.size with h|h;· rw[h]at hi;omega
  .exact h
 have J:i%I.size<I.size:=vY _ U
 have:I[i%I.size]!∈I.toList:=by
  rw[getElem!_pos I _ J]
  exact Array.getElem_mem_toList J
 exact xT.1 h _ this
theorem zEj{W:WB}{b z:Nat}:∀(Ds:List CU) (o:Nat),(∀C,C∈Ds->CU.ok z C)->(∀(i:Nat) (C:CU),Ds[i]?=some C->∃cs,Mem W b (o+i*z) cs/\C.p cs W)->
  ∃news:List WE,news.length=Ds.length*z/\(∀j u,news[j]?=some u->W.cell? ⟨b,o+j,none⟩=some u)/\(∀u,u∈news->u.oneCell'=true)/\news.all zY=true/\∀(i:Nat) (C:CU),Ds[i]?=some C->C.p ((news.drop (i*z)).take z) W
 | [],o,_,_=>⟨[],fG,fG,fG,rfl,fG⟩
 | D::Ds,o,hok,h=>by
  obtain⟨cs,h1,h2⟩:=h 0 D rfl
  obtain⟨U,hn,O⟩:=hok D fC cs W h2
  obtain⟨ns,g1,g2,g3,g4,g5⟩:=zEj Ds (o+z) (fun C hC=>hok C (by simp[hC])) fun i C hi=>by
   obtain⟨cs',h3,h4⟩:=h (i+1) C (by simpa using hi)
   refine⟨cs',?_,h4⟩
   rwa [show o+(i+1)*z=o+z+i*z by rw[vU];omega]at h3
  refine⟨cs++ns,by rw[uG,U,g1,lU,vU];omega,fun j u J=>?_,fun u I=>?_,by rw[lZ,hn,g4];rfl,fun i C hi=>?_⟩
  .rcases bJ j z with hlt|hge
   .rw[gC oA]at J
    have:=h1 j u J
    rwa [show o+0*z+j=o+j from oA]at this
   .rw[gE oA]at J
    have:=g2 _ u J
    rwa [show o+z+(j-cs.length)=o+j from oA]at this
  .rcases vW.1 I with I|I
   .exact O u I
   .exact g3 u I
  .cases i with
   |zero=>
    obtain rfl:D=C:=by simpa using hi
    rw[show 0*z=0 from oA,nJ,tM oA,nK oA]
    exact h2
   |succ i=>
    rw[show(i+1)*z=cs.length+i*z by rw[vU];omega,List.drop_append]
    have e1:cs.drop (cs.length+i*z)=[]:=pR oA
    rw[e1,lS,show cs.length+i*z-cs.length=i*z from oA]
    exact g5 i C (by simpa using hi)
theorem zCZ{ds:List WE}(h:cs.length=n*z)(hi:i<n):((cs++ds).drop (i*z)).take z=(cs.drop (i*z)).take z:=by
 have h1:i*z+z<=n*z:=by rw[<-Nat.succ_mul];exact uF _ hi
 rw[tO oA,tM (by rw[uK];omega)]
theorem zPk{ds:List WE}(h:cs.length=n*z):(cs++ds).drop ((n+i)*z)=ds.drop (i*z):=by
 rw[vU,<-h,List.drop_append]
 have I:cs.drop (cs.length+i*z)=[]:=pR oA
 rw[I,lS]
 congr 1
 omega
theorem zDw{ds es:List WE}(J:cs.length=Cs.length*z)(U:ds.length=Ds.length*z)(h1:∀(i:Nat) (C:CU),Cs[i]?=some C->C.p ((cs.drop (i*z)).take z) w)(h2:∀(i:Nat) (C:CU),Ds[i]?=some C->C.p ((ds.drop (i*z)).take z) w)(O:y7 w w'):
  ∀(i:Nat) (C:CU),(Cs++Ds)[i]?=some C->C.p (((cs++ds++es).drop (i*z)).take z) w':=fun i C hi=>by
 rcases bJ i Cs.length with I|hge
 .rw[gC I]at hi
  rw[sZ,zCZ J I]
  exact C.us _ _ _ (h1 i C hi) O
 .obtain⟨j,rfl⟩:∃j,i=Cs.length+j:=⟨i-Cs.length,oA⟩
  rw[gE oA,Nat.add_sub_cancel_left]at hi
  have hj:j<Ds.length:=(bE.1 hi).1
  rw[sZ,zPk J,zCZ U hj]
  exact C.us _ _ _ (h2 j C hi) O
theorem zD6{a b c:List WE}(I:a.all zY=true)(hb:b.all zY=true)(J:c.all zY=true):(a++b++c).all zY=true:=by
 rw[lZ,lZ,I,hb,J];rfl
theorem zHC{v v2:WE}(hx:zE8 P t=some (e,z,true))(hr:zAO w base e z v Cs)(h2:(SF.row z Ds).p v2 w)(hD:∀C,C∈Ds->CU.ok z C)
    (hN:Cs.length+Ds.length<=140000000000)(h9:base<=w.heap.size):
    ∃v' w',(Builtin.append_ #[t,t] ty #[v,v2]).run P w=.ok v' w'/\zAO w' base e z v' (Cs++Ds)/\w.grownBy w' v.ownBlock/\(v'.ownBlock=v.ownBlock∨v'.ownBlock=some w.heap.size):=by
  obtain⟨ht,i,zv,hi,hz,hs,hB,hP,hQ,hz0⟩:=zCG hx
  have hy:Cs.length+Ds.length<=maxLen:=by unfold maxLen;omega
  have hv:(Cs.length+Ds.length)*i.bytes<=140737488355328:=xR (gT hN hB) fH
  obtain⟨A,c,rfl,hlc,hC,hT,ha⟩:=h2
  have h4:Cs.length+Ds.length<=9223372036854775807:=by unfold maxLen at hy;omega
  cases A with
  | none=>
    have hd:Ds=[]:=by
      cases Ds with
      |nil=>rfl
      |cons D Ds=>obtain⟨b,o,cs,e1,_⟩:=ha 0 D rfl;cases e1
    subst hd
    have hc:=hT rfl
    subst hc
    rcases hr with⟨rfl,rfl⟩|⟨g,cap,J,rfl,g2,g3,g4,g5,g6,g7,g8⟩
    . refine⟨sN,w,?_,.inl ⟨rfl,rfl⟩,⟨rfl,rfl,rfl,vQ _,fun _ _ _=>rfl⟩,.inl rfl⟩
      simp[Builtin.append_,bI ht,sizeOf,typeInfo,hi,Builtin.lenOf,Builtin.firstCells]
    . refine⟨_,w,?_,.inr ⟨g,cap,J,rfl,g2,g3,by simpa using g4,g5,g6,g7,by simpa using g8⟩,⟨rfl,rfl,rfl,vQ _,fun _ _ _=>rfl⟩,.inl rfl⟩
      simp[Builtin.append_,bI ht,sizeOf,typeInfo,hi,Builtin.lenOf,Builtin.firstCells,g4,storeCells]
  | some ad=>
    obtain⟨I,n1,n2,n3,n4,n5⟩:∃I:List WE,I.length=Ds.length*z/\(∀j u,I[j]?=some u->w.cell? (ad.add j)=some u)/\(∀u,u∈I->u.oneCell'=true)/\I.all zY=true/\∀(i:Nat) (C:CU),Ds[i]?=some C->C.p ((I.drop (i*z)).take z) w:=by
      cases Ds with
      |nil=>exact⟨[],fG,fG,fG,rfl,fG⟩
      | cons D Ds=>
        obtain⟨b,o,cs,e1,_⟩:=ha 0 D rfl
        cases e1
        obtain⟨I,k1,k2,k3⟩:=zEj (W:=w) (b:=b) (z:=z) (D::Ds) o hD fun i C hM=>by
          obtain⟨b',o',cs',e',m1,m2⟩:=ha i C hM
          cases e'
          exact⟨cs',m1,m2⟩
        exact⟨I,k1,fun j u hj=>by rw[xI];exact k2 j u hj,k3⟩
    -- what the growing arm leaves
    have grown:∀(old:Nat) (cs:List WE) (row:WG Nat),cs.length=Cs.length*z->cs.all zY=true->(∀(i:Nat) (C:CU),Cs[i]?=some C->C.p ((cs.drop (i*z)).take z) w)->old<Cs.length+Ds.length->
        zAO (w.drew.alloc (.cells (cs.toArray++I.toArray++Builtin.zeroCells zv.cells (grownCap w (Cs.length+Ds.length) old e-(Cs.length+Ds.length))) e)) base e z (.slice (some ⟨w.heap.size,0,none⟩) (Cs.length+Ds.length) (grownCap w (Cs.length+Ds.length) old e)) (Cs++Ds)/\
        w.grownBy (w.drew.alloc (.cells (cs.toArray++I.toArray++Builtin.zeroCells zv.cells (grownCap w (Cs.length+Ds.length) old e-(Cs.length+Ds.length))) e)) row:=by
      intro old cs row hl hn hO ho
      have hL:=grownCap_ge w (Cs.length+Ds.length) old e
      have hC:grownCap w (Cs.length+Ds.length) old e<=maxLen:=tF w (Cs.length+Ds.length) old e hy
      refine⟨.inr ⟨w.heap.size,_,_,by rw[uG],h9,xM w.drew _,by rw[uG];exact hL,hC,?_,?_,?_⟩,⟨rfl,rfl,rfl,fG,fun k hk _=>tC w.drew _ hk⟩⟩
      . simp only[tG,bN,tD,hP,hl,n1,<-vU]
        congr 1
        omega
      . simp only[tE]
        exact zD6 hn n4 (zBI hQ _)
      . simp only[tE]
        exact zDw hl n1 hO n5 (zR ⟨rfl,rfl,rfl,fG,fun k hk=>tC w.drew _ hk⟩)
    rcases hr with⟨rfl,rfl⟩|⟨g,cap,J,rfl,g2,g3,g4,g5,g6,g7,g8⟩
    . by_cases hm:Ds.length=0
      . have hd:=xN hm
        subst hd
        refine⟨sN,w,?_,.inl ⟨rfl,rfl⟩,⟨rfl,rfl,rfl,vQ _,fun _ _ _=>rfl⟩,.inl rfl⟩
        simp[Builtin.append_,bI ht,sizeOf,typeInfo,hi,Builtin.lenOf,Builtin.firstCells,loadCells,loadCellsFrom]
      . have hr:=run_append_nil (P:=P) w t ty e i zv ht hi hz ad Ds.length c I (by rw[hs];exact n1) n2 oA (by simp at h4;omega) (by simp at hv;omega)
        have O:=grown 0 [] (Value.ownBlock (sN)) fC rfl fC fM
        simp only[mP,uM,lS,Array.empty_append]at O ⊢
        exact⟨_,_,hr,O.1,O.2,.inr rfl⟩
    . by_cases hroom:Cs.length+Ds.length<=cap
      . have h6:Cs.length*i.size+I.length<=J.size:=by rw[n1,g6,hs,<-vU];exact uF _ hroom
        have hr:=run_append_room (P:=P) w t ty e i ht hi g Cs.length cap J g3 ad Ds.length c I (by rw[hs];exact n1) n2 n3 hroom h6
        rw[hs]at hr h6
        have O:w.grownBy (w.setRow g (J.toList.take (Cs.length*z)++I++J.toList.drop (Cs.length*z+I.length)).toArray) (some g):=zBG w g _
        have hk:y7 w (w.setRow g (J.toList.take (Cs.length*z)++I++J.toList.drop (Cs.length*z+I.length)).toArray):=
          zAO.keepU (v:=.slice (some ⟨g,0,none⟩) Cs.length cap) (Cs:=Cs) (base:=base) (e:=e) (z:=z) (.inr ⟨g,cap,J,rfl,g2,g3,g4,g5,g6,g7,g8⟩) O
        have hR:J.toList.length=cap*z:=g6
        have hK:Cs.length*z<=J.toList.length:=by rw[hR];exact uF _ g4
        have U:(J.toList.take (Cs.length*z)).length=Cs.length*z:=by rw[uE,uR hK]
        have h7:∀u,u∈J.toList->zY u=true:=xT.1 g7
        refine⟨_,_,hr,.inr ⟨g,cap,_,by rw[uG],g2,tA w g J _ e _ g3,by rw[uG];exact hroom,g5,?_,?_,?_⟩,O,.inl rfl⟩
        . simp only[bN,uG,uE,uK,tB]
          rw[<-g6]
          omega
        . exact zD6 (xT.2 fun u hu=>h7 u (uW hu)) n4 (xT.2 fun u hu=>h7 u (gA hu))
        . refine zDw U n1 (fun j C hj=>?_) n5 hk
          have he:j<Cs.length:=(bE.1 hj).1
          have h1:=g8 j C hj
          rw[<-gB (Cs.length*z) J.toList,zCZ U he]at h1
          exact h1
      . have U:(J.toList.take (Cs.length*z)).length=Cs.length*z:=by
          rw[uE,show J.toList.length=cap*z from g6,uR (uF _ g4)]
        have hf:∀j u,(J.toList.take (Cs.length*z))[j]?=some u->w.cell? ((⟨g,0,none⟩:Addr).add j)=some u:=fun j u hj=>by
          rw[xI,uM]
          rw[uU]at hj
          split at hj
          . unfold World.cell?
            simp only[g3]
            simpa using hj
          . cases hj
        have hr:=run_append_grow (P:=P) w t ty e i zv ht hi hz ⟨g,0,none⟩ Cs.length cap (J.toList.take (Cs.length*z)) (by rw[hs];exact U) hf ad Ds.length c I (by rw[hs];exact n1) n2 oA oA (growslice_fits oA hv)
        have O:=grown cap (J.toList.take (Cs.length*z)) (Value.ownBlock (.slice (some ⟨g,0,none⟩) Cs.length cap)) U (xT.2 fun u hu=>xT.1 g7 u (uW hu)) (fun j C hj=>by
          have he:j<Cs.length:=(bE.1 hj).1
          have h1:=g8 j C hj
          rw[<-gB (Cs.length*z) J.toList,zCZ U he]at h1
          exact h1) oA
        exact⟨_,_,hr,O.1,O.2,.inr rfl⟩
section
variable {S:Nat->Prop}{F:Fence}{m:Nat}{P:WH}{Q:Exit->Act->WB->Prop}{w0 w1:WB}{K K0:List (Nat×KF)}{B B0:List Bx}{n n0:Nat}{ds ds0:List Deferred}{a a0:Act}{w:WB}
theorem yT.ro{S':Nat->Prop}{w':WB}:∀(B:List Bx),(∀x,x∈B->x.r=true)->yT S w0 a w B->yT S' w' a w B
 | [],_,_=>trivial
 |x::B,hr,⟨⟨cs,h1,_,h3⟩,h4⟩=>⟨⟨cs,h1,.inl (hr x fC),h3⟩,yT.ro B (fun y I=>hr y (by simp[I])) h4⟩
def frz(B:List Bx):List Bx:=B.map fun x=>⟨x.t,x.e,x.c,x.b,true⟩
theorem yT.freeze:∀(B:List Bx),yT S w0 a w B->yT S w0 a w (frz B)
 | [],_=>trivial
 |x::B,⟨⟨cs,h1,_,h3,h4,h5,h6⟩,h7⟩=>⟨⟨cs,h1,.inl rfl,h3,h4,h5,fun y I=>by
  obtain⟨z,hz,rfl⟩:=xH.1 I
  exact .inr ⟨rfl,rfl⟩⟩,yT.freeze B h7⟩
theorem StS.freeze(h:StS S w0 K B n ds a w):StS S w0 K (frz B) n ds a w:=⟨h.gr,h.size,h.nd,h.sl,yT.freeze B h.bx,h.mks,h.so⟩
theorem StS.below(h:St w0 K B n ds a w):bW w0 w:=h.gr.below
theorem StS.reb(h:St w0 K B n [] a w)(hB:(B.all fun x=>x.r)=true)(O:List (Nat×KF))(hK:∀q,q∈O->q∈K∨ ∃f,q.2=.o f/\f.p (a.tmps.getD q.1 undef) w):St w O B n [] a w:=
 ⟨BlS.refl _ _,h.size,h.nd,fun q J=>by
  rcases hK q J with J|⟨f,e,U⟩
  .have I:=h.sl q J
   cases h2:q.2 with
   |u f=>rw[h2]at I;exact I
   |o f=>rw[h2]at I;exact f.st _ _ _ I h.below
  .rw[e];exact U,yT.ro B (fun x hx=>by simpa using xT.1 hB x hx) h.bx,⟨[],Marks.nil _ _⟩,.inr fun _ hh=>hh⟩
theorem StS.val(h:StS S w0 K B n ds a w){t:Nat}{v:WE}(I:(t,KF.u (UF.eq v))∈K):a.tmps.getD t undef=v:=h.sl _ I
theorem StS.back(h0:StS S w0 K0 B0 n0 ds0 a0 w1)(h:St w1 K B n [] a w)(O:(K.all fun q=>zJP q.2)=true):StS S w0 K B n [] a w:=
 ⟨h0.gr.trans h.below,h.size,h.nd,fun q J=>by
  have I:=h.sl q J
  obtain⟨f,e⟩:=y6 O q J
  rw[e]at I ⊢
  exact I,by
  have:∀B:List Bx,yT noS w1 a w B->yT S w0 a w B:=fun B=>by
   induction B with
   |nil=>exact fun _=>trivial
   |cons x B ih=>
    intro⟨⟨cs,I,h2,h3⟩,U⟩
    exact⟨⟨cs,I,h2.imp id fun h=>.inl (by rcases h with h|h;exact xR h0.gr.size h;exact h.elim),h3⟩,ih U⟩
  exact this B h.bx,⟨[],Marks.nil _ _⟩,.inl (y6 O)⟩
theorem StS.resN(h:St w1 K B n [] a w)(hb:bW w0 w1){fn:Func}{f:SF}{t:Nat}(J:fn.results=#[.tmp t])(I:f.p (a.tmps.getD t undef) w):bodyPost P fn (Ret w0 f) .ret a w:=by
 refine⟨h.nd,_,?_,⟨_,rfl,I,hb.trans (h.below.mono hb.size)⟩⟩
 simp[results,J]
theorem vJ(h:St w1 K B n [] a w)(hb:bW w0 w1){fn:Func}{f:SF}{t:Nat}(J:fn.results=#[.tmp t])(I:∀v W,(zAb K B t).p v W->f.p v W):bodyPost P fn (Ret w0 f) .ret a w:=
 h.resN hb J (I _ _ (h.at.sl t))
def wI(W:WB)(e:WF)(z:Nat)(Cs:List CU):SF:=⟨fun v w=>zAO w W.heap.size e z v Cs,fun _ _ _ h hb=>h.below hb⟩
theorem jK(v:WE)(w:WB)(h:(wI W e z Cs).p v w):(SF.row z Cs).p v w:=zAO.row h
theorem zTv{k:Nat}{v:WE}(Ds:List CU)(h0:StS S w0 K0 B0 n0 ds0 a0 w1)(h:St w1 K B n [] a w)(hb0:w0.heap.size<=base)(hr:base<=w1.heap.size/\zAO w1 base e z v Cs)
  (ho:ops[k]?=some ⟨some d,.call ⟨.builtin .append,#[x,y],#[t,t]⟩,ty,pos,aft,none⟩)(happ:zE8 P t=some (e,z,true))(hf:jY K B n d=true)(hu:(K.all fun q=>zJP q.2)=true)
  (hx:a.eval x=v)(hy:(SF.row z Ds).p (a.eval y) w)(hD:∀C,C∈Ds->CU.ok z C)(hsz:Cs.length+Ds.length<=140000000000)(hB:∀q,q∈B->q.r=true->q.b<base)
  (fin:∀v' a' w',(base<=w'.heap.size/\zAO w' base e z v' (Cs++Ds))->StS S w0 ((d,.u (UF.eq v'))::K) B n [] a' w'->zAV F m P ops Q (k+1) a' w'):zAV F m P ops Q k a w:=by
 have hb1:=h.below
 have hr':zAO w base e z v Cs:=hr.2.below hb1
 obtain⟨v',w',hrun,g1,g2,_⟩:=zHC (P:=P) (ty:=ty) happ hr' hy hD hsz (xR hr.1 hb1.size)
 have hrun2:(execOp a.eval ⟨some d,.call ⟨.builtin .append,#[x,y],#[t,t]⟩,ty,pos,aft,none⟩).run P w=.ok (.value v') w':=by
  simp only[execOp,resolve,invoke,builtin,cC,cF,cM,cQ,xY,bP,hx,hrun]
 refine zAi ho rfl ⟨fun f hf=>(by
  unfold Oper.about at hf
  simp[resolve,go_sem]at hf),?_⟩
 rw[bH _ _ _ (fun _ e=>by cases e),hrun2]
 have hk:y7 w w':=hr'.keepU g2
 have hlt:=hr.2.lt
 have s0:=h0.back h hu
 have s1:StS S w0 K B n [] a w':=by
  refine⟨?_,s0.size,s0.nd,fun q hq=>KF.us (s0.sl q hq) hk,?_,⟨[],Marks.nil _ _⟩,s0.so⟩
  .cases hv:v.ownBlock with
   |none=>
    refine⟨g2.os.trans s0.gr.os,g2.tape.trans s0.gr.tape,g2.output.trans s0.gr.output,xR s0.gr.size g2.size,fun k hk1 hk2=>?_⟩
    exact(g2.block k (vV hk1 s0.gr.size) (by rw[hv];simp)).trans (s0.gr.block k hk1 hk2)
   |some g=>exact s0.gr.grown (by rw[hv]at g2;exact g2) (.inl (xR hb0 (hlt g hv).1))
  .refine wO hk B (fun q hq=>?_) s0.bx
   obtain⟨_,_,hc,h3,_⟩:=h.bx.mem q hq
   refine g2.block _ (xQ.1 h3).1 fun e=>?_
   have h4:=hlt _ e.symm
   rcases hc with hc|hc|hc
   .have:=hB q hq hc;omega
   .omega
   .exact hc
 exact fin v' _ w' ⟨xR (xR hr.1 hb1.size) g2.size,g1⟩ (s1.set hf (xG _ _) rfl)
theorem zHv{σ:Type}{c:Code}(I:σ->WB->Prop)(J:σ->List (Nat×KF))(O:σ->Nat)(U:σ)(hI:I U w)(h0:StS S w0 (J U) B n ds a w)
  (round:∀x a w,I x w->StS S w0 (J x) B n ds a w->c.wpIn F m P (Exit.then (fun a' w'=>∃y,O y<O x/\I y w'/\StS S w0 (J y) B n ds a' w') Q) a w):(Code.loop c).wpIn F m P Q a w:=
 zDz (fun x a w=>I x w/\StS S w0 (J x) B n ds a w) O U ⟨hI,h0⟩ fun x a w h=>round x a w h.1 h.2
end
def SF.fn(P:WH)(T:Array WE->WB->SF->Prop):SF:=⟨fun v W=>∃f caps,v=.func (.func f) #[] caps/\Enters P f/\∀W',bW W W'->∀args R,T args W' R->Calls P f (args++caps) W' (Ret W' R),fun _ _ _ ⟨f,caps,h1,h2,h3⟩ hb=>⟨f,caps,h1,h2,fun W' hb'=>h3 W' (hb.trans (hb'.mono hb.size))⟩⟩
section
variable {F:Fence}{m:Nat}{P:WH}{w0:WB}{ops:Array Oper}{G:Nat->SF}{d:Tmp}{ty:WF}{pos:String}{aft:Array Edge}
theorem zOr(T:Array WE->WB->SF->Prop)(hF:zJQ F m P)(hy:∀v W,bW w0 W->(fct G y).p v W->(SF.fn P T).p v W)
  (h:∀(b:Act) (W:WB),bW w0 W->(∀x,x∈xs.toList->(fct G x).p (b.eval x) W)->T (xs.map b.eval) W (G d)):
  qO F m P w0 ops G ⟨some d,.call ⟨.value y,xs,ats⟩,ty,pos,aft,none⟩:=by
 intro b W K Q hb hr hK
 have I:∀x,x∈(Op.call ⟨.value y,xs,ats⟩).operands.toList->(fct G x).p (b.eval x) W:=fun x U=>qB hr U
 obtain⟨f,O,e1,he,hc⟩:=hy _ _ hb (I y (by simp[Op.operands,Call.operands]))
 have h1:=h b W hb fun x U=>I x (by simp[Op.operands,Call.operands];right;simpa using U)
 refine⟨fun g _=>hF.1 g,?_⟩
 have J:(execOp b.eval ⟨some d,.call ⟨.value y,xs,ats⟩,ty,pos,aft,none⟩).run P W=.ok (.enter f (xs.map b.eval++O)) W:=by
  simp only[execOp,resolve,e1,Deferred.ofValue,cC,cF,cM,invoke]
  rw[show(#[]:Array WE)++xs.map b.eval=xs.map b.eval from fG]
  exact he _ _
 rw[bH _ _ _ (fun _ e=>by cases e),J]
 simp only[mE]
 refine⟨hF.2.1,bG (hF.2.2 _ _ _ (Ret W (G d)) (hc W (xG _ _) _ _ h1)) fun e W' he=>?_⟩
 obtain⟨v,rfl,hv,hb'⟩:=he
 exact hK v W' (fun d' e=>by cases e;exact hv) hb'
theorem zWc(T:Array WE->WB->SF->Prop)(hF:zJQ F m P)(I:∀v W,(fct G y).p v W->(SF.fn P T).p v W)
  (h:∀(b:Act) (W:WB),bW w0 W->(∀x,x∈xs.toList->(fct G x).p (b.eval x) W)->T (xs.map b.eval) W (G d)):
  qO F m P w0 ops G ⟨some d,.call ⟨.value y,xs,ats⟩,ty,pos,aft,none⟩:=zOr T hF (fun v W _ h=>I v W h) h
theorem zWd{I:WL}(T:Array WE->WB->SF->Prop)(hF:zJQ F m P)(O:∀v W,(fct G y).p v W->(SF.fn P T).p v W)(h:∀u v W,bW w0 W->(fct G x).p u W->(fct G I).p v W->T #[u,v] W (G d)):qO F m P w0 ops G ⟨some d,.call ⟨.value y,#[x,I],ats⟩,ty,pos,aft,none⟩:=
 zWc T hF O fun b W hb J=>by simpa using h _ _ W hb (J x fC) (J I fC)
end
def zY3(f:UF):Prop:=∀v W,f.p v W->∃s A n c A' n' c',v=.agg #[.bool s,.slice A n c,.slice A' n' c']
theorem zBe(q:Rat):zY3 (fQN q):=fun _ _ h=>by
 obtain⟨A,n,c,A',n',c',e⟩:=zC5 h
 exact⟨_,A,n,c,A',n',c',e⟩
def PTp(f g:UF)(v:WE)(w:WB):Prop:=∃s A n c A' n' c' s2 B k d B' k' d',v=.agg #[.bool s,.slice A n c,.slice A' n' c',.bool s2,.slice B k d,.slice B' k' d']/\f.p (.agg #[.bool s,.slice A n c,.slice A' n' c']) w/\g.p (.agg #[.bool s2,.slice B k d,.slice B' k' d']) w
def fPT(f g:UF):UF:=.mk' (PTp f g) fun _ _ _ ⟨s,A,n,c,A',n',c',s2,B,k,d,B',k',d',e,h1,h2⟩ u=>⟨s,A,n,c,A',n',c',s2,B,k,d,B',k',d',e,f.us _ _ _ h1 u,g.us _ _ _ h2 u⟩
abbrev fPN(p:V2):UF:=fPT (fQN p.1) (fQN p.2)
abbrev fPV(m:Nat)(p:V2):UF:=fPT (fRV m p.1) (fRV m p.2)
theorem zEJ{a b c d e f:WE}(h:Value.agg cs.toArray=.agg #[a,b,c,d,e,f]):cs=[a,b,c,d,e,f]:=by
 have:=vR Array.toList (jX h)
 simpa using this
theorem y9(f g:UF):∀cs:List WE,∀W,(fPT f g).p (.agg cs.toArray) W->cs.length=6:=fun cs W ⟨_,_,_,_,_,_,_,_,_,_,_,_,_,_,e,_⟩=>by rw[zEJ e];rfl
theorem zK{d:Tmp}(l:Nat)(p:V2)(J:jR P t=some 6:=by kernel_rfl)(O:∀v W,(fct G x).p v W->(wC (cg (fPV l p))).p v W:=by first|exact fun _ _ h=>h|exact fun _ _ h=>h.2)(I:∀v W,(fPV l p).p v W->(G d).p v W:=by exact fun _ _ h=>h):qO F m P w0 ops G ⟨some d,.load t x,ty,pos,aft,none⟩:=zT (f:=fPV l p) 6 J O (y9 _ _) I
theorem zFc(cs:List WE)(W:WB)(h:(CU.agg (fPT f g)).p cs W):0+3<=cs.length/\f.p (.agg ((cs.drop 0).take 3).toArray) W:=by
 obtain⟨_,_,_,_,_,_,_,_,_,_,_,_,_,_,e,I,_⟩:=h
 rw[zEJ e]
 exact⟨fG,I⟩
theorem zDL(cs:List WE)(W:WB)(h:(CU.agg (fPT f g)).p cs W):3+3<=cs.length/\g.p (.agg ((cs.drop 3).take 3).toArray) W:=by
 obtain⟨_,_,_,_,_,_,_,_,_,_,_,_,_,_,e,_,I⟩:=h
 rw[zEJ e]
 exact⟨fG,I⟩
theorem zDu(cs:List WE)(W:WB)(h:(CU.agg (fPT f g)).p cs W):0+6<=cs.length/\(fPT f g).p (.agg ((cs.drop 0).take 6).toArray) W:=by
 obtain⟨s,A,n,c,A',n',c',s2,B,k,d,B',k',d',e,I,h2⟩:=h
 rw[zEJ e]
 exact⟨fG,s,A,n,c,A',n',c',s2,B,k,d,B',k',d',rfl,I,h2⟩
theorem yV{v:WE}(h:(fPT f g).p v W):(CU.agg (fPT f g)).p v.cells.toList W/\v.cells.toList.all zY=true:=by
 obtain⟨s,A,n,c,A',n',c',s2,B,k,d,B',k',d',rfl,I,h2⟩:=h
 exact⟨⟨s,A,n,c,A',n',c',s2,B,k,d,B',k',d',rfl,I,h2⟩,rfl⟩
theorem zNm{s s2:Bool}{B B':WG Addr}{c k k' d':Nat}(u:WE)(I:u∈ [Value.bool s,.slice A n c,.slice A' n' c',.bool s2,.slice B k d,.slice B' k' d']):u.oneCell'=true:=by
 simp only[xS,rL,rK]at I
 rcases I with rfl|rfl|rfl|rfl|rfl|rfl<;>rfl
theorem yY(v:WE)(W:WB)(h:(fPT f g).p v W):∃vs:List WE,v=.agg vs.toArray/\vs.length=6/\(∀u,u∈vs->u.oneCell'=true)/\vs.all zY=true/\(CU.agg (fPT f g)).p vs W:=by
 obtain⟨s,A,n,c,A',n',c',s2,B,k,d,B',k',d',rfl,I,h2⟩:=h
 exact⟨_,rfl,rfl,zNm,rfl,s,A,n,c,A',n',c',s2,B,k,d,B',k',d',rfl,I,h2⟩
theorem zBV(f g:UF):CU.ok 6 (CU.agg (fPT f g)):=fun cs W ⟨s,A,n,c,A',n',c',s2,B,k,d,B',k',d',e,_⟩=>by
 rw[zEJ e]
 exact⟨rfl,rfl,zNm⟩
theorem zJ8{f' g':UF}(I:∀v W,f.p v W->f'.p v W)(J:∀v W,g.p v W->g'.p v W){v:WE}{W:WB}(h:(fPT f g).p v W):(fPT f' g').p v W:=by
 obtain⟨s,A,n,c,A',n',c',s2,B,k,d,B',k',d',e,O,h2⟩:=h
 exact⟨s,A,n,c,A',n',c',s2,B,k,d,B',k',d',e,I _ _ O,J _ _ h2⟩
theorem zBu(h1:QB p.1 m)(h2:QB p.2 m){v:WE}{W:WB}(h:(fPN p).p v W):(fPV m p).p v W:=zJ8 (fun _ _ h=>wH h h1) (fun _ _ h=>wH h h2) h
theorem zF6(I:m<=m'){v:WE}{W:WB}(h:(fPV m p).p v W):(fPV m' p).p v W:=zJ8 (fun _ _ h=>RVp.mono h I) (fun _ _ h=>RVp.mono h I) h
theorem bPt(s:Bool)(A A':WG Addr)(n n' c c':Nat)(s2:Bool)(B B':WG Addr)(k k' d d':Nat):prog.built 30 [(0,.agg #[.bool s,.slice A n c,.slice A' n' c']),(1,.agg #[.bool s2,.slice B k d,.slice B' k' d'])]=some #[.bool s,.slice A n c,.slice A' n' c',.bool s2,.slice B k d,.slice B' k' d']:=fJ
theorem zU1{v:WE}(O:zY3 f)(U:zY3 g)(I:f.p u W)(J:g.p v W):∃cells,prog.built 30 [(0,u),(1,v)]=some cells/\(fPT f g).p (.agg cells) W:=by
 obtain⟨s,A,n,c,A',n',c',rfl⟩:=O _ _ I
 obtain⟨s2,B,k,d,B',k',d',rfl⟩:=U _ _ J
 exact⟨_,bPt _ _ _ _ _ _ _ _ _ _ _ _ _ _,s,A,n,c,A',n',c',s2,B,k,d,B',k',d',rfl,I,J⟩
abbrev pns(ps:List V2):List CU:=ps.map fun p=>CU.agg (fPN p)
abbrev pvs(m:Nat)(ps:List V2):List CU:=ps.map fun p=>CU.agg (fPV m p)
theorem zBt(h:i<ps.length):(pns ps)[i]?=some (CU.agg (fPN (at_ ps i))):=by
 unfold pns at_;rw[tK,rG,nE h];rfl
theorem qJ(h:i<ps.length):(pvs m ps)[i]?=some (CU.agg (fPV m (at_ ps i))):=by
 unfold pvs at_;rw[tK,rG,nE h];rfl
theorem zJd(ps:List V2):∀C,C∈pns ps->CU.ok 6 C:=fun C I=>by
 obtain⟨p,_,rfl⟩:=xH.1 I
 exact zBV _ _
theorem zHE(I:Cs.length=Ds.length)(h:∀(i:Nat) (C D:CU),Cs[i]?=some C->Ds[i]?=some D->∀cs W,C.p cs W->D.p cs W)(v:WE)(W:WB)(hv:(SF.row z Cs).p v W):(SF.row z Ds).p v W:=by
 obtain⟨A,c,e,h2,h3,U,h5⟩:=hv
 rw[I]at e h2
 refine⟨A,c,e,h2,h3,U,fun i D J=>?_⟩
 have hi:i<Cs.length:=by rw[I];exact(bE.1 J).1
 obtain⟨b,o,cs,O,g2,g3⟩:=h5 i _ (nE hi)
 exact⟨b,o,cs,O,g2,h i _ _ (nE hi) J cs W g3⟩
theorem zN5(O:∀p,p∈ps->QB p.1 m/\QB p.2 m)(v:WE)(W:WB)(U:(SF.row 6 (pns ps)).p v W):(SF.row 6 (pvs m ps)).p v W:=
 zHE fC (fun i C D I J cs W h=>by
  have hi:i<ps.length:=by have:=(bE.1 I).1;simpa using this
  rw[zBt hi]at I
  rw[qJ hi]at J
  cases I;cases J
  have:=O _ (jZ hi)
  exact zBu this.1 this.2 h) v W U
section
variable {F:Fence}{m:Nat}{P:WH}{w0:WB}{ops:Array Oper}{G:Nat->SF}{d:Tmp}{ty:WF}{pos:String}{aft:Array Edge}
theorem zOp{f:FuncId}{cs:Array WL}(h:∀(b:Act) (W:WB),bW w0 W->(∀x,x∈cs.toList->(fct G x).p (b.eval x) W)->(G d).p (.func (.func f) #[] (cs.map b.eval)) W):qO F m P w0 ops G ⟨some d,.makeFunc (.func f) #[] cs,ty,pos,aft,none⟩:=
 qG (fun _ e=>by cases e) (fun _ e=>by cases e) fun b W hb I=>by
  have:=h b W hb fun x J=>I x (by simpa[Op.operands]using J)
  exact⟨_,by simp[execOp,Instr.makeFunc],this⟩
theorem zLv{f:FuncId}(h:∀u W,bW w0 W->(fct G x).p u W->(G d).p (.func (.func f) #[] #[u]) W):qO F m P w0 ops G ⟨some d,.makeFunc (.func f) #[] #[x],ty,pos,aft,none⟩:=
 zOp fun b W hb I=>by simpa using h _ W hb (I x fC)
theorem zO(hz:qP P t=some z)(hi:Cs[i]?=some C)(hx:∀v W,bW w0 W->(fct G x).p v W->(SF.row z Cs).p v W)(hy:∀v W,(fct G y).p v W->v=.int .i64 (i:Int))(hd:∀v W,(wC C.cf).p v W->(G d).p v W:=by exact fun _ _ h=>h):qO F m P w0 ops G ⟨some d,.indexAddr t x y,ty,pos,aft,none⟩:=
 qG (fun _ e=>by cases e) (fun _ e=>by cases e) fun b W hb O=>by
  obtain⟨A,c,e,h2,h3,h4,h5⟩:=hx _ _ hb (O x (by simp[Op.operands]))
  have e2:=hy _ _ (O y (by simp[Op.operands]))
  obtain⟨b',o,cs,rfl,h6,h7⟩:=h5 i C hi
  have hlt:i<Cs.length:=(bE.1 hi).1
  unfold qP at hz
  split at hz<;>try cases hz
  rename_i e' U
  cases hin:P.info? e' with
  |none=>rw[hin]at hz;cases hz
  |some ie=>
   rw[hin]at hz
   simp only[mA,lX]at hz
   have I:P.elem t=e':=by simp[Program.elem,U]
   refine⟨.pointer (some ⟨b',o+i*z,none⟩),?_,hd _ _ ⟨b',o+i*z,cs,rfl,h7,h6⟩⟩
   have J:(0:Int)<=(i:Int)/\(i:Int)<(Cs.length:Nat):=oA
   simp only[execOp,e,e2]
   rw[cC,tS _ _ _ _ _ _ _ (by rw[I];exact U),if_pos J,I]
   simp[sizeOf,typeInfo,hin,hz,xI]
theorem yK(ht:P.underlying t=some (.slice (P.elem t)))(hx:∀v W,bW w0 W->(fct G x).p v W->(SF.row z Cs).p v W)(hd:∀W,(G d).p (.int .i64 (Cs.length:Nat)) W:=by exact fun _=>rfl):qO F m P w0 ops G ⟨some d,.call ⟨.builtin .len,#[x],#[t]⟩,ty,pos,aft,none⟩:=by
 intro b W K Q hb hr hK
 obtain⟨A,c,e,_⟩:=hx _ _ hb (qB hr (x:=x) (by simp[Op.operands,Call.operands]))
 refine⟨fun f hf=>(by
  unfold Oper.about at hf
  simp[resolve,go_sem]at hf),?_⟩
 rw[bH _ _ _ (fun _ e=>by cases e)]
 have:(execOp b.eval ⟨some d,.call ⟨.builtin .len,#[x],#[t]⟩,ty,pos,aft,none⟩).run P W=.ok (.value (.int .i64 (Cs.length:Nat))) W:=by
  simp[execOp,resolve,invoke,builtin,e,pV _ _ _ _ _ _ ht,goInt]
 rw[this]
 exact hK _ _ (fun d' e'=>by cases e';exact hd _) (xG _ _)
theorem zBv(k:IntKind)(u v r:Int)(I:∀q W,(fct G x).p q W->q=.int k u)(hy:∀q W,(fct G y).p q W->q=.int k v)(U:v≠0)(O:u.tmod v=r)(J:∀W,(G d).p (.int k r) W:=by exact fun _=>rfl):qO F m P w0 ops G ⟨some d,.binOp .rem t x y t',ty,pos,aft,none⟩:=
 zDN (.int k u) (.int k v) (.int k r) I hy (fun W=>by simp[eqGuard]) (fun W=>by simp[binOp,Op.intDiv,U,O]) J
end
section
variable {F:Fence}{m:Nat}{P:WH}{ops:Array Oper}{Q:Exit->Act->WB->Prop}
end
section
variable {S:Nat->Prop}{F:Fence}{m:Nat}{P:WH}{ops:Array Oper}{Q:Exit->Act->WB->Prop}{w0:WB}{K:List (Nat×KF)}{B:List Bx}{n:Nat}{ds:List Deferred}{a:Act}{w:WB}
end
theorem StS.toSt(h:StS S w0 K B n ds a w)(O:∀k, ¬S k)(I:(B.all fun x=>x.r)=true):St w0 K B n ds a w:=
 ⟨⟨h.gr.os,h.gr.tape,h.gr.output,h.gr.size,fun k U _=>h.gr.block k U (O k)⟩,h.size,h.nd,h.sl,yT.ro B (fun x J=>by simpa using xT.1 I x J) h.bx,h.mks,.inr fun _ hh=>hh⟩
section
variable {S:Nat->Prop}{w0:WB}{K:List (Nat×KF)}{B:List Bx}{n:Nat}{ds:List Deferred}{a:Act}{w:WB}
theorem zHd{c:Nat}{C:CU}:∀(B:List Bx),(∀x,x∈B->x.t=c->∀cs W,x.c.p cs W->C.p cs W)->yT S w0 a w B->yT S w0 a w (zFh B c C)
 | [],_,_=>trivial
 | x::B,hw,h=>by
  obtain⟨⟨cs,U,h2,h3,O,h5,h6⟩,hr⟩:=h
  unfold zFh
  cases e:Nat.beq x.t c with
  |true=>exact⟨⟨cs,U,h2,h3,hw x (bV ..) (cH e) cs w O,h5,h6⟩,hr⟩
  |false=>
   refine⟨⟨cs,U,h2,h3,O,h5,fun y J=>?_⟩,zHd B (fun y J=>hw y (bZ _ J)) hr⟩
   have:(y.b,y.r)∈(zFh B c C).map (fun x=>(x.b,x.r)):=xH.2 ⟨y,J,rfl⟩
   rw[zNo]at this
   obtain⟨z,hz,I⟩:=xH.1 this
   simp only[tL]at I
   have:=h6 z hz
   rw[I.1,I.2]at this
   exact this
theorem StS.weakB(h:StS S w0 K B n ds a w)(c:Nat)(C:CU){z:Bx}(hB:zFk B c=some z)(hu:(B.map (·.t)).Nodup)(hi:∀cs W,z.c.p cs W->C.p cs W):StS S w0 K (zFh B c C) n ds a w:=
 ⟨h.gr,h.size,h.nd,h.sl,zHd B (fun x hx e=>by
  obtain⟨hz,h0⟩:=zAp hB
  have:x=z:=by
   have J:∀(B:List Bx),(B.map (·.t)).Nodup->x∈B->z∈B->x.t=z.t->x=z:=by
    intro B
    induction B with
    |nil=>intro _ U;cases U
    | cons y B ih=>
     intro O U h2 e
     rw[xY,bU]at O
     rcases xS.1 U with h3|h3
     .rcases xS.1 h2 with I|I
      .rw[h3,I]
      .exact absurd (xH.2 ⟨z,I,by rw[<-e,h3]⟩) O.1
     .rcases xS.1 h2 with I|I
      .exact absurd (xH.2 ⟨x,h3,by rw[e,I]⟩) O.1
      .exact ih O.2 h3 I e
   exact J B hu hx hz (e.trans h0.symm)
  rw[this]
  exact hi) h.bx,h.mks,h.so⟩
end
theorem zSI{T:Array WE->WB->SF->Prop}{f:FuncId}{I:Array WE}(J:Enters P f)(h:∀W',bW W W'->∀args R,T args W' R->Calls P f (args++I) W' (Ret W' R)):(SF.fn P T).p (.func (.func f) #[] I) W:=⟨f,I,rfl,J,h⟩
set_option maxRecDepth 100000
def zY6(a b:Nat)(w:WB)(x y:WE)(w':WB):Prop:=∃p q:Nat,x=.int .u64 p/\y=.int .u64 q/\Nat.gcd p q=Nat.gcd a b/\p<18446744073709551616/\q<18446744073709551616/\bW w w'
theorem zNO{v:WE}(a b:Nat)(hu:u=.int .u64 (a:Int))(hv:v=.int .u64 (b:Int))(ha:a<18446744073709551616)(hb:b<18446744073709551616):Calls prog 83 #[u,v] W (Ret W (UF.eq (.int .u64 ((Nat.gcd a b:Nat):Int))).tS):=by
 subst hu
 subst hv
 have hmix:prog.follows .mixedOrders=true:=fJ
 go_enter func83,ntmps83
 go_wp2
 go_loopw [0,1] (zY6 a b W) (fun _ y _=>(intOf y).toNat)
 case atStart=>exact⟨a,b,rfl,rfl,rfl,ha,hb,xG _ _⟩
 case round=>
  obtain⟨p,q,rfl,rfl,hg,hp,hq,hB⟩:=hrel
  have HG:=hid hg
  clear hg
  by_cases h0:0<q
  .have hq0:(q:Int)≠0:=oA
   have hmod:(p:Int).tmod (q:Int)=((p%q:Nat):Int):=by rw[pB oA,pJ]
   have hlt:p%q<q:=vY _ h0
   obtain⟨r,hr⟩:∃r,p%q=r:=⟨_,rfl⟩
   rw[hr]at hmod hlt
   have HR:=hid hr
   clear hr
   go_wp2
   refine(bL (n:=0)).1<|yF 100 (fun _=>True) hmix<|zP (i:=0) (v:=?vv1) kA kA rfl kA kA kA (fun _ _ _ h=>h) trivial ⟨.inl ⟨rfl,?yy1⟩,fun _=>rfl⟩ ?_
   case yy1=>
    rintro wx _
    go_simp
    first|done|rfl
   refine zP (i:=1) (v:=?vv2) kA kA rfl kA kA kA (fun _ _ _ h=>h) trivial ⟨.inl ⟨rfl,?yy2⟩,fun _=>rfl⟩ ?_
   case yy2=>
    rintro wx _
    go_simp
    first|done|rfl
   refine zP (i:=2) (v:=?vv3) kA kA rfl kA kA kA (fun _ _ _ h=>h) trivial ⟨.inl ⟨rfl,?yy3⟩,fun _=>rfl⟩ ?_
   case yy3=>
    rintro wx _
    go_simp
    first|done|rfl
   refine zP (i:=3) (v:=.int .u64 (r:Nat)) kA kA rfl kA kA kA (fun _ _ _ h=>h) trivial ⟨.inl ⟨rfl,?y3⟩,fun _=>rfl⟩ ?_
   case y3=>
    rintro wx _
    go_simp
    omega
   refine zAL (i:=4) kA rfl (fun K hK=>?_)
   go_simp
   refine hK _ _ (.inr trivial) ?_
   clear hK K
   refine zAL (i:=5) kA rfl (fun K hK=>?_)
   go_simp
   refine hK _ _ (.inr trivial) ?_
   clear hK K
   refine zCW kA ?_
   go_wp2
   go_roundw
   case rel=>exact⟨q,r,rfl,fR,by rw[<-HG.out,<-HR.out,uQ p q,Nat.gcd_rec q p,uQ],hq,oA,hB.drew⟩
   case measure=>simp[intOf];omega
  .obtain rfl:q=0:=oA
   go_wp2
   go_ret
   have:=HG.out
   rw[Nat.gcd_zero_right]at this
   subst this
   exact⟨_,rfl,rfl,hB⟩
section
variable {F:Fence}{n:Nat}{P:WH}{ops:Array Oper}{Q:Exit->Act->WB->Prop}
def zEb(P:WH)(w0:WB)(ops:Array Oper)(G:Nat->SF)(o:Oper):Prop:=
 ∀(b:Act) (W:WB),bW w0 W->(∀t,t∈looks ops o->(G t).p (b.tmps.getD t undef) W)->∃v,zAk P ops (fun W'=>bW w0 W') o v b
variable {listed0:Array Bool}{A:Nat->Bool}{E:Nat->WE->WB->Prop}{C:WB->Prop}{a0:Act}
end
section
variable {S:Nat->Prop}{w0:WB}{K:List (Nat×KF)}{B:List Bx}{n:Nat}{ds:List Deferred}{a:Act}{w:WB}{F:Fence}{m:Nat}{P:WH}{ops:Array Oper}{Q:Exit->Act->WB->Prop}
end
section
variable {w0:WB}{P:WH}{ops:Array Oper}{G:Nat->SF}{d:Tmp}{ty:WF}{pos:String}{aft:Array Edge}
theorem zGs(O:∀c,op≠ .call c)(h:∀(b:Act) (W:WB),bW w0 W->(∀x,x∈op.operands.toList->(fct G x).p (b.eval x) W)->∃v,∀W',bW w0 W'->(execOp b.eval ⟨some d,op,ty,pos,aft,none⟩).run P W'=.ok (.value v) W'):zEb P w0 ops G ⟨some d,op,ty,pos,aft,none⟩:=by
 intro b W hb U
 obtain⟨v,hv⟩:=h b W hb fun x J=>qB (fun t ht=>U t (by unfold looks;simpa using ht)) J
 refine⟨v,.inl ⟨rfl,hv⟩,fun w=>?_⟩
 unfold Oper.about
 split
 .rename_i c I;exact absurd I (O c)
 .rfl
theorem zDg:zEb P w0 ops G ⟨some d,.move x,ty,pos,aft,none⟩:=zGs (fun _ e=>by cases e) fun b _ _ _=>⟨b.eval x,fun _ _=>rfl⟩
theorem zSK{op:BinOp}(u v r:WE)(U:∀q W,(fct G x).p q W->q=u)(hy:∀q W,(fct G y).p q W->q=v)(hr:∀W,(binOp op t u v).run P W=.ok r W)(O:∀W,(eqGuard op t x y u v).run P W=.ok () W):zEb P w0 ops G ⟨some d,.binOp op t x y t',ty,pos,aft,none⟩:=
 zGs (fun _ e=>by cases e) fun b W _ I=>by
  have e1:=U _ _ (I x (by simp[Op.operands]))
  have J:=hy _ _ (I y (by simp[Op.operands]))
  exact⟨r,fun W' _=>by simp[execOp,e1,J,hr W',O W']⟩
def fOp(w0:WB)(C:CU):UF:=.mk' (fun v _=>∃b o cs,v= pO b o/\C.p cs w0/\Mem w0 b o cs) fun _ _ _ h _=>h
theorem zO2(k:IntKind)(u v:Int)(J:∀q W,(fct G x).p q W->q=.int k u)(I:∀q W,(fct G y).p q W->q=.int k v):zEb P w0 ops G ⟨some d,.binOp .add t x y t',ty,pos,aft,none⟩:=
 zSK (.int k u) (.int k v) (.int k (k.wrap (u+v))) J I (fun W=>by simp[binOp,Op.intArith]) (fun W=>by simp[eqGuard])
theorem zO1(k:IntKind)(u v:Int)(O:∀q W,(fct G x).p q W->q=.int k u)(I:∀q W,(fct G y).p q W->q=.int k v)(J:v≠0):zEb P w0 ops G ⟨some d,.binOp .rem t x y t',ty,pos,aft,none⟩:=
 zSK (.int k u) (.int k v) (.int k (u.tmod v)) O I (fun W=>by simp[binOp,Op.intDiv,J]) (fun W=>by simp[eqGuard])
theorem zSJ(ht:P.underlying t=some (.slice (P.elem t)))(hx:∀v W,bW w0 W->(fct G x).p v W->(SF.row z Cs).p v W):zEb P w0 ops G ⟨some d,.call ⟨.builtin .len,#[x],#[t]⟩,ty,pos,aft,none⟩:=by
 intro b W hb hr
 obtain⟨A,c,e,_⟩:=hx _ _ hb (qB (o:=⟨some d,.call ⟨.builtin .len,#[x],#[t]⟩,ty,pos,aft,none⟩) (fun t' ht'=>hr t' (by unfold looks;simpa using ht')) (x:=x) (by simp[Op.operands,Call.operands]))
 refine⟨.int .i64 (Cs.length:Nat),.inl ⟨rfl,fun W' _=>by simp[execOp,resolve,invoke,builtin,e,pV _ _ _ _ _ _ ht,goInt]⟩,fun w=>?_⟩
 unfold Oper.about
 simp[resolve,go_sem]
theorem zGV{c o:Nat}(hz:qP P t=some z)(hi:i<n):(Instr.indexAt t (.slice (some ⟨b,o,none⟩) n c) (.int .i64 (i:Int))).run P W=.ok (.pointer (some ⟨b,o+i*z,none⟩)) W:=by
 unfold qP at hz
 split at hz<;>try cases hz
 rename_i e' U
 obtain⟨ie,J,hz⟩:=lY.1 hz
 have I:P.elem t=e':=by simp[Program.elem,U]
 have O:(0:Int)<=(i:Int)/\(i:Int)<(n:Nat):=oA
 rw[tS _ _ _ _ _ _ _ (by rw[I];exact U),if_pos O,I]
 simp[sizeOf,typeInfo,J,hz,xI]
section
variable {l:WE}{x y:WL}{t:WF}{z:Nat}{Cs:List CU}{i:Nat}{C:CU}
theorem zJy(hz:qP P t=some z)(hi:Cs[i]?=some C)(J:(SF.row z Cs).p l w0)(U:∀v W,(fct G x).p v W->v=l)(hy:∀v W,(fct G y).p v W->v=.int .i64 (i:Int)):zEb P w0 ops G ⟨some d,.indexAddr t x y,ty,pos,aft,none⟩:=
 zGs (fun _ e=>by cases e) fun b W hb I=>by
  have e1:=U _ _ (I x (by simp[Op.operands]))
  have O:=hy _ _ (I y (by simp[Op.operands]))
  obtain⟨A,c,rfl,h2,h3,h4,h5⟩:=J
  obtain⟨b',o,cs,rfl,h6,h7⟩:=h5 i C hi
  exact⟨.pointer (some ⟨b',o+i*z,none⟩),fun W' _=>by simp[execOp,e1,O,zGV hz (bE.1 hi).1]⟩
theorem zXx(f:UF)(k:Nat)(U:jR P t=some k)(J:∀v W,(fct G x).p v W->(fOp w0 C).p v W)(h:∀cs W,C.p cs W->0+k<=cs.length/\f.p (.agg ((cs.drop 0).take k).toArray) W)(O:∀v W,f.p v W->(G d).p v W:=by exact fun _ _ h=>h):qO F m P w0 ops G ⟨some d,.load t x,ty,pos,aft,none⟩:=
 qG (fun _ e=>by cases e) (fun _ e=>by cases e) fun b W hb hh=>by
  obtain⟨a,q,cs,e,h2,h3⟩:=J _ _ (hh x (by simp[Op.operands]))
  obtain⟨h4,I⟩:=h cs W (C.us _ _ _ h2 (zR hb))
  rw[nJ]at I
  exact⟨_,by simp[execOp,Instr.loadAt,e,Instr.sureAddr,zAu U (h3.below hb) oA],O _ _ I⟩
theorem zLO(f:UF)(k:Nat)(I:jR P t=some k)(O:∀v W,(fct G x).p v W->(fOp w0 C).p v W)(h:∀cs W,C.p cs W->0+k<=cs.length/\f.p (.agg ((cs.drop 0).take k).toArray) W):zEb P w0 ops G ⟨some d,.load t x,ty,pos,aft,none⟩:=
 zGs (fun _ e=>by cases e) fun b W hb J=>by
  obtain⟨a,q,cs,e,h2,h3⟩:=O _ _ (J x (by simp[Op.operands]))
  obtain⟨h4,h5⟩:=h cs W (C.us _ _ _ h2 (zR hb))
  exact⟨.agg (cs.take k).toArray,fun W' hb'=>by simp[execOp,Instr.loadAt,e,Instr.sureAddr,zAu I (h3.below hb') oA]⟩
end
end
section
variable {S:Nat->Prop}{w0:WB}{K:List (Nat×KF)}{B:List Bx}{n:Nat}{ds:List Deferred}{a:Act}{w:WB}{F:Fence}{m:Nat}{P:WH}{ops:Array Oper}{Q:Exit->Act->WB->Prop}
theorem zP8{k:Nat}(I:ops[k]?=some o)(J:Region.wanted o (yielded ops a.tmps)=true)(h:o.wpIn F m P a w (zAV F m P ops Q (k+1)) Q):zAV F m P ops Q k a w:=by
 have hlt:=(xQ.1 I).1
 unfold zAV
 rw[show ops.size-k=(ops.size-(k+1))+1 from oA,eB,eI]
 unfold wpOpIn
 rw[I]
 show(if Region.wanted o (yielded ops a.tmps)=true then _ else _)
 rw[if_pos J]
 exact h
theorem zNa{k:Nat}(J:ops[k]?=some o)(O:Region.wanted o (yielded ops a.tmps)=false)(I:∀f,o.about P w a.eval=some f->F.fn f)(h:zAV F m P ops Q (k+1) (a.put o.dst undef) w):zAV F m P ops Q k a w:=by
 have hlt:=(xQ.1 J).1
 unfold zAV
 rw[show ops.size-k=(ops.size-(k+1))+1 from oA,eB,eI]
 unfold wpOpIn
 rw[J]
 show(if Region.wanted o (yielded ops a.tmps)=true then _ else _)
 rw[O,if_neg fH]
 exact⟨I,h⟩
def zOe(u:WE)(want:Bool):Bool:=match u with| .bool b=>b !=want|_=>true
theorem zMU{k g:Nat}(u:WE)(O:yD ops j=some g)(J:a.tmps.getD g undef=u)(I:zOe u want=true):Region.wanted ⟨some d,op,ty,pos,aft,some (j,want)⟩ (yielded ops a.tmps)=false:=by
 unfold Region.wanted
 show(yielded ops a.tmps j==some want)=false
 unfold yielded
 rw[zDE,O]
 show((match(a.tmps[g]?:WG WE)with|some (.bool b)=>some b|_=>none)==some want)=false
 cases e:a.tmps[g]? with
 |none=>rfl
 |some x=>
  have U:x=u:=by rw[xV,e]at J;exact J
  subst U
  cases x<;>first|rfl|(simp[zOe]at I;simp[I])
theorem zMV{k g:Nat}(J:yD ops j=some g)(I:a.tmps.getD g undef=.bool want):Region.wanted ⟨some d,op,ty,pos,aft,some (j,want)⟩ (yielded ops a.tmps)=true:=by
 unfold Region.wanted
 show(yielded ops a.tmps j==some want)=true
 unfold yielded
 rw[zDE,J]
 show((match(a.tmps[g]?:WG WE)with|some (.bool b)=>some b|_=>none)==some want)=true
 cases e:a.tmps[g]? with
 |none=>rw[xV,e]at I;cases I
 |some x=>
  have O:x=.bool want:=by rw[xV,e]at I;exact I
  subst O
  simp
theorem zCh{k g:Nat}(u:WE)(O:ops[k]?=some ⟨some d,op,ty,pos,aft,some (j,want)⟩)(hj:yD ops j=some g)(h:StS S w0 K B n ds a w)(hu:∀v W,(zAb K B g).p v W->v=u)(J:zOe u want=true)(U:jY K B n d=true)
  (fin:∀a w,StS S w0 ((d,.u (UF.eq undef))::K) B n ds a w->zAV F m P ops Q (k+1) a w)(I:∀f,F.fn f:=by exact fun _=>trivial):zAV F m P ops Q k a w:=
 zNa O (zMU (k:=k) u hj (hu _ _ (h.at.sl g)) J) (fun f _=>I f) (fin _ _ (h.set U (xG _ _) rfl))
theorem zCb{k g:Nat}(f:UF)(U:ops[k]?=some ⟨some d,op,ty,pos,aft,some (j,want)⟩)(hj:yD ops j=some g)(h:StS S w0 K B n ds a w)(hu:∀v W,(zAb K B g).p v W->v=.bool want)(hf:jY K B n d=true)(J:qO F m P w ops (upd (zAb K B) [(d,f.tS)]) ⟨some d,op,ty,pos,aft,none⟩)
  (I:(zDY ⟨some d,op,ty,pos,aft,none⟩).contains d=false)(fin:∀a w,StS S w0 ((d,.u f)::K) B n ds a w->zAV F m P ops Q (k+1) a w):zAV F m P ops Q k a w:=by
 refine zP8 U (zMV (k:=k) hj (hu _ _ (h.at.sl g))) (J a w _ Q (xG _ _) (fun t ht=>?_) fun v W' hv hb=>fin _ _ (h.set hf hb ?_))
 .have O:Nat.beq d t=false:=by
   cases e:Nat.beq d t with
   |false=>rfl
   |true=>
    have:=cH e
    subst this
    rw[cE.2 ht]at I
    cases I
  show(bif Nat.beq d t then f.tS else zAb K B t).p _ _
  rw[O]
  exact h.at.sl t
 .have:=hv d rfl
  have e:(upd (zAb K B) [(d,f.tS)]) d=f.tS:=by
   show(bif Nat.beq d d then f.tS else _)=_
   rw[show Nat.beq d d=true from mD d]
   rfl
  rw[e]at this
  exact this
end
abbrev GW(wb:WB):WB->Prop:=fun W=>bW wb W
theorem zMB(h:bW wb w):Gr (GW wb) w:=fun _ hb=>h.trans (hb.mono h.size)
theorem zEb.c(h:zEb P wb ops G o)(hb:bW wb w):FdC P (GW wb) w ops G o:=fun b W J I=>h b W (hb.trans (J.mono hb.size)) I
section
variable {S:Nat->Prop}{w0:WB}{K:List (Nat×KF)}{B:List Bx}{n:Nat}{ds:List Deferred}{a:Act}{w:WB}{F:Fence}{m:Nat}{P:WH}{ops:Array Oper}{Q:Exit->Act->WB->Prop}{wb:WB}{CW:WB->Prop}{D:List Nat}
theorem zDQ(h:o.guard=none):Region.wanted o (yielded ops a.tmps)=true:=by unfold Region.wanted;rw[h]
theorem zLd(J:Region.ready .any ops (lst ops.size D)=[i])(ho:ops[i]?=some o)(hw:Region.wanted o (yielded ops a.tmps)=true)(h:o.wpIn F m P a w (fun a' w'=>CW w'/\zGO F m P ops CW Q (i::D) a' w') (jW Q)):zGO F m P ops CW Q D a w:=by
 have hi:=(cO.1 (show i∈Region.ready .any ops (lst ops.size D) by rw[J];simp)).1
 have I:=(zEu hi).1
 have O:=zAx hi
 rw[zH3 I]at O
 unfold zGO
 rw[<-O]
 refine⟨fun e=>(by rw[J]at e;cases e),fun j hj=>?_⟩
 rw[J]at hj
 obtain rfl:j=i:=by simpa using hj
 unfold wpOpIn
 rw[ho]
 show(if Region.wanted o (yielded ops a.tmps)=true then _ else _)
 rw[if_pos hw]
 refine Oper.wpIn_mono (fun a' w' U=>⟨.inr U.1,?_⟩) h
 rw[zH3 I]
 exact U.2
theorem zLe{gd:WG (Nat×Bool)}{v:WE}(Ds:List CU)(hwb:bW wb w)(h:StS S w0 K B n [] a w)(hb0:w0.heap.size<=wb.heap.size)(hr:zAO w wb.heap.size e z v Cs)
  (ho:ops[i]?=some ⟨some d,.call ⟨.builtin .append,#[x,y],#[t,t]⟩,ty,pos,aft,gd⟩)(hw:Region.wanted ⟨some d,.call ⟨.builtin .append,#[x,y],#[t,t]⟩,ty,pos,aft,gd⟩ (yielded ops a.tmps)=true)(hrd:Region.ready .any ops (lst ops.size D)=[i])(happ:zE8 P t=some (e,z,true))(hf:jY K B n d=true)
  (hx:a.eval x=v)(hy:(SF.row z Ds).p (a.eval y) w)(hD:∀C,C∈Ds->CU.ok z C)(hsz:Cs.length+Ds.length<=140000000000)(hB:∀q,q∈B->q.b<wb.heap.size)
  (fin:∀v' a' w',bW wb w'->zAO w' wb.heap.size e z v' (Cs++Ds)->StS S w0 ((d,.u (UF.eq v'))::K) B n [] a' w'->zGO F m P ops (GW wb) Q (i::D) a' w'):zGO F m P ops (GW wb) Q D a w:=by
 obtain⟨v',w',hrun,g1,g2,_⟩:=zHC (P:=P) (ty:=ty) happ hr hy hD hsz hwb.size
 have hrun2:(execOp a.eval ⟨some d,.call ⟨.builtin .append,#[x,y],#[t,t]⟩,ty,pos,aft,gd⟩).run P w=.ok (.value v') w':=by
  simp only[execOp,resolve,invoke,builtin,cC,cF,cM,cQ,xY,bP,hx,hrun]
 have hk:y7 w w':=hr.keepU g2
 have hlt:=hr.lt
 have s1:StS S w0 K B n [] a w':=by
  refine⟨?_,h.size,h.nd,fun q hq=>KF.us (h.sl q hq) hk,?_,⟨[],Marks.nil _ _⟩,h.so⟩
  .cases hv:v.ownBlock with
   |none=>
    refine⟨g2.os.trans h.gr.os,g2.tape.trans h.gr.tape,g2.output.trans h.gr.output,xR h.gr.size g2.size,fun k hk1 hk2=>?_⟩
    exact(g2.block k (vV hk1 h.gr.size) (by rw[hv];simp)).trans (h.gr.block k hk1 hk2)
   |some g=>exact h.gr.grown (by rw[hv]at g2;exact g2) (.inl (xR hb0 (hlt g hv).1))
  .refine wO hk B (fun q hq=>?_) h.bx
   obtain⟨_,_,hc,h3,_⟩:=h.bx.mem q hq
   refine g2.block _ (xQ.1 h3).1 fun e=>?_
   have h4:=hlt _ e.symm
   have:=hB q hq
   omega
 have hb':bW wb w':=⟨g2.os.trans hwb.os,g2.tape.trans hwb.tape,g2.output.trans hwb.output,xR hwb.size g2.size,fun k hk1=>(g2.block k (vV hk1 hwb.size) (fun e=>by have:=hlt _ e.symm;omega)).trans (hwb.block k hk1)⟩
 refine zLd hrd ho hw ⟨fun f hf=>(by
  unfold Oper.about at hf
  simp[resolve,go_sem]at hf),?_⟩
 rw[bH _ _ _ (fun _ e=>by cases e),hrun2]
 exact⟨hb',fin v' _ w' hb' g1 (s1.set hf (xG _ _) rfl)⟩
theorem zDt{c kk:Nat}(C:CU)(f:SF)(h:StS S w0 K B n ds a w)(ho:ops[i]?=some ⟨none,.store t (.tmp c) x,ty,pos,aft,none⟩)(ha:Region.ready .any ops (lst ops.size D)=[i])(O:jR P t=some kk){y:Bx}(hB:zFk B c=some y)(h9:y.r=false)(h8:y.e=t)(h7:∀cs W,y.c.p cs W->cs.length=kk)
  (hx:∀v W,(Wd.fct (zAb K B) x).p v W->f.p v W)(hv:∀v W,f.p v W->∃vs:List WE,v=.agg vs.toArray/\vs.length=kk/\(∀u,u∈vs->u.oneCell'=true)/\vs.all zY=true/\C.p vs W)(h0:∀vs:List WE,f.p (.agg vs.toArray) w->Gr CW (w.setRow y.b vs.toArray))
  (fin:∀w',Gr CW w'->(∀k,k≠y.b->w'.heap[k]?=w.heap[k]?)->StS S w0 K (zFh B c C) n ds a w'->zGO F m P ops CW Q (i::D) a w'):zGO F m P ops CW Q D a w:=by
 obtain⟨hy,h6⟩:=zAp hB
 obtain⟨cs,h1,h2,h3,h4,h5⟩:=h.bx.mem y hy
 obtain⟨vs,e,hl,I,J,hC⟩:=hv _ _ (hx _ _ (h.fct x))
 rw[h6]at h1
 have U:y7 w (w.setRow y.b vs.toArray):=zCi h3 (by simpa using h5)
 have hg:=h0 vs (by rw[<-e];exact hx _ _ (h.fct x))
 exact zLd ha ho (zDQ rfl) (zLs O h8 (h7 _ _ h4) h1 h3 e hl I ⟨hg _ (xG _ _),fin _ hg (fun k U=>mI w y.b k _ U) (h.turn hB h9 (zBG w y.b vs.toArray) (tA w y.b cs.toArray vs.toArray y.e (0,0) h3) (C.us _ _ _ hC U) J)⟩)
end
section
variable {F:Fence}{m:Nat}{P:WH}{w0:WB}{ops:Array Oper}{G:Nat->SF}{d:Tmp}{ty:WF}{pos:String}{aft:Array Edge}
def vD(W:WB)(e:WF):SF:=⟨fun v w=>∃g,v=.slice (some ⟨g,0,none⟩) 0 0/\W.heap.size<=g/\w.heap[g]?=some (.cells #[] e (0,0)),fun _ _ _ ⟨g,h1,h2,h3⟩ hb=>⟨g,h1,h2,(hb.block g (xQ.1 h3).1).trans h3⟩⟩
theorem zOl(I:zE8 P t=some (e,z,true))(J:∀v W,(vD w0 e).p v W->(G d).p v W:=by exact fun _ _ h=>h):qO F m P w0 ops G ⟨some d,.buildSlice t 0 #[],ty,pos,aft,none⟩:=
 zOo (fun _ e=>by cases e) (fun _ e=>by cases e) fun b W hb hh=>by
  obtain⟨ht,i,zv,hi,hz,hs,hby0,hzs,hzn,hz0⟩:=zCG I
  refine⟨.slice (some ⟨W.heap.size,0,none⟩) 0 0,.cells #[] e,?_,J _ _ ⟨W.heap.size,rfl,hb.size,xM W _⟩⟩
  simp[execOp,Instr.buildSlice,bI ht,sizeOf,typeInfo,hi,newRow,Instr.fill]
  congr 2
  exact Array.eq_empty_of_size_eq_zero fC
theorem zUq(Ds:List CU)(happ:zE8 P t=some (e,z,true))(hx:∀v W,(fct G x).p v W->(vD w0 e).p v W)(hy:∀v W,bW w0 W->(fct G y).p v W->(SF.row z Ds).p v W)(hD:∀C,C∈Ds->CU.ok z C)(hsz:Ds.length<=140000000000)(hd:∀v W,(wI w0 e z Ds).p v W->(G d).p v W:=by exact fun _ _ h=>h):qO F m P w0 ops G ⟨some d,.call ⟨.builtin .append,#[x,y],#[t,t]⟩,ty,pos,aft,none⟩:=by
 intro bb W K Q hb hr hK
 obtain⟨g,ex,hg,hgc⟩:=hx _ _ (qB hr (x:=x) (by simp[Op.operands,Call.operands]))
 have h2:=hy _ _ hb (qB hr (x:=y) (by simp[Op.operands,Call.operands]))
 obtain⟨ht,i,zv,hi,hz,hs,hby0,hzs,hzn,hz0⟩:=zCG happ
 have hemp:zAO W w0.heap.size e z (.slice (some ⟨g,0,none⟩) 0 0) []:=.inr ⟨g,0,#[],rfl,hg,hgc,vQ _,vS _,fG,rfl,fun i C hi=>by simp at hi⟩
 refine⟨fun f hf=>(by
  unfold Oper.about at hf
  simp[resolve,go_sem]at hf),?_⟩
 rw[bH _ _ _ (fun _ e=>by cases e)]
 have hev:∀v' W',(Builtin.append_ #[t,t] ty #[.slice (some ⟨g,0,none⟩) 0 0,bb.eval y]).run P W=.ok v' W'->(execOp bb.eval ⟨some d,.call ⟨.builtin .append,#[x,y],#[t,t]⟩,ty,pos,aft,none⟩).run P W=.ok (.value v') W':=fun v' W' h=>by
  simp only[execOp,resolve,invoke,builtin,cC,cF,cM,cQ,xY,bP,ex,h]
 by_cases h0:Ds=[]
 .subst h0
  obtain⟨A,c,ey,hlc,hcm,hAn,hel⟩:=h2
  have hrun:(Builtin.append_ #[t,t] ty #[.slice (some ⟨g,0,none⟩) 0 0,bb.eval y]).run P W=.ok (.slice (some ⟨g,0,none⟩) 0 0) W:=by
   rw[ey]
   cases A with
   |none=>simp[Builtin.append_,bI ht,sizeOf,typeInfo,hi,Builtin.lenOf,Builtin.firstCells,storeCells]
   |some ad=>simp[Builtin.append_,bI ht,sizeOf,typeInfo,hi,Builtin.lenOf,Builtin.firstCells,loadCells,loadCellsFrom,storeCells]
  rw[hev _ _ hrun]
  exact hK _ _ (fun d' e'=>by cases e';exact hd _ _ hemp) (xG _ _)
 .have h0:0<Ds.length:=gF.2 h0
  have hmx:Ds.length<=maxLen:=by unfold maxLen;omega
  have hbb:Ds.length*i.bytes<=140737488355328:=xR (gT hsz hby0) fH
  obtain⟨A,c,ey,hlc,hcm,hAn,hel⟩:=h2
  obtain⟨D,Ds',rfl⟩:∃D Ds',Ds=D::Ds':=by
   cases Ds with
   |nil=>simp at h0
   |cons D Ds'=>exact⟨D,Ds',rfl⟩
  obtain⟨b',o',cs',rfl,_⟩:=hel 0 D rfl
  obtain⟨news,n1,n2,n3,n4,n5⟩:=zEj (W:=W) (b:=b') (z:=z) (D::Ds') o' hD fun i C hiC=>by
   obtain⟨b'',o'',cs'',e',m1,m2⟩:=hel i C hiC
   cases e'
   exact⟨cs'',m1,m2⟩
  have hgr:=run_append_grow (P:=P) W t ty e i zv ht hi hz ⟨g,0,none⟩ 0 0 [] fC fC ⟨b',o',none⟩ (D::Ds').length c news (by rw[hs];exact n1) (fun j u hj=>by rw[xI];exact n2 j u hj) oA oA (growslice_fits oA (by simpa using hbb))
  simp only[uM,Array.empty_append]at hgr
  have hge:=grownCap_ge W (D::Ds').length 0 e
  have hcm':grownCap W (D::Ds').length 0 e<=maxLen:=tF W (D::Ds').length 0 e hmx
  rw[hev _ _ (by rw[ey];exact hgr)]
  have hbw:bW W (W.drew.alloc (.cells (news.toArray++Builtin.zeroCells zv.cells (grownCap W (D::Ds').length 0 e-(D::Ds').length)) e)):=⟨rfl,rfl,rfl,fG,fun k hk=>tC W.drew _ hk⟩
  refine hK _ _ (fun d' e'=>by
   cases e'
   refine hd _ _ (.inr ⟨W.heap.size,_,_,rfl,hb.size,xM W.drew _,hge,hcm',?_,?_,?_⟩)
   .simp only[tG,bN,tD,hzs,n1,<-vU]
    congr 1
    omega
   .rw[tE,lZ,n4,zBI hzn];rfl
   .have:=zDw (Cs:=[]) (cs:=[]) (es:=(Builtin.zeroCells zv.cells (grownCap W (D::Ds').length 0 e-(D::Ds').length)).toList) fC n1 fC n5 (zR hbw)
    simpa using this) hbw
theorem zGr:∀i o,inL [] i=true->ops[i]?=some o->FdC P CW w0 ops G o:=fun _ _ h=>by cases h
theorem jA{k:Nat}{o':Oper}{l:List Nat}(O:ops[k]?=some o'){CW:WB->Prop}(h:FdC P CW w0 ops G o')(J:∀i o,inL l i=true->ops[i]?=some o->FdC P CW w0 ops G o):∀i o,inL (k::l) i=true->ops[i]?=some o->FdC P CW w0 ops G o:=fun i o hi I=>by
 have hi:(bif Nat.beq k i then true else inL l i)=true:=hi
 cases e:Nat.beq k i with
 |true=>
  have:=cH e
  subst this
  rw[O]at I
  cases I
  exact h
 |false=>
  rw[e]at hi
  exact J i o hi I
end
section
variable {S:Nat->Prop}{F:Fence}{m:Nat}{P:WH}{Q:Exit->Act->WB->Prop}{w0 w1:WB}{K K0:List (Nat×KF)}{B B0:List Bx}{n n0:Nat}{ds ds0:List Deferred}{a a0:Act}{w:WB}
end
def zD7(W W':WB):Prop:=W.heap.size<=W'.heap.size/\∀(q:Nat) (o:Obj),W.heap[q]?=some o->o.isCells=true->W'.heap[q]?=some o
theorem zBz(h:bW W W'):zD7 W W':=⟨h.size,fun q o I _=>(h.block q (xQ.1 I).1).trans I⟩
theorem zEy{o o':Obj}(h:W.heap[l]?=some o)(O:o.isCells=false):zD7 W (W.putObj l o'):=⟨by rw[eK];exact vQ _,fun q o2 I h2=>by
 have J:q≠l:=fun e=>by
  subst e
  rw[h]at I
  cases I
  rw[O]at h2
  cases h2
 exact(bO J).trans I⟩
theorem zD7.keepU(h:zD7 W W'):y7 W W':=fun q u I=>by
 have J:=xK W _ I
 obtain⟨o,ho⟩:∃o,W.heap[q.block]?=some o:=⟨_,cD J⟩
 cases hc:o.isCells with
 |false=>rw[zBA ho hc rfl]at I;cases I
 |true=>exact(bQ ((h.2 _ _ ho hc).trans ho.symm)).trans I
theorem zAO.keepC{v:WE}(h:zAO w base e z v Cs)(O:zD7 w w'):zAO w' base e z v Cs:=h.keep (fun k I=>by
 rcases h with⟨rfl,_⟩|⟨g,cap,cur,rfl,hb,J,_⟩
 .simp[Value.ownBlock]at I
 .simp[Value.ownBlock]at I
  subst I
  exact(O.2 _ _ J rfl).trans J.symm) O.keepU
theorem zBb(h:bW W W')(O:N<=W.heap.size):Itr N W W':=⟨h.os,h.tape,h.output,h.size,fun k J=>h.block k (vV J O),fun k o I _=>(h.block k (xQ.1 I).1).trans I,zR h⟩
structure RndO(N:Nat)(C O:Nat->Prop)(W W':World):Prop where
 os:W'.os=W.os
 tape:W'.tape=W.tape
 output:W'.output=W.output
 size:W.heap.size<=W'.heap.size
 low:∀k:Nat,k<N-> ¬C k->W'.heap[k]?=W.heap[k]?
 own:∀k:Nat,O k->W'.heap[k]?=W.heap[k]?
 keep:y7 W W'
def ItD(P:WH)(gf:Nat)(lb:Array WE)(Ef:Nat->List UF)(N:Nat)(C:Nat->Prop)(w:WB):Prop:=
 ∀(l:Nat) (J:Nat->(Nat->Prop)->WB->Prop) (Z:WB->Prop) (W:WB),w.heap.size<=W.heap.size->bW w W->y7 w W->
  (∀k O O' W1 W2,J k O W1->bW W1 W2->(∀q,O' q->O q∨W1.heap.size<=q)->J k O' W2)->(∀W1 W2,Z W1->bW W1 W2->Z W2)->
  (∀k O W1 xs,k<N->J k O W1->(∀q,O q->W.heap.size<=q/\q<W1.heap.size)->Ev Ef k xs W1->YieldAt Fence.wide 0 P l xs W1 fun e W'=>((e=.returned (.bool true)/\J (k+1) O W')∨(e=.returned (.bool false)/\Z W'))/\RndO w.heap.size C O W1 W')->
  J 0 (fun _=>False) W->Calls P gf (#[.func (.yield l) #[] #[]]++lb) W fun e W'=>(∃v,e=.returned v)/\((∃O,J N O W')∨Z W')
section
variable {S:Nat->Prop}{P:WH}{Q:Exit->Act->WB->Prop}{w0:WB}{K:List (Nat×KF)}{B:List Bx}{n:Nat}{ds:List Deferred}{a:Act}{w:WB}
theorem zJv{o:Obj}{R:Nat->Prop}(hb:BlS (fun k=>inB B k∨k=l∨R k) W W')(U:yT S w0 a W B)(ho:W.heap[l]?=some o)(hc:o.isCells=false)(hR:∀q,R q->∃(cs:Array WE) (t:WF) (z:Nat×Nat),W.heap[q]?=some (.cells cs t z)/\cs.toList.all zY=true):y7 W W':=fun q u I=>by
 have O:=xK W _ I
 by_cases e:inB B q.block∨q.block=l∨R q.block
 .exfalso
  rcases e with⟨x,hx,J,_⟩|J|J
  .obtain⟨cs,_,_,h3,_,h5⟩:=U.mem x hx
   have:=zCD h3 h5 J.symm I
   cases this
  .rw[zBA ho hc J]at I
   cases I
  .obtain⟨cs,t,z,h3,h5⟩:=hR _ J
   have:=zCD (cs:=cs.toList) (by simpa using h3) h5 rfl I
   cases this
 .exact(bQ (hb.block _ O e)).trans I
theorem StS.is1{t:Nat}{r:Bool}{v:WE}(h:StS S w0 K [⟨t,e,C,b,r⟩] n ds a w)(I:w.heap[b]?=some (.cells #[v] e (0,0))):StS S w0 K [⟨t,e,wD [v],b,r⟩] n ds a w:=by
 refine⟨h.gr,h.size,h.nd,h.sl,?_,h.mks,h.so⟩
 obtain⟨⟨cs,O,h2,h3,h4,U,h6⟩,h7⟩:=h.bx
 rw[show w.heap[b]?=_ from I]at h3
 injection h3 with h3
 injection h3 with h3
 have J:cs=[v]:=by simpa using vR Array.toList h3.symm
 exact⟨⟨cs,O,h2,I.trans (by rw[J]),J,U,h6⟩,h7⟩
theorem zSb{k:Nat}{v:WE}(Ds:List CU)(h:StS S w1 K B n [] a w)(hbw:base<=w.heap.size)(hr:zAO w base e z v Cs)(hown:∀g,v.ownBlock=some g->S g∨w1.heap.size<=g)
  (ho:ops[k]?=some ⟨some d,.call ⟨.builtin .append,#[x,y],#[t,t]⟩,ty,pos,aft,none⟩)(happ:zE8 P t=some (e,z,true))(hf:jY K B n d=true)(hu:(K.all fun q=>zJP q.2)=true)
  (hx:a.eval x=v)(hy:(SF.row z Ds).p (a.eval y) w)(hD:∀C,C∈Ds->CU.ok z C)(hsz:Cs.length+Ds.length<=140000000000)(hB:∀q,q∈B->v.ownBlock≠some q.b)
  (fin:∀v' a' w',w.heap.size<=w'.heap.size->zAO w' base e z v' (Cs++Ds)->(v'.ownBlock=v.ownBlock∨v'.ownBlock=some w.heap.size)->(∀q,q∈B->v'.ownBlock≠some q.b)->StS S w1 ((d,.u (UF.eq v'))::K) B n [] a' w'->zAV F m P ops Q (k+1) a' w'):zAV F m P ops Q k a w:=by
 obtain⟨v',w',hrun,g1,g2,g3⟩:=zHC (P:=P) (ty:=ty) happ hr hy hD hsz hbw
 have hrun2:(execOp a.eval ⟨some d,.call ⟨.builtin .append,#[x,y],#[t,t]⟩,ty,pos,aft,none⟩).run P w=.ok (.value v') w':=by
  simp only[execOp,resolve,invoke,builtin,cC,cF,cM,cQ,xY,bP,hx,hrun]
 refine zAi ho rfl ⟨fun f hf=>(by
  unfold Oper.about at hf
  simp[resolve,go_sem]at hf),?_⟩
 rw[bH _ _ _ (fun _ e=>by cases e),hrun2]
 have hk:y7 w w':=hr.keepU g2
 have s1:StS S w1 K B n [] a w':=by
  refine⟨?_,h.size,h.nd,fun q hq=>?_,?_,⟨[],Marks.nil _ _⟩,.inl (y6 hu)⟩
  .cases hv:v.ownBlock with
   |none=>
    refine⟨g2.os.trans h.gr.os,g2.tape.trans h.gr.tape,g2.output.trans h.gr.output,xR h.gr.size g2.size,fun k hk1 hk2=>?_⟩
    exact(g2.block k (vV hk1 h.gr.size) (by rw[hv];simp)).trans (h.gr.block k hk1 hk2)
   |some g=>exact h.gr.grown (by rw[hv]at g2;exact g2) ((hown g hv).symm)
  .obtain⟨f,ef⟩:=y6 hu q hq
   have h1:=h.sl q hq
   rw[ef]at h1 ⊢
   exact f.us _ _ _ h1 hk
  .refine wO hk B (fun q hq=>?_) h.bx
   obtain⟨_,_,hc,h3,_⟩:=h.bx.mem q hq
   exact g2.block _ (xQ.1 h3).1 fun e=>hB q hq e.symm
 refine fin v' _ w' g2.size g1 g3 (fun q hq e=>?_) (s1.set hf (xG _ _) rfl)
 rcases g3 with g3|g3
 .exact hB q hq (g3.symm.trans e)
 .obtain⟨_,_,_,h3,_⟩:=h.bx.mem q hq
  have h5:=(xQ.1 h3).1
  have h6:=g3.symm.trans e
  injection h6 with h6
  omega
theorem StS.yieldedO(h:StS S w0 K B n [] a w){N:Nat}{C O:Nat->Prop}{w':WB}(J:RndO N C O w w')(hu:∀q,q∈K->∃f,q.2=.u f)(hC:∀x,x∈B->x.b<N/\ ¬C x.b):StS (inB B) w' K B n [] a w':=by
 refine⟨BlS.refl _ _,h.size,h.nd,fun q U=>?_,wO J.keep B (fun x I=>J.low _ (hC x I).1 (hC x I).2) (wR (a:=a) B (fun x I=>?_) (fun _ _=>rfl) h.bx),⟨[],Marks.nil _ _⟩,.inl hu⟩
 .obtain⟨f,e⟩:=hu q U
  have:=h.sl q U
  rw[e]at this ⊢
  exact f.us _ _ _ this J.keep
 .cases hrr:x.r with
  |true=>exact .inl rfl
  |false=>exact .inr (.inr ⟨x,I,rfl,hrr⟩)
theorem zHq{k:Nat}{Jn Z:WB->Prop}{C O:Nat->Prop}(ho:ops[k]?=some ⟨some d,.call ⟨.value y,xs,ats⟩,ty,pos,aft,none⟩)
  (h:StS S w0 K B n [] a w)(hy:∀v W,(Wd.fct (zAb K B) y).p v W->v=.func (.yield l) #[] #[])(hf:jY K B n d=true)(hu:∀q,q∈K->∃f,q.2=.u f)(hC:∀x,x∈B->x.b<N/\ ¬C x.b)
  (Y:YieldAt Fence.wide 0 P l (xs.map a.eval) w fun e W'=>((e=.returned (.bool true)/\Jn W')∨(e=.returned (.bool false)/\Z W'))/\RndO N C O w W')
  (fin:∀a' w' bv,RndO N C O w w'->((bv=true/\Jn w')∨(bv=false/\Z w'))->StS (inB B) w' ((d,.u (uB bv))::K) B n [] a' w'->zAV Fence.wide 0 P ops Q (k+1) a' w'):zAV Fence.wide 0 P ops Q k a w:=by
 have J:a.eval y=.func (.yield l) #[] #[]:=hy _ _ (h.fct y)
 obtain⟨fn,tmps,assign,body,I,hR⟩:=Y
 refine zAi ho rfl ⟨fun g _=>trivial,?_⟩
 rw[bH _ _ _ (fun _ e=>by cases e),zJA J,I]
 rw[Oper.uponIn_round]
 refine⟨fun hh=>absurd hh (by simp[Fence.wide]),RoundIn.mono hR fun e W' he=>?_⟩
 obtain⟨he,U⟩:=he
 have s1:=h.yieldedO U hu hC
 rcases he with⟨rfl,hJ⟩|⟨rfl,hZ⟩
 .exact fin _ _ true U (.inl ⟨rfl,hJ⟩) (s1.set hf (xG _ _) rfl)
 .exact fin _ _ false U (.inr ⟨rfl,hZ⟩) (s1.set hf (xG _ _) rfl)
end
def ItM(P:WH)(gf:Nat)(lb:Array WE)(Ef:Nat->List UF)(N:Nat)(C M:Nat->Prop)(w:WB):Prop:=
 ∀(l:Nat) (J:Nat->(Nat->Prop)->WB->Prop) (Z:WB->Prop) (W:WB),w.heap.size<=W.heap.size->bW w W->y7 w W->
  (∀k O O' W1 W2,J k O W1->bW W1 W2->(∀q,O' q->O q∨W1.heap.size<=q)->J k O' W2)->(∀W1 W2,Z W1->bW W1 W2->Z W2)->
  (∀k O W1,J k O W1->∀q,M q->W1.heap[q]?=w.heap[q]?)->
  (∀k O W1 xs,k<N->J k O W1->(∀q,O q->W.heap.size<=q/\q<W1.heap.size)->Ev Ef k xs W1->YieldAt Fence.wide 0 P l xs W1 fun e W'=>((e=.returned (.bool true)/\J (k+1) O W')∨(e=.returned (.bool false)/\Z W'))/\RndO w.heap.size (fun q=>C q∨M q) O W1 W')->
  J 0 (fun _=>False) W->Calls P gf (#[.func (.yield l) #[] #[]]++lb) W fun e W'=>(∃v,e=.returned v)/\((∃O,J N O W')∨Z W')
section
variable {S:Nat->Prop}{P:WH}{Q:Exit->Act->WB->Prop}{w0:WB}{K:List (Nat×KF)}{B:List Bx}{n:Nat}{ds:List Deferred}{a:Act}{w:WB}
theorem StS.turnedM(h:StS S w0 K B n ds a w){B':List Bx}{S' S2:Nat->Prop}{w1 w':WB}{a1:Act}{l N:Nat}{o:Obj}(hb:BlS S2 w w'){M:Nat->Prop}(h2:∀q,q<N->S2 q->inB B q∨q=l∨M q)(h5:∀q,M q->w0.heap.size<=q/\∃(cs:Array WE) (t:WF) (z:Nat×Nat),w.heap[q]?=some (.cells cs t z))(hN:w0.heap.size<=N)(hU:y7 w w')(ho:w.heap[l]?=some o)(O:o.isCells=false)(hl:w0.heap.size<=l)
  (hD:∀Ds,Marks w0.heap.size w ds Ds->l ∉ Ds/\∀D,D∈Ds->D<N)(hk:B'.map zGC=B.map zGC)(hx:yT S' w1 a1 w' B'):StS S w0 K B' n ds a w':=by
 have h7:∀k,k<w0.heap.size-> ¬S k-> ¬S2 k:=fun k hk hs I=>by
  rcases h2 k oA I with⟨x,hx,h1,h2⟩|I|I
  .obtain⟨_,_,O,_⟩:=h.bx.mem x hx
   rcases O with O|O|O
   .rw[h2]at O;cases O
   .omega
   .exact hs (h1▸O)
  .omega
  .have:=(h5 k I).1;omega
 refine⟨⟨hb.os.trans h.gr.os,hb.tape.trans h.gr.tape,hb.output.trans h.gr.output,xR h.gr.size hb.size,fun k hk hs=>(hb.block k (vV hk h.gr.size) (h7 k hk hs)).trans (h.gr.block k hk hs)⟩,
  h.size,h.nd,fun q hq=>KF.us (h.sl q hq) hU,vG B B' hk h.bx hx,?_,h.so⟩
 obtain⟨Ds,J⟩:=h.mks
 refine⟨Ds,J.eq,J.nodup,fun D U=>⟨(J.at_ D U).1,(hb.block D (J.lt D U) fun I=>?_).trans (J.at_ D U).2⟩⟩
 rcases h2 D ((hD Ds J).2 D U) I with⟨x,hx,h1,_⟩|I|I
 .obtain⟨cs,_,_,h3,_⟩:=h.bx.mem x hx
  rw[h1,(J.at_ D U).2]at h3
  cases h3
 .subst I
  exact(hD Ds J).1 U
 .obtain⟨cs,t,z,h3⟩:=(h5 D I).2
  rw[(J.at_ D U).2]at h3
  cases h3
theorem zFT{g:WL}{ps:Array Tmp}{assign body:Code}{lb:Array WE}{Ef:Nat->List UF}
  (Bf:Nat->List Bx)(Bz:List Bx)(cz:Code)(Kr:Nat->List (Nat×KF))(h:StS S w0 K (Bf 0) n ds a w)
  (hg:∀v W,(Wd.fct (zAb K (Bf 0)) g).p v W->v=.func (.func gf) #[] lb)(eg:∀args w,(callFunc gf args).run P w=.ok (.enter gf args) w)
  {M:Nat->Prop}(hM:∀q,M q->w0.heap.size<=q/\q<w.heap.size/\∃(cs:Array WE) (t:WF) (z:Nat×Nat),w.heap[q]?=some (.cells cs t z)/\cs.toList.all zY=true)(hit:ItM P gf lb Ef N (inB (Bf 0)) M w){X:Nat->(Nat->Prop)->WB->Prop}{XZ:WB->Prop}(hX:∀k R W W',zD7 W W'->X k R W->X k R W')(hXZ:∀W W',zD7 W W'->XZ W->XZ W')(hx0:X 0 (fun _=>False) w)(hEl:∀k,(Ef k).length=ps.size)
  (hKr:∀k q,q∈Kr k->(q∈K/\zJP q.2=true/\ps.toList.contains q.1=false)∨ ∃(j:Nat) (f:UF),ps[j]?=some q.1/\(Ef k)[j]?=some f/\q.2=.u f)
  (hps:zAf ps.toList=true)(hpl:(ps.toList.all fun p=>Nat.blt p n)=true)(hpB:((Bf 0).all fun x=> !ps.toList.contains x.t)=true)
  (hBf:∀k,(Bf k).map zGC=(Bf 0).map zGC)(hBz:Bz.map zGC=(Bf 0).map zGC)
  (rounds:∀l k R xs W,k<N->X k R W->(∀q,M q->W.heap[q]?=w.heap[q]?)->(∀q,R q->w.heap.size+2<=q/\q<W.heap.size)->w.heap.size+2<=W.heap.size->StS S w0 K (Bf k) n ds a W->StS (fun q=>inB (Bf 0) q∨W.heap.size<=q∨R q∨M q) W (Kr k) (Bf k) n [] { tmps:=(ps.zip xs).foldl (fun t (p,v)=>t.setIfInBounds p v) a.tmps,defers:=[] } W->
   assign.wpIn (Fence.wide.inRound l) 0 P (Exit.then (fun a1 W1=>BlS (fun q=>inB (Bf 0) q∨W.heap.size<=q∨R q∨M q) W W1/\∀W2,zD7 W1 W2->(∀p,W2.cell? p=W1.cell? p)->(∀K B,StS (fun q=>inB (Bf 0) q∨W.heap.size<=q∨R q∨M q) W K B n [] a1 W1->StS (fun q=>inB (Bf 0) q∨W.heap.size<=q∨R q∨M q) W2 K B n [] a1 W2)->
    body.wpIn (Fence.wide.inRound l) 0 P (zZc (fun a2 W3=>StS (fun q=>inB (Bf 0) q∨W.heap.size<=q∨R q∨M q) W2 [] (Bf (k+1)) n [] a2 W3/\∃R',(∀q,R' q->R q∨W.heap.size<=q)/\(∀q,R' q->q<W3.heap.size/\∃(cs:Array WE) (t:WF) (z:Nat×Nat),W3.heap[q]?=some (.cells cs t z)/\cs.toList.all zY=true)/\X (k+1) R' W3/\∀q,M q->W3.heap[q]?=w.heap[q]?) cz (fun a2 W3=>StS (fun q=>inB (Bf 0) q∨W.heap.size<=q∨R q∨M q) W2 [] Bz n [] a2 W3/\XZ W3)) a1 W2) (fun _ _ _=>False))
    { tmps:=(ps.zip xs).foldl (fun t (p,v)=>t.setIfInBounds p v) a.tmps,defers:=[] } W)
  (done:∀D W R,X N R W->StS S w0 K (Bf N) n (mark D::ds) { a with defers:=mark D::a.defers } W->Q .normal { a with defers:=mark D::a.defers } W)
  (stop:∀D W,XZ W->StS S w0 K Bz n (mark D::ds) { a with defers:=mark D::a.defers } W->cz.wpIn Fence.wide 0 P Q { a with defers:=mark D::a.defers } W):
  (Code.rangeFunc g ps assign body).wpIn Fence.wide 0 P Q a w:=by
 refine wpIn_rangeFunc ?_
 intro fn hfn
 show ∃l mark w₁ d w₁' f args w₂,(Instr.enterLoop fn a.tmps ps assign body none).run P w=_/\_
 obtain⟨rec,hrec⟩:∃rec:LoopState->WG Code->Loop,rec=fun st pe=>{ state:=st,pending:=pe,fn,tmps:=a.tmps,params:=ps,assign,body,defers:=w.heap.size }:=⟨_,rfl⟩
 obtain⟨W1,hW1⟩:∃W1,(w.alloc (.deferred (some []))).alloc (.loop (rec .ready none))=W1:=⟨_,rfl⟩
 have hL1:W1.heap[w.heap.size+1]?=some (.loop (rec .ready none)):=by
  rw[<-hW1];have:=cT (w.alloc (.deferred (some []))) (.loop (rec .ready none));rwa [cK]at this
 have hK1:W1.heap[w.heap.size]?=some (.deferred (some [])):=by
  rw[<-hW1];exact(eU _ _ _ fC).trans (cT w _)
 have hb1:bW w W1:=by
  rw[<-hW1];exact((xG _ w).alloc lr _).alloc fC _
 have hz1:W1.heap.size=w.heap.size+2:=by rw[<-hW1];simp
 have hgv:a.eval g=.func (.func gf) #[] lb:=hg _ _ (h.fct g)
 have hold:=h.old
 have hw0:=h.gr.size
 have hi1:Itr w.heap.size w W1:=⟨hb1.os,hb1.tape,hb1.output,hb1.size,fun k hk=>hb1.block k hk,fun k o ho _=>(hb1.block k (xQ.1 ho).1).trans ho,zR hb1⟩
 have hs1:=h.itr hi1 hw0 hold
 have hbk:∀{k:Nat} {x:Bx},x∈Bf k->x.b<w.heap.size:=fun {k x} hx=>by
  obtain⟨y,hy,_,e,_⟩:=zKC (hBf k) hx
  rw[<-e]
  exact hold y hy
 have hbz:∀{x:Bx},x∈Bz->x.b<w.heap.size:=fun {x} hx=>by
  obtain⟨y,hy,_,e,_⟩:=zKC hBz hx
  rw[<-e]
  exact hold y hy
 have hin:∀{q:Nat},inB (Bf 0) q->q<w.heap.size:=fun {q} ⟨x,hx,e,_⟩=>by rw[<-e];exact hold x hx
 have hinz:∀(k:Nat) {q:Nat},inB (Bf k) q->inB (Bf 0) q:=fun k _ hq=>zKn (hBf k) hq
 have hDl:∀{W:WB} {o:Obj},W.heap[w.heap.size+1]?=some o->(∃r,o=.loop r)->∀Ds,Marks w0.heap.size W ds Ds->w.heap.size+1 ∉ Ds:=fun {W o} ho hr Ds hm hh=>by
  obtain⟨r,rfl⟩:=hr
  rw[(hm.at_ _ hh).2]at ho
  cases ho
 have hDs:∀{W:WB} Ds,Marks w0.heap.size W ds Ds->∀D,D∈Ds->D<w.heap.size:=fun {W} Ds hm D hd=>by
  obtain⟨Ds',hm'⟩:=h.mks
  have:Ds=Ds':=by
   have e:=hm.eq.symm.trans hm'.eq
   exact zJs e
  subst this
  exact hm'.lt D hd
 refine⟨w.heap.size+1, [{ target:=.collected w.heap.size,args:=#[] }],W1,{ target:=.fn (.func gf) lb,args:=#[.func (.yield (w.heap.size+1)) #[] #[]] },W1,gf,
  #[.func (.yield (w.heap.size+1)) #[] #[]]++lb,W1,?_,?_,?_,?_,fun h=>absurd h (by simp[Fence.wide]),?_⟩
 .rw[<-hW1,hrec];exact run_enterLoop_outer _ _ _ _ _
 .simp only[resolve,hgv]
  simp[go_sem]
 .intro f' _;trivial
 .simp[invoke,go_sem,eg]
 .refine bB.2 ((hit (w.heap.size+1)
   (fun k O W=>StS S w0 K (Bf k) n ds a W/\W.heap[w.heap.size+1]?=some (.loop (rec .ready none))/\W.heap[w.heap.size]?=some (.deferred (some []))/\w.heap.size+2<=W.heap.size/\∃R,(∀q,R q-> ¬O q/\w.heap.size+2<=q/\q<W.heap.size/\∃(cs:Array WE) (t:WF) (z:Nat×Nat),W.heap[q]?=some (.cells cs t z)/\cs.toList.all zY=true)/\X k R W/\∀q,M q->W.heap[q]?=w.heap[q]?)
   (fun W=>StS S w0 K Bz n ds a W/\W.heap[w.heap.size+1]?=some (.loop (rec .done (some cz)))/\W.heap[w.heap.size]?=some (.deferred (some []))/\w.heap.size+2<=W.heap.size/\XZ W)
   W1 oA hb1 (zR hb1)
   (fun k O O' A B ⟨h1,h3,h4,h5,R,hR,h6,h7⟩ hi hO=>⟨h1.itr (zBb hi h5) oA (fun x hx=>by have:=hbk hx;omega),(zBb hi h5).oth _ _ h3 rfl,(zBb hi h5).oth _ _ h4 rfl,xR h5 hi.size,R,fun q hq=>by
    obtain⟨r1,r2,r3,cs,t,z,r4,r5⟩:=hR q hq
    refine⟨fun ho=>?_,r2,vV r3 hi.size,cs,t,z,(hi.block q r3).trans r4,r5⟩
    rcases hO q ho with e|e
    .exact r1 e
    .omega,hX _ _ _ _ (zBz hi) h6,fun q hq=>(hi.block q (by have:=(hM q hq).2.1;omega)).trans (h7 q hq)⟩)
   (fun A B ⟨h1,h3,h4,h5,h6⟩ hi=>⟨h1.itr (zBb hi h5) oA (fun x hx=>by have:=hbz hx;omega),(zBb hi h5).oth _ _ h3 rfl,(zBb hi h5).oth _ _ h4 rfl,xR h5 hi.size,hXZ _ _ (zBz hi) h6⟩)
   (fun k O W1 hJ=>by obtain⟨_,_,_,_,_,_,_,h7⟩:=hJ;exact h7)
   ?_ ⟨hs1,hL1,hK1,oA,fun _=>False,fun q hq=>hq.elim,hX _ _ _ _ (zBz hb1) hx0,fun q hq=>hb1.block q (hM q hq).2.1⟩).mono ?_)
  .rintro k O W xs hk ⟨hs,hl,hd,hsz5,R,hR,hxk,hmk⟩ hOr ⟨hxs,hev⟩
   have hlt:w.heap.size+1<W.heap.size:=(xQ.1 hl).1
   have hy:=run_yield (P:=P) (args:=xs) hl (by rw[hrec];exact hxs.trans (hEl k))
   rw[hrec]at hy
   have hxs':xs.size=ps.size:=hxs.trans (hEl k)
   have hzip:(ps.zip xs).foldl (fun t (p,v)=>t.setIfInBounds p v) a.tmps=(ps.toList.zip xs.toList).foldl (fun t (p,v)=>t.setIfInBounds p v) a.tmps:=by
    rw[<-Array.foldl_toList,Array.toList_zip]
   have hzf:(ps.toList.zip xs.toList).map (·.1)=ps.toList:=by
    rw[List.map_fst_zip]
    simp[hxs']
   have hnd:ps.toList.Nodup:=jJ hps
   have hs0:StS (fun q=>inB (Bf 0) q∨W.heap.size<=q∨R q∨M q) W (Kr k) (Bf k) n [] { tmps:=(ps.zip xs).foldl (fun t (p,v)=>t.setIfInBounds p v) a.tmps,defers:=[] } W:=by
    refine⟨BlS.refl _ _,?_,rfl,fun q hq=>?_,?_,⟨[],Marks.nil _ _⟩,.inl fun q hq=>?_⟩
    .show((ps.zip xs).foldl (fun t (p,v)=>t.setIfInBounds p v) a.tmps).size=n
     rw[hzip,zFL]
     exact h.size
    .show q.2.p W (((ps.zip xs).foldl (fun t (p,v)=>t.setIfInBounds p v) a.tmps).getD q.1 undef) W
     rw[hzip]
     rcases hKr k q hq with⟨h1,h2,h3⟩|⟨j,f,h1,h2,h3⟩
     .rw[zCd q.1 _ _ (by rw[hzf];intro hc;rw[cE.2 hc]at h3;cases h3)]
      have:=hs.sl q h1
      cases hq2:q.2 with
      |u f=>rw[hq2]at this;exact this
      |o f=>rw[hq2]at h2;cases h2
     .have hj:j<ps.size:=(xQ.1 h1).1
      have hjx:j<xs.size:=oA
      have e1:=hev j f h2
      have e2:xs.getD j undef=xs[j]:=by rw[xV,cD hjx];rfl
      have e3:ps[j]=q.1:=(xQ.1 h1).2
      rw[zIA _ _ q.1 xs[j] (by rw[hzf];exact hnd) (by
       refine List.mem_iff_getElem?.2 ⟨j,?_⟩
       rw[List.getElem?_zip_eq_some]
       exact⟨by rw[pN];exact h1,by rw[pN,cD hjx]⟩) (by
       have:=xT.1 hpl q.1 (by rw[<-e3];exact Array.mem_toList_iff.2 (eC hj))
       rw[h.size]
       simpa using this)]
      rw[h3]
      rw[e2]at e1
      exact e1
    .refine wR (Bf k) (fun x hx=>?_) (fun x hx=>?_) hs.bx
     .cases hr:x.r with
      |true=>exact .inl rfl
      |false=>exact .inr (.inr (.inl (hinz k ⟨x,hx,rfl,hr⟩)))
     .show((ps.zip xs).foldl (fun t (p,v)=>t.setIfInBounds p v) a.tmps).getD x.t undef=_
      rw[hzip]
      obtain⟨y,hy,e,_⟩:=zKC (hBf k) hx
      refine zCd _ _ _ ?_
      rw[hzf,<-e]
      intro hc
      have:=xT.1 hpB y hy
      rw[cE.2 hc]at this
      cases this
    .rcases hKr k q hq with⟨h1,h2,h3⟩|⟨j,f,h1,h2,h3⟩
     .cases hq2:q.2 with
      |u f=>exact⟨f,rfl⟩
      |o f=>rw[hq2]at h2;cases h2
     .exact⟨f,h3⟩
   have hnl: ¬(inB (Bf 0) (w.heap.size+1)∨W.heap.size<=w.heap.size+1∨R (w.heap.size+1)∨M (w.heap.size+1)):=fun hh=>by
    rcases hh with hh|hh|hh|hh
    .have:=hin hh;omega
    .omega
    .have:=(hR _ hh).2.1;omega
    .have:=(hM _ hh).2.1;omega
   have hnd2: ¬(inB (Bf 0) w.heap.size∨W.heap.size<=w.heap.size∨R w.heap.size∨M w.heap.size):=fun hh=>by
    rcases hh with hh|hh|hh|hh
    .have:=hin hh;omega
    .omega
    .have:=(hR _ hh).2.1;omega
    .have:=(hM _ hh).2.1;omega
   refine⟨fn,_,assign,body,hy,roundIn_of_wpIn hfn (cW ?_ (rounds (w.heap.size+1) k R xs W hk hxk hmk (fun q hq=>⟨(hR q hq).2.1,(hR q hq).2.2.1⟩) hsz5 hs hs0))⟩
   intro e a1 Wa hp
   cases e with
   | normal=>
    obtain⟨hgr,hcont⟩:=hp
    have hla:Wa.heap[w.heap.size+1]?=some (.loop (rec .ready none)):=(hgr.block _ hlt hnl).trans hl
    have hda:Wa.heap[w.heap.size]?=some (.deferred (some [])):=(hgr.block _ oA hnd2).trans hd
    have hlta:w.heap.size+1<Wa.heap.size:=(xQ.1 hla).1
    refine⟨_,run_beginRound hla (by rw[hrec]),?_⟩
    obtain⟨W2,hW2⟩:∃W2,Wa.putObj (w.heap.size+1) (.loop { rec .ready none with state:=.busy })=W2:=⟨_,rfl⟩
    rw[hW2]
    have hl2:W2.heap[w.heap.size+1]?=some (.loop { rec .ready none with state:=.busy }):=by rw[<-hW2];exact eM hlta
    have hd2:W2.heap[w.heap.size]?=some (.deferred (some [])):=by rw[<-hW2];exact(bO oA).trans hda
    have hz2:W2.heap.size=Wa.heap.size:=by rw[<-hW2,eK]
    have hk2:y7 Wa W2:=fun q u hq=>by
     by_cases e:q.block=w.heap.size+1
     .rw[zBA hla rfl e]at hq
      cases hq
     .rw[<-hW2]
      exact(bQ (bO e)).trans hq
    have hcell:∀p,W2.cell? p=Wa.cell? p:=fun p=>by
     by_cases e:p.block=w.heap.size+1
     .rw[zBA hla rfl e,zBA hl2 rfl e]
     .rw[<-hW2]
      exact bQ (bO e)
    have hbody:=hcont W2 (by rw[<-hW2];exact zEy hla rfl) hcell (fun K' B' hs'=>hs'.rebase hk2 (fun _ hq=>.inr (.inl hq)) (fun x hx=>by
     obtain⟨cs,_,_,h3,_⟩:=hs'.bx.mem x hx
     rw[<-hW2]
     refine bO fun e=>?_
     rw[e,hla]at h3
     cases h3))
    refine cW ?_ hbody
    intro e a3 W3 hp3
    have fin:∀(jump:WG Code) (B':List Bx),StS (fun q=>inB (Bf 0) q∨W.heap.size<=q∨R q∨M q) W2 [] B' n [] a3 W3->B'.map zGC=(Bf 0).map zGC->∃W4,(Instr.endRound (w.heap.size+1) jump).run P W3=.ok (.bool jump.isNone) W4/\W4.heap[w.heap.size+1]?=some (.loop (rec (if jump.isNone then .ready else .done) jump))/\W4.heap[w.heap.size]?=some (.deferred (some []))/\RndO w.heap.size (fun q=>inB (Bf 0) q∨M q) O W W4/\StS S w0 K B' n ds a W4/\w.heap.size+2<=W4.heap.size/\zD7 W3 W4/\(∀q,q≠w.heap.size+1->W4.heap[q]?=W3.heap[q]?)/\W4.heap.size=W3.heap.size:=by
     intro jump B' h3 hB'
     have hl3:W3.heap[w.heap.size+1]?=some (.loop { rec .ready none with state:=.busy }):=(h3.gr.block _ oA hnl).trans hl2
     have hd3:W3.heap[w.heap.size]?=some (.deferred (some [])):=(h3.gr.block _ oA hnd2).trans hd2
     have hlt3:w.heap.size+1<W3.heap.size:=(xQ.1 hl3).1
     have hrun:=run_endRound (P:=P) jump hl3
     have hbx3:∀x,x∈B'->x.b≠w.heap.size+1:=fun x hx e=>by
      obtain⟨cs,_,_,h4,_⟩:=h3.bx.mem x hx
      rw[e,hl3]at h4
      cases h4
     obtain⟨W4,hW4⟩:∃W4,W3.putObj (w.heap.size+1) (.loop (rec (if jump.isNone then .ready else .done) jump))=W4:=⟨_,rfl⟩
     have hrun4:(Instr.endRound (w.heap.size+1) jump).run P W3=.ok (.bool jump.isNone) W4:=by rw[hrun,<-hW4,hrec]
     have hz3:=h3.gr.size
     have hz4:W4.heap.size=W3.heap.size:=by rw[<-hW4,eK]
     have hza:=hgr.size
     have hk4:y7 W3 W4:=fun q u hq=>by
      by_cases e:q.block=w.heap.size+1
      .rw[zBA hl3 rfl e]at hq
       cases hq
      .rw[<-hW4]
       exact(bQ (bO e)).trans hq
     have hb4:BlS (fun q=>inB (Bf 0) q∨q=w.heap.size+1∨R q∨M q) W W4:=by
      refine⟨?_,?_,?_,oA,fun q hq hns=>?_⟩
      .rw[<-hW4];exact h3.gr.os.trans (by rw[<-hW2];exact hgr.os)
      .rw[<-hW4];exact h3.gr.tape.trans (by rw[<-hW2];exact hgr.tape)
      .rw[<-hW4];exact h3.gr.output.trans (by rw[<-hW2];exact hgr.output)
      .have hne:q≠w.heap.size+1:=fun e=>hns (.inr (.inl e))
       have hni: ¬(inB (Bf 0) q∨W.heap.size<=q∨R q∨M q):=fun hh=>by
        rcases hh with hh|hh|hh
        .exact hns (.inl hh)
        .omega
        .exact hns (.inr (.inr hh))
       rw[<-hW4,bO hne,h3.gr.block q oA hni,<-hW2,bO hne]
       exact hgr.block q hq hni
     have hKU:=zJv (B:=Bf k) (hb4.sub fun q hq=>hq.imp (zKn (hBf k).symm) id) hs.bx hl rfl (fun q hq=>by
      rcases hq with hq|hq
      .exact(hR q hq).2.2.2
      .obtain⟨_,_,cs,t,z,m1,m2⟩:=hM q hq
       exact⟨cs,t,z,(hmk q hq).trans m1,m2⟩)
     have hgt:∀q,q≠w.heap.size+1->W4.heap[q]?=W3.heap[q]?:=fun q hq=>by rw[<-hW4];exact bO hq
     refine⟨W4,hrun4,by rw[<-hW4];exact eM hlt3,by rw[<-hW4];exact(bO oA).trans hd3,⟨hb4.os,hb4.tape,hb4.output,hb4.size,fun q hq hc=>hb4.block q oA fun hh=>?_,fun q hq=>hb4.block q (hOr q hq).2 fun hh=>?_,hKU⟩,?_,oA,by rw[<-hW4];exact zEy hl3 rfl,hgt,hz4⟩
     .rcases hh with hh|hh|hh|hh
      .exact hc (.inl hh)
      .omega
      .have:=(hR q hh).2.1;omega
      .exact hc (.inr hh)
     .have h9:=(hOr q hq).1
      rcases hh with hh|hh|hh|hh
      .have:=hin hh;omega
      .omega
      .exact(hR q hh).1 hq
      .have:=(hM q hh).2.1;omega
     .exact hs.turnedM (M:=M) (N:=w.heap.size+2) (hb4.sub fun q hq=>hq.imp (zKn (hBf k).symm) id) (fun q hq hh=>by
       rcases hh with hh|hh|hh|hh
       .exact .inl hh
       .exact .inr (.inl hh)
       .have:=(hR q hh).2.1;omega
       .exact .inr (.inr hh)) (fun q hq=>by
       obtain⟨m0,_,cs,t,z,m1,_⟩:=hM q hq
       exact⟨m0,cs,t,z,(hmk q hq).trans m1⟩) oA hKU hl rfl oA (fun Ds hm=>⟨hDl hl ⟨_,rfl⟩ Ds hm,fun D hD=>by have:=hDs Ds hm D hD;omega⟩) (hB'.trans (hBf k).symm) (wO hk4 B' (fun x hx=>by rw[<-hW4];exact bO (hbx3 x hx)) h3.bx)
    cases e with
    | normal=>
     obtain⟨h3,R',hR1,hR2,hx3,hm3⟩:=hp3
     obtain⟨W4,hr,hl4,hd4,hrn,hs4,hz4,hkc,hgt,hz43⟩:=fin none _ h3 (hBf _)
     refine⟨_,W4,hr,.inl ⟨rfl,hs4,hl4,hd4,hz4,R',fun q hq=>?_,hX _ _ _ _ hkc hx3,fun q hq=>(hgt q (by have:=(hM q hq).2.1;omega)).trans (hm3 q hq)⟩,hrn⟩
     obtain⟨r1,cs,t,z,r2,r3⟩:=hR2 q hq
     have hq2:w.heap.size+2<=q:=by
      rcases hR1 q hq with e|e
      .exact(hR q e).2.1
      .omega
     refine⟨fun ho=>?_,hq2,oA,cs,t,z,(hgt q oA).trans r2,r3⟩
     rcases hR1 q hq with e|e
     .exact(hR q e).1 ho
     .have:=(hOr q ho).2;omega
    |ret=>
     obtain⟨hc,h3,hx3⟩:=hp3
     obtain⟨W4,hr,hl4,hd4,hrn,hs4,hz4,hkc,hgt,hz43⟩:=fin (some .ret) _ h3 hBz
     exact⟨_,W4,hr,.inr ⟨rfl,hs4,by rw[hc];exact hl4,hd4,hz4,hXZ _ _ hkc hx3⟩,hrn⟩
    |exit id=>
     obtain⟨hc,h3,hx3⟩:=hp3
     obtain⟨W4,hr,hl4,hd4,hrn,hs4,hz4,hkc,hgt,hz43⟩:=fin (some (.exit id)) _ h3 hBz
     exact⟨_,W4,hr,.inr ⟨rfl,hs4,by rw[hc];exact hl4,hd4,hz4,hXZ _ _ hkc hx3⟩,hrn⟩
    |goto t=>
     obtain⟨hc,h3,hx3⟩:=hp3
     obtain⟨W4,hr,hl4,hd4,hrn,hs4,hz4,hkc,hgt,hz43⟩:=fin (some (.goto t)) _ h3 hBz
     exact⟨_,W4,hr,.inr ⟨rfl,hs4,by rw[hc];exact hl4,hd4,hz4,hXZ _ _ hkc hx3⟩,hrn⟩
    |panic ch=>exact hp3.elim
    |outgrown=>exact hp3.elim
   |_=>exact hp.elim
  .have hend:∀{W2:WB} {B':List Bx} {pe:WG Code} {st:LoopState},StS S w0 K B' n ds a W2->W2.heap[w.heap.size+1]?=some (.loop (rec st pe))->W2.heap[w.heap.size]?=some (.deferred (some []))->∀o':Obj,StS S w0 K B' n (mark w.heap.size::ds) { a with defers:=mark w.heap.size::a.defers } (W2.putObj (w.heap.size+1) o'):=fun {W2 B' pe st} hs hl hd o'=>by
    have h1:=hs.put (o':=o') hl rfl (hDl hl ⟨_,rfl⟩) (.inr oA)
    exact h1.more hw0 ((bO oA).trans hd) (fun Ds hm hh=>absurd (hDs Ds hm _ hh) (Nat.lt_irrefl _))
   rintro e W2 ⟨⟨v,rfl⟩,(⟨O,hs,hl,hd,_,R,_,hx5,_⟩|⟨hs,hl,hd,_,hx5⟩)⟩
   .exact⟨none,_,by have:=run_endLoop (P:=P) hl (by rw[hrec];simp);rw[hrec]at this;exact this,done _ _ R (hX _ _ _ _ (zEy hl rfl) hx5) (hend hs hl hd _)⟩
   .exact⟨some cz,_,by have:=run_endLoop (P:=P) hl (by rw[hrec];simp);rw[hrec]at this;exact this,stop _ _ (hXZ _ _ (zEy hl rfl) hx5) (hend hs hl hd _)⟩
end
end Go.Proofs.Wd
