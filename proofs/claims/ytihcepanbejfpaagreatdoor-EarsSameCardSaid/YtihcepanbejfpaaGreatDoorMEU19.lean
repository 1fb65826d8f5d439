/- Natural numbers as values, and what prod and the references answer of  and what it needs. -/
import Derived.Test.YtihcepanbejfpaaGreatDoorMEU13
import Derived.Test.YtihcepanbejfpaaGreatDoorMEU17
abbrev tJ:=@List.getElem?_map
abbrev tK:=@List.take_append_of_le_length
abbrev tL:=@List.cons.injEq
abbrev tM:=@Prod.mk.injEq
abbrev tN:=@List.drop_append_of_le_length
abbrev tO:=@Classical.choose_spec
abbrev tP:=@Go.run_indexAt_slice
namespace Go.Proofs.Wd
open Tryz
open Go.RowKit Lb
variable {W W' w w' w0 w1 wb:WB}{N b base c' d gf i id j l m m' n n' z:Nat}{x y:WL}{e s t t' te ty:WF}{u v':WE}{a:Act}{A A':WG Addr}{F:Fence}{P:WH}{ops:Array Oper}{G:Nat->SF}{o:Oper}{p:V2}{f g:UF}{C:CU}{k k' k0:Int}{xs:Array WL}{cs:List WE}{op:Op}{q:Rat}{args:Array WE}{Cs Ds:List CU}{ats:Array WF}{ks:List Int}{B B':List Bx}{S:Nat->Prop}{K:List (Nat×KF)}{Q:Exit->Act->WB->Prop}{ds:List Deferred}{pos:String}{aft:Array Edge}{ps:List V2}{CW:WB->Prop}{want:Bool}{D:List Nat}
def LV(W:WB)(m:Nat)(v:WE)(x:Nat):Prop:=∃A n c l,v=.slice A n c/\Rd W A n c l/\Lt l/\n<=m/\val l=x
theorem LV.below{v:WE}{x:Nat}(h:LV W m v x)(hb:bW W W'):LV W' m v x:=by
 obtain⟨A,n,c,l,rfl,I,h2⟩:=h
 exact⟨A,n,c,l,rfl,I.below hb,h2⟩
theorem LV.mono{v:WE}{x:Nat}(h:LV W m v x)(hm:m<=m'):LV W m' v x:=by
 obtain⟨A,n,c,l,rfl,I,h2,h3,J⟩:=h
 exact⟨A,n,c,l,rfl,I,h2,by omega,J⟩
theorem LV.bound{v:WE}{x:Nat}(h:LV W m v x):x<BB^m:=by
 obtain⟨A,n,c,l,rfl,I,h2,h3,rfl⟩:=h
 exact vU (q8 h2) (vZ qC (by rw[I.len];exact h3))
theorem qQ.lv{v:WE}{x:Nat}(h:qQ W v x)(J:x<BB^m):LV W m v x:=by
 obtain⟨A,n,c,l,rfl,I,h2⟩:=h
 exact⟨A,n,c,l,rfl,h2,I.lt,by rw[<-h2.len];exact I.len J,I.val⟩
def zO3(w:WB)(x:Nat):Ending->WB->Prop:=fun e w'=>∃v,e=.returned v/\qQ w' v x/\bW w w'
theorem jK.v{x:Nat}{e:Ending}(h:jK w x e w'):zO3 w x e w':=by
 obtain⟨A,n,c,l,rfl,I,h2,h3⟩:=h
 exact⟨_,rfl,⟨A,n,c,l,rfl,I,h2⟩,h3⟩
theorem zVz{v:WE}{a:Nat}(h:LV W m v a)(U:LV W m v' b)(hm:m<=40000):Calls prog 106 #[v,v'] W (zO3 W (a*b)):=by
 obtain⟨A,n,c,l,rfl,O,h2,h3,rfl⟩:=h
 obtain⟨A',n',c',l',rfl,J,I,h3',rfl⟩:=U
 exact(zNU A n c l A' n' c' l' W O J h2 I oA oA).mono fun _ _=>jK.v
def zYf(w:WB)(x y:Nat):Ending->WB->Prop:=fun e w'=>∃v v',e=.returned (.tuple #[v,v'])/\qQ w' v x/\qQ w' v' y/\bW w w'
theorem LV.open{v:WE}{x:Nat}(h:LV W m v x):∃A n c,v=.slice A n c/\n<=m/\n<=c/\c<=9223372036854775807/\LV W m (.slice A n c) x:=by
 obtain⟨A,n,c,l,rfl,I,h2,h3,J⟩:=h
 exact⟨A,n,c,rfl,h3,I.le,I.cap,⟨A,n,c,l,rfl,I,h2,h3,J⟩⟩
def zYg(w:WB)(a b:Nat):Ending->WB->Prop:=fun e w'=>∃v v',e=.returned (.tuple #[v,v',.int .i64 0])/\qQ w' v (a/b)/\qQ w' v' (a%b)/\bW w w'
theorem zU6{v:WE}{a:Nat}(h:LV W m v a)(h':LV W m v' b)(hm:m<=10000)(h0:0<b):Calls prog 85 #[v,v'] W (zYg W a b):=by
 obtain⟨A,n,c,l,rfl,h1,h2,h3,rfl⟩:=h
 obtain⟨A',n',c',l',rfl,J,I,h3',rfl⟩:=h'
 refine(zPR A n c l A' n' c' l' W h1 J h2 I oA oA h0).mono ?_
 rintro e w' ⟨A1,n1,c1,l1,U,n2,c2,l2,rfl,i1,r1,i2,O,hb⟩
 exact⟨_,_,rfl,⟨A1,n1,c1,l1,rfl,i1,r1⟩,⟨U,n2,c2,l2,rfl,i2,O⟩,hb⟩
theorem zU7{v:WE}{a:Nat}(h:LV W m v a)(U:LV W m v' b):Calls prog 114 #[v,v'] W fun e w'=>e=.returned (.int .i64 (zAP a b))/\W=w':=by
 obtain⟨A,n,c,l,rfl,O,h2,h3,rfl⟩:=h
 obtain⟨A',n',c',l',rfl,J,I,h3',rfl⟩:=U
 exact zE3 A n c l A' n' c' l' W O J h2 I
theorem zTa{c:Nat}{x y:Nat}(h:LV W m (.slice A n c) x)(U:LV W m (.slice A' n' c') y)(hm:m<=10000)(t:WF):
  Calls prog 111 #[.slice (some ⟨W.heap.size,0,none⟩) 2 2] (W.alloc (.cells #[.slice A n c,.slice A' n' c'] t)) (zO3 (W.alloc (.cells #[.slice A n c,.slice A' n' c'] t)) (x+y)):=by
 obtain⟨A1,n1,c1,l,e1,O,h2,h3,rfl⟩:=h
 obtain⟨A2,n2,c2,l',e2,J,I,h3',rfl⟩:=U
 cases e1
 cases e2
 have:=zE4 _ 2 2 _ _ (Rds.two O h2 oA J I oA t) (by decide)
 simp only[xX,bV,nI,nP,uM]at this
 exact this.mono fun _ _=>jK.v
def jB(x:Nat):UF:=.mk' (fun v w=>qQ w v x) fun _ _ _ ⟨A,n,c,l,e,h1,h2⟩ k=>⟨A,n,c,l,e,h1,h2.keepU k⟩
def fLV(m x:Nat):UF:=.mk' (fun v w=>LV w m v x) fun _ _ _ ⟨A,n,c,l,e,h1,h2⟩ k=>⟨A,n,c,l,e,h1.keepU k,h2⟩
def fNV(k:Int):UF:=.mk' (fun v w=>NV w v k) fun _ _ _ ⟨A,n,c,l,e,h1,h2⟩ k=>⟨A,n,c,l,e,h1,h2.keepU k⟩
def fUV(m:Nat)(k:Int):UF:=.mk' (fun v w=>UV w m v k) fun _ _ _ ⟨s,A,n,c,l,e,h1,h2⟩ k=>⟨s,A,n,c,l,e,h1.keepU k,h2⟩
def fB(b:Bool):UF:=.eq (.bool b)
def fI(z:Int):UF:=.eq (.int .i64 z)
theorem zK2{l:List Oper}(h:qO F m P w0 ops G o)(k:Obs F m P w0 ops G l):Obs F m P w0 ops G (o::l):=⟨h,k⟩
theorem oc{l:List Oper}(h:qO F m P w0 ops G o)(k:Obs F m P w0 ops G l):Obs F m P w0 ops G (o::l):=⟨h,k⟩
theorem lr:n<=n:=vP n
theorem arf{α:Sort _}{a:α}{p:Prop}:a≠a->p:=fun e=>absurd rfl e
abbrev zP6:List WE:=[.bool false, sN, sN,.bool false, sN, sN]
abbrev zR3:List WE:=[.bool false, sN, sN]
theorem fmz{α:Type}{p:α->Prop}{a:α}{l:List α}(h:p a/\∀x,x∈l->p x):∀x,x∈a::l->p x:=List.forall_mem_cons.2 h
theorem fnz{α:Type}{p:α->Prop}:∀x,x∈([]:List α)->p x:=List.forall_mem_nil p
theorem iiz{α β:Type}{p:α->β->Prop}:∀a b,p a b->p a b:=fun _ _ h=>h
theorem mz1{α:Type}{a I:α}{l:List α}:a∈I::a::l:=.tail _ (.head _)
theorem mz2{α:Type}{a J I:α}{l:List α}:a∈J::I::a::l:=.tail _ (.tail _ (.head _))
theorem mz3{α:Type}{a O J I:α}{l:List α}:a∈O::J::I::a::l:=.tail _ (.tail _ (.tail _ (.head _)))
theorem mz4{α:Type}{a O U I J:α}{l:List α}:a∈O::U::I::J::a::l:=.tail _ (.tail _ (.tail _ (.tail _ (.head _))))
theorem mz5{α:Type}{a O J b2 I U:α}{l:List α}:a∈O::J::b2::I::U::a::l:=.tail _ (.tail _ (.tail _ (.tail _ (.tail _ (.head _)))))
theorem mz6{α:Type}{a U O b2 I b4 J:α}{l:List α}:a∈U::O::b2::I::b4::J::a::l:=.tail _ (.tail _ (.tail _ (.tail _ (.tail _ (.tail _ (.head _))))))
theorem mz7{α:Type}{a b0 U b2 I b4 J O:α}{l:List α}:a∈b0::U::b2::I::b4::J::O::a::l:=.tail _ (.tail _ (.tail _ (.tail _ (.tail _ (.tail _ (.tail _ (.head _)))))))
theorem mz8{α:Type}{a b0 U b2 I b4 J O b7:α}{l:List α}:a∈b0::U::b2::I::b4::J::O::b7::a::l:=.tail _ (.tail _ (.tail _ (.tail _ (.tail _ (.tail _ (.tail _ (.tail _ (.head _))))))))
theorem mz9{α:Type}{a b0 U b2 I b4 J O b7 b8:α}{l:List α}:a∈b0::U::b2::I::b4::J::O::b7::b8::a::l:=.tail _ (.tail _ (.tail _ (.tail _ (.tail _ (.tail _ (.tail _ (.tail _ (.tail _ (.head _)))))))))
theorem zMe{α:Type}{a b0 U b2 I b4 J O b7 b8 b9:α}{l:List α}:a∈b0::U::b2::I::b4::J::O::b7::b8::b9::a::l:=.tail _ (.tail _ (.tail _ (.tail _ (.tail _ (.tail _ (.tail _ (.tail _ (.tail _ (.tail _ (.head _))))))))))
theorem zUz{α:Type}{a b0 b1 b2 J b4 O U b7 b8 b9 I:α}{l:List α}:a∈b0::b1::b2::J::b4::O::U::b7::b8::b9::I::a::l:=.tail _ (.tail _ (.tail _ (.tail _ (.tail _ (.tail _ (.tail _ (.tail _ (.tail _ (.tail _ (.tail _ (.head _)))))))))))
theorem zWN{α:Type}{a b0 b1 b2 O b4 U b6 b7 b8 b9 J I:α}{l:List α}:a∈b0::b1::b2::O::b4::U::b6::b7::b8::b9::J::I::a::l:=.tail _ (.tail _ (.tail _ (.tail _ (.tail _ (.tail _ (.tail _ (.tail _ (.tail _ (.tail _ (.tail _ (.tail _ (.head _))))))))))))
theorem zVx{α:Type}{a b0 b1 b2 U b4 b5 b6 b7 b8 b9 J I O:α}{l:List α}:a∈b0::b1::b2::U::b4::b5::b6::b7::b8::b9::J::I::O::a::l:=.tail _ (.tail _ (.tail _ (.tail _ (.tail _ (.tail _ (.tail _ (.tail _ (.tail _ (.tail _ (.tail _ (.tail _ (.tail _ (.head _)))))))))))))
theorem zXj{α:Type}{a b0 b1 b2 b3 b4 b5 b6 b7 b8 b9 J I O U:α}{l:List α}:a∈b0::b1::b2::b3::b4::b5::b6::b7::b8::b9::J::I::O::U::a::l:=.tail _ (.tail _ (.tail _ (.tail _ (.tail _ (.tail _ (.tail _ (.tail _ (.tail _ (.tail _ (.tail _ (.tail _ (.tail _ (.tail _ (.head _))))))))))))))
theorem zXi{α:Type}{a b0 b1 b2 b3 b4 b5 b6 b7 b8 b9 O J I U h0:α}{l:List α}:a∈b0::b1::b2::b3::b4::b5::b6::b7::b8::b9::O::J::I::U::h0::a::l:=.tail _ (.tail _ (.tail _ (.tail _ (.tail _ (.tail _ (.tail _ (.tail _ (.tail _ (.tail _ (.tail _ (.tail _ (.tail _ (.tail _ (.tail _ (.head _)))))))))))))))
theorem zB:Obs F m P w0 ops G []:=trivial
def CF.at(C:CF)(k:Nat):CF:=⟨fun cs w=>∃ds,C.p ds w/\cs=ds.drop k,fun _ _ _ ⟨ds,h1,h2⟩ hb=>⟨ds,C.st _ _ _ h1 hb,h2⟩⟩
abbrev Rw.X(f:UF)(n:Nat):Rw:=.s (wD ((CU.agg f).cf.at n))
abbrev Rw.Y(f:UF):Rw:=.s (wD (cg f))
section
variable {F:Fence}{m:Nat}{P:WH}{w0:WB}{ops:Array Oper}{G:Nat->SF}{d:Tmp}{ty:WF}{pos:String}{aft:Array Edge}
theorem zN{f:Nat}{C:CF}(k:Nat)(J:zDx P s f=some k)(O:∀v W,(fct G x).p v W->(wD C).p v W:=by first|exact fun _ _ h=>h|exact fun _ _ h=>h.2)(I:∀v W,(wD (C.at k)).p v W->(G d).p v W:=by exact fun _ _ h=>h):qO F m P w0 ops G ⟨some d,.fieldAddr s x f,ty,pos,aft,none⟩:=
 zKZ (C':=C.at k) k J O (fun cs _ h=>⟨cs,h,rfl⟩) I
theorem qJ{f:Nat}{C:CF}(i k:Nat)(O:zDx P s f=some k)(U:∀v W,(fct G x).p v W->(wD (C.at i)).p v W:=by exact fun _ _ h=>h)(I:∀v W,(wD (C.at (i+k))).p v W->(G d).p v W:=by exact fun _ _ h=>h):qO F m P w0 ops G ⟨some d,.fieldAddr s x f,ty,pos,aft,none⟩:=
 zKZ (C':=C.at (i+k)) k O U (fun cs _ ⟨ds,J,h2⟩=>⟨ds,J,by rw[h2,List.drop_drop]⟩) I
theorem jU{C:CF}{k:Nat}(I:zDM P t=true)(O:∀v W,(fct G x).p v W->(wD (C.at k)).p v W:=by exact fun _ _ h=>h)(h:∀cs W,C.p cs W->∃u,cs[k]?=some u/\(G d).p u W):qO F m P w0 ops G ⟨some d,.load t x,ty,pos,aft,none⟩:=
 qB I O fun cs W ⟨ds,J,h2⟩=>let⟨u,h3,h4⟩:=h ds W J;⟨u,by rw[h2,uW];exact h3,h4⟩
theorem zV{C:CF}{k:Nat}(z:Nat)(I:zAf P t=some z)(O:∀v W,(fct G x).p v W->(wD (C.at k)).p v W:=by exact fun _ _ h=>h)(h:∀cs W,C.p cs W->k+z<=cs.length/\(G d).p (.agg ((cs.drop k).take z).toArray) W):qO F m P w0 ops G ⟨some d,.load t x,ty,pos,aft,none⟩:=
 zKY z I O fun cs W ⟨ds,J,h2⟩=>let⟨h3,h4⟩:=h ds W J;⟨by rw[h2,uJ];omega,by rw[h2];exact h4⟩
theorem zH(z:Nat)(J:zAf P t=some z)(O:∀v W,(fct G x).p v W->(wD (cg f)).p v W:=by first|exact fun _ _ h=>h|exact fun _ _ h=>h.2)(hz:∀cs:List WE,∀W,f.p (.agg cs.toArray) W->cs.length=z)(I:∀v W,f.p v W->(G d).p v W:=by exact fun _ _ h=>h):qO F m P w0 ops G ⟨some d,.load t x,ty,pos,aft,none⟩:=
 zKY z J O fun cs W h=>⟨by rw[hz cs W h];exact vP _,by
  have h1:=hz cs W h
  rw[nK oA]
  exact I _ _ h⟩
theorem zCG{a:Addr}(J:∀v W,(fct G x).p v W->v=.pointer (some a))(I:∀W,(G d).p (.pointer (some a)) W:=by exact fun _=>rfl):qO F m P w0 ops G ⟨some d,.nilCheck x,ty,pos,aft,none⟩:=
 qG (fun _ e=>by cases e) (fun _ e=>by cases e) fun b W hb O=>by
  have e:=J _ _ (O x (by simp[Op.operands]))
  exact⟨.pointer (some a),by simp[execOp,e],I W⟩
theorem zAm{f:Nat}{o:Nat}(k:Nat)(I:zDx P s f=some k)(U:∀v W,(fct G x).p v W->v= pO b o)(hd:∀W,(G d).p (.pointer (some ⟨b,o+k,none⟩)) W:=by exact fun _=>rfl):qO F m P w0 ops G ⟨some d,.fieldAddr s x f,ty,pos,aft,none⟩:=
 qG (fun _ e=>by cases e) (fun _ e=>by cases e) fun c W hb O=>by
  have e:=U _ _ (O x (by simp[Op.operands]))
  refine⟨.pointer (some ⟨b,o+k,none⟩),?_,hd W⟩
  unfold zDx at I
  split at I<;>try cases I
  rename_i fs hu
  split at I<;>try cases I
  rename_i f' J
  split at I<;>try cases I
  rename_i i hi
  split at I<;>try cases I
  rename_i hz
  simp[execOp,Instr.fieldAt,bK hu,J,e,Instr.sureAddr,fieldPlace,sizeOf,typeInfo,hi,hz,xH]
theorem wH{f g:SF}(h:∀v W,f.p v W->g.p v W):∀e W',Ret W f e W'->Ret W g e W':=fun _ _ ⟨v,e,I,h2⟩=>⟨v,e,h _ _ I,h2⟩
end
theorem j5{xs I:Array WE}(h:Value.agg xs=Value.agg I):xs=I:=by injection h
theorem zPf(h:(fUV m k).p (.agg cs.toArray) W):∃s A n c,cs=[.bool s,.slice A n c]/\∃l,Rd W A n c l/\Lt l/\n<=m/\iv s l=k:=by
 obtain⟨s,A,n,c,l,e,I⟩:=h
 have:=vQ Array.toList (j5 e)
 exact⟨s,A,n,c,by simpa using this,l,I⟩
theorem zHB(h:(fNV k).p (.agg cs.toArray) W):∃A n c,cs=[.bool (decide (k<0)),.slice A n c]/\∃l,Is l k.natAbs/\Rd W A n c l:=by
 obtain⟨A,n,c,l,e,I⟩:=h
 have:=vQ Array.toList (j5 e)
 exact⟨A,n,c,by simpa using this,l,I⟩
theorem zRh(m:Nat)(k:Int):∀cs:List WE,∀W,(fUV m k).p (.agg cs.toArray) W->cs.length=2:=fun cs W h=>by
 obtain⟨s,A,n,c,rfl,_⟩:=zPf h
 rfl
theorem zRN(k:Int):∀cs:List WE,∀W,(fNV k).p (.agg cs.toArray) W->cs.length=2:=fun cs W h=>by
 obtain⟨A,n,c,rfl,_⟩:=zHB h
 rfl
theorem zIP(cs:List WE)(W:WB)(h:(CU.agg (fNV k)).p cs W):∃u,cs[1]?=some u/\qQ W u k.natAbs:=by
 obtain⟨A,n,c,rfl,l,I,h2⟩:=zHB h
 exact⟨_,rfl,A,n,c,l,rfl,I,h2⟩
theorem zNP(cs:List WE)(W:WB)(h:(CU.agg (fNV k)).p cs W):∃u,cs[0]?=some u/\u=.bool (decide (k<0)):=by
 obtain⟨A,n,c,rfl,l,h1,h2⟩:=zHB h
 exact⟨_,rfl,rfl⟩
theorem zRi{v:WE}(h:(fUV m k).p v W):(CU.agg (fUV m k)).p v.cells.toList W/\v.cells.toList.all zX=true:=by
 obtain⟨s,A,n,c,l,rfl,I⟩:=h
 exact⟨⟨s,A,n,c,l,rfl,I⟩,rfl⟩
theorem zHz(v:WE)(W:WB)(h:(fNV k).p v W):∃vs:List WE,v=.agg vs.toArray/\vs.length=2/\(∀u,u∈vs->u.oneCell'=true)/\vs.all zX=true/\(CU.agg (fNV k)).p vs W:=by
 obtain⟨A,n,c,l,rfl,J⟩:=h
 exact⟨[_,_],rfl,rfl,fun u I=>by simp at I;rcases I with rfl|rfl<;>rfl,rfl,A,n,c,l,rfl,J⟩
theorem NV.nat{v:WE}(h:NV W v k):∃A n c,v=.agg #[.bool (decide (k<0)),.slice A n c]/\qQ W (.slice A n c) k.natAbs:=by
 obtain⟨A,n,c,l,rfl,I,h2⟩:=h
 exact⟨A,n,c,rfl,A,n,c,l,rfl,I,h2⟩
theorem zYZ(s:Bool)(A:WG Addr)(n c:Nat):prog.built 26 [(0,.bool s),(1,.slice A n c)]=some #[.bool s,.slice A n c]:=by kernel_rfl
theorem zUl{s:Bool}{v:WE}{x:Nat}(J:u=.bool s)(O:qQ W v x)(U:x<BB^m):∃cells,prog.built 26 [(0,u),(1,v)]=some cells/\UV W m (.agg cells) (if s then -(x:Int)else x):=by
 obtain⟨A,n,c,l,rfl,I,h2⟩:=O
 subst J
 refine⟨_,zYZ s A n c,s,A,n,c,l,rfl,h2,I.lt,by rw[<-h2.len];exact I.len U,?_⟩
 unfold iv
 rw[I.val]
theorem zUZ(s s':Bool)(A A':WG Addr)(n n' c c':Nat):yD prog 109 2 [(0,.agg #[.bool s,.slice A n c]),(1,.agg #[.bool s',.slice A' n' c'])]=some (26,#[.bool s,.slice A n c,.bool s',.slice A' n' c']):=by kernel_rfl
theorem zBo{v:WE}(hu:UV W m u k)(hv:UV W m v k'):∃e cs,yD prog 109 2 [(0,u),(1,v)]=some (e,cs)/\ISV (W.alloc (.cells cs e)) m (.slice (some ⟨W.heap.size,0,none⟩) 2 2) [k,k']:=by
 obtain⟨s,A,n,c,l,rfl,U,h2,h3,rfl⟩:=hu
 obtain⟨s',A',n',c',l',rfl,O,J,I,rfl⟩:=hv
 exact⟨_,_,zUZ s s' A A' n n' c c',ISV.two ⟨s,A,n,c,l,rfl,U,h2,h3,rfl⟩ ⟨s',A',n',c',l',rfl,O,J,I,rfl⟩ _⟩
def zL4(m:Nat)(ks:List Int):SF:=⟨fun v W=>ISV W m v ks,fun _ _ _ h hb=>h.below hb⟩
def zRZ(x:Nat):SF:=⟨fun v _=>∃n:Nat,v=.int .i64 n/\(x=0↔n=0),fun _ _ _ h _=>h⟩
section
variable {F:Fence}{m:Nat}{P:WH}{w0:WB}{ops:Array Oper}{G:Nat->SF}{d:Tmp}{ty:WF}{pos:String}{aft:Array Edge}
theorem zC3(ht:P.underlying t=some (.slice (P.elem t)))(h:∀v W,(fct G x).p v W->∃A n c,v=.slice A n c/\(G d).p (.int .i64 (n:Nat)) W):qO F m P w0 ops G ⟨some d,.call ⟨.builtin .len,#[x],#[t]⟩,ty,pos,aft,none⟩:=by
 intro b W K Q hb hr hK
 obtain⟨A,n,c,e,hd⟩:=h _ _ (qA hr (x:=x) (by simp[Op.operands,Call.operands]))
 refine⟨fun f hf=>(by
  unfold Oper.about at hf
  simp[resolve,go_sem]at hf),?_⟩
 rw[bI _ _ _ (fun _ e=>by cases e)]
 have:(execOp b.eval ⟨some d,.call ⟨.builtin .len,#[x],#[t]⟩,ty,pos,aft,none⟩).run P W=.ok (.value (.int .i64 (n:Nat))) W:=by
  simp[execOp,resolve,invoke,builtin,e,pX _ _ _ _ _ _ ht,goInt]
 rw[this]
 exact hK _ _ (fun d' e'=>by cases e';exact hd) (xF _ _)
theorem zED{k:Nat}(ht:P.underlying t=some (.slice (P.elem t)))(O:∀v W,(fct G x).p v W->qQ W v k)(I:∀v W,(zRZ k).p v W->(G d).p v W:=by exact fun _ _ h=>h):qO F m P w0 ops G ⟨some d,.call ⟨.builtin .len,#[x],#[t]⟩,ty,pos,aft,none⟩:=
 zC3 ht fun v W h=>by
  obtain⟨A,n,c,l,e,J,h2⟩:=O v W h
  exact⟨A,n,c,e,I _ _ ⟨n,rfl,by rw[<-h2.len];exact J.zero_iff⟩⟩
theorem zTJ{op:BinOp}(h:∀u v W,(fct G x).p u W->(fct G y).p v W->∃r,(∀W,(eqGuard op t x y u v).run P W=.ok () W)/\(∀W,(binOp op t u v).run P W=.ok r W)/\(G d).p r W):qO F m P w0 ops G ⟨some d,.binOp op t x y t',ty,pos,aft,none⟩:=
 qG (fun _ e=>by cases e) (fun _ e=>by cases e) fun b W hb I=>by
  obtain⟨r,J,h2,h3⟩:=h _ _ W (I x (by simp[Op.operands])) (I y (by simp[Op.operands]))
  exact⟨r,by simp[execOp,J,h2],h3⟩
theorem zEE{k:Nat}{b:Bool}(hb:b=decide (k=0))(U:∀v W,(fct G x).p v W->(zRZ k).p v W:=by exact fun _ _ h=>h)(J:∀W,(G d).p (.bool b) W:=by exact fun _=>rfl):qO F m P w0 ops G ⟨some d,.binOp .eql t x (.const (.int .i64 0)) t',ty,pos,aft,none⟩:=
 zTJ fun u v W I O=>by
  obtain⟨n,rfl,h1⟩:=U u W I
  obtain rfl:v=.int .i64 0:=O
  refine⟨.bool b,fun _=>rfl,fun _=>?_,J W⟩
  have h2:((n:Int)==0)=b:=by
   rw[hb,Bool.eq_iff_iff]
   simp only[bJ,cE]
   omega
  simp only[binOp,Op.intCmp]
  rw[h2]
  rfl
end
def QVp(m:Nat)(k:Int)(d:Nat)(v:WE)(w:WB):Prop:=∃b s t,v=.agg #[b,s,t]/\UV w m (.agg #[b,s]) k/\LV w m t d
def QNp(q:Rat)(v:WE)(w:WB):Prop:=∃b s t,v=.agg #[b,s,t]/\NV w (.agg #[b,s]) q.num/\qQ w t q.den
def QMp(m:Nat)(k:Int)(d:Nat)(v:WE)(w:WB):Prop:=∃b s t,v=.agg #[b,s,t]/\NV w (.agg #[b,s]) k/\LV w m t d
def QAp(m:Nat)(sg:Bool)(x:Nat)(d:Nat)(v:WE)(w:WB):Prop:=∃s t,v=.agg #[.bool sg,s,t]/\qQ w s x/\LV w m t d
def fQV(m:Nat)(k:Int)(d:Nat):UF:=.mk' (QVp m k d) fun _ _ _ ⟨b,s,t,e,h1,h2⟩ u=>⟨b,s,t,e,(fUV m k).us _ _ _ h1 u,(fLV m d).us _ _ _ h2 u⟩
def fQN(q:Rat):UF:=.mk' (QNp q) fun _ _ _ ⟨b,s,t,e,h1,h2⟩ u=>⟨b,s,t,e,(fNV q.num).us _ _ _ h1 u,(jB q.den).us _ _ _ h2 u⟩
def fQM(m:Nat)(k:Int)(d:Nat):UF:=.mk' (QMp m k d) fun _ _ _ ⟨b,s,t,e,h1,h2⟩ u=>⟨b,s,t,e,(fNV k).us _ _ _ h1 u,(fLV m d).us _ _ _ h2 u⟩
def fQA(m:Nat)(sg:Bool)(x d:Nat):UF:=.mk' (QAp m sg x d) fun _ _ _ ⟨s,t,e,h1,h2⟩ u=>⟨s,t,e,(jB x).us _ _ _ h1 u,(fLV m d).us _ _ _ h2 u⟩
theorem zA6{b s t:WE}(h:Value.agg cs.toArray=.agg #[b,s,t]):cs=[b,s,t]:=by
 have:=vQ Array.toList (j5 h)
 simpa using this
theorem zRG(m:Nat)(k:Int)(d:Nat):∀cs:List WE,∀W,(fQV m k d).p (.agg cs.toArray) W->cs.length=3:=fun cs W ⟨b,s,t,e,_⟩=>by rw[zA6 e];rfl
theorem qW(q:Rat):∀cs:List WE,∀W,(fQN q).p (.agg cs.toArray) W->cs.length=3:=fun cs W ⟨b,s,t,e,_⟩=>by rw[zA6 e];rfl
theorem zNm(cs:List WE)(W:WB)(h:(CU.agg (fQV m k d)).p cs W):0+2<=cs.length/\UV W m (.agg ((cs.drop 0).take 2).toArray) k:=by
 obtain⟨b,s,t,e,I,_⟩:=h
 rw[zA6 e]
 exact⟨by simp,I⟩
theorem zIB(cs:List WE)(W:WB)(h:(CU.agg (fQV m k d)).p cs W):∃u,cs[2]?=some u/\LV W m u d:=by
 obtain⟨b,s,t,e,_,I⟩:=h
 rw[zA6 e]
 exact⟨t,rfl,I⟩
theorem zVd(cs:List WE)(W:WB)(h:(CU.agg (fQV m k d)).p cs W):∃u,cs[0]?=some u/\∃s:Bool,u=.bool s:=by
 obtain⟨b,s,t,e,⟨s',A,n,c,l,e',_⟩,_⟩:=h
 rw[zA6 e]
 have:=vQ Array.toList (j5 e')
 exact⟨b,rfl,s',by simp at this;exact this.1⟩
theorem zBk(cs:List WE)(W:WB)(h:(CU.agg (fQN q)).p cs W):0+2<=cs.length/\NV W (.agg ((cs.drop 0).take 2).toArray) q.num:=by
 obtain⟨b,s,t,e,I,_⟩:=h
 rw[zA6 e]
 exact⟨by simp,I⟩
theorem zA2(cs:List WE)(W:WB)(h:(CU.agg (fQN q)).p cs W):∃u,cs[2]?=some u/\qQ W u q.den:=by
 obtain⟨b,s,t,e,_,I⟩:=h
 rw[zA6 e]
 exact⟨t,rfl,I⟩
theorem zVf(cs:List WE)(W:WB)(h:(CU.agg (fQN q)).p cs W):∃u,cs[1]?=some u/\qQ W u q.num.natAbs:=by
 obtain⟨b,s,t,e,I,_⟩:=h
 rw[zA6 e]
 exact zIP [b,s] W I
theorem zVe(cs:List WE)(W:WB)(h:(CU.agg (fQN q)).p cs W):∃u,cs[0]?=some u/\u=.bool (decide (q.num<0)):=by
 obtain⟨b,s,t,e,I,_⟩:=h
 rw[zA6 e]
 exact zNP [b,s] W I
theorem zKJ(cs:List WE)(W:WB)(h:(CU.agg (fQN q)).p cs W):0+3<=cs.length/\QNp q (.agg ((cs.drop 0).take 3).toArray) W:=by
 have h1:=qW q cs W h
 exact⟨by omega,by rw[nN,nK oA];exact h⟩
theorem zVh(cs:List WE)(W:WB)(h:(CU.agg (fQM m k d)).p cs W):∃u,cs[1]?=some u/\qQ W u k.natAbs:=by
 obtain⟨b,s,t,e,I,_⟩:=h
 rw[zA6 e]
 exact zIP [b,s] W I
theorem zVg(cs:List WE)(W:WB)(h:(CU.agg (fQM m k d)).p cs W):∃u,cs[2]?=some u/\LV W m u d:=by
 obtain⟨b,s,t,e,_,I⟩:=h
 rw[zA6 e]
 exact⟨t,rfl,I⟩
theorem LV.form{v:WE}{x:Nat}(h:LV W m v x):∃A n c,v=.slice A n c:=by
 obtain⟨A,n,c,l,e,_⟩:=h
 exact⟨A,n,c,e⟩
theorem qQ.form{v:WE}{x:Nat}(h:qQ W v x):∃A n c,v=.slice A n c:=by
 obtain⟨A,n,c,l,e,_⟩:=h
 exact⟨A,n,c,e⟩
theorem UV.form{b s:WE}(h:UV W m (.agg #[b,s]) k):∃sg A n c,b=.bool sg/\s=.slice A n c:=by
 obtain⟨s',A,n,c,l,e,_⟩:=h
 have:=vQ Array.toList (j5 e)
 simp at this
 exact⟨s',A,n,c,this.1,this.2⟩
theorem NV.form{b s:WE}(h:NV W (.agg #[b,s]) k):∃A n c,b=.bool (decide (k<0))/\s=.slice A n c:=by
 obtain⟨A,n,c,l,e,_⟩:=h
 have:=vQ Array.toList (j5 e)
 simp at this
 exact⟨A,n,c,this.1,this.2⟩
theorem zEA{v:WE}(h:(fQV m k d).p v W):∃sg A n c A' n' c',v=.agg #[.bool sg,.slice A n c,.slice A' n' c']:=by
 obtain⟨b,s,t,rfl,I,h2⟩:=h
 obtain⟨sg,A,n,c,rfl,rfl⟩:=I.form
 obtain⟨A',n',c',rfl⟩:=h2.form
 exact⟨_,_,_,_,_,_,_,rfl⟩
theorem zC0{v:WE}(h:(fQN q).p v W):∃A n c A' n' c',v=.agg #[.bool (decide (q.num<0)),.slice A n c,.slice A' n' c']:=by
 obtain⟨b,s,t,rfl,I,h2⟩:=h
 obtain⟨A,n,c,rfl,rfl⟩:=I.form
 obtain⟨A',n',c',rfl⟩:=h2.form
 exact⟨_,_,_,_,_,_,rfl⟩
theorem zFJ{v:WE}(h:(fQV m k d).p v W):(CU.agg (fQV m k d)).p v.cells.toList W/\v.cells.toList.all zX=true:=by
 obtain⟨sg,A,n,c,A',n',c',rfl⟩:=zEA h
 exact⟨h,rfl⟩
theorem zKK{v:WE}(h:(fQN q).p v W):(CU.agg (fQN q)).p v.cells.toList W/\v.cells.toList.all zX=true:=by
 obtain⟨A,n,c,A',n',c',rfl⟩:=zC0 h
 exact⟨h,rfl⟩
theorem zIe{sg:Bool}{c:Nat}(u:WE)(I:u∈ [Value.bool sg,.slice A n c,.slice A' n' c']):u.oneCell'=true:=by
 simp at I
 rcases I with rfl|rfl|rfl<;>rfl
theorem yJ(v:WE)(W:WB)(h:(fQN q).p v W):∃vs:List WE,v=.agg vs.toArray/\vs.length=3/\(∀u,u∈vs->u.oneCell'=true)/\vs.all zX=true/\(CU.agg (fQN q)).p vs W:=by
 obtain⟨A,n,c,A',n',c',rfl⟩:=zC0 h
 exact⟨[_,_,_],rfl,rfl,zIe,rfl,h⟩
theorem zJE{v:WE}(h:QNp q v W)(I:QB q m):QVp m q.num q.den v W:=by
 obtain⟨b,s,t,e,J,h2⟩:=h
 exact⟨b,s,t,e,J.uv' I.1,h2.lv I.2⟩
theorem zTp{v:WE}(h:QVp m k d v W)(I:m<=m'):QVp m' k d v W:=by
 obtain⟨b,s,t,e,J,h2⟩:=h
 exact⟨b,s,t,e,J.mono I,h2.mono I⟩
theorem zYX(s:Bool)(A A':WG Addr)(n n' c c':Nat):prog.built 28 [(0,.agg #[.bool s,.slice A n c]),(1,.slice A' n' c')]=some #[.bool s,.slice A n c,.slice A' n' c']:=by kernel_rfl
theorem zJb{v:WE}(I:NV W u q.num)(J:qQ W v q.den):∃cells,prog.built 28 [(0,u),(1,v)]=some cells/\QNp q (.agg cells) W:=by
 obtain⟨A,n,c,rfl,h1⟩:=I.nat
 obtain⟨A',n',c',rfl⟩:=J.form
 exact⟨_,zYX _ _ _ _ _ _ _,_,_,_,rfl,I,J⟩
theorem zX8:yD prog 24 1 [(0,.int .u32 1)]=some (69,#[.int .u32 1]):=by kernel_rfl
theorem zRw(J:u=.int .u32 1):∃e cs,yD prog 24 1 [(0,u)]=some (e,cs)/\qQ (W.alloc (.cells cs e)) (.slice (some ⟨W.heap.size,0,none⟩) 1 1) 1:=by
 subst J
 refine⟨_,_,zX8,_,1,1, [1],rfl,⟨fun y I=>by simp at I;subst I;decide,fun hn=>by simp,?_⟩,Rd.new W [1] _ _ (by simp[zBL]) fC⟩
 show sm (lm [1]) 1=1
 simp[sm,lm]
theorem zX9(A:WG Addr)(n c:Nat):prog.built 26 [(1,.slice A n c)]=some #[.bool false,.slice A n c]:=by kernel_rfl
theorem zOS{v:WE}{x:Nat}(I:qQ W v x):∃cells,prog.built 26 [(1,v)]=some cells/\NV W (.agg cells) x:=by
 obtain⟨A,n,c,l,rfl,J,h2⟩:=I
 refine⟨_,zX9 _ _ _,A,n,c,l,by rw[xY oA],by rw[rY];exact J,h2⟩
theorem zYY(s:Bool)(A A':WG Addr)(n n' c c':Nat):prog.built 98 [(0,.agg #[.bool s,.slice A n c,.slice A' n' c'])]=some #[.bool s,.slice A n c,.slice A' n' c']:=by kernel_rfl
theorem zWy{v:WE}(I:QVp m k d v W):∃cells,prog.built 98 [(0,v)]=some cells/\QVp m k d (.agg cells) W:=by
 obtain⟨sg,A,n,c,A',n',c',rfl⟩:=zEA I
 exact⟨_,zYY _ _ _ _ _ _ _,I⟩
def QKp(k:Int)(d:Nat)(v:WE)(w:WB):Prop:=∃b s t,v=.agg #[b,s,t]/\NV w (.agg #[b,s]) k/\qQ w t d
def fQK(k:Int)(d:Nat):UF:=.mk' (QKp k d) fun _ _ _ ⟨b,s,t,e,h1,h2⟩ u=>⟨b,s,t,e,(fNV k).us _ _ _ h1 u,(jB d).us _ _ _ h2 u⟩
theorem zVi{v:WE}(h:QKp k d v W)(O:Bd k m)(I:d<BB^m):QVp m k d v W:=by
 obtain⟨b,s,t,e,J,h2⟩:=h
 exact⟨b,s,t,e,J.uv' O,h2.lv I⟩
theorem zVj(cs:List WE)(W:WB)(h:(CU.agg (fQK k d)).p cs W):∃u,cs[2]?=some u/\qQ W u d:=by
 obtain⟨b,s,t,e,_,I⟩:=h
 rw[zA6 e]
 exact⟨t,rfl,I⟩
theorem zFW{v:WE}{x:Nat}(h:qQ W v x):v.cells=#[v]/\v.oneCell'=true/\zX v=true:=by
 obtain⟨A,n,c,rfl⟩:=h.form
 exact⟨rfl,rfl,rfl⟩
theorem zPr(v:WE)(W:WB)(h:(fQN q).p v W):v.cells.size=3/\(∀u,u∈v.cells.toList->u.oneCell'=true)/\v.cells.toList.all zX=true/\∀cs,(CU.agg (fQV m k d)).p cs W->0+3<=cs.length/\(CU.agg (fQN q)).p (jH cs 0 v.cells.toList) W:=by
 obtain⟨A,n,c,A',n',c',rfl⟩:=zC0 h
 refine⟨rfl,zIe,rfl,fun cs I=>?_⟩
 obtain⟨b,s,t,e,_⟩:=I
 rw[zA6 e]
 exact⟨by simp,h⟩
theorem zSL(v:WE)(W:WB)(h:(fNV k).p v W):v.cells.size=2/\(∀u,u∈v.cells.toList->u.oneCell'=true)/\v.cells.toList.all zX=true/\∀cs,(CU.agg (fQV m k0 d)).p cs W->0+2<=cs.length/\(CU.agg (fQM m k d)).p (jH cs 0 v.cells.toList) W:=by
 obtain⟨A,n,c,rfl,h1⟩:=NV.nat h
 refine⟨rfl,fun u I=>by simp[Value.cells]at I;rcases I with rfl|rfl<;>rfl,rfl,fun cs J=>?_⟩
 obtain⟨b,s,t,e,_,h2⟩:=J
 rw[zA6 e]
 exact⟨by simp,_,_,t,rfl,h,h2⟩
theorem zJt(v:WE)(W:WB)(h:(fNV k).p v W):v.cells.size=2/\(∀u,u∈v.cells.toList->u.oneCell'=true)/\v.cells.toList.all zX=true/\∀cs,(CU.agg (fQK k0 d)).p cs W->0+2<=cs.length/\(CU.agg (fQK k d)).p (jH cs 0 v.cells.toList) W:=by
 obtain⟨A,n,c,rfl,h1⟩:=NV.nat h
 refine⟨rfl,fun u I=>by simp[Value.cells]at I;rcases I with rfl|rfl<;>rfl,rfl,fun cs J=>?_⟩
 obtain⟨b,s,t,e,_,h2⟩:=J
 rw[zA6 e]
 exact⟨by simp,_,_,t,rfl,h,h2⟩
theorem zMJ{d0:Nat}(v:WE)(W:WB)(h:(jB d).p v W):v.cells.size=1/\(∀u,u∈v.cells.toList->u.oneCell'=true)/\v.cells.toList.all zX=true/\∀cs,(CU.agg (fQK k d0)).p cs W->2+1<=cs.length/\(CU.agg (fQK k d)).p (jH cs 2 v.cells.toList) W:=by
 obtain⟨J,h2,h3⟩:=zFW h
 rw[J]
 refine⟨rfl,fun u I=>by simp at I;rw[I];exact h2,by simp[h3],fun cs U=>?_⟩
 obtain⟨b,s,t,e,O,_⟩:=U
 rw[zA6 e]
 exact⟨by simp,b,s,v,rfl,O,h⟩
theorem zUU{x:Nat}(v:WE)(W:WB)(h:(jB x).p v W):v.cells.size=1/\(∀u,u∈v.cells.toList->u.oneCell'=true)/\v.cells.toList.all zX=true/\∀cs,(CU.agg (fQM m k d)).p cs W->1+1<=cs.length/\(CU.agg (fQA m (decide (k<0)) x d)).p (jH cs 1 v.cells.toList) W:=by
 obtain⟨J,h2,h3⟩:=zFW h
 rw[J]
 refine⟨rfl,fun u I=>by simp at I;rw[I];exact h2,by simp[h3],fun cs U=>?_⟩
 obtain⟨b,s,t,e,O,h5⟩:=U
 obtain⟨A,n,c,rfl,rfl⟩:=O.form
 rw[zA6 e]
 exact⟨by simp,v,t,rfl,h,h5⟩
theorem zUT{sg:Bool}{x y:Nat}(O:sg=decide (q.num<0))(hx:x=q.num.natAbs)(hy:y=q.den)(v:WE)(W:WB)(h:(jB y).p v W):v.cells.size=1/\(∀u,u∈v.cells.toList->u.oneCell'=true)/\v.cells.toList.all zX=true/\∀cs,(CU.agg (fQA m sg x d)).p cs W->2+1<=cs.length/\(CU.agg (fQN q)).p (jH cs 2 v.cells.toList) W:=by
 obtain⟨J,h2,h3⟩:=zFW h
 rw[J]
 refine⟨rfl,fun u I=>by simp at I;rw[I];exact h2,by simp[h3],fun cs hc=>?_⟩
 obtain⟨s,t,e,h4,_⟩:=hc
 rw[zA6 e]
 refine⟨by simp,.bool sg,s,v,rfl,?_,by rw[<-hy];exact h⟩
 obtain⟨A,n,c,l,rfl,g1,U⟩:=h4
 exact⟨A,n,c,l,by rw[O],by rw[<-hx];exact g1,U⟩
def RVp(m:Nat)(q:Rat)(v:WE)(w:WB):Prop:=∃k d,QVp m k d v w/\mkRat k d=q
def fRV(m:Nat)(q:Rat):UF:=.mk' (RVp m q) fun _ _ _ ⟨k,d,h,e⟩ u=>⟨k,d,(fQV m k d).us _ _ _ h u,e⟩
theorem wL{v:WE}(h:QNp q v W)(I:QB q m):RVp m q v W:=⟨_,_,zJE h I,sE q⟩
theorem RVp.mono{v:WE}(h:RVp m q v W)(I:m<=m'):RVp m' q v W:=by
 obtain⟨k,d,J,h2⟩:=h
 exact⟨k,d,zTp J I,h2⟩
theorem RVp.qb{v:WE}(h:RVp m q v W)(I:0<m):QB q m:=by
 obtain⟨k,d,⟨b,s,t,_,J,h2⟩,rfl⟩:=h
 exact vF J.bd h2.bound I
theorem j7(m:Nat)(q:Rat):∀cs:List WE,∀W,(fRV m q).p (.agg cs.toArray) W->cs.length=3:=fun cs W ⟨k,d,h,_⟩=>zRG m k d cs W h
theorem zBj{v:WE}(h:(fRV m q).p v W):(CU.agg (fRV m q)).p v.cells.toList W/\v.cells.toList.all zX=true:=by
 obtain⟨k,d,O,h2⟩:=h
 obtain⟨I,J⟩:=zFJ O
 exact⟨⟨k,d,I,h2⟩,J⟩
theorem zFj{f:FuncId}(h:Calls P f args W fun e w'=>e=.returned u/\bW W w'):Calls P f args W (Ret W (UF.eq u).tS):=h.mono fun _ _ ⟨I,h2⟩=>⟨u,I,rfl,h2⟩
attribute [local go_sem] Oper.semAt_some qL yG
theorem zYK(k:Int)(h: -9223372036854775808<=k/\k<=9223372036854775807):Calls prog 76 #[.int .i64 k] W (zH8 W k):=
 (zKq k h.1 h.2 W).mono fun _ _=>q6.v
def SF.row(z:Nat)(Cs:List CU):SF:=⟨fun v W=>∃A c,v=.slice A Cs.length c/\Cs.length<=c/\c<=9223372036854775807/\(A=none->c=0)/\∀i C,Cs[i]?=some C->∃b o cs,A=some ⟨b,o,none⟩/\Mem W b (o+i*z) cs/\C.p cs W,
 fun _ _ _ ⟨A,c,h1,h2,h3,h4,h5⟩ hb=>⟨A,c,h1,h2,h3,h4,fun i C hi=>let⟨b,o,cs,g1,g2,g3⟩:=h5 i C hi;⟨b,o,cs,g1,g2.below hb,C.us _ _ _ g3 (zO hb)⟩⟩⟩
theorem zU{l v:WE}{W0:WB}(I:(SF.row z Cs).p l W0)(h:v=l)(hb:bW W0 W):(SF.row z Cs).p v W:=by subst h;exact(SF.row z Cs).st _ _ _ I hb
def qS(P:WH)(t:WF):WG Nat:=match P.underlying t with
 |some (.slice e)=>(P.info? e).map (·.size)
 |_=>none
section
variable {F:Fence}{m:Nat}{P:WH}{w0:WB}{ops:Array Oper}{G:Nat->SF}{d:Tmp}{ty:WF}{pos:String}{aft:Array Edge}
theorem zCe(hz:qS P t=some z)(hi:Cs[i]?=some C)(hx:∀v W,(fct G x).p v W->(SF.row z Cs).p v W)(hy:∀v W,(fct G y).p v W->v=.int .i64 (i:Int))(hd:∀v W,(wD C.cf).p v W->(G d).p v W:=by exact fun _ _ h=>h):qO F m P w0 ops G ⟨some d,.indexAddr t x y,ty,pos,aft,none⟩:=
 qG (fun _ e=>by cases e) (fun _ e=>by cases e) fun b W hb O=>by
  obtain⟨A,c,e,h2,h3,h4,h5⟩:=hx _ _ (O x (by simp[Op.operands]))
  have e2:=hy _ _ (O y (by simp[Op.operands]))
  obtain⟨b',o,cs,rfl,h6,h7⟩:=h5 i C hi
  have hlt:i<Cs.length:=(bE.1 hi).1
  unfold qS at hz
  split at hz<;>try cases hz
  rename_i e' U
  cases hin:P.info? e' with
  |none=>rw[hin]at hz;cases hz
  |some ie=>
   rw[hin]at hz
   simp only[mB,lY]at hz
   have I:P.elem t=e':=by simp[Program.elem,U]
   refine⟨.pointer (some ⟨b',o+i*z,none⟩),?_,hd _ _ ⟨b',o+i*z,cs,rfl,h7,h6⟩⟩
   have J:(0:Int)<=(i:Int)/\(i:Int)<(Cs.length:Nat):=by omega
   simp only[execOp,e,e2]
   rw[cD,tP _ _ _ _ _ _ _ (by rw[I];exact U),if_pos J,I]
   simp[sizeOf,typeInfo,hin,hz,xH]
def SF.imp(c:Prop)(f:SF):SF:=⟨fun v W=>c->f.p v W,fun _ _ _ h hb hc=>f.st _ _ _ (h hc) hb⟩
theorem yU(L:List (Nat×SF))(f:SF)(hL:∀q,q∈L->∀v W,(G q.1).p v W->q.2.p v W)(hd:∀v W,f.p v W->(G d).p v W)(I:(!(zDH ⟨some d,op,ty,pos,aft,none⟩).contains d&& !(L.map (·.1)).contains d)=true)
  (h:qO F m P w0 ops (upd (upd G [(d,f)]) L) ⟨some d,op,ty,pos,aft,none⟩):qO F m P w0 ops G ⟨some d,op,ty,pos,aft,none⟩:=by
 rw[xV]at I
 intro b W K Q hb hr hK
 refine h b W K Q hb (fun t ht=>?_) fun v W' hv hb'=>hK v W' (fun d' e=>?_) hb'
 .have O:Nat.beq d t=false:=by
   cases e:Nat.beq d t with
   |false=>rfl
   |true=>
    have:=cJ e
    subst this
    have J:=I.1
    rw[bU.2 ht]at J
    cases J
  have U:∀l:List (Nat×SF),(∀q,q∈l->∀v W,(G q.1).p v W->q.2.p v W)->(upd (upd G [(d,f)]) l t).p (b.tmps.getD t undef) W:=by
   intro l
   induction l with
   |nil=>
    intro _
    show(bif Nat.beq d t then f else G t).p _ _
    rw[O]
    exact hr t ht
   | cons q l ih=>
    intro hl
    show(bif Nat.beq q.1 t then q.2 else upd (upd G [(d,f)]) l t).p _ _
    cases e:Nat.beq q.1 t with
    |true=>
     have e2:=cJ e
     exact hl q fC _ _ (by rw[e2];exact hr t ht)
    |false=>exact ih fun x hx=>hl x (by simp[hx])
  exact U L hL
 .cases e
  have J:=hv d rfl
  rw[jP (by simpa using I.2)]at J
  have h2:(bif Nat.beq d d then f else G d).p v W':=J
  rw[show Nat.beq d d=true from mE d]at h2
  exact hd v W' h2
theorem zCE{b c:Bool}{v:WE}(h:v=.bool c)(e:b=true):v=.bool (b&&c):=by rw[e];exact h
theorem zBZ{b c:Bool}{v:WE}(h:v=.bool false)(e:b=false):v=.bool (b&&c):=by rw[e];exact h
theorem zHt{b c:Bool}{v:WE}(h:v=.bool true)(e:b=true):v=.bool (b||c):=by rw[e];exact h
theorem zE7{b c:Bool}{v:WE}(h:v=.bool c)(e:b=false):v=.bool (b||c):=by rw[e];exact h
theorem zM{op:BinOp}(k:IntKind)(u v:Int)(r:Bool)(J:∀q W,(fct G x).p q W->q=.int k u)(O:∀q W,(fct G y).p q W->q=.int k v)(I:(match op with| .eql=>u==v| .neq=>u !=v| .lss=>decide (u<v)| .leq=>decide (u<=v)| .gtr=>decide (u>v)| .geq=>decide (u≥v)|_=>false)=r)(U:(match op with| .eql| .neq| .lss| .leq| .gtr| .geq=>true|_=>false)=true)(hd:∀W,(G d).p (.bool r) W:=by exact fun _=>rfl):qO F m P w0 ops G ⟨some d,.binOp op t x y t',ty,pos,aft,none⟩:=
 zD8 (.int k u) (.int k v) (.bool r) J O (fun W=>by cases op<;>simp[eqGuard]) (fun W=>by
  cases op<;>first
   |exact absurd U Bool.false_ne_true
   |(subst I;simp[binOp,Op.intCmp])) hd
theorem yI(k:IntKind)(u v r:Int)(U:∀q W,(fct G x).p q W->q=.int k u)(J:∀q W,(fct G y).p q W->q=.int k v)(O:k.wrap (u+v)=r)(I:∀W,(G d).p (.int k r) W:=by exact fun _=>rfl):qO F m P w0 ops G ⟨some d,.binOp .add t x y t',ty,pos,aft,none⟩:=
 zD8 (.int k u) (.int k v) (.int k r) U J (fun W=>by simp[eqGuard]) (fun W=>by simp[binOp,Op.intArith,O]) I
theorem zTG(u v:Int)(hx:∀q W,(fct G x).p q W->q=.int .i64 u)(hy:∀q W,(fct G y).p q W->q=.int .i64 v)(hd:∀W,(G d).p (.int .i64 (min u v)) W:=by exact fun _=>rfl):qO F m P w0 ops G ⟨some d,.call ⟨.builtin .min,#[x,y],ats⟩,ty,pos,aft,none⟩:=by
 intro b W K Q hb hr hK
 have e1:=hx _ _ (qA hr (x:=x) (by simp[Op.operands,Call.operands]))
 have e2:=hy _ _ (qA hr (x:=y) (by simp[Op.operands,Call.operands]))
 refine⟨fun f hf=>(by
  unfold Oper.about at hf
  simp[resolve,go_sem]at hf),?_⟩
 rw[bI _ _ _ (fun _ e=>by cases e)]
 have:(execOp b.eval ⟨some d,.call ⟨.builtin .min,#[x,y],ats⟩,ty,pos,aft,none⟩).run P W=.ok (.value (.int .i64 (min u v))) W:=by
  have h:min u v=if v<u then v else u:=by split<;>omega
  simp[execOp,resolve,invoke,builtin,e1,e2,Builtin.min_,Builtin.min2,h]
 rw[this]
 exact hK _ _ (fun d' e'=>by cases e';exact hd _) (xF _ _)
theorem zEC(ht:P.underlying t=some (.slice (P.elem t)))(J:∀v W,(fct G x).p v W->(SF.row z Cs).p v W:=by exact fun _ _ h=>h)(I:∀W,(G d).p (.int .i64 (Cs.length:Nat)) W:=by exact fun _=>rfl):qO F m P w0 ops G ⟨some d,.call ⟨.builtin .len,#[x],#[t]⟩,ty,pos,aft,none⟩:=
 zC3 ht fun v W h=>by
  obtain⟨A,c,e,_⟩:=J v W h
  exact⟨A,Cs.length,c,e,I W⟩
end
section
variable {S:Nat->Prop}{F:Fence}{m:Nat}{P:WH}{Q:Exit->Act->WB->Prop}{w0:WB}{K:List (Nat×KF)}{B:List Bx}{n:Nat}{ds:List Deferred}{a:Act}{w:WB}
end
theorem zTk{v:WE}(h:UV W m v k)(hm:m<=90000):Calls prog 72 #[v] W (zH8 W (-k)):=by
 obtain⟨s,A,n,c,l,rfl,I,h2,h3,rfl⟩:=h
 exact(zIx s A n c l W I h2 oA).mono fun _ _=>q6.v
theorem zHn{v:WE}(h:UV W m v k)(hm:m<=90000):Calls prog 69 #[v] W (zH8 W k):=by
 obtain⟨s,A,n,c,l,rfl,I,h2,h3,rfl⟩:=h
 exact(zAE s A n c l W I h2 oA).mono fun _ _=>q6.v
theorem zKF{v:WE}(h:UV W m v k)(hm:m<=90000):Calls prog 41 #[v] W fun e w'=>e=.returned (.int .i64 k.sign)/\bW W w':=by
 obtain⟨s,A,n,c,l,rfl,I,h2,h3,rfl⟩:=h
 exact zLR s A n c l W I h2 oA
theorem zTj{v:WE}(h:UV W m v k)(h':UV W m v' k')(hm:m<=90000):Calls prog 73 #[v,v'] W (zH8 W (k-k')):=by
 obtain⟨s,A,n,c,l,rfl,U,h2,h3,rfl⟩:=h
 obtain⟨s',A',n',c',l',rfl,O,J,I,rfl⟩:=h'
 exact(zNh s A n c l s' A' n' c' l' W U h2 O J m h3 I hm).mono fun _ _=>q6.v
theorem zVc(k:Int)(h: -9223372036854775808<=k/\k<=9223372036854775807):Calls prog 38 #[.int .i64 k] W (zH8 W k):=
 (zKG k h.1 h.2 W).mono fun _ _=>q6.v
theorem zTm{v:WE}(h:ISV W m v ks)(hm:m<=2000)(hn:ks.length<=1000)(U:ks.sum=k):Calls prog 70 #[v] W (zH8 W k):=by
 obtain⟨is,O,h2⟩:=h
 have hl:is.length=ks.length:=by rw[<-h2,bC]
 obtain⟨A,c,e,h3,h4,J⟩:=O
 have hb:∀j,j<=is.length->(zEt is j).natAbs<BB^(m+1000):=by
  intro j hj
  have I:∀j,Bd (zEt is j) (m+j):=by
   intro j
   induction j with
   |zero=>exact uN qC
   |succ j ih=>
    have e1:zEt is (j+1)=zEt is j+zEF is j:=rfl
    rw[e1]
    exact(ih.add ((show Bd (zEF is j) m from zHJ J j).mono oA)).mono oA
  exact(I j).mono oA
 have:=zTn (m+1000) (⟨A,c,e,h3,h4,J⟩:IS W m v is) oA oA oA hb
 rw[zFZ is is.length (vP _),rU,h2,U]at this
 exact this
theorem zEz{v:WE}(h:ISV W m v ks)(hn:m*ks.length+m+1<=40000)(J:ks.foldl (·*·) 1=k)(hl:ks.length<=1000):Calls prog 56 #[v] W (zH8 W k):=by
 obtain⟨is,O,h2⟩:=h
 have hl2:is.length=ks.length:=by rw[<-h2,bC]
 obtain⟨A,c,e,h3,U,I⟩:=O
 have:=zTl (m*ks.length+m+1) (⟨A,c,e,h3,U,I⟩:IS W m v is) oA oA oA (fun k J=>(zHP I k).mono (by
  have:m*k<=m*ks.length:=uR _ oA
  omega))
 rw[zEG is is.length (vP _),rU,h2,J]at this
 exact this
section
variable {S:Nat->Prop}{w0:WB}{K:List (Nat×KF)}{B:List Bx}{n:Nat}{ds:List Deferred}{a:Act}{w:WB}
theorem yE{c:Prop}{f:SF}{v:WE}(e:c)(h:(SF.imp c f).p v W):f.p v W:=h e
def zA9(K0 K:List (Nat×KF))(B:List Bx)(a:Act)(t:Nat):SF:=if t∈K.map (·.1)++B.map (·.t)then⟨fun v W=>(jM (K0++K) B t).p v W/\v=a.tmps.getD t undef,fun _ _ _ h hb=>⟨(jM (K0++K) B t).st _ _ _ h.1 hb,h.2⟩⟩else jM (K0++K) B t
variable {F:Fence}{m:Nat}{P:WH}{ops:Array Oper}{Q:Exit->Act->WB->Prop}
theorem zFw(K0:List (Nat×KF))(k:Nat)(L:List (Nat×Rw))(h:StS S w0 (K0++K) B n ds a w){hk:Prop}{Fin:Act->WB->Prop}
  (hT:∀G':Nat->SF,At w G' n ds a w->Obs F m P w ops (upd G' (zK L)) (ops.toList.take k)->(∀a' w',At w (zC6 ops k (upd G' (zK L))) n ds a' w'->Fin a' w')->hk)
  (hM:jG ops=true)(hs:((L.map (·.1)).all fun t=>(List.range k).any fun i=>zT ops i==some t)=true)(hG:jQ ops (K.map (·.1)++B.map (·.t))=true)(hI:jY (L.map (·.1))=true)
  (hz:Obs F m P w ops (upd (jM (K0++K) B) (zK L)) (ops.toList.take k))
  (hw:∀a w,StS S w0 (zA4 L++K) B n ds a w->(∀q,q∈zK L->q.2.p (a.tmps.getD q.1 undef) w)->Fin a w):hk:=by
 have J:(zK L).map (·.1)=L.map (·.1):=by simp[zK]
 have I:∀t,t∈K.map (·.1)++B.map (·.t)->∀i,zT ops i≠some t:=fun t ht i hi=>by
  have O:=xR.1 hG t ht
  obtain⟨o,ho,_⟩:=qE hi
  have h2:=xR.1 O i (xT.2 (xP.1 ho).1)
  rw[hi]at h2
  simp at h2
 have hv:∀t,t∈K.map (·.1)++B.map (·.t)->a.tmps.getD t undef=a.tmps.getD t undef:=fun _ _=>rfl
 -- the slots of K and B stay: a table that says so
 have hA:=h.at
 refine hT (zA9 K0 K B a) ⟨hA.gr,hA.size,hA.nd,fun t=>?_⟩ ?_ fun a' w' h6=>?_
 .by_cases ht:t∈K.map (·.1)++B.map (·.t)
  .unfold zA9;rw[if_pos ht];exact⟨hA.sl t,rfl⟩
  .unfold zA9;rw[if_neg ht];exact hA.sl t
 .-- the obligations hold with the stronger table
  have hL:∀t,t∈K.map (·.1)++B.map (·.t)->((zK L).map (·.1)).contains t=false:=fun t ht=>by
   cases hc:((zK L).map (·.1)).contains t with
   |false=>rfl
   |true=>
    exfalso
    have hm:=bU.1 hc
    rw[J]at hm
    obtain⟨i,_,he⟩:=bQ.1 (xR.1 hs t hm)
    exact I t ht i (by simpa using he)
  have hC:∀t v W,(upd (zA9 K0 K B a) (zK L) t).p v W->(upd (jM (K0++K) B) (zK L) t).p v W:=fun t v W hh=>by
   by_cases ht:t∈K.map (·.1)++B.map (·.t)
   .rw[jP (hL t ht)]at hh ⊢
    unfold zA9 at hh
    rw[if_pos ht]at hh
    exact hh.1
   .have:∀l:List (Nat×SF),upd (zA9 K0 K B a) l t=upd (jM (K0++K) B) l t:=fun l=>by
     induction l with
     |nil=>exact if_neg ht
     |cons q l ih=>
      show(bif Nat.beq q.1 t then q.2 else upd _ l t)=(bif Nat.beq q.1 t then q.2 else upd _ l t)
      rw[ih]
    rwa [this]at hh
  have hy:∀t,(∃i,zT ops i=some t)->∀v W,(upd (jM (K0++K) B) (zK L) t).p v W->(upd (zA9 K0 K B a) (zK L) t).p v W:=fun t ⟨i,hi⟩ v W hh=>by
   have ht: ¬t∈K.map (·.1)++B.map (·.t):=fun ht=>I t ht i hi
   have:∀l:List (Nat×SF),upd (zA9 K0 K B a) l t=upd (jM (K0++K) B) l t:=fun l=>by
    induction l with
    |nil=>exact if_neg ht
    |cons q l ih=>
     show(bif Nat.beq q.1 t then q.2 else upd _ l t)=(bif Nat.beq q.1 t then q.2 else upd _ l t)
     rw[ih]
   rwa [this]
  have hl:∀(o:Oper),o∈ops.toList->qO F m P w ops (upd (jM (K0++K) B) (zK L)) o->qO F m P w ops (upd (zA9 K0 K B a) (zK L)) o:=by
   intro o ho hg
   have h8:∀d,o.dst=some d->∃i,zT ops i=some d:=fun d hd=>by
    obtain⟨i,hi⟩:=mM ho
    exact⟨i,by rw[qU (o:=o) (by simpa using hi)];exact hd⟩
   have hD:zMg F m P w (upd (jM (K0++K) B) (zK L)) o->zMg F m P w (upd (zA9 K0 K B a) (zK L)) o:=fun O b W K' Q' hb hr hP=>
    O b W K' Q' hb (fun t ht=>hC t _ _ (hr t ht)) fun v W' hv hb'=>hP v W' (fun d hd=>hy d (h8 d hd) _ _ (hv d hd)) hb'
   unfold qO at hg ⊢
   cases hgd:o.guard with
   |none=>rw[hgd]at hg;exact hD hg
   |some q=>
    rw[hgd]at hg
    obtain⟨g,bv,O,h2,h3,h4⟩:=hg
    exact⟨g,bv,O,fun v W hh=>h2 v W (hC g v W hh),fun e=>hD (h3 e),fun e=>⟨fun d hd W=>hy d (h8 d hd) _ _ ((h4 e).1 d hd W),(h4 e).2⟩⟩
  have hE:∀l:List Oper,(∀o,o∈l->o∈ops.toList)->Obs F m P w ops (upd (jM (K0++K) B) (zK L)) l->Obs F m P w ops (upd (zA9 K0 K B a) (zK L)) l:=by
   intro l
   induction l with
   |nil=>intro _ _;trivial
   |cons o l ih=>intro hm ho;exact⟨hl o (hm o fC) ho.1,ih (fun o' hQ=>hm o' (by simp[hQ])) ho.2⟩
  exact hE _ (fun o ho=>uV ho) hz
 .have hg:=h6.gr
  have h0:∀t,t∈K.map (·.1)++B.map (·.t)->a'.tmps.getD t undef=a.tmps.getD t undef:=fun t ht=>by
   have O:=h6.sl t
   unfold zC6 at O
   have h2:((List.range ops.size).any fun i=>decide (k<=i)&&(zT ops i==some t))=false:=by
    refine cN.2 fun i _=>?_
    have:=I t ht i
    simp[this]
   rw[h2]at O
   have h3:((zK L).map (·.1)).contains t=false:=by
    cases hc:((zK L).map (·.1)).contains t with
    |false=>rfl
    |true=>
     exfalso
     have hm:=bU.1 hc
     rw[J]at hm
     obtain⟨i,_,he⟩:=bQ.1 (xR.1 hs t hm)
     exact I t ht i (by simpa using he)
   rw[show(bif false then SF.any else upd _ (zK L) t)=upd _ (zK L) t from rfl,jP h3,zA9,if_pos ht]at O
   exact O.2
  have ha:∀q,q∈zK L->q.2.p (a'.tmps.getD q.1 undef) w':=fun q hB=>by
   have O:=h6.sl q.1
   obtain⟨i,hi,he⟩:=bQ.1 (xR.1 hs q.1 (by rw[<-J];exact xG.2 ⟨_,hB,rfl⟩))
   have hik:=xT.1 hi
   have he:zT ops i=some q.1:=by simpa using he
   unfold zC6 at O
   have h2:((List.range ops.size).any fun j=>decide (k<=j)&&(zT ops j==some q.1))=false:=by
    refine cN.2 fun j _=>?_
    by_cases hj:k<=j
    .have:zT ops j≠some q.1:=fun e=>by
      obtain⟨oi,hN,hO⟩:=qE he
      obtain⟨oj,hJ,hK⟩:=qE e
      exact zAe hM hN hJ oA hO hK
     simp[this]
    .simp[hj]
   rw[h2,show(bif false then SF.any else upd (zA9 K0 K B a) (zK L) q.1)=upd (zA9 K0 K B a) (zK L) q.1 from rfl,zCz (q:=q) (by rw[J];exact hI) hB]at O
   exact O
  refine hw a' w' ⟨h.gr.trans hg,h6.size,h6.nd,fun q U=>?_,h.bx.keep hg (zO hg) B fun x hx=>h0 _ (cQ _ (xG.2 ⟨x,hx,rfl⟩)),zAx h.mks hg,h.so.imp (fun hu q U=>(by
   rcases vV.1 U with U|U
   .obtain⟨f,e,_⟩:=jO U;exact⟨f,e⟩
   .exact hu q (cQ _ U))) (fun x=>x)⟩ ha
  rcases vV.1 U with U|U
  .obtain⟨f,hR,hm⟩:=jO U
   have O:=ha (q.1,f.tS) (xG.2 ⟨_,hm,rfl⟩)
   rw[hR]
   exact O
  .rw[h0 q.1 (cT _ (xG.2 ⟨q,U,rfl⟩))]
   exact KF.us (h.sl q (cQ _ U)) (zO hg)
theorem zFH(K0:List (Nat×KF))(U:List Nat)(k:Nat)(L:List (Nat×Rw))(hmix:P.follows .mixedOrders=true)(h:StS S w0 (K0++K) B n ds a w)
  (I:(zCf ops U k n (L.map (·.1))&&jQ ops (K.map (·.1)++B.map (·.t))&&jY (L.map (·.1)))=true)
  (O:Obs F m P w ops (upd (jM (K0++K) B) (zK L)) (ops.toList.take k))
  (h1:∀Q',(∀a w,Q .normal a w->Q' .normal a w)->∀a w,StS S w0 (zA4 L++K) B n ds a w->zAW F m P ops Q' k a w):(Code.region id ops true).wpIn F m P Q a w:=by
 simp only[xV]at I
 have J:(zK L).map (·.1)=L.map (·.1):=by simp[zK]
 have h0:=I.1.1
 unfold zCf at h0
 simp only[xV]at h0
 obtain⟨⟨⟨⟨⟨⟨⟨⟨⟨⟨⟨⟨⟨⟨⟨h5,_⟩,_⟩,_⟩,_⟩,h4⟩,_⟩,_⟩,_⟩,_⟩,_⟩,_⟩,_⟩,_⟩,_⟩,_⟩:=h0
 exact zFw K0 k L h (fun G' hA hO hF=>zCZ U k (zK L) hmix (by rw[J];exact I.1.1) hA hO hF) h5 h4 I.1.2 I.2 O (fun a w h _=>h1 (qK Q) (fun a w h=>h) a w h)
end
theorem zEd{p:Nat->Prop}:∀n,p n->∃s,p s/\∀k,k<s-> ¬p k:=by
 intro n
 induction n using Nat.strongRecOn with
 | _ n ih=>
  intro O
  by_cases h:∃k,k<n/\p k
  .obtain⟨k,J,I⟩:=h
   exact ih k J I
  .exact⟨n,O,fun k J I=>h ⟨k,J,I⟩⟩
section
variable {S:Nat->Prop}{F:Fence}{m:Nat}{P:WH}{Q:Exit->Act->WB->Prop}{w0:WB}{K:List (Nat×KF)}{B:List Bx}{n:Nat}{ds:List Deferred}{a:Act}{w:WB}
theorem zKo{σ:Type}{c:Code}(I:σ->Prop)(Kf:σ->List (Nat×KF))(O:σ->List Bx)(U:σ->List Deferred)(J:σ->Nat)(x0:σ)(hI:I x0)(h0:StS S w0 (Kf x0) (O x0) n (U x0) a w)
  (round:∀x a w,I x->StS S w0 (Kf x) (O x) n (U x) a w->c.wpIn F m P (Exit.then (fun a' w'=>∃y,I y/\J y<J x/\StS S w0 (Kf y) (O y) n (U y) a' w') Q) a w):(Code.loop c).wpIn F m P Q a w:=by
 have low:∀a w,(∃k,∃x,I x/\J x=k/\StS S w0 (Kf x) (O x) n (U x) a w)->∃k,(∃x,I x/\J x=k/\StS S w0 (Kf x) (O x) n (U x) a w)/\∀j,j<k-> ¬ ∃x,I x/\J x=j/\StS S w0 (Kf x) (O x) n (U x) a w:=
  fun a w ⟨k,hk⟩=>zEd k hk
 open Classical in
 refine wpIn_loop (fun a w=>∃k,∃x,I x/\J x=k/\StS S w0 (Kf x) (O x) n (U x) a w) (fun a w=>if h:∃k,∃x,I x/\J x=k/\StS S w0 (Kf x) (O x) n (U x) a w then Classical.choose (low a w h)else 0) ⟨_,x0,hI,rfl,h0⟩ ?_
 rintro a w hA
 have e0:=tO (low a w hA)
 obtain⟨x,hx,hm,h8⟩:=e0.1
 refine eB ?_ (round x a w hx h8)
 intro e a' w' h
 cases e with
 |normal=>
  obtain⟨y,h1,h2,h3⟩:∃y,I y/\J y<J x/\StS S w0 (Kf y) (O y) n (U y) a' w':=h
  have h5:∃k,∃x,I x/\J x=k/\StS S w0 (Kf x) (O x) n (U x) a' w':=⟨_,y,h1,rfl,h3⟩
  refine⟨h5,?_⟩
  simp only[dif_pos hA,dif_pos h5]
  have e1:=tO (low a' w' h5)
  have:Classical.choose (low a' w' h5)<=J y:=Nat.not_lt.1 fun h7=>e1.2 _ h7 ⟨y,h1,rfl,h3⟩
  omega
 |_=>exact h
theorem zDY{σ:Type}{c:Code}(t:Nat)(J:σ->CU)(I:σ->Prop)(U:σ->List (Nat×KF))(mu:σ->Nat)(O:σ)(hI:I O)(h0:StS S w0 (U O) B n ds a w)(hB:zE2 B t (J O)=B)
  (round:∀x a w,I x->StS S w0 (U x) (zE2 B t (J x)) n ds a w->c.wpIn F m P (Exit.then (fun a' w'=>∃y,I y/\mu y<mu x/\StS S w0 (U y) (zE2 B t (J y)) n ds a' w') Q) a w):(Code.loop c).wpIn F m P Q a w:=
 zKo I U (fun x=>zE2 B t (J x)) (fun _=>ds) mu O hI (by rw[hB];exact h0) round
theorem zAg{σ:Type}{c:Code}(I:σ->Prop)(J:σ->List (Nat×KF))(U:σ->Nat)(O:σ)(hI:I O)(h0:StS S w0 (J O) B n ds a w)
  (round:∀x a w,I x->StS S w0 (J x) B n ds a w->c.wpIn F m P (Exit.then (fun a' w'=>∃y,I y/\U y<U x/\StS S w0 (J y) B n ds a' w') Q) a w):(Code.loop c).wpIn F m P Q a w:=
 zKo I J (fun _=>B) (fun _=>ds) U O hI h0 round
theorem StS.popB{x:Bx}(h:StS S w0 K (x::B) n ds a w):StS S w0 K B n ds a w:=⟨h.gr,h.size,h.nd,h.sl,h.bx.2,h.mks,h.so⟩
theorem StS.renew(h:St w0 K B n ds a w)(J:List (Nat×KF))(O:∀q,q∈J->q∈K∨ ∃g,q.2=KF.u g/\(q.1,KF.o g.tS)∈K):St w0 J B n ds a w:=
 ⟨h.gr,h.size,h.nd,fun q U=>by
  rcases O q U with I|⟨g,e,I⟩
  .exact h.sl q I
  .have:=h.sl _ I
   rw[e]
   exact g.us _ _ _ this (zO h.gr.below),h.bx,h.mks,.inr fun _ h=>h⟩
end
structure NewB where
 i:Nat
 d:Nat
 e:WF
 cs:List WE
 f:SF
def SF.isIn(f:SF)(L:List (Nat×SF))(d:Nat):Prop:=(d,f)∈L
def zO7(al:List NewB)(a:Act):Prop:=∀q q',q∈al->q'∈al->q.i≠q'.i->∀b b',blk (a.tmps.getD q.d undef)=some b->blk (a.tmps.getD q'.d undef)=some b'->b≠b'
section
variable {S:Nat->Prop}{w0:WB}{K:List (Nat×KF)}{B:List Bx}{n:Nat}{ds:List Deferred}{a:Act}{w:WB}{F:Fence}{m:Nat}{P:WH}{ops:Array Oper}{Q:Exit->Act->WB->Prop}
theorem zBH(I:∀W,C.p cs W)(J:cs.all zX=true)(v:WE)(w:WB)(h:(SF.own W te cs).p v w):(wK W te C).p v w:=by
 obtain⟨b,O,h2,h3⟩:=h
 exact⟨b,cs,O,h2,h3,I w,J⟩
theorem StS.adoptA(h:StS S w0 K B n ds a w){W:WB}{te:WF}{C:CU}(r:Bool)(t:Nat)(hv:(wK W te C).p (a.tmps.getD t undef) w)(hW:BlS S w0 W)(J:∀y,y∈B->y.b<W.heap.size∨(r=true/\y.r=true)∨ ∀b,blk (a.tmps.getD t undef)=some b->y.b≠b):∃b,W.heap.size<=b/\blk (a.tmps.getD t undef)=some b/\StS S w0 K (⟨t,te,C,b,r⟩::B) n ds a w:=by
 obtain⟨b,cs,I,h2,h3,O,U⟩:=hv
 refine⟨b,h2,by rw[I];rfl,h.gr,h.size,h.nd,h.sl,⟨⟨cs,I,.inr (.inl (xQ hW.size h2)),h3,O,U,fun y hy=>?_⟩,h.bx⟩,h.mks,h.so⟩
 rcases J y hy with e|e|e
 .left
  show y.b≠b
  omega
 .exact .inr e
 .exact .inl (e b (by rw[I];rfl))
end
/-! ### Answers of a function that ranges over functions -/
theorem zNF{B:Nat}(h:Oth B W W'){cs:Array WE}{t:WF}{z:Nat×Nat}(I:W.heap[b]?=some (.cells cs t z)):W'.heap[b]?=some (.cells cs t z):=by
 rcases h.block b with e|⟨_,⟨o,J,O⟩,_⟩
 .exact e.trans I
 .rw[I]at J
  cases J
  cases O
section
variable {S:Nat->Prop}{F:Fence}{m:Nat}{P:WH}{Q:Exit->Act->WB->Prop}{w0:WB}{K:List (Nat×KF)}{B:List Bx}{n:Nat}{ds:List Deferred}{a:Act}{w:WB}
theorem StS.resM(h:St w0 K B n ds a w){fn:Func}{f:SF}{v:WE}(O:∀w',Oth w0.heap.size w w'->(results fn a.tmps).run P w'=.ok v w')(U:∀w',Oth w0.heap.size w w'->f.p v w'):bodyPostM Fence.wide 0 P fn (Ret w0 f) .ret a w:=by
 obtain⟨Ds,J⟩:=h.mks
 show LeavesInM Fence.wide 0 P fn a.tmps (Ret w0 f) a.defers .returning w
 rw[h.nd]
 exact qH w O Ds _ w J (Oth.refl _ _) fun w' I=>⟨v,rfl,U w' I,zAj h.gr.below I lr⟩
def inB(B:List Bx)(k:Nat):Prop:=∃x,x∈B/\x.b=k/\x.r=false
structure Itr(N:Nat)(W W':World):Prop where
 os:W'.os=W.os
 tape:W'.tape=W.tape
 output:W'.output=W.output
 size:W.heap.size<=W'.heap.size
 low:∀k:Nat,k<N->W'.heap[k]?=W.heap[k]?
 oth:∀(k:Nat) (o:Obj),W.heap[k]?=some o->o.isCells=false->W'.heap[k]?=some o
 keep:y9 W W'
def Ev(Ef:Nat->List UF)(k:Nat)(xs:Array WE)(W:WB):Prop:=xs.size=(Ef k).length/\∀(j:Nat) (f:UF),(Ef k)[j]?=some f->f.p (xs.getD j undef) W
theorem vG{S':Nat->Prop}{w1 W W':WB}{a1:Act}:∀(B B':List Bx),B'.map (fun x=>(x.t,x.e,x.b,x.r))=B.map (fun x=>(x.t,x.e,x.b,x.r))->yP S w0 a W B->yP S' w1 a1 W' B'->yP S w0 a W' B'
 | [], [],_,_,_=>trivial
 | [],_::_,e,_,_=>by cases e
 |_::_, [],e,_,_=>by cases e
 |x::B,x'::B',e,h,h'=>by
  simp only[xX,tL,tM]at e
  obtain⟨⟨e1,e2,I,J⟩,e5⟩:=e
  obtain⟨⟨cs,O,h2,_⟩,U⟩:=h
  obtain⟨⟨cs',_,_,g3,g4,g5,g6⟩,gr⟩:=h'
  exact⟨⟨cs',by rw[e1,I];exact O,by rw[I,J];exact h2,g3,g4,g5,g6⟩,vG B B' e5 U gr⟩
theorem wR{S':Nat->Prop}{w1 W:WB}{J:Act}:∀(B:List Bx),(∀x,x∈B->x.r=true∨w1.heap.size<=x.b∨S' x.b)->(∀x,x∈B->J.tmps.getD x.t undef=a.tmps.getD x.t undef)->yP S w0 a W B->yP S' w1 J W B
 | [],_,_,_=>trivial
 |x::B,hS,hsl,h=>by
  obtain⟨⟨cs,O,_,h3⟩,U⟩:=h
  exact⟨⟨cs,(hsl x (cM ..)).trans O,hS x (cM ..),h3⟩,wR B (fun y I=>hS y (cK _ I)) (fun y I=>hsl y (cK _ I)) U⟩
theorem wO{W W':WB}(I:y9 W W'):∀(B:List Bx),(∀x,x∈B->W'.heap[x.b]?=W.heap[x.b]?)->yP S w0 a W B->yP S w0 a W' B
 | [],_,_=>trivial
 |x::B,hs,h=>by
  obtain⟨⟨cs,J,h2,h3,U,h5⟩,O⟩:=h
  exact⟨⟨cs,J,h2,(hs x (cM ..)).trans h3,x.c.us _ _ _ U I,h5⟩,wO I B (fun y hy=>hs y (cK _ hy)) O⟩
theorem zCu{z:Nat×Nat}(h3:W.heap[b]?=some (.cells cs.toArray t z))(h5:cs.all zX=true){q:Addr}(O:q.block=b){u:WE}(I:W.cell? q=some u):zX u=true:=by
 have J:W.cell? q=if q.spot.isSome then none else cs.toArray[q.off]?:=by
  unfold World.cell?
  rw[O,h3]
 rw[J]at I
 split at I
 .cases I
 .exact xR.1 h5 _ (mJ (by simpa using I))
theorem zBv{o:Obj}(h:W.heap[b]?=some o)(I:o.isCells=false){q:Addr}(J:q.block=b):W.cell? q=none:=zEs (a:=q) (by rw[J];exact h) I
theorem StS.itr(h:StS S w0 K B n ds a w){N:Nat}{w':WB}(hi:Itr N w w')(J:w0.heap.size<=N)(U:∀x,x∈B->x.b<N):StS S w0 K B n ds a w':=
 ⟨⟨hi.os.trans h.gr.os,hi.tape.trans h.gr.tape,hi.output.trans h.gr.output,xQ h.gr.size hi.size,fun k I O=>(hi.low k (vU I J)).trans (h.gr.block k I O)⟩,h.size,h.nd,fun q hq=>KF.us (h.sl q hq) hi.keep,
  wO hi.keep B (fun x hx=>hi.low _ (U x hx)) h.bx,h.mks.imp fun _ hm=>hm.keep fun k o ho hc=>hi.oth k o ho hc,h.so⟩
theorem StS.put(h:StS S w0 K B n ds a w){l:Nat}{o o':Obj}(ho:w.heap[l]?=some o)(hc:o.isCells=false)(hD:∀Ds,Marks w0.heap.size w ds Ds->l ∉ Ds)(O:S l∨w0.heap.size<=l):StS S w0 K B n ds a (w.putObj l o'):=by
 have hk:y9 w (w.putObj l o'):=fun q u J=>by
  by_cases e:q.block=l
  .rw[zBv ho hc e]at J
   cases J
  .exact(bR (bN e)).trans J
 refine⟨⟨h.gr.os,h.gr.tape,h.gr.output,by rw[eI];exact h.gr.size,fun k U hs=>(bN (fun e=>?_)).trans (h.gr.block k U hs)⟩,h.size,h.nd,fun q J=>KF.us (h.sl q J) hk,wO hk B (fun x hx=>bN fun e=>?_) h.bx,?_,h.so⟩
 .subst e
  rcases O with O|O
  .exact hs O
  .omega
 .obtain⟨cs,_,_,h3,_⟩:=h.bx.mem x hx
  rw[e,ho]at h3
  cases h3
  cases hc
 .obtain⟨Ds,I⟩:=h.mks
  refine⟨Ds,I.eq,I.nodup,fun D hd=>⟨(I.at_ D hd).1,(bN fun e=>?_).trans (I.at_ D hd).2⟩⟩
  subst e
  exact hD Ds I hd
/-! ### The values that a round is handed -/
theorem zFn:∀(L:List (Nat×WE)) (t:Array WE),(L.foldl (fun t (p,v)=>t.setIfInBounds p v) t).size=t.size
 | [],_=>rfl
 |_::L,t=>by rw[eW,zFn L];simp
theorem zB6(q:Nat):∀(L:List (Nat×WE)) (t:Array WE),q ∉ L.map (·.1)->(L.foldl (fun t (p,v)=>t.setIfInBounds p v) t).getD q undef=t.getD q undef
 | [],_,_=>rfl
 |(p,v)::L,t,h=>by
  rw[xX,xS,not_or]at h
  rw[eW,zB6 q L _ h.2]
  exact zB1 (fun e=>h.1 e.symm)
theorem zIa:∀(L:List (Nat×WE)) (t:Array WE) (p:Nat) (v:WE),(L.map (·.1)).Nodup->(p,v)∈L->p<t.size->(L.foldl (fun t (p,v)=>t.setIfInBounds p v) t).getD p undef=v
 | (p',v')::L,t,p,v,hn,I,ht=>by
  rw[xX,bX]at hn
  rw[eW]
  rcases xS.1 I with e|I
  .cases e
   rw[zB6 _ L _ hn.1]
   simp[ht]
  .exact zIa L _ p v hn.2 I (by simpa using ht)
theorem BlS.sub{S':Nat->Prop}(h:BlS S w w')(I:∀k,S k->S' k):BlS S' w w':=⟨h.os,h.tape,h.output,h.size,fun k O J=>h.block k O fun U=>J (I k U)⟩
theorem zIU:∀{Ds Ds':List Nat},Ds.map mark=Ds'.map mark->Ds=Ds'
 | [], [],_=>rfl
 | [],_::_,e=>by cases e
 |_::_, [],e=>by cases e
 |D::Ds,D'::Ds',e=>by
  simp only[xX,tL]at e
  rw[zIU e.2,show D=D' from by simpa[mark]using e.1]
theorem StS.rebase(h:StS S w0 K B n [] a w)(O:y9 w w')(U:∀q,w0.heap.size<=q->S q)(hb:∀x,x∈B->w'.heap[x.b]?=w.heap[x.b]?):StS S w' K B n [] a w':=by
 have J:∀q,q∈K->∃f,q.2=.u f:=by
  rcases h.so with J|hs
  .exact J
  .exact absurd (U w0.heap.size lr) (hs _)
 refine⟨BlS.refl _ _,h.size,h.nd,fun q hq=>?_,wO O B hb (wR B (fun x hx=>?_) (fun _ _=>rfl) h.bx),⟨[],Marks.nil _ _⟩,.inl J⟩
 .obtain⟨f,e⟩:=J q hq
  have:=h.sl q hq
  rw[e]at this ⊢
  exact f.us _ _ _ this O
 .obtain⟨_,_,I,_⟩:=h.bx.mem x hx
  rcases I with I|I|I
  .exact .inl I
  .exact .inr (.inr (U _ I))
  .exact .inr (.inr I)
theorem qD:∀{l:List Nat},jY l=true->l.Nodup
 | [],_=>List.nodup_nil
 |x::l,h=>by
  unfold jY at h
  rw[xV]at h
  refine bX.2 ⟨fun I=>?_,qD h.2⟩
  rw[bU.2 I]at h
  exact absurd h.1 (by decide)
/-! ### The range -/
def zJg:KF->Bool
 | .u _=>true
 | .o _=>false
def zYq(R1:Act->WB->Prop)(cz:Code)(R2:Act->WB->Prop):Exit->Act->WB->Prop
 | .normal,a,W=>R1 a W
 | .exit id,a,W=>cz=.exit id/\R2 a W
 | .ret,a,W=>cz=.ret/\R2 a W
 | .goto t,a,W=>cz=.goto t/\R2 a W
 | .panic _,_,_=>False
 | .outgrown,_,_=>False
abbrev zGb(x:Bx):Nat×WF×Nat×Bool:=(x.t,x.e,x.b,x.r)
theorem zJT(e:B'.map zGb=B.map zGb){k:Nat}(h:inB B' k):inB B k:=by
 obtain⟨x,U,J,h2⟩:=h
 have:zGb x∈B.map zGb:=by rw[<-e];exact xG.2 ⟨x,U,rfl⟩
 obtain⟨y,O,I⟩:=xG.1 this
 simp only[zGb,tM]at I
 exact⟨y,O,I.2.2.1.trans J,I.2.2.2.trans h2⟩
theorem zJ4(e:B'.map zGb=B.map zGb){x:Bx}(O:x∈B'):∃y,y∈B/\y.t=x.t/\y.b=x.b/\y.r=x.r:=by
 have:zGb x∈B.map zGb:=by rw[<-e];exact xG.2 ⟨x,O,rfl⟩
 obtain⟨y,J,I⟩:=xG.1 this
 simp only[zGb,tM]at I
 exact⟨y,J,I.1,I.2.2.1,I.2.2.2⟩
theorem StS.more(h:StS S w0 K B n ds a w){D:Nat}(U:w0.heap.size<=D)(O:w.heap[D]?=some (.deferred (some [])))(hn:∀Ds,Marks w0.heap.size w ds Ds->D ∉ Ds):StS S w0 K B n (mark D::ds) { a with defers:=mark D::a.defers } w:=
 ⟨h.gr,h.size,by rw[h.nd],h.sl,wR (a:=a) B (fun x hx=>(h.bx.mem x hx).elim fun _ J=>J.2.1) (fun _ _=>rfl) h.bx,(h.mks.elim fun Ds I=>⟨D::Ds,I.more (hn Ds I) U O⟩),h.so⟩
end
section
variable {F:Fence}{n:Nat}{P:WH}{ops:Array Oper}{Q:Exit->Act->WB->Prop}
def zGY(ops:Array Oper)(listed0:Array Bool)(fl:Nat->Bool)(k:Nat):Bool:=(List.range ops.size).all fun j=>decide (j<k)||(List.range k).all fun i=>fl i||listed0.getD i true||zDb ops ops.size i j
def zBM(ops:Array Oper)(i:Nat):Array Bool:=((List.range ops.size).map fun j=>zDb ops ops.size j i).toArray
theorem zLj{listed:Array Bool}(O:∀j,j<ops.size->zDb ops ops.size j i=true->listed.getD j true=true)(h:Region.free .any ops (zBM ops i) i=true):Region.free .any ops listed i=true:=by
 unfold Region.free at h ⊢
 split at h
 .exact h
 .refine xR.2 fun j I=>?_
  have J:=xR.1 h j I
  have h2:(zBM ops i).getD j true=zDb ops ops.size j i:=by
   unfold zBM
   rw[xU]
   simp[xT.1 I]
  rw[h2]at J
  cases hc:zDb ops ops.size j i with
  |true=>rw[O j (xT.1 I) hc,Bool.or_true,Bool.true_or]
  |false=>
   rw[hc,Bool.or_false]at J
   rw[Bool.or_assoc,Bool.or_comm (listed.getD j true),<-Bool.or_assoc,J,Bool.true_or]
theorem zOo{K:Act->WB->Prop}(O:ops[i]?=some o)(I:zEj ops i=true)(h:wpOpIn F n P ops (qK Q) i K a w):∃d v,o.dst=some d/\zAn P ops (fun _=>True) o v a/\K (a.put (some d) v) w:=by
 unfold zEj at I
 rw[O]at I
 unfold wpOpIn at h
 rw[O]at h
 split at I
 .rename_i d x ty pos aft J
  cases J
  refine⟨d,a.eval x,rfl,⟨.inl ⟨rfl,fun w _=>rfl⟩,fun w=>rfl⟩,?_⟩
  have h2:=h.2
  rw[bI _ _ _ (fun _ e=>by cases e)]at h2
  exact h2
 .rename_i d x j ty pos aft J
  cases J
  have h2:=h.2
  rw[bI _ _ _ (fun _ e=>by cases e)]at h2
  cases hrun:(Instr.extract (a.eval x) j).run P w with
  |halt y w'=>
   have J:(execOp a.eval ⟨some d,.extract x j,ty,pos,aft,none⟩).run P w=.halt y w':=by simp[execOp,hrun]
   rw[J]at h2
   cases y<;>exact h2.elim
  | ok v w'=>
   have U:w'=w:=by
    unfold Instr.extract at hrun
    split at hrun
    .split at hrun
     .simp at hrun;exact hrun.2.symm
     .simp at hrun
    .simp at hrun
   subst U
   have J:(execOp a.eval ⟨some d,.extract x j,ty,pos,aft,none⟩).run P w'=.ok (.value v) w':=by simp[execOp,hrun]
   rw[J]at h2
   exact⟨d,v,rfl,⟨.inl ⟨rfl,fun w _=>by simp[execOp,zCX _ _ _ w hrun]⟩,fun w=>rfl⟩,h2⟩
 .cases I
variable {listed0:Array Bool}{A:Nat->Bool}{E:Nat->WE->WB->Prop}{C:WB->Prop}{a0:Act}
theorem zVK{k:Nat}(fl:Nat->Bool)(qk:jW ops=true)(qh:Region.noSelect ops=true)(qf:ops.size<=z)(hfree:∀i,i<k->fl i=true->zEj ops i=true/\Region.free .any ops (zBM ops i) i=true)(hF:zBx ops=true)(ql:zGY ops listed0 fl k=true)(q7:jG ops=true)(q0:zAy ops a0.tmps.size=true)(qe:decide (k<=ops.size)=true)(hC:∀w w',C w->bW w w'->C w')(hE:∀i v w w',E i v w->bW w w'->E i v w')
  (hh:∀i,i<k->listed0.getD i true=false->∀o,ops[i]?=some o->∀a w,FlowB ops listed0 A E C a0 (fun j=>listed0.getD j true=false/\∃e∈o.after,Region.binds .any e=true/\e.on=j) a w->∀K:Act->WB->Prop,(∀v w',E i v w'->bW w w'->(A i=true->∀b,blk v=some b->w.heap.size<=b/\b<w'.heap.size)->K (a.put o.dst v) w')->wpOpIn F n P ops (qK Q) i K a w)
  (hB:∀a w,FlowB ops listed0 A E C a0 (fun i=>i<k/\listed0.getD i true=false) a w->jJ F n P .any ops z (fun _=>True) (qK Q) (ops.size-k) (yF ops.size k) a w):
  ∀(fuel:Nat) (listed:Array Bool) (a:Act) (w:WB),listed.count false=fuel->listed.size=ops.size->(∀i,k<=i->listed.getD i false=false)->zGN ops listed->(∀i,listed0.getD i true=true->i<ops.size->listed.getD i false=true)->
   FlowB ops listed0 A E C a0 (fun i=>listed0.getD i true=false/\listed.getD i false=true) a w->jJ F n P .any ops z (fun _=>True) (qK Q) fuel listed a w:=by
 have hU:=xW qe
 intro fuel
 induction fuel with
 | zero=>
  intro listed a w hc hs U hp h0 hf
  have hP:∀i,listed.getD i true=true:=fun i=>by
   cases hg:listed.getD i true with
   |true=>rfl
   |false=>
    have:=jS hg
    omega
  have hk2:k=ops.size:=by
   rcases bF k ops.size with O|hge
   .exfalso
    have h1:=hP k
    have h2:=U k lr
    have hk:k<listed.size:=by omega
    simp[hk]at h1 h2
    rw[h1]at h2
    cases h2
   .omega
  have hl:listed=yF ops.size k:=by
   refine cW (by simp[yF,hs]) fun i h1 h2=>?_
   have:=hP i
   simp[h1]at this
   simp[yF,this]
   omega
  have:=hB a w (hf.mono fun i hi=>⟨hi.2,by
   have h1:=hP i
   have O:i<listed.size:=by omega
   simp[O]at h1 ⊢
   exact h1⟩)
  rw[hl]
  rwa [show ops.size-k=0 from by omega]at this
 | succ fuel ih=>
  intro listed a w hc hs U hp h0 hf
  by_cases I:∀i,i<k->listed.getD i false=true
  .have hl:listed=yF ops.size k:=by
    refine cW (by simp[yF,hs]) fun i h1 h2=>?_
    by_cases hr:i<k
    .have:=I i hr
     simp[h1]at this
     simp[yF,this,hr]
    .have:=U i oA
     simp[h1]at this
     simp[yF,this,hr]
   have hV:listed.count false=ops.size-k:=by
    rw[hl]
    unfold yF
    rw[List.count_toArray,List.count_eq_countP,List.countP_map]
    have:∀m,k<=m->List.countP ((fun x=>x==false) ∘ fun i=>decide (i<k)) (List.range m)=m-k:=by
     intro m
     induction m with
     |zero=>intro h;simp
     | succ m ihm=>
      intro h
      rw[cS,List.countP_append]
      by_cases e:k=m+1
      .subst e
       have:List.countP ((fun x=>x==false) ∘ fun i=>decide (i<m+1)) (List.range m)=0:=by
        rw[fY]
        intro x hx
        have:=xT.1 hx
        simp;omega
       rw[this];simp
      .rw[ihm oA]
       have e2:decide (m<k)=false:=xY oA
       simp[e2]
       omega
    exact this ops.size hU
   have hZ:=hB a w (hf.mono fun i hi=>⟨hi.2,I i hi.1⟩)
   rw[<-hl,<-hV,hc]at hZ
   exact hZ
  .simp only[eL]at I
   obtain⟨u0,q4,qj⟩:=I
   obtain⟨u,⟨hM,hu⟩,q2⟩:=zEd (p:=fun u=>u<k/\ ¬listed.getD u false=true) u0 ⟨q4,qj⟩
   have O:u<listed.size:=by omega
   have hJ:listed.getD u true=false:=by
    simp[O]at hu ⊢
    exact hu
   have hS:∀i,listed.getD i true=false->Region.ready .any ops listed≠ []:=by
    intro i
    induction i using Nat.strongRecOn with
    | _ i ihi=>
     intro hi h8
     have O:i<listed.size:=by
      rcases bF i listed.size with e|e
      .exact e
      .simp[cB e]at hi
     have ho:ops[i]?=some (ops[i]'(by rw[<-hs];exact O)):=cC _
     by_cases I:∀e∈(ops[i]'(by rw[<-hs];exact O)).after,Region.binds .any e=true->listed.getD e.on false=true
     .have hm:i∈Region.ready .any ops listed:=cH.2 ⟨hi,_,ho,I⟩
      rw[h8]at hm
      cases hm
     .simp only[eL]at I
      obtain⟨e,he,hb,hg⟩:=I
      have hN:=zBg hF ho he hb
      refine ihi e.on hN ?_ h8
      have hk:e.on<listed.size:=by omega
      simp[hk]at hg ⊢
      exact hg
   by_cases hfu:fl u=true
   .have q1:u<ops.size:=by omega
    have h5:ops[u]?=some ops[u]:=cC q1
    have h4:∀e∈ops[u].after,Region.binds .any e=true->listed.getD e.on false=true:=fun e he hb=>by
     have hN:=zBg hF h5 he hb
     exact rD fun hc=>q2 e.on hN ⟨by omega,hc⟩
    have qm:(Region.ready .any ops listed).contains u=true:=bU.2 (cH.2 ⟨hJ,_,h5,h4⟩)
    have hq:listed0.getD u true=false:=by
     cases hg:listed0.getD u true with
     |false=>rfl
     |true=>exact absurd (h0 u hg q1) hu
    obtain⟨hX,hY⟩:=hfree u hM hfu
    have hw:=hh u hM hq _ h5 a w (hf.mono fun j J=>(by
     obtain⟨hQ,e,he,hb,rfl⟩:=J
     exact⟨hQ,h4 e he hb⟩)) (fun a' w'=>∃v,a'=a.put ops[u].dst v/\E u v w'/\bW w w'/\(A u=true->∀b,blk v=some b->w.heap.size<=b/\b<w'.heap.size)) (fun v w' hv hb hA=>⟨v,rfl,hv,hb,hA⟩)
    obtain⟨d,v0,hd,hy,v,qg,hv,hb,hA⟩:=zOo h5 hX hw
    refine zP (i:=u) (v:=v0) qk (by unfold zBA;rw[cB qf]) h5 qh (zLj (fun j J hc=>(by
     have h9:=zAH hp _ j u _ h5 h4 hc
     have g:j<listed.size:=by omega
     simp[g]at h9 ⊢
     exact h9)) hY) qm (fun _ _ _ h=>h) trivial hy ?_
    rw[hd,qg]
    refine ih (listed.setIfInBounds u true) (a.put ops[u].dst v) w ?_ (by simpa using hs) (fun j J=>?_) (fun j oj J h7 e he hn=>?_) (fun j J hK=>?_) ((hf.put q7 q0 hC hE h5 hq hv hb hA).mono fun j J=>?_)
    .have:=jS hJ
     omega
    .rw[bH false oA]
     exact U j J
    .by_cases e2:j=u
     .subst e2
      rw[h5]at h7
      cases h7
      by_cases e3:e.on=j
      .rw[e3];exact J
      .rw[bH false (bB e3)]
       exact h4 e he hn
     .rw[bH false (bB e2)]at J
      have:=hp j oj J h7 e he hn
      by_cases e3:e.on=u
      .rw[e3]
       have O:u<listed.size:=by omega
       simp[O]
      .rw[bH false (bB e3)]
       exact this
    .by_cases e3:j=u
     .subst e3
      rw[hq]at J
      cases J
     .rw[bH false (bB e3)]
      exact h0 j J hK
    .by_cases e:j=u
     .exact .inr e
     .left
      rw[bH false (bB e)]at J
      exact J
   .refine⟨fun h8=>(hS u hJ h8).elim,fun i hi=>?_⟩
    obtain⟨hz,o,ho,I⟩:=cH.1 hi
    have qc:=(xP.1 ho).1
    have hR:listed0.getD i true=false:=by
     cases hg:listed0.getD i true with
     |false=>rfl
     |true=>
      have:=h0 i hg qc
      have hW:i<listed.size:=by omega
      simp[hW]at this hz
      rw[this]at hz
      cases hz
    have hr:i<k:=by
     rcases bF i k with e|e
     .exact e
     .exfalso
      have h1:=xR.1 ql i (xT.2 qc)
      simp only[cY,cE]at h1
      rcases h1 with h1|h1
      .omega
      .have h2:=xR.1 h1 u (xT.2 hM)
       simp only[cY]at h2
       rcases h2 with(h2|h2)|h2
       .exact hfu h2
       .exact hu (h0 u h2 oA)
       .exact hu (zAH hp _ u i o ho I h2)
    refine hh i hr hR o ho a w (hf.mono fun j J=>?_) _ fun v w' hv hb hA=>⟨.inr trivial,?_⟩
    .obtain⟨hQ,e,he,hb,rfl⟩:=J
     exact⟨hQ,I e he hb⟩
    .refine ih (listed.setIfInBounds i true) (a.put o.dst v) w' ?_ (by simpa using hs) (fun j J=>?_) (fun j oj J h7 e he hn=>?_) (fun j J hK=>?_) ((hf.put q7 q0 hC hE ho hR hv hb hA).mono fun j J=>?_)
     .have:=jS hz
      omega
     .rw[bH false oA]
      exact U j J
     .by_cases e2:j=i
      .subst e2
       rw[ho]at h7
       cases h7
       by_cases e3:e.on=j
       .rw[e3];exact J
       .rw[bH false (bB e3)]
        exact I e he hn
      .rw[bH false (bB e2)]at J
       have:=hp j oj J h7 e he hn
       by_cases e3:e.on=i
       .rw[e3]
        have O:i<listed.size:=by omega
        simp[O]
       .rw[bH false (bB e3)]
        exact this
     .by_cases e3:j=i
      .subst e3
       rw[hR]at J
       cases J
      .rw[bH false (bB e3)]
       exact h0 j J hK
     .by_cases e:j=i
      .exact .inr e
      .left
       rw[bH false (bB e)]at J
       exact J
theorem zOn{k fuel:Nat}(fl:Nat->Bool)(hc:jW ops=true)(h4:Region.noSelect ops=true)(h7:ops.size<=z)(hfree:∀i,i<k->fl i=true->zEj ops i=true/\Region.free .any ops (zBM ops i) i=true)(A:Nat->Bool)(E:Nat->WE->WB->Prop)(C:WB->Prop)(O:zBx ops=true)(h5:zGY ops listed0 fl k=true)(h9:jG ops=true)(h8:zAy ops a0.tmps.size=true)(h6:decide (k<=ops.size)=true)
    (U:listed0.count false=fuel)(ha:listed0.size=ops.size)(hcl:zDc ops listed0=true)(hto:zGz listed0 k=true)
    (hC:∀w w',C w->bW w w'->C w')(hE:∀i v w w',E i v w->bW w w'->E i v w')(hw:C w)
    (J:∀i,i<k->listed0.getD i true=false->∀o,ops[i]?=some o->∀a w,FlowB ops listed0 A E C a0 (fun j=>listed0.getD j true=false/\∃e∈o.after,Region.binds .any e=true/\e.on=j) a w->∀K:Act->WB->Prop,(∀v w',E i v w'->bW w w'->(A i=true->∀b,blk v=some b->w.heap.size<=b/\b<w'.heap.size)->K (a.put o.dst v) w')->wpOpIn F n P ops (qK Q) i K a w)
    (h0:∀a w,FlowB ops listed0 A E C a0 (fun i=>i<k/\listed0.getD i true=false) a w->jJ F n P .any ops z (fun _=>True) (qK Q) (ops.size-k) (yF ops.size k) a w):
    jJ F n P .any ops z (fun _=>True) (qK Q) fuel listed0 a0 w:=by
  have I:∀i,listed0.getD i true=false->listed0.getD i false=true->False:=fun i h1 h2=>by
    rcases bF i listed0.size with g|g
    . simp[g]at h1 h2
      rw[h1]at h2
      cases h2
    . simp[cB g]at h2
  exact zVK fl hc h4 h7 hfree O h5 h9 h8 h6 hC hE J h0 fuel listed0 a0 w U ha (fun i hi=>zFS hto hi) (zCg hcl) (fun i hi hl=>by
      have g:i<listed0.size:=by omega
      simp[g]at hi ⊢
      exact hi)
    ⟨⟨hw,rfl,rfl,fun _ _=>rfl,fun i o t hi=>(I i hi.1 hi.2).elim⟩,fun i o t b hi=>(I i hi.1 hi.2).elim,fun i j oi oj ti tj bi bj hi=>(I i hi.1 hi.2).elim⟩
end
def zFh(ops:Array Oper)(fl:Nat->Bool)(k n:Nat)(keys:List Nat):Bool:=
 jG ops&&zAy ops n&&jW ops&&Region.noSelect ops&&decide (k<=ops.size)&&
 keys.all (fun t=>(List.range k).any fun i=>zT ops i==some t)&&
 (List.range k).all (fun i=>match ops[i]? with
  |none=>true
  |some o=>(looks ops o).all fun t=>(List.range ops.size).all fun j=> !(zT ops j==some t)||o.after.any fun e=>Region.binds .any e&&e.on==j)&&
 (List.range k).all (fun i=> !fl i||(zEj ops i&&Region.free .any ops (zBM ops i) i))&&
 (zBx ops&&zGY ops (Array.replicate ops.size false) fl k&&(List.range (ops.size-k)).all fun r=>Region.ready .any ops (yF ops.size (k+r))==[k+r])
theorem zHj(fl:Nat->Bool)(al:List NewB)(k:Nat)(L:List (Nat×SF))(hmix:P.follows .mixedOrders=true)
  (hD:∀q,q∈al->q.i<k/\q.f.isIn L q.d/\jY (L.map (·.1))=true/\(∃ty pos aft,ops[q.i]?=some ⟨some q.d,.alloc q.e,ty,pos,aft,none⟩)/\zeroCells P q.e=some q.cs/\∀v W,(SF.own w0 q.e q.cs).p v W->q.f.p v W)
  (h0:zFh ops fl k n (L.map (·.1))=true)(h:At w0 G n ds a w)(hQ:Obs F m P w0 ops (upd G L) (ops.toList.take k))
  (hN:∀a w,At w0 (zC6 ops k (upd G L)) n ds a w->zO7 al a->wpOpsIn F m P ops (qK Q) (List.range' k (ops.size-k)) a w):(Code.region id ops true).wpIn F m P Q a w:=by
 unfold zFh at h0
 simp only[xV]at h0
 obtain⟨⟨⟨⟨⟨⟨⟨⟨qe,hu⟩,qg⟩,qd⟩,hk⟩,hB⟩,ql⟩,hU⟩,qj⟩:=h0
 have hk:=xW hk
 have hM:∀i o,i<k->ops[i]?=some o->qO F m P w0 ops (upd G L) o:=fun i o hi U=>hQ.get i o (by rw[eM hi];simpa using U)
 have hX:∀t,(∀j,j<k->zT ops j≠some t)->upd G L t=G t:=fun t ht=>by
  refine jP ?_
  cases hc:(L.map (·.1)).contains t with
  |false=>rfl
  |true=>
   exfalso
   have hm:=bU.1 hc
   obtain⟨i,hi,he⟩:=bQ.1 (xR.1 hB t hm)
   exact ht i (xT.1 hi) (by simpa using he)
 have hY:∀t,(∀j,j<k->zT ops j≠some t)->(upd G L t).p (a.tmps.getD t undef) w:=fun t ht=>by rw[hX t ht];exact h.sl t
 have ha:∀(a:Act) (w:WB),(∀t,(∃j,j<k/\zT ops j=some t)∨(∀j,zT ops j≠some t)->(upd G L t).p (a.tmps.getD t undef) w)->∀t,(zC6 ops k (upd G L) t).p (a.tmps.getD t undef) w:=fun a w hh t=>by
  unfold zC6
  cases hc:(List.range ops.size).any fun i=>decide (k<=i)&&(zT ops i==some t)with
  |true=>trivial
  | false=>
   refine hh t ?_
   by_cases hex:∃j,zT ops j=some t
   .obtain⟨j,J⟩:=hex
    left
    refine⟨j,?_,J⟩
    have hs:j<ops.size:=by
     rcases bF j ops.size with e|e
     .exact e
     .rw[zT,cB e]at J;cases J
    have:=cN.1 hc j (xT.2 hs)
    simp[J]at this
    omega
   .exact .inr fun j J=>hex ⟨j,J⟩
 have hP:∀i o,i<k->ops[i]?=some o->∀t,t∈looks ops o->∀j,zT ops j=some t->(o.after.any fun e=>Region.binds .any e&&e.on==j)=true:=fun i o hi U t ht j J=>by
  have h1:=xR.1 ql i (xT.2 hi)
  rw[U]at h1
  have hs:j<ops.size:=by
   rcases bF j ops.size with e|e
   .exact e
   .rw[zT,cB e]at J;cases J
  have h2:=xR.1 (xR.1 h1 t ht) j (xT.2 hs)
  rw[J]at h2
  simpa using h2
 obtain⟨⟨hR,qh⟩,qa⟩:=qj
 have hL:∀r,r<ops.size-k->Region.ready .any ops (yF ops.size (k+r))=[k+r]:=fun r hr=>by
  have:=xR.1 qa r (xT.2 hr)
  simpa using this
 have hW:∀i,(Array.replicate ops.size false).getD i false=false:=fun i=>by
  rw[xU,eO]
  split<;>rfl
 have h8:∀i,i<ops.size->(Array.replicate ops.size false).getD i true=false:=fun i hi=>by
  rw[xU,eO,if_pos hi]
  rfl
 have hG:∀t,(∀j,zT ops j≠some t)->zBl ops (Array.replicate ops.size false) t=false:=fun t ht=>by
  cases hd:zBl ops (Array.replicate ops.size false) t with
  |false=>rfl
  |true=>
   exfalso
   unfold zBl at hd
   obtain⟨i,_,hp⟩:=bQ.1 hd
   simp only[xV,bJ]at hp
   exact ht i (by rw[<-zCN];exact hp.2)
 refine yC ops.size (fun _=>True) hmix ?_
 have h4:bW w w.drew:=(xF _ w).drew
 refine zOn (Q:=Q) (k:=k) (z:=ops.size) (w:=w.drew) fl qg qd lr (fun i hi he=>(by have:=xR.1 hU i (xT.2 hi);rw[he]at this;simpa using this)) (fun i=>al.any fun q=>q.i==i) (fun i v W=>∀o,ops[i]?=some o->∀d,o.dst=some d->(upd G L d).p v W) (fun W=>bW w0 W/\bW w W) hR qh qe (by rw[h.size];exact hu) (by simpa using hk) lH fC ?hcl ?hto (fun W W' hC hb=>⟨hC.1.trans (hb.mono hC.1.size),hC.2.trans (hb.mono hC.2.size)⟩) (fun i v W W' hE hb o U d hd=>(upd G L d).st _ _ _ (hE o U d hd) hb) ⟨h.gr.trans (h4.mono h.gr.size),h4⟩ ?spec ?fin
 case hcl=>
  unfold zDc
  refine xR.2 fun i hi=>?_
  rw[hW i]
  rfl
 case hto=>
  unfold zGz
  refine xR.2 fun i hi=>?_
  rw[hW i]
  simp
 case spec=>
  intro i hS hl o U b W O K hK
  by_cases hAi:(al.any fun q=>q.i==i)=true
  .obtain⟨q,hq,qf⟩:=bQ.1 hAi
   obtain rfl:q.i=i:=by simpa using qf
   obtain⟨_,q7,hT,⟨ty,pos,aft,hV⟩,hz,hI⟩:=hD q hq
   rw[U]at hV
   cases hV
   have hg:qO F m P W ops (fun _=>SF.own W q.e q.cs) ⟨some q.d,.alloc q.e,ty,pos,aft,none⟩:=zCH hz
   refine zAs U hg (fun j g J=>?_) (xF _ _) (fun t ht=>by cases ht) (fun v W' hv hb=>?_)
   .rw[O.at_.size,h.size]
    obtain⟨oj,I,qk⟩:=qE J
    exact qP hu I qk
   .obtain⟨b',e1,h1,h2⟩:=hv q.d rfl
    refine hK v W' (fun o' h7 d hd=>?_) hb (fun _ b'' hO=>?_)
    .rw[U]at h7
     cases h7
     cases hd
     rw[zCz (q:=(q.d,q.f)) hT q7]
     exact hI v W' ⟨b',e1,xQ O.at_.cls.1.size h1,h2⟩
    .subst e1
     cases hO
     exact⟨h1,(xP.1 h2).1⟩
  refine zAs U (hM i o hS U) (fun j g J=>?_) O.at_.cls.1 (fun t ht=>?_) (fun v W' hv hb=>hK v W' (fun o' h7 d hd=>by rw[U]at h7;cases h7;exact hv d hd) hb (fun e=>absurd e hAi))
  .rw[O.at_.size,h.size]
   cases I:ops[j]? with
   |none=>rw[zT,I]at J;cases J
   |some oj=>rw[qU I]at J;exact qP hu I J
  .by_cases hex:∃j,zT ops j=some t
   .obtain⟨j,J⟩:=hex
    have h1:=hP i o hS U t ht j J
    obtain⟨x,hx,he⟩:=eX.1 h1
    simp only[xV,bJ]at he
    cases I:ops[j]? with
    |none=>rw[zT,I]at J;cases J
    |some oj=>
     rw[qU I]at J
     exact O.at_.vals j oj t ⟨h8 j (xP.1 I).1,_,eA hx,he.1,he.2⟩ I J oj I t J
   .have h6:∀j,zT ops j≠some t:=fun j J=>hex ⟨j,J⟩
    rw[O.at_.keep t (hG t h6)]
    exact(upd G L t).st _ _ _ (hY t (fun j _=>h6 j)) O.at_.cls.2
 case fin=>
  intro b W O
  have hA:At w0 (zC6 ops k (upd G L)) n ds b W:=⟨O.at_.cls.1,by rw[O.at_.size];exact h.size,by rw[O.at_.defers];exact h.nd,ha b W fun t ht=>by
   rcases ht with⟨j,qc,J⟩|h6
   .cases I:ops[j]? with
    |none=>rw[zT,I]at J;cases J
    |some oj=>
     rw[qU I]at J
     exact O.at_.vals j oj t ⟨qc,h8 j (xP.1 I).1⟩ I J oj I t J
   .rw[O.at_.keep t (hG t h6)]
    exact(upd G L t).st _ _ _ (hY t (fun j _=>h6 j)) O.at_.cls.2⟩
  have h2:=forced (Q:=qK Q) hL (ops.size-k) 0 b W oA (by simpa using hN b W hA (fun q q' hq hJ qi b1 b2 e1 e2=>(by
   obtain⟨g1,_,_,⟨_,_,_,g2⟩,_⟩:=hD q hq
   obtain⟨q3,_,_,⟨_,_,_,q2⟩,_⟩:=hD q' hJ
   exact O.apart q.i q'.i _ _ q.d q'.d b1 b2 ⟨g1,h8 _ oA⟩ ⟨q3,h8 _ oA⟩ qi (bQ.2 ⟨q,hq,by simp⟩) (bQ.2 ⟨q',hJ,by simp⟩) g2 q2 rfl rfl e1 e2)))
  have h3:∀(f:Nat) (l:Array Bool) (a:Act) (w:WB),wpAnyIn F m P .any ops (qK Q) f l a w->jJ F m P .any ops ops.size (fun _=>True) (qK Q) f l a w:=by
   intro f
   induction f with
   |zero=>intro l a w hh;exact hh
   |succ f ih=>intro l a w hh;exact⟨hh.1,fun i hi=>eJ (fun a w h5=>⟨.inr trivial,ih _ _ _ h5⟩) (hh.2 i hi)⟩
  exact h3 _ _ _ _ (by simpa using h2)
section
variable {S:Nat->Prop}{w0:WB}{K:List (Nat×KF)}{B:List Bx}{n:Nat}{ds:List Deferred}{a:Act}{w:WB}{F:Fence}{m:Nat}{P:WH}{ops:Array Oper}{Q:Exit->Act->WB->Prop}
theorem zBr(fl:Nat->Bool)(al:List NewB)(k:Nat)(L:List (Nat×Rw))(hmix:P.follows .mixedOrders=true)(h:StS S w0 K B n ds a w)
  (h4:∀q,q∈al->q.i<k/\q.f.isIn (zK L) q.d/\(∃ty pos aft,ops[q.i]?=some ⟨some q.d,.alloc q.e,ty,pos,aft,none⟩)/\zeroCells P q.e=some q.cs/\∀v W,(SF.own w q.e q.cs).p v W->q.f.p v W)
  (I:(zFh ops fl k n (L.map (·.1))&&jQ ops (K.map (·.1)++B.map (·.t))&&jY (L.map (·.1)))=true)
  (O:Obs F m P w ops (upd (jM K B) (zK L)) (ops.toList.take k))
  (U:∀Q',(∀a w,Q .normal a w->Q' .normal a w)->∀a w,StS S w0 (zA4 L++K) B n ds a w->(∀q,q∈zK L->q.2.p (a.tmps.getD q.1 undef) w)->zO7 al a->zAW F m P ops Q' k a w):(Code.region id ops true).wpIn F m P Q a w:=by
 simp only[xV]at I
 have J:(zK L).map (·.1)=L.map (·.1):=by simp[zK]
 have h0:=I.1.1
 unfold zFh at h0
 simp only[xV]at h0
 obtain⟨⟨⟨⟨⟨⟨⟨⟨h8,_⟩,_⟩,_⟩,_⟩,h1⟩,_⟩,_⟩,_⟩:=h0
 exact zDm k L h (Fin:=fun a w=>zO7 al a->zAW F m P ops (qK Q) k a w) (fun G' hA hO hF=>zHj fl al k (zK L) hmix (fun q hq=>let⟨g1,g2,g3,g4,g5⟩:=h4 q hq;⟨g1,g2,by rw[J];exact I.2,g3,g4,g5⟩) (by rw[J];exact I.1.1) hA hO (fun a w hA hD=>hF a w hA hD)) h8 h1 I.1.2 I.2 O (fun a w h hr hD=>U (qK Q) (fun a w h=>h) a w h hr hD)
end
section
variable {S:Nat->Prop}{F:Fence}{m:Nat}{P:WH}{Q:Exit->Act->WB->Prop}{w0:WB}{K:List (Nat×KF)}{B:List Bx}{n:Nat}{ds:List Deferred}{a:Act}{w:WB}
theorem zDu{σ:Type}{c:Code}(I:σ->Act->WB->Prop)(J:σ->Nat)(x0:σ)(h0:I x0 a w)
  (round:∀x a w,I x a w->c.wpIn F m P (Exit.then (fun a' w'=>∃y,J y<J x/\I y a' w') Q) a w):(Code.loop c).wpIn F m P Q a w:=by
 have low:∀a w,(∃k,∃x,J x=k/\I x a w)->∃k,(∃x,J x=k/\I x a w)/\∀j,j<k-> ¬ ∃x,J x=j/\I x a w:=
  fun a w ⟨k,hk⟩=>zEd k hk
 open Classical in
 refine wpIn_loop (fun a w=>∃k,∃x,J x=k/\I x a w) (fun a w=>if h:∃k,∃x,J x=k/\I x a w then Classical.choose (low a w h)else 0) ⟨_,x0,rfl,h0⟩ ?_
 rintro a w hA
 have e0:=tO (low a w hA)
 obtain⟨x,hm,h1⟩:=e0.1
 refine eB ?_ (round x a w h1)
 intro e a' w' h
 cases e with
 |normal=>
  obtain⟨y,h2,h3⟩:∃y,J y<J x/\I y a' w':=h
  have O:∃k,∃x,J x=k/\I x a' w':=⟨_,y,rfl,h3⟩
  refine⟨O,?_⟩
  simp only[dif_pos hA,dif_pos O]
  have e1:=tO (low a' w' O)
  have:Classical.choose (low a' w' O)<=J y:=Nat.not_lt.1 fun U=>e1.2 _ U ⟨y,rfl,h3⟩
  omega
 |_=>exact h
theorem StS.learn(h:StS S w0 K B n ds a w)(t:Nat)(v:WE)(e:a.tmps.getD t undef=v):StS S w0 ((t,.u (UF.eq v))::K) B n ds a w:=
 ⟨h.gr,h.size,h.nd,fun q I=>by
  rcases xS.1 I with rfl|I
  .exact e
  .exact h.sl q I,h.bx,h.mks,h.so.imp (fun J q I=>(by
   rcases xS.1 I with rfl|I
   .exact⟨_,rfl⟩
   .exact J q I)) (fun x=>x)⟩
theorem StS.self(h:StS S w0 K B n [] a w)(I:∀q,q∈K->∃f,q.2=.u f):StS (inB B) w K B n [] a w:=by
 refine⟨BlS.refl _ _,h.size,h.nd,fun q J=>?_,wR (a:=a) B (fun x O=>?_) (fun _ _=>rfl) h.bx,⟨[],Marks.nil _ _⟩,.inl I⟩
 .obtain⟨f,e⟩:=I q J
  have:=h.sl q J
  rw[e]at this ⊢
  exact this
 .cases hr:x.r with
  |true=>exact .inl rfl
  |false=>exact .inr (.inr ⟨x,O,rfl,hr⟩)
theorem qN(hb:BlS (inB B) w w1)(J:yP S w0 a w B):y9 w w1:=fun q u O=>by
 have I:=xJ w _ O
 by_cases e:inB B q.block
 .exfalso
  obtain⟨x,U,e1,_⟩:=e
  obtain⟨cs,_,_,h3,_,h5⟩:=J.mem x U
  have:=zCu h3 h5 e1.symm O
  cases this
 .exact(bR (hb.block _ I e)).trans O
theorem zI2{d:Tmp}(I:a.eval y=.func (.yield l) #[] #[]):
  (execOp a.eval ⟨some d,.call ⟨.value y,xs,ats⟩,ty,pos,aft,none⟩).run P w=(Instr.yield l (xs.map a.eval)).run P w:=by
 simp only[execOp,resolve,I]
 simp[invoke,Deferred.ofValue]
theorem zXt(f:WL->WE)(x y:WL):(Array.map f #[x,y]).getD 0 undef=f x:=by simp
theorem zXs(f:WL->WE)(x y:WL):(Array.map f #[x,y]).getD 1 undef=f y:=by simp
theorem zHL{f:FuncId}{fn:Func}{c:Code}{R:Ending->WB->Prop}
  (I:P.funcs[f]?=some fn)(hb:fn.body=some c)(h:c.wpIn Fence.wide 0 P (bodyPost P fn R) { tmps:=args++Array.replicate (fn.ntmps-args.size) undef,defers:=[] } w):Calls P f args w R:=zBT I hb h
theorem yX(h:(K.all fun q=>zJg q.2)=true):∀q,q∈K->∃f,q.2=KF.u f:=fun q I=>by
 have:=xR.1 h q I
 cases hq2:q.2 with
 |u f=>exact⟨f,rfl⟩
 |o f=>rw[hq2]at this;cases this
theorem zG5{fn:Func}(S:Nat->Prop)(K0:List (Nat×UF))(B0:List Bx)(O:Nat.ble args.size fn.ntmps=true)(hK:∀q,q∈K0->q.1<args.size/\q.2.p (args.getD q.1 undef) w)
  (hB:yP S w ⟨args, []⟩ w B0)(I:∀x,x∈B0->x.t<args.size):StS S w (K0.map fun q=>(q.1,KF.u q.2)) B0 fn.ntmps [] { tmps:=args++Array.replicate (fn.ntmps-args.size) undef,defers:=[] } w:=by
 have O:=mG O
 refine⟨BlS.refl _ _,by simp;omega,rfl,fun q J=>?_,yP.keep (a:=⟨args, []⟩) (xF _ _) iiz B0 (fun x hx=>?_) hB,⟨[],Marks.nil _ _⟩,.inl fun q J=>?_⟩
 .obtain⟨p,U,rfl⟩:=xG.1 J
  obtain⟨h1,h2⟩:=hK p U
  have:(args++Array.replicate (fn.ntmps-args.size) undef).getD p.1 undef=args.getD p.1 undef:=by
   rw[xU,xU,mL h1]
  show p.2.p ((args++Array.replicate (fn.ntmps-args.size) undef).getD p.1 undef) w
  rw[this]
  exact h2
 .show(args++Array.replicate (fn.ntmps-args.size) undef).getD x.t undef=args.getD x.t undef
  rw[xU,xU,mL (I x hx)]
 .obtain⟨p,U,rfl⟩:=xG.1 J
  exact⟨_,rfl⟩
def zOw(W:WB)(gf:Nat)(te:WF)(C:CU):SF:=⟨fun v w=>∃(b:Nat) (cs:List WE),v=.func (.func gf) #[] #[pO b 0]/\W.heap.size<=b/\w.heap[b]?=some (.cells cs.toArray te (0,0))/\C.p cs w/\cs.all zX=true,fun _ _ _ ⟨b,cs,h1,h2,h3,h4,h5⟩ hb=>⟨b,cs,h1,h2,(hb.block b (xP.1 h3).1).trans h3,C.us _ _ _ h4 (zO hb),h5⟩⟩
theorem zI0(h:W.heap.size<=W'.heap.size)(v:WE)(w:WB)(I:(zOw W' gf te C).p v w):(zOw W gf te C).p v w:=by
 obtain⟨b,cs,J,h2,h3⟩:=I
 exact⟨b,cs,J,xQ h h2,h3⟩
theorem StS.boxAt(h:StS S w0 K B n ds a w){c:Nat}{z:Bx}(I:zF0 B c=some z):∃cs:List WE,w.heap[z.b]?=some (.cells cs.toArray z.e (0,0))/\z.c.p cs w/\cs.all zX=true:=by
 obtain⟨cs,_,_,h3,O,J⟩:=h.bx.mem z (zAq I).1
 exact⟨cs,h3,O,J⟩
theorem StS.inB_new(h:St w0 K B n ds a w){q:Nat}(J:inB B q):w0.heap.size<=q:=by
 obtain⟨x,U,e,O⟩:=J
 obtain⟨_,_,I,_⟩:=h.bx.mem x U
 rcases I with I|I|I
 .rw[O]at I;cases I
 .omega
 .exact I.elim
def wC(vs:List WE):CU:=⟨fun cs _=>cs=vs,fun _ _ _ h _=>h⟩
end
def CU.ok(z:Nat)(C:CU):Prop:=∀cs W,C.p cs W->cs.length=z/\cs.all zX=true/\∀u,u∈cs->u.oneCell'=true
def zAk(w:WB)(base:Nat)(e:WF)(z:Nat)(v:WE)(Cs:List CU):Prop:=
 (v= sN/\Cs=[])∨ ∃g cap cur,v=.slice (some ⟨g,0,none⟩) Cs.length cap/\base<=g/\w.heap[g]?=some (.cells cur e (0,0))/\Cs.length<=cap/\cap<=maxLen/\cur.size=cap*z/\cur.toList.all zX=true/\∀(i:Nat) (C:CU),Cs[i]?=some C->C.p ((cur.toList.drop (i*z)).take z) w
theorem zAk.nil(w:WB)(base:Nat)(e:WF)(z:Nat):zAk w base e z (sN) []:=.inl ⟨rfl,rfl⟩
theorem zAk.lt{base e z v Cs}(h:zAk w base e z v Cs):∀k,v.ownBlock=some k->base<=k/\k<w.heap.size:=by
 intro k I
 rcases h with⟨rfl,_⟩|⟨g,cap,cur,rfl,hb,J,_⟩
 .simp[Value.ownBlock]at I
 .simp[Value.ownBlock]at I
  subst I
  exact⟨hb,(xP.1 J).1⟩
theorem zAk.mono{base base' e z v Cs}(h:zAk w base e z v Cs)(hb:base'<=base):zAk w base' e z v Cs:=
 h.imp id fun⟨g,cap,I,J,h2,h3⟩=>⟨g,cap,I,J,xQ hb h2,h3⟩
theorem zAk.keep{base e z v Cs}(h:zAk w base e z v Cs)(hb:∀k,v.ownBlock=some k->w'.heap[k]?=w.heap[k]?)(J:y9 w w'):zAk w' base e z v Cs:=by
 rcases h with h|⟨g,cap,I,rfl,h2,h3,U,h5,h6,h7,O⟩
 .exact .inl h
 .exact .inr ⟨g,cap,I,rfl,h2,(hb g rfl).trans h3,U,h5,h6,h7,fun i C hi=>C.us _ _ _ (O i C hi) J⟩
theorem zAk.below{base e z v Cs}(h:zAk w base e z v Cs)(hb:bW w w'):zAk w' base e z v Cs:=
 h.keep (fun k I=>hb.block k (h.lt k I).2) (zO hb)
theorem zAk.row{base e z v Cs}(h:zAk w base e z v Cs):(SF.row z Cs).p v w:=by
 rcases h with⟨rfl,rfl⟩|⟨g,cap,cur,rfl,h2,h3,U,J,h6,h7,O⟩
 .exact⟨none,0,rfl,vP _,by decide,fun _=>rfl,fun i C hi=>by simp at hi⟩
 .refine⟨_,cap,rfl,U,by unfold maxLen at J;omega,fun e=>(by cases e),fun i C hi=>⟨g,0,_,rfl,fun j u I=>?_,O i C hi⟩⟩
  rw[uT]at I
  split at I
  .rw[uW]at I
   unfold World.cell?
   simp only[h3]
   have:0+i*z+j=i*z+j:=by omega
   rw[this]
   simpa using I
  .cases I
theorem zAk.keepU{base e z v Cs}(h:zAk w base e z v Cs)(U:w.grownBy w' v.ownBlock):y9 w w':=fun p x O=>by
 have J:=xJ w _ O
 by_cases e1:some p.block=v.ownBlock
 .exfalso
  rcases h with⟨rfl,_⟩|⟨g,cap,I,rfl,h2,h3,h4,h5,h6,h7,h8⟩
  .simp[Value.ownBlock]at e1
  .simp[Value.ownBlock]at e1
   have:=zCu (cs:=I.toList) (z:=(0,0)) (by simpa using h3) h7 e1 O
   cases this
 .exact(bR (U.block _ J e1)).trans O
def zEO(P:WH)(t:WF):WG (WF×Nat×Bool):=match P.underlying t with
 | some (.slice e)=>match P.info? e with
  |some i=>match i.zero with
   |some zv=>some (e,i.size,zv.cells.size==i.size&&zv.cells.toList.all zX&&decide (0<i.size)&&Nat.ble i.bytes 1000)
   |none=>none
  |none=>none
 |_=>none
theorem zCx(h:zEO P t=some (e,z,true)):P.underlying t=some (.slice e)/\∃i zv,P.info? e=some i/\i.zero=some zv/\i.size=z/\i.bytes<=1000/\zv.cells.size=z/\zv.cells.toList.all zX=true/\0<z:=by
 unfold zEO at h
 split at h<;>try cases h
 rename_i e' I
 split at h<;>try cases h
 rename_i i hi
 split at h<;>try cases h
 rename_i zv J
 simp only[lY,tM,xV,bJ,cE]at h
 obtain⟨rfl,rfl,⟨⟨O,h2⟩,h3⟩,U⟩:=h
 exact⟨I,i,zv,hi,J,rfl,mG U,O,h2,h3⟩
theorem zBE{I:Array WE}(h:I.toList.all zX=true)(n:Nat):(Builtin.zeroCells I n).toList.all zX=true:=by
  refine xR.2 fun u O=>?_
  simp only[Builtin.zeroCells,Array.toList_map,xG,Array.toList_range,xT]at O
  obtain⟨i,hi,rfl⟩:=O
  have U:0<I.size:=by
   rcases uH I.size with h|h
   .rw[h]at hi;omega
   .exact h
  have J:i%I.size<I.size:=vW _ U
  have:I[i%I.size]!∈I.toList:=by
    rw[getElem!_pos I _ J]
    exact Array.getElem_mem_toList J
  exact xR.1 h _ this
theorem zD3{W:WB}{b z:Nat}:∀(Ds:List CU) (o:Nat),(∀C,C∈Ds->CU.ok z C)->(∀(i:Nat) (C:CU),Ds[i]?=some C->∃cs,Mem W b (o+i*z) cs/\C.p cs W)->
  ∃news:List WE,news.length=Ds.length*z/\(∀j u,news[j]?=some u->W.cell? ⟨b,o+j,none⟩=some u)/\(∀u,u∈news->u.oneCell'=true)/\news.all zX=true/\∀(i:Nat) (C:CU),Ds[i]?=some C->C.p ((news.drop (i*z)).take z) W
 | [],o,_,_=>⟨[],by simp,by simp,by simp,rfl,by simp⟩
 | D::Ds,o,hok,h=>by
  obtain⟨cs,h1,h2⟩:=h 0 D rfl
  obtain⟨hl,hn,O⟩:=hok D fC cs W h2
  obtain⟨U,g1,g2,g3,g4,g5⟩:=zD3 Ds (o+z) (fun C hC=>hok C (by simp[hC])) fun i C hi=>by
   obtain⟨cs',h3,h4⟩:=h (i+1) C (by simpa using hi)
   refine⟨cs',?_,h4⟩
   rwa [show o+(i+1)*z=o+z+i*z by rw[vT];omega]at h3
  refine⟨cs++U,by rw[uF,hl,g1,lW,vT];omega,fun j u J=>?_,fun u I=>?_,by rw[mA,hn,g4];rfl,fun i C hi=>?_⟩
  .rcases bF j z with hlt|hge
   .rw[gB oA]at J
    have:=h1 j u J
    rwa [show o+0*z+j=o+j by omega]at this
   .rw[gD oA]at J
    have:=g2 _ u J
    rwa [show o+z+(j-cs.length)=o+j by omega]at this
  .rcases vV.1 I with I|I
   .exact O u I
   .exact g3 u I
  .cases i with
   |zero=>
    obtain rfl:D=C:=by simpa using hi
    rw[show 0*z=0 by omega,nN,tK oA,nK oA]
    exact h2
   |succ i=>
    rw[show(i+1)*z=cs.length+i*z by rw[vT];omega,List.drop_append]
    have e1:cs.drop (cs.length+i*z)=[]:=pT oA
    rw[e1,lT,show cs.length+i*z-cs.length=i*z by omega]
    exact g5 i C (by simpa using hi)
theorem zCV{ds:List WE}(h:cs.length=n*z)(hi:i<n):((cs++ds).drop (i*z)).take z=(cs.drop (i*z)).take z:=by
 have h1:i*z+z<=n*z:=by rw[<-Nat.succ_mul];exact uE _ hi
 rw[tN oA,tK (by rw[uJ];omega)]
theorem zOH{ds:List WE}(h:cs.length=n*z):(cs++ds).drop ((n+i)*z)=ds.drop (i*z):=by
 rw[vT,<-h,List.drop_append]
 have I:cs.drop (cs.length+i*z)=[]:=pT oA
 rw[I,lT]
 congr 1
 omega
theorem zDr{ds es:List WE}(O:cs.length=Cs.length*z)(hd:ds.length=Ds.length*z)(h1:∀(i:Nat) (C:CU),Cs[i]?=some C->C.p ((cs.drop (i*z)).take z) w)(h2:∀(i:Nat) (C:CU),Ds[i]?=some C->C.p ((ds.drop (i*z)).take z) w)(J:y9 w w'):
  ∀(i:Nat) (C:CU),(Cs++Ds)[i]?=some C->C.p (((cs++ds++es).drop (i*z)).take z) w':=fun i C hi=>by
 rcases bF i Cs.length with I|hge
 .rw[gB I]at hi
  rw[sY,zCV O I]
  exact C.us _ _ _ (h1 i C hi) J
 .obtain⟨j,rfl⟩:∃j,i=Cs.length+j:=⟨i-Cs.length,by omega⟩
  rw[gD oA,Nat.add_sub_cancel_left]at hi
  have U:j<Ds.length:=(bE.1 hi).1
  rw[sY,zOH O,zCV hd U]
  exact C.us _ _ _ (h2 j C hi) J
theorem zDP{a b c:List WE}(I:a.all zX=true)(hb:b.all zX=true)(J:c.all zX=true):(a++b++c).all zX=true:=by
 rw[mA,mA,I,hb,J];rfl
theorem zHd{v v2:WE}(hB:zEO P t=some (e,z,true))(hr:zAk w base e z v Cs)(h2:(SF.row z Ds).p v2 w)(hD:∀C,C∈Ds->CU.ok z C)
    (hP:Cs.length+Ds.length<=140000000000)(ha:base<=w.heap.size):
    ∃v' w',(Builtin.append_ #[t,t] ty #[v,v2]).run P w=.ok v' w'/\zAk w' base e z v' (Cs++Ds)/\w.grownBy w' v.ownBlock/\(v'.ownBlock=v.ownBlock∨v'.ownBlock=some w.heap.size):=by
  obtain⟨ht,i,zv,hi,hz,hs,hF,hL,hK,hz0⟩:=zCx hB
  have hA:Cs.length+Ds.length<=maxLen:=by unfold maxLen;omega
  have hC:(Cs.length+Ds.length)*i.bytes<=140737488355328:=xQ (gS hP hF) (by decide)
  obtain⟨A,c,rfl,hlc,hE,hS,hd⟩:=h2
  have h5:Cs.length+Ds.length<=9223372036854775807:=by unfold maxLen at hA;omega
  cases A with
  | none=>
    have hf:Ds=[]:=by
      cases Ds with
      |nil=>rfl
      |cons D Ds=>obtain⟨b,o,cs,e1,_⟩:=hd 0 D rfl;cases e1
    subst hf
    have hc:=hS rfl
    subst hc
    rcases hr with⟨rfl,rfl⟩|⟨g,cap,J,rfl,g2,g3,g4,g5,g6,g7,g8⟩
    . refine⟨sN,w,?_,.inl ⟨rfl,rfl⟩,⟨rfl,rfl,rfl,vP _,fun _ _ _=>rfl⟩,.inl rfl⟩
      simp[Builtin.append_,bK ht,sizeOf,typeInfo,hi,Builtin.lenOf,Builtin.firstCells]
    . refine⟨_,w,?_,.inr ⟨g,cap,J,rfl,g2,g3,by simpa using g4,g5,g6,g7,by simpa using g8⟩,⟨rfl,rfl,rfl,vP _,fun _ _ _=>rfl⟩,.inl rfl⟩
      simp[Builtin.append_,bK ht,sizeOf,typeInfo,hi,Builtin.lenOf,Builtin.firstCells,g4,storeCells]
  | some ad=>
    obtain⟨I,n1,n2,n3,n4,n5⟩:∃I:List WE,I.length=Ds.length*z/\(∀j u,I[j]?=some u->w.cell? (ad.add j)=some u)/\(∀u,u∈I->u.oneCell'=true)/\I.all zX=true/\∀(i:Nat) (C:CU),Ds[i]?=some C->C.p ((I.drop (i*z)).take z) w:=by
      cases Ds with
      |nil=>exact⟨[],by simp,by simp,by simp,rfl,by simp⟩
      | cons D Ds=>
        obtain⟨b,o,cs,e1,_⟩:=hd 0 D rfl
        cases e1
        obtain⟨I,k1,k2,k3⟩:=zD3 (W:=w) (b:=b) (z:=z) (D::Ds) o hD fun i C hN=>by
          obtain⟨b',o',cs',e',m1,m2⟩:=hd i C hN
          cases e'
          exact⟨cs',m1,m2⟩
        exact⟨I,k1,fun j u hj=>by rw[xH];exact k2 j u hj,k3⟩
    -- what the growing arm leaves
    have grown:∀(old:Nat) (cs:List WE) (row:WG Nat),cs.length=Cs.length*z->cs.all zX=true->(∀(i:Nat) (C:CU),Cs[i]?=some C->C.p ((cs.drop (i*z)).take z) w)->old<Cs.length+Ds.length->
        zAk (w.drew.alloc (.cells (cs.toArray++I.toArray++Builtin.zeroCells zv.cells (grownCap w (Cs.length+Ds.length) old e-(Cs.length+Ds.length))) e)) base e z (.slice (some ⟨w.heap.size,0,none⟩) (Cs.length+Ds.length) (grownCap w (Cs.length+Ds.length) old e)) (Cs++Ds)/\
        w.grownBy (w.drew.alloc (.cells (cs.toArray++I.toArray++Builtin.zeroCells zv.cells (grownCap w (Cs.length+Ds.length) old e-(Cs.length+Ds.length))) e)) row:=by
      intro old cs row hl hn hT ho
      have hM:=grownCap_ge w (Cs.length+Ds.length) old e
      have hE:grownCap w (Cs.length+Ds.length) old e<=maxLen:=tE w (Cs.length+Ds.length) old e hA
      refine⟨.inr ⟨w.heap.size,_,_,by rw[uF],ha,xL w.drew _,by rw[uF];exact hM,hE,?_,?_,?_⟩,⟨rfl,rfl,rfl,by simp,fun k hk _=>tB w.drew _ hk⟩⟩
      . simp only[tF,bP,tC,hL,hl,n1,<-vT]
        congr 1
        omega
      . simp only[tD]
        exact zDP hn n4 (zBE hK _)
      . simp only[tD]
        exact zDr hl n1 hT n5 (zO ⟨rfl,rfl,rfl,by simp,fun k hk=>tB w.drew _ hk⟩)
    rcases hr with⟨rfl,rfl⟩|⟨g,cap,J,rfl,g2,g3,g4,g5,g6,g7,g8⟩
    . by_cases hm:Ds.length=0
      . have hf:=xM hm
        subst hf
        refine⟨sN,w,?_,.inl ⟨rfl,rfl⟩,⟨rfl,rfl,rfl,vP _,fun _ _ _=>rfl⟩,.inl rfl⟩
        simp[Builtin.append_,bK ht,sizeOf,typeInfo,hi,Builtin.lenOf,Builtin.firstCells,loadCells,loadCellsFrom]
      . have hr:=run_append_nil (P:=P) w t ty e i zv ht hi hz ad Ds.length c I (by rw[hs];exact n1) n2 oA (by simp at h5;omega) (by simp at hC;omega)
        have O:=grown 0 [] (Value.ownBlock (sN)) fC rfl fC (by simp;omega)
        simp only[mR,uL,lT,Array.empty_append]at O ⊢
        exact⟨_,_,hr,O.1,O.2,.inr rfl⟩
    . by_cases hroom:Cs.length+Ds.length<=cap
      . have h6:Cs.length*i.size+I.length<=J.size:=by rw[n1,g6,hs,<-vT];exact uE _ hroom
        have hr:=run_append_room (P:=P) w t ty e i ht hi g Cs.length cap J g3 ad Ds.length c I (by rw[hs];exact n1) n2 n3 hroom h6
        rw[hs]at hr h6
        have O:w.grownBy (w.setRow g (J.toList.take (Cs.length*z)++I++J.toList.drop (Cs.length*z+I.length)).toArray) (some g):=zBB w g _
        have hk:y9 w (w.setRow g (J.toList.take (Cs.length*z)++I++J.toList.drop (Cs.length*z+I.length)).toArray):=
          zAk.keepU (v:=.slice (some ⟨g,0,none⟩) Cs.length cap) (Cs:=Cs) (base:=base) (e:=e) (z:=z) (.inr ⟨g,cap,J,rfl,g2,g3,g4,g5,g6,g7,g8⟩) O
        have hO:J.toList.length=cap*z:=g6
        have hQ:Cs.length*z<=J.toList.length:=by rw[hO];exact uE _ g4
        have U:(J.toList.take (Cs.length*z)).length=Cs.length*z:=by rw[uD,uQ hQ]
        have h7:∀u,u∈J.toList->zX u=true:=xR.1 g7
        refine⟨_,_,hr,.inr ⟨g,cap,_,by rw[uF],g2,sZ w g J _ e _ g3,by rw[uF];exact hroom,g5,?_,?_,?_⟩,O,.inl rfl⟩
        . simp only[bP,uF,uD,uJ,tA]
          rw[<-g6]
          omega
        . exact zDP (xR.2 fun u hu=>h7 u (uV hu)) n4 (xR.2 fun u hu=>h7 u (uZ hu))
        . refine zDr U n1 (fun j C hj=>?_) n5 hk
          have h9:j<Cs.length:=(bE.1 hj).1
          have h1:=g8 j C hj
          rw[<-gA (Cs.length*z) J.toList,zCV U h9]at h1
          exact h1
      . have U:(J.toList.take (Cs.length*z)).length=Cs.length*z:=by
          rw[uD,show J.toList.length=cap*z from g6,uQ (uE _ g4)]
        have he:∀j u,(J.toList.take (Cs.length*z))[j]?=some u->w.cell? ((⟨g,0,none⟩:Addr).add j)=some u:=fun j u hj=>by
          rw[xH,uL]
          rw[uT]at hj
          split at hj
          . unfold World.cell?
            simp only[g3]
            simpa using hj
          . cases hj
        have hr:=run_append_grow (P:=P) w t ty e i zv ht hi hz ⟨g,0,none⟩ Cs.length cap (J.toList.take (Cs.length*z)) (by rw[hs];exact U) he ad Ds.length c I (by rw[hs];exact n1) n2 oA oA (growslice_fits oA hC)
        have O:=grown cap (J.toList.take (Cs.length*z)) (Value.ownBlock (.slice (some ⟨g,0,none⟩) Cs.length cap)) U (xR.2 fun u hu=>xR.1 g7 u (uV hu)) (fun j C hj=>by
          have h9:j<Cs.length:=(bE.1 hj).1
          have h1:=g8 j C hj
          rw[<-gA (Cs.length*z) J.toList,zCV U h9]at h1
          exact h1) oA
        exact⟨_,_,hr,O.1,O.2,.inr rfl⟩
section
variable {S:Nat->Prop}{F:Fence}{m:Nat}{P:WH}{Q:Exit->Act->WB->Prop}{w0 w1:WB}{K K0:List (Nat×KF)}{B B0:List Bx}{n n0:Nat}{ds ds0:List Deferred}{a a0:Act}{w:WB}
theorem yP.ro{S':Nat->Prop}{w':WB}:∀(B:List Bx),(∀x,x∈B->x.r=true)->yP S w0 a w B->yP S' w' a w B
 | [],_,_=>trivial
 |x::B,hr,⟨⟨cs,h1,_,h3⟩,h4⟩=>⟨⟨cs,h1,.inl (hr x fC),h3⟩,yP.ro B (fun y I=>hr y (by simp[I])) h4⟩
def frz(B:List Bx):List Bx:=B.map fun x=>⟨x.t,x.e,x.c,x.b,true⟩
theorem yP.freeze:∀(B:List Bx),yP S w0 a w B->yP S w0 a w (frz B)
 | [],_=>trivial
 |x::B,⟨⟨cs,h1,_,h3,h4,h5,h6⟩,h7⟩=>⟨⟨cs,h1,.inl rfl,h3,h4,h5,fun y I=>by
  obtain⟨z,hz,rfl⟩:=xG.1 I
  exact .inr ⟨rfl,rfl⟩⟩,yP.freeze B h7⟩
theorem StS.freeze(h:StS S w0 K B n ds a w):StS S w0 K (frz B) n ds a w:=⟨h.gr,h.size,h.nd,h.sl,yP.freeze B h.bx,h.mks,h.so⟩
theorem StS.below(h:St w0 K B n ds a w):bW w0 w:=h.gr.below
theorem StS.reb(h:St w0 K B n [] a w)(hB:(B.all fun x=>x.r)=true)(O:List (Nat×KF))(hK:∀q,q∈O->q∈K∨ ∃f,q.2=.o f/\f.p (a.tmps.getD q.1 undef) w):St w O B n [] a w:=
 ⟨BlS.refl _ _,h.size,h.nd,fun q J=>by
  rcases hK q J with J|⟨f,e,U⟩
  .have I:=h.sl q J
   cases h2:q.2 with
   |u f=>rw[h2]at I;exact I
   |o f=>rw[h2]at I;exact f.st _ _ _ I h.below
  .rw[e];exact U,yP.ro B (fun x hx=>by simpa using xR.1 hB x hx) h.bx,⟨[],Marks.nil _ _⟩,.inr fun _ hh=>hh⟩
theorem StS.val(h:StS S w0 K B n ds a w){t:Nat}{v:WE}(I:(t,KF.u (UF.eq v))∈K):a.tmps.getD t undef=v:=h.sl _ I
theorem StS.back(h0:StS S w0 K0 B0 n0 ds0 a0 w1)(h:St w1 K B n [] a w)(J:(K.all fun q=>zJg q.2)=true):StS S w0 K B n [] a w:=
 ⟨h0.gr.trans h.below,h.size,h.nd,fun q O=>by
  have I:=h.sl q O
  obtain⟨f,e⟩:=yX J q O
  rw[e]at I ⊢
  exact I,by
  have:∀B:List Bx,yP noS w1 a w B->yP S w0 a w B:=fun B=>by
   induction B with
   |nil=>exact fun _=>trivial
   |cons x B ih=>
    intro⟨⟨cs,I,h2,h3⟩,U⟩
    exact⟨⟨cs,I,h2.imp id fun h=>.inl (by rcases h with h|h;exact xQ h0.gr.size h;exact h.elim),h3⟩,ih U⟩
  exact this B h.bx,⟨[],Marks.nil _ _⟩,.inl (yX J)⟩
theorem StS.resN(h:St w1 K B n [] a w)(hb:bW w0 w1){fn:Func}{f:SF}{t:Nat}(J:fn.results=#[.tmp t])(I:f.p (a.tmps.getD t undef) w):bodyPost P fn (Ret w0 f) .ret a w:=by
 refine⟨h.nd,_,?_,⟨_,rfl,I,hb.trans (h.below.mono hb.size)⟩⟩
 simp[results,J]
theorem vJ(h:St w1 K B n [] a w)(hb:bW w0 w1){fn:Func}{f:SF}{t:Nat}(J:fn.results=#[.tmp t])(I:∀v W,(jM K B t).p v W->f.p v W):bodyPost P fn (Ret w0 f) .ret a w:=
 h.resN hb J (I _ _ (h.at.sl t))
def wG(W:WB)(e:WF)(z:Nat)(Cs:List CU):SF:=⟨fun v w=>zAk w W.heap.size e z v Cs,fun _ _ _ h hb=>h.below hb⟩
theorem qY(v:WE)(w:WB)(h:(wG W e z Cs).p v w):(SF.row z Cs).p v w:=zAk.row h
theorem zLF{k:Nat}{v:WE}(Ds:List CU)(h0:StS S w0 K0 B0 n0 ds0 a0 w1)(h:St w1 K B n [] a w)(hb0:w0.heap.size<=base)(hr:base<=w1.heap.size/\zAk w1 base e z v Cs)
  (ho:ops[k]?=some ⟨some d,.call ⟨.builtin .append,#[x,y],#[t,t]⟩,ty,pos,aft,none⟩)(happ:zEO P t=some (e,z,true))(hf:j9 K B n d=true)(hu:(K.all fun q=>zJg q.2)=true)
  (hx:a.eval x=v)(hy:(SF.row z Ds).p (a.eval y) w)(hD:∀C,C∈Ds->CU.ok z C)(hsz:Cs.length+Ds.length<=140000000000)(hB:∀q,q∈B->q.r=true->q.b<base)
  (fin:∀v' a' w',(base<=w'.heap.size/\zAk w' base e z v' (Cs++Ds))->StS S w0 ((d,.u (UF.eq v'))::K) B n [] a' w'->zAW F m P ops Q (k+1) a' w'):zAW F m P ops Q k a w:=by
 have hb1:=h.below
 have hr':zAk w base e z v Cs:=hr.2.below hb1
 obtain⟨v',w',hrun,g1,g2,_⟩:=zHd (P:=P) (ty:=ty) happ hr' hy hD hsz (xQ hr.1 hb1.size)
 have hrun2:(execOp a.eval ⟨some d,.call ⟨.builtin .append,#[x,y],#[t,t]⟩,ty,pos,aft,none⟩).run P w=.ok (.value v') w':=by
  simp only[execOp,resolve,invoke,builtin,cD,cF,cL,cP,xX,bV,hx,hrun]
 refine zAl ho rfl ⟨fun f hf=>(by
  unfold Oper.about at hf
  simp[resolve,go_sem]at hf),?_⟩
 rw[bI _ _ _ (fun _ e=>by cases e),hrun2]
 have hk:y9 w w':=hr'.keepU g2
 have hlt:=hr.2.lt
 have s0:=h0.back h hu
 have s1:StS S w0 K B n [] a w':=by
  refine⟨?_,s0.size,s0.nd,fun q hq=>KF.us (s0.sl q hq) hk,?_,⟨[],Marks.nil _ _⟩,s0.so⟩
  .cases hv:v.ownBlock with
   |none=>
    refine⟨g2.os.trans s0.gr.os,g2.tape.trans s0.gr.tape,g2.output.trans s0.gr.output,xQ s0.gr.size g2.size,fun k hk1 hk2=>?_⟩
    exact(g2.block k (vU hk1 s0.gr.size) (by rw[hv];simp)).trans (s0.gr.block k hk1 hk2)
   |some g=>exact s0.gr.grown (by rw[hv]at g2;exact g2) (.inl (xQ hb0 (hlt g hv).1))
  .refine wO hk B (fun q hq=>?_) s0.bx
   obtain⟨_,_,hc,h3,_⟩:=h.bx.mem q hq
   refine g2.block _ (xP.1 h3).1 fun e=>?_
   have h4:=hlt _ e.symm
   rcases hc with hc|hc|hc
   .have:=hB q hq hc;omega
   .omega
   .exact hc
 exact fin v' _ w' ⟨xQ (xQ hr.1 hb1.size) g2.size,g1⟩ (s1.set hf (xF _ _) rfl)
theorem zDE{σ:Type}{c:Code}(I:σ->WB->Prop)(J:σ->List (Nat×KF))(U:σ->Nat)(O:σ)(hI:I O w)(h0:StS S w0 (J O) B n ds a w)
  (round:∀x a w,I x w->StS S w0 (J x) B n ds a w->c.wpIn F m P (Exit.then (fun a' w'=>∃y,U y<U x/\I y w'/\StS S w0 (J y) B n ds a' w') Q) a w):(Code.loop c).wpIn F m P Q a w:=
 zDu (fun x a w=>I x w/\StS S w0 (J x) B n ds a w) U O ⟨hI,h0⟩ fun x a w h=>round x a w h.1 h.2
end
def SF.fn(P:WH)(T:Array WE->WB->SF->Prop):SF:=⟨fun v W=>∃f caps,v=.func (.func f) #[] caps/\Enters P f/\∀W',bW W W'->∀args R,T args W' R->Calls P f (args++caps) W' (Ret W' R),fun _ _ _ ⟨f,caps,h1,h2,h3⟩ hb=>⟨f,caps,h1,h2,fun W' hb'=>h3 W' (hb.trans (hb'.mono hb.size))⟩⟩
section
variable {F:Fence}{m:Nat}{P:WH}{w0:WB}{ops:Array Oper}{G:Nat->SF}{d:Tmp}{ty:WF}{pos:String}{aft:Array Edge}
theorem zNN(T:Array WE->WB->SF->Prop)(hF:zJh F m P)(hy:∀v W,bW w0 W->(fct G y).p v W->(SF.fn P T).p v W)
  (h:∀(b:Act) (W:WB),bW w0 W->(∀x,x∈xs.toList->(fct G x).p (b.eval x) W)->T (xs.map b.eval) W (G d)):
  qO F m P w0 ops G ⟨some d,.call ⟨.value y,xs,ats⟩,ty,pos,aft,none⟩:=by
 intro b W K Q hb hr hK
 have O:∀x,x∈(Op.call ⟨.value y,xs,ats⟩).operands.toList->(fct G x).p (b.eval x) W:=fun x U=>qA hr U
 obtain⟨f,J,e1,he,hc⟩:=hy _ _ hb (O y (by simp[Op.operands,Call.operands]))
 have h1:=h b W hb fun x U=>O x (by simp[Op.operands,Call.operands];right;simpa using U)
 refine⟨fun g _=>hF.1 g,?_⟩
 have I:(execOp b.eval ⟨some d,.call ⟨.value y,xs,ats⟩,ty,pos,aft,none⟩).run P W=.ok (.enter f (xs.map b.eval++J)) W:=by
  simp only[execOp,resolve,e1,Deferred.ofValue,cD,cF,cL,invoke]
  rw[show(#[]:Array WE)++xs.map b.eval=xs.map b.eval by simp]
  exact he _ _
 rw[bI _ _ _ (fun _ e=>by cases e),I]
 simp only[mD]
 refine⟨hF.2.1,bG (hF.2.2 _ _ _ (Ret W (G d)) (hc W (xF _ _) _ _ h1)) fun e W' he=>?_⟩
 obtain⟨v,rfl,hv,hb'⟩:=he
 exact hK v W' (fun d' e=>by cases e;exact hv) hb'
theorem zVt(T:Array WE->WB->SF->Prop)(hF:zJh F m P)(I:∀v W,(fct G y).p v W->(SF.fn P T).p v W)
  (h:∀(b:Act) (W:WB),bW w0 W->(∀x,x∈xs.toList->(fct G x).p (b.eval x) W)->T (xs.map b.eval) W (G d)):
  qO F m P w0 ops G ⟨some d,.call ⟨.value y,xs,ats⟩,ty,pos,aft,none⟩:=zNN T hF (fun v W _ h=>I v W h) h
theorem zVu{I:WL}(T:Array WE->WB->SF->Prop)(hF:zJh F m P)(O:∀v W,(fct G y).p v W->(SF.fn P T).p v W)(h:∀u v W,bW w0 W->(fct G x).p u W->(fct G I).p v W->T #[u,v] W (G d)):qO F m P w0 ops G ⟨some d,.call ⟨.value y,#[x,I],ats⟩,ty,pos,aft,none⟩:=
 zVt T hF O fun b W hb J=>by simpa using h _ _ W hb (J x fC) (J I fC)
end
def zYh(f:UF):Prop:=∀v W,f.p v W->∃s A n c A' n' c',v=.agg #[.bool s,.slice A n c,.slice A' n' c']
theorem zBa(q:Rat):zYh (fQN q):=fun _ _ h=>by
 obtain⟨A,n,c,A',n',c',e⟩:=zC0 h
 exact⟨_,A,n,c,A',n',c',e⟩
def PTp(f g:UF)(v:WE)(w:WB):Prop:=∃s A n c A' n' c' s2 B k d B' k' d',v=.agg #[.bool s,.slice A n c,.slice A' n' c',.bool s2,.slice B k d,.slice B' k' d']/\f.p (.agg #[.bool s,.slice A n c,.slice A' n' c']) w/\g.p (.agg #[.bool s2,.slice B k d,.slice B' k' d']) w
def fPT(f g:UF):UF:=.mk' (PTp f g) fun _ _ _ ⟨s,A,n,c,A',n',c',s2,B,k,d,B',k',d',e,h1,h2⟩ u=>⟨s,A,n,c,A',n',c',s2,B,k,d,B',k',d',e,f.us _ _ _ h1 u,g.us _ _ _ h2 u⟩
abbrev fPN(p:V2):UF:=fPT (fQN p.1) (fQN p.2)
abbrev fPV(m:Nat)(p:V2):UF:=fPT (fRV m p.1) (fRV m p.2)
theorem zEr{a b c d e f:WE}(h:Value.agg cs.toArray=.agg #[a,b,c,d,e,f]):cs=[a,b,c,d,e,f]:=by
 have:=vQ Array.toList (j5 h)
 simpa using this
theorem zL(f g:UF):∀cs:List WE,∀W,(fPT f g).p (.agg cs.toArray) W->cs.length=6:=fun cs W ⟨_,_,_,_,_,_,_,_,_,_,_,_,_,_,e,_⟩=>by rw[zEr e];rfl
theorem zFO(cs:List WE)(W:WB)(h:(CU.agg (fPT f g)).p cs W):0+3<=cs.length/\f.p (.agg ((cs.drop 0).take 3).toArray) W:=by
 obtain⟨_,_,_,_,_,_,_,_,_,_,_,_,_,_,e,I,_⟩:=h
 rw[zEr e]
 exact⟨by simp,I⟩
theorem zFN(cs:List WE)(W:WB)(h:(CU.agg (fPT f g)).p cs W):3+3<=cs.length/\g.p (.agg ((cs.drop 3).take 3).toArray) W:=by
 obtain⟨_,_,_,_,_,_,_,_,_,_,_,_,_,_,e,_,I⟩:=h
 rw[zEr e]
 exact⟨by simp,I⟩
theorem zHr(cs:List WE)(W:WB)(h:(CU.agg (fPT f g)).p cs W):0+6<=cs.length/\(fPT f g).p (.agg ((cs.drop 0).take 6).toArray) W:=by
 obtain⟨s,A,n,c,A',n',c',I,B,k,d,B',k',d',e,J,h2⟩:=h
 rw[zEr e]
 exact⟨by simp,s,A,n,c,A',n',c',I,B,k,d,B',k',d',rfl,J,h2⟩
theorem yY{v:WE}(h:(fPT f g).p v W):(CU.agg (fPT f g)).p v.cells.toList W/\v.cells.toList.all zX=true:=by
 obtain⟨s,A,n,c,A',n',c',I,B,k,d,B',k',d',rfl,J,h2⟩:=h
 exact⟨⟨s,A,n,c,A',n',c',I,B,k,d,B',k',d',rfl,J,h2⟩,rfl⟩
theorem zMO{s J:Bool}{B B':WG Addr}{c k k' d':Nat}(u:WE)(I:u∈ [Value.bool s,.slice A n c,.slice A' n' c',.bool J,.slice B k d,.slice B' k' d']):u.oneCell'=true:=by
 simp only[xS,rO,rN]at I
 rcases I with rfl|rfl|rfl|rfl|rfl|rfl<;>rfl
theorem y7(v:WE)(W:WB)(h:(fPT f g).p v W):∃vs:List WE,v=.agg vs.toArray/\vs.length=6/\(∀u,u∈vs->u.oneCell'=true)/\vs.all zX=true/\(CU.agg (fPT f g)).p vs W:=by
 obtain⟨s,A,n,c,A',n',c',I,B,k,d,B',k',d',rfl,J,h2⟩:=h
 exact⟨_,rfl,rfl,zMO,rfl,s,A,n,c,A',n',c',I,B,k,d,B',k',d',rfl,J,h2⟩
theorem zBP(f g:UF):CU.ok 6 (CU.agg (fPT f g)):=fun cs W ⟨s,A,n,c,A',n',c',s2,B,k,d,B',k',d',e,_⟩=>by
 rw[zEr e]
 exact⟨rfl,rfl,zMO⟩
theorem zJG{f' g':UF}(J:∀v W,f.p v W->f'.p v W)(O:∀v W,g.p v W->g'.p v W){v:WE}{W:WB}(h:(fPT f g).p v W):(fPT f' g').p v W:=by
 obtain⟨s,A,n,c,A',n',c',I,B,k,d,B',k',d',e,U,h2⟩:=h
 exact⟨s,A,n,c,A',n',c',I,B,k,d,B',k',d',e,J _ _ U,O _ _ h2⟩
theorem zBz(h1:QB p.1 m)(h2:QB p.2 m){v:WE}{W:WB}(h:(fPN p).p v W):(fPV m p).p v W:=zJG (fun _ _ h=>wL h h1) (fun _ _ h=>wL h h2) h
theorem zFK(I:m<=m'){v:WE}{W:WB}(h:(fPV m p).p v W):(fPV m' p).p v W:=zJG (fun _ _ h=>RVp.mono h I) (fun _ _ h=>RVp.mono h I) h
theorem bPt(s:Bool)(A A':WG Addr)(n n' c c':Nat)(I:Bool)(B B':WG Addr)(k k' d d':Nat):prog.built 30 [(0,.agg #[.bool s,.slice A n c,.slice A' n' c']),(1,.agg #[.bool I,.slice B k d,.slice B' k' d'])]=some #[.bool s,.slice A n c,.slice A' n' c',.bool I,.slice B k d,.slice B' k' d']:=by kernel_rfl
theorem zUj{v:WE}(O:zYh f)(hg:zYh g)(I:f.p u W)(J:g.p v W):∃cells,prog.built 30 [(0,u),(1,v)]=some cells/\(fPT f g).p (.agg cells) W:=by
 obtain⟨s,A,n,c,A',n',c',rfl⟩:=O _ _ I
 obtain⟨U,B,k,d,B',k',d',rfl⟩:=hg _ _ J
 exact⟨_,bPt _ _ _ _ _ _ _ _ _ _ _ _ _ _,s,A,n,c,A',n',c',U,B,k,d,B',k',d',rfl,I,J⟩
abbrev pns(ps:List V2):List CU:=ps.map fun p=>CU.agg (fPN p)
abbrev pvs(m:Nat)(ps:List V2):List CU:=ps.map fun p=>CU.agg (fPV m p)
theorem zBs(h:i<ps.length):(pns ps)[i]?=some (CU.agg (fPN (at_ ps i))):=by
 unfold pns at_;rw[tJ,rH,nG h];rfl
theorem qI(h:i<ps.length):(pvs m ps)[i]?=some (CU.agg (fPV m (at_ ps i))):=by
 unfold pvs at_;rw[tJ,rH,nG h];rfl
theorem zIE(ps:List V2):∀C,C∈pns ps->CU.ok 6 C:=fun C I=>by
 obtain⟨p,_,rfl⟩:=xG.1 I
 exact zBP _ _
theorem zHf(J:Cs.length=Ds.length)(h:∀(i:Nat) (C D:CU),Cs[i]?=some C->Ds[i]?=some D->∀cs W,C.p cs W->D.p cs W)(v:WE)(W:WB)(hv:(SF.row z Cs).p v W):(SF.row z Ds).p v W:=by
 obtain⟨A,c,e,h2,h3,U,h5⟩:=hv
 rw[J]at e h2
 refine⟨A,c,e,h2,h3,U,fun i D I=>?_⟩
 have hi:i<Cs.length:=by rw[J];exact(bE.1 I).1
 obtain⟨b,o,cs,g1,O,g3⟩:=h5 i _ (nG hi)
 exact⟨b,o,cs,g1,O,h i _ _ (nG hi) I cs W g3⟩
theorem zNw(O:∀p,p∈ps->QB p.1 m/\QB p.2 m)(v:WE)(W:WB)(U:(SF.row 6 (pns ps)).p v W):(SF.row 6 (pvs m ps)).p v W:=
 zHf fC (fun i C D I J cs W h=>by
  have hi:i<ps.length:=by have:=(bE.1 I).1;simpa using this
  rw[zBs hi]at I
  rw[qI hi]at J
  cases I;cases J
  have:=O _ (zA7 hi)
  exact zBz this.1 this.2 h) v W U
section
variable {F:Fence}{m:Nat}{P:WH}{w0:WB}{ops:Array Oper}{G:Nat->SF}{d:Tmp}{ty:WF}{pos:String}{aft:Array Edge}
theorem zNM{f:FuncId}{cs:Array WL}(h:∀(b:Act) (W:WB),bW w0 W->(∀x,x∈cs.toList->(fct G x).p (b.eval x) W)->(G d).p (.func (.func f) #[] (cs.map b.eval)) W):qO F m P w0 ops G ⟨some d,.makeFunc (.func f) #[] cs,ty,pos,aft,none⟩:=
 qG (fun _ e=>by cases e) (fun _ e=>by cases e) fun b W hb J=>by
  have:=h b W hb fun x I=>J x (by simpa[Op.operands]using I)
  exact⟨_,by simp[execOp,Instr.makeFunc],this⟩
theorem zKW{f:FuncId}(h:∀u W,bW w0 W->(fct G x).p u W->(G d).p (.func (.func f) #[] #[u]) W):qO F m P w0 ops G ⟨some d,.makeFunc (.func f) #[] #[x],ty,pos,aft,none⟩:=
 zNM fun b W hb I=>by simpa using h _ W hb (I x fC)
theorem zQ(hz:qS P t=some z)(hi:Cs[i]?=some C)(hx:∀v W,bW w0 W->(fct G x).p v W->(SF.row z Cs).p v W)(hy:∀v W,(fct G y).p v W->v=.int .i64 (i:Int))(hd:∀v W,(wD C.cf).p v W->(G d).p v W:=by exact fun _ _ h=>h):qO F m P w0 ops G ⟨some d,.indexAddr t x y,ty,pos,aft,none⟩:=
 qG (fun _ e=>by cases e) (fun _ e=>by cases e) fun b W hb O=>by
  obtain⟨A,c,e,h2,h3,h4,h5⟩:=hx _ _ hb (O x (by simp[Op.operands]))
  have e2:=hy _ _ (O y (by simp[Op.operands]))
  obtain⟨b',o,cs,rfl,h6,h7⟩:=h5 i C hi
  have hlt:i<Cs.length:=(bE.1 hi).1
  unfold qS at hz
  split at hz<;>try cases hz
  rename_i e' U
  cases hin:P.info? e' with
  |none=>rw[hin]at hz;cases hz
  |some ie=>
   rw[hin]at hz
   simp only[mB,lY]at hz
   have I:P.elem t=e':=by simp[Program.elem,U]
   refine⟨.pointer (some ⟨b',o+i*z,none⟩),?_,hd _ _ ⟨b',o+i*z,cs,rfl,h7,h6⟩⟩
   have J:(0:Int)<=(i:Int)/\(i:Int)<(Cs.length:Nat):=by omega
   simp only[execOp,e,e2]
   rw[cD,tP _ _ _ _ _ _ _ (by rw[I];exact U),if_pos J,I]
   simp[sizeOf,typeInfo,hin,hz,xH]
theorem zY(ht:P.underlying t=some (.slice (P.elem t)))(hx:∀v W,bW w0 W->(fct G x).p v W->(SF.row z Cs).p v W)(hd:∀W,(G d).p (.int .i64 (Cs.length:Nat)) W:=by exact fun _=>rfl):qO F m P w0 ops G ⟨some d,.call ⟨.builtin .len,#[x],#[t]⟩,ty,pos,aft,none⟩:=by
 intro b W K Q hb hr hK
 obtain⟨A,c,e,_⟩:=hx _ _ hb (qA hr (x:=x) (by simp[Op.operands,Call.operands]))
 refine⟨fun f hf=>(by
  unfold Oper.about at hf
  simp[resolve,go_sem]at hf),?_⟩
 rw[bI _ _ _ (fun _ e=>by cases e)]
 have:(execOp b.eval ⟨some d,.call ⟨.builtin .len,#[x],#[t]⟩,ty,pos,aft,none⟩).run P W=.ok (.value (.int .i64 (Cs.length:Nat))) W:=by
  simp[execOp,resolve,invoke,builtin,e,pX _ _ _ _ _ _ ht,goInt]
 rw[this]
 exact hK _ _ (fun d' e'=>by cases e';exact hd _) (xF _ _)
theorem zBb(k:IntKind)(u v r:Int)(O:∀q W,(fct G x).p q W->q=.int k u)(U:∀q W,(fct G y).p q W->q=.int k v)(hv:v≠0)(J:u.tmod v=r)(I:∀W,(G d).p (.int k r) W:=by exact fun _=>rfl):qO F m P w0 ops G ⟨some d,.binOp .rem t x y t',ty,pos,aft,none⟩:=
 zD8 (.int k u) (.int k v) (.int k r) O U (fun W=>by simp[eqGuard]) (fun W=>by simp[binOp,Op.intDiv,hv,J]) I
end
section
variable {F:Fence}{m:Nat}{P:WH}{ops:Array Oper}{Q:Exit->Act->WB->Prop}
theorem zCB(k:Nat)(L:List (Nat×Rw))(h:StS S w0 K B n ds a w)
  (I:(zFg ops k n (L.map (·.1))&&zGm ops k (K.map (·.1)++B.map (·.t))&&jY (L.map (·.1)))=true)
  (hy:Obs F m P w ops (upd (jM K B) (zK L)) (ops.toList.take k))
  (hp:∀a w,StS S w0 (zA4 L++K) B n ds a w->(∀q,q∈zK L->q.2.p (a.tmps.getD q.1 undef) w)->zAW F m P ops Q k a w):(Code.region id ops false).wpIn F m P Q a w:=by
 simp only[xV]at I
 obtain⟨⟨I,hG⟩,hn⟩:=I
 unfold zFg at I
 simp only[xV]at I
 obtain⟨⟨⟨⟨⟨hN,hM⟩,hpl⟩,hk⟩,h9⟩,hP⟩:=I
 have hk:=xW hk
 have hf:(zK L).map (·.1)=L.map (·.1):=by simp[zK]
 have h8:∀t,t∈K.map (·.1)++B.map (·.t)->∀i,i<k->zT ops i≠some t:=fun t ht i hi he=>by
  have h2:=xR.1 (xR.1 hG t ht) i (xT.2 hi)
  rw[he]at h2
  simp at h2
 have hA:=h.at
 have hL:∀t,(∀j,j<k->zT ops j≠some t)->upd (jM K B) (zK L) t=jM K B t:=fun t ht=>by
  refine jP ?_
  cases hc:((zK L).map (·.1)).contains t with
  |false=>rfl
  |true=>
   exfalso
   have hm:=bU.1 hc
   rw[hf]at hm
   obtain⟨i,hi,he⟩:=bQ.1 (xR.1 h9 t hm)
   exact ht i (xT.1 hi) (by simpa using he)
 refine wpIn_region ?_
 rw[lG]
 -- the table, the kept slots' values said
 let G1:Nat->SF:=fun t=>if t∈K.map (·.1)++B.map (·.t)then⟨fun v W=>(upd (jM K B) (zK L) t).p v W/\v=a.tmps.getD t undef,fun _ _ _ h hb=>⟨(upd (jM K B) (zK L) t).st _ _ _ h.1 hb,h.2⟩⟩else upd (jM K B) (zK L) t
 have h5:∀t v W,(G1 t).p v W->(upd (jM K B) (zK L) t).p v W:=fun t v W hh=>by
  by_cases ht:t∈K.map (·.1)++B.map (·.t)
  .simp only[G1,if_pos ht]at hh
   exact hh.1
  .simp only[G1,if_neg ht]at hh
   exact hh
 have hw:∀t,(∃i,i<k/\zT ops i=some t)->G1 t=upd (jM K B) (zK L) t:=fun t ⟨i,hi,he⟩=>by
  simp only[G1]
  rw[if_neg fun ht=>h8 t ht i hi he]
 have h6:∀i o,i<k->ops[i]?=some o->qO F m P w ops G1 o:=fun i o hi ho=>by
  have hg:=hy.get i o (by rw[eM hi];simpa using ho)
  have hE:zMg F m P w (upd (jM K B) (zK L)) o->zMg F m P w G1 o:=fun J b W K' Q' hb hr hO=>
   J b W K' Q' hb (fun t ht=>h5 t _ _ (hr t ht)) fun v W' hv hb'=>hO v W' (fun d hd=>by rw[hw d ⟨i,hi,by rw[qU ho];exact hd⟩];exact hv d hd) hb'
  unfold qO at hg ⊢
  cases hgd:o.guard with
  |none=>rw[hgd]at hg;exact hE hg
  |some q=>
   rw[hgd]at hg
   obtain⟨g,bv,J,h2,h3,h4⟩:=hg
   exact⟨g,bv,J,fun v W hh=>h2 v W (h5 g v W hh),fun e=>hE (h3 e),fun e=>⟨fun d hd W=>by rw[hw d ⟨i,hi,by rw[qU ho];exact hd⟩];exact(h4 e).1 d hd W,(h4 e).2⟩⟩
 refine zG6 (G:=G1) (k:=k) (n:=n) (a0:=a) (wA:=w) (w0:=w) hN hM hk (fun i o hi ho t ht j hj=>?_) (fun t ht=>?_) h6 (fun a' w' hb hs hd hh=>?_) k 0 a w oA (xF _ _) (xF _ _) h.size rfl (fun t ⟨j,hj,_⟩=>absurd hj oA) (fun t _=>rfl)
 .have J:=xR.1 hP i (xT.2 hi)
  rw[ho]at J
  obtain⟨oj,hJ,_⟩:=qE hj
  have h2:=xR.1 (xR.1 J t ht) j (xT.2 (xP.1 hJ).1)
  rw[hj]at h2
  simpa using h2
 .have J:=hA.sl t
  rw[<-hL t ht]at J
  by_cases hm:t∈K.map (·.1)++B.map (·.t)
  .simp only[G1,if_pos hm]
   exact⟨J,by first|rfl|trivial⟩
  .simp only[G1,if_neg hm]
   exact J
 .have U:∀t,t∈K.map (·.1)++B.map (·.t)->a'.tmps.getD t undef=a.tmps.getD t undef:=fun t ht=>by
   have J:=hh t
   simp only[G1,if_pos ht]at J
   exact J.2
  have hz:∀q,q∈zK L->q.2.p (a'.tmps.getD q.1 undef) w':=fun q h7=>by
   have J:=h5 q.1 _ _ (hh q.1)
   rwa [zCz (q:=q) (by rw[hf];exact hn) h7]at J
  refine hp a' w' ⟨h.gr.trans hb,hs,by rw[hd];exact h.nd,fun q O=>?_,h.bx.keep hb (zO hb) B fun x hx=>U _ (cQ _ (xG.2 ⟨x,hx,rfl⟩)),zAx h.mks hb,h.so.imp (fun hu q O=>(by
   rcases vV.1 O with O|O
   .obtain⟨f,e,_⟩:=jO O;exact⟨f,e⟩
   .exact hu q O)) (fun x=>x)⟩ hz
  rcases vV.1 O with O|O
  .obtain⟨f,hQ,hm⟩:=jO O
   have h7:((q.1,f.tS):Nat×SF)∈zK L:=xG.2 ⟨_,hm,rfl⟩
   have J:=h5 q.1 _ _ (hh q.1)
   rw[zCz (q:=(q.1,f.tS)) (by rw[hf];exact hn) h7]at J
   rw[hQ]
   exact J
  .rw[U q.1 (cT _ (xG.2 ⟨q,O,rfl⟩))]
   exact KF.us (h.sl q O) (zO hb)
end
section
variable {S:Nat->Prop}{F:Fence}{m:Nat}{P:WH}{ops:Array Oper}{Q:Exit->Act->WB->Prop}{w0:WB}{K:List (Nat×KF)}{B:List Bx}{n:Nat}{ds:List Deferred}{a:Act}{w:WB}
theorem zBy(K0:List (Nat×KF))(U:List Nat)(k:Nat)(L:List (Nat×Rw))(hmix:P.follows .mixedOrders=true)(h:StS S w0 (K0++K) B n ds a w)
  (I:(zCf ops U k n (L.map (·.1))&&jQ ops (K.map (·.1)++B.map (·.t))&&jY (L.map (·.1)))=true)
  (O:Obs F m P w ops (upd (jM (K0++K) B) (zK L)) (ops.toList.take k))
  (h1:∀Q',(∀a w,Q .normal a w->Q' .normal a w)->∀a w,StS S w0 (zA4 L++K) B n ds a w->(∀q,q∈zK L->q.2.p (a.tmps.getD q.1 undef) w)->zAW F m P ops Q' k a w):(Code.region id ops true).wpIn F m P Q a w:=by
 simp only[xV]at I
 have J:(zK L).map (·.1)=L.map (·.1):=by simp[zK]
 have h0:=I.1.1
 unfold zCf at h0
 simp only[xV]at h0
 obtain⟨⟨⟨⟨⟨⟨⟨⟨⟨⟨⟨⟨⟨⟨⟨h5,_⟩,_⟩,_⟩,_⟩,h4⟩,_⟩,_⟩,_⟩,_⟩,_⟩,_⟩,_⟩,_⟩,_⟩,_⟩:=h0
 exact zFw K0 k L h (fun G' hA hO hF=>zCZ U k (zK L) hmix (by rw[J];exact I.1.1) hA hO hF) h5 h4 I.1.2 I.2 O (fun a w h hr=>h1 (qK Q) (fun a w h=>h) a w h hr)
end
theorem StS.toSt(h:StS S w0 K B n ds a w)(hS:∀k, ¬S k)(J:(B.all fun x=>x.r)=true):St w0 K B n ds a w:=
 ⟨⟨h.gr.os,h.gr.tape,h.gr.output,h.gr.size,fun k O _=>h.gr.block k O (hS k)⟩,h.size,h.nd,h.sl,yP.ro B (fun x U=>by simpa using xR.1 J x U) h.bx,h.mks,.inr fun _ I=>I⟩
section
variable {S:Nat->Prop}{w0:WB}{K:List (Nat×KF)}{B:List Bx}{n:Nat}{ds:List Deferred}{a:Act}{w:WB}
theorem zGL{c:Nat}{C:CU}:∀(B:List Bx),(∀x,x∈B->x.t=c->∀cs W,x.c.p cs W->C.p cs W)->yP S w0 a w B->yP S w0 a w (zE2 B c C)
 | [],_,_=>trivial
 | x::B,hw,h=>by
  obtain⟨⟨cs,O,h2,h3,h4,h5,h6⟩,U⟩:=h
  unfold zE2
  cases e:Nat.beq x.t c with
  |true=>exact⟨⟨cs,O,h2,h3,hw x (cM ..) (cJ e) cs w h4,h5,h6⟩,U⟩
  |false=>
   refine⟨⟨cs,O,h2,h3,h4,h5,fun y I=>?_⟩,zGL B (fun y I=>hw y (cK _ I)) U⟩
   have:(y.b,y.r)∈(zE2 B c C).map (fun x=>(x.b,x.r)):=xG.2 ⟨y,I,rfl⟩
   rw[zMQ]at this
   obtain⟨z,hz,J⟩:=xG.1 this
   simp only[tM]at J
   have:=h6 z hz
   rw[J.1,J.2]at this
   exact this
theorem StS.weakB(h:StS S w0 K B n ds a w)(c:Nat)(C:CU){z:Bx}(hB:zF0 B c=some z)(hu:(B.map (·.t)).Nodup)(hi:∀cs W,z.c.p cs W->C.p cs W):StS S w0 K (zE2 B c C) n ds a w:=
 ⟨h.gr,h.size,h.nd,h.sl,zGL B (fun x hx e=>by
  obtain⟨hz,h0⟩:=zAq hB
  have:x=z:=by
   have J:∀(B:List Bx),(B.map (·.t)).Nodup->x∈B->z∈B->x.t=z.t->x=z:=by
    intro B
    induction B with
    |nil=>intro _ U;cases U
    | cons y B ih=>
     intro O U h2 e
     rw[xX,bX]at O
     rcases xS.1 U with h3|h3
     .rcases xS.1 h2 with I|I
      .rw[h3,I]
      .exact absurd (xG.2 ⟨z,I,by rw[<-e,h3]⟩) O.1
     .rcases xS.1 h2 with I|I
      .exact absurd (xG.2 ⟨x,h3,by rw[e,I]⟩) O.1
      .exact ih O.2 h3 I e
   exact J B hu hx hz (e.trans h0.symm)
  rw[this]
  exact hi) h.bx,h.mks,h.so⟩
end
theorem zRX{T:Array WE->WB->SF->Prop}{f:FuncId}{I:Array WE}(J:Enters P f)(h:∀W',bW W W'->∀args R,T args W' R->Calls P f (args++I) W' (Ret W' R)):(SF.fn P T).p (.func (.func f) #[] I) W:=⟨f,I,rfl,J,h⟩
set_option maxRecDepth 100000
def zYk(a b:Nat)(w:WB)(x y:WE)(w':WB):Prop:=∃p q:Nat,x=.int .u64 p/\y=.int .u64 q/\Nat.gcd p q=Nat.gcd a b/\p<18446744073709551616/\q<18446744073709551616/\bW w w'
theorem zNe{v:WE}(a b:Nat)(hu:u=.int .u64 (a:Int))(hv:v=.int .u64 (b:Int))(ha:a<18446744073709551616)(hb:b<18446744073709551616):Calls prog 83 #[u,v] W (Ret W (UF.eq (.int .u64 ((Nat.gcd a b:Nat):Int))).tS):=by
 subst hu
 subst hv
 have hmix:prog.follows .mixedOrders=true:=by kernel_rfl
 go_enter func83,ntmps83
 go_wp2
 go_loopw [0,1] (zYk a b W) (fun _ y _=>(intOf y).toNat)
 case atStart=>exact⟨a,b,rfl,rfl,rfl,ha,hb,xF _ _⟩
 case round=>
  obtain⟨p,q,rfl,rfl,hg,hp,hq,hB⟩:=hrel
  have HG:=hid hg
  clear hg
  by_cases h0:0<q
  .have hq0:(q:Int)≠0:=by omega
   have hmod:(p:Int).tmod (q:Int)=((p%q:Nat):Int):=by rw[pD oA,pL]
   have hlt:p%q<q:=vW _ h0
   obtain⟨r,hr⟩:∃r,p%q=r:=⟨_,rfl⟩
   rw[hr]at hmod hlt
   have HR:=hid hr
   clear hr
   go_wp2
   refine(bL (n:=0)).1<|yC 100 (fun _=>True) hmix<|zP (i:=0) (v:=?vv1) kA kA rfl kA kA kA (fun _ _ _ h=>h) trivial ⟨.inl ⟨rfl,?yy1⟩,fun _=>rfl⟩ ?_
   case yy1=>
    rintro wx _
    go_simp
    first|done|rfl
   refine zP (i:=1) (v:=?vv2) kA kA rfl kA kA kA (fun _ _ _ h=>h) trivial ⟨.inl ⟨rfl,?yy2⟩,fun _=>rfl⟩ ?_
   case yy2=>
    rintro wx _
    go_simp
    first|done|rfl
   refine zP (i:=2) (v:=?vv3) kA kA rfl kA kA kA (fun _ _ _ h=>h) trivial ⟨.inl ⟨rfl,?yy3⟩,fun _=>rfl⟩ ?_
   case yy3=>
    rintro wx _
    go_simp
    first|done|rfl
   refine zP (i:=3) (v:=.int .u64 (r:Nat)) kA kA rfl kA kA kA (fun _ _ _ h=>h) trivial ⟨.inl ⟨rfl,?y3⟩,fun _=>rfl⟩ ?_
   case y3=>
    rintro wx _
    go_simp
    omega
   refine zAN (i:=4) kA rfl (fun K hK=>?_)
   go_simp
   refine hK _ _ (.inr trivial) ?_
   clear hK K
   refine zAN (i:=5) kA rfl (fun K hK=>?_)
   go_simp
   refine hK _ _ (.inr trivial) ?_
   clear hK K
   refine zCR kA ?_
   go_wp2
   go_roundw
   case rel=>exact⟨q,r,rfl,by go_num,by rw[<-HG.out,<-HR.out,uP p q,Nat.gcd_rec q p,uP],hq,by omega,hB.drew⟩
   case measure=>simp[intOf];omega
  .obtain rfl:q=0:=by omega
   go_wp2
   go_ret
   have:=HG.out
   rw[Nat.gcd_zero_right]at this
   subst this
   exact⟨_,rfl,rfl,hB⟩
section
variable {F:Fence}{n:Nat}{P:WH}{ops:Array Oper}{Q:Exit->Act->WB->Prop}
def zGc(P:WH)(w0:WB)(ops:Array Oper)(G:Nat->SF)(o:Oper):Prop:=
 ∀(b:Act) (W:WB),bW w0 W->(∀t,t∈looks ops o->(G t).p (b.tmps.getD t undef) W)->∃v,zAn P ops (fun W'=>bW w0 W') o v b
theorem zLD{v:WE}{K:Act->WB->Prop}(O:ops[i]?=some o)(J:jW ops=true)(U:zAn P ops CW o v a)(hw:CW w)(h:wpOpIn F n P ops Q i K a w):K (a.put o.dst v) w:=by
 unfold wpOpIn at h
 simp only[O]at h
 rcases U.1 with⟨I,hv⟩|⟨I,rfl⟩
 .simp only[I,cG,Oper.wpIn,bI _ _ _ (zCD J O),hv w hw,Oper.uponIn]at h
  exact h.2
 .simp only[I,xK,xI]at h
  exact h.2
variable {listed0:Array Bool}{A:Nat->Bool}{E:Nat->WE->WB->Prop}{C:WB->Prop}{a0:Act}
end
section
variable {S:Nat->Prop}{w0:WB}{K:List (Nat×KF)}{B:List Bx}{n:Nat}{ds:List Deferred}{a:Act}{w:WB}{F:Fence}{m:Nat}{P:WH}{ops:Array Oper}{Q:Exit->Act->WB->Prop}
end
section
variable {w0:WB}{P:WH}{ops:Array Oper}{G:Nat->SF}{d:Tmp}{ty:WF}{pos:String}{aft:Array Edge}
theorem zF1(U:∀c,op≠ .call c)(h:∀(b:Act) (W:WB),bW w0 W->(∀x,x∈op.operands.toList->(fct G x).p (b.eval x) W)->∃v,∀W',bW w0 W'->(execOp b.eval ⟨some d,op,ty,pos,aft,none⟩).run P W'=.ok (.value v) W'):zGc P w0 ops G ⟨some d,op,ty,pos,aft,none⟩:=by
 intro b W hb J
 obtain⟨v,hv⟩:=h b W hb fun x O=>qA (fun t ht=>J t (by unfold looks;simpa using ht)) O
 refine⟨v,.inl ⟨rfl,hv⟩,fun w=>?_⟩
 unfold Oper.about
 split
 .rename_i c I;exact absurd I (U c)
 .rfl
theorem zF2:zGc P w0 ops G ⟨some d,.move x,ty,pos,aft,none⟩:=zF1 (fun _ e=>by cases e) fun b _ _ _=>⟨b.eval x,fun _ _=>rfl⟩
theorem zRY{op:BinOp}(u v r:WE)(O:∀q W,(fct G x).p q W->q=u)(hy:∀q W,(fct G y).p q W->q=v)(J:∀W,(binOp op t u v).run P W=.ok r W)(U:∀W,(eqGuard op t x y u v).run P W=.ok () W):zGc P w0 ops G ⟨some d,.binOp op t x y t',ty,pos,aft,none⟩:=
 zF1 (fun _ e=>by cases e) fun b W _ I=>by
  have e1:=O _ _ (I x (by simp[Op.operands]))
  have e2:=hy _ _ (I y (by simp[Op.operands]))
  exact⟨r,fun W' _=>by simp[execOp,e1,e2,J W',U W']⟩
def fOp(w0:WB)(C:CU):UF:=.mk' (fun v _=>∃b o cs,v= pO b o/\C.p cs w0/\Mem w0 b o cs) fun _ _ _ h _=>h
theorem zT2(k:IntKind)(u v:Int)(J:∀q W,(fct G x).p q W->q=.int k u)(I:∀q W,(fct G y).p q W->q=.int k v):zGc P w0 ops G ⟨some d,.binOp .add t x y t',ty,pos,aft,none⟩:=
 zRY (.int k u) (.int k v) (.int k (k.wrap (u+v))) J I (fun W=>by simp[binOp,Op.intArith]) (fun W=>by simp[eqGuard])
theorem zT1(k:IntKind)(u v:Int)(O:∀q W,(fct G x).p q W->q=.int k u)(J:∀q W,(fct G y).p q W->q=.int k v)(I:v≠0):zGc P w0 ops G ⟨some d,.binOp .rem t x y t',ty,pos,aft,none⟩:=
 zRY (.int k u) (.int k v) (.int k (u.tmod v)) O J (fun W=>by simp[binOp,Op.intDiv,I]) (fun W=>by simp[eqGuard])
theorem zVL(ht:P.underlying t=some (.slice (P.elem t)))(hx:∀v W,bW w0 W->(fct G x).p v W->(SF.row z Cs).p v W):zGc P w0 ops G ⟨some d,.call ⟨.builtin .len,#[x],#[t]⟩,ty,pos,aft,none⟩:=by
 intro b W hb hr
 obtain⟨A,c,e,_⟩:=hx _ _ hb (qA (o:=⟨some d,.call ⟨.builtin .len,#[x],#[t]⟩,ty,pos,aft,none⟩) (fun t' ht'=>hr t' (by unfold looks;simpa using ht')) (x:=x) (by simp[Op.operands,Call.operands]))
 refine⟨.int .i64 (Cs.length:Nat),.inl ⟨rfl,fun W' _=>by simp[execOp,resolve,invoke,builtin,e,pX _ _ _ _ _ _ ht,goInt]⟩,fun w=>?_⟩
 unfold Oper.about
 simp[resolve,go_sem]
theorem zGr{c o:Nat}(hz:qS P t=some z)(hi:i<n):(Instr.indexAt t (.slice (some ⟨b,o,none⟩) n c) (.int .i64 (i:Int))).run P W=.ok (.pointer (some ⟨b,o+i*z,none⟩)) W:=by
 unfold qS at hz
 split at hz<;>try cases hz
 rename_i e' U
 obtain⟨ie,J,hz⟩:=lZ.1 hz
 have I:P.elem t=e':=by simp[Program.elem,U]
 have O:(0:Int)<=(i:Int)/\(i:Int)<(n:Nat):=by omega
 rw[tP _ _ _ _ _ _ _ (by rw[I];exact U),if_pos O,I]
 simp[sizeOf,typeInfo,J,hz,xH]
section
variable {l:WE}{x y:WL}{t:WF}{z:Nat}{Cs:List CU}{i:Nat}{C:CU}
theorem zOt(hz:qS P t=some z)(hi:Cs[i]?=some C)(O:(SF.row z Cs).p l w0)(J:∀v W,(fct G x).p v W->v=l)(hy:∀v W,(fct G y).p v W->v=.int .i64 (i:Int)):zGc P w0 ops G ⟨some d,.indexAddr t x y,ty,pos,aft,none⟩:=
 zF1 (fun _ e=>by cases e) fun b W hb I=>by
  have U:=J _ _ (I x (by simp[Op.operands]))
  have e2:=hy _ _ (I y (by simp[Op.operands]))
  obtain⟨A,c,rfl,h2,h3,h4,h5⟩:=O
  obtain⟨b',o,cs,rfl,h6,h7⟩:=h5 i C hi
  exact⟨.pointer (some ⟨b',o+i*z,none⟩),fun W' _=>by simp[execOp,U,e2,zGr hz (bE.1 hi).1]⟩
theorem zWM(f:UF)(k:Nat)(O:zAf P t=some k)(U:∀v W,(fct G x).p v W->(fOp w0 C).p v W)(h:∀cs W,C.p cs W->0+k<=cs.length/\f.p (.agg ((cs.drop 0).take k).toArray) W)(hd:∀v W,f.p v W->(G d).p v W:=by exact fun _ _ h=>h):qO F m P w0 ops G ⟨some d,.load t x,ty,pos,aft,none⟩:=
 qG (fun _ e=>by cases e) (fun _ e=>by cases e) fun b W hb J=>by
  obtain⟨a,q,cs,e,h2,h3⟩:=U _ _ (J x (by simp[Op.operands]))
  obtain⟨h4,I⟩:=h cs W (C.us _ _ _ h2 (zO hb))
  rw[nN]at I
  exact⟨_,by simp[execOp,Instr.loadAt,e,Instr.sureAddr,zAu O (h3.below hb) oA],hd _ _ I⟩
theorem zQR(f:UF)(k:Nat)(J:zAf P t=some k)(I:∀v W,(fct G x).p v W->(fOp w0 C).p v W)(h:∀cs W,C.p cs W->0+k<=cs.length/\f.p (.agg ((cs.drop 0).take k).toArray) W):zGc P w0 ops G ⟨some d,.load t x,ty,pos,aft,none⟩:=
 zF1 (fun _ e=>by cases e) fun b W hb O=>by
  obtain⟨a,q,cs,e,h2,h3⟩:=I _ _ (O x (by simp[Op.operands]))
  obtain⟨h4,h5⟩:=h cs W (C.us _ _ _ h2 (zO hb))
  exact⟨.agg (cs.take k).toArray,fun W' hb'=>by simp[execOp,Instr.loadAt,e,Instr.sureAddr,zAu J (h3.below hb') oA]⟩
end
end
section
variable {S:Nat->Prop}{w0:WB}{K:List (Nat×KF)}{B:List Bx}{n:Nat}{ds:List Deferred}{a:Act}{w:WB}{F:Fence}{m:Nat}{P:WH}{ops:Array Oper}{Q:Exit->Act->WB->Prop}
theorem zPl{k:Nat}(I:ops[k]?=some o)(J:Region.wanted o (yielded ops a.tmps)=true)(h:o.wpIn F m P a w (zAW F m P ops Q (k+1)) Q):zAW F m P ops Q k a w:=by
 have hlt:=(xP.1 I).1
 unfold zAW
 rw[show ops.size-k=(ops.size-(k+1))+1 from by omega,eE,eF]
 unfold wpOpIn
 rw[I]
 show(if Region.wanted o (yielded ops a.tmps)=true then _ else _)
 rw[if_pos J]
 exact h
theorem zMB{k:Nat}(J:ops[k]?=some o)(O:Region.wanted o (yielded ops a.tmps)=false)(I:∀f,o.about P w a.eval=some f->F.fn f)(h:zAW F m P ops Q (k+1) (a.put o.dst undef) w):zAW F m P ops Q k a w:=by
 have hlt:=(xP.1 J).1
 unfold zAW
 rw[show ops.size-k=(ops.size-(k+1))+1 from by omega,eE,eF]
 unfold wpOpIn
 rw[J]
 show(if Region.wanted o (yielded ops a.tmps)=true then _ else _)
 rw[O,if_neg (by decide)]
 exact⟨I,h⟩
def zNE(u:WE)(want:Bool):Bool:=match u with| .bool b=>b !=want|_=>true
theorem zMl{_k g:Nat}(u:WE)(O:zT ops j=some g)(J:a.tmps.getD g undef=u)(I:zNE u want=true):Region.wanted ⟨some d,op,ty,pos,aft,some (j,want)⟩ (yielded ops a.tmps)=false:=by
 unfold Region.wanted
 show(yielded ops a.tmps j==some want)=false
 unfold yielded
 rw[zCN,O]
 show((match(a.tmps[g]?:WG WE)with|some (.bool b)=>some b|_=>none)==some want)=false
 cases e:a.tmps[g]? with
 |none=>rfl
 |some x=>
  have U:x=u:=by rw[xU,e]at J;exact J
  subst U
  cases x<;>first|rfl|(simp[zNE]at I;simp[I])
theorem zMm{_k g:Nat}(J:zT ops j=some g)(I:a.tmps.getD g undef=.bool want):Region.wanted ⟨some d,op,ty,pos,aft,some (j,want)⟩ (yielded ops a.tmps)=true:=by
 unfold Region.wanted
 show(yielded ops a.tmps j==some want)=true
 unfold yielded
 rw[zCN,J]
 show((match(a.tmps[g]?:WG WE)with|some (.bool b)=>some b|_=>none)==some want)=true
 cases e:a.tmps[g]? with
 |none=>rw[xU,e]at I;cases I
 |some x=>
  have O:x=.bool want:=by rw[xU,e]at I;exact I
  subst O
  simp
theorem zB8{k g:Nat}(u:WE)(ho:ops[k]?=some ⟨some d,op,ty,pos,aft,some (j,want)⟩)(hj:zT ops j=some g)(h:StS S w0 K B n ds a w)(U:∀v W,(jM K B g).p v W->v=u)(I:zNE u want=true)(O:j9 K B n d=true)
  (fin:∀a w,StS S w0 ((d,.u (UF.eq undef))::K) B n ds a w->zAW F m P ops Q (k+1) a w)(J:∀f,F.fn f:=by exact fun _=>trivial):zAW F m P ops Q k a w:=
 zMB ho (zMl (_k:=k) u hj (U _ _ (h.at.sl g)) I) (fun f _=>J f) (fin _ _ (h.set O (xF _ _) rfl))
theorem zB5{k g:Nat}(f:UF)(ho:ops[k]?=some ⟨some d,op,ty,pos,aft,some (j,want)⟩)(hj:zT ops j=some g)(h:StS S w0 K B n ds a w)(hu:∀v W,(jM K B g).p v W->v=.bool want)(U:j9 K B n d=true)(O:qO F m P w ops (upd (jM K B) [(d,f.tS)]) ⟨some d,op,ty,pos,aft,none⟩)
  (I:(zDH ⟨some d,op,ty,pos,aft,none⟩).contains d=false)(fin:∀a w,StS S w0 ((d,.u f)::K) B n ds a w->zAW F m P ops Q (k+1) a w):zAW F m P ops Q k a w:=by
 refine zPl ho (zMm (_k:=k) hj (hu _ _ (h.at.sl g))) (O a w _ Q (xF _ _) (fun t ht=>?_) fun v W' hv hb=>fin _ _ (h.set U hb ?_))
 .have J:Nat.beq d t=false:=by
   cases e:Nat.beq d t with
   |false=>rfl
   |true=>
    have:=cJ e
    subst this
    rw[bU.2 ht]at I
    cases I
  show(bif Nat.beq d t then f.tS else jM K B t).p _ _
  rw[J]
  exact h.at.sl t
 .have:=hv d rfl
  have e:(upd (jM K B) [(d,f.tS)]) d=f.tS:=by
   show(bif Nat.beq d d then f.tS else _)=_
   rw[show Nat.beq d d=true from mE d]
   rfl
  rw[e]at this
  exact this
end
def inL:List Nat->Nat->Bool
 | [],_=>false
 |k::l,i=>bif Nat.beq k i then true else inL l i
theorem zHR(l m:List Nat)(i:Nat):inL (l++m) i=(inL l i||inL m i):=by
 induction l with
 |nil=>rfl
 |cons k l ih=>
  show(bif Nat.beq k i then true else inL (l++m) i)=((bif Nat.beq k i then true else inL l i)||inL m i)
  cases Nat.beq k i with
  |true=>rfl
  |false=>exact ih
theorem zTW{l:List Nat}(h:inL l i=true):i∈l:=by
 induction l with
 |nil=>cases h
 |cons k l ih=>
  have h:(bif Nat.beq k i then true else inL l i)=true:=h
  cases e:Nat.beq k i with
  |true=>rw[cJ e];exact cM ..
  |false=>rw[e]at h;exact cK _ (ih h)
def lst(n:Nat)(D:List Nat):Array Bool:=((List.range n).map (inL D)).toArray
theorem zFe(n:Nat)(D:List Nat):(lst n D).size=n:=by simp[lst]
theorem zBI{d:Bool}(h:i<n):(lst n D).getD i d=inL D i:=by simp[lst,h]
theorem zTP{d:Bool}(h:n<=i):(lst n D).getD i d=d:=by
 rw[xU,cB (by rw[zFe];exact h)]
 rfl
theorem zES(h:(lst n D).getD i true=false):i<n/\inL D i=false:=by
 rcases bF i n with g|g
 .rw[zBI g]at h;exact⟨g,h⟩
 .rw[zTP g]at h;cases h
theorem zIW{l:Array Bool}(I:l.size=n)(h:∀i,i<n->l.getD i false=inL D i):l=lst n D:=by
 refine cW (by rw[I,zFe]) fun i J h2=>?_
 have:=h i oA
 rw[xU,cC J]at this
 have e:l[i]=inL D i:=this
 rw[e]
 simp[lst]
theorem zN2(hi:i<n):(lst n D).setIfInBounds i true=lst n (i::D):=by
 refine zIW (by simp[lst]) fun j I=>?_
 show _=(bif Nat.beq i j then true else inL D j)
 by_cases e:i=j
 .subst e
  rw[xU,eK (by rw[zFe];exact hi),mE]
  rfl
 .rw[bH false e,zBI I]
  cases h:Nat.beq i j with
  |true=>exact absurd (cJ h) e
  |false=>rfl
def zUO(ops:Array Oper)(D fl D':List Nat):Bool:=(List.range ops.size).all fun j=>inL D' j||(List.range ops.size).all fun i=> !inL D' i||inL fl i||inL D i||zDb ops ops.size i j
section
variable {F:Fence}{n:Nat}{P:WH}{ops:Array Oper}{Q:Exit->Act->WB->Prop}
variable {A:Nat->Bool}{E:Nat->WE->WB->Prop}{C:WB->Prop}{a0:Act}
theorem zXo{D':List Nat}(fl:List Nat)(q3:jW ops=true)(qc:Region.noSelect ops=true)(qa:ops.size<=z)(CW:WB->Prop)(hP:∀w,C w->CW w)(hfree:∀i,inL D i=false->inL D' i=true->inL fl i=true->Region.free .any ops (zBM ops i) i=true)
  (hfk:∀i,inL D' i=true->inL fl i=true->(lst ops.size D).getD i true=false->∀o,ops[i]?=some o->∀a w,FlowB ops (lst ops.size D) A E C a0 (fun j=>(lst ops.size D).getD j true=false/\∃e∈o.after,Region.binds .any e=true/\e.on=j) a w->∃v,zAn P ops CW o v a)
  (hI:zBx ops=true)(qi:zUO ops D fl D'=true)(q1:jG ops=true)(hX:zAy ops a0.tmps.size=true)(hW:zGN ops (lst ops.size D'))(hC:∀w w',C w->bW w w'->C w')(hE:∀i v w w',E i v w->bW w w'->E i v w')
  (hn:∀i,inL D' i=true->(lst ops.size D).getD i true=false->∀o,ops[i]?=some o->∀a w,FlowB ops (lst ops.size D) A E C a0 (fun j=>(lst ops.size D).getD j true=false/\∃e∈o.after,Region.binds .any e=true/\e.on=j) a w->∀K:Act->WB->Prop,(∀v w',E i v w'->bW w w'->(A i=true->∀b,blk v=some b->w.heap.size<=b/\b<w'.heap.size)->K (a.put o.dst v) w')->wpOpIn F n P ops (qK Q) i K a w)
  (hF:∀a w,FlowB ops (lst ops.size D) A E C a0 (fun i=>inL D' i=true/\(lst ops.size D).getD i true=false) a w->jJ F n P .any ops z CW (qK Q) ((lst ops.size D').count false) (lst ops.size D') a w):
  ∀(fuel:Nat) (listed:Array Bool) (a:Act) (w:WB),listed.count false=fuel->listed.size=ops.size->(∀i,i<ops.size->inL D' i=false->listed.getD i false=false)->zGN ops listed->(∀i,i<ops.size->inL D i=true->listed.getD i false=true)->
   FlowB ops (lst ops.size D) A E C a0 (fun i=>(lst ops.size D).getD i true=false/\listed.getD i false=true) a w->jJ F n P .any ops z CW (qK Q) fuel listed a w:=by
 intro fuel
 induction fuel with
 | zero=>
  intro listed a w hc hs h0 hq h5 hf
  have qg:∀i,listed.getD i true=true:=fun i=>by
   cases hg:listed.getD i true with
   |true=>rfl
   |false=>have:=jS hg;omega
  have I:∀i,i<ops.size->listed.getD i false=true:=fun i hi=>by
   have h1:=qg i
   have O:i<listed.size:=by omega
   simp[O]at h1 ⊢
   exact h1
  have hl:listed=lst ops.size D':=zIW hs fun i hi=>by
   rw[I i hi]
   cases h:inL D' i with
   |true=>rfl
   |false=>have:=h0 i hi h;rw[I i hi]at this;cases this
  have:=hF a w (hf.mono fun i hi=>⟨hi.2,I i (zES hi.2).1⟩)
  rw[<-hl,hc]at this
  exact this
 | succ fuel ih=>
  intro listed a w hc hs h0 hq h5 hf
  by_cases I:∀i,i<ops.size->inL D' i=true->listed.getD i false=true
  .have hl:listed=lst ops.size D':=zIW hs fun i hi=>by
    cases h:inL D' i with
    |true=>exact I i hi h
    |false=>exact h0 i hi h
   have:=hF a w (hf.mono fun i hi=>⟨hi.2,I i (zES hi.2).1 hi.1⟩)
   rw[<-hl,hc]at this
   exact this
  .simp only[eL]at I
   obtain⟨u0,q2,hU,qf⟩:=I
   obtain⟨u,⟨hk,hh,hu⟩,hY⟩:=zEd (p:=fun u=>u<ops.size/\inL D' u=true/\ ¬listed.getD u false=true) u0 ⟨q2,hU,qf⟩
   have O:u<listed.size:=by omega
   have hK:listed.getD u true=false:=by
    simp[O]at hu ⊢
    exact hu
   have hd:(lst ops.size D).getD u true=false:=by
    rw[zBI hk]
    cases hg:inL D u with
    |false=>rfl
    |true=>exact absurd (h5 u hk hg) hu
   have hQ:∀i,listed.getD i true=false->Region.ready .any ops listed≠ []:=by
    intro i
    induction i using Nat.strongRecOn with
    | _ i ihi=>
     intro hi ha
     have O:i<listed.size:=by
      rcases bF i listed.size with e|e
      .exact e
      .simp[cB e]at hi
     have ho:ops[i]?=some (ops[i]'(by rw[<-hs];exact O)):=cC _
     by_cases I:∀e∈(ops[i]'(by rw[<-hs];exact O)).after,Region.binds .any e=true->listed.getD e.on false=true
     .have hm:i∈Region.ready .any ops listed:=cH.2 ⟨hi,_,ho,I⟩
      rw[ha]at hm
      cases hm
     .simp only[eL]at I
      obtain⟨e,he,hb,hg⟩:=I
      have hO:=zBg hI ho he hb
      refine ihi e.on hO ?_ ha
      have hS:e.on<listed.size:=by omega
      simp[hS]at hg ⊢
      exact hg
   by_cases hfu:inL fl u=true
   .have h4:ops[u]?=some ops[u]:=cC hk
    have U:∀e∈ops[u].after,Region.binds .any e=true->listed.getD e.on false=true:=fun e he hb=>by
     have hO:=zBg hI h4 he hb
     have hN:inL D' e.on=true:=by
      have:=hW u _ (by rw[zBI hk];exact hh) h4 e he hb
      rwa [zBI oA]at this
     exact rD fun hc=>hY e.on hO ⟨by omega,hN,hc⟩
    have qj:(Region.ready .any ops listed).contains u=true:=bU.2 (cH.2 ⟨hK,_,h4,U⟩)
    have hT:=hfree u (zES hd).2 hh hfu
    obtain⟨v0,hy⟩:=hfk u hh hfu hd _ h4 a w (hf.mono fun j J=>(by
     obtain⟨hx,e,he,hb,rfl⟩:=J
     exact⟨hx,U e he hb⟩))
    have hw:=hn u hh hd _ h4 a w (hf.mono fun j J=>(by
     obtain⟨hx,e,he,hb,rfl⟩:=J
     exact⟨hx,U e he hb⟩)) (fun a' w'=>∃v,a'=a.put ops[u].dst v/\E u v w'/\bW w w'/\(A u=true->∀b,blk v=some b->w.heap.size<=b/\b<w'.heap.size)) (fun v w' hv hb hA=>⟨v,rfl,hv,hb,hA⟩)
    obtain⟨v,hN,hv,hb,hA⟩:=zLD h4 q3 hy (hP _ hf.at_.cls) hw
    refine zP (i:=u) (v:=v0) q3 (by unfold zBA;rw[cB qa]) h4 qc (zLj (fun j J hc=>(by
     have h9:=zAH hq _ j u _ h4 U hc
     have g:j<listed.size:=by omega
     simp[g]at h9 ⊢
     exact h9)) hT) qj (fun _ _ _ h=>h) (hP _ hf.at_.cls) hy ?_
    rw[hN]
    refine ih (listed.setIfInBounds u true) (a.put ops[u].dst v) w ?_ (by simpa using hs) (fun j J h8=>?_) (fun j oj J h7 e he hp=>?_) (fun j J hL=>?_) ((hf.put q1 hX hC hE h4 hd hv hb hA).mono fun j J=>?_)
    .have:=jS hK
     omega
    .rw[bH false (fun e=>by subst e;rw[hh]at h8;cases h8)]
     exact h0 j J h8
    .by_cases e2:j=u
     .subst e2
      rw[h4]at h7
      cases h7
      by_cases e3:e.on=j
      .rw[e3];exact J
      .rw[bH false (bB e3)]
       exact U e he hp
     .rw[bH false (bB e2)]at J
      have:=hq j oj J h7 e he hp
      by_cases e3:e.on=u
      .rw[e3]
       simp[O]
      .rw[bH false (bB e3)]
       exact this
    .by_cases e3:j=u
     .rw[e3];simp[O]
     .rw[bH false (bB e3)]
      exact h5 j J hL
    .by_cases e:j=u
     .exact .inr e
     .left
      rw[bH false (bB e)]at J
      exact J
   .refine⟨fun ha=>(hQ u hK ha).elim,fun i hi=>?_⟩
    obtain⟨hB,o,ho,I⟩:=cH.1 hi
    have hR:=(xP.1 ho).1
    have q7:(lst ops.size D).getD i true=false:=by
     rw[zBI hR]
     cases hg:inL D i with
     |false=>rfl
     |true=>
      have:=h5 i hR hg
      have hD:i<listed.size:=by omega
      simp[hD]at hB
      simp[hD]at this
      rw[this]at hB
      cases hB
    have q4:inL D' i=true:=by
     cases hg:inL D' i with
     |true=>rfl
     |false=>
      exfalso
      have h1:=xR.1 qi i (xT.2 hR)
      rw[hg,cR]at h1
      have h2:=xR.1 h1 u (xT.2 hk)
      simp only[cY,cX]at h2
      rcases h2 with((h2|h2)|h2)|h2
      .rw[hh]at h2;cases h2
      .exact hfu h2
      .exact hu (h5 u hk h2)
      .exact hu (zAH hq _ u i o ho I h2)
    refine hn i q4 q7 o ho a w (hf.mono fun j J=>?_) _ fun v w' hv hb hA=>⟨.inr (hP _ (hC _ _ hf.at_.cls hb)),?_⟩
    .obtain⟨hx,e,he,hb,rfl⟩:=J
     exact⟨hx,I e he hb⟩
    .refine ih (listed.setIfInBounds i true) (a.put o.dst v) w' ?_ (by simpa using hs) (fun j J h8=>?_) (fun j oj J h7 e he hp=>?_) (fun j J hL=>?_) ((hf.put q1 hX hC hE ho q7 hv hb hA).mono fun j J=>?_)
     .have:=jS hB
      omega
     .rw[bH false (fun e=>by subst e;rw[q4]at h8;cases h8)]
      exact h0 j J h8
     .by_cases e2:j=i
      .subst e2
       rw[ho]at h7
       cases h7
       by_cases e3:e.on=j
       .rw[e3];exact J
       .rw[bH false (bB e3)]
        exact I e he hp
      .rw[bH false (bB e2)]at J
       have:=hq j oj J h7 e he hp
       by_cases e3:e.on=i
       .rw[e3]
        have O:i<listed.size:=by omega
        simp[O]
       .rw[bH false (bB e3)]
        exact this
     .by_cases e3:j=i
      .have O:i<listed.size:=by omega
       rw[e3];simp[O]
      .rw[bH false (bB e3)]
       exact h5 j J hL
     .by_cases e:j=i
      .exact .inr e
      .left
       rw[bH false (bB e)]at J
       exact J
end
def zJ9(F:Fence)(m:Nat)(P:WH)(ops:Array Oper)(CW:WB->Prop)(Q:Exit->Act->WB->Prop)(D:List Nat)(a:Act)(w:WB):Prop:=
 jJ F m P .any ops ops.size CW (qK Q) ((lst ops.size D).count false) (lst ops.size D) a w
def Gr(CW:WB->Prop)(w:WB):Prop:=∀w',bW w w'->CW w'
abbrev GW(wb:WB):WB->Prop:=fun W=>bW wb W
theorem zJU(h:bW wb w):Gr (GW wb) w:=fun _ hb=>h.trans (hb.mono h.size)
def FdC(P:WH)(CW:WB->Prop)(w:WB)(ops:Array Oper)(G:Nat->SF)(o:Oper):Prop:=
 ∀(b:Act) (W:WB),bW w W->(∀t,t∈looks ops o->(G t).p (b.tmps.getD t undef) W)->∃v,zAn P ops CW o v b
theorem zGc.c(h:zGc P wb ops G o)(hb:bW wb w):FdC P (GW wb) w ops G o:=fun b W I J=>h b W (hb.trans (I.mono hb.size)) J
def zQC(ops:Array Oper)(D':List Nat)(G:Nat->SF)(t:Nat):SF:=bif (List.range ops.size).any (fun i=> !inL D' i&&(zT ops i==some t))then SF.any else G t
def zWQ(ops:Array Oper)(fl D is:List Nat)(n:Nat)(keys ts:List Nat):Bool:=
 jG ops&&zAy ops n&&jW ops&&Region.noSelect ops&&zBx ops&&jY keys&&
 zDc ops (lst ops.size D)&&zDc ops (lst ops.size (is++D))&&
 keys.all (fun t=>is.any fun i=> !inL D i&&(zT ops i==some t))&&
 ts.all (fun t=>(List.range ops.size).all fun i=>inL D i|| !(zT ops i==some t))&&
 is.all (fun i=>decide (i<ops.size)&& !inL D i&&(!inL fl i||Region.free .any ops (zBM ops i) i)&&match ops[i]? with
  |none=>true
  |some o=>(looks ops o).all fun t=>(List.range ops.size).all fun j=>inL D j|| !(zT ops j==some t)||o.after.any fun e=>Region.binds .any e&&e.on==j)&&
 zUO ops D fl (is++D)
def zPA(ops:Array Oper)(is:List Nat):List Oper:=is.filterMap fun i=>ops[i]?
theorem zG7{F:Fence}{m:Nat}{P:WH}{w0:WB}{ops I:Array Oper}{G:Nat->SF}:∀{is:List Nat},Obs F m P w0 I G (zPA ops is)->∀i,i∈is->∀o,ops[i]?=some o->qO F m P w0 I G o
 | [],_,i,hi,_,_=>by cases hi
 | k::is,h,i,hi,o,ho=>by
  unfold zPA at h
  rw[List.filterMap_cons]at h
  cases hk:ops[k]? with
  |none=>
   rw[hk]at h
   rcases xS.1 hi with rfl|hi
   .rw[ho]at hk;cases hk
   .exact zG7 h i hi o ho
  |some ok=>
   rw[hk]at h
   rcases xS.1 hi with rfl|hi
   .rw[ho]at hk;cases hk;exact h.1
   .exact zG7 h.2 i hi o ho
theorem zS7(fl is ts:List Nat)(L:List (Nat×SF))
  (hJ:Gr CW w)(h7:zWQ ops fl D is n (L.map (·.1)) ts=true)(h:At w G n ds a w)(hy:Obs F m P w ops (upd G L) (zPA ops is))
  (hT:∀i o,inL fl i=true->ops[i]?=some o->FdC P CW w ops (upd G L) o)
  (hw:∀a w',At w (zQC ops (is++D) (upd G L)) n ds a w'->zJ9 F m P ops CW Q (is++D) a w'):zJ9 F m P ops CW Q D a w:=by
 unfold zWQ at h7
 simp only[xV]at h7
 obtain⟨⟨⟨⟨⟨⟨⟨⟨⟨⟨⟨hQ,hz⟩,hR⟩,hO⟩,hB⟩,hndk⟩,hN⟩,hV⟩,hq⟩,hts⟩,hL⟩,hS⟩:=h7
 have h9:∀i,inL (is++D) i=true->inL D i=false->i∈is:=fun i U h2=>by
  rw[zHR,h2,Bool.or_false]at U
  exact zTW U
 have hG:∀t,(∀j,inL D j=false->j∈is->zT ops j≠some t)->upd G L t=G t:=fun t ht=>by
  refine jP ?_
  cases hc:(L.map (·.1)).contains t with
  |false=>rfl
  |true=>
   exfalso
   obtain⟨i,hi,he⟩:=bQ.1 (xR.1 hq t (bU.1 hc))
   simp only[xV,cX,bJ]at he
   exact ht i he.1 hi he.2
 have hI:∀t,(∀j,inL D j=false->j∈is->zT ops j≠some t)->(upd G L t).p (a.tmps.getD t undef) w:=fun t ht=>by rw[hG t ht];exact h.sl t
 have h4:∀i,i∈is->i<ops.size/\(inL fl i=true->Region.free .any ops (zBM ops i) i=true)/\∀o,ops[i]?=some o->∀t,t∈looks ops o->∀j,inL D j=false->zT ops j=some t->(o.after.any fun e=>Region.binds .any e&&e.on==j)=true:=fun i hi=>by
  have U:=xR.1 hL i hi
  simp only[xV,cE]at U
  refine⟨U.1.1.1,fun hf=>(by have h2:=U.1.2;rw[hf]at h2;simpa using h2),fun o ho t ht j O hk=>?_⟩
  have h2:=U.2
  rw[ho]at h2
  have ha:j<ops.size:=by
   rcases bF j ops.size with e|e
   .exact e
   .rw[zT,cB e]at hk;cases hk
  have h3:=xR.1 (xR.1 h2 t ht) j (xT.2 ha)
  rw[O,hk]at h3
  simpa using h3
 have hs:∀t,(∀j,inL D j=false->zT ops j≠some t)->zBl ops (lst ops.size D) t=false:=fun t ht=>by
  cases hd:zBl ops (lst ops.size D) t with
  |false=>rfl
  |true=>
   exfalso
   unfold zBl at hd
   obtain⟨i,hi,hp⟩:=bQ.1 hd
   simp only[xV,bJ,cX]at hp
   have hu:=hp.1
   rw[zBI (xT.1 hi)]at hu
   exact ht i hu (by rw[<-zCN];exact hp.2)
 -- what an operation looks at holds where those it waits for have run
 have h6:∀i o,i∈is->ops[i]?=some o->∀b W,FlowB ops (lst ops.size D) (fun _=>false) (fun i v W=>∀o,ops[i]?=some o->∀d,o.dst=some d->(upd G L d).p v W) (fun W=>bW w W) a (fun j=>(lst ops.size D).getD j true=false/\∃e∈o.after,Region.binds .any e=true/\e.on=j) b W->∀t,t∈looks ops o->(upd G L t).p (b.tmps.getD t undef) W:=fun i o hi ho b W hf t ht=>by
  by_cases hex:∃j,inL D j=false/\zT ops j=some t
  .obtain⟨j,hg,O⟩:=hex
   have U:=(h4 i hi).2.2 o ho t ht j hg O
   obtain⟨x,hx,he⟩:=eX.1 U
   simp only[xV,bJ]at he
   cases J:ops[j]? with
   |none=>rw[zT,J]at O;cases O
   |some oj=>
    rw[qU J]at O
    exact hf.at_.vals j oj t ⟨by rw[zBI (xP.1 J).1];exact hg,_,eA hx,he.1,he.2⟩ J O oj J t O
  .have h8:∀j,inL D j=false->zT ops j≠some t:=fun j U h2=>hex ⟨j,U,h2⟩
   rw[hf.at_.keep t (hs t h8)]
   exact(upd G L t).st _ _ _ (hI t (fun j O _=>h8 j O)) hf.at_.cls
 refine zXo (Q:=Q) (D:=D) (D':=is++D) (z:=ops.size) (a0:=a) (A:=fun _=>false) (E:=fun i v W=>∀o,ops[i]?=some o->∀d,o.dst=some d->(upd G L d).p v W) (C:=fun W=>bW w W) fl hR hO lr CW hJ ?hfree ?hfk hB hS hQ (by rw[h.size];exact hz) (zCg hV) (fun W W' hC hb=>hC.trans (hb.mono hC.size)) (fun i v W W' hE hb o ho d hd=>(upd G L d).st _ _ _ (hE o ho d hd) hb) ?spec ?fin _ (lst ops.size D) a w rfl (zFe _ _) (fun i hi hp=>?_) (zCg hN) (fun i hi hp=>by rw[zBI hi];exact hp) ⟨⟨xF _ _,rfl,rfl,fun _ _=>rfl,fun i o t hi=>?_⟩,fun i o t b hi hA=>(by cases hA),fun i j oi oj ti tj bi bj hi O hne hA=>(by cases hA)⟩
 case hfree=>exact fun i hD hp hf=>(h4 i (h9 i hp hD)).2.1 hf
 case hfk=>
  intro i hp hf hl o ho b W I
  have hi:=h9 i hp (zES hl).2
  exact hT i o hf ho b W I.at_.cls (h6 i o hi ho b W I)
 case spec=>
  intro i hp hl o ho b W I K hK
  have hi:=h9 i hp (zES hl).2
  refine zAs ho (zG7 hy i hi o ho) (fun j g O=>?_) I.at_.cls (h6 i o hi ho b W I) (fun v W' hv hb=>hK v W' (fun o' hF d hd=>by rw[ho]at hF;cases hF;exact hv d hd) hb (fun e=>by cases e))
  rw[I.at_.size,h.size]
  obtain⟨oj,J,hW⟩:=qE O
  exact qP hz J hW
 case fin=>
  intro b W I
  refine hw b W ⟨I.at_.cls,by rw[I.at_.size];exact h.size,by rw[I.at_.defers];exact h.nd,fun t=>?_⟩
  unfold zQC
  cases hc:(List.range ops.size).any fun i=> !inL (is++D) i&&(zT ops i==some t)with
  |true=>trivial
  | false=>
   show(upd G L t).p _ _
   by_cases hex:∃j,inL D j=false/\zT ops j=some t
   .obtain⟨j,hg,O⟩:=hex
    have ha:j<ops.size:=by
     rcases bF j ops.size with e|e
     .exact e
     .rw[zT,cB e]at O;cases O
    have U:=cN.1 hc j (xT.2 ha)
    rw[O]at U
    have hM:inL (is++D) j=true:=by simpa using U
    cases J:ops[j]? with
    |none=>rw[zT,J]at O;cases O
    |some oj=>
     rw[qU J]at O
     exact I.at_.vals j oj t ⟨hM,by rw[zBI ha];exact hg⟩ J O oj J t O
   .have h8:∀j,inL D j=false->zT ops j≠some t:=fun j U h2=>hex ⟨j,U,h2⟩
    rw[I.at_.keep t (hs t h8)]
    exact(upd G L t).st _ _ _ (hI t (fun j O _=>h8 j O)) I.at_.cls
 .rw[zBI hi]
  cases h:inL D i with
  |false=>rfl
  |true=>rw[zHR,h,Bool.or_true]at hp;cases hp
 .have U:=zES hi.1
  have h2:=hi.2
  rw[zBI U.1,U.2]at h2
  cases h2
section
variable {S:Nat->Prop}{w0:WB}{K:List (Nat×KF)}{B:List Bx}{n:Nat}{ds:List Deferred}{a:Act}{w:WB}{F:Fence}{m:Nat}{P:WH}{ops:Array Oper}{Q:Exit->Act->WB->Prop}{wb:WB}{CW:WB->Prop}{D:List Nat}
theorem StS.later(h:StS S w0 K B n ds a w){w':WB}(hb:bW w w'):StS S w0 K B n ds a w':=
 ⟨h.gr.trans hb,h.size,h.nd,fun q I=>KF.us (h.sl q I) (zO hb),h.bx.keep hb (zO hb) B (fun _ _=>rfl),zAx h.mks hb,h.so⟩
theorem zJy(CW:WB->Prop)(hmix:P.follows .mixedOrders=true)(h:StS S w0 K B n ds a w)(fin:∀w1,bW w w1->StS S w0 K B n ds a w1->zJ9 F m P ops CW Q [] a w1):(Code.region id ops true).wpIn F m P Q a w:=by
 refine yC ops.size CW hmix ?_
 have I:bW w w.drew:=(xF _ w).drew
 have:=fin w.drew I (h.later I)
 unfold zJ9 at this
 have e:lst ops.size []=Array.replicate ops.size false:=by
  refine(zIW fC fun i hi=>?_).symm
  rw[xU,eO,if_pos hi]
  rfl
 rw[e,lH]at this
 exact this
theorem zHg(h:(List.range ops.size).all (inL D)=true)(J:Q .normal a w):zJ9 F m P ops CW Q D a w:=by
 have e:lst ops.size D=Array.replicate ops.size true:=(zIW fC fun i hi=>by
  rw[xU,eO,if_pos hi]
  exact(xR.1 h i (xT.2 hi)).symm).symm
 have I:(lst ops.size D).count false=0:=by rw[e];simp[Array.count_replicate]
 unfold zJ9
 rw[I]
 refine⟨lF.2 fun i hi=>?_,J⟩
 have O:=(cH.1 hi).1
 have h2:=zES O
 rw[xR.1 h i (xT.2 h2.1)]at h2
 cases h2.2
theorem zCy(h:o.guard=none):Region.wanted o (yielded ops a.tmps)=true:=by unfold Region.wanted;rw[h]
theorem zKD(J:Region.ready .any ops (lst ops.size D)=[i])(ho:ops[i]?=some o)(hw:Region.wanted o (yielded ops a.tmps)=true)(h:o.wpIn F m P a w (fun a' w'=>CW w'/\zJ9 F m P ops CW Q (i::D) a' w') (qK Q)):zJ9 F m P ops CW Q D a w:=by
 have hi:=(cH.1 (show i∈Region.ready .any ops (lst ops.size D) by rw[J];simp)).1
 have I:=(zES hi).1
 have U:=jS hi
 rw[zN2 I]at U
 unfold zJ9
 rw[<-U]
 refine⟨fun e=>(by rw[J]at e;cases e),fun j hj=>?_⟩
 rw[J]at hj
 obtain rfl:j=i:=by simpa using hj
 unfold wpOpIn
 rw[ho]
 show(if Region.wanted o (yielded ops a.tmps)=true then _ else _)
 rw[if_pos hw]
 refine Oper.wpIn_mono (fun a' w' O=>⟨.inr O.1,?_⟩) h
 rw[zN2 I]
 exact O.2
theorem zEy(fl is:List Nat)(L:List (Nat×Rw))(hT:Gr CW w)(h:StS S w0 K B n ds a w)
  (hn:zWQ ops fl D is n (L.map (·.1)) (K.map (·.1)++B.map (·.t))=true)
  (hE:Obs F m P w ops (upd (jM K B) (zK L)) (zPA ops is))
  (hZ:∀i o,inL fl i=true->ops[i]?=some o->FdC P CW w ops (upd (jM K B) (zK L)) o)
  (hB:∀a' w',bW w w'->StS S w0 (zA4 L++K) B n ds a' w'->(∀q,q∈zK L->q.2.p (a'.tmps.getD q.1 undef) w')->zJ9 F m P ops CW Q (is++D) a' w'):zJ9 F m P ops CW Q D a w:=by
 have O:=hn
 unfold zWQ at O
 simp only[xV]at O
 obtain⟨⟨⟨⟨⟨⟨⟨⟨⟨⟨⟨hW,hfr⟩,hpl⟩,hns⟩,hear⟩,hO⟩,hc1⟩,hc2⟩,hI⟩,q3⟩,hV⟩,htl⟩:=O
 have J:(zK L).map (·.1)=L.map (·.1):=by simp[zK]
 have U:∀t,t∈K.map (·.1)++B.map (·.t)->∀i,inL D i=false->zT ops i≠some t:=fun t ht i hD hi=>by
  have I:=xR.1 q3 t ht
  obtain⟨o,ho,_⟩:=qE hi
  have h2:=xR.1 I i (xT.2 (xP.1 ho).1)
  rw[hi,hD]at h2
  simp at h2
 have hG:∀t,t∈K.map (·.1)++B.map (·.t)->((zK L).map (·.1)).contains t=false:=fun t ht=>by
  cases hc:((zK L).map (·.1)).contains t with
  |false=>rfl
  |true=>
   exfalso
   have hm:=bU.1 hc
   rw[J]at hm
   obtain⟨i,_,he⟩:=bQ.1 (xR.1 hI t hm)
   simp only[xV,cX,bJ]at he
   exact U t ht i he.1 he.2
 have hJ:∀(l:List (Nat×SF)) t, ¬t∈K.map (·.1)++B.map (·.t)->upd (qM K B a) l t=upd (jM K B) l t:=fun l t ht=>by
  induction l with
  |nil=>exact if_neg ht
  |cons q l ih=>
   show(bif Nat.beq q.1 t then q.2 else upd _ l t)=(bif Nat.beq q.1 t then q.2 else upd _ l t)
   rw[ih]
 have hs:∀t v W,(upd (qM K B a) (zK L) t).p v W->(upd (jM K B) (zK L) t).p v W:=fun t v W hh=>by
  by_cases ht:t∈K.map (·.1)++B.map (·.t)
  .rw[jP (hG t ht)]at hh ⊢
   unfold qM at hh
   rw[if_pos ht]at hh
   exact hh.1
  .rwa [hJ _ t ht]at hh
 have hA:=h.at
 refine zS7 fl is (K.map (·.1)++B.map (·.t)) (zK L) hT (by rw[J];exact hn) (G:=qM K B a) (ds:=ds) ⟨hA.gr,hA.size,hA.nd,fun t=>?_⟩ ?_ (fun i o hi ho b W hb hr=>hZ i o hi ho b W hb (fun t ht=>hs t _ _ (hr t ht))) fun a' w' h7=>?_
 .by_cases ht:t∈K.map (·.1)++B.map (·.t)
  .unfold qM;rw[if_pos ht];exact⟨hA.sl t,rfl⟩
  .unfold qM;rw[if_neg ht];exact hA.sl t
 .have hC:∀t,(∃i,inL D i=false/\zT ops i=some t)->∀v W,(upd (jM K B) (zK L) t).p v W->(upd (qM K B a) (zK L) t).p v W:=fun t ⟨i,hD,hi⟩ v W hh=>by
   rw[hJ _ t (fun ht=>U t ht i hD hi)]
   exact hh
  have hp:∀(i:Nat) (o:Oper),inL D i=false->ops[i]?=some o->qO F m P w ops (upd (jM K B) (zK L)) o->qO F m P w ops (upd (qM K B a) (zK L)) o:=by
   intro i o hD ho hg
   have hf:∀d,o.dst=some d->∃i,inL D i=false/\zT ops i=some d:=fun d hd=>⟨i,hD,by rw[qU ho];exact hd⟩
   have hL:zMg F m P w (upd (jM K B) (zK L)) o->zMg F m P w (upd (qM K B a) (zK L)) o:=fun I b W K' Q' hb hr q2=>
    I b W K' Q' hb (fun t ht=>hs t _ _ (hr t ht)) fun v W' hv hb'=>q2 v W' (fun d hd=>hC d (hf d hd) _ _ (hv d hd)) hb'
   unfold qO at hg ⊢
   cases hgd:o.guard with
   |none=>rw[hgd]at hg;exact hL hg
   |some q=>
    rw[hgd]at hg
    obtain⟨g,bv,I,h2,h3,h4⟩:=hg
    exact⟨g,bv,I,fun v W hh=>h2 v W (hs g v W hh),fun e=>hL (h3 e),fun e=>⟨fun d hd W=>hC d (hf d hd) _ _ ((h4 e).1 d hd W),(h4 e).2⟩⟩
  have hM:∀l:List Nat,(∀i,i∈l->inL D i=false/\i<ops.size)->Obs F m P w ops (upd (jM K B) (zK L)) (zPA ops l)->Obs F m P w ops (upd (qM K B a) (zK L)) (zPA ops l):=by
   intro l
   induction l with
   |nil=>intro _ _;trivial
   |cons i l ih=>
    intro hm ho
    obtain⟨hD,hU⟩:=hm i fC
    have hK:ops[i]?=some ops[i]:=cC hU
    have e:zPA ops (i::l)=ops[i]::zPA ops l:=by unfold zPA;rw[List.filterMap_cons,hK]
    rw[e]at ho ⊢
    exact⟨hp i _ hD hK ho.1,ih (fun j hj=>hm j (by simp[hj])) ho.2⟩
  refine hM is (fun i hi=>?_) hE
  have I:=xR.1 hV i hi
  simp only[xV,cE,cX]at I
  exact⟨I.1.1.2,I.1.1.1⟩
 .have hg:=h7.gr
  have h6:∀t,t∈K.map (·.1)++B.map (·.t)->a'.tmps.getD t undef=a.tmps.getD t undef:=fun t ht=>by
   have I:=h7.sl t
   unfold zQC at I
   have h2:((List.range ops.size).any fun i=> !inL (is++D) i&&(zT ops i==some t))=false:=by
    refine cN.2 fun i _=>?_
    cases hD:inL D i with
    |true=>simp[zHR,hD]
    |false=>have:=U t ht i hD;simp[this]
   rw[h2,show(bif false then SF.any else upd (qM K B a) (zK L) t)=upd (qM K B a) (zK L) t from rfl,jP (hG t ht),qM,if_pos ht]at I
   exact I.2
  have hk:∀q,q∈zK L->q.2.p (a'.tmps.getD q.1 undef) w':=fun q hF=>by
   have I:=h7.sl q.1
   obtain⟨i,hi,he⟩:=bQ.1 (xR.1 hI q.1 (by rw[<-J];exact xG.2 ⟨_,hF,rfl⟩))
   simp only[xV,cX,bJ]at he
   have q0:inL (is++D) i=true:=by
    rw[zHR]
    have:inL is i=true:=by
     have:∀l:List Nat,i∈l->inL l i=true:=fun l hl=>by
      induction l with
      |nil=>cases hl
      |cons k l ih=>
       show(bif Nat.beq k i then true else inL l i)=true
       rcases xS.1 hl with rfl|hl
       .rw[mE];rfl
       .rw[ih hl];cases Nat.beq k i<;>rfl
     exact this is hi
    rw[this,Bool.true_or]
   unfold zQC at I
   have h2:((List.range ops.size).any fun j=> !inL (is++D) j&&(zT ops j==some q.1))=false:=by
    refine cN.2 fun j _=>?_
    by_cases hj:j=i
    .subst hj;simp[q0]
    .have:zT ops j≠some q.1:=fun e=>by
      obtain⟨oi,hX,hY⟩:=qE he.2
      obtain⟨oj,hR,hS⟩:=qE e
      exact zAe hW hX hR (bB hj) hY hS
     simp[this]
   rw[h2,show(bif false then SF.any else upd (qM K B a) (zK L) q.1)=upd (qM K B a) (zK L) q.1 from rfl,zCz (q:=q) (by rw[J];exact hO) hF]at I
   exact I
  refine hB a' w' hg ⟨h.gr.trans hg,h7.size,h7.nd,fun q hq=>?_,h.bx.keep hg (zO hg) B fun x hx=>h6 _ (cQ _ (xG.2 ⟨x,hx,rfl⟩)),zAx h.mks hg,h.so.imp (fun hu q hq=>(by
   rcases vV.1 hq with hq|hq
   .obtain⟨f,e,_⟩:=jO hq;exact⟨f,e⟩
   .exact hu q hq)) (fun x=>x)⟩ hk
  rcases vV.1 hq with hq|hq
  .obtain⟨f,q4,hm⟩:=jO hq
   have I:=hk (q.1,f.tS) (xG.2 ⟨_,hm,rfl⟩)
   rw[q4]
   exact I
  .rw[h6 q.1 (cT _ (xG.2 ⟨q,hq,rfl⟩))]
   exact KF.us (h.sl q hq) (zO hg)
theorem zHh{gd:WG (Nat×Bool)}{v:WE}(Ds:List CU)(hwb:bW wb w)(h:StS S w0 K B n [] a w)(hb0:w0.heap.size<=wb.heap.size)(hr:zAk w wb.heap.size e z v Cs)
  (ho:ops[i]?=some ⟨some d,.call ⟨.builtin .append,#[x,y],#[t,t]⟩,ty,pos,aft,gd⟩)(hw:Region.wanted ⟨some d,.call ⟨.builtin .append,#[x,y],#[t,t]⟩,ty,pos,aft,gd⟩ (yielded ops a.tmps)=true)(hrd:Region.ready .any ops (lst ops.size D)=[i])(happ:zEO P t=some (e,z,true))(hf:j9 K B n d=true)
  (hx:a.eval x=v)(hy:(SF.row z Ds).p (a.eval y) w)(hD:∀C,C∈Ds->CU.ok z C)(hsz:Cs.length+Ds.length<=140000000000)(hB:∀q,q∈B->q.b<wb.heap.size)
  (fin:∀v' a' w',bW wb w'->zAk w' wb.heap.size e z v' (Cs++Ds)->StS S w0 ((d,.u (UF.eq v'))::K) B n [] a' w'->zJ9 F m P ops (GW wb) Q (i::D) a' w'):zJ9 F m P ops (GW wb) Q D a w:=by
 obtain⟨v',w',hrun,g1,g2,_⟩:=zHd (P:=P) (ty:=ty) happ hr hy hD hsz hwb.size
 have hrun2:(execOp a.eval ⟨some d,.call ⟨.builtin .append,#[x,y],#[t,t]⟩,ty,pos,aft,gd⟩).run P w=.ok (.value v') w':=by
  simp only[execOp,resolve,invoke,builtin,cD,cF,cL,cP,xX,bV,hx,hrun]
 have hk:y9 w w':=hr.keepU g2
 have hlt:=hr.lt
 have s1:StS S w0 K B n [] a w':=by
  refine⟨?_,h.size,h.nd,fun q hq=>KF.us (h.sl q hq) hk,?_,⟨[],Marks.nil _ _⟩,h.so⟩
  .cases hv:v.ownBlock with
   |none=>
    refine⟨g2.os.trans h.gr.os,g2.tape.trans h.gr.tape,g2.output.trans h.gr.output,xQ h.gr.size g2.size,fun k hk1 hk2=>?_⟩
    exact(g2.block k (vU hk1 h.gr.size) (by rw[hv];simp)).trans (h.gr.block k hk1 hk2)
   |some g=>exact h.gr.grown (by rw[hv]at g2;exact g2) (.inl (xQ hb0 (hlt g hv).1))
  .refine wO hk B (fun q hq=>?_) h.bx
   obtain⟨_,_,hc,h3,_⟩:=h.bx.mem q hq
   refine g2.block _ (xP.1 h3).1 fun e=>?_
   have h4:=hlt _ e.symm
   have:=hB q hq
   omega
 have hb':bW wb w':=⟨g2.os.trans hwb.os,g2.tape.trans hwb.tape,g2.output.trans hwb.output,xQ hwb.size g2.size,fun k hk1=>(g2.block k (vU hk1 hwb.size) (fun e=>by have:=hlt _ e.symm;omega)).trans (hwb.block k hk1)⟩
 refine zKD hrd ho hw ⟨fun f hf=>(by
  unfold Oper.about at hf
  simp[resolve,go_sem]at hf),?_⟩
 rw[bI _ _ _ (fun _ e=>by cases e),hrun2]
 exact⟨hb',fin v' _ w' hb' g1 (s1.set hf (xF _ _) rfl)⟩
theorem zGu{c kk:Nat}(C:CU)(f:SF)(h:StS S w0 K B n ds a w)(ho:ops[i]?=some ⟨none,.store t (.tmp c) x,ty,pos,aft,none⟩)(ha:Region.ready .any ops (lst ops.size D)=[i])(h8:zAf P t=some kk){y:Bx}(hB:zF0 B c=some y)(I:y.r=false)(U:y.e=t)(O:∀cs W,y.c.p cs W->cs.length=kk)
  (hx:∀v W,(Wd.fct (jM K B) x).p v W->f.p v W)(hv:∀v W,f.p v W->∃vs:List WE,v=.agg vs.toArray/\vs.length=kk/\(∀u,u∈vs->u.oneCell'=true)/\vs.all zX=true/\C.p vs W)(h6:∀vs:List WE,f.p (.agg vs.toArray) w->Gr CW (w.setRow y.b vs.toArray))
  (fin:∀w',Gr CW w'->(∀k,k≠y.b->w'.heap[k]?=w.heap[k]?)->StS S w0 K (zE2 B c C) n ds a w'->zJ9 F m P ops CW Q (i::D) a w'):zJ9 F m P ops CW Q D a w:=by
 obtain⟨hy,J⟩:=zAq hB
 obtain⟨cs,h1,h2,h3,h4,h5⟩:=h.bx.mem y hy
 obtain⟨vs,e,hl,h9,h0,hC⟩:=hv _ _ (hx _ _ (h.fct x))
 rw[J]at h1
 have hk:y9 w (w.setRow y.b vs.toArray):=zB9 h3 (by simpa using h5)
 have hg:=h6 vs (by rw[<-e];exact hx _ _ (h.fct x))
 exact zKD ha ho (zCy rfl) (zKS h8 U (O _ _ h4) h1 h3 e hl h9 ⟨hg _ (xF _ _),fin _ hg (fun k hk=>mI w y.b k _ hk) (h.turn hB I (zBB w y.b vs.toArray) (sZ w y.b cs.toArray vs.toArray y.e (0,0) h3) (C.us _ _ _ hC hk) h0)⟩)
end
section
variable {F:Fence}{m:Nat}{P:WH}{w0:WB}{ops:Array Oper}{G:Nat->SF}{d:Tmp}{ty:WF}{pos:String}{aft:Array Edge}
def vC(W:WB)(e:WF):SF:=⟨fun v w=>∃g,v=.slice (some ⟨g,0,none⟩) 0 0/\W.heap.size<=g/\w.heap[g]?=some (.cells #[] e (0,0)),fun _ _ _ ⟨g,h1,h2,h3⟩ hb=>⟨g,h1,h2,(hb.block g (xP.1 h3).1).trans h3⟩⟩
theorem zIM(I:zEO P t=some (e,z,true))(J:∀v W,(vC w0 e).p v W->(G d).p v W:=by exact fun _ _ h=>h):qO F m P w0 ops G ⟨some d,.buildSlice t 0 #[],ty,pos,aft,none⟩:=
 zNL (fun _ e=>by cases e) (fun _ e=>by cases e) fun b W hb hh=>by
  obtain⟨ht,i,zv,hi,hz,hs,hby0,hzs,hzn,hz0⟩:=zCx I
  refine⟨.slice (some ⟨W.heap.size,0,none⟩) 0 0,.cells #[] e,?_,J _ _ ⟨W.heap.size,rfl,hb.size,xL W _⟩⟩
  simp[execOp,Instr.buildSlice,bK ht,sizeOf,typeInfo,hi,newRow,Instr.fill]
  congr 2
  exact Array.eq_empty_of_size_eq_zero fC
theorem zNO(Ds:List CU)(happ:zEO P t=some (e,z,true))(hx:∀v W,(fct G x).p v W->(vC w0 e).p v W)(hy:∀v W,bW w0 W->(fct G y).p v W->(SF.row z Ds).p v W)(hD:∀C,C∈Ds->CU.ok z C)(hsz:Ds.length<=140000000000)(hd:∀v W,(wG w0 e z Ds).p v W->(G d).p v W:=by exact fun _ _ h=>h):qO F m P w0 ops G ⟨some d,.call ⟨.builtin .append,#[x,y],#[t,t]⟩,ty,pos,aft,none⟩:=by
 intro bb W K Q hb hr hK
 obtain⟨g,ex,hg,hgc⟩:=hx _ _ (qA hr (x:=x) (by simp[Op.operands,Call.operands]))
 have h2:=hy _ _ hb (qA hr (x:=y) (by simp[Op.operands,Call.operands]))
 obtain⟨ht,i,zv,hi,hz,hs,hby0,hzs,hzn,hz0⟩:=zCx happ
 have hemp:zAk W w0.heap.size e z (.slice (some ⟨g,0,none⟩) 0 0) []:=.inr ⟨g,0,#[],rfl,hg,hgc,vP _,vR _,by simp,rfl,fun i C hi=>by simp at hi⟩
 refine⟨fun f hf=>(by
  unfold Oper.about at hf
  simp[resolve,go_sem]at hf),?_⟩
 rw[bI _ _ _ (fun _ e=>by cases e)]
 have hev:∀v' W',(Builtin.append_ #[t,t] ty #[.slice (some ⟨g,0,none⟩) 0 0,bb.eval y]).run P W=.ok v' W'->(execOp bb.eval ⟨some d,.call ⟨.builtin .append,#[x,y],#[t,t]⟩,ty,pos,aft,none⟩).run P W=.ok (.value v') W':=fun v' W' h=>by
  simp only[execOp,resolve,invoke,builtin,cD,cF,cL,cP,xX,bV,ex,h]
 by_cases h0:Ds=[]
 .subst h0
  obtain⟨A,c,ey,hlc,hcm,hAn,hel⟩:=h2
  have hrun:(Builtin.append_ #[t,t] ty #[.slice (some ⟨g,0,none⟩) 0 0,bb.eval y]).run P W=.ok (.slice (some ⟨g,0,none⟩) 0 0) W:=by
   rw[ey]
   cases A with
   |none=>simp[Builtin.append_,bK ht,sizeOf,typeInfo,hi,Builtin.lenOf,Builtin.firstCells,storeCells]
   |some ad=>simp[Builtin.append_,bK ht,sizeOf,typeInfo,hi,Builtin.lenOf,Builtin.firstCells,loadCells,loadCellsFrom,storeCells]
  rw[hev _ _ hrun]
  exact hK _ _ (fun d' e'=>by cases e';exact hd _ _ hemp) (xF _ _)
 .have h0:0<Ds.length:=gE.2 h0
  have hmx:Ds.length<=maxLen:=by unfold maxLen;omega
  have hbb:Ds.length*i.bytes<=140737488355328:=xQ (gS hsz hby0) (by decide)
  obtain⟨A,c,ey,hlc,hcm,hAn,hel⟩:=h2
  obtain⟨D,Ds',rfl⟩:∃D Ds',Ds=D::Ds':=by
   cases Ds with
   |nil=>simp at h0
   |cons D Ds'=>exact⟨D,Ds',rfl⟩
  obtain⟨b',o',cs',rfl,_⟩:=hel 0 D rfl
  obtain⟨news,n1,n2,n3,n4,n5⟩:=zD3 (W:=W) (b:=b') (z:=z) (D::Ds') o' hD fun i C hiC=>by
   obtain⟨b'',o'',cs'',e',m1,m2⟩:=hel i C hiC
   cases e'
   exact⟨cs'',m1,m2⟩
  have hgr:=run_append_grow (P:=P) W t ty e i zv ht hi hz ⟨g,0,none⟩ 0 0 [] fC fC ⟨b',o',none⟩ (D::Ds').length c news (by rw[hs];exact n1) (fun j u hj=>by rw[xH];exact n2 j u hj) oA oA (growslice_fits oA (by simpa using hbb))
  simp only[uL,Array.empty_append]at hgr
  have hge:=grownCap_ge W (D::Ds').length 0 e
  have hcm':grownCap W (D::Ds').length 0 e<=maxLen:=tE W (D::Ds').length 0 e hmx
  rw[hev _ _ (by rw[ey];exact hgr)]
  have hbw:bW W (W.drew.alloc (.cells (news.toArray++Builtin.zeroCells zv.cells (grownCap W (D::Ds').length 0 e-(D::Ds').length)) e)):=⟨rfl,rfl,rfl,by simp,fun k hk=>tB W.drew _ hk⟩
  refine hK _ _ (fun d' e'=>by
   cases e'
   refine hd _ _ (.inr ⟨W.heap.size,_,_,rfl,hb.size,xL W.drew _,hge,hcm',?_,?_,?_⟩)
   .simp only[tF,bP,tC,hzs,n1,<-vT]
    congr 1
    omega
   .rw[tD,mA,n4,zBE hzn];rfl
   .have:=zDr (Cs:=[]) (cs:=[]) (es:=(Builtin.zeroCells zv.cells (grownCap W (D::Ds').length 0 e-(D::Ds').length)).toList) fC n1 fC n5 (zO hbw)
    simpa using this) hbw
theorem zEI:∀i o,inL [] i=true->ops[i]?=some o->FdC P CW w0 ops G o:=fun _ _ h=>by cases h
theorem zBf{k:Nat}{o':Oper}{l:List Nat}(O:ops[k]?=some o'){CW:WB->Prop}(h:FdC P CW w0 ops G o')(J:∀i o,inL l i=true->ops[i]?=some o->FdC P CW w0 ops G o):∀i o,inL (k::l) i=true->ops[i]?=some o->FdC P CW w0 ops G o:=fun i o hi I=>by
 have hi:(bif Nat.beq k i then true else inL l i)=true:=hi
 cases e:Nat.beq k i with
 |true=>
  have:=cJ e
  subst this
  rw[O]at I
  cases I
  exact h
 |false=>
  rw[e]at hi
  exact J i o hi I
end
section
variable {S:Nat->Prop}{F:Fence}{m:Nat}{P:WH}{Q:Exit->Act->WB->Prop}{w0 w1:WB}{K K0:List (Nat×KF)}{B B0:List Bx}{n n0:Nat}{ds ds0:List Deferred}{a a0:Act}{w:WB}
end
def zDQ(W W':WB):Prop:=W.heap.size<=W'.heap.size/\∀(q:Nat) (o:Obj),W.heap[q]?=some o->o.isCells=true->W'.heap[q]?=some o
theorem zBu(h:bW W W'):zDQ W W':=⟨h.size,fun q _o I _=>(h.block q (xP.1 I).1).trans I⟩
theorem zEf{o o':Obj}(h:W.heap[l]?=some o)(O:o.isCells=false):zDQ W (W.putObj l o'):=⟨by rw[eI];exact vP _,fun q o2 J h2=>by
 have I:q≠l:=fun e=>by
  subst e
  rw[h]at J
  cases J
  rw[O]at h2
  cases h2
 exact(bN I).trans J⟩
theorem zDQ.keepU(h:zDQ W W'):y9 W W':=fun q u I=>by
 have J:=xJ W _ I
 obtain⟨o,ho⟩:∃o,W.heap[q.block]?=some o:=⟨_,cC J⟩
 cases hc:o.isCells with
 |false=>rw[zBv ho hc rfl]at I;cases I
 |true=>exact(bR ((h.2 _ _ ho hc).trans ho.symm)).trans I
theorem zAk.keepC{v:WE}(h:zAk w base e z v Cs)(O:zDQ w w'):zAk w' base e z v Cs:=h.keep (fun k I=>by
 rcases h with⟨rfl,_⟩|⟨g,cap,cur,rfl,hb,J,_⟩
 .simp[Value.ownBlock]at I
 .simp[Value.ownBlock]at I
  subst I
  exact(O.2 _ _ J rfl).trans J.symm) O.keepU
theorem zA5(h:bW W W')(J:N<=W.heap.size):Itr N W W':=⟨h.os,h.tape,h.output,h.size,fun k O=>h.block k (vU O J),fun k _o I _=>(h.block k (xP.1 I).1).trans I,zO h⟩
structure RndO(N:Nat)(C O:Nat->Prop)(W W':World):Prop where
 os:W'.os=W.os
 tape:W'.tape=W.tape
 output:W'.output=W.output
 size:W.heap.size<=W'.heap.size
 low:∀k:Nat,k<N-> ¬C k->W'.heap[k]?=W.heap[k]?
 own:∀k:Nat,O k->W'.heap[k]?=W.heap[k]?
 keep:y9 W W'
def ItD(P:WH)(gf:Nat)(lb:Array WE)(Ef:Nat->List UF)(N:Nat)(C:Nat->Prop)(w:WB):Prop:=
 ∀(l:Nat) (J:Nat->(Nat->Prop)->WB->Prop) (Z:WB->Prop) (W:WB),w.heap.size<=W.heap.size->bW w W->y9 w W->
  (∀k O O' W1 W2,J k O W1->bW W1 W2->(∀q,O' q->O q∨W1.heap.size<=q)->J k O' W2)->(∀W1 W2,Z W1->bW W1 W2->Z W2)->
  (∀k O W1 xs,k<N->J k O W1->(∀q,O q->W.heap.size<=q/\q<W1.heap.size)->Ev Ef k xs W1->YieldAt Fence.wide 0 P l xs W1 fun e W'=>((e=.returned (.bool true)/\J (k+1) O W')∨(e=.returned (.bool false)/\Z W'))/\RndO w.heap.size C O W1 W')->
  J 0 (fun _=>False) W->Calls P gf (#[.func (.yield l) #[] #[]]++lb) W fun e W'=>(∃v,e=.returned v)/\((∃O,J N O W')∨Z W')
section
variable {S:Nat->Prop}{P:WH}{Q:Exit->Act->WB->Prop}{w0:WB}{K:List (Nat×KF)}{B:List Bx}{n:Nat}{ds:List Deferred}{a:Act}{w:WB}
theorem zIY{o:Obj}{R:Nat->Prop}(hb:BlS (fun k=>inB B k∨k=l∨R k) W W')(h0:yP S w0 a W B)(ho:W.heap[l]?=some o)(hc:o.isCells=false)(hR:∀q,R q->∃(cs:Array WE) (t:WF) (z:Nat×Nat),W.heap[q]?=some (.cells cs t z)/\cs.toList.all zX=true):y9 W W':=fun q u I=>by
 have O:=xJ W _ I
 by_cases e:inB B q.block∨q.block=l∨R q.block
 .exfalso
  rcases e with⟨x,hx,J,_⟩|J|J
  .obtain⟨cs,_,_,h3,_,U⟩:=h0.mem x hx
   have:=zCu h3 U J.symm I
   cases this
  .rw[zBv ho hc J]at I
   cases I
  .obtain⟨cs,t,z,h3,U⟩:=hR _ J
   have:=zCu (cs:=cs.toList) (by simpa using h3) U rfl I
   cases this
 .exact(bR (hb.block _ O e)).trans I
theorem StS.is1{t:Nat}{r:Bool}{v:WE}(h:StS S w0 K [⟨t,e,C,b,r⟩] n ds a w)(J:w.heap[b]?=some (.cells #[v] e (0,0))):StS S w0 K [⟨t,e,wC [v],b,r⟩] n ds a w:=by
 refine⟨h.gr,h.size,h.nd,h.sl,?_,h.mks,h.so⟩
 obtain⟨⟨cs,O,h2,h3,h4,h5,U⟩,h7⟩:=h.bx
 rw[show w.heap[b]?=_ from J]at h3
 injection h3 with h3
 injection h3 with h3
 have I:cs=[v]:=by simpa using vQ Array.toList h3.symm
 exact⟨⟨cs,O,h2,J.trans (by rw[I]),I,h5,U⟩,h7⟩
theorem zRu{k:Nat}{v:WE}(Ds:List CU)(h:StS S w1 K B n [] a w)(hbw:base<=w.heap.size)(hr:zAk w base e z v Cs)(hown:∀g,v.ownBlock=some g->S g∨w1.heap.size<=g)
  (ho:ops[k]?=some ⟨some d,.call ⟨.builtin .append,#[x,y],#[t,t]⟩,ty,pos,aft,none⟩)(happ:zEO P t=some (e,z,true))(hf:j9 K B n d=true)(hu:(K.all fun q=>zJg q.2)=true)
  (hx:a.eval x=v)(hy:(SF.row z Ds).p (a.eval y) w)(hD:∀C,C∈Ds->CU.ok z C)(hsz:Cs.length+Ds.length<=140000000000)(hB:∀q,q∈B->v.ownBlock≠some q.b)
  (fin:∀v' a' w',w.heap.size<=w'.heap.size->zAk w' base e z v' (Cs++Ds)->(v'.ownBlock=v.ownBlock∨v'.ownBlock=some w.heap.size)->(∀q,q∈B->v'.ownBlock≠some q.b)->StS S w1 ((d,.u (UF.eq v'))::K) B n [] a' w'->zAW F m P ops Q (k+1) a' w'):zAW F m P ops Q k a w:=by
 obtain⟨v',w',hrun,g1,g2,g3⟩:=zHd (P:=P) (ty:=ty) happ hr hy hD hsz hbw
 have hrun2:(execOp a.eval ⟨some d,.call ⟨.builtin .append,#[x,y],#[t,t]⟩,ty,pos,aft,none⟩).run P w=.ok (.value v') w':=by
  simp only[execOp,resolve,invoke,builtin,cD,cF,cL,cP,xX,bV,hx,hrun]
 refine zAl ho rfl ⟨fun f hf=>(by
  unfold Oper.about at hf
  simp[resolve,go_sem]at hf),?_⟩
 rw[bI _ _ _ (fun _ e=>by cases e),hrun2]
 have hk:y9 w w':=hr.keepU g2
 have s1:StS S w1 K B n [] a w':=by
  refine⟨?_,h.size,h.nd,fun q hq=>?_,?_,⟨[],Marks.nil _ _⟩,.inl (yX hu)⟩
  .cases hv:v.ownBlock with
   |none=>
    refine⟨g2.os.trans h.gr.os,g2.tape.trans h.gr.tape,g2.output.trans h.gr.output,xQ h.gr.size g2.size,fun k hk1 hk2=>?_⟩
    exact(g2.block k (vU hk1 h.gr.size) (by rw[hv];simp)).trans (h.gr.block k hk1 hk2)
   |some g=>exact h.gr.grown (by rw[hv]at g2;exact g2) ((hown g hv).symm)
  .obtain⟨f,ef⟩:=yX hu q hq
   have h1:=h.sl q hq
   rw[ef]at h1 ⊢
   exact f.us _ _ _ h1 hk
  .refine wO hk B (fun q hq=>?_) h.bx
   obtain⟨_,_,hc,h3,_⟩:=h.bx.mem q hq
   exact g2.block _ (xP.1 h3).1 fun e=>hB q hq e.symm
 refine fin v' _ w' g2.size g1 g3 (fun q hq e=>?_) (s1.set hf (xF _ _) rfl)
 rcases g3 with g3|g3
 .exact hB q hq (g3.symm.trans e)
 .obtain⟨_,_,_,h3,_⟩:=h.bx.mem q hq
  have h5:=(xP.1 h3).1
  have h6:=g3.symm.trans e
  injection h6 with h6
  omega
theorem StS.yieldedO(h:StS S w0 K B n [] a w){N:Nat}{C O:Nat->Prop}{w':WB}(J:RndO N C O w w')(hu:∀q,q∈K->∃f,q.2=.u f)(U:∀x,x∈B->x.b<N/\ ¬C x.b):StS (inB B) w' K B n [] a w':=by
 refine⟨BlS.refl _ _,h.size,h.nd,fun q hq=>?_,wO J.keep B (fun x I=>J.low _ (U x I).1 (U x I).2) (wR (a:=a) B (fun x I=>?_) (fun _ _=>rfl) h.bx),⟨[],Marks.nil _ _⟩,.inl hu⟩
 .obtain⟨f,e⟩:=hu q hq
  have:=h.sl q hq
  rw[e]at this ⊢
  exact f.us _ _ _ this J.keep
 .cases hrr:x.r with
  |true=>exact .inl rfl
  |false=>exact .inr (.inr ⟨x,I,rfl,hrr⟩)
theorem zG0{k:Nat}{Jn Z:WB->Prop}{C O:Nat->Prop}(ho:ops[k]?=some ⟨some d,.call ⟨.value y,xs,ats⟩,ty,pos,aft,none⟩)
  (h:StS S w0 K B n [] a w)(hy:∀v W,(Wd.fct (jM K B) y).p v W->v=.func (.yield l) #[] #[])(hf:j9 K B n d=true)(hu:∀q,q∈K->∃f,q.2=.u f)(hC:∀x,x∈B->x.b<N/\ ¬C x.b)
  (Y:YieldAt Fence.wide 0 P l (xs.map a.eval) w fun e W'=>((e=.returned (.bool true)/\Jn W')∨(e=.returned (.bool false)/\Z W'))/\RndO N C O w W')
  (fin:∀a' w' bv,RndO N C O w w'->((bv=true/\Jn w')∨(bv=false/\Z w'))->StS (inB B) w' ((d,.u (uB bv))::K) B n [] a' w'->zAW Fence.wide 0 P ops Q (k+1) a' w'):zAW Fence.wide 0 P ops Q k a w:=by
 have U:a.eval y=.func (.yield l) #[] #[]:=hy _ _ (h.fct y)
 obtain⟨fn,tmps,assign,body,I,hR⟩:=Y
 refine zAl ho rfl ⟨fun g _=>trivial,?_⟩
 rw[bI _ _ _ (fun _ e=>by cases e),zI2 U,I]
 rw[Oper.uponIn_round]
 refine⟨fun hh=>absurd hh (by simp[Fence.wide]),RoundIn.mono hR fun e W' he=>?_⟩
 obtain⟨he,J⟩:=he
 have s1:=h.yieldedO J hu hC
 rcases he with⟨rfl,hJ⟩|⟨rfl,hZ⟩
 .exact fin _ _ true J (.inl ⟨rfl,hJ⟩) (s1.set hf (xF _ _) rfl)
 .exact fin _ _ false J (.inr ⟨rfl,hZ⟩) (s1.set hf (xF _ _) rfl)
end
def ItM(P:WH)(gf:Nat)(lb:Array WE)(Ef:Nat->List UF)(N:Nat)(C M:Nat->Prop)(w:WB):Prop:=
 ∀(l:Nat) (J:Nat->(Nat->Prop)->WB->Prop) (Z:WB->Prop) (W:WB),w.heap.size<=W.heap.size->bW w W->y9 w W->
  (∀k O O' W1 W2,J k O W1->bW W1 W2->(∀q,O' q->O q∨W1.heap.size<=q)->J k O' W2)->(∀W1 W2,Z W1->bW W1 W2->Z W2)->
  (∀k O W1,J k O W1->∀q,M q->W1.heap[q]?=w.heap[q]?)->
  (∀k O W1 xs,k<N->J k O W1->(∀q,O q->W.heap.size<=q/\q<W1.heap.size)->Ev Ef k xs W1->YieldAt Fence.wide 0 P l xs W1 fun e W'=>((e=.returned (.bool true)/\J (k+1) O W')∨(e=.returned (.bool false)/\Z W'))/\RndO w.heap.size (fun q=>C q∨M q) O W1 W')->
  J 0 (fun _=>False) W->Calls P gf (#[.func (.yield l) #[] #[]]++lb) W fun e W'=>(∃v,e=.returned v)/\((∃O,J N O W')∨Z W')
section
variable {S:Nat->Prop}{P:WH}{Q:Exit->Act->WB->Prop}{w0:WB}{K:List (Nat×KF)}{B:List Bx}{n:Nat}{ds:List Deferred}{a:Act}{w:WB}
theorem StS.turnedM(h:StS S w0 K B n ds a w){B':List Bx}{S' S2:Nat->Prop}{w1 w':WB}{a1:Act}{l N:Nat}{o:Obj}(hb:BlS S2 w w'){M:Nat->Prop}(h2:∀q,q<N->S2 q->inB B q∨q=l∨M q)(h5:∀q,M q->w0.heap.size<=q/\∃(cs:Array WE) (t:WF) (z:Nat×Nat),w.heap[q]?=some (.cells cs t z))(hN:w0.heap.size<=N)(hU:y9 w w')(ho:w.heap[l]?=some o)(_O:o.isCells=false)(hl:w0.heap.size<=l)
  (hD:∀Ds,Marks w0.heap.size w ds Ds->l ∉ Ds/\∀D,D∈Ds->D<N)(hk:B'.map zGb=B.map zGb)(hx:yP S' w1 a1 w' B'):StS S w0 K B' n ds a w':=by
 have h8:∀k,k<w0.heap.size-> ¬S k-> ¬S2 k:=fun k hk hs I=>by
  rcases h2 k oA I with⟨x,hx,h1,h2⟩|I|I
  .obtain⟨_,_,O,_⟩:=h.bx.mem x hx
   rcases O with O|O|O
   .rw[h2]at O;cases O
   .omega
   .exact hs (h1▸O)
  .omega
  .have:=(h5 k I).1;omega
 refine⟨⟨hb.os.trans h.gr.os,hb.tape.trans h.gr.tape,hb.output.trans h.gr.output,xQ h.gr.size hb.size,fun k hk hs=>(hb.block k (vU hk h.gr.size) (h8 k hk hs)).trans (h.gr.block k hk hs)⟩,
  h.size,h.nd,fun q hq=>KF.us (h.sl q hq) hU,vG B B' hk h.bx hx,?_,h.so⟩
 obtain⟨Ds,J⟩:=h.mks
 refine⟨Ds,J.eq,J.nodup,fun D U=>⟨(J.at_ D U).1,(hb.block D (J.lt D U) fun I=>?_).trans (J.at_ D U).2⟩⟩
 rcases h2 D ((hD Ds J).2 D U) I with⟨x,hx,h1,_⟩|I|I
 .obtain⟨cs,_,_,h3,_⟩:=h.bx.mem x hx
  rw[h1,(J.at_ D U).2]at h3
  cases h3
 .subst I
  exact(hD Ds J).1 U
 .obtain⟨cs,t,z,h3⟩:=(h5 D I).2
  rw[(J.at_ D U).2]at h3
  cases h3
theorem zFv{g:WL}{ps:Array Tmp}{assign body:Code}{lb:Array WE}{Ef:Nat->List UF}
  (Bf:Nat->List Bx)(Bz:List Bx)(cz:Code)(Kr:Nat->List (Nat×KF))(h:StS S w0 K (Bf 0) n ds a w)
  (hg:∀v W,(Wd.fct (jM K (Bf 0)) g).p v W->v=.func (.func gf) #[] lb)(eg:∀args w,(callFunc gf args).run P w=.ok (.enter gf args) w)
  {M:Nat->Prop}(hM:∀q,M q->w0.heap.size<=q/\q<w.heap.size/\∃(cs:Array WE) (t:WF) (z:Nat×Nat),w.heap[q]?=some (.cells cs t z)/\cs.toList.all zX=true)(hit:ItM P gf lb Ef N (inB (Bf 0)) M w){X:Nat->(Nat->Prop)->WB->Prop}{XZ:WB->Prop}(hX:∀k R W W',zDQ W W'->X k R W->X k R W')(hXZ:∀W W',zDQ W W'->XZ W->XZ W')(hx0:X 0 (fun _=>False) w)(hEl:∀k,(Ef k).length=ps.size)
  (hKr:∀k q,q∈Kr k->(q∈K/\zJg q.2=true/\ps.toList.contains q.1=false)∨ ∃(j:Nat) (f:UF),ps[j]?=some q.1/\(Ef k)[j]?=some f/\q.2=.u f)
  (hps:jY ps.toList=true)(hpl:(ps.toList.all fun p=>Nat.blt p n)=true)(hpB:((Bf 0).all fun x=> !ps.toList.contains x.t)=true)
  (hBf:∀k,(Bf k).map zGb=(Bf 0).map zGb)(hBz:Bz.map zGb=(Bf 0).map zGb)
  (rounds:∀l k R xs W,k<N->X k R W->(∀q,M q->W.heap[q]?=w.heap[q]?)->(∀q,R q->w.heap.size+2<=q/\q<W.heap.size)->w.heap.size+2<=W.heap.size->StS S w0 K (Bf k) n ds a W->StS (fun q=>inB (Bf 0) q∨W.heap.size<=q∨R q∨M q) W (Kr k) (Bf k) n [] { tmps:=(ps.zip xs).foldl (fun t (p,v)=>t.setIfInBounds p v) a.tmps,defers:=[] } W->
   assign.wpIn (Fence.wide.inRound l) 0 P (Exit.then (fun a1 W1=>BlS (fun q=>inB (Bf 0) q∨W.heap.size<=q∨R q∨M q) W W1/\∀W2,zDQ W1 W2->(∀p,W2.cell? p=W1.cell? p)->(∀K B,StS (fun q=>inB (Bf 0) q∨W.heap.size<=q∨R q∨M q) W K B n [] a1 W1->StS (fun q=>inB (Bf 0) q∨W.heap.size<=q∨R q∨M q) W2 K B n [] a1 W2)->
    body.wpIn (Fence.wide.inRound l) 0 P (zYq (fun a2 W3=>StS (fun q=>inB (Bf 0) q∨W.heap.size<=q∨R q∨M q) W2 [] (Bf (k+1)) n [] a2 W3/\∃R',(∀q,R' q->R q∨W.heap.size<=q)/\(∀q,R' q->q<W3.heap.size/\∃(cs:Array WE) (t:WF) (z:Nat×Nat),W3.heap[q]?=some (.cells cs t z)/\cs.toList.all zX=true)/\X (k+1) R' W3/\∀q,M q->W3.heap[q]?=w.heap[q]?) cz (fun a2 W3=>StS (fun q=>inB (Bf 0) q∨W.heap.size<=q∨R q∨M q) W2 [] Bz n [] a2 W3/\XZ W3)) a1 W2) (fun _ _ _=>False))
    { tmps:=(ps.zip xs).foldl (fun t (p,v)=>t.setIfInBounds p v) a.tmps,defers:=[] } W)
  (done:∀D W R,X N R W->StS S w0 K (Bf N) n (mark D::ds) { a with defers:=mark D::a.defers } W->Q .normal { a with defers:=mark D::a.defers } W)
  (stop:∀D W,XZ W->StS S w0 K Bz n (mark D::ds) { a with defers:=mark D::a.defers } W->cz.wpIn Fence.wide 0 P Q { a with defers:=mark D::a.defers } W):
  (Code.rangeFunc g ps assign body).wpIn Fence.wide 0 P Q a w:=by
 refine wpIn_rangeFunc ?_
 intro fn hfn
 show ∃l mark w₁ d w₁' f args w₂,(Instr.enterLoop fn a.tmps ps assign body none).run P w=_/\_
 obtain⟨rec,hrec⟩:∃rec:LoopState->WG Code->Loop,rec=fun st pe=>{ state:=st,pending:=pe,fn,tmps:=a.tmps,params:=ps,assign,body,defers:=w.heap.size }:=⟨_,rfl⟩
 obtain⟨W1,hW1⟩:∃W1,(w.alloc (.deferred (some []))).alloc (.loop (rec .ready none))=W1:=⟨_,rfl⟩
 have hL1:W1.heap[w.heap.size+1]?=some (.loop (rec .ready none)):=by
  rw[<-hW1];have:=cO (w.alloc (.deferred (some []))) (.loop (rec .ready none));rwa [bY]at this
 have hK1:W1.heap[w.heap.size]?=some (.deferred (some [])):=by
  rw[<-hW1];exact(eP _ _ _ fC).trans (cO w _)
 have hb1:bW w W1:=by
  rw[<-hW1];exact((xF _ w).alloc lr _).alloc fC _
 have hz1:W1.heap.size=w.heap.size+2:=by rw[<-hW1];simp
 have hgv:a.eval g=.func (.func gf) #[] lb:=hg _ _ (h.fct g)
 have hold:=h.old
 have hw0:=h.gr.size
 have hi1:Itr w.heap.size w W1:=⟨hb1.os,hb1.tape,hb1.output,hb1.size,fun k hk=>hb1.block k hk,fun k o ho _=>(hb1.block k (xP.1 ho).1).trans ho,zO hb1⟩
 have hs1:=h.itr hi1 hw0 hold
 have hbk:∀{k:Nat} {x:Bx},x∈Bf k->x.b<w.heap.size:=fun {k x} hx=>by
  obtain⟨y,hy,_,e,_⟩:=zJ4 (hBf k) hx
  rw[<-e]
  exact hold y hy
 have hbz:∀{x:Bx},x∈Bz->x.b<w.heap.size:=fun {x} hx=>by
  obtain⟨y,hy,_,e,_⟩:=zJ4 hBz hx
  rw[<-e]
  exact hold y hy
 have hin:∀{q:Nat},inB (Bf 0) q->q<w.heap.size:=fun {q} ⟨x,hx,e,_⟩=>by rw[<-e];exact hold x hx
 have hinz:∀(k:Nat) {q:Nat},inB (Bf k) q->inB (Bf 0) q:=fun k _ hq=>zJT (hBf k) hq
 have hDl:∀{W:WB} {o:Obj},W.heap[w.heap.size+1]?=some o->(∃r,o=.loop r)->∀Ds,Marks w0.heap.size W ds Ds->w.heap.size+1 ∉ Ds:=fun {W o} ho hr Ds hm hh=>by
  obtain⟨r,rfl⟩:=hr
  rw[(hm.at_ _ hh).2]at ho
  cases ho
 have hDs:∀{W:WB} Ds,Marks w0.heap.size W ds Ds->∀D,D∈Ds->D<w.heap.size:=fun {W} Ds hm D hd=>by
  obtain⟨Ds',hm'⟩:=h.mks
  have:Ds=Ds':=by
   have e:=hm.eq.symm.trans hm'.eq
   exact zIU e
  subst this
  exact hm'.lt D hd
 refine⟨w.heap.size+1, [{ target:=.collected w.heap.size,args:=#[] }],W1,{ target:=.fn (.func gf) lb,args:=#[.func (.yield (w.heap.size+1)) #[] #[]] },W1,gf,
  #[.func (.yield (w.heap.size+1)) #[] #[]]++lb,W1,?_,?_,?_,?_,fun h=>absurd h (by simp[Fence.wide]),?_⟩
 .rw[<-hW1,hrec];exact hH _ _ _ _ _
 .simp only[resolve,hgv]
  simp[go_sem]
 .intro f' _;trivial
 .simp[invoke,go_sem,eg]
 .refine xZ.2 ((hit (w.heap.size+1)
   (fun k O W=>StS S w0 K (Bf k) n ds a W/\W.heap[w.heap.size+1]?=some (.loop (rec .ready none))/\W.heap[w.heap.size]?=some (.deferred (some []))/\w.heap.size+2<=W.heap.size/\∃R,(∀q,R q-> ¬O q/\w.heap.size+2<=q/\q<W.heap.size/\∃(cs:Array WE) (t:WF) (z:Nat×Nat),W.heap[q]?=some (.cells cs t z)/\cs.toList.all zX=true)/\X k R W/\∀q,M q->W.heap[q]?=w.heap[q]?)
   (fun W=>StS S w0 K Bz n ds a W/\W.heap[w.heap.size+1]?=some (.loop (rec .done (some cz)))/\W.heap[w.heap.size]?=some (.deferred (some []))/\w.heap.size+2<=W.heap.size/\XZ W)
   W1 oA hb1 (zO hb1)
   (fun k O O' A B ⟨h1,h3,h4,h5,R,hR,h6,h7⟩ hi hO=>⟨h1.itr (zA5 hi h5) oA (fun x hx=>by have:=hbk hx;omega),(zA5 hi h5).oth _ _ h3 rfl,(zA5 hi h5).oth _ _ h4 rfl,xQ h5 hi.size,R,fun q hq=>by
    obtain⟨r1,r2,r3,cs,t,z,r4,r5⟩:=hR q hq
    refine⟨fun ho=>?_,r2,vU r3 hi.size,cs,t,z,(hi.block q r3).trans r4,r5⟩
    rcases hO q ho with e|e
    .exact r1 e
    .omega,hX _ _ _ _ (zBu hi) h6,fun q hq=>(hi.block q (by have:=(hM q hq).2.1;omega)).trans (h7 q hq)⟩)
   (fun A B ⟨h1,h3,h4,h5,h6⟩ hi=>⟨h1.itr (zA5 hi h5) oA (fun x hx=>by have:=hbz hx;omega),(zA5 hi h5).oth _ _ h3 rfl,(zA5 hi h5).oth _ _ h4 rfl,xQ h5 hi.size,hXZ _ _ (zBu hi) h6⟩)
   (fun k O W1 hJ=>by obtain⟨_,_,_,_,_,_,_,h7⟩:=hJ;exact h7)
   ?_ ⟨hs1,hL1,hK1,by omega,fun _=>False,fun q hq=>hq.elim,hX _ _ _ _ (zBu hb1) hx0,fun q hq=>hb1.block q (hM q hq).2.1⟩).mono ?_)
  .rintro k O W xs hk ⟨hs,hl,hd,hsz5,R,hR,hxk,hmk⟩ hOr ⟨hxs,hev⟩
   have hlt:w.heap.size+1<W.heap.size:=(xP.1 hl).1
   have hy:=run_yield (P:=P) (args:=xs) hl (by rw[hrec];exact hxs.trans (hEl k))
   rw[hrec]at hy
   have hxs':xs.size=ps.size:=hxs.trans (hEl k)
   have hzip:(ps.zip xs).foldl (fun t (p,v)=>t.setIfInBounds p v) a.tmps=(ps.toList.zip xs.toList).foldl (fun t (p,v)=>t.setIfInBounds p v) a.tmps:=by
    rw[<-Array.foldl_toList,Array.toList_zip]
   have hzf:(ps.toList.zip xs.toList).map (·.1)=ps.toList:=by
    rw[List.map_fst_zip]
    simp[hxs']
   have hnd:ps.toList.Nodup:=qD hps
   have hs0:StS (fun q=>inB (Bf 0) q∨W.heap.size<=q∨R q∨M q) W (Kr k) (Bf k) n [] { tmps:=(ps.zip xs).foldl (fun t (p,v)=>t.setIfInBounds p v) a.tmps,defers:=[] } W:=by
    refine⟨BlS.refl _ _,?_,rfl,fun q hq=>?_,?_,⟨[],Marks.nil _ _⟩,.inl fun q hq=>?_⟩
    .show((ps.zip xs).foldl (fun t (p,v)=>t.setIfInBounds p v) a.tmps).size=n
     rw[hzip,zFn]
     exact h.size
    .show q.2.p W (((ps.zip xs).foldl (fun t (p,v)=>t.setIfInBounds p v) a.tmps).getD q.1 undef) W
     rw[hzip]
     rcases hKr k q hq with⟨h1,h2,h3⟩|⟨j,f,h1,h2,h3⟩
     .rw[zB6 q.1 _ _ (by rw[hzf];intro hc;rw[bU.2 hc]at h3;cases h3)]
      have:=hs.sl q h1
      cases hq2:q.2 with
      |u f=>rw[hq2]at this;exact this
      |o f=>rw[hq2]at h2;cases h2
     .have hj:j<ps.size:=(xP.1 h1).1
      have hjx:j<xs.size:=by omega
      have e1:=hev j f h2
      have e2:xs.getD j undef=xs[j]:=by rw[xU,cC hjx];rfl
      have e3:ps[j]=q.1:=(xP.1 h1).2
      rw[zIa _ _ q.1 xs[j] (by rw[hzf];exact hnd) (by
       refine List.mem_iff_getElem?.2 ⟨j,?_⟩
       rw[List.getElem?_zip_eq_some]
       exact⟨by rw[pQ];exact h1,by rw[pQ,cC hjx]⟩) (by
       have:=xR.1 hpl q.1 (by rw[<-e3];exact Array.mem_toList_iff.2 (eA hj))
       rw[h.size]
       simpa using this)]
      rw[h3]
      rw[e2]at e1
      exact e1
    .refine wR (Bf k) (fun x hx=>?_) (fun x hx=>?_) hs.bx
     .cases hr:x.r with
      |true=>exact .inl rfl
      |false=>exact .inr (.inr (.inl (hinz k ⟨x,hx,rfl,hr⟩)))
     .show((ps.zip xs).foldl (fun t (p,v)=>t.setIfInBounds p v) a.tmps).getD x.t undef=_
      rw[hzip]
      obtain⟨y,hy,e,_⟩:=zJ4 (hBf k) hx
      refine zB6 _ _ _ ?_
      rw[hzf,<-e]
      intro hc
      have:=xR.1 hpB y hy
      rw[bU.2 hc]at this
      cases this
    .rcases hKr k q hq with⟨h1,h2,h3⟩|⟨j,f,h1,h2,h3⟩
     .cases hq2:q.2 with
      |u f=>exact⟨f,rfl⟩
      |o f=>rw[hq2]at h2;cases h2
     .exact⟨f,h3⟩
   have hnl: ¬(inB (Bf 0) (w.heap.size+1)∨W.heap.size<=w.heap.size+1∨R (w.heap.size+1)∨M (w.heap.size+1)):=fun hh=>by
    rcases hh with hh|hh|hh|hh
    .have:=hin hh;omega
    .omega
    .have:=(hR _ hh).2.1;omega
    .have:=(hM _ hh).2.1;omega
   have hnd2: ¬(inB (Bf 0) w.heap.size∨W.heap.size<=w.heap.size∨R w.heap.size∨M w.heap.size):=fun hh=>by
    rcases hh with hh|hh|hh|hh
    .have:=hin hh;omega
    .omega
    .have:=(hR _ hh).2.1;omega
    .have:=(hM _ hh).2.1;omega
   refine⟨fn,_,assign,body,hy,roundIn_of_wpIn hfn (eB ?_ (rounds (w.heap.size+1) k R xs W hk hxk hmk (fun q hq=>⟨(hR q hq).2.1,(hR q hq).2.2.1⟩) hsz5 hs hs0))⟩
   intro e a1 Wa hp
   cases e with
   | normal=>
    obtain⟨hgr,hcont⟩:=hp
    have hla:Wa.heap[w.heap.size+1]?=some (.loop (rec .ready none)):=(hgr.block _ hlt hnl).trans hl
    have hda:Wa.heap[w.heap.size]?=some (.deferred (some [])):=(hgr.block _ oA hnd2).trans hd
    have hlta:w.heap.size+1<Wa.heap.size:=(xP.1 hla).1
    refine⟨_,run_beginRound hla (by rw[hrec]),?_⟩
    obtain⟨W2,hW2⟩:∃W2,Wa.putObj (w.heap.size+1) (.loop { rec .ready none with state:=.busy })=W2:=⟨_,rfl⟩
    rw[hW2]
    have hl2:W2.heap[w.heap.size+1]?=some (.loop { rec .ready none with state:=.busy }):=by rw[<-hW2];exact eC hlta
    have hd2:W2.heap[w.heap.size]?=some (.deferred (some [])):=by rw[<-hW2];exact(bN oA).trans hda
    have hz2:W2.heap.size=Wa.heap.size:=by rw[<-hW2,eI]
    have hk2:y9 Wa W2:=fun q u hq=>by
     by_cases e:q.block=w.heap.size+1
     .rw[zBv hla rfl e]at hq
      cases hq
     .rw[<-hW2]
      exact(bR (bN e)).trans hq
    have hcell:∀p,W2.cell? p=Wa.cell? p:=fun p=>by
     by_cases e:p.block=w.heap.size+1
     .rw[zBv hla rfl e,zBv hl2 rfl e]
     .rw[<-hW2]
      exact bR (bN e)
    have hbody:=hcont W2 (by rw[<-hW2];exact zEf hla rfl) hcell (fun K' B' hs'=>hs'.rebase hk2 (fun _ hq=>.inr (.inl hq)) (fun x hx=>by
     obtain⟨cs,_,_,h3,_⟩:=hs'.bx.mem x hx
     rw[<-hW2]
     refine bN fun e=>?_
     rw[e,hla]at h3
     cases h3))
    refine eB ?_ hbody
    intro e a3 W3 hp3
    have fin:∀(jump:WG Code) (B':List Bx),StS (fun q=>inB (Bf 0) q∨W.heap.size<=q∨R q∨M q) W2 [] B' n [] a3 W3->B'.map zGb=(Bf 0).map zGb->∃W4,(Instr.endRound (w.heap.size+1) jump).run P W3=.ok (.bool jump.isNone) W4/\W4.heap[w.heap.size+1]?=some (.loop (rec (if jump.isNone then .ready else .done) jump))/\W4.heap[w.heap.size]?=some (.deferred (some []))/\RndO w.heap.size (fun q=>inB (Bf 0) q∨M q) O W W4/\StS S w0 K B' n ds a W4/\w.heap.size+2<=W4.heap.size/\zDQ W3 W4/\(∀q,q≠w.heap.size+1->W4.heap[q]?=W3.heap[q]?)/\W4.heap.size=W3.heap.size:=by
     intro jump B' h3 hB'
     have hl3:W3.heap[w.heap.size+1]?=some (.loop { rec .ready none with state:=.busy }):=(h3.gr.block _ oA hnl).trans hl2
     have hd3:W3.heap[w.heap.size]?=some (.deferred (some [])):=(h3.gr.block _ oA hnd2).trans hd2
     have hlt3:w.heap.size+1<W3.heap.size:=(xP.1 hl3).1
     have hrun:=run_endRound (P:=P) jump hl3
     have hbx3:∀x,x∈B'->x.b≠w.heap.size+1:=fun x hx e=>by
      obtain⟨cs,_,_,h4,_⟩:=h3.bx.mem x hx
      rw[e,hl3]at h4
      cases h4
     obtain⟨W4,hW4⟩:∃W4,W3.putObj (w.heap.size+1) (.loop (rec (if jump.isNone then .ready else .done) jump))=W4:=⟨_,rfl⟩
     have hrun4:(Instr.endRound (w.heap.size+1) jump).run P W3=.ok (.bool jump.isNone) W4:=by rw[hrun,<-hW4,hrec]
     have hz3:=h3.gr.size
     have hz4:W4.heap.size=W3.heap.size:=by rw[<-hW4,eI]
     have hza:=hgr.size
     have hk4:y9 W3 W4:=fun q u hq=>by
      by_cases e:q.block=w.heap.size+1
      .rw[zBv hl3 rfl e]at hq
       cases hq
      .rw[<-hW4]
       exact(bR (bN e)).trans hq
     have hb4:BlS (fun q=>inB (Bf 0) q∨q=w.heap.size+1∨R q∨M q) W W4:=by
      refine⟨?_,?_,?_,by omega,fun q hq hns=>?_⟩
      .rw[<-hW4];exact h3.gr.os.trans (by rw[<-hW2];exact hgr.os)
      .rw[<-hW4];exact h3.gr.tape.trans (by rw[<-hW2];exact hgr.tape)
      .rw[<-hW4];exact h3.gr.output.trans (by rw[<-hW2];exact hgr.output)
      .have hne:q≠w.heap.size+1:=fun e=>hns (.inr (.inl e))
       have hni: ¬(inB (Bf 0) q∨W.heap.size<=q∨R q∨M q):=fun hh=>by
        rcases hh with hh|hh|hh
        .exact hns (.inl hh)
        .omega
        .exact hns (.inr (.inr hh))
       rw[<-hW4,bN hne,h3.gr.block q oA hni,<-hW2,bN hne]
       exact hgr.block q hq hni
     have hKU:=zIY (B:=Bf k) (hb4.sub fun q hq=>hq.imp (zJT (hBf k).symm) id) hs.bx hl rfl (fun q hq=>by
      rcases hq with hq|hq
      .exact(hR q hq).2.2.2
      .obtain⟨_,_,cs,t,z,m1,m2⟩:=hM q hq
       exact⟨cs,t,z,(hmk q hq).trans m1,m2⟩)
     have hgt:∀q,q≠w.heap.size+1->W4.heap[q]?=W3.heap[q]?:=fun q hq=>by rw[<-hW4];exact bN hq
     refine⟨W4,hrun4,by rw[<-hW4];exact eC hlt3,by rw[<-hW4];exact(bN oA).trans hd3,⟨hb4.os,hb4.tape,hb4.output,hb4.size,fun q hq hc=>hb4.block q oA fun hh=>?_,fun q hq=>hb4.block q (hOr q hq).2 fun hh=>?_,hKU⟩,?_,by omega,by rw[<-hW4];exact zEf hl3 rfl,hgt,hz4⟩
     .rcases hh with hh|hh|hh|hh
      .exact hc (.inl hh)
      .omega
      .have:=(hR q hh).2.1;omega
      .exact hc (.inr hh)
     .have h9:=(hOr q hq).1
      rcases hh with hh|hh|hh|hh
      .have:=hin hh;omega
      .omega
      .exact(hR q hh).1 hq
      .have:=(hM q hh).2.1;omega
     .exact hs.turnedM (M:=M) (N:=w.heap.size+2) (hb4.sub fun q hq=>hq.imp (zJT (hBf k).symm) id) (fun q hq hh=>by
       rcases hh with hh|hh|hh|hh
       .exact .inl hh
       .exact .inr (.inl hh)
       .have:=(hR q hh).2.1;omega
       .exact .inr (.inr hh)) (fun q hq=>by
       obtain⟨m0,_,cs,t,z,m1,_⟩:=hM q hq
       exact⟨m0,cs,t,z,(hmk q hq).trans m1⟩) oA hKU hl rfl oA (fun Ds hm=>⟨hDl hl ⟨_,rfl⟩ Ds hm,fun D hD=>by have:=hDs Ds hm D hD;omega⟩) (hB'.trans (hBf k).symm) (wO hk4 B' (fun x hx=>by rw[<-hW4];exact bN (hbx3 x hx)) h3.bx)
    cases e with
    | normal=>
     obtain⟨h3,R',hR1,hR2,hx3,hm3⟩:=hp3
     obtain⟨W4,hr,hl4,hd4,hrn,hs4,hz4,hkc,hgt,hz43⟩:=fin none _ h3 (hBf _)
     refine⟨_,W4,hr,.inl ⟨rfl,hs4,hl4,hd4,hz4,R',fun q hq=>?_,hX _ _ _ _ hkc hx3,fun q hq=>(hgt q (by have:=(hM q hq).2.1;omega)).trans (hm3 q hq)⟩,hrn⟩
     obtain⟨r1,cs,t,z,r2,r3⟩:=hR2 q hq
     have hq2:w.heap.size+2<=q:=by
      rcases hR1 q hq with e|e
      .exact(hR q e).2.1
      .omega
     refine⟨fun ho=>?_,hq2,by omega,cs,t,z,(hgt q oA).trans r2,r3⟩
     rcases hR1 q hq with e|e
     .exact(hR q e).1 ho
     .have:=(hOr q ho).2;omega
    |ret=>
     obtain⟨hc,h3,hx3⟩:=hp3
     obtain⟨W4,hr,hl4,hd4,hrn,hs4,hz4,hkc,hgt,hz43⟩:=fin (some .ret) _ h3 hBz
     exact⟨_,W4,hr,.inr ⟨rfl,hs4,by rw[hc];exact hl4,hd4,hz4,hXZ _ _ hkc hx3⟩,hrn⟩
    |exit id=>
     obtain⟨hc,h3,hx3⟩:=hp3
     obtain⟨W4,hr,hl4,hd4,hrn,hs4,hz4,hkc,hgt,hz43⟩:=fin (some (.exit id)) _ h3 hBz
     exact⟨_,W4,hr,.inr ⟨rfl,hs4,by rw[hc];exact hl4,hd4,hz4,hXZ _ _ hkc hx3⟩,hrn⟩
    |goto t=>
     obtain⟨hc,h3,hx3⟩:=hp3
     obtain⟨W4,hr,hl4,hd4,hrn,hs4,hz4,hkc,hgt,hz43⟩:=fin (some (.goto t)) _ h3 hBz
     exact⟨_,W4,hr,.inr ⟨rfl,hs4,by rw[hc];exact hl4,hd4,hz4,hXZ _ _ hkc hx3⟩,hrn⟩
    |panic ch=>exact hp3.elim
    |outgrown=>exact hp3.elim
   |_=>exact hp.elim
  .have hend:∀{W2:WB} {B':List Bx} {pe:WG Code} {st:LoopState},StS S w0 K B' n ds a W2->W2.heap[w.heap.size+1]?=some (.loop (rec st pe))->W2.heap[w.heap.size]?=some (.deferred (some []))->∀o':Obj,StS S w0 K B' n (mark w.heap.size::ds) { a with defers:=mark w.heap.size::a.defers } (W2.putObj (w.heap.size+1) o'):=fun {W2 B' pe st} hs hl hd o'=>by
    have h1:=hs.put (o':=o') hl rfl (hDl hl ⟨_,rfl⟩) (.inr oA)
    exact h1.more hw0 ((bN oA).trans hd) (fun Ds hm hh=>absurd (hDs Ds hm _ hh) (Nat.lt_irrefl _))
   rintro e W2 ⟨⟨v,rfl⟩,(⟨O,hs,hl,hd,_,R,_,hx5,_⟩|⟨hs,hl,hd,_,hx5⟩)⟩
   .exact⟨none,_,by have:=run_endLoop (P:=P) hl (by rw[hrec];simp);rw[hrec]at this;exact this,done _ _ R (hX _ _ _ _ (zEf hl rfl) hx5) (hend hs hl hd _)⟩
   .exact⟨some cz,_,by have:=run_endLoop (P:=P) hl (by rw[hrec];simp);rw[hrec]at this;exact this,stop _ _ (hXZ _ _ (zEf hl rfl) hx5) (hend hs hl hd _)⟩
end
end Go.Proofs.Wd
