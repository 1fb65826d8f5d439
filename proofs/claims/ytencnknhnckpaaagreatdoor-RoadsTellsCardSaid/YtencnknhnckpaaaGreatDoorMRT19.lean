/- Natural numbers as values, and what prod and the references answer of  and what it needs. -/
import Derived.Test.YtencnknhnckpaaaGreatDoorMRT13
import Derived.Test.YtencnknhnckpaaaGreatDoorMRT17
abbrev pX:=@Nat.succ_mul
abbrev pY:=@Bool.true_or
abbrev pZ:=@Go.run_indexAt_slice
abbrev rA:=@Classical.choose_spec
abbrev rB:=@Classical.byContradiction
abbrev rC:=@Array.toList_map
abbrev rD:=@Array.toList_range
abbrev rE:=@List.take_append_of_le_length
namespace Go.Proofs.Wd
open Tryz
open Go.RowKit Lb
variable {W W' w w' w0:WB}{B N b c' d f i id m n n' z:Nat}{x y:WK}{e s t t' ty:WE}{u v':WD}{a:Act}{A A':Option Addr}{c:Bool}{F:Fence}{P:WG}{ops:Array Oper}{G:Nat->SF}{o:Oper}{l:List Oper}{C:CF}{k k' k0:Int}{xs:Array WK}{cs ds:List WD}{op:BinOp}{q:Rat}{Cs Ds:List CU}{K:List (Nat×KF)}{ats:Array WE}{ks:List Int}{CW:WB->Prop}{D:List Nat}{pos:String}{aft:Array Edge}
def LV(W:WB)(m:Nat)(v:WD)(x:Nat):Prop:=∃A n c l,v=.slice A n c/\Rd W A n c l/\Lt l/\n<=m/\val l=x
theorem LV.below{v:WD}{x:Nat}(h:LV W m v x)(O:Below W.heap.size W W'):LV W' m v x:=by
 obtain⟨A,n,c,l,rfl,J,I⟩:=h
 exact⟨A,n,c,l,rfl,J.below O,I⟩
theorem LV.mono{m':Nat}{v:WD}{x:Nat}(h:LV W m v x)(hm:m<=m'):LV W m' v x:=by
 obtain⟨A,n,c,l,rfl,O,J,h3,I⟩:=h
 exact⟨A,n,c,l,rfl,O,J,oA,I⟩
theorem LV.bound{v:WD}{x:Nat}(h:LV W m v x):x<BB^m:=by
 obtain⟨A,n,c,l,rfl,J,I,O,rfl⟩:=h
 exact vW (qO I) (vZ qA (by rw[J.len];exact O))
theorem jB.lv{v:WD}{x:Nat}(h:jB W v x)(O:x<BB^m):LV W m v x:=by
 obtain⟨A,n,c,l,rfl,I,J⟩:=h
 exact⟨A,n,c,l,rfl,J,I.lt,by rw[<-J.len];exact I.len O,I.val⟩
def zMN(w:WB)(x:Nat):Ending->WB->Prop:=fun e w'=>∃v,e=.returned v/\jB w' v x/\Below w.heap.size w w'
theorem jH.v{x:Nat}{e:Ending}(h:jH w x e w'):zMN w x e w':=by
 obtain⟨A,n,c,l,rfl,J,I,O⟩:=h
 exact⟨_,rfl,⟨A,n,c,l,rfl,J,I⟩,O⟩
theorem zS5{v:WD}{a:Nat}(h:LV W m v a)(h':LV W m v' b)(hm:m<=40000):Calls prog 77 #[v,v'] W (zMN W (a*b)):=by
 obtain⟨A,n,c,l,rfl,h1,O,h3,rfl⟩:=h
 obtain⟨A',n',c',l',rfl,J,I,h3',rfl⟩:=h'
 exact(zLJ A n c l A' n' c' l' W h1 J O I oA oA).mono fun _ _=>jH.v
def zT5(w:WB)(x y:Nat):Ending->WB->Prop:=fun e w'=>∃v v',e=.returned (.tuple #[v,v'])/\jB w' v x/\jB w' v' y/\Below w.heap.size w w'
theorem LV.open{v:WD}{x:Nat}(h:LV W m v x):∃A n c,v=.slice A n c/\n<=m/\n<=c/\c<=9223372036854775807/\LV W m (.slice A n c) x:=by
 obtain⟨A,n,c,l,rfl,I,h2,J,O⟩:=h
 exact⟨A,n,c,rfl,J,I.le,I.cap,⟨A,n,c,l,rfl,I,h2,J,O⟩⟩
def zT6(w:WB)(a b:Nat):Ending->WB->Prop:=fun e w'=>∃v v',e=.returned (.tuple #[v,v',.int .i64 0])/\jB w' v (a/b)/\jB w' v' (a%b)/\Below w.heap.size w w'
theorem zRC{v:WD}{a:Nat}(h:LV W m v a)(h':LV W m v' b)(hm:m<=10000)(h0:0<b):Calls prog 81 #[v,v'] W (zT6 W a b):=by
 obtain⟨A,n,c,l,rfl,h1,h2,h3,rfl⟩:=h
 obtain⟨A',n',c',l',rfl,J,I,h3',rfl⟩:=h'
 refine(zNw A n c l A' n' c' l' W h1 J h2 I oA oA h0).mono ?_
 rintro e w' ⟨O,n1,c1,l1,A2,n2,c2,l2,rfl,i1,r1,i2,r2,hb⟩
 exact⟨_,_,rfl,⟨O,n1,c1,l1,rfl,i1,r1⟩,⟨A2,n2,c2,l2,rfl,i2,r2⟩,hb⟩
theorem zRD{v:WD}{a:Nat}(h:LV W m v a)(h':LV W m v' b):Calls prog 101 #[v,v'] W fun e w'=>e=.returned (.int .i64 (zAs a b))/\W=w':=by
 obtain⟨A,n,c,l,rfl,h1,O,h3,rfl⟩:=h
 obtain⟨A',n',c',l',rfl,J,I,h3',rfl⟩:=h'
 exact zEi A n c l A' n' c' l' W h1 J O I
theorem zP3{c:Nat}{x y:Nat}(h:LV W m (.slice A n c) x)(h':LV W m (.slice A' n' c') y)(hm:m<=10000)(t:WE):
  Calls prog 98 #[.slice (some ⟨W.heap.size,0,none⟩) 2 2] (W.alloc (.cells #[.slice A n c,.slice A' n' c'] t)) (zMN (W.alloc (.cells #[.slice A n c,.slice A' n' c'] t)) (x+y)):=by
 obtain⟨A1,n1,c1,l,O,h1,h2,h3,rfl⟩:=h
 obtain⟨A2,n2,c2,l',e2,J,I,h3',rfl⟩:=h'
 cases O
 cases e2
 have:=zEk _ 2 2 _ _ (Rds.two h1 h2 oA J I oA t) rY
 simp only[cF,cO,mQ,mR,uM]at this
 exact this.mono fun _ _=>jH.v
def jG(x:Nat):UF:=.mk' (fun v w=>jB w v x) fun _ _ _ ⟨A,n,c,l,e,h1,h2⟩ k=>⟨A,n,c,l,e,h1,h2.keepU k⟩
def fLV(m x:Nat):UF:=.mk' (fun v w=>LV w m v x) fun _ _ _ ⟨A,n,c,l,e,h1,h2⟩ k=>⟨A,n,c,l,e,h1.keepU k,h2⟩
def fNV(k:Int):UF:=.mk' (fun v w=>NV w v k) fun _ _ _ ⟨A,n,c,l,e,h1,h2⟩ k=>⟨A,n,c,l,e,h1,h2.keepU k⟩
def fUV(m:Nat)(k:Int):UF:=.mk' (fun v w=>UV w m v k) fun _ _ _ ⟨s,A,n,c,l,e,h1,h2⟩ k=>⟨s,A,n,c,l,e,h1.keepU k,h2⟩
def fB(b:Bool):UF:=.eq (.bool b)
def fI(z:Int):UF:=.eq (.int .i64 z)
theorem zSE(h:qR F m P w0 ops G o)(k:Obs F m P w0 ops G l):Obs F m P w0 ops G (o::l):=⟨h,k⟩
theorem oc(h:qR F m P w0 ops G o)(k:Obs F m P w0 ops G l):Obs F m P w0 ops G (o::l):=⟨h,k⟩
theorem lr:n<=n:=vR n
theorem arf{α:Sort _}{a:α}{p:Prop}:a≠a->p:=fun e=>absurd rfl e
abbrev zP6:List WD:=[.bool false,.slice none 0 0,.slice none 0 0,.bool false,.slice none 0 0,.slice none 0 0]
abbrev zR3:List WD:=[.bool false,.slice none 0 0,.slice none 0 0]
theorem fmz{α:Type}{p:α->Prop}{a:α}{l:List α}(h:p a/\∀x,x∈l->p x):∀x,x∈a::l->p x:=List.forall_mem_cons.2 h
theorem sH{α:Type}{p:α->Prop}{a:α}{l:List α}(h:p a)(k:∀x,x∈l->p x):∀x,x∈a::l->p x:=List.forall_mem_cons.2 ⟨h,k⟩
theorem fnz{α:Type}{p:α->Prop}:∀x,x∈([]:List α)->p x:=List.forall_mem_nil p
theorem iiz{α β:Type}{p:α->β->Prop}:∀a b,p a b->p a b:=fun _ _ h=>h
theorem mz1{α:Type}{a b0:α}{l:List α}:a∈b0::a::l:=.tail _ (.head _)
theorem mz2{α:Type}{a b0 b1:α}{l:List α}:a∈b0::b1::a::l:=.tail _ (.tail _ (.head _))
theorem mz3{α:Type}{a b0 b1 b2:α}{l:List α}:a∈b0::b1::b2::a::l:=.tail _ (.tail _ (.tail _ (.head _)))
theorem mz4{α:Type}{a b0 b1 b2 h:α}{l:List α}:a∈b0::b1::b2::h::a::l:=.tail _ (.tail _ (.tail _ (.tail _ (.head _))))
theorem mz5{α:Type}{a b0 b1 b2 I h:α}{l:List α}:a∈b0::b1::b2::I::h::a::l:=.tail _ (.tail _ (.tail _ (.tail _ (.tail _ (.head _)))))
theorem mz6{α:Type}{a b0 b1 b2 I h J:α}{l:List α}:a∈b0::b1::b2::I::h::J::a::l:=.tail _ (.tail _ (.tail _ (.tail _ (.tail _ (.tail _ (.head _))))))
theorem mz7{α:Type}{a b0 b1 b2 I h O J:α}{l:List α}:a∈b0::b1::b2::I::h::O::J::a::l:=.tail _ (.tail _ (.tail _ (.tail _ (.tail _ (.tail _ (.tail _ (.head _)))))))
theorem mz8{α:Type}{a b0 b1 b2 b3 I O h J:α}{l:List α}:a∈b0::b1::b2::b3::I::O::h::J::a::l:=.tail _ (.tail _ (.tail _ (.tail _ (.tail _ (.tail _ (.tail _ (.tail _ (.head _))))))))
theorem mz9{α:Type}{a b0 b1 b2 b3 I O h J b8:α}{l:List α}:a∈b0::b1::b2::b3::I::O::h::J::b8::a::l:=.tail _ (.tail _ (.tail _ (.tail _ (.tail _ (.tail _ (.tail _ (.tail _ (.tail _ (.head _)))))))))
theorem zC1{α:Type}{a b0 b1 b2 b3 I O h J b8 b9:α}{l:List α}:a∈b0::b1::b2::b3::I::O::h::J::b8::b9::a::l:=.tail _ (.tail _ (.tail _ (.tail _ (.tail _ (.tail _ (.tail _ (.tail _ (.tail _ (.tail _ (.head _))))))))))
theorem zDW{α:Type}{a b0 b1 b2 b3 J b5 I O b8 b9 h:α}{l:List α}:a∈b0::b1::b2::b3::J::b5::I::O::b8::b9::h::a::l:=.tail _ (.tail _ (.tail _ (.tail _ (.tail _ (.tail _ (.tail _ (.tail _ (.tail _ (.tail _ (.tail _ (.head _)))))))))))
theorem zFl{α:Type}{a b0 b1 b2 b3 O b5 J b7 b8 b9 I h:α}{l:List α}:a∈b0::b1::b2::b3::O::b5::J::b7::b8::b9::I::h::a::l:=.tail _ (.tail _ (.tail _ (.tail _ (.tail _ (.tail _ (.tail _ (.tail _ (.tail _ (.tail _ (.tail _ (.tail _ (.head _))))))))))))
theorem zGN{α:Type}{a b0 b1 b2 b3 b4 b5 O b7 b8 b9 J h I:α}{l:List α}:a∈b0::b1::b2::b3::b4::b5::O::b7::b8::b9::J::h::I::a::l:=.tail _ (.tail _ (.tail _ (.tail _ (.tail _ (.tail _ (.tail _ (.tail _ (.tail _ (.tail _ (.tail _ (.tail _ (.tail _ (.head _)))))))))))))
theorem zMU{α:Type}{a b0 b1 b2 b3 b4 b5 b6 b7 b8 b9 O h I J:α}{l:List α}:a∈b0::b1::b2::b3::b4::b5::b6::b7::b8::b9::O::h::I::J::a::l:=.tail _ (.tail _ (.tail _ (.tail _ (.tail _ (.tail _ (.tail _ (.tail _ (.tail _ (.tail _ (.tail _ (.tail _ (.tail _ (.tail _ (.head _))))))))))))))
theorem zFL{α:Type}{a b0 b1 b2 b3 b4 b5 b6 b7 b8 b9 h0 h J O I:α}{l:List α}:a∈b0::b1::b2::b3::b4::b5::b6::b7::b8::b9::h0::h::J::O::I::a::l:=.tail _ (.tail _ (.tail _ (.tail _ (.tail _ (.tail _ (.tail _ (.tail _ (.tail _ (.tail _ (.tail _ (.tail _ (.tail _ (.tail _ (.tail _ (.head _)))))))))))))))
theorem zC:Obs F m P w0 ops G []:=trivial
def CF.at(C:CF)(k:Nat):CF:=⟨fun cs w=>∃ds,C.p ds w/\cs=ds.drop k,fun _ _ _ ⟨ds,h1,h2⟩ hb=>⟨ds,C.st _ _ _ h1 hb,h2⟩⟩
abbrev Rw.X(f:UF)(n:Nat):Rw:=.s (wB ((CU.agg f).cf.at n))
abbrev Rw.Y(f:UF):Rw:=.s (wB (cg f))
section
variable {F:Fence}{m:Nat}{P:WG}{w0:WB}{ops:Array Oper}{G:Nat->SF}{d:Tmp}{ty:WE}{pos:String}{aft:Array Edge}
theorem zO(k:Nat)(I:zBJ P s f=some k)(J:∀v W,(fct G x).p v W->(wB C).p v W:=by first|exact fun _ _ h=>h|exact fun _ _ h=>h.2)(hd:∀v W,(wB (C.at k)).p v W->(G d).p v W:=by exact fun _ _ h=>h):qR F m P w0 ops G ⟨some d,.fieldAddr s x f,ty,pos,aft,none⟩:=
 zJq (C':=C.at k) k I J (fun cs _ h=>⟨cs,h,rfl⟩) hd
theorem q7(i k:Nat)(I:zBJ P s f=some k)(hx:∀v W,(fct G x).p v W->(wB (C.at i)).p v W:=by exact fun _ _ h=>h)(hd:∀v W,(wB (C.at (i+k))).p v W->(G d).p v W:=by exact fun _ _ h=>h):qR F m P w0 ops G ⟨some d,.fieldAddr s x f,ty,pos,aft,none⟩:=
 zJq (C':=C.at (i+k)) k I hx (fun cs _ ⟨ds,O,J⟩=>⟨ds,O,by rw[J,List.drop_drop]⟩) hd
theorem yK{k:Nat}(I:zB9 P t=true)(hx:∀v W,(fct G x).p v W->(wB (C.at k)).p v W:=by exact fun _ _ h=>h)(h:∀cs W,C.p cs W->∃u,cs[k]?=some u/\(G d).p u W):qR F m P w0 ops G ⟨some d,.load t x,ty,pos,aft,none⟩:=
 z5 I hx fun cs W ⟨ds,O,J⟩=>let⟨u,h3,h4⟩:=h ds W O;⟨u,by rw[J,uW];exact h3,h4⟩
theorem jS{k:Nat}(z:Nat)(J:zAj P t=some z)(hx:∀v W,(fct G x).p v W->(wB (C.at k)).p v W:=by exact fun _ _ h=>h)(h:∀cs W,C.p cs W->k+z<=cs.length/\(G d).p (.agg ((cs.drop k).take z).toArray) W):qR F m P w0 ops G ⟨some d,.load t x,ty,pos,aft,none⟩:=
 zJo z J hx fun cs W ⟨ds,O,I⟩=>let⟨h3,h4⟩:=h ds W O;⟨by rw[I,uS];omega,by rw[I];exact h4⟩
theorem yJ{f:UF}(z:Nat)(I:zAj P t=some z)(J:∀v W,(fct G x).p v W->(wB (cg f)).p v W:=by first|exact fun _ _ h=>h|exact fun _ _ h=>h.2)(hz:∀cs:List WD,∀W,f.p (.agg cs.toArray) W->cs.length=z)(hd:∀v W,f.p v W->(G d).p v W:=by exact fun _ _ h=>h):qR F m P w0 ops G ⟨some d,.load t x,ty,pos,aft,none⟩:=
 zJo z I J fun cs W h=>⟨by rw[hz cs W h];exact vR _,by
  have h1:=hz cs W h
  rw[mJ oA]
  exact hd _ _ h⟩
theorem zBx{a:Addr}(I:∀v W,(fct G x).p v W->v=.pointer (some a))(hd:∀W,(G d).p (.pointer (some a)) W:=by exact fun _=>rfl):qR F m P w0 ops G ⟨some d,.nilCheck x,ty,pos,aft,none⟩:=
 qY (fun _ e=>by cases e) (fun _ e=>by cases e) fun b W hb h=>by
  have e:=I _ _ (h x (by simp[Op.operands]))
  exact⟨.pointer (some a),by simp[execOp,e],hd W⟩
theorem zBg{o:Nat}(k:Nat)(h:zBJ P s f=some k)(hx:∀v W,(fct G x).p v W->v= pO b o)(hd:∀W,(G d).p (.pointer (some ⟨b,o+k,none⟩)) W:=by exact fun _=>rfl):qR F m P w0 ops G ⟨some d,.fieldAddr s x f,ty,pos,aft,none⟩:=
 qY (fun _ e=>by cases e) (fun _ e=>by cases e) fun c W hb O=>by
  have e:=hx _ _ (O x (by simp[Op.operands]))
  refine⟨.pointer (some ⟨b,o+k,none⟩),?_,hd W⟩
  unfold zBJ at h
  split at h<;>try cases h
  rename_i fs hu
  split at h<;>try cases h
  rename_i f' hf
  split at h<;>try cases h
  rename_i i I
  split at h<;>try cases h
  rename_i J
  simp[execOp,Instr.fieldAt,bI hu,hf,e,Instr.sureAddr,fieldPlace,sizeOf,typeInfo,I,J,xH]
theorem wF{f g:SF}(h:∀v W,f.p v W->g.p v W):∀e W',Ret W f e W'->Ret W g e W':=fun _ _ ⟨v,e,J,I⟩=>⟨v,e,h _ _ J,I⟩
end
theorem zA7{xs I:Array WD}(h:Value.agg xs=Value.agg I):xs=I:=by injection h
theorem zM6(h:(fUV m k).p (.agg cs.toArray) W):∃s A n c,cs=[.bool s,.slice A n c]/\∃l,Rd W A n c l/\Lt l/\n<=m/\iv s l=k:=by
 obtain⟨s,A,n,c,l,e,I⟩:=h
 have:=vX Array.toList (zA7 e)
 exact⟨s,A,n,c,by simpa using this,l,I⟩
theorem zGs(h:(fNV k).p (.agg cs.toArray) W):∃A n c,cs=[.bool (decide (k<0)),.slice A n c]/\∃l,Is l k.natAbs/\Rd W A n c l:=by
 obtain⟨A,n,c,l,e,I⟩:=h
 have:=vX Array.toList (zA7 e)
 exact⟨A,n,c,by simpa using this,l,I⟩
theorem zOQ(m:Nat)(k:Int):∀cs:List WD,∀W,(fUV m k).p (.agg cs.toArray) W->cs.length=2:=fun cs W h=>by
 obtain⟨s,A,n,c,rfl,_⟩:=zM6 h
 rfl
theorem zPh(k:Int):∀cs:List WD,∀W,(fNV k).p (.agg cs.toArray) W->cs.length=2:=fun cs W h=>by
 obtain⟨A,n,c,rfl,_⟩:=zGs h
 rfl
theorem zJt(cs:List WD)(W:WB)(h:(CU.agg (fNV k)).p cs W):∃u,cs[1]?=some u/\jB W u k.natAbs:=by
 obtain⟨A,n,c,rfl,l,J,I⟩:=zGs h
 exact⟨_,rfl,A,n,c,l,rfl,J,I⟩
theorem zPg(cs:List WD)(W:WB)(h:(CU.agg (fNV k)).p cs W):∃u,cs[0]?=some u/\u=.bool (decide (k<0)):=by
 obtain⟨A,n,c,rfl,l,h1,h2⟩:=zGs h
 exact⟨_,rfl,rfl⟩
theorem zOR{v:WD}(h:(fUV m k).p v W):(CU.agg (fUV m k)).p v.cells.toList W/\v.cells.toList.all z9=true:=by
 obtain⟨s,A,n,c,l,rfl,I⟩:=h
 exact⟨⟨s,A,n,c,l,rfl,I⟩,rfl⟩
theorem zGq(v:WD)(W:WB)(h:(fNV k).p v W):∃vs:List WD,v=.agg vs.toArray/\vs.length=2/\(∀u,u∈vs->u.oneCell'=true)/\vs.all z9=true/\(CU.agg (fNV k)).p vs W:=by
 obtain⟨A,n,c,l,rfl,J⟩:=h
 exact⟨[_,_],rfl,rfl,fun u I=>by simp at I;rcases I with rfl|rfl<;>rfl,rfl,A,n,c,l,rfl,J⟩
theorem NV.nat{v:WD}(h:NV W v k):∃A n c,v=.agg #[.bool (decide (k<0)),.slice A n c]/\jB W (.slice A n c) k.natAbs:=by
 obtain⟨A,n,c,l,rfl,I,J⟩:=h
 exact⟨A,n,c,rfl,A,n,c,l,rfl,I,J⟩
theorem zUz(s:Bool)(A:Option Addr)(n c:Nat):prog.built 30 [(0,.bool s),(1,.slice A n c)]=some #[.bool s,.slice A n c]:=rZ
theorem zSs{s:Bool}{v:WD}{x:Nat}(hu:u=.bool s)(J:jB W v x)(O:x<BB^m):∃cells,prog.built 30 [(0,u),(1,v)]=some cells/\UV W m (.agg cells) (if s then -(x:Int)else x):=by
 obtain⟨A,n,c,l,rfl,h,I⟩:=J
 subst hu
 refine⟨_,zUz s A n c,s,A,n,c,l,rfl,I,h.lt,by rw[<-I.len];exact h.len O,?_⟩
 unfold iv
 rw[h.val]
theorem zRw(s s':Bool)(A A':Option Addr)(n n' c c':Nat):zV prog 100 2 [(0,.agg #[.bool s,.slice A n c]),(1,.agg #[.bool s',.slice A' n' c'])]=some (30,#[.bool s,.slice A n c,.bool s',.slice A' n' c']):=rZ
theorem zBL{v:WD}(hu:UV W m u k)(hv:UV W m v k'):∃e cs,zV prog 100 2 [(0,u),(1,v)]=some (e,cs)/\ISV (W.alloc (.cells cs e)) m (.slice (some ⟨W.heap.size,0,none⟩) 2 2) [k,k']:=by
 obtain⟨s,A,n,c,l,rfl,h1,O,h3,rfl⟩:=hu
 obtain⟨s',A',n',c',l',rfl,I,h,J,rfl⟩:=hv
 exact⟨_,_,zRw s s' A A' n n' c c',ISV.two ⟨s,A,n,c,l,rfl,h1,O,h3,rfl⟩ ⟨s',A',n',c',l',rfl,I,h,J,rfl⟩ _⟩
def zMV(m:Nat)(ks:List Int):SF:=⟨fun v W=>ISV W m v ks,fun _ _ _ h hb=>h.below hb⟩
def zPn(x:Nat):SF:=⟨fun v _=>∃n:Nat,v=.int .i64 n/\(x=0↔n=0),fun _ _ _ h _=>h⟩
section
variable {F:Fence}{m:Nat}{P:WG}{w0:WB}{ops:Array Oper}{G:Nat->SF}{d:Tmp}{ty:WE}{pos:String}{aft:Array Edge}
theorem zAd(ht:P.underlying t=some (.slice (P.elem t)))(h:∀v W,(fct G x).p v W->∃A n c,v=.slice A n c/\(G d).p (.int .i64 (n:Nat)) W):qR F m P w0 ops G ⟨some d,.call ⟨.builtin .len,#[x],#[t]⟩,ty,pos,aft,none⟩:=by
 intro b W K Q hb hr hK
 obtain⟨A,n,c,e,hd⟩:=h _ _ (qX hr (x:=x) (by simp[Op.operands,Call.operands]))
 refine⟨fun f hf=>(by
  unfold Oper.about at hf
  simp[resolve,go_sem]at hf),?_⟩
 rw[bG _ _ _ (fun _ e=>by cases e)]
 have:(execOp b.eval ⟨some d,.call ⟨.builtin .len,#[x],#[t]⟩,ty,pos,aft,none⟩).run P W=.ok (.value (.int .i64 (n:Nat))) W:=by
  simp[execOp,resolve,invoke,builtin,e,run_len_slice _ _ _ _ _ _ ht,goInt]
 rw[this]
 exact hK _ _ (fun d' e'=>by cases e';exact hd) (xF _ _)
theorem zDE{k:Nat}(J:P.underlying t=some (.slice (P.elem t)))(I:∀v W,(fct G x).p v W->jB W v k)(hd:∀v W,(zPn k).p v W->(G d).p v W:=by exact fun _ _ h=>h):qR F m P w0 ops G ⟨some d,.call ⟨.builtin .len,#[x],#[t]⟩,ty,pos,aft,none⟩:=
 zAd J fun v W h=>by
  obtain⟨A,n,c,l,e,O,h2⟩:=I v W h
  exact⟨A,n,c,e,hd _ _ ⟨n,rfl,by rw[<-h2.len];exact O.zero_iff⟩⟩
theorem zQu(h:∀u v W,(fct G x).p u W->(fct G y).p v W->∃r,(∀W,(eqGuard op t x y u v).run P W=.ok () W)/\(∀W,(binOp op t u v).run P W=.ok r W)/\(G d).p r W):qR F m P w0 ops G ⟨some d,.binOp op t x y t',ty,pos,aft,none⟩:=
 qY (fun _ e=>by cases e) (fun _ e=>by cases e) fun b W hb I=>by
  obtain⟨r,O,J,h3⟩:=h _ _ W (I x (by simp[Op.operands])) (I y (by simp[Op.operands]))
  exact⟨r,by simp[execOp,O,J],h3⟩
theorem zDF{k:Nat}{b:Bool}(hb:b=decide (k=0))(O:∀v W,(fct G x).p v W->(zPn k).p v W:=by exact fun _ _ h=>h)(hd:∀W,(G d).p (.bool b) W:=by exact fun _=>rfl):qR F m P w0 ops G ⟨some d,.binOp .eql t x (.const (.int .i64 0)) t',ty,pos,aft,none⟩:=
 zQu fun u v W hu J=>by
  obtain⟨n,rfl,h1⟩:=O u W hu
  obtain rfl:v=.int .i64 0:=J
  refine⟨.bool b,fun _=>rfl,fun _=>?_,hd W⟩
  have I:((n:Int)==0)=b:=by
   rw[hb,pF]
   simp only[bH,bE]
   omega
  simp only[binOp,Op.intCmp]
  rw[I]
  rfl
end
def QVp(m:Nat)(k:Int)(d:Nat)(v:WD)(w:WB):Prop:=∃b s t,v=.agg #[b,s,t]/\UV w m (.agg #[b,s]) k/\LV w m t d
def QNp(q:Rat)(v:WD)(w:WB):Prop:=∃b s t,v=.agg #[b,s,t]/\NV w (.agg #[b,s]) q.num/\jB w t q.den
def QMp(m:Nat)(k:Int)(d:Nat)(v:WD)(w:WB):Prop:=∃b s t,v=.agg #[b,s,t]/\NV w (.agg #[b,s]) k/\LV w m t d
def QAp(m:Nat)(sg:Bool)(x:Nat)(d:Nat)(v:WD)(w:WB):Prop:=∃s t,v=.agg #[.bool sg,s,t]/\jB w s x/\LV w m t d
def fQV(m:Nat)(k:Int)(d:Nat):UF:=.mk' (QVp m k d) fun _ _ _ ⟨b,s,t,e,h1,h2⟩ u=>⟨b,s,t,e,(fUV m k).us _ _ _ h1 u,(fLV m d).us _ _ _ h2 u⟩
def fQN(q:Rat):UF:=.mk' (QNp q) fun _ _ _ ⟨b,s,t,e,h1,h2⟩ u=>⟨b,s,t,e,(fNV q.num).us _ _ _ h1 u,(jG q.den).us _ _ _ h2 u⟩
def fQM(m:Nat)(k:Int)(d:Nat):UF:=.mk' (QMp m k d) fun _ _ _ ⟨b,s,t,e,h1,h2⟩ u=>⟨b,s,t,e,(fNV k).us _ _ _ h1 u,(fLV m d).us _ _ _ h2 u⟩
def fQA(m:Nat)(sg:Bool)(x d:Nat):UF:=.mk' (QAp m sg x d) fun _ _ _ ⟨s,t,e,h1,h2⟩ u=>⟨s,t,e,(jG x).us _ _ _ h1 u,(fLV m d).us _ _ _ h2 u⟩
theorem zAM{b s t:WD}(h:Value.agg cs.toArray=.agg #[b,s,t]):cs=[b,s,t]:=by
 have:=vX Array.toList (zA7 h)
 simpa using this
theorem zO8(m:Nat)(k:Int)(d:Nat):∀cs:List WD,∀W,(fQV m k d).p (.agg cs.toArray) W->cs.length=3:=fun cs W ⟨b,s,t,e,_⟩=>by rw[zAM e];rfl
theorem yV(q:Rat):∀cs:List WD,∀W,(fQN q).p (.agg cs.toArray) W->cs.length=3:=fun cs W ⟨b,s,t,e,_⟩=>by rw[zAM e];rfl
theorem zLs(cs:List WD)(W:WB)(h:(CU.agg (fQV m k d)).p cs W):0+2<=cs.length/\UV W m (.agg ((cs.drop 0).take 2).toArray) k:=by
 obtain⟨b,s,t,e,I,_⟩:=h
 rw[zAM e]
 exact⟨eN,I⟩
theorem zHj(cs:List WD)(W:WB)(h:(CU.agg (fQV m k d)).p cs W):∃u,cs[2]?=some u/\LV W m u d:=by
 obtain⟨b,s,t,e,_,I⟩:=h
 rw[zAM e]
 exact⟨t,rfl,I⟩
theorem zRK(cs:List WD)(W:WB)(h:(CU.agg (fQV m k d)).p cs W):∃u,cs[0]?=some u/\∃s:Bool,u=.bool s:=by
 obtain⟨b,s,t,e,⟨s',A,n,c,l,e',_⟩,_⟩:=h
 rw[zAM e]
 have:=vX Array.toList (zA7 e')
 exact⟨b,rfl,s',by simp at this;exact this.1⟩
theorem zCk(cs:List WD)(W:WB)(h:(CU.agg (fQN q)).p cs W):0+2<=cs.length/\NV W (.agg ((cs.drop 0).take 2).toArray) q.num:=by
 obtain⟨b,s,t,e,I,_⟩:=h
 rw[zAM e]
 exact⟨eN,I⟩
theorem zBT(cs:List WD)(W:WB)(h:(CU.agg (fQN q)).p cs W):∃u,cs[2]?=some u/\jB W u q.den:=by
 obtain⟨b,s,t,e,_,I⟩:=h
 rw[zAM e]
 exact⟨t,rfl,I⟩
theorem zNM(cs:List WD)(W:WB)(h:(CU.agg (fQN q)).p cs W):0+3<=cs.length/\QNp q (.agg ((cs.drop 0).take 3).toArray) W:=by
 have h1:=yV q cs W h
 exact⟨oA,by rw[mH,mJ oA];exact h⟩
theorem zRP(cs:List WD)(W:WB)(h:(CU.agg (fQM m k d)).p cs W):∃u,cs[1]?=some u/\jB W u k.natAbs:=by
 obtain⟨b,s,t,e,I,_⟩:=h
 rw[zAM e]
 exact zJt [b,s] W I
theorem zRO(cs:List WD)(W:WB)(h:(CU.agg (fQM m k d)).p cs W):∃u,cs[2]?=some u/\LV W m u d:=by
 obtain⟨b,s,t,e,_,I⟩:=h
 rw[zAM e]
 exact⟨t,rfl,I⟩
theorem LV.form{v:WD}{x:Nat}(h:LV W m v x):∃A n c,v=.slice A n c:=by
 obtain⟨A,n,c,l,e,_⟩:=h
 exact⟨A,n,c,e⟩
theorem jB.form{v:WD}{x:Nat}(h:jB W v x):∃A n c,v=.slice A n c:=by
 obtain⟨A,n,c,l,e,_⟩:=h
 exact⟨A,n,c,e⟩
theorem UV.form{b s:WD}(h:UV W m (.agg #[b,s]) k):∃sg A n c,b=.bool sg/\s=.slice A n c:=by
 obtain⟨s',A,n,c,l,e,_⟩:=h
 have:=vX Array.toList (zA7 e)
 simp at this
 exact⟨s',A,n,c,this.1,this.2⟩
theorem NV.form{b s:WD}(h:NV W (.agg #[b,s]) k):∃A n c,b=.bool (decide (k<0))/\s=.slice A n c:=by
 obtain⟨A,n,c,l,e,_⟩:=h
 have:=vX Array.toList (zA7 e)
 simp at this
 exact⟨A,n,c,this.1,this.2⟩
theorem zDC{v:WD}(h:(fQV m k d).p v W):∃sg A n c A' n' c',v=.agg #[.bool sg,.slice A n c,.slice A' n' c']:=by
 obtain⟨b,s,t,rfl,J,I⟩:=h
 obtain⟨sg,A,n,c,rfl,rfl⟩:=J.form
 obtain⟨A',n',c',rfl⟩:=I.form
 exact⟨_,_,_,_,_,_,_,rfl⟩
theorem zBw{v:WD}(h:(fQN q).p v W):∃A n c A' n' c',v=.agg #[.bool (decide (q.num<0)),.slice A n c,.slice A' n' c']:=by
 obtain⟨b,s,t,rfl,J,I⟩:=h
 obtain⟨A,n,c,rfl,rfl⟩:=J.form
 obtain⟨A',n',c',rfl⟩:=I.form
 exact⟨_,_,_,_,_,_,rfl⟩
theorem zER{v:WD}(h:(fQV m k d).p v W):(CU.agg (fQV m k d)).p v.cells.toList W/\v.cells.toList.all z9=true:=by
 obtain⟨sg,A,n,c,A',n',c',rfl⟩:=zDC h
 exact⟨h,rfl⟩
theorem zFE{v:WD}(h:(fQN q).p v W):(CU.agg (fQN q)).p v.cells.toList W/\v.cells.toList.all z9=true:=by
 obtain⟨A,n,c,A',n',c',rfl⟩:=zBw h
 exact⟨h,rfl⟩
theorem zC8{sg:Bool}{c:Nat}(u:WD)(h:u∈ [Value.bool sg,.slice A n c,.slice A' n' c']):u.oneCell'=true:=by
 simp at h
 rcases h with rfl|rfl|rfl<;>rfl
theorem yO(v:WD)(W:WB)(h:(fQN q).p v W):∃vs:List WD,v=.agg vs.toArray/\vs.length=3/\(∀u,u∈vs->u.oneCell'=true)/\vs.all z9=true/\(CU.agg (fQN q)).p vs W:=by
 obtain⟨A,n,c,A',n',c',rfl⟩:=zBw h
 exact⟨[_,_,_],rfl,rfl,zC8,rfl,h⟩
theorem zNN{v:WD}(h:QNp q v W)(I:QB q m):QVp m q.num q.den v W:=by
 obtain⟨b,s,t,e,J,O⟩:=h
 exact⟨b,s,t,e,J.uv' I.1,O.lv I.2⟩
theorem zUx(s:Bool)(A A':Option Addr)(n n' c c':Nat):prog.built 32 [(0,.agg #[.bool s,.slice A n c]),(1,.slice A' n' c')]=some #[.bool s,.slice A n c,.slice A' n' c']:=rZ
theorem zJP{v:WD}(I:NV W u q.num)(h:jB W v q.den):∃cells,prog.built 32 [(0,u),(1,v)]=some cells/\QNp q (.agg cells) W:=by
 obtain⟨A,n,c,rfl,h1⟩:=I.nat
 obtain⟨A',n',c',rfl⟩:=h.form
 exact⟨_,zUx _ _ _ _ _ _ _,_,_,_,rfl,I,h⟩
theorem zTY:zV prog 28 1 [(0,.int .u32 1)]=some (81,#[.int .u32 1]):=rZ
theorem zOZ(I:u=.int .u32 1):∃e cs,zV prog 28 1 [(0,u)]=some (e,cs)/\jB (W.alloc (.cells cs e)) (.slice (some ⟨W.heap.size,0,none⟩) 1 1) 1:=by
 subst I
 refine⟨_,_,zTY,_,1,1, [1],rfl,⟨fun y h=>by simp at h;subst h;decide,fun hn=>eN,?_⟩,Rd.new W [1] _ _ (by simp[zBl]) eN⟩
 show sm (lm [1]) 1=1
 simp[sm,lm]
theorem zTZ(A:Option Addr)(n c:Nat):prog.built 30 [(1,.slice A n c)]=some #[.bool false,.slice A n c]:=rZ
theorem zMD{v:WD}{x:Nat}(h:jB W v x):∃cells,prog.built 30 [(1,v)]=some cells/\NV W (.agg cells) x:=by
 obtain⟨A,n,c,l,rfl,J,I⟩:=h
 refine⟨_,zTZ _ _ _,A,n,c,l,by rw[bD oA],by rw[pD];exact J,I⟩
theorem zUy(s:Bool)(A A':Option Addr)(n n' c c':Nat):prog.built 91 [(0,.agg #[.bool s,.slice A n c,.slice A' n' c'])]=some #[.bool s,.slice A n c,.slice A' n' c']:=rZ
theorem zSr{v:WD}(h:QVp m k d v W):∃cells,prog.built 91 [(0,v)]=some cells/\QVp m k d (.agg cells) W:=by
 obtain⟨sg,A,n,c,A',n',c',rfl⟩:=zDC h
 exact⟨_,zUy _ _ _ _ _ _ _,h⟩
def QKp(k:Int)(d:Nat)(v:WD)(w:WB):Prop:=∃b s t,v=.agg #[b,s,t]/\NV w (.agg #[b,s]) k/\jB w t d
def fQK(k:Int)(d:Nat):UF:=.mk' (QKp k d) fun _ _ _ ⟨b,s,t,e,h1,h2⟩ u=>⟨b,s,t,e,(fNV k).us _ _ _ h1 u,(jG d).us _ _ _ h2 u⟩
theorem zS4{v:WD}(h:QKp k d v W)(I:Bd k m)(hd:d<BB^m):QVp m k d v W:=by
 obtain⟨b,s,t,e,O,J⟩:=h
 exact⟨b,s,t,e,O.uv' I,J.lv hd⟩
theorem zRQ(cs:List WD)(W:WB)(h:(CU.agg (fQK k d)).p cs W):∃u,cs[2]?=some u/\jB W u d:=by
 obtain⟨b,s,t,e,_,I⟩:=h
 rw[zAM e]
 exact⟨t,rfl,I⟩
theorem zEZ{v:WD}{x:Nat}(h:jB W v x):v.cells=#[v]/\v.oneCell'=true/\z9 v=true:=by
 obtain⟨A,n,c,rfl⟩:=h.form
 exact⟨rfl,rfl,rfl⟩
theorem zNf(v:WD)(W:WB)(h:(fQN q).p v W):v.cells.size=3/\(∀u,u∈v.cells.toList->u.oneCell'=true)/\v.cells.toList.all z9=true/\∀cs,(CU.agg (fQV m k d)).p cs W->0+3<=cs.length/\(CU.agg (fQN q)).p (j7 cs 0 v.cells.toList) W:=by
 obtain⟨A,n,c,A',n',c',rfl⟩:=zBw h
 refine⟨rfl,zC8,rfl,fun cs I=>?_⟩
 obtain⟨b,s,t,e,_⟩:=I
 rw[zAM e]
 exact⟨eN,h⟩
theorem zPL(v:WD)(W:WB)(h:(fNV k).p v W):v.cells.size=2/\(∀u,u∈v.cells.toList->u.oneCell'=true)/\v.cells.toList.all z9=true/\∀cs,(CU.agg (fQV m k0 d)).p cs W->0+2<=cs.length/\(CU.agg (fQM m k d)).p (j7 cs 0 v.cells.toList) W:=by
 obtain⟨A,n,c,rfl,h1⟩:=NV.nat h
 refine⟨rfl,fun u I=>by simp[Value.cells]at I;rcases I with rfl|rfl<;>rfl,rfl,fun cs J=>?_⟩
 obtain⟨b,s,t,e,_,O⟩:=J
 rw[zAM e]
 exact⟨eN,_,_,t,rfl,h,O⟩
theorem zPM(v:WD)(W:WB)(h:(fNV k).p v W):v.cells.size=2/\(∀u,u∈v.cells.toList->u.oneCell'=true)/\v.cells.toList.all z9=true/\∀cs,(CU.agg (fQK k0 d)).p cs W->0+2<=cs.length/\(CU.agg (fQK k d)).p (j7 cs 0 v.cells.toList) W:=by
 obtain⟨A,n,c,rfl,h1⟩:=NV.nat h
 refine⟨rfl,fun u I=>by simp[Value.cells]at I;rcases I with rfl|rfl<;>rfl,rfl,fun cs J=>?_⟩
 obtain⟨b,s,t,e,_,O⟩:=J
 rw[zAM e]
 exact⟨eN,_,_,t,rfl,h,O⟩
theorem zPN{d0:Nat}(v:WD)(W:WB)(h:(jG d).p v W):v.cells.size=1/\(∀u,u∈v.cells.toList->u.oneCell'=true)/\v.cells.toList.all z9=true/\∀cs,(CU.agg (fQK k d0)).p cs W->2+1<=cs.length/\(CU.agg (fQK k d)).p (j7 cs 2 v.cells.toList) W:=by
 obtain⟨h1,J,h3⟩:=zEZ h
 rw[h1]
 refine⟨rfl,fun u I=>by simp at I;rw[I];exact J,by simp[h3],fun cs hc=>?_⟩
 obtain⟨b,s,t,e,O,_⟩:=hc
 rw[zAM e]
 exact⟨eN,b,s,v,rfl,O,h⟩
theorem zRn{x:Nat}(v:WD)(W:WB)(h:(jG x).p v W):v.cells.size=1/\(∀u,u∈v.cells.toList->u.oneCell'=true)/\v.cells.toList.all z9=true/\∀cs,(CU.agg (fQM m k d)).p cs W->1+1<=cs.length/\(CU.agg (fQA m (decide (k<0)) x d)).p (j7 cs 1 v.cells.toList) W:=by
 obtain⟨h1,J,h3⟩:=zEZ h
 rw[h1]
 refine⟨rfl,fun u I=>by simp at I;rw[I];exact J,by simp[h3],fun cs hc=>?_⟩
 obtain⟨b,s,t,e,O,h5⟩:=hc
 obtain⟨A,n,c,rfl,rfl⟩:=O.form
 rw[zAM e]
 exact⟨eN,v,t,rfl,h,h5⟩
theorem zRm{sg:Bool}{x y:Nat}(hs:sg=decide (q.num<0))(hx:x=q.num.natAbs)(O:y=q.den)(v:WD)(W:WB)(h:(jG y).p v W):v.cells.size=1/\(∀u,u∈v.cells.toList->u.oneCell'=true)/\v.cells.toList.all z9=true/\∀cs,(CU.agg (fQA m sg x d)).p cs W->2+1<=cs.length/\(CU.agg (fQN q)).p (j7 cs 2 v.cells.toList) W:=by
 obtain⟨h1,h2,h3⟩:=zEZ h
 rw[h1]
 refine⟨rfl,fun u I=>by simp at I;rw[I];exact h2,by simp[h3],fun cs hc=>?_⟩
 obtain⟨s,t,e,h4,_⟩:=hc
 rw[zAM e]
 refine⟨eN,.bool sg,s,v,rfl,?_,by rw[<-O];exact h⟩
 obtain⟨A,n,c,l,rfl,g1,J⟩:=h4
 exact⟨A,n,c,l,by rw[hs],by rw[<-hx];exact g1,J⟩
def RVp(m:Nat)(q:Rat)(v:WD)(w:WB):Prop:=∃k d,QVp m k d v w/\mkRat k d=q
def fRV(m:Nat)(q:Rat):UF:=.mk' (RVp m q) fun _ _ _ ⟨k,d,h,e⟩ u=>⟨k,d,(fQV m k d).us _ _ _ h u,e⟩
theorem wH{v:WD}(h:QNp q v W)(I:QB q m):RVp m q v W:=⟨_,_,zNN h I,Rat.mkRat_self q⟩
theorem RVp.qb{v:WD}(h:RVp m q v W)(I:0<m):QB q m:=by
 obtain⟨k,d,⟨b,s,t,_,J,O⟩,rfl⟩:=h
 exact QB.of J.bd O.bound I
theorem zBu(m:Nat)(q:Rat):∀cs:List WD,∀W,(fRV m q).p (.agg cs.toArray) W->cs.length=3:=fun cs W ⟨k,d,h,_⟩=>zO8 m k d cs W h
theorem zDP{v:WD}(h:(fRV m q).p v W):(CU.agg (fRV m q)).p v.cells.toList W/\v.cells.toList.all z9=true:=by
 obtain⟨k,d,O,J⟩:=h
 obtain⟨g1,I⟩:=zER O
 exact⟨⟨k,d,g1,J⟩,I⟩
theorem zEt{f:FuncId}{args:Array WD}(h:Calls P f args W fun e w'=>e=.returned u/\Below W.heap.size W w'):Calls P f args W (Ret W (UF.eq u).tS):=h.mono fun _ _ ⟨I,J⟩=>⟨u,I,rfl,J⟩
def SF.row(z:Nat)(Cs:List CU):SF:=⟨fun v W=>∃A c,v=.slice A Cs.length c/\Cs.length<=c/\c<=9223372036854775807/\(A=none->c=0)/\∀i C,Cs[i]?=some C->∃b o cs,A=some ⟨b,o,none⟩/\Mem W b (o+i*z) cs/\C.p cs W,
 fun _ _ _ ⟨A,c,h1,h2,h3,h4,h5⟩ hb=>⟨A,c,h1,h2,h3,h4,fun i C hi=>let⟨b,o,cs,g1,g2,g3⟩:=h5 i C hi;⟨b,o,cs,g1,g2.below hb,C.us _ _ _ g3 (zN hb)⟩⟩⟩
theorem zAa{l v:WD}{I:WB}(J:(SF.row z Cs).p l I)(h:v=l)(O:Below I.heap.size I W):(SF.row z Cs).p v W:=by subst h;exact(SF.row z Cs).st _ _ _ J O
theorem y7{B:List Bx}{ds:List Deferred}{l:WD}(I:(SF.row z Cs).p l w0)(s:St w0 K B n ds a w)(v:WD)(W:WB)(J:Below w.heap.size w W)(h:v=l):(SF.row z Cs).p v W:=zAa I h (s.up J)
def zA8(P:WG)(t:WE):Option Nat:=match P.underlying t with
 |some (.slice e)=>(P.info? e).map (·.size)
 |_=>none
section
variable {F:Fence}{m:Nat}{P:WG}{w0:WB}{ops:Array Oper}{G:Nat->SF}{d:Tmp}{ty:WE}{pos:String}{aft:Array Edge}
theorem zCE{C:CU}(hz:zA8 P t=some z)(O:Cs[i]?=some C)(hx:∀v W,(fct G x).p v W->(SF.row z Cs).p v W)(hy:∀v W,(fct G y).p v W->v=.int .i64 (i:Int))(hd:∀v W,(wB C.cf).p v W->(G d).p v W:=by exact fun _ _ h=>h):qR F m P w0 ops G ⟨some d,.indexAddr t x y,ty,pos,aft,none⟩:=
 qY (fun _ e=>by cases e) (fun _ e=>by cases e) fun b W hb hh=>by
  obtain⟨A,c,e,h2,h3,h4,h5⟩:=hx _ _ (hh x (by simp[Op.operands]))
  have e2:=hy _ _ (hh y (by simp[Op.operands]))
  obtain⟨b',o,cs,rfl,h6,h7⟩:=h5 i C O
  have hlt:i<Cs.length:=(cD.1 O).1
  unfold zA8 at hz
  split at hz<;>try cases hz
  rename_i e' hu
  cases hin:P.info? e' with
  |none=>rw[hin]at hz;cases hz
  |some ie=>
   rw[hin]at hz
   simp only[fO,fP]at hz
   have I:P.elem t=e':=by simp[Program.elem,hu]
   refine⟨.pointer (some ⟨b',o+i*z,none⟩),?_,hd _ _ ⟨b',o+i*z,cs,rfl,h7,h6⟩⟩
   have J:(0:Int)<=(i:Int)/\(i:Int)<(Cs.length:Nat):=oA
   simp only[execOp,e,e2]
   rw[bW,pZ _ _ _ _ _ _ _ (by rw[I];exact hu),if_pos J,I]
   simp[sizeOf,typeInfo,hin,hz,xH]
def SF.imp(c:Prop)(f:SF):SF:=⟨fun v W=>c->f.p v W,fun _ _ _ h hb hc=>f.st _ _ _ (h hc) hb⟩
theorem zI{op:Op}(L:List (Nat×SF))(f:SF)(hL:∀q,q∈L->∀v W,(G q.1).p v W->q.2.p v W)(hd:∀v W,f.p v W->(G d).p v W)(I:(!(zCY ⟨some d,op,ty,pos,aft,none⟩).contains d&& !(L.map (·.1)).contains d)=true)
  (h:qR F m P w0 ops (upd (upd G [(d,f)]) L) ⟨some d,op,ty,pos,aft,none⟩):qR F m P w0 ops G ⟨some d,op,ty,pos,aft,none⟩:=by
 rw[xU]at I
 intro b W K Q hb hr hK
 refine h b W K Q hb (fun t ht=>?_) fun v W' hv O=>hK v W' (fun d' e=>?_) O
 .have h0:Nat.beq d t=false:=by
   cases e:Nat.beq d t with
   |false=>rfl
   |true=>
    have:=cG e
    subst this
    have J:=I.1
    rw[bV.2 ht]at J
    cases J
  have h3:∀l:List (Nat×SF),(∀q,q∈l->∀v W,(G q.1).p v W->q.2.p v W)->(upd (upd G [(d,f)]) l t).p (b.tmps.getD t undef) W:=by
   intro l
   induction l with
   |nil=>
    intro _
    show(bif Nat.beq d t then f else G t).p _ _
    rw[h0]
    exact hr t ht
   | cons q l ih=>
    intro hl
    show(bif Nat.beq q.1 t then q.2 else upd (upd G [(d,f)]) l t).p _ _
    cases e:Nat.beq q.1 t with
    |true=>
     have e2:=cG e
     exact hl q eN _ _ (by rw[e2];exact hr t ht)
    |false=>exact ih fun x hx=>hl x (by simp[hx])
  exact h3 L hL
 .cases e
  have J:=hv d rfl
  rw[zAu (by simpa using I.2)]at J
  have h2:(bif Nat.beq d d then f else G d).p v W':=J
  rw[show Nat.beq d d=true from fY d]at h2
  exact hd v W' h2
theorem zBH{b:Bool}{v:WD}(h:v=.bool c)(e:b=true):v=.bool (b&&c):=by rw[e];exact h
theorem zBc{b:Bool}{v:WD}(h:v=.bool false)(e:b=false):v=.bool (b&&c):=by rw[e];exact h
theorem qH{b:Bool}{v:WD}(h:v=.bool true)(e:b=true):v=.bool (b||c):=by rw[e];exact h
theorem yX{b:Bool}{v:WD}(h:v=.bool c)(e:b=false):v=.bool (b||c):=by rw[e];exact h
theorem zJ(k:IntKind)(u v:Int)(r:Bool)(O:∀q W,(fct G x).p q W->q=.int k u)(I:∀q W,(fct G y).p q W->q=.int k v)(h:(match op with| .eql=>u==v| .neq=>u !=v| .lss=>decide (u<v)| .leq=>decide (u<=v)| .gtr=>decide (u>v)| .geq=>decide (u≥v)|_=>false)=r)(J:(match op with| .eql| .neq| .lss| .leq| .gtr| .geq=>true|_=>false)=true)(hd:∀W,(G d).p (.bool r) W:=by exact fun _=>rfl):qR F m P w0 ops G ⟨some d,.binOp op t x y t',ty,pos,aft,none⟩:=
 zDg (.int k u) (.int k v) (.bool r) O I (fun W=>by cases op<;>simp[eqGuard]) (fun W=>by
  cases op<;>first
   |exact absurd J Bool.false_ne_true
   |(subst h;simp[binOp,Op.intCmp])) hd
theorem yL(k:IntKind)(u v r:Int)(J:∀q W,(fct G x).p q W->q=.int k u)(I:∀q W,(fct G y).p q W->q=.int k v)(h:k.wrap (u+v)=r)(hd:∀W,(G d).p (.int k r) W:=by exact fun _=>rfl):qR F m P w0 ops G ⟨some d,.binOp .add t x y t',ty,pos,aft,none⟩:=
 zDg (.int k u) (.int k v) (.int k r) J I (fun W=>by simp[eqGuard]) (fun W=>by simp[binOp,Op.intArith,h]) hd
theorem zLG(u v:Int)(hx:∀q W,(fct G x).p q W->q=.int .i64 u)(hy:∀q W,(fct G y).p q W->q=.int .i64 v)(hd:∀W,(G d).p (.int .i64 (min u v)) W:=by exact fun _=>rfl):qR F m P w0 ops G ⟨some d,.call ⟨.builtin .min,#[x,y],ats⟩,ty,pos,aft,none⟩:=by
 intro b W K Q hb hr hK
 have e1:=hx _ _ (qX hr (x:=x) (by simp[Op.operands,Call.operands]))
 have e2:=hy _ _ (qX hr (x:=y) (by simp[Op.operands,Call.operands]))
 refine⟨fun f hf=>(by
  unfold Oper.about at hf
  simp[resolve,go_sem]at hf),?_⟩
 rw[bG _ _ _ (fun _ e=>by cases e)]
 have:(execOp b.eval ⟨some d,.call ⟨.builtin .min,#[x,y],ats⟩,ty,pos,aft,none⟩).run P W=.ok (.value (.int .i64 (min u v))) W:=by
  have h:min u v=if v<u then v else u:=by split<;>omega
  simp[execOp,resolve,invoke,builtin,e1,e2,Builtin.min_,Builtin.min2,h]
 rw[this]
 exact hK _ _ (fun d' e'=>by cases e';exact hd _) (xF _ _)
theorem zCm(I:P.underlying t=some (.slice (P.elem t)))(J:∀v W,(fct G x).p v W->(SF.row z Cs).p v W:=by exact fun _ _ h=>h)(hd:∀W,(G d).p (.int .i64 (Cs.length:Nat)) W:=by exact fun _=>rfl):qR F m P w0 ops G ⟨some d,.call ⟨.builtin .len,#[x],#[t]⟩,ty,pos,aft,none⟩:=
 zAd I fun v W h=>by
  obtain⟨A,c,e,_⟩:=J v W h
  exact⟨A,Cs.length,c,e,hd W⟩
end
section
variable {S:Nat->Prop}{F:Fence}{m:Nat}{P:WG}{Q:Exit->Act->WB->Prop}{w0:WB}{K:List (Nat×KF)}{B:List Bx}{n:Nat}{ds:List Deferred}{a:Act}{w:WB}
end
theorem zE6{p:Nat->Prop}:∀n,p n->∃s,p s/\∀k,k<s-> ¬p k:=by
 intro n
 induction n using Nat.strongRecOn with
 | _ n ih=>
  intro J
  by_cases h:∃k,k<n/\p k
  .obtain⟨k,I,hp⟩:=h
   exact ih k I hp
  .exact⟨n,J,fun k I hp=>h ⟨k,I,hp⟩⟩
section
variable {S:Nat->Prop}{F:Fence}{m:Nat}{P:WG}{Q:Exit->Act->WB->Prop}{w0:WB}{K:List (Nat×KF)}{B:List Bx}{n:Nat}{ds:List Deferred}{a:Act}{w:WB}
theorem zIR{σ:Type}{c:Code}(I:σ->Prop)(Kf:σ->List (Nat×KF))(O:σ->List Bx)(Df:σ->List Deferred)(J:σ->Nat)(x0:σ)(hI:I x0)(h0:StS S w0 (Kf x0) (O x0) n (Df x0) a w)
  (round:∀x a w,I x->StS S w0 (Kf x) (O x) n (Df x) a w->c.wpIn F m P (Exit.then (fun a' w'=>∃y,I y/\J y<J x/\StS S w0 (Kf y) (O y) n (Df y) a' w') Q) a w):(Code.loop c).wpIn F m P Q a w:=by
 have low:∀a w,(∃k,∃x,I x/\J x=k/\StS S w0 (Kf x) (O x) n (Df x) a w)->∃k,(∃x,I x/\J x=k/\StS S w0 (Kf x) (O x) n (Df x) a w)/\∀j,j<k-> ¬ ∃x,I x/\J x=j/\StS S w0 (Kf x) (O x) n (Df x) a w:=
  fun a w ⟨k,hk⟩=>zE6 k hk
 open Classical in
 refine wpIn_loop (fun a w=>∃k,∃x,I x/\J x=k/\StS S w0 (Kf x) (O x) n (Df x) a w) (fun a w=>if h:∃k,∃x,I x/\J x=k/\StS S w0 (Kf x) (O x) n (Df x) a w then Classical.choose (low a w h)else 0) ⟨_,x0,hI,rfl,h0⟩ ?_
 rintro a w hA
 have e0:=rA (low a w hA)
 obtain⟨x,hx,hm,h9⟩:=e0.1
 refine cX ?_ (round x a w hx h9)
 intro e a' w' h
 cases e with
 |normal=>
  obtain⟨y,h1,h2,h3⟩:∃y,I y/\J y<J x/\StS S w0 (Kf y) (O y) n (Df y) a' w':=h
  have h6:∃k,∃x,I x/\J x=k/\StS S w0 (Kf x) (O x) n (Df x) a' w':=⟨_,y,h1,rfl,h3⟩
  refine⟨h6,?_⟩
  simp only[dif_pos hA,dif_pos h6]
  have e1:=rA (low a' w' h6)
  have:Classical.choose (low a' w' h6)<=J y:=Nat.not_lt.1 fun h8=>e1.2 _ h8 ⟨y,h1,rfl,h3⟩
  omega
 |_=>exact h
theorem zKU{σ:Type}{c:Code}(t:Nat)(J:σ->CU)(I:σ->Prop)(O:σ->List (Nat×KF))(mu:σ->Nat)(h:σ)(hI:I h)(h0:StS S w0 (O h) B n ds a w)(hB:zF3 B t (J h)=B)
  (round:∀x a w,I x->StS S w0 (O x) (zF3 B t (J x)) n ds a w->c.wpIn F m P (Exit.then (fun a' w'=>∃y,I y/\mu y<mu x/\StS S w0 (O y) (zF3 B t (J y)) n ds a' w') Q) a w):(Code.loop c).wpIn F m P Q a w:=
 zIR I O (fun x=>zF3 B t (J x)) (fun _=>ds) mu h hI (by rw[hB];exact h0) round
theorem zKT{σ:Type}{c:Code}(I:σ->Prop)(h:σ->List (Nat×KF))(J:σ->Nat)(O:σ)(hI:I O)(h0:StS S w0 (h O) B n ds a w)
  (round:∀x a w,I x->StS S w0 (h x) B n ds a w->c.wpIn F m P (Exit.then (fun a' w'=>∃y,I y/\J y<J x/\StS S w0 (h y) B n ds a' w') Q) a w):(Code.loop c).wpIn F m P Q a w:=
 zIR I h (fun _=>B) (fun _=>ds) J O hI h0 round
theorem StS.popB{x:Bx}(h:StS S w0 K (x::B) n ds a w):StS S w0 K B n ds a w:=⟨h.gr,h.size,h.nd,h.sl,h.bx.2,h.mks,h.so⟩
theorem StS.renew(h:St w0 K B n ds a w)(J:List (Nat×KF))(O:∀q,q∈J->q∈K∨ ∃g,q.2=KF.u g/\(q.1,KF.o g.tS)∈K):St w0 J B n ds a w:=
 ⟨h.gr,h.size,h.nd,fun q hq=>by
  rcases O q hq with I|⟨g,e,I⟩
  .exact h.sl q I
  .have:=h.sl _ I
   rw[e]
   exact g.us _ _ _ this (zN h.gr.below),h.bx,h.mks,.inr fun _ h=>h⟩
end
section
variable {S:Nat->Prop}{w0:WB}{K:List (Nat×KF)}{B:List Bx}{n:Nat}{ds:List Deferred}{a:Act}{w:WB}
theorem zG{c:Prop}{f:SF}{v:WD}(e:c)(h:(SF.imp c f).p v W):f.p v W:=h e
variable {F:Fence}{m:Nat}{P:WG}{ops:Array Oper}{Q:Exit->Act->WB->Prop}
end
structure NewB where
 i:Nat
 d:Nat
 e:WE
 cs:List WD
 f:SF
def SF.isIn(f:SF)(L:List (Nat×SF))(d:Nat):Prop:=(d,f)∈L
def zMS(al:List NewB)(a:Act):Prop:=∀q q',q∈al->q'∈al->q.i≠q'.i->∀b b',blk (a.tmps.getD q.d undef)=some b->blk (a.tmps.getD q'.d undef)=some b'->b≠b'
section
variable {S:Nat->Prop}{w0:WB}{K:List (Nat×KF)}{B:List Bx}{n:Nat}{ds:List Deferred}{a:Act}{w:WB}{F:Fence}{m:Nat}{P:WG}{ops:Array Oper}{Q:Exit->Act->WB->Prop}
theorem zGj{te:WE}{C:CU}(O:∀W,C.p cs W)(J:cs.all z9=true)(v:WD)(w:WB)(h:(wQ W te cs).p v w):(wK W te C).p v w:=by
 obtain⟨b,h1,I,h3⟩:=h
 exact⟨b,cs,h1,I,h3,O w,J⟩
theorem StS.adoptA(h:StS S w0 K B n ds a w){W:WB}{te:WE}{C:CU}(r:Bool)(t:Nat)(hv:(wK W te C).p (a.tmps.getD t undef) w)(hW:BlS S w0 W)(hB:∀y,y∈B->y.b<W.heap.size∨(r=true/\y.r=true)∨ ∀b,blk (a.tmps.getD t undef)=some b->y.b≠b):∃b,W.heap.size<=b/\blk (a.tmps.getD t undef)=some b/\StS S w0 K (⟨t,te,C,b,r⟩::B) n ds a w:=by
 obtain⟨b,cs,I,J,h3,h4,h5⟩:=hv
 refine⟨b,J,by rw[I];rfl,h.gr,h.size,h.nd,h.sl,⟨⟨cs,I,.inr (.inl (xQ hW.size J)),h3,h4,h5,fun y O=>?_⟩,h.bx⟩,h.mks,h.so⟩
 rcases hB y O with e|e|e
 .left
  show y.b≠b
  omega
 .exact .inr e
 .exact .inl (e b (by rw[I];rfl))
end
set_option maxRecDepth 100000
def zT9(a b:Nat)(w:WB)(x y:WD)(w':WB):Prop:=∃p q:Nat,x=.int .u64 p/\y=.int .u64 q/\Nat.gcd p q=Nat.gcd a b/\p<18446744073709551616/\q<18446744073709551616/\Below w.heap.size w w'
theorem zLj{v:WD}(a b:Nat)(hu:u=.int .u64 (a:Int))(hv:v=.int .u64 (b:Int))(ha:a<18446744073709551616)(hb:b<18446744073709551616):Calls prog 79 #[u,v] W (Ret W (UF.eq (.int .u64 ((Nat.gcd a b:Nat):Int))).tS):=by
 subst hu
 subst hv
 have hmix:prog.follows .mixedOrders=true:=rZ
 go_enter func79,ntmps79
 go_wp2
 go_loopw [0,1] (zT9 a b W) (fun _ y _=>(intOf y).toNat)
 case atStart=>exact⟨a,b,rfl,rfl,rfl,ha,hb,xF _ _⟩
 case round=>
  obtain⟨p,q,rfl,rfl,hg,hp,hq,hB⟩:=hrel
  have HG:=hid hg
  clear hg
  by_cases h0:0<q
  .have hq0:(q:Int)≠0:=oA
   have hmod:(p:Int).tmod (q:Int)=((p%q:Nat):Int):=by rw[nE oA,nI]
   have hlt:p%q<q:=uH _ h0
   obtain⟨r,hr⟩:∃r,p%q=r:=⟨_,rfl⟩
   rw[hr]at hmod hlt
   have HR:=hid hr
   clear hr
   go_wp2
   refine(bJ (n:=0)).1<|zZ 100 (fun _=>True) hmix<|zQ (i:=0) (v:=?vv1) kA kA rfl kA kA kA (fun _ _ _ h=>h) trivial ⟨.inl ⟨rfl,?yy1⟩,fun _=>rfl⟩ ?_
   case yy1=>
    rintro wx _
    go_simp
    first|done|rfl
   refine zQ (i:=1) (v:=?vv2) kA kA rfl kA kA kA (fun _ _ _ h=>h) trivial ⟨.inl ⟨rfl,?yy2⟩,fun _=>rfl⟩ ?_
   case yy2=>
    rintro wx _
    go_simp
    first|done|rfl
   refine zQ (i:=2) (v:=?vv3) kA kA rfl kA kA kA (fun _ _ _ h=>h) trivial ⟨.inl ⟨rfl,?yy3⟩,fun _=>rfl⟩ ?_
   case yy3=>
    rintro wx _
    go_simp
    first|done|rfl
   refine zQ (i:=3) (v:=.int .u64 (r:Nat)) kA kA rfl kA kA kA (fun _ _ _ h=>h) trivial ⟨.inl ⟨rfl,?y3⟩,fun _=>rfl⟩ ?_
   case y3=>
    rintro wx _
    go_simp
    omega
   refine zAq (i:=4) kA rfl (fun K hK=>?_)
   go_simp
   refine hK _ _ (.inr trivial) ?_
   clear hK K
   refine zAq (i:=5) kA rfl (fun K hK=>?_)
   go_simp
   refine hK _ _ (.inr trivial) ?_
   clear hK K
   refine zCd kA ?_
   go_wp2
   go_roundw
   case rel=>exact⟨q,r,rfl,sE,by rw[<-HG.out,<-HR.out,uQ p q,Nat.gcd_rec q p,uQ],hq,oA,hB.drew⟩
   case measure=>simp[intOf];omega
  .obtain rfl:q=0:=oA
   go_wp2
   go_ret
   have:=HG.out
   rw[Nat.gcd_zero_right]at this
   subst this
   exact⟨_,rfl,rfl,hB⟩
attribute [local go_sem] Oper.semAt_some qD yA
theorem zUs(k:Int)(h: -9223372036854775808<=k/\k<=9223372036854775807):Calls prog 51 #[.int .i64 k] W (zGO W k):=
 (zIT k h.1 h.2 W).mono fun _ _=>qN.v
theorem zS1{v:WD}(h:UV W m v k)(hm:m<=90000):Calls prog 61 #[v] W (zGO W (-k)):=by
 obtain⟨s,A,n,c,l,rfl,I,J,h3,rfl⟩:=h
 exact(zHg s A n c l W I J oA).mono fun _ _=>qN.v
theorem zGc{v:WD}(h:UV W m v k)(hm:m<=90000):Calls prog 58 #[v] W (zGO W k):=by
 obtain⟨s,A,n,c,l,rfl,I,J,h3,rfl⟩:=h
 exact(zAm s A n c l W I J oA).mono fun _ _=>qN.v
theorem zJd{v:WD}(h:UV W m v k)(hm:m<=90000):Calls prog 37 #[v] W fun e w'=>e=.returned (.int .i64 k.sign)/\Below W.heap.size W w':=by
 obtain⟨s,A,n,c,l,rfl,I,J,h3,rfl⟩:=h
 exact zJ8 s A n c l W I J oA
theorem zQc{v:WD}(h:UV W m v k)(h':UV W m v' k')(hm:m<=90000):Calls prog 39 #[v,v'] W (zGO W (k-k')):=by
 obtain⟨s,A,n,c,l,rfl,h1,h2,h3,rfl⟩:=h
 obtain⟨s',A',n',c',l',rfl,J,I,O,rfl⟩:=h'
 exact(zLm s A n c l s' A' n' c' l' W h1 h2 J I m h3 O hm).mono fun _ _=>qN.v
theorem zRG(k:Int)(h: -9223372036854775808<=k/\k<=9223372036854775807):Calls prog 47 #[.int .i64 k] W (zGO W k):=
 (zJe k h.1 h.2 W).mono fun _ _=>qN.v
theorem zQe{v:WD}(h:ISV W m v ks)(hm:m<=2000)(hn:ks.length<=1000)(hk:ks.sum=k):Calls prog 60 #[v] W (zGO W k):=by
 obtain⟨is,h1,J⟩:=h
 have hl:is.length=ks.length:=by rw[<-J,xT]
 obtain⟨A,c,e,h3,h4,O⟩:=h1
 have hb:∀j,j<=is.length->(zDu is j).natAbs<BB^(m+1000):=by
  intro j hj
  have I:∀j,Bd (zDu is j) (m+j):=by
   intro j
   induction j with
   |zero=>exact uN qA
   |succ j ih=>
    have e1:zDu is (j+1)=zDu is j+zDH is j:=rfl
    rw[e1]
    exact(ih.add ((show Bd (zDH is j) m from zGw O j).mono oA)).mono oA
  exact(I j).mono oA
 have:=zQf (m+1000) (⟨A,c,e,h3,h4,O⟩:IS W m v is) oA oA oA hb
 rw[zE7 is is.length (vR _),pA,J,hk]at this
 exact this
theorem zGd{v:WD}(h:ISV W m v ks)(hn:m*ks.length+m+1<=40000)(O:ks.foldl (·*·) 1=k)(hl:ks.length<=1000):Calls prog 40 #[v] W (zGO W k):=by
 obtain⟨is,h1,I⟩:=h
 have hl2:is.length=ks.length:=by rw[<-I,xT]
 obtain⟨A,c,e,h3,h4,J⟩:=h1
 have:=zQd (m*ks.length+m+1) (⟨A,c,e,h3,h4,J⟩:IS W m v is) oA oA oA (fun k O=>(zGy J k).mono (by
  have:m*k<=m*ks.length:=uR _ oA
  omega))
 rw[zDI is is.length (vR _),pA,I,O]at this
 exact this
section
variable {F:Fence}{n:Nat}{P:WG}{ops:Array Oper}{Q:Exit->Act->WB->Prop}
def zCy(ops:Array Oper)(i:Nat):Array Bool:=((List.range ops.size).map fun j=>zCS ops ops.size j i).toArray
theorem zOd{listed:Array Bool}(O:∀j,j<ops.size->zCS ops ops.size j i=true->listed.getD j true=true)(h:Region.free .any ops (zCy ops i) i=true):Region.free .any ops listed i=true:=by
 unfold Region.free at h ⊢
 split at h
 .exact h
 .refine xR.2 fun j hj=>?_
  have I:=xR.1 h j hj
  have J:(zCy ops i).getD j true=zCS ops ops.size j i:=by
   unfold zCy
   rw[xS]
   simp[xV.1 hj]
  rw[J]at I
  cases hc:zCS ops ops.size j i with
  |true=>rw[O j (xV.1 hj) hc,Bool.or_true,pY]
  |false=>
   rw[hc,Bool.or_false]at I
   rw[Bool.or_assoc,Bool.or_comm (listed.getD j true),<-Bool.or_assoc,I,pY]
theorem zMg{K:Act->WB->Prop}(ho:ops[i]?=some o)(I:zDp ops i=true)(h:wpOpIn F n P ops (qV Q) i K a w):∃d v,o.dst=some d/\zAk P ops (fun _=>True) o v a/\K (a.put (some d) v) w:=by
 unfold zDp at I
 rw[ho]at I
 unfold wpOpIn at h
 rw[ho]at h
 split at I
 .rename_i d x ty pos aft O
  cases O
  refine⟨d,a.eval x,rfl,⟨.inl ⟨rfl,fun w _=>rfl⟩,fun w=>rfl⟩,?_⟩
  have J:=h.2
  rw[bG _ _ _ (fun _ e=>by cases e)]at J
  exact J
 .rename_i d x j ty pos aft O
  cases O
  have J:=h.2
  rw[bG _ _ _ (fun _ e=>by cases e)]at J
  cases hrun:(Instr.extract (a.eval x) j).run P w with
  |halt y w'=>
   have O:(execOp a.eval ⟨some d,.extract x j,ty,pos,aft,none⟩).run P w=.halt y w':=by simp[execOp,hrun]
   rw[O]at J
   cases y<;>exact J.elim
  | ok v w'=>
   have hw:w'=w:=by
    unfold Instr.extract at hrun
    split at hrun
    .split at hrun
     .simp at hrun;exact hrun.2.symm
     .simp at hrun
    .simp at hrun
   subst hw
   have O:(execOp a.eval ⟨some d,.extract x j,ty,pos,aft,none⟩).run P w'=.ok (.value v) w':=by simp[execOp,hrun]
   rw[O]at J
   exact⟨d,v,rfl,⟨.inl ⟨rfl,fun w _=>by simp[execOp,zCi _ _ _ w hrun]⟩,fun w=>rfl⟩,J⟩
 .cases I
theorem zJV{v:WD}{K:Act->WB->Prop}(O:ops[i]?=some o)(J:zAn ops=true)(hy:zAk P ops CW o v a)(hw:CW w)(h:wpOpIn F n P ops Q i K a w):K (a.put o.dst v) w:=by
 unfold wpOpIn at h
 simp only[O]at h
 rcases hy.1 with⟨I,hv⟩|⟨I,rfl⟩
 .simp only[I,cH,Oper.wpIn,bG _ _ _ (zB4 J O),hv w hw,Oper.uponIn]at h
  exact h.2
 .simp only[I,xI,xK]at h
  exact h.2
end
def inL:List Nat->Nat->Bool
 | [],_=>false
 |k::l,i=>bif Nat.beq k i then true else inL l i
theorem zE9(l m:List Nat)(i:Nat):inL (l++m) i=(inL l i||inL m i):=by
 induction l with
 |nil=>rfl
 |cons k l ih=>
  show(bif Nat.beq k i then true else inL (l++m) i)=((bif Nat.beq k i then true else inL l i)||inL m i)
  cases Nat.beq k i with
  |true=>rfl
  |false=>exact ih
theorem zE8{l:List Nat}(h:inL l i=true):i∈l:=by
 induction l with
 |nil=>cases h
 |cons k l ih=>
  have h:(bif Nat.beq k i then true else inL l i)=true:=h
  cases e:Nat.beq k i with
  |true=>rw[cG e];exact eI ..
  |false=>rw[e]at h;exact eB _ (ih h)
theorem zFO{l:List Nat}(h:i∈l):inL l i=true:=by
 induction l with
 |nil=>cases h
 |cons k l ih=>
  show(bif Nat.beq k i then true else inL l i)=true
  rcases xX.1 h with rfl|h
  .rw[fY];rfl
  .rw[ih h];cases Nat.beq k i<;>rfl
def lst(n:Nat)(D:List Nat):Array Bool:=((List.range n).map (inL D)).toArray
theorem zEq(n:Nat)(D:List Nat):(lst n D).size=n:=by simp[lst]
theorem zAT{d:Bool}(h:i<n):(lst n D).getD i d=inL D i:=by simp[lst,h]
theorem zQA{d:Bool}(h:n<=i):(lst n D).getD i d=d:=by
 rw[xS,bY (by rw[zEq];exact h)]
 rfl
theorem zDY(h:(lst n D).getD i true=false):i<n/\inL D i=false:=by
 rcases xZ i n with g|g
 .rw[zAT g]at h;exact⟨g,h⟩
 .rw[zQA g]at h;cases h
theorem zE3{l:Array Bool}(J:l.size=n)(h:∀i,i<n->l.getD i false=inL D i):l=lst n D:=by
 refine cV (by rw[J,zEq]) fun i I h2=>?_
 have:=h i oA
 rw[xS,bR I]at this
 have e:l[i]=inL D i:=this
 rw[e]
 simp[lst]
theorem zLR(I:i<n):(lst n D).setIfInBounds i true=lst n (i::D):=by
 refine zE3 (by simp[lst]) fun j hj=>?_
 show _=(bif Nat.beq i j then true else inL D j)
 by_cases e:i=j
 .subst e
  rw[xS,cQ (by rw[zEq];exact I),fY]
  rfl
 .rw[bF false e,zAT hj]
  cases h:Nat.beq i j with
  |true=>exact absurd (cG h) e
  |false=>rfl
def zRk(ops:Array Oper)(D fl D':List Nat):Bool:=(List.range ops.size).all fun j=>inL D' j||(List.range ops.size).all fun i=> !inL D' i||inL fl i||inL D i||zCS ops ops.size i j
section
variable {F:Fence}{n:Nat}{P:WG}{ops:Array Oper}{Q:Exit->Act->WB->Prop}
variable {A:Nat->Bool}{E:Nat->WD->WB->Prop}{C:WB->Prop}{a0:Act}
theorem zTh{D':List Nat}(fl:List Nat)(q4:zAn ops=true)(qj:Region.noSelect ops=true)(qg:ops.size<=z)(CW:WB->Prop)(hR:∀w,C w->CW w)(hfree:∀i,inL D i=false->inL D' i=true->inL fl i=true->Region.free .any ops (zCy ops i) i=true)
  (hfk:∀i,inL D' i=true->inL fl i=true->(lst ops.size D).getD i true=false->∀o,ops[i]?=some o->∀a w,FlowB ops (lst ops.size D) A E C a0 (fun j=>(lst ops.size D).getD j true=false/\∃e∈o.after,Region.binds .any e=true/\e.on=j) a w->∃v,zAk P ops CW o v a)
  (hF:zA9 ops=true)(qk:zRk ops D fl D'=true)(q3:q8 ops=true)(q5:jZ ops a0.tmps.size=true)(hW:zDZ ops (lst ops.size D'))(hC:∀w w',C w->Below w.heap.size w w'->C w')(hE:∀i v w w',E i v w->Below w.heap.size w w'->E i v w')
  (hr:∀i,inL D' i=true->(lst ops.size D).getD i true=false->∀o,ops[i]?=some o->∀a w,FlowB ops (lst ops.size D) A E C a0 (fun j=>(lst ops.size D).getD j true=false/\∃e∈o.after,Region.binds .any e=true/\e.on=j) a w->∀K:Act->WB->Prop,(∀v w',E i v w'->Below w.heap.size w w'->(A i=true->∀b,blk v=some b->w.heap.size<=b/\b<w'.heap.size)->K (a.put o.dst v) w')->wpOpIn F n P ops (qV Q) i K a w)
  (hG:∀a w,FlowB ops (lst ops.size D) A E C a0 (fun i=>inL D' i=true/\(lst ops.size D).getD i true=false) a w->jP F n P .any ops z CW (qV Q) ((lst ops.size D').count false) (lst ops.size D') a w):
  ∀(fuel:Nat) (listed:Array Bool) (a:Act) (w:WB),listed.count false=fuel->listed.size=ops.size->(∀i,i<ops.size->inL D' i=false->listed.getD i false=false)->zDZ ops listed->(∀i,i<ops.size->inL D i=true->listed.getD i false=true)->
   FlowB ops (lst ops.size D) A E C a0 (fun i=>(lst ops.size D).getD i true=false/\listed.getD i false=true) a w->jP F n P .any ops z CW (qV Q) fuel listed a w:=by
 intro fuel
 induction fuel with
 | zero=>
  intro listed a w hc hs O hx h4 hf
  have qd:∀i,listed.getD i true=true:=fun i=>by
   cases hg:listed.getD i true with
   |true=>rfl
   |false=>have:=jT hg;omega
  have I:∀i,i<ops.size->listed.getD i false=true:=fun i hi=>by
   have h1:=qd i
   have J:i<listed.size:=oA
   simp[J]at h1 ⊢
   exact h1
  have hl:listed=lst ops.size D':=zE3 hs fun i hi=>by
   rw[I i hi]
   cases h:inL D' i with
   |true=>rfl
   |false=>have:=O i hi h;rw[I i hi]at this;cases this
  have:=hG a w (hf.mono fun i hi=>⟨hi.2,I i (zDY hi.2).1⟩)
  rw[<-hl,hc]at this
  exact this
 | succ fuel ih=>
  intro listed a w hc hs O hx h4 hf
  by_cases I:∀i,i<ops.size->inL D' i=true->listed.getD i false=true
  .have hl:listed=lst ops.size D':=zE3 hs fun i hi=>by
    cases h:inL D' i with
    |true=>exact I i hi h
    |false=>exact O i hi h
   have:=hG a w (hf.mono fun i hi=>⟨hi.2,I i (zDY hi.2).1 hi.1⟩)
   rw[<-hl,hc]at this
   exact this
  .simp only[eC]at I
   obtain⟨u0,q2,qc,ql⟩:=I
   obtain⟨u,⟨hn,hk,hu⟩,hU⟩:=zE6 (p:=fun u=>u<ops.size/\inL D' u=true/\ ¬listed.getD u false=true) u0 ⟨q2,qc,ql⟩
   have J:u<listed.size:=oA
   have hM:listed.getD u true=false:=by
    simp[J]at hu ⊢
    exact hu
   have hd:(lst ops.size D).getD u true=false:=by
    rw[zAT hn]
    cases hg:inL D u with
    |false=>rfl
    |true=>exact absurd (h4 u hn hg) hu
   have hT:∀i,listed.getD i true=false->Region.ready .any ops listed≠ []:=by
    intro i
    induction i using Nat.strongRecOn with
    | _ i ihi=>
     intro hi hh
     have J:i<listed.size:=by
      rcases xZ i listed.size with e|e
      .exact e
      .simp[bY e]at hi
     have ho:ops[i]?=some (ops[i]'(by rw[<-hs];exact J)):=bR _
     by_cases I:∀e∈(ops[i]'(by rw[<-hs];exact J)).after,Region.binds .any e=true->listed.getD e.on false=true
     .have hm:i∈Region.ready .any ops listed:=cC.2 ⟨hi,_,ho,I⟩
      rw[hh]at hm
      cases hm
     .simp only[eC]at I
      obtain⟨e,he,hb,hg⟩:=I
      have hK:=zAV hF ho he hb
      refine ihi e.on hK ?_ hh
      have qa:e.on<listed.size:=oA
      simp[qa]at hg ⊢
      exact hg
   by_cases hfu:inL fl u=true
   .have h3:ops[u]?=some ops[u]:=bR hn
    have h0:∀e∈ops[u].after,Region.binds .any e=true->listed.getD e.on false=true:=fun e he hb=>by
     have hK:=zAV hF h3 he hb
     have hS:inL D' e.on=true:=by
      have:=hW u _ (by rw[zAT hn];exact hk) h3 e he hb
      rwa [zAT oA]at this
     exact rB fun hc=>hU e.on hK ⟨oA,hS,hc⟩
    have qe:(Region.ready .any ops listed).contains u=true:=bV.2 (cC.2 ⟨hM,_,h3,h0⟩)
    have q0:=hfree u (zDY hd).2 hk hfu
    obtain⟨v0,hy⟩:=hfk u hk hfu hd _ h3 a w (hf.mono fun j hj=>(by
     obtain⟨hq,e,he,hb,rfl⟩:=hj
     exact⟨hq,h0 e he hb⟩))
    have hw:=hr u hk hd _ h3 a w (hf.mono fun j hj=>(by
     obtain⟨hq,e,he,hb,rfl⟩:=hj
     exact⟨hq,h0 e he hb⟩)) (fun a' w'=>∃v,a'=a.put ops[u].dst v/\E u v w'/\Below w.heap.size w w'/\(A u=true->∀b,blk v=some b->w.heap.size<=b/\b<w'.heap.size)) (fun v w' hv hb hA=>⟨v,rfl,hv,hb,hA⟩)
    obtain⟨v,hS,hv,hb,hA⟩:=zJV h3 q4 hy (hR _ hf.at_.cls) hw
    refine zQ (i:=u) (v:=v0) q4 (by unfold zBy;rw[bY qg]) h3 qj (zOd (fun j hj hc=>(by
     have h9:=zAW hx _ j u _ h3 h0 hc
     have g:j<listed.size:=oA
     simp[g]at h9 ⊢
     exact h9)) q0) qe (fun _ _ _ h=>h) (hR _ hf.at_.cls) hy ?_
    rw[hS]
    refine ih (listed.setIfInBounds u true) (a.put ops[u].dst v) w ?_ (by simpa using hs) (fun j hj h8=>?_) (fun j oj hj ha e he ht=>?_) (fun j hj hQ=>?_) ((hf.put q3 q5 hC hE h3 hd hv hb hA).mono fun j hj=>?_)
    .have:=jT hM
     omega
    .rw[bF false (fun e=>by subst e;rw[hk]at h8;cases h8)]
     exact O j hj h8
    .by_cases e2:j=u
     .subst e2
      rw[h3]at ha
      cases ha
      by_cases e3:e.on=j
      .rw[e3];exact hj
      .rw[bF false (xY e3)]
       exact h0 e he ht
     .rw[bF false (xY e2)]at hj
      have:=hx j oj hj ha e he ht
      by_cases e3:e.on=u
      .rw[e3]
       simp[J]
      .rw[bF false (xY e3)]
       exact this
    .by_cases e3:j=u
     .rw[e3];simp[J]
     .rw[bF false (xY e3)]
      exact h4 j hj hQ
    .by_cases e:j=u
     .exact .inr e
     .left
      rw[bF false (xY e)]at hj
      exact hj
   .refine⟨fun hh=>(hT u hM hh).elim,fun i hi=>?_⟩
    obtain⟨hD,o,ho,I⟩:=cC.1 hi
    have hO:=(xP.1 ho).1
    have hX:(lst ops.size D).getD i true=false:=by
     rw[zAT hO]
     cases hg:inL D i with
     |false=>rfl
     |true=>
      have:=h4 i hO hg
      have hI:i<listed.size:=oA
      simp[hI]at hD
      simp[hI]at this
      rw[this]at hD
      cases hD
    have hY:inL D' i=true:=by
     cases hg:inL D' i with
     |true=>rfl
     |false=>
      exfalso
      have h1:=xR.1 qk i (xV.2 hO)
      rw[hg,cM]at h1
      have h2:=xR.1 h1 u (xV.2 hn)
      simp only[bZ,cI]at h2
      rcases h2 with((h2|h2)|h2)|h2
      .rw[hk]at h2;cases h2
      .exact hfu h2
      .exact hu (h4 u hn h2)
      .exact hu (zAW hx _ u i o ho I h2)
    refine hr i hY hX o ho a w (hf.mono fun j hj=>?_) _ fun v w' hv hb hA=>⟨.inr (hR _ (hC _ _ hf.at_.cls hb)),?_⟩
    .obtain⟨hq,e,he,hb,rfl⟩:=hj
     exact⟨hq,I e he hb⟩
    .refine ih (listed.setIfInBounds i true) (a.put o.dst v) w' ?_ (by simpa using hs) (fun j hj h8=>?_) (fun j oj hj ha e he ht=>?_) (fun j hj hQ=>?_) ((hf.put q3 q5 hC hE ho hX hv hb hA).mono fun j hj=>?_)
     .have:=jT hD
      omega
     .rw[bF false (fun e=>by subst e;rw[hY]at h8;cases h8)]
      exact O j hj h8
     .by_cases e2:j=i
      .subst e2
       rw[ho]at ha
       cases ha
       by_cases e3:e.on=j
       .rw[e3];exact hj
       .rw[bF false (xY e3)]
        exact I e he ht
      .rw[bF false (xY e2)]at hj
       have:=hx j oj hj ha e he ht
       by_cases e3:e.on=i
       .rw[e3]
        have J:i<listed.size:=oA
        simp[J]
       .rw[bF false (xY e3)]
        exact this
     .by_cases e3:j=i
      .have J:i<listed.size:=oA
       rw[e3];simp[J]
      .rw[bF false (xY e3)]
       exact h4 j hj hQ
     .by_cases e:j=i
      .exact .inr e
      .left
       rw[bF false (xY e)]at hj
       exact hj
end
def zKx(F:Fence)(m:Nat)(P:WG)(ops:Array Oper)(CW:WB->Prop)(Q:Exit->Act->WB->Prop)(D:List Nat)(a:Act)(w:WB):Prop:=
 jP F m P .any ops ops.size CW (qV Q) ((lst ops.size D).count false) (lst ops.size D) a w
def Gr(CW:WB->Prop)(w:WB):Prop:=∀w',Below w.heap.size w w'->CW w'
def FdC(P:WG)(CW:WB->Prop)(w:WB)(ops:Array Oper)(G:Nat->SF)(o:Oper):Prop:=
 ∀(b:Act) (W:WB),Below w.heap.size w W->(∀t,t∈looks ops o->(G t).p (b.tmps.getD t undef) W)->∃v,zAk P ops CW o v b
def zN2(ops:Array Oper)(D':List Nat)(G:Nat->SF)(t:Nat):SF:=bif (List.range ops.size).any (fun i=> !inL D' i&&(zY ops i==some t))then SF.any else G t
def zSn(ops:Array Oper)(fl D is:List Nat)(n:Nat)(keys ts:List Nat):Bool:=
 q8 ops&&jZ ops n&&zAn ops&&Region.noSelect ops&&zA9 ops&&j9 keys&&
 zDM ops (lst ops.size D)&&zDM ops (lst ops.size (is++D))&&
 keys.all (fun t=>is.any fun i=> !inL D i&&(zY ops i==some t))&&
 ts.all (fun t=>(List.range ops.size).all fun i=>inL D i|| !(zY ops i==some t))&&
 is.all (fun i=>decide (i<ops.size)&& !inL D i&&(!inL fl i||Region.free .any ops (zCy ops i) i)&&match ops[i]? with
  |none=>true
  |some o=>(looks ops o).all fun t=>(List.range ops.size).all fun j=>inL D j|| !(zY ops j==some t)||o.after.any fun e=>Region.binds .any e&&e.on==j)&&
 zRk ops D fl (is++D)
def zJ0(ops:Array Oper)(is:List Nat):List Oper:=is.filterMap fun i=>ops[i]?
theorem zEe{F:Fence}{m:Nat}{P:WG}{w0:WB}{ops J:Array Oper}{G:Nat->SF}:∀{is:List Nat},Obs F m P w0 J G (zJ0 ops is)->∀i,i∈is->∀o,ops[i]?=some o->qR F m P w0 J G o
 | [],_,i,I,_,_=>by cases I
 | k::is,h,i,I,o,ho=>by
  unfold zJ0 at h
  rw[List.filterMap_cons]at h
  cases hk:ops[k]? with
  |none=>
   rw[hk]at h
   rcases xX.1 I with rfl|I
   .rw[ho]at hk;cases hk
   .exact zEe h i I o ho
  |some ok=>
   rw[hk]at h
   rcases xX.1 I with rfl|I
   .rw[ho]at hk;cases hk;exact h.1
   .exact zEe h.2 i I o ho
theorem zP0{Q:Exit->Act->WB->Prop}{ds:List Deferred}(fl is ts:List Nat)(al:List NewB)(L:List (Nat×SF))
  (qc:Gr CW w)(hg:zSn ops fl D is n (L.map (·.1)) ts=true)(h:At w G n ds a w)(hT:Obs F m P w ops (upd G L) (zJ0 ops is))
  (hm:∀q,q∈al->q.i∈is/\q.f.isIn L q.d/\(∃ty pos aft,ops[q.i]?=some ⟨some q.d,.alloc q.e,ty,pos,aft,none⟩)/\zeroCells P q.e=some q.cs/\∀v W,(wQ w q.e q.cs).p v W->q.f.p v W)
  (q4:∀i o,inL fl i=true->ops[i]?=some o->FdC P CW w ops (upd G L) o)
  (hQ:∀a w',At w (zN2 ops (is++D) (upd G L)) n ds a w'->zMS al a->zKx F m P ops CW Q (is++D) a w'):zKx F m P ops CW Q D a w:=by
 unfold zSn at hg
 simp only[xU]at hg
 obtain⟨⟨⟨⟨⟨⟨⟨⟨⟨⟨⟨qd,hU⟩,qe⟩,q2⟩,hJ⟩,hV⟩,q0⟩,qa⟩,hu⟩,hts⟩,hX⟩,q5⟩:=hg
 have ha:∀i,inL (is++D) i=true->inL D i=false->i∈is:=fun i O h2=>by
  rw[zE9,h2,Bool.or_false]at O
  exact zE8 O
 have hW:∀t,(∀j,inL D j=false->j∈is->zY ops j≠some t)->upd G L t=G t:=fun t ht=>by
  refine zAu ?_
  cases hc:(L.map (·.1)).contains t with
  |false=>rfl
  |true=>
   exfalso
   obtain⟨i,J,he⟩:=bU.1 (xR.1 hu t (bV.1 hc))
   simp only[xU,cI,bH]at he
   exact ht i he.1 J he.2
 have hR:∀t,(∀j,inL D j=false->j∈is->zY ops j≠some t)->(upd G L t).p (a.tmps.getD t undef) w:=fun t ht=>by rw[hW t ht];exact h.sl t
 have h7:∀i,i∈is->i<ops.size/\(inL fl i=true->Region.free .any ops (zCy ops i) i=true)/\∀o,ops[i]?=some o->∀t,t∈looks ops o->∀j,inL D j=false->zY ops j=some t->(o.after.any fun e=>Region.binds .any e&&e.on==j)=true:=fun i J=>by
  have O:=xR.1 hX i J
  simp only[xU,bE]at O
  refine⟨O.1.1.1,fun hf=>(by have h2:=O.1.2;rw[hf]at h2;simpa using h2),fun o ho t ht j hj hw=>?_⟩
  have h2:=O.2
  rw[ho]at h2
  have hn:j<ops.size:=by
   rcases xZ j ops.size with e|e
   .exact e
   .rw[zY,bY e]at hw;cases hw
  have h3:=xR.1 (xR.1 h2 t ht) j (xV.2 hn)
  rw[hj,hw]at h3
  simpa using h3
 have hP:∀t,(∀j,inL D j=false->zY ops j≠some t)->zBz ops (lst ops.size D) t=false:=fun t ht=>by
  cases hd:zBz ops (lst ops.size D) t with
  |false=>rfl
  |true=>
   exfalso
   unfold zBz at hd
   obtain⟨i,J,hp⟩:=bU.1 hd
   simp only[xU,bH,cI]at hp
   have hL:=hp.1
   rw[zAT (xV.1 J)]at hL
   exact ht i hL (by rw[<-zEs];exact hp.2)
 -- what an operation looks at holds where those it waits for have run
 have h9:∀i o,i∈is->ops[i]?=some o->∀b W,FlowB ops (lst ops.size D) (fun i=>al.any fun q=>q.i==i) (fun i v W=>∀o,ops[i]?=some o->∀d,o.dst=some d->(upd G L d).p v W) (fun W=>Below w.heap.size w W) a (fun j=>(lst ops.size D).getD j true=false/\∃e∈o.after,Region.binds .any e=true/\e.on=j) b W->∀t,t∈looks ops o->(upd G L t).p (b.tmps.getD t undef) W:=fun i o J ho b W hf t ht=>by
  by_cases hex:∃j,inL D j=false/\zY ops j=some t
  .obtain⟨j,hk,hj⟩:=hex
   have O:=(h7 i J).2.2 o ho t ht j hk hj
   obtain⟨x,hx,he⟩:=eK.1 O
   simp only[xU,bH]at he
   cases h0:ops[j]? with
   |none=>rw[zY,h0]at hj;cases hj
   |some oj=>
    rw[jE h0]at hj
    exact hf.at_.vals j oj t ⟨by rw[zAT (xP.1 h0).1];exact hk,_,cU hx,he.1,he.2⟩ h0 hj oj h0 t hj
  .have h5:∀j,inL D j=false->zY ops j≠some t:=fun j O h2=>hex ⟨j,O,h2⟩
   rw[hf.at_.keep t (hP t h5)]
   exact(upd G L t).st _ _ _ (hR t (fun j hj _=>h5 j hj)) hf.at_.cls
 have h5:∀i, ¬((lst ops.size D).getD i true=false/\(lst ops.size D).getD i false=true):=fun i J=>by
  have O:=zDY J.1
  have h2:=J.2
  rw[zAT O.1,O.2]at h2
  cases h2
 refine zTh (Q:=Q) (D:=D) (D':=is++D) (z:=ops.size) (a0:=a) (A:=fun i=>al.any fun q=>q.i==i) (E:=fun i v W=>∀o,ops[i]?=some o->∀d,o.dst=some d->(upd G L d).p v W) (C:=fun W=>Below w.heap.size w W) fl qe q2 lr CW qc ?hfree ?hfk hJ q5 qd (by rw[h.size];exact hU) (zCv qa) (fun W W' hC hb=>hC.trans (hb.mono hC.size)) (fun i v W W' hE hb o ho d hd=>(upd G L d).st _ _ _ (hE o ho d hd) hb) ?spec ?fin _ (lst ops.size D) a w rfl (zEq _ _) (fun i J hp=>?_) (zCv q0) (fun i J hp=>by rw[zAT J];exact hp) ⟨⟨xF _ _,rfl,rfl,fun _ _=>rfl,fun i o t J=>(h5 i J).elim⟩,fun i o t b J=>(h5 i J).elim,fun i j oi oj ti tj bi bj J=>(h5 i J).elim⟩
 case hfree=>exact fun i hD hp hf=>(h7 i (ha i hp hD)).2.1 hf
 case hfk=>
  intro i hp hf hl o ho b W I
  have J:=ha i hp (zDY hl).2
  exact q4 i o hf ho b W I.at_.cls (h9 i o J ho b W I)
 case spec=>
  intro i hp hl o ho b W I K hK
  have J:=ha i hp (zDY hl).2
  have hM:∀j g,zY ops j=some g->g<b.tmps.size:=fun j g hj=>by
   rw[I.at_.size,h.size]
   obtain⟨oj,h0,qf⟩:=qE hj
   exact qG hU h0 qf
  by_cases hAi:(al.any fun q=>q.i==i)=true
  .obtain⟨q,hq,hZ⟩:=bU.1 hAi
   obtain rfl:q.i=i:=by simpa using hZ
   obtain⟨_,qh,⟨ty,pos,aft,hop⟩,hz,hO⟩:=hm q hq
   rw[ho]at hop
   cases hop
   refine zAc ho (show qR F m P W ops (fun _=>wQ W q.e q.cs) ⟨some q.d,.alloc q.e,ty,pos,aft,none⟩from zGp hz) hM (xF _ _) (fun t ht=>by cases ht) (fun v W' hv hb=>?_)
   obtain⟨b',rfl,O,h2⟩:=hv q.d rfl
   refine hK _ W' (fun o' h8 d hd=>?_) hb (fun _ b'' hS=>?_)
   .rw[ho]at h8
    cases h8
    cases hd
    rw[zCV (q:=(q.d,q.f)) hV qh]
    exact hO _ W' ⟨b',rfl,xQ I.at_.cls.size O,h2⟩
   .cases hS
    exact⟨O,(xP.1 h2).1⟩
  refine zAc ho (zEe hT i J o ho) hM I.at_.cls (h9 i o J ho b W I) (fun v W' hv hb=>hK v W' (fun o' h8 d hd=>by rw[ho]at h8;cases h8;exact hv d hd) hb (fun e=>absurd e hAi))
 case fin=>
  intro b W I
  have hs:∀q,q∈al->inL (is++D) q.i=true/\(lst ops.size D).getD q.i true=false:=fun q hq=>by
   have O:=(hm q hq).1
   have h2:=xR.1 hX _ O
   simp only[xU,bE,cI]at h2
   exact⟨by rw[zE9,zFO O,pY],by rw[zAT h2.1.1.1];exact h2.1.1.2⟩
  refine hQ b W ⟨I.at_.cls,by rw[I.at_.size];exact h.size,by rw[I.at_.defers];exact h.nd,fun t=>?_⟩ fun q q' hq hF q3 b1 b2 e1 e2=>(by
   obtain⟨_,_,⟨_,_,_,g2⟩,_⟩:=hm q hq
   obtain⟨_,_,⟨_,_,_,q6⟩,_⟩:=hm q' hF
   exact I.apart q.i q'.i _ _ q.d q'.d b1 b2 (hs q hq) (hs q' hF) q3 (bU.2 ⟨q,hq,eN⟩) (bU.2 ⟨q',hF,eN⟩) g2 q6 rfl rfl e1 e2)
  unfold zN2
  cases hc:(List.range ops.size).any fun i=> !inL (is++D) i&&(zY ops i==some t)with
  |true=>trivial
  | false=>
   show(upd G L t).p _ _
   by_cases hex:∃j,inL D j=false/\zY ops j=some t
   .obtain⟨j,hk,hj⟩:=hex
    have hn:j<ops.size:=by
     rcases xZ j ops.size with e|e
     .exact e
     .rw[zY,bY e]at hj;cases hj
    have O:=cS.1 hc j (xV.2 hn)
    rw[hj]at O
    have hY:inL (is++D) j=true:=by simpa using O
    cases h0:ops[j]? with
    |none=>rw[zY,h0]at hj;cases hj
    |some oj=>
     rw[jE h0]at hj
     exact I.at_.vals j oj t ⟨hY,by rw[zAT hn];exact hk⟩ h0 hj oj h0 t hj
   .have h5:∀j,inL D j=false->zY ops j≠some t:=fun j O h2=>hex ⟨j,O,h2⟩
    rw[I.at_.keep t (hP t h5)]
    exact(upd G L t).st _ _ _ (hR t (fun j hj _=>h5 j hj)) I.at_.cls
 .rw[zAT J]
  cases h:inL D i with
  |false=>rfl
  |true=>rw[zE9,h,Bool.or_true]at hp;cases hp
section
variable {S:Nat->Prop}{w0:WB}{K:List (Nat×KF)}{B:List Bx}{n:Nat}{ds:List Deferred}{a:Act}{w:WB}{F:Fence}{m:Nat}{P:WG}{ops:Array Oper}{Q:Exit->Act->WB->Prop}{wb:WB}{CW:WB->Prop}{D:List Nat}
theorem StS.later(h:StS S w0 K B n ds a w){w':WB}(I:Below w.heap.size w w'):StS S w0 K B n ds a w':=
 ⟨h.gr.trans I,h.size,h.nd,fun q J=>KF.us (h.sl q J) (zN I),h.bx.keep I (zN I) B (fun _ _=>rfl),zA3 h.mks I,h.so⟩
theorem zPZ(CW:WB->Prop)(hmix:P.follows .mixedOrders=true)(h:StS S w0 K B n ds a w)(fin:∀w1,Below w.heap.size w w1->StS S w0 K B n ds a w1->zKx F m P ops CW Q [] a w1):(Code.region id ops true).wpIn F m P Q a w:=by
 refine zZ ops.size CW hmix ?_
 have I:Below w.heap.size w w.drew:=(xF _ w).drew
 have:=fin w.drew I (h.later I)
 unfold zKx at this
 have e:lst ops.size []=Array.replicate ops.size false:=by
  refine(zE3 eN fun i J=>?_).symm
  rw[xS,eE,if_pos J]
  rfl
 rw[e,eX]at this
 exact this
theorem zNu(h:(List.range ops.size).all (inL D)=true)(O:Q .normal a w):zKx F m P ops CW Q D a w:=by
 have e:lst ops.size D=Array.replicate ops.size true:=(zE3 eN fun i I=>by
  rw[xS,eE,if_pos I]
  exact(xR.1 h i (xV.2 I)).symm).symm
 have hc:(lst ops.size D).count false=0:=by rw[e];simp[Array.count_replicate]
 unfold zKx
 rw[hc]
 refine⟨eV.2 fun i I=>?_,O⟩
 have h1:=(cC.1 I).1
 have J:=zDY h1
 rw[xR.1 h i (xV.2 J.1)]at J
 cases J.2
theorem zLc(J:Region.ready .any ops (lst ops.size D)=[i])(h:wpOpIn F m P ops (qV Q) i (fun a' w'=>CW w'/\zKx F m P ops CW Q (i::D) a' w') a w):zKx F m P ops CW Q D a w:=by
 have O:=(cC.1 (show i∈Region.ready .any ops (lst ops.size D) by rw[J];simp)).1
 have I:=(zDY O).1
 have hc:=jT O
 rw[zLR I]at hc
 unfold zKx
 rw[<-hc]
 refine⟨fun e=>(by rw[J]at e;cases e),fun j hj=>?_⟩
 rw[J]at hj
 obtain rfl:j=i:=by simpa using hj
 exact cW (fun a' w' hh=>⟨.inr hh.1,by rw[zLR I];exact hh.2⟩) h
theorem zNt(fl is:List Nat)(al:List NewB)(L:List (Nat×Rw))(q4:Gr CW w)(h:StS S w0 K B n ds a w)
  (hz:zSn ops fl D is n (L.map (·.1)) (K.map (·.1)++B.map (·.t))=true)
  (hQ:Obs F m P w ops (upd (zAt K B) (zR L)) (zJ0 ops is))
  (q1:∀q,q∈al->q.i∈is/\q.f.isIn (zR L) q.d/\(∃ty pos aft,ops[q.i]?=some ⟨some q.d,.alloc q.e,ty,pos,aft,none⟩)/\zeroCells P q.e=some q.cs/\∀v W,(wQ w q.e q.cs).p v W->q.f.p v W)
  (hZ:∀i o,inL fl i=true->ops[i]?=some o->FdC P CW w ops (upd (zAt K B) (zR L)) o)
  (hL:∀a' w',Below w.heap.size w w'->StS S w0 (zAL L++K) B n ds a' w'->(∀q,q∈zR L->q.2.p (a'.tmps.getD q.1 undef) w')->zMS al a'->zKx F m P ops CW Q (is++D) a' w'):zKx F m P ops CW Q D a w:=by
 have h5:=hz
 unfold zSn at h5
 simp only[xU]at h5
 obtain⟨⟨⟨⟨⟨⟨⟨⟨⟨⟨⟨q6,hfr⟩,hpl⟩,hns⟩,hear⟩,hR⟩,hc1⟩,hc2⟩,hI⟩,q2⟩,qc⟩,htl⟩:=h5
 have J:(zR L).map (·.1)=L.map (·.1):=by simp[zR]
 have h0:∀t,t∈K.map (·.1)++B.map (·.t)->∀i,inL D i=false->zY ops i≠some t:=fun t I i hD hi=>by
  have O:=xR.1 q2 t I
  obtain⟨o,ho,_⟩:=qE hi
  have h2:=xR.1 O i (xV.2 (xP.1 ho).1)
  rw[hi,hD]at h2
  simp at h2
 have hK:∀t,t∈K.map (·.1)++B.map (·.t)->((zR L).map (·.1)).contains t=false:=fun t I=>by
  cases hc:((zR L).map (·.1)).contains t with
  |false=>rfl
  |true=>
   exfalso
   have hm:=bV.1 hc
   rw[J]at hm
   obtain⟨i,_,he⟩:=bU.1 (xR.1 hI t hm)
   simp only[xU,cI,bH]at he
   exact h0 t I i he.1 he.2
 have hJ:∀(l:List (Nat×SF)) t, ¬t∈K.map (·.1)++B.map (·.t)->upd (zAG K B a) l t=upd (zAt K B) l t:=fun l t I=>by
  induction l with
  |nil=>exact if_neg I
  |cons q l ih=>
   show(bif Nat.beq q.1 t then q.2 else upd _ l t)=(bif Nat.beq q.1 t then q.2 else upd _ l t)
   rw[ih]
 have hB:∀t v W,(upd (zAG K B a) (zR L) t).p v W->(upd (zAt K B) (zR L) t).p v W:=fun t v W hh=>by
  by_cases I:t∈K.map (·.1)++B.map (·.t)
  .rw[zAu (hK t I)]at hh ⊢
   unfold zAG at hh
   rw[if_pos I]at hh
   exact hh.1
  .rwa [hJ _ t I]at hh
 have hA:=h.at
 refine zP0 fl is (K.map (·.1)++B.map (·.t)) al (zR L) q4 (by rw[J];exact hz) (G:=zAG K B a) (ds:=ds) ⟨hA.gr,hA.size,hA.nd,fun t=>?_⟩ ?_ q1 (fun i o hi ho b W hb hr=>hZ i o hi ho b W hb (fun t I=>hB t _ _ (hr t I))) fun a' w' ha hD=>?_
 .by_cases I:t∈K.map (·.1)++B.map (·.t)
  .unfold zAG;rw[if_pos I];exact⟨hA.sl t,rfl⟩
  .unfold zAG;rw[if_neg I];exact hA.sl t
 .have hM:∀t,(∃i,inL D i=false/\zY ops i=some t)->∀v W,(upd (zAt K B) (zR L) t).p v W->(upd (zAG K B a) (zR L) t).p v W:=fun t ⟨i,hD,hi⟩ v W hh=>by
   rw[hJ _ t (fun I=>h0 t I i hD hi)]
   exact hh
  have hF:∀(i:Nat) (o:Oper),inL D i=false->ops[i]?=some o->qR F m P w ops (upd (zAt K B) (zR L)) o->qR F m P w ops (upd (zAG K B a) (zR L)) o:=by
   intro i o hD ho hg
   have hy:∀d,o.dst=some d->∃i,inL D i=false/\zY ops i=some d:=fun d hd=>⟨i,hD,by rw[jE ho];exact hd⟩
   have hop:zMR F m P w (upd (zAt K B) (zR L)) o->zMR F m P w (upd (zAG K B a) (zR L)) o:=fun O b W K' Q' hb hr q0=>
    O b W K' Q' hb (fun t I=>hB t _ _ (hr t I)) fun v W' hv hX=>q0 v W' (fun d hd=>hM d (hy d hd) _ _ (hv d hd)) hX
   unfold qR at hg ⊢
   cases hgd:o.guard with
   |none=>rw[hgd]at hg;exact hop hg
   |some q=>
    rw[hgd]at hg
    obtain⟨g,bv,O,h2,h3,h4⟩:=hg
    exact⟨g,bv,O,fun v W hh=>h2 v W (hB g v W hh),fun e=>hop (h3 e),fun e=>⟨fun d hd W=>hM d (hy d hd) _ _ ((h4 e).1 d hd W),(h4 e).2⟩⟩
  have hP:∀l:List Nat,(∀i,i∈l->inL D i=false/\i<ops.size)->Obs F m P w ops (upd (zAt K B) (zR L)) (zJ0 ops l)->Obs F m P w ops (upd (zAG K B a) (zR L)) (zJ0 ops l):=by
   intro l
   induction l with
   |nil=>intro _ _;trivial
   |cons i l ih=>
    intro hm ho
    obtain⟨hD,qa⟩:=hm i eN
    have hS:ops[i]?=some ops[i]:=bR qa
    have e:zJ0 ops (i::l)=ops[i]::zJ0 ops l:=by unfold zJ0;rw[List.filterMap_cons,hS]
    rw[e]at ho ⊢
    exact⟨hF i _ hD hS ho.1,ih (fun j hj=>hm j (by simp[hj])) ho.2⟩
  refine hP is (fun i hi=>?_) hQ
  have O:=xR.1 qc i hi
  simp only[xU,bE,cI]at O
  exact⟨O.1.1.2,O.1.1.1⟩
 .have hg:=ha.gr
  have h9:∀t,t∈K.map (·.1)++B.map (·.t)->a'.tmps.getD t undef=a.tmps.getD t undef:=fun t I=>by
   have O:=ha.sl t
   unfold zN2 at O
   have h2:((List.range ops.size).any fun i=> !inL (is++D) i&&(zY ops i==some t))=false:=by
    refine cS.2 fun i _=>?_
    cases hD:inL D i with
    |true=>simp[zE9,hD]
    |false=>have:=h0 t I i hD;simp[this]
   rw[h2,show(bif false then SF.any else upd (zAG K B a) (zR L) t)=upd (zAG K B a) (zR L) t from rfl,zAu (hK t I),zAG,if_pos I]at O
   exact O.2
  have hs:∀q,q∈zR L->q.2.p (a'.tmps.getD q.1 undef) w':=fun q hO=>by
   have O:=ha.sl q.1
   obtain⟨i,hi,he⟩:=bU.1 (xR.1 hI q.1 (by rw[<-J];exact xG.2 ⟨_,hO,rfl⟩))
   simp only[xU,cI,bH]at he
   have q3:inL (is++D) i=true:=by
    rw[zE9]
    rw[zFO hi,pY]
   unfold zN2 at O
   have h2:((List.range ops.size).any fun j=> !inL (is++D) j&&(zY ops j==some q.1))=false:=by
    refine cS.2 fun j _=>?_
    by_cases hj:j=i
    .subst hj;simp[q3]
    .have:zY ops j≠some q.1:=fun e=>by
      obtain⟨oi,qd,qe⟩:=qE he.2
      obtain⟨oj,q5,hW⟩:=qE e
      exact jM q6 qd q5 (xY hj) qe hW
     simp[this]
   rw[h2,show(bif false then SF.any else upd (zAG K B a) (zR L) q.1)=upd (zAG K B a) (zR L) q.1 from rfl,zCV (q:=q) (by rw[J];exact hR) hO]at O
   exact O
  refine hL a' w' hg ⟨h.gr.trans hg,ha.size,ha.nd,fun q hq=>?_,h.bx.keep hg (zN hg) B fun x hx=>h9 _ (cR _ (xG.2 ⟨x,hx,rfl⟩)),zA3 h.mks hg,h.so.imp (fun hu q hq=>(by
   rcases uL.1 hq with hq|hq
   .obtain⟨f,e,_⟩:=zAJ hq;exact⟨f,e⟩
   .exact hu q hq)) (fun x=>x)⟩ hs hD
  rcases uL.1 hq with hq|hq
  .obtain⟨f,hY,hm⟩:=zAJ hq
   have O:=hs (q.1,f.tS) (xG.2 ⟨_,hm,rfl⟩)
   rw[hY]
   exact O
  .rw[h9 q.1 (cK _ (xG.2 ⟨q,hq,rfl⟩))]
   exact KF.us (h.sl q hq) (zN hg)
theorem Obs.below{G:Nat->SF}{w1:WB}(J:Below w.heap.size w w1):∀{l:List Oper},Obs F m P w ops G l->Obs F m P w1 ops G l
 | [],_=>trivial
 | o::l,⟨h,t⟩=>by
  have O:zMR F m P w G o->zMR F m P w1 G o:=fun h b W K Q I=>h b W K Q (J.trans (I.mono J.size))
  refine⟨?_,Obs.below J t⟩
  unfold qR at h ⊢
  cases e:o.guard with
  |none=>rw[e]at h;exact O h
  |some q=>
   rw[e]at h
   obtain⟨g,bv,h1,h2,h3,h4⟩:=h
   exact⟨g,bv,h1,h2,fun e=>O (h3 e),h4⟩
theorem zFA{k:Nat}(hk:k<=ops.size):zJ0 ops (List.range k)=ops.toList.take k:=by
 induction k with
 |zero=>simp[zJ0]
 |succ k h=>
  have e:ops[k]?=some ops[k]:=bR oA
  have h:=h oA
  unfold zJ0 at h ⊢
  rw[eU,List.filterMap_append,h,List.take_add_one]
  simp[e]
theorem zEP{k:Nat}(J:∀r,r<ops.size-k->Region.ready .any ops (yM ops.size (k+r))=[k+r]):
    ∀(f r:Nat) (D:List Nat) (a:Act) (w:WB),k+r+f=ops.size->(∀i,i<ops.size->inL D i=decide (i<k+r))->wpOpsIn F m P ops (qV Q) (List.range' (k+r) f) a w->zKx F m P ops (fun _=>True) Q D a w
  |0,r,D,a,w,hf,hD,h=>zNu (xR.2 fun i I=>by
      have:=xV.1 I
      rw[hD i this]
      exact eY oA) h
  | f+1,r,D,a,w,hf,hD,h=>by
    rw[eD]at h
    refine zLc (i:=k+r) ?_ (cW (fun a w h=>⟨trivial,zEP J f (r+1) ((k+r)::D) a w oA (fun i I=>?_) h⟩) h)
    . rw[show lst ops.size D=yM ops.size (k+r)from(zE3 (by simp[yM]) fun i I=>by rw[xS,zCr I,hD i I];rfl).symm]
      exact J r oA
    . show(bif Nat.beq (k+r) i then true else inL D i)=_
      rw[hD i I]
      cases e:Nat.beq (k+r) i with
      |true=>exact(eY (by have:=cG e;omega)).symm
      | false=>
        have:k+r≠i:=fun h=>by rw[h,fY]at e;cases e
        exact pE.2 oA
theorem zMf{fl:List Nat}{k:Nat}(h:(fl.all fun i=>zDp ops i&&decide (i<k))=true)(J:Obs F m P w ops G (zJ0 ops (List.range k))):∀i o,inL fl i=true->ops[i]?=some o->FdC P (fun _=>True) w ops G o:=fun i o hi O b W hb hr=>by
 have h1:=xR.1 h i (zE8 hi)
 simp only[xU,bE]at h1
 have hg:o.guard=none:=by
  have I:=h1.1
  unfold zDp at I
  rw[O]at I
  split at I<;>first|cases I|skip
  all_goals (rename_i e;cases e;rfl)
 have I:=zEe J i (xV.2 h1.2) o O
 unfold qR at I
 rw[hg]at I
 have h3:wpOpIn F m P ops (qV fun _ _ _=>True) i (fun _ _=>True) b W:=by
  unfold wpOpIn
  rw[O]
  show(if Region.wanted o (yielded ops b.tmps)=true then _ else _)
  rw[if_pos (by unfold Region.wanted;rw[hg])]
  exact I b W _ _ hb (fun t ht=>hr t (by unfold looks;simp[ht])) (fun _ _ _ _=>trivial)
 obtain⟨_,v,_,hy,_⟩:=zMg O h1.1 h3
 exact⟨v,hy⟩
theorem zB2(fl:List Nat)(al:List NewB)(k:Nat)(L:List (Nat×Rw))(hmix:P.follows .mixedOrders=true)(h:StS S w0 K B n ds a w)
  (h6:∀q,q∈al->q.i<k/\q.f.isIn (zR L) q.d/\(∃ty pos aft,ops[q.i]?=some ⟨some q.d,.alloc q.e,ty,pos,aft,none⟩)/\zeroCells P q.e=some q.cs/\∀v W,(wQ w q.e q.cs).p v W->q.f.p v W)
  (J:(zSn ops fl [] (List.range k) n (L.map (·.1)) (K.map (·.1)++B.map (·.t))&&(fl.all fun i=>zDp ops i&&decide (i<k))&&decide (k<=ops.size)&&(List.range (ops.size-k)).all fun r=>Region.ready .any ops (yM ops.size (k+r))==[k+r])=true)
  (I:Obs F m P w ops (upd (zAt K B) (zR L)) (ops.toList.take k))
  (h0:∀Q',(∀a w,Q .normal a w->Q' .normal a w)->∀a w,StS S w0 (zAL L++K) B n ds a w->(∀q,q∈zR L->q.2.p (a.tmps.getD q.1 undef) w)->zMS al a->zBj F m P ops Q' k a w):(Code.region id ops true).wpIn F m P Q a w:=by
 simp only[xU,bE]at J
 obtain⟨⟨⟨h1,h2⟩,h3⟩,h4⟩:=J
 refine zPZ (fun _=>True) hmix h fun w1 hb s=>?_
 have O:∀q,q∈al->q.i∈List.range k/\q.f.isIn (zR L) q.d/\(∃ty pos aft,ops[q.i]?=some ⟨some q.d,.alloc q.e,ty,pos,aft,none⟩)/\zeroCells P q.e=some q.cs/\∀v W,(wQ w1 q.e q.cs).p v W->q.f.p v W:=fun q hq=>let⟨g1,g2,g3,g4,g5⟩:=h6 q hq;⟨xV.2 g1,g2,g3,g4,fun v W ⟨b,e,g,g'⟩=>g5 v W ⟨b,e,xQ hb.size g,g'⟩⟩
 refine zNt fl (List.range k) al L (fun _ _=>trivial) s h1 (by rw[zFA h3];exact Obs.below hb I) O (zMf h2 (by rw[zFA h3];exact Obs.below hb I)) fun a w' hb' s hr hD=>zEP (k:=k) (fun r hr=>(by have:=xR.1 h4 r (xV.2 hr);simpa using this)) (ops.size-k) 0 _ a w' oA (fun i _=>?_) (h0 (qV Q) iiz a w' s hr hD)
 rw[pU,uM]
 cases e:inL (List.range k) i with
 |true=>exact(eY (xV.1 (zE8 e))).symm
 |false=>exact(bD fun hk=>by rw[zFO (xV.2 hk)]at e;cases e).symm
end
/-! ### Answers of a function that ranges over functions -/
theorem zL6(h:Oth B W W'):y4 W W':=fun p _ hp=>(h.cell p).trans hp
theorem zEV(h:Oth B W W'){cs:Array WD}{t:WE}{z:Nat×Nat}(I:W.heap[b]?=some (.cells cs t z)):W'.heap[b]?=some (.cells cs t z):=by
 rcases h.block b with e|⟨_,⟨o,J,O⟩,_⟩
 .exact e.trans I
 .rw[I]at J
  cases J
  cases O
section
variable {S:Nat->Prop}{F:Fence}{m:Nat}{P:WG}{Q:Exit->Act->WB->Prop}{w0:WB}{K:List (Nat×KF)}{B:List Bx}{n:Nat}{ds:List Deferred}{a:Act}{w:WB}
theorem StS.resM(h:St w0 K B n ds a w){fn:Func}{f:SF}{v:WD}(O:∀w',Oth w0.heap.size w w'->(results fn a.tmps).run P w'=.ok v w')(J:∀w',Oth w0.heap.size w w'->f.p v w'):bodyPostM Fence.wide 0 P fn (Ret w0 f) .ret a w:=by
 obtain⟨Ds,hm⟩:=h.mks
 show LeavesInM Fence.wide 0 P fn a.tmps (Ret w0 f) a.defers .returning w
 rw[h.nd]
 exact qF w O Ds _ w hm (Oth.refl _ _) fun w' I=>⟨v,rfl,J w' I,zAh h.gr.below I lr⟩
def inB(B:List Bx)(k:Nat):Prop:=∃x,x∈B/\x.b=k/\x.r=false
structure Rnd(N:Nat)(C:Nat->Prop)(W W':World):Prop where
 os:W'.os=W.os
 tape:W'.tape=W.tape
 output:W'.output=W.output
 size:W.heap.size<=W'.heap.size
 low:∀k:Nat,k<N-> ¬C k->W'.heap[k]?=W.heap[k]?
 cells:∀(k:Nat) (o:Obj),W.heap[k]?=some o->o.isCells=true-> ¬C k->W'.heap[k]?=some o
 keep:y4 W W'
structure Itr(N:Nat)(W W':World):Prop where
 os:W'.os=W.os
 tape:W'.tape=W.tape
 output:W'.output=W.output
 size:W.heap.size<=W'.heap.size
 low:∀k:Nat,k<N->W'.heap[k]?=W.heap[k]?
 oth:∀(k:Nat) (o:Obj),W.heap[k]?=some o->o.isCells=false->W'.heap[k]?=some o
 keep:y4 W W'
def Ev(Ef:Nat->List UF)(k:Nat)(xs:Array WD)(W:WB):Prop:=xs.size=(Ef k).length/\∀(j:Nat) (f:UF),(Ef k)[j]?=some f->f.p (xs.getD j undef) W
def ItC(P:WG)(gf:Nat)(lb:Array WD)(Ef:Nat->List UF)(N:Nat)(endless:Prop)(C:Nat->Prop)(w:WB):Prop:=
 ∀(l:Nat) (J:Nat->WB->Prop) (Z:WB->Prop) (W:WB),w.heap.size<=W.heap.size->Below w.heap.size w W->y4 w W->
  (∀k W1 W2,J k W1->Itr W.heap.size W1 W2->J k W2)->(∀W1 W2,Z W1->Itr W.heap.size W1 W2->Z W2)->(endless->∀W, ¬J N W)->
  (∀k W1 xs,k<N->J k W1->Ev Ef k xs W1->YieldAt Fence.wide 0 P l xs W1 fun e W'=>((e=.returned (.bool true)/\J (k+1) W')∨(e=.returned (.bool false)/\Z W'))/\Rnd w.heap.size C W1 W')->
  J 0 W->Calls P gf (#[.func (.yield l) #[] #[]]++lb) W fun e W'=>(∃v,e=.returned v)/\(J N W'∨Z W')
theorem wX{S':Nat->Prop}{w1 W:WB}{J:Act}:∀(B:List Bx),(∀x,x∈B->x.r=true∨w1.heap.size<=x.b∨S' x.b)->(∀x,x∈B->J.tmps.getD x.t undef=a.tmps.getD x.t undef)->qJ S w0 a W B->qJ S' w1 J W B
 | [],_,_,_=>trivial
 |x::B,hS,hsl,h=>by
  obtain⟨⟨cs,h1,_,h3⟩,O⟩:=h
  exact⟨⟨cs,(hsl x (eI ..)).trans h1,hS x (eI ..),h3⟩,wX B (fun y I=>hS y (eB _ I)) (fun y I=>hsl y (eB _ I)) O⟩
theorem wT{W W':WB}(I:y4 W W'):∀(B:List Bx),(∀x,x∈B->W'.heap[x.b]?=W.heap[x.b]?)->qJ S w0 a W B->qJ S w0 a W' B
 | [],_,_=>trivial
 |x::B,hs,h=>by
  obtain⟨⟨cs,h1,J,h3,h4,h5⟩,hr⟩:=h
  exact⟨⟨cs,h1,J,(hs x (eI ..)).trans h3,x.c.us _ _ _ h4 I,h5⟩,wT I B (fun y O=>hs y (eB _ O)) hr⟩
theorem zFU{z:Nat×Nat}(h3:W.heap[b]?=some (.cells cs.toArray t z))(h5:cs.all z9=true){q:Addr}(J:q.block=b){u:WD}(h:W.cell? q=some u):z9 u=true:=by
 have I:W.cell? q=if q.spot.isSome then none else cs.toArray[q.off]?:=by
  unfold World.cell?
  rw[J,h3]
 rw[I]at h
 split at h
 .cases h
 .exact xR.1 h5 _ (lJ (by simpa using h))
theorem zCN{o:Obj}(h:W.heap[b]?=some o)(I:o.isCells=false){q:Addr}(J:q.block=b):W.cell? q=none:=zDt (a:=q) (by rw[J];exact h) I
theorem StS.itr(h:StS S w0 K B n ds a w){N:Nat}{w':WB}(I:Itr N w w')(hN:w0.heap.size<=N)(hB:∀x,x∈B->x.b<N):StS S w0 K B n ds a w':=
 ⟨⟨I.os.trans h.gr.os,I.tape.trans h.gr.tape,I.output.trans h.gr.output,xQ h.gr.size I.size,fun k J hs=>(I.low k (vW J hN)).trans (h.gr.block k J hs)⟩,h.size,h.nd,fun q hq=>KF.us (h.sl q hq) I.keep,
  wT I.keep B (fun x hx=>I.low _ (hB x hx)) h.bx,h.mks.imp fun _ hm=>hm.keep fun k o O hc=>I.oth k o O hc,h.so⟩
theorem zMe{C:Nat->Prop}(J:BlS C W W')(_hN:∀k,C k->k<W.heap.size)(h0:N<=W.heap.size){l:Nat}{o:Obj}(hl:N<=l)(ho:W.heap[l]?=some o)(hc:o.isCells=false){C':Nat->Prop}(hC:∀k,C k->C' k∨k=l)(hk:y4 W W'):Rnd N C' W W':=by
 refine⟨J.os,J.tape,J.output,J.size,fun k h hn=>J.block k (vW h h0) fun I=>?_,fun k o' h O hn=>(J.block k (xP.1 h).1 fun I=>?_).trans h,hk⟩
 .rcases hC k I with e|e
  .exact hn e
  .omega
 .rcases hC k I with e|e
  .exact hn e
  .subst e
   rw[ho]at h
   cases h
   rw[hc]at O
   cases O
theorem StS.put(h:StS S w0 K B n ds a w){l:Nat}{o o':Obj}(ho:w.heap[l]?=some o)(hc:o.isCells=false)(hD:∀Ds,Marks w0.heap.size w ds Ds->l ∉ Ds)(O:S l∨w0.heap.size<=l):StS S w0 K B n ds a (w.putObj l o'):=by
 have hk:y4 w (w.putObj l o'):=fun q u I=>by
  by_cases e:q.block=l
  .rw[zCN ho hc e]at I
   cases I
  .exact(bO (bQ e)).trans I
 refine⟨⟨h.gr.os,h.gr.tape,h.gr.output,by rw[eA];exact h.gr.size,fun k h1 hs=>(bQ (fun e=>?_)).trans (h.gr.block k h1 hs)⟩,h.size,h.nd,fun q I=>KF.us (h.sl q I) hk,wT hk B (fun x hx=>bQ fun e=>?_) h.bx,?_,h.so⟩
 .subst e
  rcases O with O|O
  .exact hs O
  .omega
 .obtain⟨cs,_,_,h3,_⟩:=h.bx.mem x hx
  rw[e,ho]at h3
  cases h3
  cases hc
 .obtain⟨Ds,J⟩:=h.mks
  refine⟨Ds,J.eq,J.nodup,fun D hd=>⟨(J.at_ D hd).1,(bQ fun e=>?_).trans (J.at_ D hd).2⟩⟩
  subst e
  exact hD Ds J hd
/-! ### The values that a round is handed -/
theorem zEu:∀(L:List (Nat×WD)) (t:Array WD),(L.foldl (fun t (p,v)=>t.setIfInBounds p v) t).size=t.size
 | [],_=>rfl
 |_::L,t=>by rw[cL,zEu L];simp
theorem zBE(q:Nat):∀(L:List (Nat×WD)) (t:Array WD),q ∉ L.map (·.1)->(L.foldl (fun t (p,v)=>t.setIfInBounds p v) t).getD q undef=t.getD q undef
 | [],_,_=>rfl
 |(p,v)::L,t,h=>by
  rw[cF,xX,not_or]at h
  rw[cL,zBE q L _ h.2]
  exact zBB (fun e=>h.1 e.symm)
theorem zGP:∀(L:List (Nat×WD)) (t:Array WD) (p:Nat) (v:WD),(L.map (·.1)).Nodup->(p,v)∈L->p<t.size->(L.foldl (fun t (p,v)=>t.setIfInBounds p v) t).getD p undef=v
 | (p',v')::L,t,p,v,hn,h,ht=>by
  rw[cF,eH]at hn
  rw[cL]
  rcases xX.1 h with e|h
  .cases e
   rw[zBE _ L _ hn.1]
   simp[xS,ht]
  .exact zGP L _ p v hn.2 h (by simpa using ht)
theorem BlS.sub{S S':Nat->Prop}(h:BlS S w w')(hs:∀k,S k->S' k):BlS S' w w':=⟨h.os,h.tape,h.output,h.size,fun k J I=>h.block k J fun O=>I (hs k O)⟩
theorem zHw:∀{Ds Ds':List Nat},Ds.map mark=Ds'.map mark->Ds=Ds'
 | [], [],_=>rfl
 | [],_::_,e=>by cases e
 |_::_, [],e=>by cases e
 |D::Ds,D'::Ds',e=>by
  simp only[cF,List.cons.injEq]at e
  rw[zHw e.2,show D=D' from by simpa[mark]using e.1]
theorem zFI:∀{l:List Nat},j9 l=true->l.Nodup
 | [],_=>List.nodup_nil
 |x::l,h=>by
  unfold j9 at h
  rw[xU]at h
  refine eH.2 ⟨fun I=>?_,zFI h.2⟩
  rw[bV.2 I]at h
  exact absurd h.1 rY
/-! ### The range -/
def zKz:KF->Bool
 | .u _=>true
 | .o _=>false
theorem StS.more(h:StS S w0 K B n ds a w){D:Nat}(hB:w0.heap.size<=D)(hD:w.heap[D]?=some (.deferred (some [])))(J:∀Ds,Marks w0.heap.size w ds Ds->D ∉ Ds):StS S w0 K B n (mark D::ds) { a with defers:=mark D::a.defers } w:=
 ⟨h.gr,h.size,by rw[h.nd],h.sl,wX (a:=a) B (fun x hx=>(h.bx.mem x hx).elim fun _ O=>O.2.1) (fun _ _=>rfl) h.bx,(h.mks.elim fun Ds I=>⟨D::Ds,I.more (J Ds I) hB hD⟩),h.so⟩
end
section
variable {S:Nat->Prop}{F:Fence}{m:Nat}{P:WG}{Q:Exit->Act->WB->Prop}{w0:WB}{K:List (Nat×KF)}{B:List Bx}{n:Nat}{ds:List Deferred}{a:Act}{w:WB}
theorem yC{σ:Type}{c:Code}(I:σ->Act->WB->Prop)(J:σ->Nat)(x0:σ)(h0:I x0 a w)
  (round:∀x a w,I x a w->c.wpIn F m P (Exit.then (fun a' w'=>∃y,J y<J x/\I y a' w') Q) a w):(Code.loop c).wpIn F m P Q a w:=by
 have low:∀a w,(∃k,∃x,J x=k/\I x a w)->∃k,(∃x,J x=k/\I x a w)/\∀j,j<k-> ¬ ∃x,J x=j/\I x a w:=
  fun a w ⟨k,hk⟩=>zE6 k hk
 open Classical in
 refine wpIn_loop (fun a w=>∃k,∃x,J x=k/\I x a w) (fun a w=>if h:∃k,∃x,J x=k/\I x a w then Classical.choose (low a w h)else 0) ⟨_,x0,rfl,h0⟩ ?_
 rintro a w hA
 have e0:=rA (low a w hA)
 obtain⟨x,hm,h4⟩:=e0.1
 refine cX ?_ (round x a w h4)
 intro e a' w' h
 cases e with
 |normal=>
  obtain⟨y,h2,h3⟩:∃y,J y<J x/\I y a' w':=h
  have O:∃k,∃x,J x=k/\I x a' w':=⟨_,y,rfl,h3⟩
  refine⟨O,?_⟩
  simp only[dif_pos hA,dif_pos O]
  have e1:=rA (low a' w' O)
  have:Classical.choose (low a' w' O)<=J y:=Nat.not_lt.1 fun h1=>e1.2 _ h1 ⟨y,rfl,h3⟩
  omega
 |_=>exact h
theorem StS.learn(h:StS S w0 K B n ds a w)(t:Nat)(v:WD)(e:a.tmps.getD t undef=v):StS S w0 ((t,.u (UF.eq v))::K) B n ds a w:=
 ⟨h.gr,h.size,h.nd,fun q I=>by
  rcases xX.1 I with rfl|I
  .exact e
  .exact h.sl q I,h.bx,h.mks,h.so.imp (fun J q I=>(by
   rcases xX.1 I with rfl|I
   .exact⟨_,rfl⟩
   .exact J q I)) (fun x=>x)⟩
theorem StS.yielded(h:StS S w0 K B n [] a w){N:Nat}{C:Nat->Prop}{w':WB}(J:Rnd N C w w')(O:∀q,q∈K->∃f,q.2=.u f)(hC:∀x,x∈B-> ¬C x.b):StS (inB B) w' K B n [] a w':=by
 refine⟨BlS.refl _ _,h.size,h.nd,fun q hq=>?_,wT J.keep B (fun x I=>?_) (wX (a:=a) B (fun x I=>?_) (fun _ _=>rfl) h.bx),⟨[],Marks.nil _ _⟩,.inl O⟩
 .obtain⟨f,e⟩:=O q hq
  have:=h.sl q hq
  rw[e]at this ⊢
  exact f.us _ _ _ this J.keep
 .obtain⟨cs,_,_,h3,_⟩:=h.bx.mem x I
  rw[h3]
  exact J.cells _ _ h3 rfl (hC x I)
 .cases hrr:x.r with
  |true=>exact .inl rfl
  |false=>exact .inr (.inr ⟨x,I,rfl,hrr⟩)
theorem zHL{d:Tmp}{l:Nat}(h:a.eval y=.func (.yield l) #[] #[]):
  (execOp a.eval ⟨some d,.call ⟨.value y,xs,ats⟩,ty,pos,aft,none⟩).run P w=(Instr.yield l (xs.map a.eval)).run P w:=by
 simp only[execOp,resolve,h]
 simp[invoke,Deferred.ofValue,bW,cJ,Result.andThen]
theorem zPJ{k l:Nat}{Jn Z:WB->Prop}{C:Nat->Prop}(ho:ops[k]?=some ⟨some d,.call ⟨.value y,xs,ats⟩,ty,pos,aft,none⟩)
  (h:StS S w0 K B n [] a w)(hy:∀v W,(Wd.fct (zAt K B) y).p v W->v=.func (.yield l) #[] #[])(hf:zAw K B n d=true)(hu:∀q,q∈K->∃f,q.2=.u f)(hC:∀x,x∈B-> ¬C x.b)
  (Y:YieldAt Fence.wide 0 P l (xs.map a.eval) w fun e W'=>((e=.returned (.bool true)/\Jn W')∨(e=.returned (.bool false)/\Z W'))/\Rnd N C w W')
  (fin:∀a' w' bv,Rnd N C w w'->((bv=true/\Jn w')∨(bv=false/\Z w'))->StS (inB B) w' ((d,.u (uB bv))::K) B n [] a' w'->zBj Fence.wide 0 P ops Q (k+1) a' w'):zBj Fence.wide 0 P ops Q k a w:=by
 have h0:a.eval y=.func (.yield l) #[] #[]:=hy _ _ (h.fct y)
 obtain⟨fn,tmps,assign,body,I,hR⟩:=Y
 refine zAO ho rfl ⟨fun g _=>trivial,?_⟩
 rw[bG _ _ _ (fun _ e=>by cases e),zHL h0,I]
 rw[Oper.uponIn_round]
 refine⟨fun hh=>absurd hh (by simp[Fence.wide]),RoundIn.mono hR fun e W' O=>?_⟩
 obtain⟨O,J⟩:=O
 have s1:=h.yielded J hu hC
 rcases O with⟨rfl,hJ⟩|⟨rfl,hZ⟩
 .exact fin _ _ true J (.inl ⟨rfl,hJ⟩) (s1.set hf (xF _ _) rfl)
 .exact fin _ _ false J (.inr ⟨rfl,hZ⟩) (s1.set hf (xF _ _) rfl)
theorem zBX(h:(K.all fun q=>zKz q.2)=true):∀q,q∈K->∃f,q.2=KF.u f:=fun q I=>by
 have:=xR.1 h q I
 cases hq2:q.2 with
 |u f=>exact⟨f,rfl⟩
 |o f=>rw[hq2]at this;cases this
theorem StS.boxAt(h:StS S w0 K B n ds a w){c:Nat}{z:Bx}(J:zHF B c=some z):∃cs:List WD,w.heap[z.b]?=some (.cells cs.toArray z.e (0,0))/\z.c.p cs w/\cs.all z9=true:=by
 obtain⟨cs,_,_,h3,I,O⟩:=h.bx.mem z (zBo J).1
 exact⟨cs,h3,I,O⟩
theorem StS.inB_new(h:St w0 K B n ds a w){q:Nat}(O:inB B q):w0.heap.size<=q:=by
 obtain⟨x,hx,e,J⟩:=O
 obtain⟨_,_,I,_⟩:=h.bx.mem x hx
 rcases I with I|I|I
 .rw[J]at I;cases I
 .omega
 .exact I.elim
def wC(vs:List WD):CU:=⟨fun cs _=>cs=vs,fun _ _ _ h _=>h⟩
end
def CU.ok(z:Nat)(C:CU):Prop:=∀cs W,C.p cs W->cs.length=z/\cs.all z9=true/\∀u,u∈cs->u.oneCell'=true
def y9(w:WB)(base:Nat)(e:WE)(z:Nat)(v:WD)(Cs:List CU):Prop:=
 (v=.slice none 0 0/\Cs=[])∨ ∃g cap cur,v=.slice (some ⟨g,0,none⟩) Cs.length cap/\base<=g/\w.heap[g]?=some (.cells cur e (0,0))/\Cs.length<=cap/\cap<=maxLen/\cur.size=cap*z/\cur.toList.all z9=true/\∀(i:Nat) (C:CU),Cs[i]?=some C->C.p ((cur.toList.drop (i*z)).take z) w
theorem y9.nil(w:WB)(base:Nat)(e:WE)(z:Nat):y9 w base e z (.slice none 0 0) []:=.inl ⟨rfl,rfl⟩
theorem y9.lt{base e z v Cs}(h:y9 w base e z v Cs):∀k,v.ownBlock=some k->base<=k/\k<w.heap.size:=by
 intro k I
 rcases h with⟨rfl,_⟩|⟨g,cap,cur,rfl,O,J,_⟩
 .simp[Value.ownBlock]at I
 .simp[Value.ownBlock]at I
  subst I
  exact⟨O,(xP.1 J).1⟩
theorem y9.mono{base base' e z v Cs}(h:y9 w base e z v Cs)(hb:base'<=base):y9 w base' e z v Cs:=
 h.imp id fun⟨g,cap,I,h1,J,O⟩=>⟨g,cap,I,h1,xQ hb J,O⟩
theorem y9.keep{base e z v Cs}(h:y9 w base e z v Cs)(hb:∀k,v.ownBlock=some k->w'.heap[k]?=w.heap[k]?)(hk:y4 w w'):y9 w' base e z v Cs:=by
 rcases h with h|⟨g,cap,I,rfl,h2,h3,h4,h5,h6,h7,J⟩
 .exact .inl h
 .exact .inr ⟨g,cap,I,rfl,h2,(hb g rfl).trans h3,h4,h5,h6,h7,fun i C O=>C.us _ _ _ (J i C O) hk⟩
theorem y9.below{base e z v Cs}(h:y9 w base e z v Cs)(I:Below w.heap.size w w'):y9 w' base e z v Cs:=
 h.keep (fun k J=>I.block k (h.lt k J).2) (zN I)
theorem y9.row{base e z v Cs}(h:y9 w base e z v Cs):(SF.row z Cs).p v w:=by
 rcases h with⟨rfl,rfl⟩|⟨g,cap,cur,rfl,h2,h3,O,h5,h6,h7,J⟩
 .exact⟨none,0,rfl,vR _,rY,fun _=>rfl,fun i C I=>by simp at I⟩
 .refine⟨_,cap,rfl,O,by unfold maxLen at h5;omega,fun e=>(by cases e),fun i C I=>⟨g,0,_,rfl,fun j u hj=>?_,J i C I⟩⟩
  rw[gB]at hj
  split at hj
  .rw[uW]at hj
   unfold World.cell?
   simp only[h3]
   have:0+i*z+j=i*z+j:=oA
   rw[this]
   simpa using hj
  .cases hj
theorem y9.keepU{base e z v Cs}(h:y9 w base e z v Cs)(hg:w.grownBy w' v.ownBlock):y4 w w':=fun p x hp=>by
 have I:=xJ w _ hp
 by_cases e1:some p.block=v.ownBlock
 .exfalso
  rcases h with⟨rfl,_⟩|⟨g,cap,J,rfl,h2,h3,h4,h5,h6,O,h8⟩
  .simp[Value.ownBlock]at e1
  .simp[Value.ownBlock]at e1
   have:=zFU (cs:=J.toList) (z:=(0,0)) (by simpa using h3) O e1 hp
   cases this
 .exact(bO (hg.block _ I e1)).trans hp
def zID(P:WG)(t:WE):Option (WE×Nat×Bool):=match P.underlying t with
 | some (.slice e)=>match P.info? e with
  |some i=>match i.zero with
   |some zv=>some (e,i.size,zv.cells.size==i.size&&zv.cells.toList.all z9&&decide (0<i.size)&&Nat.ble i.bytes 1000)
   |none=>none
  |none=>none
 |_=>none
theorem zFV(h:zID P t=some (e,z,true)):P.underlying t=some (.slice e)/\∃i zv,P.info? e=some i/\i.zero=some zv/\i.size=z/\i.bytes<=1000/\zv.cells.size=z/\zv.cells.toList.all z9=true/\0<z:=by
 unfold zID at h
 split at h<;>try cases h
 rename_i e' hu
 split at h<;>try cases h
 rename_i i I
 split at h<;>try cases h
 rename_i zv O
 simp only[fP,pL,xU,bH,bE]at h
 obtain⟨rfl,rfl,⟨⟨h1,J⟩,h3⟩,h4⟩:=h
 exact⟨hu,i,zv,I,O,rfl,hH h4,h1,J,h3⟩
theorem zD0{I:Array WD}(h:I.toList.all z9=true)(n:Nat):(Builtin.zeroCells I n).toList.all z9=true:=by
 refine xR.2 fun u O=>?_
 simp only[Builtin.zeroCells,rC,xG,rD,xV]at O
 obtain⟨i,hi,rfl⟩:=O
 have h0:0<I.size:=by
  rcases uJ I.size with h|h;· rw[h]at hi;omega
  .exact h
 have J:i%I.size<I.size:=uH _ h0
 have:I[i%I.size]!∈I.toList:=by
  rw[getElem!_pos I _ J]
  exact Array.getElem_mem_toList J
 exact xR.1 h _ this
theorem zG6{W:WB}{b z:Nat}:∀(Ds:List CU) (o:Nat),(∀C,C∈Ds->CU.ok z C)->(∀(i:Nat) (C:CU),Ds[i]?=some C->∃cs,Mem W b (o+i*z) cs/\C.p cs W)->
  ∃news:List WD,news.length=Ds.length*z/\(∀j u,news[j]?=some u->W.cell? ⟨b,o+j,none⟩=some u)/\(∀u,u∈news->u.oneCell'=true)/\news.all z9=true/\∀(i:Nat) (C:CU),Ds[i]?=some C->C.p ((news.drop (i*z)).take z) W
 | [],o,_,_=>⟨[],eN,eN,eN,rfl,eN⟩
 | D::Ds,o,hok,h=>by
  obtain⟨cs,h1,h2⟩:=h 0 D rfl
  obtain⟨hl,hn,O⟩:=hok D eN cs W h2
  obtain⟨ns,g1,g2,g3,g4,g5⟩:=zG6 Ds (o+z) (fun C hC=>hok C (by simp[hC])) fun i C J=>by
   obtain⟨h0,h3,h4⟩:=h (i+1) C (by simpa using J)
   refine⟨h0,?_,h4⟩
   rwa [show o+(i+1)*z=o+z+i*z by rw[vU];omega]at h3
  refine⟨cs++ns,by rw[uD,hl,g1,fN,vU];omega,fun j u hj=>?_,fun u I=>?_,by rw[lD,hn,g4];rfl,fun i C J=>?_⟩
  .rcases xZ j z with hlt|hge
   .rw[uZ oA]at hj
    have:=h1 j u hj
    rwa [show o+0*z+j=o+j from oA]at this
   .rw[gF oA]at hj
    have:=g2 _ u hj
    rwa [show o+z+(j-cs.length)=o+j from oA]at this
  .rcases uL.1 I with I|I
   .exact O u I
   .exact g3 u I
  .cases i with
   |zero=>
    obtain rfl:D=C:=by simpa using J
    rw[show 0*z=0 from oA,mH,rE oA,mJ oA]
    exact h2
   |succ i=>
    rw[show(i+1)*z=cs.length+i*z by rw[vU];omega,List.drop_append]
    have e1:cs.drop (cs.length+i*z)=[]:=nP oA
    rw[e1,fS,show cs.length+i*z-cs.length=i*z from oA]
    exact g5 i C (by simpa using J)
theorem zC9(h:cs.length=n*z)(I:i<n):((cs++ds).drop (i*z)).take z=(cs.drop (i*z)).take z:=by
 have h1:i*z+z<=n*z:=by rw[<-pX];exact uE _ I
 rw[List.drop_append_of_le_length oA,rE (by rw[uS];omega)]
theorem zMp(h:cs.length=n*z):(cs++ds).drop ((n+i)*z)=ds.drop (i*z):=by
 rw[vU,<-h,List.drop_append]
 have I:cs.drop (cs.length+i*z)=[]:=nP oA
 rw[I,fS]
 congr 1
 omega
theorem zFF{es:List WD}(O:cs.length=Cs.length*z)(hd:ds.length=Ds.length*z)(h1:∀(i:Nat) (C:CU),Cs[i]?=some C->C.p ((cs.drop (i*z)).take z) w)(h2:∀(i:Nat) (C:CU),Ds[i]?=some C->C.p ((ds.drop (i*z)).take z) w)(J:y4 w w'):
  ∀(i:Nat) (C:CU),(Cs++Ds)[i]?=some C->C.p (((cs++ds++es).drop (i*z)).take z) w':=fun i C h=>by
 rcases xZ i Cs.length with I|hge
 .rw[uZ I]at h
  rw[pT,zC9 O I]
  exact C.us _ _ _ (h1 i C h) J
 .obtain⟨j,rfl⟩:∃j,i=Cs.length+j:=⟨i-Cs.length,oA⟩
  rw[gF oA,Nat.add_sub_cancel_left]at h
  have hj:j<Ds.length:=(cD.1 h).1
  rw[pT,zMp O,zC9 hd hj]
  exact C.us _ _ _ (h2 j C h) J
theorem zIE{a b c:List WD}(I:a.all z9=true)(J:b.all z9=true)(h:c.all z9=true):(a++b++c).all z9=true:=by
 rw[lD,lD,I,J,h];rfl
theorem zK8{base:Nat}{v v2:WD}(hv:zID P t=some (e,z,true))(hr:y9 w base e z v Cs)(h2:(SF.row z Ds).p v2 w)(hD:∀C,C∈Ds->CU.ok z C)
    (hR:Cs.length+Ds.length<=140000000000)(ha:base<=w.heap.size):
    ∃v' w',(Builtin.append_ #[t,t] ty #[v,v2]).run P w=.ok v' w'/\y9 w' base e z v' (Cs++Ds)/\w.grownBy w' v.ownBlock/\(v'.ownBlock=v.ownBlock∨v'.ownBlock=some w.heap.size):=by
  obtain⟨ht,i,zv,hi,hz,hs,hw,hQ,hT,hz0⟩:=zFV hv
  have hF:Cs.length+Ds.length<=maxLen:=by unfold maxLen;omega
  have hB:(Cs.length+Ds.length)*i.bytes<=140737488355328:=xQ (gJ hR hw) rY
  obtain⟨A,c,rfl,hlc,hx,hM,hb⟩:=h2
  have h3:Cs.length+Ds.length<=9223372036854775807:=by unfold maxLen at hF;omega
  cases A with
  | none=>
    have h7:Ds=[]:=by
      cases Ds with
      |nil=>rfl
      |cons D Ds=>obtain⟨b,o,cs,e1,_⟩:=hb 0 D rfl;cases e1
    subst h7
    have hc:=hM rfl
    subst hc
    rcases hr with⟨rfl,rfl⟩|⟨g,cap,I,rfl,g2,g3,g4,g5,g6,g7,g8⟩
    . refine⟨.slice none 0 0,w,?_,.inl ⟨rfl,rfl⟩,⟨rfl,rfl,rfl,vR _,fun _ _ _=>rfl⟩,.inl rfl⟩
      simp[Builtin.append_,bI ht,sizeOf,typeInfo,hi,Builtin.lenOf,Builtin.firstCells]
    . refine⟨_,w,?_,.inr ⟨g,cap,I,rfl,g2,g3,by simpa using g4,g5,g6,g7,by simpa using g8⟩,⟨rfl,rfl,rfl,vR _,fun _ _ _=>rfl⟩,.inl rfl⟩
      simp[Builtin.append_,bI ht,sizeOf,typeInfo,hi,Builtin.lenOf,Builtin.firstCells,g4,storeCells]
  | some ad=>
    obtain⟨h,n1,n2,n3,n4,n5⟩:∃h:List WD,h.length=Ds.length*z/\(∀j u,h[j]?=some u->w.cell? (ad.add j)=some u)/\(∀u,u∈h->u.oneCell'=true)/\h.all z9=true/\∀(i:Nat) (C:CU),Ds[i]?=some C->C.p ((h.drop (i*z)).take z) w:=by
      cases Ds with
      |nil=>exact⟨[],eN,eN,eN,rfl,eN⟩
      | cons D Ds=>
        obtain⟨b,o,cs,e1,_⟩:=hb 0 D rfl
        cases e1
        obtain⟨h,k1,k2,k3⟩:=zG6 (W:=w) (b:=b) (z:=z) (D::Ds) o hD fun i C hV=>by
          obtain⟨b',o',hO,e',m1,m2⟩:=hb i C hV
          cases e'
          exact⟨hO,m1,m2⟩
        exact⟨h,k1,fun j u hj=>by rw[xH];exact k2 j u hj,k3⟩
    -- what the growing arm leaves
    have grown:∀(old:Nat) (cs:List WD) (row:Option Nat),cs.length=Cs.length*z->cs.all z9=true->(∀(i:Nat) (C:CU),Cs[i]?=some C->C.p ((cs.drop (i*z)).take z) w)->old<Cs.length+Ds.length->
        y9 (w.drew.alloc (.cells (cs.toArray++h.toArray++Builtin.zeroCells zv.cells (grownCap w (Cs.length+Ds.length) old e-(Cs.length+Ds.length))) e)) base e z (.slice (some ⟨w.heap.size,0,none⟩) (Cs.length+Ds.length) (grownCap w (Cs.length+Ds.length) old e)) (Cs++Ds)/\
        w.grownBy (w.drew.alloc (.cells (cs.toArray++h.toArray++Builtin.zeroCells zv.cells (grownCap w (Cs.length+Ds.length) old e-(Cs.length+Ds.length))) e)) row:=by
      intro old cs row hl hn hU ho
      have hS:=grownCap_ge w (Cs.length+Ds.length) old e
      have hx:grownCap w (Cs.length+Ds.length) old e<=maxLen:=grownCap_le_maxLen w (Cs.length+Ds.length) old e hF
      refine⟨.inr ⟨w.heap.size,_,_,by rw[uD],ha,xM w.drew _,by rw[uD];exact hS,hx,?_,?_,?_⟩,⟨rfl,rfl,rfl,eN,fun k hk _=>heap_alloc_old w.drew _ hk⟩⟩
      . simp only[Array.size_append,bN,size_zeroCells,hQ,hl,n1,<-vU]
        congr 1
        omega
      . simp only[pV]
        exact zIE hn n4 (zD0 hT _)
      . simp only[pV]
        exact zFF hl n1 hU n5 (zN ⟨rfl,rfl,rfl,eN,fun k hk=>heap_alloc_old w.drew _ hk⟩)
    rcases hr with⟨rfl,rfl⟩|⟨g,cap,I,rfl,g2,g3,g4,g5,g6,g7,g8⟩
    . by_cases hm:Ds.length=0
      . have h7:=xL hm
        subst h7
        refine⟨.slice none 0 0,w,?_,.inl ⟨rfl,rfl⟩,⟨rfl,rfl,rfl,vR _,fun _ _ _=>rfl⟩,.inl rfl⟩
        simp[Builtin.append_,bI ht,sizeOf,typeInfo,hi,Builtin.lenOf,Builtin.firstCells,loadCells,loadCellsFrom]
      . have hr:=run_append_nil (P:=P) w t ty e i zv ht hi hz ad Ds.length c h (by rw[hs];exact n1) n2 oA (by simp at h3;omega) (by simp at hB;omega)
        have J:=grown 0 [] (Value.ownBlock (.slice none 0 0)) eN rfl eN sB
        simp only[lM,uK,fS,Array.empty_append]at J ⊢
        exact⟨_,_,hr,J.1,J.2,.inr rfl⟩
    . by_cases hroom:Cs.length+Ds.length<=cap
      . have h4:Cs.length*i.size+h.length<=I.size:=by rw[n1,g6,hs,<-vU];exact uE _ hroom
        have hr:=run_append_room (P:=P) w t ty e i ht hi g Cs.length cap I g3 ad Ds.length c h (by rw[hs];exact n1) n2 n3 hroom h4
        rw[hs]at hr h4
        have J:w.grownBy (w.setRow g (I.toList.take (Cs.length*z)++h++I.toList.drop (Cs.length*z+h.length)).toArray) (some g):=zDl w g _
        have hk:y4 w (w.setRow g (I.toList.take (Cs.length*z)++h++I.toList.drop (Cs.length*z+h.length)).toArray):=
          y9.keepU (v:=.slice (some ⟨g,0,none⟩) Cs.length cap) (Cs:=Cs) (base:=base) (e:=e) (z:=z) (.inr ⟨g,cap,I,rfl,g2,g3,g4,g5,g6,g7,g8⟩) J
        have hW:I.toList.length=cap*z:=g6
        have hL:Cs.length*z<=I.toList.length:=by rw[hW];exact uE _ g4
        have O:(I.toList.take (Cs.length*z)).length=Cs.length*z:=by rw[uG,uT hL]
        have h5:∀u,u∈I.toList->z9 u=true:=xR.1 g7
        refine⟨_,_,hr,.inr ⟨g,cap,_,by rw[uD],g2,fX w g I _ e _ g3,by rw[uD];exact hroom,g5,?_,?_,?_⟩,J,.inl rfl⟩
        . simp only[bN,uD,uG,uS,pW]
          rw[<-g6]
          omega
        . exact zIE (xR.2 fun u hu=>h5 u (gA hu)) n4 (xR.2 fun u hu=>h5 u (gP hu))
        . refine zFF O n1 (fun j C hj=>?_) n5 hk
          have h8:j<Cs.length:=(cD.1 hj).1
          have h1:=g8 j C hj
          rw[<-gU (Cs.length*z) I.toList,zC9 O h8]at h1
          exact h1
      . have O:(I.toList.take (Cs.length*z)).length=Cs.length*z:=by
          rw[uG,show I.toList.length=cap*z from g6,uT (uE _ g4)]
        have h9:∀j u,(I.toList.take (Cs.length*z))[j]?=some u->w.cell? ((⟨g,0,none⟩:Addr).add j)=some u:=fun j u hj=>by
          rw[xH,uK]
          rw[gB]at hj
          split at hj
          . unfold World.cell?
            simp only[g3]
            simpa using hj
          . cases hj
        have hr:=run_append_grow (P:=P) w t ty e i zv ht hi hz ⟨g,0,none⟩ Cs.length cap (I.toList.take (Cs.length*z)) (by rw[hs];exact O) h9 ad Ds.length c h (by rw[hs];exact n1) n2 oA oA (growslice_fits oA hB)
        have J:=grown cap (I.toList.take (Cs.length*z)) (Value.ownBlock (.slice (some ⟨g,0,none⟩) Cs.length cap)) O (xR.2 fun u hu=>xR.1 g7 u (gA hu)) (fun j C hj=>by
          have h8:j<Cs.length:=(cD.1 hj).1
          have h1:=g8 j C hj
          rw[<-gU (Cs.length*z) I.toList,zC9 O h8]at h1
          exact h1) oA
        exact⟨_,_,hr,J.1,J.2,.inr rfl⟩
section
variable {S:Nat->Prop}{F:Fence}{m:Nat}{P:WG}{Q:Exit->Act->WB->Prop}{w0 w1:WB}{K K0:List (Nat×KF)}{B B0:List Bx}{n n0:Nat}{ds ds0:List Deferred}{a a0:Act}{w:WB}
theorem wW{S':Nat->Prop}{w':WB}:∀(B:List Bx),(∀x,x∈B->x.r=true)->qJ S w0 a w B->qJ S' w' a w B
 | [],_,_=>trivial
 |x::B,hr,⟨⟨cs,h1,_,h3⟩,h4⟩=>⟨⟨cs,h1,.inl (hr x eN),h3⟩,wW B (fun y h=>hr y (by simp[h])) h4⟩
def frz(B:List Bx):List Bx:=B.map fun x=>⟨x.t,x.e,x.c,x.b,true⟩
theorem qJ.freeze:∀(B:List Bx),qJ S w0 a w B->qJ S w0 a w (frz B)
 | [],_=>trivial
 |x::B,⟨⟨cs,h1,_,h3,h4,h5,h6⟩,h7⟩=>⟨⟨cs,h1,.inl rfl,h3,h4,h5,fun y h=>by
  obtain⟨z,hz,rfl⟩:=xG.1 h
  exact .inr ⟨rfl,rfl⟩⟩,qJ.freeze B h7⟩
theorem StS.freeze(h:StS S w0 K B n ds a w):StS S w0 K (frz B) n ds a w:=⟨h.gr,h.size,h.nd,h.sl,qJ.freeze B h.bx,h.mks,h.so⟩
theorem StS.below(h:St w0 K B n ds a w):Below w0.heap.size w0 w:=h.gr.below
theorem StS.val(h:StS S w0 K B n ds a w){t:Nat}{v:WD}(I:(t,KF.u (UF.eq v))∈K):a.tmps.getD t undef=v:=h.sl _ I
theorem StS.resN(h:St w1 K B n [] a w)(I:Below w0.heap.size w0 w1){fn:Func}{f:SF}{t:Nat}(J:fn.results=#[.tmp t])(hd:f.p (a.tmps.getD t undef) w):bodyPost P fn (Ret w0 f) .ret a w:=by
 refine⟨h.nd,_,?_,⟨_,rfl,hd,I.trans (h.below.mono I.size)⟩⟩
 simp[results,J]
theorem wZ(h:St w1 K B n [] a w)(J:Below w0.heap.size w0 w1){fn:Func}{f:SF}{t:Nat}(I:fn.results=#[.tmp t])(hd:∀v W,(zAt K B t).p v W->f.p v W):bodyPost P fn (Ret w0 f) .ret a w:=
 h.resN J I (hd _ _ (h.at.sl t))
def wD(W:WB)(e:WE)(z:Nat)(Cs:List CU):SF:=⟨fun v w=>y9 w W.heap.size e z v Cs,fun _ _ _ h hb=>h.below hb⟩
end
section
variable {F:Fence}{m:Nat}{P:WG}{w0:WB}{ops:Array Oper}{G:Nat->SF}{d:Tmp}{ty:WE}{pos:String}{aft:Array Edge}
end
section
variable {F:Fence}{m:Nat}{P:WG}{w0:WB}{ops:Array Oper}{G:Nat->SF}{d:Tmp}{ty:WE}{pos:String}{aft:Array Edge}
theorem zQt{f:FuncId}{cs:Array WK}(h:∀(b:Act) (W:WB),Below w0.heap.size w0 W->(∀x,x∈cs.toList->(fct G x).p (b.eval x) W)->(G d).p (.func (.func f) #[] (cs.map b.eval)) W):qR F m P w0 ops G ⟨some d,.makeFunc (.func f) #[] cs,ty,pos,aft,none⟩:=
 qY (fun _ e=>by cases e) (fun _ e=>by cases e) fun b W I J=>by
  have:=h b W I fun x O=>J x (by simpa[Op.operands]using O)
  exact⟨_,by simp[execOp,Instr.makeFunc],this⟩
theorem zNV{f:FuncId}(h:∀u v W,Below w0.heap.size w0 W->(fct G x).p u W->(fct G y).p v W->(G d).p (.func (.func f) #[] #[u,v]) W):qR F m P w0 ops G ⟨some d,.makeFunc (.func f) #[] #[x,y],ty,pos,aft,none⟩:=
 zQt fun b W J I=>by simpa using h _ _ W J (I x eN) (I y eN)
theorem zL{C:CU}(hz:zA8 P t=some z)(O:Cs[i]?=some C)(hx:∀v W,Below w0.heap.size w0 W->(fct G x).p v W->(SF.row z Cs).p v W)(hy:∀v W,(fct G y).p v W->v=.int .i64 (i:Int))(hd:∀v W,(wB C.cf).p v W->(G d).p v W:=by exact fun _ _ h=>h):qR F m P w0 ops G ⟨some d,.indexAddr t x y,ty,pos,aft,none⟩:=
 qY (fun _ e=>by cases e) (fun _ e=>by cases e) fun b W hb hh=>by
  obtain⟨A,c,e,h2,h3,h4,h5⟩:=hx _ _ hb (hh x (by simp[Op.operands]))
  have e2:=hy _ _ (hh y (by simp[Op.operands]))
  obtain⟨b',o,cs,rfl,h6,h7⟩:=h5 i C O
  have hlt:i<Cs.length:=(cD.1 O).1
  unfold zA8 at hz
  split at hz<;>try cases hz
  rename_i e' hu
  cases hin:P.info? e' with
  |none=>rw[hin]at hz;cases hz
  |some ie=>
   rw[hin]at hz
   simp only[fO,fP]at hz
   have I:P.elem t=e':=by simp[Program.elem,hu]
   refine⟨.pointer (some ⟨b',o+i*z,none⟩),?_,hd _ _ ⟨b',o+i*z,cs,rfl,h7,h6⟩⟩
   have J:(0:Int)<=(i:Int)/\(i:Int)<(Cs.length:Nat):=oA
   simp only[execOp,e,e2]
   rw[bW,pZ _ _ _ _ _ _ _ (by rw[I];exact hu),if_pos J,I]
   simp[sizeOf,typeInfo,hin,hz,xH]
theorem qZ(ht:P.underlying t=some (.slice (P.elem t)))(hx:∀v W,Below w0.heap.size w0 W->(fct G x).p v W->(SF.row z Cs).p v W)(hd:∀W,(G d).p (.int .i64 (Cs.length:Nat)) W:=by exact fun _=>rfl):qR F m P w0 ops G ⟨some d,.call ⟨.builtin .len,#[x],#[t]⟩,ty,pos,aft,none⟩:=by
 intro b W K Q hb hr hK
 obtain⟨A,c,e,_⟩:=hx _ _ hb (qX hr (x:=x) (by simp[Op.operands,Call.operands]))
 refine⟨fun f hf=>(by
  unfold Oper.about at hf
  simp[resolve,go_sem]at hf),?_⟩
 rw[bG _ _ _ (fun _ e=>by cases e)]
 have:(execOp b.eval ⟨some d,.call ⟨.builtin .len,#[x],#[t]⟩,ty,pos,aft,none⟩).run P W=.ok (.value (.int .i64 (Cs.length:Nat))) W:=by
  simp[execOp,resolve,invoke,builtin,e,run_len_slice _ _ _ _ _ _ ht,goInt]
 rw[this]
 exact hK _ _ (fun d' e'=>by cases e';exact hd _) (xF _ _)
end
section
variable {F:Fence}{m:Nat}{P:WG}{ops:Array Oper}{Q:Exit->Act->WB->Prop}
end
section
variable {S:Nat->Prop}{F:Fence}{m:Nat}{P:WG}{ops:Array Oper}{Q:Exit->Act->WB->Prop}{w0:WB}{K:List (Nat×KF)}{B:List Bx}{n:Nat}{ds:List Deferred}{a:Act}{w:WB}
end
section
variable {S:Nat->Prop}{w0:WB}{K:List (Nat×KF)}{B:List Bx}{n:Nat}{ds:List Deferred}{a:Act}{w:WB}
end
section
variable {F:Fence}{n:Nat}{P:WG}{ops:Array Oper}{Q:Exit->Act->WB->Prop}
variable {listed0:Array Bool}{A:Nat->Bool}{E:Nat->WD->WB->Prop}{C:WB->Prop}{a0:Act}
end
section
variable {S:Nat->Prop}{w0:WB}{K:List (Nat×KF)}{B:List Bx}{n:Nat}{ds:List Deferred}{a:Act}{w:WB}{F:Fence}{m:Nat}{P:WG}{ops:Array Oper}{Q:Exit->Act->WB->Prop}
end
section
variable {w0:WB}{P:WG}{ops:Array Oper}{G:Nat->SF}{d:Tmp}{ty:WE}{pos:String}{aft:Array Edge}
section
variable {l:WD}{x y:WK}{t:WE}{z:Nat}{Cs:List CU}{i:Nat}{C:CU}
end
end
section
variable {S:Nat->Prop}{w0:WB}{K:List (Nat×KF)}{B:List Bx}{n:Nat}{ds:List Deferred}{a:Act}{w:WB}{F:Fence}{m:Nat}{P:WG}{ops:Array Oper}{Q:Exit->Act->WB->Prop}
end
section
variable {S:Nat->Prop}{w0:WB}{K:List (Nat×KF)}{B:List Bx}{n:Nat}{ds:List Deferred}{a:Act}{w:WB}{F:Fence}{m:Nat}{P:WG}{ops:Array Oper}{Q:Exit->Act->WB->Prop}{wb:WB}{CW:WB->Prop}{D:List Nat}
theorem zHY(h:o.guard=none):Region.wanted o (yielded ops a.tmps)=true:=by unfold Region.wanted;rw[h]
end
section
variable {F:Fence}{m:Nat}{P:WG}{w0:WB}{ops:Array Oper}{G:Nat->SF}{d:Tmp}{ty:WE}{pos:String}{aft:Array Edge}
end
end Go.Proofs.Wd
