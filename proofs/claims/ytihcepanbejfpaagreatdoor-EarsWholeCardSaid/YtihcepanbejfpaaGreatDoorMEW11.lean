/- prod.Mul's inner function: Karatsuba and what it needs. -/
import Derived.Test.YtihcepanbejfpaaGreatDoorMEW9
import Derived.Test.YtihcepanbejfpaaGreatDoorMEW6
abbrev pS:=@Go.wpIn_ret
abbrev pT:=@Go.wpIn_skip
abbrev pU:=@Go.IntKind.wrap_i64
abbrev pV:=@Go.run_len_slice
abbrev pW:=@Int.tdiv_eq_ediv_of_nonneg
namespace Go.Proofs.Wd
open Tryz
variable {M k m m' mb n x y:Nat}{u v:WE}{W w0:WB}{P:Program}{ats:Array TypeId}{F:Fence}{ops:Array Oper}{G:Nat->SF}{ty:TypeId}{f:FuncId}{args:Array WE}
set_option maxRecDepth 100000
set_option maxHeartbeats 1000000
open Go.RowKit Lb
def LX(n x:Nat)(v:WE)(W:WB):Prop:=∃A c l,v=.slice A n c/\Rd W A n c l/\Lt l/\val l=x
def fLX(n x:Nat):UF:=.mk' (LX n x) fun _ _ _ ⟨A,c,l,e,h1,h2,h3⟩ k=>⟨A,c,l,e,h1.keepU k,h2,h3⟩
def zE3(x:Nat):UF:=.mk' (fun v w=>qN w v x) fun _ _ _ ⟨A,n,c,l,e,h1,h2⟩ k=>⟨A,n,c,l,e,h1,h2.keepU k⟩
def LY(m x:Nat)(v:WE)(W:WB):Prop:=∃n,LX n x v W/\n<=m
def fLY(m x:Nat):UF:=.mk' (LY m x) fun _ _ _ ⟨n,h,h1⟩ k=>⟨n,(fLX n x).us _ _ _ h k,h1⟩
theorem LX.lt(h:LX n x v W):x<BB^n:=by
 obtain⟨A,c,l,e,I,h2,rfl⟩:=h
 rw[<-I.len]
 exact qV h2
theorem wQ(h:LX n x v W)(I:n<=m):LY m x v W:=⟨n,h,I⟩
theorem zHY(h:qN W v x)(J:x<BB^m):LY m x v W:=by
 obtain⟨A,n,c,l,rfl,I,h2⟩:=h
 exact⟨n,⟨A,c,l,rfl,h2,I.lt,I.val⟩,by rw[<-h2.len];exact I.len J⟩
def wP(xs:List Nat):SF:=⟨fun v W=>∃A ls,v=.slice A xs.length xs.length/\Rds W A xs.length ls/\ls.map val=xs,fun _ _ _ ⟨A,ls,h1,h2,h3⟩ hb=>⟨A,ls,h1,h2.below hb,h3⟩⟩
theorem zXT{e:Ending}{W':WB}(h:jH W x e W'):Ret W (zE3 x).tS e W':=by
 obtain⟨A,n,c,l,rfl,I,h2,h3⟩:=h
 exact⟨_,rfl,⟨A,n,c,l,rfl,I,h2⟩,h3⟩
theorem zRq(h:LY m x u W)(O:LY m y v W)(hm:m<=100000):Calls prog 130 #[u,v] W (Ret W (zE3 (x*y)).tS):=by
 obtain⟨n,⟨A,c,l,rfl,U,h2,rfl⟩,hn⟩:=h
 obtain⟨n',⟨A',c',l',rfl,I,J,rfl⟩,hn'⟩:=O
 exact(zN7 A n c l A' n' c' l' W U I h2 J oA oA).mono fun e W' he=>zXT he
theorem zLJ{xs:List Nat}(h:(wP xs).p u W)(J:xs.length<=1000):Calls prog 132 #[u] W (Ret W (zE3 xs.sum).tS):=by
 obtain⟨A,ls,rfl,I,rfl⟩:=h
 exact(zPH A _ _ ls W I J).mono fun e W' O=>zXT O
theorem zUA(h:LY m x u W)(U:LY m y v W)(hm:m<=1000000)(O:y<=x):Calls prog 131 #[u,v] W (Ret W (zE3 (x-y)).tS):=by
 obtain⟨n,⟨A,c,l,rfl,h1,h2,rfl⟩,hn⟩:=h
 obtain⟨n',⟨A',c',l',rfl,I,J,rfl⟩,hn'⟩:=U
 exact(zN6 A n c A' n' c' W _ (zJX A n c l A' n' c' l' W h1 I h2 J O oA oA)).mono fun e W' he=>zXT he
theorem zLK(h:LY m x u W)(O:v=.int .i64 (k:Int))(hm:m<=100000)(U:k<=100000):Calls prog 133 #[u,v] W (Ret W (fLY (k+m) (BB^k*x)).tS):=by
 obtain⟨n,⟨A,c,l,rfl,I,h2,rfl⟩,hn⟩:=h
 subst O
 refine(zPK A n c l k W I oA U).mono fun e W' he=>?_
 obtain⟨A',n',c',rfl,h3,J⟩:=he
 refine⟨_,rfl,⟨n',⟨A',c',_,rfl,h3,zJN (j5 k) h2,zM0 k l⟩,?_⟩,J⟩
 rw[<-h3.len,uG,nZ,I.len]
 omega
theorem zXN(A A':Option Addr)(n c n' c':Nat):yI prog 145 2 [(0,.slice A n c),(1,.slice A' n' c')]=some (24,#[.slice A n c,.slice A' n' c']):=fJ
theorem zXM(A A' J:Option Addr)(n c n' c' O I:Nat):yI prog 145 3 [(0,.slice A n c),(1,.slice A' n' c'),(2,.slice J O I)]=some (24,#[.slice A n c,.slice A' n' c',.slice J O I]):=fJ
theorem zNl(h:LY m x u W)(O:LY m y v W)(hm:m<=1000000):∃e cs,yI prog 145 2 [(0,u),(1,v)]=some (e,cs)/\(wP [x,y]).p (.slice (some ⟨W.heap.size,0,none⟩) 2 2) (W.alloc (.cells cs e)):=by
 obtain⟨n,⟨A,c,l,rfl,U,h2,rfl⟩,hn⟩:=h
 obtain⟨n',⟨A',c',l',rfl,J,I,rfl⟩,hn'⟩:=O
 exact⟨_,_,zXN A A' n c n' c',_,_,rfl,Rds.two U h2 oA J I oA _,rfl⟩
theorem zVF{q:WE}{z:Nat}(h:LY m x u W)(h':LY m y v W)(h6:LY m z q W)(hm:m<=1000000):∃e cs,yI prog 145 3 [(0,u),(1,v),(2,q)]=some (e,cs)/\(wP [x,y,z]).p (.slice (some ⟨W.heap.size,0,none⟩) 3 3) (W.alloc (.cells cs e)):=by
 obtain⟨n,⟨A,c,l,rfl,h1,h2,rfl⟩,hn⟩:=h
 obtain⟨n',⟨A',c',l',rfl,U,h5,rfl⟩,hn'⟩:=h'
 obtain⟨h4,⟨O,h0,l'',rfl,J,I,rfl⟩,hn''⟩:=h6
 exact⟨_,_,zXM A A' O n c n' c' h4 h0,_,_,rfl,Rds.three h1 h2 oA U h5 oA J I oA _,rfl⟩
theorem zMZ{l:List Nat}(ht:Lt l){k:Nat}(J:k<=l.length):val (l.take k)=val l%BB^k/\val (l.drop k)=val l/BB^k:=by
 have I:=qV (zCa ht k)
 rw[uE,uR J]at I
 rw[j7 l k J]
 exact⟨by rw[gU,uD I],by rw[gD _ _ (uO qC),uP I,uM]⟩
theorem zVI(A:Option Addr)(n c k:Nat)(hk:k<=c)(w:WB):(Instr.sliceAt 24 (.slice A n c) none (some (.int .i64 (k:Int))) none).run prog w=.ok (.slice A k c) w:=by
 obtain⟨i,hi,hz,hs,hb⟩:=cY yX
 simp[Instr.sliceAt,Instr.slice,Instr.sliceBounds,bI yH,sizeOf,typeInfo,hi,go_sem,hk]
theorem zQv(A:Option Addr)(n c k:Nat)(hk:k<=n)(w:WB):(Instr.sliceAt 24 (.slice A n c) (some (.int .i64 (k:Int))) none none).run prog w=.ok (.slice (if c=k then A else A.map (·.add k)) (n-k) (c-k)) w:=by
 obtain⟨i,hi,hz,hs,hb⟩:=cY yX
 simp[Instr.sliceAt,Instr.slice,Instr.sliceBounds,bI yH,sizeOf,typeInfo,hi,hs,go_sem,hk]
section
variable {F:Fence}{m:Nat}{w0:WB}{ops:Array Oper}{G:Nat->SF}{d:Tmp}{ty:TypeId}{pos:String}{aft:Array Edge}
theorem zQ7{x hi:Operand}(O:k<=n)(hx:∀v W,(fct G x).p v W->LX n y v W)(hh:∀v W,(fct G hi).p v W->v=.int .i64 (k:Int))(hd:∀v W,LX k (y%BB^k) v W->(G d).p v W:=by exact fun _ _ h=>h):qO F m prog w0 ops G ⟨some d,.slice 24 x none (some hi) none,ty,pos,aft,none⟩:=
 qG (fun _ e=>by cases e) (fun _ e=>by cases e) fun b W hb J=>by
  obtain⟨A,c,l,e,I,h2,rfl⟩:=hx _ _ (J x (by simp[Op.operands]))
  have U:=hh _ _ (J hi (by simp[Op.operands]))
  have hc:=I.le
  refine⟨_,by simp[execOp,e,U,zVI A n c k oA],hd _ _ ⟨A,c,l.take k,rfl,I.take O oA (vQ _),zCa h2 k,(zMZ h2 (by rw[I.len];exact O)).1⟩⟩
theorem zHS{x lo:Operand}(I:k<=n)(hx:∀v W,(fct G x).p v W->LX n y v W)(hh:∀v W,(fct G lo).p v W->v=.int .i64 (k:Int))(hd:∀v W,LX (n-k) (y/BB^k) v W->(G d).p v W:=by exact fun _ _ h=>h):qO F m prog w0 ops G ⟨some d,.slice 24 x (some lo) none none,ty,pos,aft,none⟩:=
 qG (fun _ e=>by cases e) (fun _ e=>by cases e) fun b W hb J=>by
  obtain⟨A,c,l,e,O,h2,rfl⟩:=hx _ _ (J x (by simp[Op.operands]))
  have U:=hh _ _ (J lo (by simp[Op.operands]))
  refine⟨_,by simp[execOp,e,U,zQv A n c k I],hd _ _ ⟨_,c-k,l.drop k,rfl,O.drop I,zIv h2 k,(zMZ h2 (by rw[O.len];exact I)).2⟩⟩
theorem zHR{t:TypeId}{x:Operand}(ht:P.underlying t=some (.slice (P.elem t)))(hx:∀v W,(fct G x).p v W->LX n y v W)(hd:∀W,(G d).p (.int .i64 (n:Int)) W:=by exact fun _=>rfl):qO F m P w0 ops G ⟨some d,.call ⟨.builtin .len,#[x],#[t]⟩,ty,pos,aft,none⟩:=by
 intro b W K Q hb hr hK
 obtain⟨A,c,l,e,_⟩:=hx _ _ (qB hr (x:=x) (by simp[Op.operands,Call.operands]))
 refine⟨fun f hf=>(by
  unfold Oper.about at hf
  simp[resolve,go_sem]at hf),?_⟩
 rw[bH _ _ _ (fun _ e=>by cases e)]
 have:(execOp b.eval ⟨some d,.call ⟨.builtin .len,#[x],#[t]⟩,ty,pos,aft,none⟩).run P W=.ok (.value (.int .i64 (n:Int))) W:=by
  simp[execOp,resolve,invoke,builtin,e,pV _ _ _ _ _ _ ht,goInt]
 rw[this]
 exact hK _ _ (fun d' e=>by cases e;exact hd W) (xG _ _)
theorem zDZ{bi:Builtin}{x y:Operand}(u v r:WE)(hx:∀q W,(fct G x).p q W->q=u)(hy:∀q W,(fct G y).p q W->q=v)(hr:∀cs W,(builtin bi ats ty cs #[u,v]).run prog W=.ok (.value r) W)(hd:∀W,(G d).p r W:=by exact fun _=>rfl):qO F m prog w0 ops G ⟨some d,.call ⟨.builtin bi,#[x,y],ats⟩,ty,pos,aft,none⟩:=by
 intro b W K Q hb hp hK
 have e1:=hx _ _ (qB hp (x:=x) (by simp[Op.operands,Call.operands]))
 have e2:=hy _ _ (qB hp (x:=y) (by simp[Op.operands,Call.operands]))
 refine⟨fun f hf=>(by
  unfold Oper.about at hf
  simp[resolve,go_sem]at hf),?_⟩
 rw[bH _ _ _ (fun _ e=>by cases e)]
 have:(execOp b.eval ⟨some d,.call ⟨.builtin bi,#[x,y],ats⟩,ty,pos,aft,none⟩).run prog W=.ok (.value r) W:=by
  simp[execOp,resolve,invoke,e1,e2,hr]
 rw[this]
 exact hK _ _ (fun d' e=>by cases e;exact hd W) (xG _ _)
theorem zGf{y J I:Operand}{g:FuncId}{z:WE}(hF:zJQ F m P)(he:Enters P g)(hy:∀v W,(fct G y).p v W->v=.func (.func g) #[] #[z])
  (h:∀u v W,bW w0 W->(fct G J).p u W->(fct G I).p v W->Calls P g #[u,v,z] W (Ret W (G d))):qO F m P w0 ops G ⟨some d,.call ⟨.value y,#[J,I],ats⟩,ty,pos,aft,none⟩:=by
 intro b W K Q hb O hK
 have h0:=hy _ _ (qB O (x:=y) (by simp[Op.operands,Call.operands]))
 have h1:=h _ _ W hb (qB O (x:=J) (by simp[Op.operands,Call.operands])) (qB O (x:=I) (by simp[Op.operands,Call.operands]))
 refine⟨fun g _=>hF.1 g,?_⟩
 rw[bH _ _ _ (fun _ e=>by cases e)]
 have U:(execOp b.eval ⟨some d,.call ⟨.value y,#[J,I],ats⟩,ty,pos,aft,none⟩).run P W=.ok (.enter g #[b.eval J,b.eval I,z]) W:=by
  simp only[execOp,resolve,h0]
  simp[invoke,Deferred.ofValue]
  exact he _ _
 rw[U]
 simp only[mE]
 refine⟨hF.2.1,bG (hF.2.2 _ _ _ (Ret W (G d)) h1) fun e W' hh=>?_⟩
 obtain⟨v,rfl,h2,h3⟩:=hh
 exact hK _ _ (fun d' e=>by cases e;exact h2) h3
end
def CU.one(v:WE):CU:=⟨fun cs _=>cs=[v],fun _ _ _ h _=>h⟩
theorem zOL(cs:List WE)(W:WB)(h:(CU.one v).p cs W):∃u,cs[0]?=some u/\u=v:=by
 obtain rfl:cs=[v]:=h
 exact⟨v,rfl,rfl⟩
theorem zH2{w:WB}(h:w.cell? ⟨mb,0,none⟩=some (zCr mb))(hb:bW w W):W.cell? ⟨mb,0,none⟩=some (zCr mb):=(hb.cell (p:=⟨mb,0,none⟩) (xK w _ h)).trans h
def zXt(N:Nat):Prop:=∀(mb:Nat) (W:WB) (u v:WE) (x y:Nat),LY N x u W->LY N y v W->W.cell? ⟨mb,0,none⟩=some (zCr mb)->Calls prog 129 #[u,v,pO mb 0] W (Ret W (zE3 (x*y)).tS)
theorem hsum(hM:2<=M){a b:Nat}(hx:x<BB^a)(hy:y<BB^b)(I:a<=M-2)(hb:b<=M-2):x+y<BB^(M-1):=by
 have u1:BB^a<=BB^(M-2):=vZ qC I
 have u2:BB^b<=BB^(M-2):=vZ qC hb
 have u3:BB^(M-2)*2<=BB^(M-2)*BB:=uS _ (by unfold BB;omega)
 have u4:BB^(M-1)=BB^(M-2)*BB:=by rw[<-uA];congr 1;omega
 omega
theorem zAq{o:Oper}{l:List Oper}(h:qO F m P w0 ops G o)(k:Obs F m P w0 ops G l):Obs F m P w0 ops G (o::l):=⟨h,k⟩
theorem zUs:Obs F m P w0 ops G []:=trivial
theorem zTc(k:Nat)(hk:k<=40000):IntKind.i64.wrap (2*(k:Int))=2*(k:Int):=by
 rw[pU]
 omega
theorem zNv(a b r:Nat)(h:max a b=r)(cs:Array Bool)(W:WB):(builtin .max ats ty cs #[.int .i64 (a:Int),.int .i64 (b:Int)]).run prog W=.ok (.value (.int .i64 (r:Int))) W:=by
 subst h
 simp[Builtin.max_,Builtin.max2,go_sem]
 omega
theorem zTF(a b r:Nat)(h:min a b=r)(cs:Array Bool)(W:WB):(builtin .min ats ty cs #[.int .i64 (a:Int),.int .i64 (b:Int)]).run prog W=.ok (.value (.int .i64 (r:Int))) W:=by
 subst h
 simp[Builtin.min_,Builtin.min2,go_sem]
 omega
theorem zC9{a b:Nat}(J:x<BB^a)(I:y<BB^b)(h:a+b<=M):x*y<BB^M:=by
 refine vV ?_ (vZ qC h)
 rw[uC]
 exact Nat.mul_lt_mul_of_lt_of_lt J I
theorem LY.mono(h:LY m x v W)(I:m<=m'):LY m' x v W:=by
 obtain⟨n,J,h2⟩:=h
 exact⟨n,J,xR h2 I⟩
theorem zLZ(h:Calls P f args W (Ret W (zE3 x).tS))(e:x=y):Calls P f args W (Ret W (zE3 y).tS):=e▸h
theorem zPJ(h:Calls P f args W (Ret W (fLY m x).tS))(e:m<=m'):Calls P f args W (Ret W (fLY m' x).tS):=h.mono fun _ _ ⟨v,I,h2,h3⟩=>⟨v,I,LY.mono h2 e,h3⟩
theorem zWl(h:qN W v (((x%BB^k)*(y%BB^k))+(BB^k*(((x%BB^k)+(x/BB^k))*((y%BB^k)+(y/BB^k))-((x%BB^k)*(y%BB^k)+(x/BB^k)*(y/BB^k))))+(BB^(2*k)*((x/BB^k)*(y/BB^k))))):qN W v (x*y):=by
 have O:=Nat.mod_add_div x (BB^k)
 have J:=Nat.mod_add_div y (BB^k)
 have I:=zZC (x%BB^k) (x/BB^k) (y%BB^k) (y/BB^k) (BB^k)
 rw[O,J]at I
 rw[I,<-uC,<-Nat.two_mul]
 exact h
theorem zOM{n':Nat}(hx:LX n x u W)(hy:LX n' y v W)(hmb:W.cell? ⟨mb,0,none⟩=some (zCr mb))(hM:max n n'=M)(hk:M/2=k)(hM4:M<=40000)(ih:0<M->zXt (M-1)):Calls prog 129 #[u,v,pO mb 0] W (Ret W (zE3 (x*y)).tS):=by
 have hmix:prog.follows .mixedOrders=true:=fJ
 have hdv:(M:Int).tdiv 2=(k:Int):=by rw[pW oA];omega
 refine zZ [(fLX n x).tS,(fLX n' y).tS,wC (CU.one (zCr mb)).cf] func129 rfl fJ ⟨hx,hy,⟨mb,0, [zCr mb],rfl,rfl,fun j u hj=>(by match j with|0=>(cases hj;exact hmb)|j+1=>simp at hj)⟩,trivial⟩ fun a s=>rgQ ((5,.u (UF.eq (sN)))::[]) s
  (zAq zF<|zUs) fun a w1 s=>rgQ ((10,.Z (fLX n x))::(11,.Z (uI (n:Int)))::(12,.Z (fLX n' y))::(13,.Z (uI (n':Int)))::(14,.Z (uI (M:Int)))::(15,.Z (uI (k:Int)))::(6,.u (uI (k:Int)))::[]) s
  (zAq zA<|
  zAq (zHR fJ (fun _ _ h=>h))<|
  zAq zA<|
  zAq (zHR fJ (fun _ _ h=>h))<|
  zAq (zDZ (.int .i64 (n:Int)) (.int .i64 (n':Int)) (.int .i64 (M:Int)) (fun _ _ h=>h) (fun _ _ h=>h) (zNv _ _ _ hM))<|
  zAq (zDN (.int .i64 (M:Int)) (.int .i64 2) (.int .i64 (k:Int)) (fun _ _ h=>h) (fun _ _ h=>h) (fun W=>by simp[eqGuard]) (fun W=>by simp[binOp,hdv,go_sem];rw[pU];omega) (fun _=>rfl))<|
  zAq zF<|zUs) fun a w2 s=>lP<|rgQ ((16,.Z (fLX n x))::(17,.Z (uI (n:Int)))::(18,.Z (fLX n' y))::(19,.Z (uI (n':Int)))::(20,.Z (uI ((min n n':Nat):Int)))::(21,.Z (uI (k:Int)))::(22,.Z (uI ((max k 12:Nat):Int)))::(23,.u (uB (decide (min n n'<=max k 12))))::[]) s
  (zAq zA<|
  zAq (zHR fJ (fun _ _ h=>h))<|
  zAq zA<|
  zAq (zHR fJ (fun _ _ h=>h))<|
  zAq (zDZ (.int .i64 (n:Int)) (.int .i64 (n':Int)) (.int .i64 ((min n n':Nat):Int)) (fun _ _ h=>h) (fun _ _ h=>h) (zTF _ _ _ rfl))<|
  zAq zA<|
  zAq (zDZ (.int .i64 (k:Int)) (.int .i64 12) (.int .i64 ((max k 12:Nat):Int)) (fun _ _ h=>h) (fun _ _ h=>h) (zNv _ _ _ rfl))<|
  zAq (zDN (.int .i64 ((min n n':Nat):Int)) (.int .i64 ((max k 12:Nat):Int)) (.bool (decide (min n n'<=max k 12))) (fun _ _ h=>h) (fun _ _ h=>h) (fun W=>by simp[eqGuard]) (fun W=>by simp[binOp,Op.intCmp]) (fun _=>rfl))<|zUs) fun a w3 s=>StS.cond s (decide (min n n'<=max k 12)) (fun _ _ h=>h) (fun e=>?_) (fun e=>?_)
 .refine lP ?_
  replace s:=s.drop [5]
  refine rgE ((24,.Z (fLX n x))::(25,.Z (fLX n' y))::(26,.Z (zE3 (x*y)))::(5,.u (zE3 (x*y)))::[]) s
   (zAq zA<|
   zAq zA<|
   zAq (zH zC zW0 (fun u0 u1 W hb (h0:LX n x u0 W) (h1:LX n' y u1 W)=>zRq (wQ (m:=40000) h0 oA) (wQ (m:=40000) h1 oA) oA))<|
   zAq zF<|zUs) fun a w4 s=>pS ?_
  first|exact wF s (t:=5) rfl (fun _ _ h=>h)|exact wF s (t:=5) rfl (fun _ _ h=>zWl h)
 .have hc:=nF e
  have hkn:k<n:=oA
  have hkn':k<n':=oA
  have hk2:k<=M-2:=oA
  have hk3:n-k<=M-2:=oA
  have hk4:n'-k<=M-2:=oA
  have hP:0<BB^k:=uO qC
  have bxl:x%BB^k<BB^k:=vY _ hP
  have byl:y%BB^k<BB^k:=vY _ hP
  have bxh:x/BB^k<BB^(n-k):=by rw[xC hP,<-uC,gM oA];exact hx.lt
  have byh:y/BB^k<BB^(n'-k):=by rw[xC hP,<-uC,gM oA];exact hy.lt
  have bsx:=hsum (M:=M) oA bxl bxh hk2 hk3
  have bsy:=hsum (M:=M) oA byl byh hk2 hk4
  obtain⟨N5,hN5⟩:∃N:Nat,N=100000:=⟨_,rfl⟩
  obtain⟨N6,hN6⟩:∃N:Nat,N=300000:=⟨_,rfl⟩
  have bll:x%BB^k*(y%BB^k)+x/BB^k*(y/BB^k)<BB^N5:=by
   have h1:=zC9 (M:=N5-2) bxl byl oA
   have h2:=zC9 (M:=N5-2) bxh byh oA
   exact vV (hsum (M:=N5) oA h1 h2 oA oA) (vZ qC oA)
  refine pT<|rgQ ((27,.Z (UF.eq (zCr mb)))::(28,.Z (fLX n x))::(29,.Z (uI (k:Int)))::(30,.Z (fLX k (x%BB^k)))::(31,.Z (fLX n' y))::(32,.Z (uI (k:Int)))::(33,.Z (fLX k (y%BB^k)))::(34,.Z (zE3 ((x%BB^k)*(y%BB^k))))::(35,.Z (UF.eq (zCr mb)))::(36,.Z (fLX n x))::(37,.Z (uI (k:Int)))::(38,.Z (fLX (n-k) (x/BB^k)))::(39,.Z (fLX n' y))::(40,.Z (uI (k:Int)))::(41,.Z (fLX (n'-k) (y/BB^k)))::(42,.Z (zE3 ((x/BB^k)*(y/BB^k))))::(7,.u (zE3 ((x%BB^k)*(y%BB^k))))::(8,.u (zE3 ((x/BB^k)*(y/BB^k))))::[]) s
   (zAq (qE (C:=(CU.one (zCr mb)).cf) fJ (fun _ _ h=>h) zOL)<|
   zAq zA<|
   zAq zA<|
   zAq (zQ7 (k:=k) oA (fun _ _ h=>h) (fun _ _ h=>h))<|
   zAq zA<|
   zAq zA<|
   zAq (zQ7 (k:=k) oA (fun _ _ h=>h) (fun _ _ h=>h))<|
   zAq (zGf zC zPc (fun _ _ h=>h) (fun u0 u1 W hb (h0:LX k (x%BB^k) u0 W) (h1:LX k (y%BB^k) u1 W)=>ih oA mb W u0 u1 _ _ (wQ (m:=M-1) h0 oA) (wQ (m:=M-1) h1 oA) (zH2 hmb (s.up hb))))<|
   zAq (qE (C:=(CU.one (zCr mb)).cf) fJ (fun _ _ h=>h) zOL)<|
   zAq zA<|
   zAq zA<|
   zAq (zHS (k:=k) oA (fun _ _ h=>h) (fun _ _ h=>h))<|
   zAq zA<|
   zAq zA<|
   zAq (zHS (k:=k) oA (fun _ _ h=>h) (fun _ _ h=>h))<|
   zAq (zGf zC zPc (fun _ _ h=>h) (fun u0 u1 W hb (h0:LX (n-k) (x/BB^k) u0 W) (h1:LX (n'-k) (y/BB^k) u1 W)=>ih oA mb W u0 u1 _ _ (wQ (m:=M-1) h0 oA) (wQ (m:=M-1) h1 oA) (zH2 hmb (s.up hb))))<|
   zAq zF<|
   zAq zF<|zUs) fun a w5 s=>rgQ ((43,.Z (UF.eq (zCr mb)))::(44,.Z (fLX n x))::(45,.Z (uI (k:Int)))::(46,.Z (fLX k (x%BB^k)))::(47,.Z (fLX n x))::(48,.Z (uI (k:Int)))::(49,.Z (fLX (n-k) (x/BB^k)))::(50,.s (wP [x%BB^k,x/BB^k]))::(51,.Z (zE3 ((x%BB^k)+(x/BB^k))))::(52,.Z (fLX n' y))::(53,.Z (uI (k:Int)))::(54,.Z (fLX k (y%BB^k)))::(55,.Z (fLX n' y))::(56,.Z (uI (k:Int)))::(57,.Z (fLX (n'-k) (y/BB^k)))::(58,.s (wP [y%BB^k,y/BB^k]))::(59,.Z (zE3 ((y%BB^k)+(y/BB^k))))::(60,.Z (zE3 (((x%BB^k)+(x/BB^k))*((y%BB^k)+(y/BB^k)))))::(61,.Z (zE3 ((x%BB^k)*(y%BB^k))))::(62,.Z (zE3 ((x/BB^k)*(y/BB^k))))::(63,.s (wP [(x%BB^k)*(y%BB^k),(x/BB^k)*(y/BB^k)]))::(64,.Z (zE3 (((x%BB^k)*(y%BB^k))+((x/BB^k)*(y/BB^k)))))::(65,.Z (zE3 ((((x%BB^k)+(x/BB^k))*((y%BB^k)+(y/BB^k)))-(((x%BB^k)*(y%BB^k))+((x/BB^k)*(y/BB^k))))))::(9,.u (zE3 ((((x%BB^k)+(x/BB^k))*((y%BB^k)+(y/BB^k)))-(((x%BB^k)*(y%BB^k))+((x/BB^k)*(y/BB^k))))))::[]) s
   (zAq (qE (C:=(CU.one (zCr mb)).cf) fJ (fun _ _ h=>h) zOL)<|
   zAq zA<|
   zAq zA<|
   zAq (zQ7 (k:=k) oA (fun _ _ h=>h) (fun _ _ h=>h))<|
   zAq zA<|
   zAq zA<|
   zAq (zHS (k:=k) oA (fun _ _ h=>h) (fun _ _ h=>h))<|
   zAq (z9 (fun u v W (hu:LX k (x%BB^k) u W) (hv:LX (n-k) (x/BB^k) v W)=>zNl (wQ (m:=N6) hu oA) (wQ (m:=N6) hv oA) oA))<|
   zAq (zG zC zLQ (fun u0 W hb (h0:(wP [x%BB^k,x/BB^k]).p u0 W)=>zLZ (zLJ h0 fG) fG))<|
   zAq zA<|
   zAq zA<|
   zAq (zQ7 (k:=k) oA (fun _ _ h=>h) (fun _ _ h=>h))<|
   zAq zA<|
   zAq zA<|
   zAq (zHS (k:=k) oA (fun _ _ h=>h) (fun _ _ h=>h))<|
   zAq (z9 (fun u v W (hu:LX k (y%BB^k) u W) (hv:LX (n'-k) (y/BB^k) v W)=>zNl (wQ (m:=N6) hu oA) (wQ (m:=N6) hv oA) oA))<|
   zAq (zG zC zLQ (fun u0 W hb (h0:(wP [y%BB^k,y/BB^k]).p u0 W)=>zLZ (zLJ h0 fG) fG))<|
   zAq (zGf zC zPc (fun _ _ h=>h) (fun u0 u1 W hb (h0:qN W u0 ((x%BB^k)+(x/BB^k))) (h1:qN W u1 ((y%BB^k)+(y/BB^k)))=>ih oA mb W u0 u1 _ _ (zHY (m:=M-1) h0 bsx) (zHY (m:=M-1) h1 bsy) (zH2 hmb (s.up hb))))<|
   zAq zA<|
   zAq zA<|
   zAq (z9 (fun u v W (hu:qN W u ((x%BB^k)*(y%BB^k))) (hv:qN W v ((x/BB^k)*(y/BB^k)))=>zNl (zHY (m:=N6) hu (zC9 (M:=N6) bxl byl oA)) (zHY (m:=N6) hv (zC9 (M:=N6) bxh byh oA)) oA))<|
   zAq (zG zC zLQ (fun u0 W hb (h0:(wP [(x%BB^k)*(y%BB^k),(x/BB^k)*(y/BB^k)]).p u0 W)=>zLZ (zLJ h0 fG) fG))<|
   zAq (zH zC zWZ (fun u0 u1 W hb (h0:qN W u0 (((x%BB^k)+(x/BB^k))*((y%BB^k)+(y/BB^k)))) (h1:qN W u1 (((x%BB^k)*(y%BB^k))+((x/BB^k)*(y/BB^k))))=>zUA (zHY (m:=N5) h0 (zC9 (M:=N5) bsx bsy oA)) (zHY (m:=N5) h1 bll) oA (zUB _ _ _ _)))<|
   zAq zF<|zUs) fun a w6 s=>lP ?_
  replace s:=s.drop [5]
  refine rgE ((66,.Z (zE3 ((x%BB^k)*(y%BB^k))))::(67,.Z (zE3 ((((x%BB^k)+(x/BB^k))*((y%BB^k)+(y/BB^k)))-(((x%BB^k)*(y%BB^k))+((x/BB^k)*(y/BB^k))))))::(68,.Z (uI (k:Int)))::(69,.Z (fLY 200000 (BB^(k)*((((x%BB^k)+(x/BB^k))*((y%BB^k)+(y/BB^k)))-(((x%BB^k)*(y%BB^k))+((x/BB^k)*(y/BB^k)))))))::(70,.Z (zE3 ((x/BB^k)*(y/BB^k))))::(71,.Z (uI (k:Int)))::(72,.Z (uI ((2*k:Nat):Int)))::(73,.Z (fLY 200000 (BB^(2*k)*((x/BB^k)*(y/BB^k)))))::(74,.s (wP [(x%BB^k)*(y%BB^k),BB^(k)*((((x%BB^k)+(x/BB^k))*((y%BB^k)+(y/BB^k)))-(((x%BB^k)*(y%BB^k))+((x/BB^k)*(y/BB^k)))),BB^(2*k)*((x/BB^k)*(y/BB^k))]))::(75,.Z (zE3 (((x%BB^k)*(y%BB^k))+(BB^(k)*((((x%BB^k)+(x/BB^k))*((y%BB^k)+(y/BB^k)))-(((x%BB^k)*(y%BB^k))+((x/BB^k)*(y/BB^k)))))+(BB^(2*k)*((x/BB^k)*(y/BB^k))))))::(5,.u (zE3 (((x%BB^k)*(y%BB^k))+(BB^(k)*((((x%BB^k)+(x/BB^k))*((y%BB^k)+(y/BB^k)))-(((x%BB^k)*(y%BB^k))+((x/BB^k)*(y/BB^k)))))+(BB^(2*k)*((x/BB^k)*(y/BB^k))))))::[]) s
   (zAq zA<|
   zAq zA<|
   zAq zA<|
   zAq (zH zC zSN (fun u0 u1 W hb (h0:qN W u0 ((((x%BB^k)+(x/BB^k))*((y%BB^k)+(y/BB^k)))-(((x%BB^k)*(y%BB^k))+((x/BB^k)*(y/BB^k))))) (h1:u1=.int .i64 (k:Int))=>zPJ (zLK (k:=k) (zHY (m:=N5) h0 (nD (nR _ _) (zC9 (M:=N5) bsx bsy oA))) h1 oA oA) oA))<|
   zAq zA<|
   zAq zA<|
   zAq (zDN (.int .i64 2) (.int .i64 (k:Int)) (.int .i64 ((2*k:Nat):Int)) (fun _ _ h=>h) (fun _ _ h=>h) (fun W=>by simp[eqGuard]) (fun W=>by simp[binOp,Op.intArith,zTc k oA]) (fun _=>rfl))<|
   zAq (zH zC zSN (fun u0 u1 W hb (h0:qN W u0 ((x/BB^k)*(y/BB^k))) (h1:u1=.int .i64 ((2*k:Nat):Int))=>zPJ (zLK (k:=2*k) (zHY (m:=N5) h0 (zC9 (M:=N5) bxh byh oA)) h1 oA oA) oA))<|
   zAq (zOk (fun u v q W (hu:qN W u ((x%BB^k)*(y%BB^k))) (hv:LY 200000 (BB^(k)*((((x%BB^k)+(x/BB^k))*((y%BB^k)+(y/BB^k)))-(((x%BB^k)*(y%BB^k))+((x/BB^k)*(y/BB^k))))) v W) (hq:LY 200000 (BB^(2*k)*((x/BB^k)*(y/BB^k))) q W)=>zVF (zHY (m:=N6) hu (zC9 (M:=N6) bxl byl oA)) (LY.mono hv (m':=N6) oA) (LY.mono hq (m':=N6) oA) oA))<|
   zAq (zG zC zLQ (fun u0 W hb (h0:(wP [(x%BB^k)*(y%BB^k),BB^(k)*((((x%BB^k)+(x/BB^k))*((y%BB^k)+(y/BB^k)))-(((x%BB^k)*(y%BB^k))+((x/BB^k)*(y/BB^k)))),BB^(2*k)*((x/BB^k)*(y/BB^k))]).p u0 W)=>zLZ (zLJ h0 fG) (by simp[uT])))<|
   zAq zF<|zUs) fun a w7 s=>pS ?_
  first|exact wF s (t:=5) rfl (fun _ _ h=>h)|exact wF s (t:=5) rfl (fun _ _ h=>zWl h)
theorem zON:∀M,M<=40000->zXt M:=by
 intro M
 induction M using Nat.strongRecOn with
 |_ M ih=>
  intro hM mb W u v x y O J I
  obtain⟨n,O,hn⟩:=O
  obtain⟨n',J,hn'⟩:=J
  exact zOM O J I rfl rfl oA fun h0=>ih _ oA oA
theorem zRr(M:Nat)(hM:M<=40000):zZS M:=fun mb A n c l A' n' c' l' w h U ht ht' hn J I=>
 (zON M hM mb w _ _ _ _ ⟨n,⟨A,c,l,rfl,h,ht,rfl⟩,hn⟩ ⟨n',⟨A',c',l',rfl,U,ht',rfl⟩,J⟩ I).mono fun e w' ⟨v,h1,⟨O,n1,c1,l1,h2,h3,h4⟩,h5⟩=>⟨O,n1,c1,l1,by rw[h1,h2],h3,h4,h5⟩
end Go.Proofs.Wd
