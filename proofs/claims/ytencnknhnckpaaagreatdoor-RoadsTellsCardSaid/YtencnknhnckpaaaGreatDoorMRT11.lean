/- prod.Mul's inner function: Karatsuba and what it needs. -/
import Derived.Test.YtencnknhnckpaaaGreatDoorMRT9
import Derived.Test.YtencnknhnckpaaaGreatDoorMRT6
abbrev nQ:=@Go.wpIn_skip
abbrev nR:=@Go.wpIn_ret
abbrev nS:=@Int.tdiv_eq_ediv_of_nonneg
abbrev nT:=@Go.IntKind.wrap_i64
namespace Go.Proofs.Wd
open Tryz
variable {M k m m' mb n x y:Nat}{u v:WD}{W w0:WB}{P:Program}{ats:Array TypeId}{F:Fence}{ops:Array Oper}{G:Nat->SF}{ty:TypeId}{f:FuncId}{args:Array WD}
set_option maxRecDepth 100000
set_option maxHeartbeats 1000000
open Go.RowKit Lb
def LX(n x:Nat)(v:WD)(W:WB):Prop:=∃A c l,v=.slice A n c/\Rd W A n c l/\Lt l/\val l=x
def fLX(n x:Nat):UF:=.mk' (LX n x) fun _ _ _ ⟨A,c,l,e,h1,h2,h3⟩ k=>⟨A,c,l,e,h1.keepU k,h2,h3⟩
def zDK(x:Nat):UF:=.mk' (fun v w=>jB w v x) fun _ _ _ ⟨A,n,c,l,e,h1,h2⟩ k=>⟨A,n,c,l,e,h1,h2.keepU k⟩
def LY(m x:Nat)(v:WD)(W:WB):Prop:=∃n,LX n x v W/\n<=m
def fLY(m x:Nat):UF:=.mk' (LY m x) fun _ _ _ ⟨n,h,h1⟩ k=>⟨n,(fLX n x).us _ _ _ h k,h1⟩
theorem LX.lt(h:LX n x v W):x<BB^n:=by
 obtain⟨A,c,l,e,J,I,rfl⟩:=h
 rw[<-J.len]
 exact qO I
theorem wO(h:LX n x v W)(I:n<=m):LY m x v W:=⟨n,h,I⟩
theorem zGr(h:jB W v x)(O:x<BB^m):LY m x v W:=by
 obtain⟨A,n,c,l,rfl,I,J⟩:=h
 exact⟨n,⟨A,c,l,rfl,J,I.lt,I.val⟩,by rw[<-J.len];exact I.len O⟩
def wN(xs:List Nat):SF:=⟨fun v W=>∃A ls,v=.slice A xs.length xs.length/\Rds W A xs.length ls/\ls.map val=xs,fun _ _ _ ⟨A,ls,h1,h2,h3⟩ hb=>⟨A,ls,h1,h2.below hb,h3⟩⟩
theorem zSZ{e:Ending}{W':WB}(h:jH W x e W'):Ret W (zDK x).tS e W':=by
 obtain⟨A,n,c,l,rfl,J,I,O⟩:=h
 exact⟨_,rfl,⟨A,n,c,l,rfl,J,I⟩,O⟩
theorem zN9(h:LY m x u W)(h':LY m y v W)(hm:m<=100000):Calls prog 94 #[u,v] W (Ret W (zDK (x*y)).tS):=by
 obtain⟨n,⟨A,c,l,rfl,h1,O,rfl⟩,hn⟩:=h
 obtain⟨n',⟨A',c',l',rfl,J,I,rfl⟩,hn'⟩:=h'
 exact(zLB A n c l A' n' c' l' W h1 J O I oA oA).mono fun e W' he=>zSZ he
theorem zJA{xs:List Nat}(h:(wN xs).p u W)(J:xs.length<=1000):Calls prog 96 #[u] W (Ret W (zDK xs.sum).tS):=by
 obtain⟨A,ls,rfl,O,rfl⟩:=h
 exact(zMI A _ _ ls W O J).mono fun e W' I=>zSZ I
theorem zQG(h:LY m x u W)(h':LY m y v W)(hm:m<=1000000)(O:y<=x):Calls prog 95 #[u,v] W (Ret W (zDK (x-y)).tS):=by
 obtain⟨n,⟨A,c,l,rfl,h1,h2,rfl⟩,hn⟩:=h
 obtain⟨n',⟨A',c',l',rfl,J,I,rfl⟩,hn'⟩:=h'
 exact(zLA A n c A' n' c' W _ (zH7 A n c l A' n' c' l' W h1 J h2 I O oA oA)).mono fun e W' he=>zSZ he
theorem zJB(h:LY m x u W)(hv:v=.int .i64 (k:Int))(hm:m<=100000)(hk:k<=100000):Calls prog 97 #[u,v] W (Ret W (fLY (k+m) (BB^k*x)).tS):=by
 obtain⟨n,⟨A,c,l,rfl,I,O,rfl⟩,hn⟩:=h
 subst hv
 refine(zML A n c l k W I oA hk).mono fun e W' he=>?_
 obtain⟨A',n',c',rfl,J,h4⟩:=he
 refine⟨_,rfl,⟨n',⟨A',c',_,rfl,J,zHW (jU k) O,zKP k l⟩,?_⟩,h4⟩
 rw[<-J.len,uD,mZ,I.len]
 omega
theorem zSU(A A':Option Addr)(n c n' c':Nat):zV prog 150 2 [(0,.slice A n c),(1,.slice A' n' c')]=some (28,#[.slice A n c,.slice A' n' c']):=rZ
theorem zST(A A' J:Option Addr)(n c n' c' h I:Nat):zV prog 150 3 [(0,.slice A n c),(1,.slice A' n' c'),(2,.slice J h I)]=some (28,#[.slice A n c,.slice A' n' c',.slice J h I]):=rZ
theorem zKZ(h:LY m x u W)(h':LY m y v W)(hm:m<=1000000):∃e cs,zV prog 150 2 [(0,u),(1,v)]=some (e,cs)/\(wN [x,y]).p (.slice (some ⟨W.heap.size,0,none⟩) 2 2) (W.alloc (.cells cs e)):=by
 obtain⟨n,⟨A,c,l,rfl,h1,O,rfl⟩,hn⟩:=h
 obtain⟨n',⟨A',c',l',rfl,J,I,rfl⟩,hn'⟩:=h'
 exact⟨_,_,zSU A A' n c n' c',_,_,rfl,Rds.two h1 O oA J I oA _,rfl⟩
theorem zRs{q:WD}{z:Nat}(h:LY m x u W)(h':LY m y v W)(h4:LY m z q W)(hm:m<=1000000):∃e cs,zV prog 150 3 [(0,u),(1,v),(2,q)]=some (e,cs)/\(wN [x,y,z]).p (.slice (some ⟨W.heap.size,0,none⟩) 3 3) (W.alloc (.cells cs e)):=by
 obtain⟨n,⟨A,c,l,rfl,h1,h2,rfl⟩,hn⟩:=h
 obtain⟨n',⟨A',c',l',rfl,h5,O,rfl⟩,hn'⟩:=h'
 obtain⟨h0,⟨h3,h6,l'',rfl,J,I,rfl⟩,hn''⟩:=h4
 exact⟨_,_,zST A A' h3 n c n' c' h0 h6,_,_,rfl,vM h1 h2 oA h5 O oA J I oA _,rfl⟩
theorem zKO{l:List Nat}(J:Lt l){k:Nat}(I:k<=l.length):val (l.take k)=val l%BB^k/\val (l.drop k)=val l/BB^k:=by
 have h:=qO (zBC J k)
 rw[uG,uT I]at h
 rw[jV l k I]
 exact⟨by rw[gT,uU h],by rw[gH _ _ (uN qA),uP h,uK]⟩
theorem zRx(A:Option Addr)(n c k:Nat)(hk:k<=c)(w:WB):(Instr.sliceAt 28 (.slice A n c) none (some (.int .i64 (k:Int))) none).run prog w=.ok (.slice A k c) w:=by
 obtain⟨i,hi,hz,hs,hb⟩:=cT yS
 simp[Instr.sliceAt,Instr.slice,Instr.sliceBounds,bI yB,sizeOf,typeInfo,hi,go_sem,hk]
theorem zNq(A:Option Addr)(n c k:Nat)(hk:k<=n)(w:WB):(Instr.sliceAt 28 (.slice A n c) (some (.int .i64 (k:Int))) none none).run prog w=.ok (.slice (if c=k then A else A.map (·.add k)) (n-k) (c-k)) w:=by
 obtain⟨i,hi,hz,hs,hb⟩:=cT yS
 simp[Instr.sliceAt,Instr.slice,Instr.sliceBounds,bI yB,sizeOf,typeInfo,hi,hs,go_sem,hk]
section
variable {F:Fence}{m:Nat}{w0:WB}{ops:Array Oper}{G:Nat->SF}{d:Tmp}{ty:TypeId}{pos:String}{aft:Array Edge}
theorem zNU{x I:Operand}(hk:k<=n)(hx:∀v W,(fct G x).p v W->LX n y v W)(hh:∀v W,(fct G I).p v W->v=.int .i64 (k:Int))(hd:∀v W,LX k (y%BB^k) v W->(G d).p v W:=by exact fun _ _ h=>h):qR F m prog w0 ops G ⟨some d,.slice 28 x none (some I) none,ty,pos,aft,none⟩:=
 qY (fun _ e=>by cases e) (fun _ e=>by cases e) fun b W hb hp=>by
  obtain⟨A,c,l,e,J,O,rfl⟩:=hx _ _ (hp x (by simp[Op.operands]))
  have e2:=hh _ _ (hp I (by simp[Op.operands]))
  have hc:=J.le
  refine⟨_,by simp[execOp,e,e2,zRx A n c k oA],hd _ _ ⟨A,c,l.take k,rfl,J.take hk oA (vR _),zBC O k,(zKO O (by rw[J.len];exact hk)).1⟩⟩
theorem zGm{x lo:Operand}(I:k<=n)(hx:∀v W,(fct G x).p v W->LX n y v W)(hh:∀v W,(fct G lo).p v W->v=.int .i64 (k:Int))(hd:∀v W,LX (n-k) (y/BB^k) v W->(G d).p v W:=by exact fun _ _ h=>h):qR F m prog w0 ops G ⟨some d,.slice 28 x (some lo) none none,ty,pos,aft,none⟩:=
 qY (fun _ e=>by cases e) (fun _ e=>by cases e) fun b W hb hp=>by
  obtain⟨A,c,l,e,O,J,rfl⟩:=hx _ _ (hp x (by simp[Op.operands]))
  have e2:=hh _ _ (hp lo (by simp[Op.operands]))
  refine⟨_,by simp[execOp,e,e2,zNq A n c k I],hd _ _ ⟨_,c-k,l.drop k,rfl,O.drop I,zGM J k,(zKO J (by rw[O.len];exact I)).2⟩⟩
theorem zGl{t:TypeId}{x:Operand}(ht:P.underlying t=some (.slice (P.elem t)))(hx:∀v W,(fct G x).p v W->LX n y v W)(hd:∀W,(G d).p (.int .i64 (n:Int)) W:=by exact fun _=>rfl):qR F m P w0 ops G ⟨some d,.call ⟨.builtin .len,#[x],#[t]⟩,ty,pos,aft,none⟩:=by
 intro b W K Q hb hr hK
 obtain⟨A,c,l,e,_⟩:=hx _ _ (qX hr (x:=x) (by simp[Op.operands,Call.operands]))
 refine⟨fun f hf=>(by
  unfold Oper.about at hf
  simp[resolve,go_sem]at hf),?_⟩
 rw[bG _ _ _ (fun _ e=>by cases e)]
 have:(execOp b.eval ⟨some d,.call ⟨.builtin .len,#[x],#[t]⟩,ty,pos,aft,none⟩).run P W=.ok (.value (.int .i64 (n:Int))) W:=by
  simp[execOp,resolve,invoke,builtin,e,run_len_slice _ _ _ _ _ _ ht,goInt]
 rw[this]
 exact hK _ _ (fun d' e=>by cases e;exact hd W) (xF _ _)
theorem zC0{bi:Builtin}{x y:Operand}(u v r:WD)(hx:∀q W,(fct G x).p q W->q=u)(hy:∀q W,(fct G y).p q W->q=v)(hr:∀cs W,(builtin bi ats ty cs #[u,v]).run prog W=.ok (.value r) W)(hd:∀W,(G d).p r W:=by exact fun _=>rfl):qR F m prog w0 ops G ⟨some d,.call ⟨.builtin bi,#[x,y],ats⟩,ty,pos,aft,none⟩:=by
 intro b W K Q hb hp hK
 have e1:=hx _ _ (qX hp (x:=x) (by simp[Op.operands,Call.operands]))
 have e2:=hy _ _ (qX hp (x:=y) (by simp[Op.operands,Call.operands]))
 refine⟨fun f hf=>(by
  unfold Oper.about at hf
  simp[resolve,go_sem]at hf),?_⟩
 rw[bG _ _ _ (fun _ e=>by cases e)]
 have:(execOp b.eval ⟨some d,.call ⟨.builtin bi,#[x,y],ats⟩,ty,pos,aft,none⟩).run prog W=.ok (.value r) W:=by
  simp[execOp,resolve,invoke,e1,e2,hr]
 rw[this]
 exact hK _ _ (fun d' e=>by cases e;exact hd W) (xF _ _)
theorem zEX{y J I:Operand}{g:FuncId}{z:WD}(hF:zHT F m P)(he:Enters P g)(hy:∀v W,(fct G y).p v W->v=.func (.func g) #[] #[z])
  (h:∀u v W,Below w0.heap.size w0 W->(fct G J).p u W->(fct G I).p v W->Calls P g #[u,v,z] W (Ret W (G d))):qR F m P w0 ops G ⟨some d,.call ⟨.value y,#[J,I],ats⟩,ty,pos,aft,none⟩:=by
 intro b W K Q hb O hK
 have h0:=hy _ _ (qX O (x:=y) (by simp[Op.operands,Call.operands]))
 have h1:=h _ _ W hb (qX O (x:=J) (by simp[Op.operands,Call.operands])) (qX O (x:=I) (by simp[Op.operands,Call.operands]))
 refine⟨fun g _=>hF.1 g,?_⟩
 rw[bG _ _ _ (fun _ e=>by cases e)]
 have hx:(execOp b.eval ⟨some d,.call ⟨.value y,#[J,I],ats⟩,ty,pos,aft,none⟩).run P W=.ok (.enter g #[b.eval J,b.eval I,z]) W:=by
  simp only[execOp,resolve,h0]
  simp[invoke,Deferred.ofValue]
  exact he _ _
 rw[hx]
 simp only[fV]
 refine⟨hF.2.1,bC (hF.2.2 _ _ _ (Ret W (G d)) h1) fun e W' hh=>?_⟩
 obtain⟨v,rfl,h2,h3⟩:=hh
 exact hK _ _ (fun d' e=>by cases e;exact h2) h3
end
def CU.one(v:WD):CU:=⟨fun cs _=>cs=[v],fun _ _ _ h _=>h⟩
theorem zL0(cs:List WD)(W:WB)(h:(CU.one v).p cs W):∃u,cs[0]?=some u/\u=v:=by
 obtain rfl:cs=[v]:=h
 exact⟨v,rfl,rfl⟩
theorem zGt{w:WB}(h:w.cell? ⟨mb,0,none⟩=some (zBP mb))(I:Below w.heap.size w W):W.cell? ⟨mb,0,none⟩=some (zBP mb):=(I.cell (p:=⟨mb,0,none⟩) (xJ w _ h)).trans h
def zSC(N:Nat):Prop:=∀(mb:Nat) (W:WB) (u v:WD) (x y:Nat),LY N x u W->LY N y v W->W.cell? ⟨mb,0,none⟩=some (zBP mb)->Calls prog 93 #[u,v,pO mb 0] W (Ret W (zDK (x*y)).tS)
theorem hsum(hM:2<=M){a b:Nat}(hx:x<BB^a)(hy:y<BB^b)(h:a<=M-2)(I:b<=M-2):x+y<BB^(M-1):=by
 have u1:BB^a<=BB^(M-2):=vZ qA h
 have u2:BB^b<=BB^(M-2):=vZ qA I
 have u3:BB^(M-2)*2<=BB^(M-2)*BB:=uR _ (by unfold BB;omega)
 have u4:BB^(M-1)=BB^(M-2)*BB:=by rw[<-vY];congr 1;omega
 omega
theorem zAb{o:Oper}{l:List Oper}(h:qR F m P w0 ops G o)(k:Obs F m P w0 ops G l):Obs F m P w0 ops G (o::l):=⟨h,k⟩
theorem zQv:Obs F m P w0 ops G []:=trivial
theorem zPv(k:Nat)(hk:k<=40000):IntKind.i64.wrap (2*(k:Int))=2*(k:Int):=by
 rw[nT]
 omega
theorem zK5(a b r:Nat)(h:max a b=r)(cs:Array Bool)(W:WB):(builtin .max ats ty cs #[.int .i64 (a:Int),.int .i64 (b:Int)]).run prog W=.ok (.value (.int .i64 (r:Int))) W:=by
 subst h
 simp[Builtin.max_,Builtin.max2,go_sem]
 omega
theorem zPV(a b r:Nat)(h:min a b=r)(cs:Array Bool)(W:WB):(builtin .min ats ty cs #[.int .i64 (a:Int),.int .i64 (b:Int)]).run prog W=.ok (.value (.int .i64 (r:Int))) W:=by
 subst h
 simp[Builtin.min_,Builtin.min2,go_sem]
 omega
theorem zCn{a b:Nat}(J:x<BB^a)(I:y<BB^b)(h:a+b<=M):x*y<BB^M:=by
 refine vW ?_ (vZ qA h)
 rw[uA]
 exact Nat.mul_lt_mul_of_lt_of_lt J I
theorem LY.mono(h:LY m x v W)(I:m<=m'):LY m' x v W:=by
 obtain⟨n,J,O⟩:=h
 exact⟨n,J,xQ O I⟩
theorem zJN(h:Calls P f args W (Ret W (zDK x).tS))(e:x=y):Calls P f args W (Ret W (zDK y).tS):=e▸h
theorem zMK(h:Calls P f args W (Ret W (fLY m x).tS))(e:m<=m'):Calls P f args W (Ret W (fLY m' x).tS):=h.mono fun _ _ ⟨v,J,I,O⟩=>⟨v,J,LY.mono I e,O⟩
theorem zRZ(h:jB W v (((x%BB^k)*(y%BB^k))+(BB^k*(((x%BB^k)+(x/BB^k))*((y%BB^k)+(y/BB^k))-((x%BB^k)*(y%BB^k)+(x/BB^k)*(y/BB^k))))+(BB^(2*k)*((x/BB^k)*(y/BB^k))))):jB W v (x*y):=by
 have J:=Nat.mod_add_div x (BB^k)
 have O:=Nat.mod_add_div y (BB^k)
 have I:=zUu (x%BB^k) (x/BB^k) (y%BB^k) (y/BB^k) (BB^k)
 rw[J,O]at I
 rw[I,<-uA,<-Nat.two_mul]
 exact h
theorem zL3{n':Nat}(hx:LX n x u W)(hy:LX n' y v W)(hmb:W.cell? ⟨mb,0,none⟩=some (zBP mb))(hM:max n n'=M)(hk:M/2=k)(hM4:M<=40000)(ih:0<M->zSC (M-1)):Calls prog 93 #[u,v,pO mb 0] W (Ret W (zDK (x*y)).tS):=by
 have hmix:prog.follows .mixedOrders=true:=rZ
 have hdv:(M:Int).tdiv 2=(k:Int):=by rw[nS oA];omega
 refine y2 [(fLX n x).tS,(fLX n' y).tS,wB (CU.one (zBP mb)).cf] func93 rfl rZ ⟨hx,hy,⟨mb,0, [zBP mb],rfl,rfl,fun j u hj=>(by match j with|0=>(cases hj;exact hmb)|j+1=>simp at hj)⟩,trivial⟩ fun a s=>rgQ ((5,.u (UF.eq (.slice none 0 0)))::[]) s
  (zAb zE<|zQv) fun a w1 s=>rgQ ((10,.Z (fLX n x))::(11,.Z (uI (n:Int)))::(12,.Z (fLX n' y))::(13,.Z (uI (n':Int)))::(14,.Z (uI (M:Int)))::(15,.Z (uI (k:Int)))::(6,.u (uI (k:Int)))::[]) s
  (zAb zA<|
  zAb (zGl rZ (fun _ _ h=>h))<|
  zAb zA<|
  zAb (zGl rZ (fun _ _ h=>h))<|
  zAb (zC0 (.int .i64 (n:Int)) (.int .i64 (n':Int)) (.int .i64 (M:Int)) (fun _ _ h=>h) (fun _ _ h=>h) (zK5 _ _ _ hM))<|
  zAb (zDg (.int .i64 (M:Int)) (.int .i64 2) (.int .i64 (k:Int)) (fun _ _ h=>h) (fun _ _ h=>h) (fun W=>by simp[eqGuard]) (fun W=>by simp[binOp,hdv,go_sem];rw[nT];omega) (fun _=>rfl))<|
  zAb zE<|zQv) fun a w2 s=>fK<|rgQ ((16,.Z (fLX n x))::(17,.Z (uI (n:Int)))::(18,.Z (fLX n' y))::(19,.Z (uI (n':Int)))::(20,.Z (uI ((min n n':Nat):Int)))::(21,.Z (uI (k:Int)))::(22,.Z (uI ((max k 12:Nat):Int)))::(23,.u (uB (decide (min n n'<=max k 12))))::[]) s
  (zAb zA<|
  zAb (zGl rZ (fun _ _ h=>h))<|
  zAb zA<|
  zAb (zGl rZ (fun _ _ h=>h))<|
  zAb (zC0 (.int .i64 (n:Int)) (.int .i64 (n':Int)) (.int .i64 ((min n n':Nat):Int)) (fun _ _ h=>h) (fun _ _ h=>h) (zPV _ _ _ rfl))<|
  zAb zA<|
  zAb (zC0 (.int .i64 (k:Int)) (.int .i64 12) (.int .i64 ((max k 12:Nat):Int)) (fun _ _ h=>h) (fun _ _ h=>h) (zK5 _ _ _ rfl))<|
  zAb (zDg (.int .i64 ((min n n':Nat):Int)) (.int .i64 ((max k 12:Nat):Int)) (.bool (decide (min n n'<=max k 12))) (fun _ _ h=>h) (fun _ _ h=>h) (fun W=>by simp[eqGuard]) (fun W=>by simp[binOp,Op.intCmp]) (fun _=>rfl))<|zQv) fun a w3 s=>StS.cond s (decide (min n n'<=max k 12)) (fun _ _ h=>h) (fun e=>?_) (fun e=>?_)
 .refine fK ?_
  replace s:=s.drop [5]
  refine rgE ((24,.Z (fLX n x))::(25,.Z (fLX n' y))::(26,.Z (zDK (x*y)))::(5,.u (zDK (x*y)))::[]) s
   (zAb zA<|
   zAb zA<|
   zAb (zW zD zTm (fun u0 u1 W hb (h0:LX n x u0 W) (h1:LX n' y u1 W)=>zN9 (wO (m:=40000) h0 oA) (wO (m:=40000) h1 oA) oA))<|
   zAb zE<|zQv) fun a w4 s=>nR ?_
  first|exact wG s (t:=5) rfl (fun _ _ h=>h)|exact wG s (t:=5) rfl (fun _ _ h=>zRZ h)
 .have hc:=mB e
  have hkn:k<n:=oA
  have hkn':k<n':=oA
  have hk2:k<=M-2:=oA
  have hk3:n-k<=M-2:=oA
  have hk4:n'-k<=M-2:=oA
  have hP:0<BB^k:=uN qA
  have bxl:x%BB^k<BB^k:=uH _ hP
  have byl:y%BB^k<BB^k:=uH _ hP
  have bxh:x/BB^k<BB^(n-k):=by rw[xB hP,<-uA,gN oA];exact hx.lt
  have byh:y/BB^k<BB^(n'-k):=by rw[xB hP,<-uA,gN oA];exact hy.lt
  have bsx:=hsum (M:=M) oA bxl bxh hk2 hk3
  have bsy:=hsum (M:=M) oA byl byh hk2 hk4
  obtain⟨N5,hN5⟩:∃N:Nat,N=100000:=⟨_,rfl⟩
  obtain⟨N6,hN6⟩:∃N:Nat,N=300000:=⟨_,rfl⟩
  have bll:x%BB^k*(y%BB^k)+x/BB^k*(y/BB^k)<BB^N5:=by
   have h1:=zCn (M:=N5-2) bxl byl oA
   have h2:=zCn (M:=N5-2) bxh byh oA
   exact vW (hsum (M:=N5) oA h1 h2 oA oA) (vZ qA oA)
  refine nQ<|rgQ ((27,.Z (UF.eq (zBP mb)))::(28,.Z (fLX n x))::(29,.Z (uI (k:Int)))::(30,.Z (fLX k (x%BB^k)))::(31,.Z (fLX n' y))::(32,.Z (uI (k:Int)))::(33,.Z (fLX k (y%BB^k)))::(34,.Z (zDK ((x%BB^k)*(y%BB^k))))::(35,.Z (UF.eq (zBP mb)))::(36,.Z (fLX n x))::(37,.Z (uI (k:Int)))::(38,.Z (fLX (n-k) (x/BB^k)))::(39,.Z (fLX n' y))::(40,.Z (uI (k:Int)))::(41,.Z (fLX (n'-k) (y/BB^k)))::(42,.Z (zDK ((x/BB^k)*(y/BB^k))))::(7,.u (zDK ((x%BB^k)*(y%BB^k))))::(8,.u (zDK ((x/BB^k)*(y/BB^k))))::[]) s
   (zAb (z5 (C:=(CU.one (zBP mb)).cf) rZ (fun _ _ h=>h) zL0)<|
   zAb zA<|
   zAb zA<|
   zAb (zNU (k:=k) oA (fun _ _ h=>h) (fun _ _ h=>h))<|
   zAb zA<|
   zAb zA<|
   zAb (zNU (k:=k) oA (fun _ _ h=>h) (fun _ _ h=>h))<|
   zAb (zEX zD zQU (fun _ _ h=>h) (fun u0 u1 W hb (h0:LX k (x%BB^k) u0 W) (h1:LX k (y%BB^k) u1 W)=>ih oA mb W u0 u1 _ _ (wO (m:=M-1) h0 oA) (wO (m:=M-1) h1 oA) (zGt hmb (s.up hb))))<|
   zAb (z5 (C:=(CU.one (zBP mb)).cf) rZ (fun _ _ h=>h) zL0)<|
   zAb zA<|
   zAb zA<|
   zAb (zGm (k:=k) oA (fun _ _ h=>h) (fun _ _ h=>h))<|
   zAb zA<|
   zAb zA<|
   zAb (zGm (k:=k) oA (fun _ _ h=>h) (fun _ _ h=>h))<|
   zAb (zEX zD zQU (fun _ _ h=>h) (fun u0 u1 W hb (h0:LX (n-k) (x/BB^k) u0 W) (h1:LX (n'-k) (y/BB^k) u1 W)=>ih oA mb W u0 u1 _ _ (wO (m:=M-1) h0 oA) (wO (m:=M-1) h1 oA) (zGt hmb (s.up hb))))<|
   zAb zE<|
   zAb zE<|zQv) fun a w5 s=>rgQ ((43,.Z (UF.eq (zBP mb)))::(44,.Z (fLX n x))::(45,.Z (uI (k:Int)))::(46,.Z (fLX k (x%BB^k)))::(47,.Z (fLX n x))::(48,.Z (uI (k:Int)))::(49,.Z (fLX (n-k) (x/BB^k)))::(50,.s (wN [x%BB^k,x/BB^k]))::(51,.Z (zDK ((x%BB^k)+(x/BB^k))))::(52,.Z (fLX n' y))::(53,.Z (uI (k:Int)))::(54,.Z (fLX k (y%BB^k)))::(55,.Z (fLX n' y))::(56,.Z (uI (k:Int)))::(57,.Z (fLX (n'-k) (y/BB^k)))::(58,.s (wN [y%BB^k,y/BB^k]))::(59,.Z (zDK ((y%BB^k)+(y/BB^k))))::(60,.Z (zDK (((x%BB^k)+(x/BB^k))*((y%BB^k)+(y/BB^k)))))::(61,.Z (zDK ((x%BB^k)*(y%BB^k))))::(62,.Z (zDK ((x/BB^k)*(y/BB^k))))::(63,.s (wN [(x%BB^k)*(y%BB^k),(x/BB^k)*(y/BB^k)]))::(64,.Z (zDK (((x%BB^k)*(y%BB^k))+((x/BB^k)*(y/BB^k)))))::(65,.Z (zDK ((((x%BB^k)+(x/BB^k))*((y%BB^k)+(y/BB^k)))-(((x%BB^k)*(y%BB^k))+((x/BB^k)*(y/BB^k))))))::(9,.u (zDK ((((x%BB^k)+(x/BB^k))*((y%BB^k)+(y/BB^k)))-(((x%BB^k)*(y%BB^k))+((x/BB^k)*(y/BB^k))))))::[]) s
   (zAb (z5 (C:=(CU.one (zBP mb)).cf) rZ (fun _ _ h=>h) zL0)<|
   zAb zA<|
   zAb zA<|
   zAb (zNU (k:=k) oA (fun _ _ h=>h) (fun _ _ h=>h))<|
   zAb zA<|
   zAb zA<|
   zAb (zGm (k:=k) oA (fun _ _ h=>h) (fun _ _ h=>h))<|
   zAb (y8 (fun u v W (hu:LX k (x%BB^k) u W) (hv:LX (n-k) (x/BB^k) v W)=>zKZ (wO (m:=N6) hu oA) (wO (m:=N6) hv oA) oA))<|
   zAb (zK zD zOi (fun u0 W hb (h0:(wN [x%BB^k,x/BB^k]).p u0 W)=>zJN (zJA h0 eN) eN))<|
   zAb zA<|
   zAb zA<|
   zAb (zNU (k:=k) oA (fun _ _ h=>h) (fun _ _ h=>h))<|
   zAb zA<|
   zAb zA<|
   zAb (zGm (k:=k) oA (fun _ _ h=>h) (fun _ _ h=>h))<|
   zAb (y8 (fun u v W (hu:LX k (y%BB^k) u W) (hv:LX (n'-k) (y/BB^k) v W)=>zKZ (wO (m:=N6) hu oA) (wO (m:=N6) hv oA) oA))<|
   zAb (zK zD zOi (fun u0 W hb (h0:(wN [y%BB^k,y/BB^k]).p u0 W)=>zJN (zJA h0 eN) eN))<|
   zAb (zEX zD zQU (fun _ _ h=>h) (fun u0 u1 W hb (h0:jB W u0 ((x%BB^k)+(x/BB^k))) (h1:jB W u1 ((y%BB^k)+(y/BB^k)))=>ih oA mb W u0 u1 _ _ (zGr (m:=M-1) h0 bsx) (zGr (m:=M-1) h1 bsy) (zGt hmb (s.up hb))))<|
   zAb zA<|
   zAb zA<|
   zAb (y8 (fun u v W (hu:jB W u ((x%BB^k)*(y%BB^k))) (hv:jB W v ((x/BB^k)*(y/BB^k)))=>zKZ (zGr (m:=N6) hu (zCn (M:=N6) bxl byl oA)) (zGr (m:=N6) hv (zCn (M:=N6) bxh byh oA)) oA))<|
   zAb (zK zD zOi (fun u0 W hb (h0:(wN [(x%BB^k)*(y%BB^k),(x/BB^k)*(y/BB^k)]).p u0 W)=>zJN (zJA h0 eN) eN))<|
   zAb (zW zD zTl (fun u0 u1 W hb (h0:jB W u0 (((x%BB^k)+(x/BB^k))*((y%BB^k)+(y/BB^k)))) (h1:jB W u1 (((x%BB^k)*(y%BB^k))+((x/BB^k)*(y/BB^k))))=>zQG (zGr (m:=N5) h0 (zCn (M:=N5) bsx bsy oA)) (zGr (m:=N5) h1 bll) oA (zQH _ _ _ _)))<|
   zAb zE<|zQv) fun a w6 s=>fK ?_
  replace s:=s.drop [5]
  refine rgE ((66,.Z (zDK ((x%BB^k)*(y%BB^k))))::(67,.Z (zDK ((((x%BB^k)+(x/BB^k))*((y%BB^k)+(y/BB^k)))-(((x%BB^k)*(y%BB^k))+((x/BB^k)*(y/BB^k))))))::(68,.Z (uI (k:Int)))::(69,.Z (fLY 200000 (BB^(k)*((((x%BB^k)+(x/BB^k))*((y%BB^k)+(y/BB^k)))-(((x%BB^k)*(y%BB^k))+((x/BB^k)*(y/BB^k)))))))::(70,.Z (zDK ((x/BB^k)*(y/BB^k))))::(71,.Z (uI (k:Int)))::(72,.Z (uI ((2*k:Nat):Int)))::(73,.Z (fLY 200000 (BB^(2*k)*((x/BB^k)*(y/BB^k)))))::(74,.s (wN [(x%BB^k)*(y%BB^k),BB^(k)*((((x%BB^k)+(x/BB^k))*((y%BB^k)+(y/BB^k)))-(((x%BB^k)*(y%BB^k))+((x/BB^k)*(y/BB^k)))),BB^(2*k)*((x/BB^k)*(y/BB^k))]))::(75,.Z (zDK (((x%BB^k)*(y%BB^k))+(BB^(k)*((((x%BB^k)+(x/BB^k))*((y%BB^k)+(y/BB^k)))-(((x%BB^k)*(y%BB^k))+((x/BB^k)*(y/BB^k)))))+(BB^(2*k)*((x/BB^k)*(y/BB^k))))))::(5,.u (zDK (((x%BB^k)*(y%BB^k))+(BB^(k)*((((x%BB^k)+(x/BB^k))*((y%BB^k)+(y/BB^k)))-(((x%BB^k)*(y%BB^k))+((x/BB^k)*(y/BB^k)))))+(BB^(2*k)*((x/BB^k)*(y/BB^k))))))::[]) s
   (zAb zA<|
   zAb zA<|
   zAb zA<|
   zAb (zW zD zR6 (fun u0 u1 W hb (h0:jB W u0 ((((x%BB^k)+(x/BB^k))*((y%BB^k)+(y/BB^k)))-(((x%BB^k)*(y%BB^k))+((x/BB^k)*(y/BB^k))))) (h1:u1=.int .i64 (k:Int))=>zMK (zJB (k:=k) (zGr (m:=N5) h0 (mC (mM _ _) (zCn (M:=N5) bsx bsy oA))) h1 oA oA) oA))<|
   zAb zA<|
   zAb zA<|
   zAb (zDg (.int .i64 2) (.int .i64 (k:Int)) (.int .i64 ((2*k:Nat):Int)) (fun _ _ h=>h) (fun _ _ h=>h) (fun W=>by simp[eqGuard]) (fun W=>by simp[binOp,Op.intArith,zPv k oA]) (fun _=>rfl))<|
   zAb (zW zD zR6 (fun u0 u1 W hb (h0:jB W u0 ((x/BB^k)*(y/BB^k))) (h1:u1=.int .i64 ((2*k:Nat):Int))=>zMK (zJB (k:=2*k) (zGr (m:=N5) h0 (zCn (M:=N5) bxh byh oA)) h1 oA oA) oA))<|
   zAb (zHr (fun u v q W (hu:jB W u ((x%BB^k)*(y%BB^k))) (hv:LY 200000 (BB^(k)*((((x%BB^k)+(x/BB^k))*((y%BB^k)+(y/BB^k)))-(((x%BB^k)*(y%BB^k))+((x/BB^k)*(y/BB^k))))) v W) (hq:LY 200000 (BB^(2*k)*((x/BB^k)*(y/BB^k))) q W)=>zRs (zGr (m:=N6) hu (zCn (M:=N6) bxl byl oA)) (LY.mono hv (m':=N6) oA) (LY.mono hq (m':=N6) oA) oA))<|
   zAb (zK zD zOi (fun u0 W hb (h0:(wN [(x%BB^k)*(y%BB^k),BB^(k)*((((x%BB^k)+(x/BB^k))*((y%BB^k)+(y/BB^k)))-(((x%BB^k)*(y%BB^k))+((x/BB^k)*(y/BB^k)))),BB^(2*k)*((x/BB^k)*(y/BB^k))]).p u0 W)=>zJN (zJA h0 eN) (by simp[uV])))<|
   zAb zE<|zQv) fun a w7 s=>nR ?_
  first|exact wG s (t:=5) rfl (fun _ _ h=>h)|exact wG s (t:=5) rfl (fun _ _ h=>zRZ h)
theorem zL4:∀M,M<=40000->zSC M:=by
 intro M
 induction M using Nat.strongRecOn with
 |_ M ih=>
  intro hM mb W u v x y h I J
  obtain⟨n,h,hn⟩:=h
  obtain⟨n',I,hn'⟩:=I
  exact zL3 h I J rfl rfl oA fun h0=>ih _ oA oA
theorem zOa(M:Nat)(hM:M<=40000):zUC M:=fun mb A n c l A' n' c' l' w h h' ht O hn I J=>
 (zL4 M hM mb w _ _ _ _ ⟨n,⟨A,c,l,rfl,h,ht,rfl⟩,hn⟩ ⟨n',⟨A',c',l',rfl,h',O,rfl⟩,I⟩ J).mono fun e w' ⟨v,h1,⟨A1,n1,c1,l1,h2,h3,h4⟩,h5⟩=>⟨A1,n1,c1,l1,by rw[h1,h2],h3,h4,h5⟩
end Go.Proofs.Wd
