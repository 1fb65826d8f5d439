/- prod.Mul's inner function: Karatsuba and what it needs. -/
import Derived.Test.YtdfhaibojmnmkaaGreatDoorMCX9
import Derived.Test.YtdfhaibojmnmkaaGreatDoorMCX6
theorem kC {P:Prop} (h:P:=by kernel_rfl):P:=h
theorem oH {P:Prop} (h:P:=by omega):P:=h
namespace Go.Proofs.Wd
set_option maxRecDepth 100000
set_option maxHeartbeats 1000000
open Go.RowKit Lb
def LX (n x:Nat) (v:Value) (W:World):Prop:= ∃A c l,v= .slice A n c/\Rd W A n c l/\Lt l/\val l=x
def fLX (n x:Nat):UF:= .mk' (LX n x) fun _ _ _ ⟨A,c,l,e,h1,h2,h3⟩ k=>⟨A,c,l,e,h1.keepU k,h2,h3⟩
def zDX (x:Nat):UF:= .mk' (fun v w=>qI w v x) fun _ _ _ ⟨A,n,c,l,e,h1,h2⟩ k=>⟨A,n,c,l,e,h1,h2.keepU k⟩
def LY (m x:Nat) (v:Value) (W:World):Prop:= ∃n,LX n x v W/\n<=m
def fLY (m x:Nat):UF:= .mk' (LY m x) fun _ _ _ ⟨n,h,h1⟩ k=>⟨n,(fLX n x).us _ _ _ h k,h1⟩
theorem LX.lt {n x:Nat} {v:Value} {W:World} (h:LX n x v W):x<BB^n:=by
 obtain ⟨A,c,l,e,h1,h2,rfl⟩:=h
 rw [<-h1.len]
 exact qM h2
theorem LX.ly {n m x:Nat} {v:Value} {W:World} (h:LX n x v W) (hn:n<=m):LY m x v W:=⟨n,h,hn⟩
theorem zF6 {m x:Nat} {v:Value} {W:World} (h:qI W v x) (hx:x<BB^m):LY m x v W:=by
 obtain ⟨A,n,c,l,rfl,h1,h2⟩:=h
 exact ⟨n,⟨A,c,l,rfl,h2,h1.lt,h1.val⟩,by rw [<-h2.len];exact h1.len hx⟩
def SF.lys (xs:List Nat):SF:=⟨fun v W=> ∃A ls,v= .slice A xs.length xs.length/\Rds W A xs.length ls/\ls.map val=xs,fun _ _ _ ⟨A,ls,h1,h2,h3⟩ hb=>⟨A,ls,h1,h2.below hb,h3⟩⟩
theorem zTI {W:World} {x:Nat} {e:Ending} {W':World} (h:q8 W x e W'):Ret W (zDX x).toSF e W':=by
 obtain ⟨A,n,c,l,rfl,h1,h2,h3⟩:=h
 exact ⟨_,rfl,⟨A,n,c,l,rfl,h1,h2⟩,h3⟩
theorem zOd {W:World} {u v:Value} {m x y:Nat} (h:LY m x u W) (h':LY m y v W) (hm:m<=100000):Calls Tryz.prog 191 #[u,v] W (Ret W (zDX (x*y)).toSF):=by
 obtain ⟨n,⟨A,c,l,rfl,h1,h2,rfl⟩,hn⟩:=h
 obtain ⟨n',⟨A',c',l',rfl,h1',h2',rfl⟩,hn'⟩:=h'
 exact (zLu A n c l A' n' c' l' W h1 h1' h2 h2' oH oH).mono fun e W' he=>zTI he
theorem zJc {W:World} {u:Value} {xs:List Nat} (h:(SF.lys xs).p u W) (hn:xs.length<=1000):Calls Tryz.prog 193 #[u] W (Ret W (zDX xs.sum).toSF):=by
 obtain ⟨A,ls,rfl,h1,rfl⟩:=h
 exact (zML A _ _ ls W h1 hn).mono fun e W' he=>zTI he
theorem zQR {W:World} {u v:Value} {m x y:Nat} (h:LY m x u W) (h':LY m y v W) (hm:m<=1000000) (hyx:y<=x):Calls Tryz.prog 192 #[u,v] W (Ret W (zDX (x - y)).toSF):=by
 obtain ⟨n,⟨A,c,l,rfl,h1,h2,rfl⟩,hn⟩:=h
 obtain ⟨n',⟨A',c',l',rfl,h1',h2',rfl⟩,hn'⟩:=h'
 exact (zLt A n c A' n' c' W _ (zHH A n c l A' n' c' l' W h1 h1' h2 h2' hyx oH oH)).mono fun e W' he=>zTI he
theorem zJd {W:World} {u v:Value} {m x k:Nat} (h:LY m x u W) (hv:v= .int .i64 (k:Int)) (hm:m<=100000) (hk:k<=100000):Calls Tryz.prog 194 #[u,v] W (Ret W (fLY (k+m) (BB^k*x)).toSF):=by
 obtain ⟨n,⟨A,c,l,rfl,h1,h2,rfl⟩,hn⟩:=h
 subst hv
 refine (zMP A n c l k W h1 oH hk).mono fun e W' he=> ?_
 obtain ⟨A',n',c',rfl,h3,h4⟩:=he
 refine ⟨_,rfl,⟨n',⟨A',c',_,rfl,h3,zHz (jP k) h2,zKx k l⟩, ?_⟩,h4⟩
 rw [<-h3.len,List.length_append,List.length_replicate,h1.len]
 omega
theorem zTD (A A':Option Addr) (n c n' c':Nat):yK Tryz.prog 180 2 [(0, .slice A n c),(1, .slice A' n' c')]=some (24,#[.slice A n c, .slice A' n' c']):=by kernel_rfl
theorem zTC (A A' A'':Option Addr) (n c n' c' n'' c'':Nat):yK Tryz.prog 180 3 [(0, .slice A n c),(1, .slice A' n' c'),(2, .slice A'' n'' c'')]=some (24,#[.slice A n c, .slice A' n' c', .slice A'' n'' c'']):=by kernel_rfl
theorem zKE {u v:Value} {W:World} {m x y:Nat} (h:LY m x u W) (h':LY m y v W) (hm:m<=1000000): ∃e cs,yK Tryz.prog 180 2 [(0,u),(1,v)]=some (e,cs)/\(SF.lys [x,y]).p (.slice (some ⟨W.heap.size,0,none⟩) 2 2) (W.alloc (.cells cs e)):=by
 obtain ⟨n,⟨A,c,l,rfl,h1,h2,rfl⟩,hn⟩:=h
 obtain ⟨n',⟨A',c',l',rfl,h1',h2',rfl⟩,hn'⟩:=h'
 exact ⟨_,_,zTD A A' n c n' c',_,_,rfl,Rds.two h1 h2 oH h1' h2' oH _,rfl⟩
theorem zRB {u v q:Value} {W:World} {m x y z:Nat} (h:LY m x u W) (h':LY m y v W) (h'':LY m z q W) (hm:m<=1000000): ∃e cs,yK Tryz.prog 180 3 [(0,u),(1,v),(2,q)]=some (e,cs)/\(SF.lys [x,y,z]).p (.slice (some ⟨W.heap.size,0,none⟩) 3 3) (W.alloc (.cells cs e)):=by
 obtain ⟨n,⟨A,c,l,rfl,h1,h2,rfl⟩,hn⟩:=h
 obtain ⟨n',⟨A',c',l',rfl,h1',h2',rfl⟩,hn'⟩:=h'
 obtain ⟨n'',⟨A'',c'',l'',rfl,h1'',h2'',rfl⟩,hn''⟩:=h''
 exact ⟨_,_,zTC A A' A'' n c n' c' n'' c'',_,_,rfl,Rds.three h1 h2 oH h1' h2' oH h1'' h2'' oH _,rfl⟩
theorem zKw {l:List Nat} (ht:Lt l) {k:Nat} (hk:k<=l.length):val (l.take k)=val l % BB^k/\val (l.drop k)=val l / BB^k:=by
 have h1:=qM (zBo ht k)
 rw [List.length_take,Nat.min_eq_left hk] at h1
 rw [jQ l k hk]
 exact ⟨by rw [Nat.add_mul_mod_self_left,Nat.mod_eq_of_lt h1],by rw [Nat.add_mul_div_left _ _ (Nat.pow_pos yY),Nat.div_eq_of_lt h1,Nat.zero_add]⟩
theorem zRE (A:Option Addr) (n c k:Nat) (hk:k<=c) (w:World):(Instr.sliceAt 24 (.slice A n c) none (some (.int .i64 (k:Int))) none).run Tryz.prog w= .ok (.slice A k c) w:=by
 obtain ⟨i,hi,hz,hs,hb⟩:=info_parts yO
 simp [Instr.sliceAt,Instr.slice,Instr.sliceBounds,run_underlying z7,sizeOf,typeInfo,hi,go_sem,hk]
theorem zNr (A:Option Addr) (n c k:Nat) (hk:k<=n) (w:World):(Instr.sliceAt 24 (.slice A n c) (some (.int .i64 (k:Int))) none none).run Tryz.prog w= .ok (.slice (if c=k then A else A.map (·.add k)) (n - k) (c - k)) w:=by
 obtain ⟨i,hi,hz,hs,hb⟩:=info_parts yO
 simp [Instr.sliceAt,Instr.slice,Instr.sliceBounds,run_underlying z7,sizeOf,typeInfo,hi,hs,go_sem,hk]
section
variable {F:Fence} {m:Nat} {w0:World} {ops:Array Oper} {G:Nat->SF} {d:Tmp} {ty:TypeId} {pos:String} {aft:Array Edge}
theorem zNX {x hi:Operand} {n k y:Nat} (hk:k<=n) (hx: ∀v W,(fct G x).p v W->LX n y v W) (hh: ∀v W,(fct G hi).p v W->v= .int .i64 (k:Int)) (hd: ∀v W,LX k (y % BB^k) v W->(G d).p v W:=by exact fun _ _ h=>h):qK F m Tryz.prog w0 ops G ⟨some d, .slice 24 x none (some hi) none,ty,pos,aft,none⟩:=
 qR (fun _ e=>by cases e) (fun _ e=>by cases e) fun b W hb hp=>by
  obtain ⟨A,c,l,e,h1,h2,rfl⟩:=hx _ _ (hp x (by simp [Op.operands]))
  have e2:=hh _ _ (hp hi (by simp [Op.operands]))
  have hc:=h1.le
  refine ⟨_,by simp [execOp,e,e2,zRE A n c k oH],hd _ _ ⟨A,c,l.take k,rfl,h1.take hk oH (Nat.le_refl _),zBo h2 k,(zKw h2 (by rw [h1.len];exact hk)).1⟩⟩
theorem zF2 {x lo:Operand} {n k y:Nat} (hk:k<=n) (hx: ∀v W,(fct G x).p v W->LX n y v W) (hh: ∀v W,(fct G lo).p v W->v= .int .i64 (k:Int)) (hd: ∀v W,LX (n - k) (y / BB^k) v W->(G d).p v W:=by exact fun _ _ h=>h):qK F m Tryz.prog w0 ops G ⟨some d, .slice 24 x (some lo) none none,ty,pos,aft,none⟩:=
 qR (fun _ e=>by cases e) (fun _ e=>by cases e) fun b W hb hp=>by
  obtain ⟨A,c,l,e,h1,h2,rfl⟩:=hx _ _ (hp x (by simp [Op.operands]))
  have e2:=hh _ _ (hp lo (by simp [Op.operands]))
  refine ⟨_,by simp [execOp,e,e2,zNr A n c k hk],hd _ _ ⟨_,c - k,l.drop k,rfl,h1.drop hk,zGs h2 k,(zKw h2 (by rw [h1.len];exact hk)).2⟩⟩
theorem zF1 {P:Program} {t:TypeId} {x:Operand} {n y:Nat} (ht:P.underlying t=some (.slice (P.elem t))) (hx: ∀v W,(fct G x).p v W->LX n y v W) (hd: ∀W,(G d).p (.int .i64 (n:Int)) W:=by exact fun _=>rfl):qK F m P w0 ops G ⟨some d, .call ⟨.builtin .len,#[x],#[t]⟩,ty,pos,aft,none⟩:=by
 intro b W K Q hb hr hK
 obtain ⟨A,c,l,e,_⟩:=hx _ _ (qB hr (x:=x) (by simp [Op.operands,Call.operands]))
 refine ⟨fun f hf=>(by
  unfold Oper.about at hf
  simp [resolve,go_sem] at hf), ?_⟩
 rw [Oper.semAt_eq _ _ _ (fun _ e=>by cases e)]
 have:(execOp b.eval ⟨some d, .call ⟨.builtin .len,#[x],#[t]⟩,ty,pos,aft,none⟩).run P W= .ok (.value (.int .i64 (n:Int))) W:=by
  simp [execOp,resolve,invoke,builtin,e,run_len_slice _ _ _ _ _ _ ht,goInt]
 rw [this]
 exact hK _ _ (fun d' e=>by cases e;exact hd W) (Below.refl _ _)
theorem zCV {bi:Builtin} {x y:Operand} {ats:Array TypeId} (u v r:Value) (hx: ∀q W,(fct G x).p q W->q=u) (hy: ∀q W,(fct G y).p q W->q=v) (hr: ∀cs W,(builtin bi ats ty cs #[u,v]).run Tryz.prog W= .ok (.value r) W) (hd: ∀W,(G d).p r W:=by exact fun _=>rfl):qK F m Tryz.prog w0 ops G ⟨some d, .call ⟨.builtin bi,#[x,y],ats⟩,ty,pos,aft,none⟩:=by
 intro b W K Q hb hp hK
 have e1:=hx _ _ (qB hp (x:=x) (by simp [Op.operands,Call.operands]))
 have e2:=hy _ _ (qB hp (x:=y) (by simp [Op.operands,Call.operands]))
 refine ⟨fun f hf=>(by
  unfold Oper.about at hf
  simp [resolve,go_sem] at hf), ?_⟩
 rw [Oper.semAt_eq _ _ _ (fun _ e=>by cases e)]
 have:(execOp b.eval ⟨some d, .call ⟨.builtin bi,#[x,y],ats⟩,ty,pos,aft,none⟩).run Tryz.prog W= .ok (.value r) W:=by
  simp [execOp,resolve,invoke,e1,e2,hr]
 rw [this]
 exact hK _ _ (fun d' e=>by cases e;exact hd W) (Below.refl _ _)
theorem zEZ {y x1 x2:Operand} {g:FuncId} {z:Value} {P:Program} {ats:Array TypeId} (hF:zIk F m P) (he:Enters P g) (hy: ∀v W,(fct G y).p v W->v= .func (.func g) #[] #[z])
  (h: ∀u v W,Below w0.heap.size w0 W->(fct G x1).p u W->(fct G x2).p v W->Calls P g #[u,v,z] W (Ret W (G d))):qK F m P w0 ops G ⟨some d, .call ⟨.value y,#[x1,x2],ats⟩,ty,pos,aft,none⟩:=by
 intro b W K Q hb hr hK
 have h0:=hy _ _ (qB hr (x:=y) (by simp [Op.operands,Call.operands]))
 have h1:=h _ _ W hb (qB hr (x:=x1) (by simp [Op.operands,Call.operands])) (qB hr (x:=x2) (by simp [Op.operands,Call.operands]))
 refine ⟨fun g _=>hF.1 g, ?_⟩
 rw [Oper.semAt_eq _ _ _ (fun _ e=>by cases e)]
 have hx:(execOp b.eval ⟨some d, .call ⟨.value y,#[x1,x2],ats⟩,ty,pos,aft,none⟩).run P W= .ok (.enter g #[b.eval x1,b.eval x2,z]) W:=by
  simp only [execOp,resolve,h0]
  simp [invoke,Deferred.ofValue]
  exact he _ _
 rw [hx]
 simp only [Oper.uponIn_enter]
 refine ⟨hF.2.1,CallsIn.mono (hF.2.2 _ _ _ (Ret W (G d)) h1) fun e W' hh=> ?_⟩
 obtain ⟨v,rfl,h2,h3⟩:=hh
 exact hK _ _ (fun d' e=>by cases e;exact h2) h3
end
def CU.one (v:Value):CU:=⟨fun cs _=>cs= [v],fun _ _ _ h _=>h⟩
theorem zLW {v:Value} (cs:List Value) (W:World) (h:(CU.one v).p cs W): ∃u,cs[0]?=some u/\u=v:=by
 obtain rfl:cs= [v]:=h
 exact ⟨v,rfl,rfl⟩
theorem zF9 {mb:Nat} {w W:World} (h:w.cell? ⟨mb,0,none⟩=some (zBA mb)) (hb:Below w.heap.size w W):W.cell? ⟨mb,0,none⟩=some (zBA mb):=(hb.cell (p:=⟨mb,0,none⟩) (World.block_lt_of_cell? w _ h)).trans h
def zTm (N:Nat):Prop:= ∀(mb:Nat) (W:World) (u v:Value) (x y:Nat),LY N x u W->LY N y v W->W.cell? ⟨mb,0,none⟩=some (zBA mb)->Calls Tryz.prog 190 #[u,v, .pointer (some ⟨mb,0,none⟩)] W (Ret W (zDX (x*y)).toSF)
theorem hsum {M x y:Nat} (hM:2<=M) {a b:Nat} (hx:x<BB^a) (hy:y<BB^b) (ha:a<=M - 2) (hb:b<=M - 2):x+y<BB^(M - 1):=by
 have u1:BB^a<=BB^(M - 2):=Nat.pow_le_pow_right yY ha
 have u2:BB^b<=BB^(M - 2):=Nat.pow_le_pow_right yY hb
 have u3:BB^(M - 2)*2<=BB^(M - 2)*BB:=Nat.mul_le_mul_left _ (by unfold BB;omega)
 have u4:BB^(M - 1)=BB^(M - 2)*BB:=by rw [<-Nat.pow_succ];congr 1;omega
 omega
theorem j9 {F:Fence} {m:Nat} {P:Program} {w0:World} {ops:Array Oper} {G:Nat->SF} {o:Oper} {l:List Oper} (h:qK F m P w0 ops G o) (k:Obs F m P w0 ops G l):Obs F m P w0 ops G (o::l):=⟨h,k⟩
theorem zQL {F:Fence} {m:Nat} {P:Program} {w0:World} {ops:Array Oper} {G:Nat->SF}:Obs F m P w0 ops G []:=trivial
theorem zPK (k:Nat) (hk:k<=40000):IntKind.i64.wrap (2*(k:Int))=2*(k:Int):=by
 rw [IntKind.wrap_i64]
 omega
theorem zKP {ats:Array TypeId} {ty:TypeId} (a b r:Nat) (h:max a b=r) (cs:Array Bool) (W:World):(builtin .max ats ty cs #[.int .i64 (a:Int), .int .i64 (b:Int)]).run Tryz.prog W= .ok (.value (.int .i64 (r:Int))) W:=by
 subst h
 simp [Builtin.max_,Builtin.max2,go_sem]
 omega
theorem zP2 {ats:Array TypeId} {ty:TypeId} (a b r:Nat) (h:min a b=r) (cs:Array Bool) (W:World):(builtin .min ats ty cs #[.int .i64 (a:Int), .int .i64 (b:Int)]).run Tryz.prog W= .ok (.value (.int .i64 (r:Int))) W:=by
 subst h
 simp [Builtin.min_,Builtin.min2,go_sem]
 omega
theorem zCl {x y a b M:Nat} (hx:x<BB^a) (hy:y<BB^b) (h:a+b<=M):x*y<BB^M:=by
 refine Nat.lt_of_lt_of_le ?_ (Nat.pow_le_pow_right yY h)
 rw [Nat.pow_add]
 exact Nat.mul_lt_mul_of_lt_of_lt hx hy
theorem LY.mono {m m' x:Nat} {v:Value} {W:World} (h:LY m x v W) (hm:m<=m'):LY m' x v W:=by
 obtain ⟨n,h1,h2⟩:=h
 exact ⟨n,h1,Nat.le_trans h2 hm⟩
theorem zJF {P:Program} {f:FuncId} {args:Array Value} {W:World} {x y:Nat} (h:Calls P f args W (Ret W (zDX x).toSF)) (e:x=y):Calls P f args W (Ret W (zDX y).toSF):=e▸h
theorem zMN {P:Program} {f:FuncId} {args:Array Value} {W:World} {m m' x:Nat} (h:Calls P f args W (Ret W (fLY m x).toSF)) (e:m<=m'):Calls P f args W (Ret W (fLY m' x).toSF):=h.mono fun _ _ ⟨v,h1,h2,h3⟩=>⟨v,h1,LY.mono h2 e,h3⟩
theorem zSg {x y k:Nat} {v:Value} {W:World} (h:qI W v (((x % BB^k)*(y % BB^k))+(BB^k*(((x % BB^k)+(x / BB^k))*((y % BB^k)+(y / BB^k)) - ((x % BB^k)*(y % BB^k)+(x / BB^k)*(y / BB^k))))+(BB^(2*k)*((x / BB^k)*(y / BB^k))))):qI W v (x*y):=by
 have e1:=Nat.mod_add_div x (BB^k)
 have e2:=Nat.mod_add_div y (BB^k)
 have e3:=zUR (x % BB^k) (x / BB^k) (y % BB^k) (y / BB^k) (BB^k)
 rw [e1,e2] at e3
 rw [e3, <-Nat.pow_add, <-Nat.two_mul]
 exact h
theorem zLX {W:World} {u v:Value} {mb n n' x y M k:Nat} (hx:LX n x u W) (hy:LX n' y v W) (hmb:W.cell? ⟨mb,0,none⟩=some (zBA mb)) (hM:max n n'=M) (hk:M / 2=k) (hM4:M<=40000) (ih:0<M->zTm (M - 1)):Calls Tryz.prog 190 #[u,v, .pointer (some ⟨mb,0,none⟩)] W (Ret W (zDX (x*y)).toSF):=by
 have hmix:Tryz.prog.follows .mixedOrders=true:=by kernel_rfl
 have hdv:(M:Int).tdiv 2=(k:Int):=by rw [Int.tdiv_eq_ediv_of_nonneg oH];omega
 refine yD [(fLX n x).toSF,(fLX n' y).toSF,SF.ptr (CU.one (zBA mb)).cf] Tryz.func190 rfl kC ⟨hx,hy,⟨mb,0, [zBA mb],rfl,rfl,fun j u hj=>(by match j with|0=>(cases hj;exact hmb)|j+1=>simp at hj)⟩,trivial⟩ fun a s=> ?_
 refine wpIn_seq ?_
 refine zB 1 ((5, .u (UF.eq (.slice none 0 0))):: []) hmix s kC
  (j9 zG<|zQL) fun a w1 s=> ?_
 refine zA rfl ?_
 refine wpIn_seq ?_
 refine zB 7 ((10, .s ((fLX n x).toSF))::(11, .s ((uI (n:Int)).toSF))::(12, .s ((fLX n' y).toSF))::(13, .s ((uI (n':Int)).toSF))::(14, .s ((uI (M:Int)).toSF))::(15, .s ((uI (k:Int)).toSF))::(6, .u (uI (k:Int))):: []) hmix s kC
  (j9 zC<|
  j9 (zF1 kC (fun _ _ h=>h))<|
  j9 zC<|
  j9 (zF1 kC (fun _ _ h=>h))<|
  j9 (zCV (.int .i64 (n:Int)) (.int .i64 (n':Int)) (.int .i64 (M:Int)) (fun _ _ h=>h) (fun _ _ h=>h) (zKP _ _ _ hM))<|
  j9 (zB6 (.int .i64 (M:Int)) (.int .i64 2) (.int .i64 (k:Int)) (fun _ _ h=>h) (fun _ _ h=>h) (fun W=>by simp [eqGuard]) (fun W=>by simp [binOp,hdv,go_sem];rw [IntKind.wrap_i64];omega) (fun _=>rfl))<|
  j9 zG<|zQL) fun a w2 s=> ?_
 refine zA rfl ?_
 refine wpIn_seq ?_
 refine wpIn_seq ?_
 refine zB 8 ((16, .s ((fLX n x).toSF))::(17, .s ((uI (n:Int)).toSF))::(18, .s ((fLX n' y).toSF))::(19, .s ((uI (n':Int)).toSF))::(20, .s ((uI ((min n n':Nat):Int)).toSF))::(21, .s ((uI (k:Int)).toSF))::(22, .s ((uI ((max k 12:Nat):Int)).toSF))::(23, .u (uB (decide (min n n'<=max k 12)))):: []) hmix s kC
  (j9 zC<|
  j9 (zF1 kC (fun _ _ h=>h))<|
  j9 zC<|
  j9 (zF1 kC (fun _ _ h=>h))<|
  j9 (zCV (.int .i64 (n:Int)) (.int .i64 (n':Int)) (.int .i64 ((min n n':Nat):Int)) (fun _ _ h=>h) (fun _ _ h=>h) (zP2 _ _ _ rfl))<|
  j9 zC<|
  j9 (zCV (.int .i64 (k:Int)) (.int .i64 12) (.int .i64 ((max k 12:Nat):Int)) (fun _ _ h=>h) (fun _ _ h=>h) (zKP _ _ _ rfl))<|
  j9 (zB6 (.int .i64 ((min n n':Nat):Int)) (.int .i64 ((max k 12:Nat):Int)) (.bool (decide (min n n'<=max k 12))) (fun _ _ h=>h) (fun _ _ h=>h) (fun W=>by simp [eqGuard]) (fun W=>by simp [binOp,Op.intCmp]) (fun _=>rfl))<|zQL) fun a w3 s=> ?_
 refine zA rfl ?_
 refine StS.cond s (decide (min n n'<=max k 12)) (fun _ _ h=>h) (fun e=> ?_) (fun e=> ?_)
 ·refine wpIn_seq ?_
  replace s:=s.drop [5]
  refine zB 4 ((24, .s ((fLX n x).toSF))::(25, .s ((fLX n' y).toSF))::(26, .s ((zDX (x*y)).toSF))::(5, .u (zDX (x*y))):: []) hmix s kC
   (j9 zC<|
   j9 zC<|
   j9 (zH zD zSB (fun u0 u1 W hb (h0:LX n x u0 W) (h1:LX n' y u1 W)=>zOd (LX.ly (m:=40000) h0 oH) (LX.ly (m:=40000) h1 oH) oH))<|
   j9 zG<|zQL) fun a w4 s=> ?_
  refine zA rfl ?_
  refine wpIn_ret ?_
  first|exact StS.res1 s (t:=5) rfl (fun _ _ h=>h)|exact StS.res1 s (t:=5) rfl (fun _ _ h=>zSg h)
 ·have hc:=of_decide_eq_false e
  have hkn:k<n:=by omega
  have hkn':k<n':=by omega
  have hk2:k<=M - 2:=by omega
  have hk3:n - k<=M - 2:=by omega
  have hk4:n' - k<=M - 2:=by omega
  have hP:0<BB^k:=Nat.pow_pos yY
  have bxl:x % BB^k<BB^k:=Nat.mod_lt _ hP
  have byl:y % BB^k<BB^k:=Nat.mod_lt _ hP
  have bxh:x / BB^k<BB^(n - k):=by rw [Nat.div_lt_iff_lt_mul hP, <-Nat.pow_add,Nat.sub_add_cancel oH];exact hx.lt
  have byh:y / BB^k<BB^(n' - k):=by rw [Nat.div_lt_iff_lt_mul hP, <-Nat.pow_add,Nat.sub_add_cancel oH];exact hy.lt
  have bsx:=hsum (M:=M) oH bxl bxh hk2 hk3
  have bsy:=hsum (M:=M) oH byl byh hk2 hk4
  obtain ⟨N5,hN5⟩: ∃N:Nat,N=100000:=⟨_,rfl⟩
  obtain ⟨N6,hN6⟩: ∃N:Nat,N=300000:=⟨_,rfl⟩
  have bll:x % BB^k*(y % BB^k)+x / BB^k*(y / BB^k)<BB^N5:=by
   have h1:=zCl (M:=N5 - 2) bxl byl oH
   have h2:=zCl (M:=N5 - 2) bxh byh oH
   exact Nat.lt_of_lt_of_le (hsum (M:=N5) oH h1 h2 oH oH) (Nat.pow_le_pow_right yY oH)
  refine wpIn_skip ?_
  refine wpIn_seq ?_
  refine zB 18 ((27, .s ((UF.eq (zBA mb)).toSF))::(28, .s ((fLX n x).toSF))::(29, .s ((uI (k:Int)).toSF))::(30, .s ((fLX k (x % BB^k)).toSF))::(31, .s ((fLX n' y).toSF))::(32, .s ((uI (k:Int)).toSF))::(33, .s ((fLX k (y % BB^k)).toSF))::(34, .s ((zDX ((x % BB^k)*(y % BB^k))).toSF))::(35, .s ((UF.eq (zBA mb)).toSF))::(36, .s ((fLX n x).toSF))::(37, .s ((uI (k:Int)).toSF))::(38, .s ((fLX (n - k) (x / BB^k)).toSF))::(39, .s ((fLX n' y).toSF))::(40, .s ((uI (k:Int)).toSF))::(41, .s ((fLX (n' - k) (y / BB^k)).toSF))::(42, .s ((zDX ((x / BB^k)*(y / BB^k))).toSF))::(7, .u (zDX ((x % BB^k)*(y % BB^k))))::(8, .u (zDX ((x / BB^k)*(y / BB^k)))):: []) hmix s kC
   (j9 (jE (C:=(CU.one (zBA mb)).cf) kC (fun _ _ h=>h) zLW)<|
   j9 zC<|
   j9 zC<|
   j9 (zNX (k:=k) oH (fun _ _ h=>h) (fun _ _ h=>h))<|
   j9 zC<|
   j9 zC<|
   j9 (zNX (k:=k) oH (fun _ _ h=>h) (fun _ _ h=>h))<|
   j9 (zEZ zD zMr (fun _ _ h=>h) (fun u0 u1 W hb (h0:LX k (x % BB^k) u0 W) (h1:LX k (y % BB^k) u1 W)=>ih oH mb W u0 u1 _ _ (LX.ly (m:=M - 1) h0 oH) (LX.ly (m:=M - 1) h1 oH) (zF9 hmb (s.up hb))))<|
   j9 (jE (C:=(CU.one (zBA mb)).cf) kC (fun _ _ h=>h) zLW)<|
   j9 zC<|
   j9 zC<|
   j9 (zF2 (k:=k) oH (fun _ _ h=>h) (fun _ _ h=>h))<|
   j9 zC<|
   j9 zC<|
   j9 (zF2 (k:=k) oH (fun _ _ h=>h) (fun _ _ h=>h))<|
   j9 (zEZ zD zMr (fun _ _ h=>h) (fun u0 u1 W hb (h0:LX (n - k) (x / BB^k) u0 W) (h1:LX (n' - k) (y / BB^k) u1 W)=>ih oH mb W u0 u1 _ _ (LX.ly (m:=M - 1) h0 oH) (LX.ly (m:=M - 1) h1 oH) (zF9 hmb (s.up hb))))<|
   j9 zG<|
   j9 zG<|zQL) fun a w5 s=> ?_
  refine zA rfl ?_
  refine wpIn_seq ?_
  refine zB 24 ((43, .s ((UF.eq (zBA mb)).toSF))::(44, .s ((fLX n x).toSF))::(45, .s ((uI (k:Int)).toSF))::(46, .s ((fLX k (x % BB^k)).toSF))::(47, .s ((fLX n x).toSF))::(48, .s ((uI (k:Int)).toSF))::(49, .s ((fLX (n - k) (x / BB^k)).toSF))::(50, .s (SF.lys [x % BB^k,x / BB^k]))::(51, .s ((zDX ((x % BB^k)+(x / BB^k))).toSF))::(52, .s ((fLX n' y).toSF))::(53, .s ((uI (k:Int)).toSF))::(54, .s ((fLX k (y % BB^k)).toSF))::(55, .s ((fLX n' y).toSF))::(56, .s ((uI (k:Int)).toSF))::(57, .s ((fLX (n' - k) (y / BB^k)).toSF))::(58, .s (SF.lys [y % BB^k,y / BB^k]))::(59, .s ((zDX ((y % BB^k)+(y / BB^k))).toSF))::(60, .s ((zDX (((x % BB^k)+(x / BB^k))*((y % BB^k)+(y / BB^k)))).toSF))::(61, .s ((zDX ((x % BB^k)*(y % BB^k))).toSF))::(62, .s ((zDX ((x / BB^k)*(y / BB^k))).toSF))::(63, .s (SF.lys [(x % BB^k)*(y % BB^k),(x / BB^k)*(y / BB^k)]))::(64, .s ((zDX (((x % BB^k)*(y % BB^k))+((x / BB^k)*(y / BB^k)))).toSF))::(65, .s ((zDX ((((x % BB^k)+(x / BB^k))*((y % BB^k)+(y / BB^k))) - (((x % BB^k)*(y % BB^k))+((x / BB^k)*(y / BB^k))))).toSF))::(9, .u (zDX ((((x % BB^k)+(x / BB^k))*((y % BB^k)+(y / BB^k))) - (((x % BB^k)*(y % BB^k))+((x / BB^k)*(y / BB^k)))))):: []) hmix s kC
   (j9 (jE (C:=(CU.one (zBA mb)).cf) kC (fun _ _ h=>h) zLW)<|
   j9 zC<|
   j9 zC<|
   j9 (zNX (k:=k) oH (fun _ _ h=>h) (fun _ _ h=>h))<|
   j9 zC<|
   j9 zC<|
   j9 (zF2 (k:=k) oH (fun _ _ h=>h) (fun _ _ h=>h))<|
   j9 (yI (fun u v W (hu:LX k (x % BB^k) u W) (hv:LX (n - k) (x / BB^k) v W)=>zKE (LX.ly (m:=N6) hu oH) (LX.ly (m:=N6) hv oH) oH))<|
   j9 (zI zD zJs (fun u0 W hb (h0:(SF.lys [x % BB^k,x / BB^k]).p u0 W)=>zJF (zJc h0 (by simp)) (by simp)))<|
   j9 zC<|
   j9 zC<|
   j9 (zNX (k:=k) oH (fun _ _ h=>h) (fun _ _ h=>h))<|
   j9 zC<|
   j9 zC<|
   j9 (zF2 (k:=k) oH (fun _ _ h=>h) (fun _ _ h=>h))<|
   j9 (yI (fun u v W (hu:LX k (y % BB^k) u W) (hv:LX (n' - k) (y / BB^k) v W)=>zKE (LX.ly (m:=N6) hu oH) (LX.ly (m:=N6) hv oH) oH))<|
   j9 (zI zD zJs (fun u0 W hb (h0:(SF.lys [y % BB^k,y / BB^k]).p u0 W)=>zJF (zJc h0 (by simp)) (by simp)))<|
   j9 (zEZ zD zMr (fun _ _ h=>h) (fun u0 u1 W hb (h0:qI W u0 ((x % BB^k)+(x / BB^k))) (h1:qI W u1 ((y % BB^k)+(y / BB^k)))=>ih oH mb W u0 u1 _ _ (zF6 (m:=M - 1) h0 bsx) (zF6 (m:=M - 1) h1 bsy) (zF9 hmb (s.up hb))))<|
   j9 zC<|
   j9 zC<|
   j9 (yI (fun u v W (hu:qI W u ((x % BB^k)*(y % BB^k))) (hv:qI W v ((x / BB^k)*(y / BB^k)))=>zKE (zF6 (m:=N6) hu (zCl (M:=N6) bxl byl oH)) (zF6 (m:=N6) hv (zCl (M:=N6) bxh byh oH)) oH))<|
   j9 (zI zD zJs (fun u0 W hb (h0:(SF.lys [(x % BB^k)*(y % BB^k),(x / BB^k)*(y / BB^k)]).p u0 W)=>zJF (zJc h0 (by simp)) (by simp)))<|
   j9 (zH zD zSA (fun u0 u1 W hb (h0:qI W u0 (((x % BB^k)+(x / BB^k))*((y % BB^k)+(y / BB^k)))) (h1:qI W u1 (((x % BB^k)*(y % BB^k))+((x / BB^k)*(y / BB^k))))=>zQR (zF6 (m:=N5) h0 (zCl (M:=N5) bsx bsy oH)) (zF6 (m:=N5) h1 bll) oH (zQS _ _ _ _)))<|
   j9 zG<|zQL) fun a w6 s=> ?_
  refine zA rfl ?_
  refine wpIn_seq ?_
  replace s:=s.drop [5]
  refine zB 11 ((66, .s ((zDX ((x % BB^k)*(y % BB^k))).toSF))::(67, .s ((zDX ((((x % BB^k)+(x / BB^k))*((y % BB^k)+(y / BB^k))) - (((x % BB^k)*(y % BB^k))+((x / BB^k)*(y / BB^k))))).toSF))::(68, .s ((uI (k:Int)).toSF))::(69, .s ((fLY 200000 (BB^(k)*((((x % BB^k)+(x / BB^k))*((y % BB^k)+(y / BB^k))) - (((x % BB^k)*(y % BB^k))+((x / BB^k)*(y / BB^k)))))).toSF))::(70, .s ((zDX ((x / BB^k)*(y / BB^k))).toSF))::(71, .s ((uI (k:Int)).toSF))::(72, .s ((uI ((2*k:Nat):Int)).toSF))::(73, .s ((fLY 200000 (BB^(2*k)*((x / BB^k)*(y / BB^k)))).toSF))::(74, .s (SF.lys [(x % BB^k)*(y % BB^k),BB^(k)*((((x % BB^k)+(x / BB^k))*((y % BB^k)+(y / BB^k))) - (((x % BB^k)*(y % BB^k))+((x / BB^k)*(y / BB^k)))),BB^(2*k)*((x / BB^k)*(y / BB^k))]))::(75, .s ((zDX (((x % BB^k)*(y % BB^k))+(BB^(k)*((((x % BB^k)+(x / BB^k))*((y % BB^k)+(y / BB^k))) - (((x % BB^k)*(y % BB^k))+((x / BB^k)*(y / BB^k)))))+(BB^(2*k)*((x / BB^k)*(y / BB^k))))).toSF))::(5, .u (zDX (((x % BB^k)*(y % BB^k))+(BB^(k)*((((x % BB^k)+(x / BB^k))*((y % BB^k)+(y / BB^k))) - (((x % BB^k)*(y % BB^k))+((x / BB^k)*(y / BB^k)))))+(BB^(2*k)*((x / BB^k)*(y / BB^k)))))):: []) hmix s kC
   (j9 zC<|
   j9 zC<|
   j9 zC<|
   j9 (zH zD zPi (fun u0 u1 W hb (h0:qI W u0 ((((x % BB^k)+(x / BB^k))*((y % BB^k)+(y / BB^k))) - (((x % BB^k)*(y % BB^k))+((x / BB^k)*(y / BB^k))))) (h1:u1= .int .i64 (k:Int))=>zMN (zJd (k:=k) (zF6 (m:=N5) h0 (Nat.lt_of_le_of_lt (Nat.sub_le _ _) (zCl (M:=N5) bsx bsy oH))) h1 oH oH) oH))<|
   j9 zC<|
   j9 zC<|
   j9 (zB6 (.int .i64 2) (.int .i64 (k:Int)) (.int .i64 ((2*k:Nat):Int)) (fun _ _ h=>h) (fun _ _ h=>h) (fun W=>by simp [eqGuard]) (fun W=>by simp [binOp,Op.intArith,zPK k oH]) (fun _=>rfl))<|
   j9 (zH zD zPi (fun u0 u1 W hb (h0:qI W u0 ((x / BB^k)*(y / BB^k))) (h1:u1= .int .i64 ((2*k:Nat):Int))=>zMN (zJd (k:=2*k) (zF6 (m:=N5) h0 (zCl (M:=N5) bxh byh oH)) h1 oH oH) oH))<|
   j9 (zG3 (fun u v q W (hu:qI W u ((x % BB^k)*(y % BB^k))) (hv:LY 200000 (BB^(k)*((((x % BB^k)+(x / BB^k))*((y % BB^k)+(y / BB^k))) - (((x % BB^k)*(y % BB^k))+((x / BB^k)*(y / BB^k))))) v W) (hq:LY 200000 (BB^(2*k)*((x / BB^k)*(y / BB^k))) q W)=>zRB (zF6 (m:=N6) hu (zCl (M:=N6) bxl byl oH)) (LY.mono hv (m':=N6) oH) (LY.mono hq (m':=N6) oH) oH))<|
   j9 (zI zD zJs (fun u0 W hb (h0:(SF.lys [(x % BB^k)*(y % BB^k),BB^(k)*((((x % BB^k)+(x / BB^k))*((y % BB^k)+(y / BB^k))) - (((x % BB^k)*(y % BB^k))+((x / BB^k)*(y / BB^k)))),BB^(2*k)*((x / BB^k)*(y / BB^k))]).p u0 W)=>zJF (zJc h0 (by simp)) (by simp [Nat.add_assoc])))<|
   j9 zG<|zQL) fun a w7 s=> ?_
  refine zA rfl ?_
  refine wpIn_ret ?_
  first|exact StS.res1 s (t:=5) rfl (fun _ _ h=>h)|exact StS.res1 s (t:=5) rfl (fun _ _ h=>zSg h)
theorem zLY: ∀M,M<=40000->zTm M:=by
 intro M
 induction M using Nat.strongRecOn with
 |_ M ih=>
  intro hM mb W u v x y hx hy hmb
  obtain ⟨n,hx,hn⟩:=hx
  obtain ⟨n',hy,hn'⟩:=hy
  exact zLX hx hy hmb rfl rfl oH fun h0=>ih _ oH oH
theorem zOe (M:Nat) (hM:M<=40000):zU1 M:=fun mb A n c l A' n' c' l' w h h' ht ht' hn hn' hmb=>
 (zLY M hM mb w _ _ _ _ ⟨n,⟨A,c,l,rfl,h,ht,rfl⟩,hn⟩ ⟨n',⟨A',c',l',rfl,h',ht',rfl⟩,hn'⟩ hmb).mono fun e w' ⟨v,h1,⟨A1,n1,c1,l1,h2,h3,h4⟩,h5⟩=>⟨A1,n1,c1,l1,by rw [h1,h2],h3,h4,h5⟩
end Go.Proofs.Wd
