/- prod.Mul's inner function: Karatsuba and what it needs. -/
import Derived.Test.YtdfhaibojmnmkaaGreatDoorMRO9
import Derived.Test.YtdfhaibojmnmkaaGreatDoorMRO6
namespace Go.Proofs.Wd
set_option maxRecDepth 100000
set_option maxHeartbeats 1000000
open Go.RowKit Lb
def LX (n x:Nat) (v:Value) (W:World):Prop:= ∃A c l,v= .slice A n c∧Rd W A n c l∧Lt l∧val l=x
def fLX (n x:Nat):UF:= .mk' (LX n x) fun _ _ _ ⟨A,c,l,e,h1,h2,h3⟩ k=>⟨A,c,l,e,h1.keepU k,h2,h3⟩
def zDY (x:Nat):UF:= .mk' (fun v w=>qH w v x) fun _ _ _ ⟨A,n,c,l,e,h1,h2⟩ k=>⟨A,n,c,l,e,h1,h2.keepU k⟩
def LY (m x:Nat) (v:Value) (W:World):Prop:= ∃n,LX n x v W∧n≤m
def fLY (m x:Nat):UF:= .mk' (LY m x) fun _ _ _ ⟨n,h,h1⟩ k=>⟨n,(fLX n x).us _ _ _ h k,h1⟩
theorem LX.lt {n x:Nat} {v:Value} {W:World} (h:LX n x v W):x<BB^n:=by
 obtain ⟨A,c,l,e,h1,h2,rfl⟩:=h
 rw [←h1.len]
 exact qL h2
theorem LX.ly {n m x:Nat} {v:Value} {W:World} (h:LX n x v W) (hn:n≤m):LY m x v W:=⟨n,h,hn⟩
theorem zF8 {m x:Nat} {v:Value} {W:World} (h:qH W v x) (hx:x<BB^m):LY m x v W:=by
 obtain ⟨A,n,c,l,rfl,h1,h2⟩:=h
 exact ⟨n,⟨A,c,l,rfl,h2,h1.lt,h1.val⟩,by rw [←h2.len];exact h1.len hx⟩
def SF.lys (xs:List Nat):SF:=⟨fun v W=> ∃A ls,v= .slice A xs.length xs.length∧Rds W A xs.length ls∧ls.map val=xs,fun _ _ _ ⟨A,ls,h1,h2,h3⟩ hb=>⟨A,ls,h1,h2.below hb,h3⟩⟩
theorem zTg {W:World} {x:Nat} {e:Ending} {W':World} (h:q6 W x e W'):Ret W (zDY x).toSF e W':=by
 obtain ⟨A,n,c,l,rfl,h1,h2,h3⟩:=h
 exact ⟨_,rfl,⟨A,n,c,l,rfl,h1,h2⟩,h3⟩
theorem zN3 {W:World} {u v:Value} {m x y:Nat} (h:LY m x u W) (h':LY m y v W) (hm:m≤100000):Calls Tryz.prog 191 #[u,v] W (Ret W (zDY (x*y)).toSF):=by
 obtain ⟨n,⟨A,c,l,rfl,h1,h2,rfl⟩,hn⟩:=h
 obtain ⟨n',⟨A',c',l',rfl,h1',h2',rfl⟩,hn'⟩:=h'
 exact (zLz A n c l A' n' c' l' W h1 h1' h2 h2' (by omega) (by omega)).mono fun e W' he=>zTg he
theorem zJb {W:World} {u:Value} {xs:List Nat} (h:(SF.lys xs).p u W) (hn:xs.length≤1000):Calls Tryz.prog 193 #[u] W (Ret W (zDY xs.sum).toSF):=by
 obtain ⟨A,ls,rfl,h1,rfl⟩:=h
 exact (zMD A _ _ ls W h1 hn).mono fun e W' he=>zTg he
theorem zQu {W:World} {u v:Value} {m x y:Nat} (h:LY m x u W) (h':LY m y v W) (hm:m≤1000000) (hyx:y≤x):Calls Tryz.prog 192 #[u,v] W (Ret W (zDY (x - y)).toSF):=by
 obtain ⟨n,⟨A,c,l,rfl,h1,h2,rfl⟩,hn⟩:=h
 obtain ⟨n',⟨A',c',l',rfl,h1',h2',rfl⟩,hn'⟩:=h'
 exact (zLy A n c A' n' c' W _ (zHC A n c l A' n' c' l' W h1 h1' h2 h2' hyx (by omega) (by omega))).mono fun e W' he=>zTg he
theorem zJc {W:World} {u v:Value} {m x k:Nat} (h:LY m x u W) (hv:v= .int .i64 (k:Int)) (hm:m≤100000) (hk:k≤100000):Calls Tryz.prog 194 #[u,v] W (Ret W (fLY (k+m) (BB^k*x)).toSF):=by
 obtain ⟨n,⟨A,c,l,rfl,h1,h2,rfl⟩,hn⟩:=h
 subst hv
 refine (zMG A n c l k W h1 (by omega) hk).mono fun e W' he=> ?_
 obtain ⟨A',n',c',rfl,h3,h4⟩:=he
 refine ⟨_,rfl,⟨n',⟨A',c',_,rfl,h3,zHt (jN k) h2,zKw k l⟩, ?_⟩,h4⟩
 rw [←h3.len,List.length_append,List.length_replicate,h1.len]
 omega
theorem zTc (A A':Option Addr) (n c n' c':Nat):yH Tryz.prog 180 2 [(0, .slice A n c),(1, .slice A' n' c')]=some (24,#[.slice A n c, .slice A' n' c']):=by kernel_rfl
theorem zTb (A A' A'':Option Addr) (n c n' c' n'' c'':Nat):yH Tryz.prog 180 3 [(0, .slice A n c),(1, .slice A' n' c'),(2, .slice A'' n'' c'')]=some (24,#[.slice A n c, .slice A' n' c', .slice A'' n'' c'']):=by kernel_rfl
theorem zKE {u v:Value} {W:World} {m x y:Nat} (h:LY m x u W) (h':LY m y v W) (hm:m≤1000000): ∃e cs,yH Tryz.prog 180 2 [(0,u),(1,v)]=some (e,cs)∧(SF.lys [x,y]).p (.slice (some ⟨W.heap.size,0,none⟩) 2 2) (W.alloc (.cells cs e)):=by
 obtain ⟨n,⟨A,c,l,rfl,h1,h2,rfl⟩,hn⟩:=h
 obtain ⟨n',⟨A',c',l',rfl,h1',h2',rfl⟩,hn'⟩:=h'
 exact ⟨_,_,zTc A A' n c n' c',_,_,rfl,Rds.two h1 h2 (by omega) h1' h2' (by omega) _,rfl⟩
theorem zRf {u v q:Value} {W:World} {m x y z:Nat} (h:LY m x u W) (h':LY m y v W) (h'':LY m z q W) (hm:m≤1000000): ∃e cs,yH Tryz.prog 180 3 [(0,u),(1,v),(2,q)]=some (e,cs)∧(SF.lys [x,y,z]).p (.slice (some ⟨W.heap.size,0,none⟩) 3 3) (W.alloc (.cells cs e)):=by
 obtain ⟨n,⟨A,c,l,rfl,h1,h2,rfl⟩,hn⟩:=h
 obtain ⟨n',⟨A',c',l',rfl,h1',h2',rfl⟩,hn'⟩:=h'
 obtain ⟨n'',⟨A'',c'',l'',rfl,h1'',h2'',rfl⟩,hn''⟩:=h''
 exact ⟨_,_,zTb A A' A'' n c n' c' n'' c'',_,_,rfl,Rds.three h1 h2 (by omega) h1' h2' (by omega) h1'' h2'' (by omega) _,rfl⟩
theorem zKv {l:List Nat} (ht:Lt l) {k:Nat} (hk:k≤l.length):val (l.take k)=val l % BB^k∧val (l.drop k)=val l / BB^k:=by
 have h1:=qL (zBt ht k)
 rw [List.length_take,Nat.min_eq_left hk] at h1
 rw [jO l k hk]
 exact ⟨by rw [Nat.add_mul_mod_self_left,Nat.mod_eq_of_lt h1],by rw [Nat.add_mul_div_left _ _ (Nat.pow_pos yZ),Nat.div_eq_of_lt h1,Nat.zero_add]⟩
theorem zRj (A:Option Addr) (n c k:Nat) (hk:k≤c) (w:World):(Instr.sliceAt 24 (.slice A n c) none (some (.int .i64 (k:Int))) none).run Tryz.prog w= .ok (.slice A k c) w:=by
 obtain ⟨i,hi,hz,hs,hb⟩:=info_parts yN
 simp [Instr.sliceAt,Instr.slice,Instr.sliceBounds,run_underlying z4,sizeOf,typeInfo,hi,go_sem,hk]
theorem zNi (A:Option Addr) (n c k:Nat) (hk:k≤n) (w:World):(Instr.sliceAt 24 (.slice A n c) (some (.int .i64 (k:Int))) none none).run Tryz.prog w= .ok (.slice (if c=k then A else A.map (·.add k)) (n - k) (c - k)) w:=by
 obtain ⟨i,hi,hz,hs,hb⟩:=info_parts yN
 simp [Instr.sliceAt,Instr.slice,Instr.sliceBounds,run_underlying z4,sizeOf,typeInfo,hi,hs,go_sem,hk]
section
variable {F:Fence} {m:Nat} {w0:World} {ops:Array Oper} {G:Nat→SF} {d:Tmp} {ty:TypeId} {pos:String} {aft:Array Edge}
theorem zNP {x hi:Operand} {n k y:Nat} (hk:k≤n) (hx: ∀v W,(fct G x).p v W→LX n y v W) (hh: ∀v W,(fct G hi).p v W→v= .int .i64 (k:Int)) (hd: ∀v W,LX k (y % BB^k) v W→(G d).p v W:=by exact fun _ _ h=>h):qK F m Tryz.prog w0 ops G ⟨some d, .slice 24 x none (some hi) none,ty,pos,aft,none⟩:=
 qQ (fun _ e=>by cases e) (fun _ e=>by cases e) fun b W hb hp=>by
  obtain ⟨A,c,l,e,h1,h2,rfl⟩:=hx _ _ (hp x (by simp [Op.operands]))
  have e2:=hh _ _ (hp hi (by simp [Op.operands]))
  have hc:=h1.le
  refine ⟨_,by simp [execOp,e,e2,zRj A n c k (by omega)],hd _ _ ⟨A,c,l.take k,rfl,h1.take hk (by omega) (Nat.le_refl _),zBt h2 k,(zKv h2 (by rw [h1.len];exact hk)).1⟩⟩
theorem zF4 {x lo:Operand} {n k y:Nat} (hk:k≤n) (hx: ∀v W,(fct G x).p v W→LX n y v W) (hh: ∀v W,(fct G lo).p v W→v= .int .i64 (k:Int)) (hd: ∀v W,LX (n - k) (y / BB^k) v W→(G d).p v W:=by exact fun _ _ h=>h):qK F m Tryz.prog w0 ops G ⟨some d, .slice 24 x (some lo) none none,ty,pos,aft,none⟩:=
 qQ (fun _ e=>by cases e) (fun _ e=>by cases e) fun b W hb hp=>by
  obtain ⟨A,c,l,e,h1,h2,rfl⟩:=hx _ _ (hp x (by simp [Op.operands]))
  have e2:=hh _ _ (hp lo (by simp [Op.operands]))
  refine ⟨_,by simp [execOp,e,e2,zNi A n c k hk],hd _ _ ⟨_,c - k,l.drop k,rfl,h1.drop hk,zGr h2 k,(zKv h2 (by rw [h1.len];exact hk)).2⟩⟩
theorem zF3 {P:Program} {t:TypeId} {x:Operand} {n y:Nat} (ht:P.underlying t=some (.slice (P.elem t))) (hx: ∀v W,(fct G x).p v W→LX n y v W) (hd: ∀W,(G d).p (.int .i64 (n:Int)) W:=by exact fun _=>rfl):qK F m P w0 ops G ⟨some d, .call ⟨.builtin .len,#[x],#[t]⟩,ty,pos,aft,none⟩:=by
 intro b W K Q hb hr hK
 obtain ⟨A,c,l,e,_⟩:=hx _ _ (qB hr (x:=x) (by simp [Op.operands,Call.operands]))
 refine ⟨fun f hf=>(by
  unfold Oper.about at hf
  simp [resolve,go_sem] at hf), ?_⟩
 rw [Oper.semAt_eq _ _ _ (fun _ e=>by cases e)]
 have:(execOp b.eval ⟨some d, .call ⟨.builtin .len,#[x],#[t]⟩,ty,pos,aft,none⟩).run P W= .ok (.value (.int .i64 (n:Int))) W:=by
  simp [execOp,resolve,invoke,builtin,e,run_len_slice _ _ _ _ _ _ ht,goInt]
 rw [this]
 exact hK _ _ (fun d' e=>by cases e;exact hd W) (Below.refl _ _)
theorem zCV {bi:Builtin} {x y:Operand} {ats:Array TypeId} (u v r:Value) (hx: ∀q W,(fct G x).p q W→q=u) (hy: ∀q W,(fct G y).p q W→q=v) (hr: ∀cs W,(builtin bi ats ty cs #[u,v]).run Tryz.prog W= .ok (.value r) W) (hd: ∀W,(G d).p r W:=by exact fun _=>rfl):qK F m Tryz.prog w0 ops G ⟨some d, .call ⟨.builtin bi,#[x,y],ats⟩,ty,pos,aft,none⟩:=by
 intro b W K Q hb hp hK
 have e1:=hx _ _ (qB hp (x:=x) (by simp [Op.operands,Call.operands]))
 have e2:=hy _ _ (qB hp (x:=y) (by simp [Op.operands,Call.operands]))
 refine ⟨fun f hf=>(by
  unfold Oper.about at hf
  simp [resolve,go_sem] at hf), ?_⟩
 rw [Oper.semAt_eq _ _ _ (fun _ e=>by cases e)]
 have:(execOp b.eval ⟨some d, .call ⟨.builtin bi,#[x,y],ats⟩,ty,pos,aft,none⟩).run Tryz.prog W= .ok (.value r) W:=by
  simp [execOp,resolve,invoke,e1,e2,hr]
 rw [this]
 exact hK _ _ (fun d' e=>by cases e;exact hd W) (Below.refl _ _)
theorem zE1 {y x1 x2:Operand} {g:FuncId} {z:Value} {P:Program} {ats:Array TypeId} (hF:zIm F m P) (he:Enters P g) (hy: ∀v W,(fct G y).p v W→v= .func (.func g) #[] #[z])
  (h: ∀u v W,Below w0.heap.size w0 W→(fct G x1).p u W→(fct G x2).p v W→Calls P g #[u,v,z] W (Ret W (G d))):qK F m P w0 ops G ⟨some d, .call ⟨.value y,#[x1,x2],ats⟩,ty,pos,aft,none⟩:=by
 intro b W K Q hb hr hK
 have h0:=hy _ _ (qB hr (x:=y) (by simp [Op.operands,Call.operands]))
 have h1:=h _ _ W hb (qB hr (x:=x1) (by simp [Op.operands,Call.operands])) (qB hr (x:=x2) (by simp [Op.operands,Call.operands]))
 refine ⟨fun g _=>hF.1 g, ?_⟩
 rw [Oper.semAt_eq _ _ _ (fun _ e=>by cases e)]
 have hx:(execOp b.eval ⟨some d, .call ⟨.value y,#[x1,x2],ats⟩,ty,pos,aft,none⟩).run P W= .ok (.enter g #[b.eval x1,b.eval x2,z]) W:=by
  simp only [execOp,resolve,h0]
  simp [invoke,Deferred.ofValue]
  exact he _ _
 rw [hx]
 simp only [Oper.uponIn_enter]
 refine ⟨hF.2.1,CallsIn.mono (hF.2.2 _ _ _ (Ret W (G d)) h1) fun e W' hh=> ?_⟩
 obtain ⟨v,rfl,h2,h3⟩:=hh
 exact hK _ _ (fun d' e=>by cases e;exact h2) h3
end
def CU.one (v:Value):CU:=⟨fun cs _=>cs= [v],fun _ _ _ h _=>h⟩
theorem zL1 {v:Value} (cs:List Value) (W:World) (h:(CU.one v).p cs W): ∃u,cs[0]?=some u∧u=v:=by
 obtain rfl:cs= [v]:=h
 exact ⟨v,rfl,rfl⟩
theorem zGb {mb:Nat} {w W:World} (h:w.cell? ⟨mb,0,none⟩=some (zBE mb)) (hb:Below w.heap.size w W):W.cell? ⟨mb,0,none⟩=some (zBE mb):=(hb.cell (p:=⟨mb,0,none⟩) (World.block_lt_of_cell? w _ h)).trans h
def zSX (N:Nat):Prop:= ∀(mb:Nat) (W:World) (u v:Value) (x y:Nat),LY N x u W→LY N y v W→W.cell? ⟨mb,0,none⟩=some (zBE mb)→Calls Tryz.prog 190 #[u,v, .pointer (some ⟨mb,0,none⟩)] W (Ret W (zDY (x*y)).toSF)
theorem hsum {M x y:Nat} (hM:2≤M) {a b:Nat} (hx:x<BB^a) (hy:y<BB^b) (ha:a≤M - 2) (hb:b≤M - 2):x+y<BB^(M - 1):=by
 have u1:BB^a≤BB^(M - 2):=Nat.pow_le_pow_right yZ ha
 have u2:BB^b≤BB^(M - 2):=Nat.pow_le_pow_right yZ hb
 have u3:BB^(M - 2)*2≤BB^(M - 2)*BB:=Nat.mul_le_mul_left _ (by unfold BB;omega)
 have u4:BB^(M - 1)=BB^(M - 2)*BB:=by rw [←Nat.pow_succ];congr 1;omega
 omega
theorem j5 {F:Fence} {m:Nat} {P:Program} {w0:World} {ops:Array Oper} {G:Nat→SF} {o:Oper} {l:List Oper} (h:qK F m P w0 ops G o) (k:Obs F m P w0 ops G l):Obs F m P w0 ops G (o::l):=⟨h,k⟩
theorem zQo {F:Fence} {m:Nat} {P:Program} {w0:World} {ops:Array Oper} {G:Nat→SF}:Obs F m P w0 ops G []:=trivial
theorem zPq (k:Nat) (hk:k≤40000):IntKind.i64.wrap (2*(k:Int))=2*(k:Int):=by
 rw [IntKind.wrap_i64]
 omega
theorem zKQ {ats:Array TypeId} {ty:TypeId} (a b r:Nat) (h:max a b=r) (cs:Array Bool) (W:World):(builtin .max ats ty cs #[.int .i64 (a:Int), .int .i64 (b:Int)]).run Tryz.prog W= .ok (.value (.int .i64 (r:Int))) W:=by
 subst h
 simp [Builtin.max_,Builtin.max2,go_sem]
 omega
theorem zPI {ats:Array TypeId} {ty:TypeId} (a b r:Nat) (h:min a b=r) (cs:Array Bool) (W:World):(builtin .min ats ty cs #[.int .i64 (a:Int), .int .i64 (b:Int)]).run Tryz.prog W= .ok (.value (.int .i64 (r:Int))) W:=by
 subst h
 simp [Builtin.min_,Builtin.min2,go_sem]
 omega
theorem zCo {x y a b M:Nat} (hx:x<BB^a) (hy:y<BB^b) (h:a+b≤M):x*y<BB^M:=by
 refine Nat.lt_of_lt_of_le ?_ (Nat.pow_le_pow_right yZ h)
 rw [Nat.pow_add]
 exact Nat.mul_lt_mul_of_lt_of_lt hx hy
theorem LY.mono {m m' x:Nat} {v:Value} {W:World} (h:LY m x v W) (hm:m≤m'):LY m' x v W:=by
 obtain ⟨n,h1,h2⟩:=h
 exact ⟨n,h1,Nat.le_trans h2 hm⟩
theorem zJB {P:Program} {f:FuncId} {args:Array Value} {W:World} {x y:Nat} (h:Calls P f args W (Ret W (zDY x).toSF)) (e:x=y):Calls P f args W (Ret W (zDY y).toSF):=e▸h
theorem zMF {P:Program} {f:FuncId} {args:Array Value} {W:World} {m m' x:Nat} (h:Calls P f args W (Ret W (fLY m x).toSF)) (e:m≤m'):Calls P f args W (Ret W (fLY m' x).toSF):=h.mono fun _ _ ⟨v,h1,h2,h3⟩=>⟨v,h1,LY.mono h2 e,h3⟩
theorem zRQ {x y k:Nat} {v:Value} {W:World} (h:qH W v (((x % BB^k)*(y % BB^k))+(BB^k*(((x % BB^k)+(x / BB^k))*((y % BB^k)+(y / BB^k)) - ((x % BB^k)*(y % BB^k)+(x / BB^k)*(y / BB^k))))+(BB^(2*k)*((x / BB^k)*(y / BB^k))))):qH W v (x*y):=by
 have e1:=Nat.mod_add_div x (BB^k)
 have e2:=Nat.mod_add_div y (BB^k)
 have e3:=zUn (x % BB^k) (x / BB^k) (y % BB^k) (y / BB^k) (BB^k)
 rw [e1,e2] at e3
 rw [e3, ←Nat.pow_add, ←Nat.two_mul]
 exact h
theorem zL2 {W:World} {u v:Value} {mb n n' x y M k:Nat} (hx:LX n x u W) (hy:LX n' y v W) (hmb:W.cell? ⟨mb,0,none⟩=some (zBE mb)) (hM:max n n'=M) (hk:M / 2=k) (hM4:M≤40000) (ih:0<M→zSX (M - 1)):Calls Tryz.prog 190 #[u,v, .pointer (some ⟨mb,0,none⟩)] W (Ret W (zDY (x*y)).toSF):=by
 have hmix:Tryz.prog.follows .mixedOrders=true:=by kernel_rfl
 have hdv:(M:Int).tdiv 2=(k:Int):=by rw [Int.tdiv_eq_ediv_of_nonneg (by omega)];omega
 refine z7 [(fLX n x).toSF,(fLX n' y).toSF,SF.ptr (CU.one (zBE mb)).cf] Tryz.func190 rfl (by kernel_rfl) ⟨hx,hy,⟨mb,0, [zBE mb],rfl,rfl,fun j u hj=>(by match j with|0=>(cases hj;exact hmb)|j+1=>simp at hj)⟩,trivial⟩ fun a s=> ?_
 refine wpIn_seq ?_
 refine zB 1 ((5, .u (UF.eq (.slice none 0 0))):: []) hmix s (by kernel_rfl)
  (j5 zG<|zQo) fun a w1 s=> ?_
 refine zA rfl ?_
 refine wpIn_seq ?_
 refine zB 7 ((10, .s ((fLX n x).toSF))::(11, .s ((UF.eq (.int .i64 ((n:Nat):Int))).toSF))::(12, .s ((fLX n' y).toSF))::(13, .s ((UF.eq (.int .i64 ((n':Nat):Int))).toSF))::(14, .s ((UF.eq (.int .i64 ((M:Nat):Int))).toSF))::(15, .s ((UF.eq (.int .i64 ((k:Nat):Int))).toSF))::(6, .u (UF.eq (.int .i64 ((k:Nat):Int)))):: []) hmix s (by kernel_rfl)
  (j5 zC<|
  j5 (zF3 (by kernel_rfl) (fun _ _ h=>h))<|
  j5 zC<|
  j5 (zF3 (by kernel_rfl) (fun _ _ h=>h))<|
  j5 (zCV (.int .i64 ((n:Nat):Int)) (.int .i64 ((n':Nat):Int)) (.int .i64 ((M:Nat):Int)) (fun _ _ h=>h) (fun _ _ h=>h) (zKQ _ _ _ hM))<|
  j5 (zCn (.int .i64 (M:Int)) (.int .i64 2) (.int .i64 (k:Int)) (fun _ _ h=>h) (fun _ _ h=>h) (fun W=>by simp [eqGuard]) (fun W=>by simp [binOp,hdv,go_sem];rw [IntKind.wrap_i64];omega) (fun _=>rfl))<|
  j5 zG<|zQo) fun a w2 s=> ?_
 refine zA rfl ?_
 refine wpIn_seq ?_
 refine wpIn_seq ?_
 refine zB 8 ((16, .s ((fLX n x).toSF))::(17, .s ((UF.eq (.int .i64 ((n:Nat):Int))).toSF))::(18, .s ((fLX n' y).toSF))::(19, .s ((UF.eq (.int .i64 ((n':Nat):Int))).toSF))::(20, .s ((UF.eq (.int .i64 ((min n n':Nat):Int))).toSF))::(21, .s ((UF.eq (.int .i64 ((k:Nat):Int))).toSF))::(22, .s ((UF.eq (.int .i64 ((max k 12:Nat):Int))).toSF))::(23, .u (UF.eq (.bool (decide (min n n'≤max k 12))))):: []) hmix s (by kernel_rfl)
  (j5 zC<|
  j5 (zF3 (by kernel_rfl) (fun _ _ h=>h))<|
  j5 zC<|
  j5 (zF3 (by kernel_rfl) (fun _ _ h=>h))<|
  j5 (zCV (.int .i64 ((n:Nat):Int)) (.int .i64 ((n':Nat):Int)) (.int .i64 ((min n n':Nat):Int)) (fun _ _ h=>h) (fun _ _ h=>h) (zPI _ _ _ rfl))<|
  j5 zC<|
  j5 (zCV (.int .i64 ((k:Nat):Int)) (.int .i64 12) (.int .i64 ((max k 12:Nat):Int)) (fun _ _ h=>h) (fun _ _ h=>h) (zKQ _ _ _ rfl))<|
  j5 (zCn (.int .i64 ((min n n':Nat):Int)) (.int .i64 ((max k 12:Nat):Int)) (.bool (decide (min n n'≤max k 12))) (fun _ _ h=>h) (fun _ _ h=>h) (fun W=>by simp [eqGuard]) (fun W=>by simp [binOp,Op.intCmp]) (fun _=>rfl))<|zQo) fun a w3 s=> ?_
 refine zA rfl ?_
 refine StS.cond s (decide (min n n'≤max k 12)) (fun _ _ h=>h) (fun e=> ?_) (fun e=> ?_)
 ·refine wpIn_seq ?_
  replace s:=s.drop [5]
  refine zB 4 ((24, .s ((fLX n x).toSF))::(25, .s ((fLX n' y).toSF))::(26, .s ((zDY (x*y)).toSF))::(5, .u (zDY (x*y))):: []) hmix s (by kernel_rfl)
   (j5 zC<|
   j5 zC<|
   j5 (zH zD zSb (fun u0 u1 W hb (h0:LX n x u0 W) (h1:LX n' y u1 W)=>zN3 (LX.ly (m:=40000) h0 (by omega)) (LX.ly (m:=40000) h1 (by omega)) (by omega)))<|
   j5 zG<|zQo) fun a w4 s=> ?_
  refine zA rfl ?_
  refine wpIn_ret ?_
  first|exact StS.res1 s (t:=5) rfl (fun _ _ h=>h)|exact StS.res1 s (t:=5) rfl (fun _ _ h=>zRQ h)
 ·have hc:=of_decide_eq_false e
  have hkn:k<n:=by omega
  have hkn':k<n':=by omega
  have hk2:k≤M - 2:=by omega
  have hk3:n - k≤M - 2:=by omega
  have hk4:n' - k≤M - 2:=by omega
  have hP:0<BB^k:=Nat.pow_pos yZ
  have bxl:x % BB^k<BB^k:=Nat.mod_lt _ hP
  have byl:y % BB^k<BB^k:=Nat.mod_lt _ hP
  have bxh:x / BB^k<BB^(n - k):=by rw [Nat.div_lt_iff_lt_mul hP, ←Nat.pow_add,Nat.sub_add_cancel (by omega)];exact hx.lt
  have byh:y / BB^k<BB^(n' - k):=by rw [Nat.div_lt_iff_lt_mul hP, ←Nat.pow_add,Nat.sub_add_cancel (by omega)];exact hy.lt
  have bsx:=hsum (M:=M) (by omega) bxl bxh hk2 hk3
  have bsy:=hsum (M:=M) (by omega) byl byh hk2 hk4
  obtain ⟨N5,hN5⟩: ∃N:Nat,N=100000:=⟨_,rfl⟩
  obtain ⟨N6,hN6⟩: ∃N:Nat,N=300000:=⟨_,rfl⟩
  have bll:x % BB^k*(y % BB^k)+x / BB^k*(y / BB^k)<BB^N5:=by
   have h1:=zCo (M:=N5 - 2) bxl byl (by omega)
   have h2:=zCo (M:=N5 - 2) bxh byh (by omega)
   exact Nat.lt_of_lt_of_le (hsum (M:=N5) (by omega) h1 h2 (by omega) (by omega)) (Nat.pow_le_pow_right yZ (by omega))
  refine wpIn_skip ?_
  refine wpIn_seq ?_
  refine zB 18 ((27, .s ((UF.eq (zBE mb)).toSF))::(28, .s ((fLX n x).toSF))::(29, .s ((UF.eq (.int .i64 ((k:Nat):Int))).toSF))::(30, .s ((fLX k (x % BB^k)).toSF))::(31, .s ((fLX n' y).toSF))::(32, .s ((UF.eq (.int .i64 ((k:Nat):Int))).toSF))::(33, .s ((fLX k (y % BB^k)).toSF))::(34, .s ((zDY ((x % BB^k)*(y % BB^k))).toSF))::(35, .s ((UF.eq (zBE mb)).toSF))::(36, .s ((fLX n x).toSF))::(37, .s ((UF.eq (.int .i64 ((k:Nat):Int))).toSF))::(38, .s ((fLX (n - k) (x / BB^k)).toSF))::(39, .s ((fLX n' y).toSF))::(40, .s ((UF.eq (.int .i64 ((k:Nat):Int))).toSF))::(41, .s ((fLX (n' - k) (y / BB^k)).toSF))::(42, .s ((zDY ((x / BB^k)*(y / BB^k))).toSF))::(7, .u (zDY ((x % BB^k)*(y % BB^k))))::(8, .u (zDY ((x / BB^k)*(y / BB^k)))):: []) hmix s (by kernel_rfl)
   (j5 (jH (C:=(CU.one (zBE mb)).cf) (by kernel_rfl) (fun _ _ h=>h) zL1)<|
   j5 zC<|
   j5 zC<|
   j5 (zNP (k:=k) (by omega) (fun _ _ h=>h) (fun _ _ h=>h))<|
   j5 zC<|
   j5 zC<|
   j5 (zNP (k:=k) (by omega) (fun _ _ h=>h) (fun _ _ h=>h))<|
   j5 (zE1 zD zMl (fun _ _ h=>h) (fun u0 u1 W hb (h0:LX k (x % BB^k) u0 W) (h1:LX k (y % BB^k) u1 W)=>ih (by omega) mb W u0 u1 _ _ (LX.ly (m:=M - 1) h0 (by omega)) (LX.ly (m:=M - 1) h1 (by omega)) (zGb hmb (s.up hb))))<|
   j5 (jH (C:=(CU.one (zBE mb)).cf) (by kernel_rfl) (fun _ _ h=>h) zL1)<|
   j5 zC<|
   j5 zC<|
   j5 (zF4 (k:=k) (by omega) (fun _ _ h=>h) (fun _ _ h=>h))<|
   j5 zC<|
   j5 zC<|
   j5 (zF4 (k:=k) (by omega) (fun _ _ h=>h) (fun _ _ h=>h))<|
   j5 (zE1 zD zMl (fun _ _ h=>h) (fun u0 u1 W hb (h0:LX (n - k) (x / BB^k) u0 W) (h1:LX (n' - k) (y / BB^k) u1 W)=>ih (by omega) mb W u0 u1 _ _ (LX.ly (m:=M - 1) h0 (by omega)) (LX.ly (m:=M - 1) h1 (by omega)) (zGb hmb (s.up hb))))<|
   j5 zG<|
   j5 zG<|zQo) fun a w5 s=> ?_
  refine zA rfl ?_
  refine wpIn_seq ?_
  refine zB 24 ((43, .s ((UF.eq (zBE mb)).toSF))::(44, .s ((fLX n x).toSF))::(45, .s ((UF.eq (.int .i64 ((k:Nat):Int))).toSF))::(46, .s ((fLX k (x % BB^k)).toSF))::(47, .s ((fLX n x).toSF))::(48, .s ((UF.eq (.int .i64 ((k:Nat):Int))).toSF))::(49, .s ((fLX (n - k) (x / BB^k)).toSF))::(50, .s (SF.lys [x % BB^k,x / BB^k]))::(51, .s ((zDY ((x % BB^k)+(x / BB^k))).toSF))::(52, .s ((fLX n' y).toSF))::(53, .s ((UF.eq (.int .i64 ((k:Nat):Int))).toSF))::(54, .s ((fLX k (y % BB^k)).toSF))::(55, .s ((fLX n' y).toSF))::(56, .s ((UF.eq (.int .i64 ((k:Nat):Int))).toSF))::(57, .s ((fLX (n' - k) (y / BB^k)).toSF))::(58, .s (SF.lys [y % BB^k,y / BB^k]))::(59, .s ((zDY ((y % BB^k)+(y / BB^k))).toSF))::(60, .s ((zDY (((x % BB^k)+(x / BB^k))*((y % BB^k)+(y / BB^k)))).toSF))::(61, .s ((zDY ((x % BB^k)*(y % BB^k))).toSF))::(62, .s ((zDY ((x / BB^k)*(y / BB^k))).toSF))::(63, .s (SF.lys [(x % BB^k)*(y % BB^k),(x / BB^k)*(y / BB^k)]))::(64, .s ((zDY (((x % BB^k)*(y % BB^k))+((x / BB^k)*(y / BB^k)))).toSF))::(65, .s ((zDY ((((x % BB^k)+(x / BB^k))*((y % BB^k)+(y / BB^k))) - (((x % BB^k)*(y % BB^k))+((x / BB^k)*(y / BB^k))))).toSF))::(9, .u (zDY ((((x % BB^k)+(x / BB^k))*((y % BB^k)+(y / BB^k))) - (((x % BB^k)*(y % BB^k))+((x / BB^k)*(y / BB^k)))))):: []) hmix s (by kernel_rfl)
   (j5 (jH (C:=(CU.one (zBE mb)).cf) (by kernel_rfl) (fun _ _ h=>h) zL1)<|
   j5 zC<|
   j5 zC<|
   j5 (zNP (k:=k) (by omega) (fun _ _ h=>h) (fun _ _ h=>h))<|
   j5 zC<|
   j5 zC<|
   j5 (zF4 (k:=k) (by omega) (fun _ _ h=>h) (fun _ _ h=>h))<|
   j5 (yE (fun u v W (hu:LX k (x % BB^k) u W) (hv:LX (n - k) (x / BB^k) v W)=>zKE (LX.ly (m:=N6) hu (by omega)) (LX.ly (m:=N6) hv (by omega)) (by omega)))<|
   j5 (zI zD zJr (fun u0 W hb (h0:(SF.lys [x % BB^k,x / BB^k]).p u0 W)=>zJB (zJb h0 (by simp)) (by simp)))<|
   j5 zC<|
   j5 zC<|
   j5 (zNP (k:=k) (by omega) (fun _ _ h=>h) (fun _ _ h=>h))<|
   j5 zC<|
   j5 zC<|
   j5 (zF4 (k:=k) (by omega) (fun _ _ h=>h) (fun _ _ h=>h))<|
   j5 (yE (fun u v W (hu:LX k (y % BB^k) u W) (hv:LX (n' - k) (y / BB^k) v W)=>zKE (LX.ly (m:=N6) hu (by omega)) (LX.ly (m:=N6) hv (by omega)) (by omega)))<|
   j5 (zI zD zJr (fun u0 W hb (h0:(SF.lys [y % BB^k,y / BB^k]).p u0 W)=>zJB (zJb h0 (by simp)) (by simp)))<|
   j5 (zE1 zD zMl (fun _ _ h=>h) (fun u0 u1 W hb (h0:qH W u0 ((x % BB^k)+(x / BB^k))) (h1:qH W u1 ((y % BB^k)+(y / BB^k)))=>ih (by omega) mb W u0 u1 _ _ (zF8 (m:=M - 1) h0 bsx) (zF8 (m:=M - 1) h1 bsy) (zGb hmb (s.up hb))))<|
   j5 zC<|
   j5 zC<|
   j5 (yE (fun u v W (hu:qH W u ((x % BB^k)*(y % BB^k))) (hv:qH W v ((x / BB^k)*(y / BB^k)))=>zKE (zF8 (m:=N6) hu (zCo (M:=N6) bxl byl (by omega))) (zF8 (m:=N6) hv (zCo (M:=N6) bxh byh (by omega))) (by omega)))<|
   j5 (zI zD zJr (fun u0 W hb (h0:(SF.lys [(x % BB^k)*(y % BB^k),(x / BB^k)*(y / BB^k)]).p u0 W)=>zJB (zJb h0 (by simp)) (by simp)))<|
   j5 (zH zD zSa (fun u0 u1 W hb (h0:qH W u0 (((x % BB^k)+(x / BB^k))*((y % BB^k)+(y / BB^k)))) (h1:qH W u1 (((x % BB^k)*(y % BB^k))+((x / BB^k)*(y / BB^k))))=>zQu (zF8 (m:=N5) h0 (zCo (M:=N5) bsx bsy (by omega))) (zF8 (m:=N5) h1 bll) (by omega) (zQv _ _ _ _)))<|
   j5 zG<|zQo) fun a w6 s=> ?_
  refine zA rfl ?_
  refine wpIn_seq ?_
  replace s:=s.drop [5]
  refine zB 11 ((66, .s ((zDY ((x % BB^k)*(y % BB^k))).toSF))::(67, .s ((zDY ((((x % BB^k)+(x / BB^k))*((y % BB^k)+(y / BB^k))) - (((x % BB^k)*(y % BB^k))+((x / BB^k)*(y / BB^k))))).toSF))::(68, .s ((UF.eq (.int .i64 ((k:Nat):Int))).toSF))::(69, .s ((fLY 200000 (BB^(k)*((((x % BB^k)+(x / BB^k))*((y % BB^k)+(y / BB^k))) - (((x % BB^k)*(y % BB^k))+((x / BB^k)*(y / BB^k)))))).toSF))::(70, .s ((zDY ((x / BB^k)*(y / BB^k))).toSF))::(71, .s ((UF.eq (.int .i64 ((k:Nat):Int))).toSF))::(72, .s ((UF.eq (.int .i64 ((2*k:Nat):Int))).toSF))::(73, .s ((fLY 200000 (BB^(2*k)*((x / BB^k)*(y / BB^k)))).toSF))::(74, .s (SF.lys [(x % BB^k)*(y % BB^k),BB^(k)*((((x % BB^k)+(x / BB^k))*((y % BB^k)+(y / BB^k))) - (((x % BB^k)*(y % BB^k))+((x / BB^k)*(y / BB^k)))),BB^(2*k)*((x / BB^k)*(y / BB^k))]))::(75, .s ((zDY (((x % BB^k)*(y % BB^k))+(BB^(k)*((((x % BB^k)+(x / BB^k))*((y % BB^k)+(y / BB^k))) - (((x % BB^k)*(y % BB^k))+((x / BB^k)*(y / BB^k)))))+(BB^(2*k)*((x / BB^k)*(y / BB^k))))).toSF))::(5, .u (zDY (((x % BB^k)*(y % BB^k))+(BB^(k)*((((x % BB^k)+(x / BB^k))*((y % BB^k)+(y / BB^k))) - (((x % BB^k)*(y % BB^k))+((x / BB^k)*(y / BB^k)))))+(BB^(2*k)*((x / BB^k)*(y / BB^k)))))):: []) hmix s (by kernel_rfl)
   (j5 zC<|
   j5 zC<|
   j5 zC<|
   j5 (zH zD zO4 (fun u0 u1 W hb (h0:qH W u0 ((((x % BB^k)+(x / BB^k))*((y % BB^k)+(y / BB^k))) - (((x % BB^k)*(y % BB^k))+((x / BB^k)*(y / BB^k))))) (h1:u1= .int .i64 ((k:Nat):Int))=>zMF (zJc (k:=k) (zF8 (m:=N5) h0 (Nat.lt_of_le_of_lt (Nat.sub_le _ _) (zCo (M:=N5) bsx bsy (by omega)))) h1 (by omega) (by omega)) (by omega)))<|
   j5 zC<|
   j5 zC<|
   j5 (zCn (.int .i64 2) (.int .i64 (k:Int)) (.int .i64 ((2*k:Nat):Int)) (fun _ _ h=>h) (fun _ _ h=>h) (fun W=>by simp [eqGuard]) (fun W=>by simp [binOp,Op.intArith,zPq k (by omega)]) (fun _=>rfl))<|
   j5 (zH zD zO4 (fun u0 u1 W hb (h0:qH W u0 ((x / BB^k)*(y / BB^k))) (h1:u1= .int .i64 ((2*k:Nat):Int))=>zMF (zJc (k:=2*k) (zF8 (m:=N5) h0 (zCo (M:=N5) bxh byh (by omega))) h1 (by omega) (by omega)) (by omega)))<|
   j5 (zG2 (fun u v q W (hu:qH W u ((x % BB^k)*(y % BB^k))) (hv:LY 200000 (BB^(k)*((((x % BB^k)+(x / BB^k))*((y % BB^k)+(y / BB^k))) - (((x % BB^k)*(y % BB^k))+((x / BB^k)*(y / BB^k))))) v W) (hq:LY 200000 (BB^(2*k)*((x / BB^k)*(y / BB^k))) q W)=>zRf (zF8 (m:=N6) hu (zCo (M:=N6) bxl byl (by omega))) (LY.mono hv (m':=N6) (by omega)) (LY.mono hq (m':=N6) (by omega)) (by omega)))<|
   j5 (zI zD zJr (fun u0 W hb (h0:(SF.lys [(x % BB^k)*(y % BB^k),BB^(k)*((((x % BB^k)+(x / BB^k))*((y % BB^k)+(y / BB^k))) - (((x % BB^k)*(y % BB^k))+((x / BB^k)*(y / BB^k)))),BB^(2*k)*((x / BB^k)*(y / BB^k))]).p u0 W)=>zJB (zJb h0 (by simp)) (by simp [Nat.add_assoc])))<|
   j5 zG<|zQo) fun a w7 s=> ?_
  refine zA rfl ?_
  refine wpIn_ret ?_
  first|exact StS.res1 s (t:=5) rfl (fun _ _ h=>h)|exact StS.res1 s (t:=5) rfl (fun _ _ h=>zRQ h)
theorem zL3: ∀M,M≤40000→zSX M:=by
 intro M
 induction M using Nat.strongRecOn with
 |_ M ih=>
  intro hM mb W u v x y hx hy hmb
  obtain ⟨n,hx,hn⟩:=hx
  obtain ⟨n',hy,hn'⟩:=hy
  exact zL2 hx hy hmb rfl rfl (by omega) fun h0=>ih _ (by omega) (by omega)
theorem zN4 (M:Nat) (hM:M≤40000):zUx M:=fun mb A n c l A' n' c' l' w h h' ht ht' hn hn' hmb=>
 (zL3 M hM mb w _ _ _ _ ⟨n,⟨A,c,l,rfl,h,ht,rfl⟩,hn⟩ ⟨n',⟨A',c',l',rfl,h',ht',rfl⟩,hn'⟩ hmb).mono fun e w' ⟨v,h1,⟨A1,n1,c1,l1,h2,h3,h4⟩,h5⟩=>⟨A1,n1,c1,l1,by rw [h1,h2],h3,h4,h5⟩
end Go.Proofs.Wd
