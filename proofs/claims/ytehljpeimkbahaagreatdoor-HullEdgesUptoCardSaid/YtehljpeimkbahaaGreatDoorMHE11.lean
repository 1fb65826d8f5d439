/- prod.Mul's inner function: Karatsuba and what it needs. -/
import Derived.Test.YtehljpeimkbahaaGreatDoorMHE9
import Derived.Test.YtehljpeimkbahaaGreatDoorMHE6
theorem kC {P:Prop} (h:P:=by kernel_rfl):P:=h
theorem oH {P:Prop} (h:P:=by omega):P:=h
abbrev fO:=@Go.wpIn_seq
abbrev fP:=@Nat.pow_le_pow_right
abbrev fQ:=@Nat.pow_add
abbrev WV:=Go.World
abbrev WW:=Go.Value
namespace Go.Proofs.Wd
open Tryz
set_option maxRecDepth 100000
set_option maxHeartbeats 1000000
open Go.RowKit Lb
def LX (n x:Nat) (v:WW) (W:WV):Prop:= ∃A c l,v= .slice A n c/\Rd W A n c l/\Lt l/\val l=x
def fLX (n x:Nat):UF:= .mk' (LX n x) fun _ _ _ ⟨A,c,l,e,h1,h2,h3⟩ k=>⟨A,c,l,e,h1.keepU k,h2,h3⟩
def zDV (x:Nat):UF:= .mk' (fun v w=>qU w v x) fun _ _ _ ⟨A,n,c,l,e,h1,h2⟩ k=>⟨A,n,c,l,e,h1,h2.keepU k⟩
def LY (m x:Nat) (v:WW) (W:WV):Prop:= ∃n,LX n x v W/\n<=m
def fLY (m x:Nat):UF:= .mk' (LY m x) fun _ _ _ ⟨n,h,h1⟩ k=>⟨n,(fLX n x).us _ _ _ h k,h1⟩
theorem LX.lt {n x:Nat} {v:WW} {W:WV} (h:LX n x v W):x<BB^n:=by
 obtain ⟨A,c,l,e,h1,h2,rfl⟩:=h
 rw [<-h1.len]
 exact qY h2
theorem wN {n m x:Nat} {v:WW} {W:WV} (h:LX n x v W) (hn:n<=m):LY m x v W:=⟨n,h,hn⟩
theorem zF6 {m x:Nat} {v:WW} {W:WV} (h:qU W v x) (hx:x<BB^m):LY m x v W:=by
 obtain ⟨A,n,c,l,rfl,h1,h2⟩:=h
 exact ⟨n,⟨A,c,l,rfl,h2,h1.lt,h1.val⟩,by rw [<-h2.len];exact h1.len hx⟩
def wL (xs:List Nat):SF:=⟨fun v W=> ∃A ls,v= .slice A xs.length xs.length/\Rds W A xs.length ls/\ls.map val=xs,fun _ _ _ ⟨A,ls,h1,h2,h3⟩ hb=>⟨A,ls,h1,h2.below hb,h3⟩⟩
theorem zT4 {W:WV} {x:Nat} {e:Ending} {W':WV} (h:jL W x e W'):Ret W (zDV x).tS e W':=by
 obtain ⟨A,n,c,l,rfl,h1,h2,h3⟩:=h
 exact ⟨_,rfl,⟨A,n,c,l,rfl,h1,h2⟩,h3⟩
theorem zOd {W:WV} {u v:WW} {m x y:Nat} (h:LY m x u W) (h':LY m y v W) (hm:m<=100000):Calls prog 142 #[u,v] W (Ret W (zDV (x*y)).tS):=by
 obtain ⟨n,⟨A,c,l,rfl,h1,h2,rfl⟩,hn⟩:=h
 obtain ⟨n',⟨A',c',l',rfl,h1',h2',rfl⟩,hn'⟩:=h'
 exact (zLj A n c l A' n' c' l' W h1 h1' h2 h2' oH oH).mono fun e W' he=>zT4 he
theorem zI6 {W:WV} {u:WW} {xs:List Nat} (h:(wL xs).p u W) (hn:xs.length<=1000):Calls prog 144 #[u] W (Ret W (zDV xs.sum).tS):=by
 obtain ⟨A,ls,rfl,h1,rfl⟩:=h
 exact (zMD A _ _ ls W h1 hn).mono fun e W' he=>zT4 he
theorem zRd {W:WV} {u v:WW} {m x y:Nat} (h:LY m x u W) (h':LY m y v W) (hm:m<=1000000) (hyx:y<=x):Calls prog 143 #[u,v] W (Ret W (zDV (x - y)).tS):=by
 obtain ⟨n,⟨A,c,l,rfl,h1,h2,rfl⟩,hn⟩:=h
 obtain ⟨n',⟨A',c',l',rfl,h1',h2',rfl⟩,hn'⟩:=h'
 exact (zLi A n c A' n' c' W _ (zHH A n c l A' n' c' l' W h1 h1' h2 h2' hyx oH oH)).mono fun e W' he=>zT4 he
theorem zI7 {W:WV} {u v:WW} {m x k:Nat} (h:LY m x u W) (hv:v= .int .i64 (k:Int)) (hm:m<=100000) (hk:k<=100000):Calls prog 145 #[u,v] W (Ret W (fLY (k+m) (BB^k*x)).tS):=by
 obtain ⟨n,⟨A,c,l,rfl,h1,h2,rfl⟩,hn⟩:=h
 subst hv
 refine (zMH A n c l k W h1 oH hk).mono fun e W' he=> ?_
 obtain ⟨A',n',c',rfl,h3,h4⟩:=he
 refine ⟨_,rfl,⟨n',⟨A',c',_,rfl,h3,zHA (jU k) h2,zKn k l⟩, ?_⟩,h4⟩
 rw [<-h3.len,List.length_append,List.length_replicate,h1.len]
 omega
theorem zTZ (A A':Option Addr) (n c n' c':Nat):z5 prog 154 2 [(0, .slice A n c),(1, .slice A' n' c')]=some (24,#[.slice A n c, .slice A' n' c']):=by kernel_rfl
theorem zTY (A A' A'':Option Addr) (n c n' c' n'' c'':Nat):z5 prog 154 3 [(0, .slice A n c),(1, .slice A' n' c'),(2, .slice A'' n'' c'')]=some (24,#[.slice A n c, .slice A' n' c', .slice A'' n'' c'']):=by kernel_rfl
theorem zKA {u v:WW} {W:WV} {m x y:Nat} (h:LY m x u W) (h':LY m y v W) (hm:m<=1000000): ∃e cs,z5 prog 154 2 [(0,u),(1,v)]=some (e,cs)/\(wL [x,y]).p (.slice (some ⟨W.heap.size,0,none⟩) 2 2) (W.alloc (.cells cs e)):=by
 obtain ⟨n,⟨A,c,l,rfl,h1,h2,rfl⟩,hn⟩:=h
 obtain ⟨n',⟨A',c',l',rfl,h1',h2',rfl⟩,hn'⟩:=h'
 exact ⟨_,_,zTZ A A' n c n' c',_,_,rfl,Rds.two h1 h2 oH h1' h2' oH _,rfl⟩
theorem zR9 {u v q:WW} {W:WV} {m x y z:Nat} (h:LY m x u W) (h':LY m y v W) (h'':LY m z q W) (hm:m<=1000000): ∃e cs,z5 prog 154 3 [(0,u),(1,v),(2,q)]=some (e,cs)/\(wL [x,y,z]).p (.slice (some ⟨W.heap.size,0,none⟩) 3 3) (W.alloc (.cells cs e)):=by
 obtain ⟨n,⟨A,c,l,rfl,h1,h2,rfl⟩,hn⟩:=h
 obtain ⟨n',⟨A',c',l',rfl,h1',h2',rfl⟩,hn'⟩:=h'
 obtain ⟨n'',⟨A'',c'',l'',rfl,h1'',h2'',rfl⟩,hn''⟩:=h''
 exact ⟨_,_,zTY A A' A'' n c n' c' n'' c'',_,_,rfl,Rds.three h1 h2 oH h1' h2' oH h1'' h2'' oH _,rfl⟩
theorem zKm {l:List Nat} (ht:Lt l) {k:Nat} (hk:k<=l.length):val (l.take k)=val l % BB^k/\val (l.drop k)=val l / BB^k:=by
 have h1:=qY (zBB ht k)
 rw [List.length_take,Nat.min_eq_left hk] at h1
 rw [jV l k hk]
 exact ⟨by rw [Nat.add_mul_mod_self_left,Nat.mod_eq_of_lt h1],by rw [Nat.add_mul_div_left _ _ (Nat.pow_pos qB),Nat.div_eq_of_lt h1,Nat.zero_add]⟩
theorem zSd (A:Option Addr) (n c k:Nat) (hk:k<=c) (w:WV):(Instr.sliceAt 24 (.slice A n c) none (some (.int .i64 (k:Int))) none).run prog w= .ok (.slice A k c) w:=by
 obtain ⟨i,hi,hz,hs,hb⟩:=info_parts yT
 simp [Instr.sliceAt,Instr.slice,Instr.sliceBounds,run_underlying yC,sizeOf,typeInfo,hi,go_sem,hk]
theorem zNn (A:Option Addr) (n c k:Nat) (hk:k<=n) (w:WV):(Instr.sliceAt 24 (.slice A n c) (some (.int .i64 (k:Int))) none none).run prog w= .ok (.slice (if c=k then A else A.map (·.add k)) (n - k) (c - k)) w:=by
 obtain ⟨i,hi,hz,hs,hb⟩:=info_parts yT
 simp [Instr.sliceAt,Instr.slice,Instr.sliceBounds,run_underlying yC,sizeOf,typeInfo,hi,hs,go_sem,hk]
section
variable {F:Fence} {m:Nat} {w0:WV} {ops:Array Oper} {G:Nat->SF} {d:Tmp} {ty:TypeId} {pos:String} {aft:Array Edge}
theorem zNX {x hi:Operand} {n k y:Nat} (hk:k<=n) (hx: ∀v W,(fct G x).p v W->LX n y v W) (hh: ∀v W,(fct G hi).p v W->v= .int .i64 (k:Int)) (hd: ∀v W,LX k (y % BB^k) v W->(G d).p v W:=by exact fun _ _ h=>h):qN F m prog w0 ops G ⟨some d, .slice 24 x none (some hi) none,ty,pos,aft,none⟩:=
 qL (fun _ e=>by cases e) (fun _ e=>by cases e) fun b W hb hp=>by
  obtain ⟨A,c,l,e,h1,h2,rfl⟩:=hx _ _ (hp x (by simp [Op.operands]))
  have e2:=hh _ _ (hp hi (by simp [Op.operands]))
  have hc:=h1.le
  refine ⟨_,by simp [execOp,e,e2,zSd A n c k oH],hd _ _ ⟨A,c,l.take k,rfl,h1.take hk oH (Nat.le_refl _),zBB h2 k,(zKm h2 (by rw [h1.len];exact hk)).1⟩⟩
theorem zF2 {x lo:Operand} {n k y:Nat} (hk:k<=n) (hx: ∀v W,(fct G x).p v W->LX n y v W) (hh: ∀v W,(fct G lo).p v W->v= .int .i64 (k:Int)) (hd: ∀v W,LX (n - k) (y / BB^k) v W->(G d).p v W:=by exact fun _ _ h=>h):qN F m prog w0 ops G ⟨some d, .slice 24 x (some lo) none none,ty,pos,aft,none⟩:=
 qL (fun _ e=>by cases e) (fun _ e=>by cases e) fun b W hb hp=>by
  obtain ⟨A,c,l,e,h1,h2,rfl⟩:=hx _ _ (hp x (by simp [Op.operands]))
  have e2:=hh _ _ (hp lo (by simp [Op.operands]))
  refine ⟨_,by simp [execOp,e,e2,zNn A n c k hk],hd _ _ ⟨_,c - k,l.drop k,rfl,h1.drop hk,zGu h2 k,(zKm h2 (by rw [h1.len];exact hk)).2⟩⟩
theorem zF1 {P:Program} {t:TypeId} {x:Operand} {n y:Nat} (ht:P.underlying t=some (.slice (P.elem t))) (hx: ∀v W,(fct G x).p v W->LX n y v W) (hd: ∀W,(G d).p (.int .i64 (n:Int)) W:=by exact fun _=>rfl):qN F m P w0 ops G ⟨some d, .call ⟨.builtin .len,#[x],#[t]⟩,ty,pos,aft,none⟩:=by
 intro b W K Q hb hr hK
 obtain ⟨A,c,l,e,_⟩:=hx _ _ (qE hr (x:=x) (by simp [Op.operands,Call.operands]))
 refine ⟨fun f hf=>(by
  unfold Oper.about at hf
  simp [resolve,go_sem] at hf), ?_⟩
 rw [Oper.semAt_eq _ _ _ (fun _ e=>by cases e)]
 have:(execOp b.eval ⟨some d, .call ⟨.builtin .len,#[x],#[t]⟩,ty,pos,aft,none⟩).run P W= .ok (.value (.int .i64 (n:Int))) W:=by
  simp [execOp,resolve,invoke,builtin,e,run_len_slice _ _ _ _ _ _ ht,goInt]
 rw [this]
 exact hK _ _ (fun d' e=>by cases e;exact hd W) (Below.refl _ _)
theorem zCY {bi:Builtin} {x y:Operand} {ats:Array TypeId} (u v r:WW) (hx: ∀q W,(fct G x).p q W->q=u) (hy: ∀q W,(fct G y).p q W->q=v) (hr: ∀cs W,(builtin bi ats ty cs #[u,v]).run prog W= .ok (.value r) W) (hd: ∀W,(G d).p r W:=by exact fun _=>rfl):qN F m prog w0 ops G ⟨some d, .call ⟨.builtin bi,#[x,y],ats⟩,ty,pos,aft,none⟩:=by
 intro b W K Q hb hp hK
 have e1:=hx _ _ (qE hp (x:=x) (by simp [Op.operands,Call.operands]))
 have e2:=hy _ _ (qE hp (x:=y) (by simp [Op.operands,Call.operands]))
 refine ⟨fun f hf=>(by
  unfold Oper.about at hf
  simp [resolve,go_sem] at hf), ?_⟩
 rw [Oper.semAt_eq _ _ _ (fun _ e=>by cases e)]
 have:(execOp b.eval ⟨some d, .call ⟨.builtin bi,#[x,y],ats⟩,ty,pos,aft,none⟩).run prog W= .ok (.value r) W:=by
  simp [execOp,resolve,invoke,e1,e2,hr]
 rw [this]
 exact hK _ _ (fun d' e=>by cases e;exact hd W) (Below.refl _ _)
theorem zEP {y x1 x2:Operand} {g:FuncId} {z:WW} {P:Program} {ats:Array TypeId} (hF:zGw F m P) (he:Enters P g) (hy: ∀v W,(fct G y).p v W->v= .func (.func g) #[] #[z])
  (h: ∀u v W,Below w0.heap.size w0 W->(fct G x1).p u W->(fct G x2).p v W->Calls P g #[u,v,z] W (Ret W (G d))):qN F m P w0 ops G ⟨some d, .call ⟨.value y,#[x1,x2],ats⟩,ty,pos,aft,none⟩:=by
 intro b W K Q hb hr hK
 have h0:=hy _ _ (qE hr (x:=y) (by simp [Op.operands,Call.operands]))
 have h1:=h _ _ W hb (qE hr (x:=x1) (by simp [Op.operands,Call.operands])) (qE hr (x:=x2) (by simp [Op.operands,Call.operands]))
 refine ⟨fun g _=>hF.1 g, ?_⟩
 rw [Oper.semAt_eq _ _ _ (fun _ e=>by cases e)]
 have hx:(execOp b.eval ⟨some d, .call ⟨.value y,#[x1,x2],ats⟩,ty,pos,aft,none⟩).run P W= .ok (.enter g #[b.eval x1,b.eval x2,z]) W:=by
  simp only [execOp,resolve,h0]
  simp [invoke,Deferred.ofValue]
  exact he _ _
 rw [hx]
 simp only [Oper.uponIn_enter]
 refine ⟨hF.2.1,CallsIn.mono (hF.2.2 _ _ _ (Ret W (G d)) h1) fun e W' hh=> ?_⟩
 obtain ⟨v,rfl,h2,h3⟩:=hh
 exact hK _ _ (fun d' e=>by cases e;exact h2) h3
end
def CU.one (v:WW):CU:=⟨fun cs _=>cs= [v],fun _ _ _ h _=>h⟩
theorem zLN {v:WW} (cs:List WW) (W:WV) (h:(CU.one v).p cs W): ∃u,cs[0]?=some u/\u=v:=by
 obtain rfl:cs= [v]:=h
 exact ⟨v,rfl,rfl⟩
theorem zF9 {mb:Nat} {w W:WV} (h:w.cell? ⟨mb,0,none⟩=some (zBP mb)) (hb:Below w.heap.size w W):W.cell? ⟨mb,0,none⟩=some (zBP mb):=(hb.cell (p:=⟨mb,0,none⟩) (World.block_lt_of_cell? w _ h)).trans h
def zTF (N:Nat):Prop:= ∀(mb:Nat) (W:WV) (u v:WW) (x y:Nat),LY N x u W->LY N y v W->W.cell? ⟨mb,0,none⟩=some (zBP mb)->Calls prog 141 #[u,v, .pointer (some ⟨mb,0,none⟩)] W (Ret W (zDV (x*y)).tS)
theorem hsum {M x y:Nat} (hM:2<=M) {a b:Nat} (hx:x<BB^a) (hy:y<BB^b) (ha:a<=M - 2) (hb:b<=M - 2):x+y<BB^(M - 1):=by
 have u1:BB^a<=BB^(M - 2):=fP qB ha
 have u2:BB^b<=BB^(M - 2):=fP qB hb
 have u3:BB^(M - 2)*2<=BB^(M - 2)*BB:=Nat.mul_le_mul_left _ (by unfold BB;omega)
 have u4:BB^(M - 1)=BB^(M - 2)*BB:=by rw [<-Nat.pow_succ];congr 1;omega
 omega
theorem zAc {F:Fence} {m:Nat} {P:Program} {w0:WV} {ops:Array Oper} {G:Nat->SF} {o:Oper} {l:List Oper} (h:qN F m P w0 ops G o) (k:Obs F m P w0 ops G l):Obs F m P w0 ops G (o::l):=⟨h,k⟩
theorem zQ4 {F:Fence} {m:Nat} {P:Program} {w0:WV} {ops:Array Oper} {G:Nat->SF}:Obs F m P w0 ops G []:=trivial
theorem zP8 (k:Nat) (hk:k<=40000):IntKind.i64.wrap (2*(k:Int))=2*(k:Int):=by
 rw [IntKind.wrap_i64]
 omega
theorem zKK {ats:Array TypeId} {ty:TypeId} (a b r:Nat) (h:max a b=r) (cs:Array Bool) (W:WV):(builtin .max ats ty cs #[.int .i64 (a:Int), .int .i64 (b:Int)]).run prog W= .ok (.value (.int .i64 (r:Int))) W:=by
 subst h
 simp [Builtin.max_,Builtin.max2,go_sem]
 omega
theorem zQr {ats:Array TypeId} {ty:TypeId} (a b r:Nat) (h:min a b=r) (cs:Array Bool) (W:WV):(builtin .min ats ty cs #[.int .i64 (a:Int), .int .i64 (b:Int)]).run prog W= .ok (.value (.int .i64 (r:Int))) W:=by
 subst h
 simp [Builtin.min_,Builtin.min2,go_sem]
 omega
theorem zCo {x y a b M:Nat} (hx:x<BB^a) (hy:y<BB^b) (h:a+b<=M):x*y<BB^M:=by
 refine Nat.lt_of_lt_of_le ?_ (fP qB h)
 rw [fQ]
 exact Nat.mul_lt_mul_of_lt_of_lt hx hy
theorem LY.mono {m m' x:Nat} {v:WW} {W:WV} (h:LY m x v W) (hm:m<=m'):LY m' x v W:=by
 obtain ⟨n,h1,h2⟩:=h
 exact ⟨n,h1,Nat.le_trans h2 hm⟩
theorem zJo {P:Program} {f:FuncId} {args:Array WW} {W:WV} {x y:Nat} (h:Calls P f args W (Ret W (zDV x).tS)) (e:x=y):Calls P f args W (Ret W (zDV y).tS):=e▸h
theorem zMF {P:Program} {f:FuncId} {args:Array WW} {W:WV} {m m' x:Nat} (h:Calls P f args W (Ret W (fLY m x).tS)) (e:m<=m'):Calls P f args W (Ret W (fLY m' x).tS):=h.mono fun _ _ ⟨v,h1,h2,h3⟩=>⟨v,h1,LY.mono h2 e,h3⟩
theorem zSQ {x y k:Nat} {v:WW} {W:WV} (h:qU W v (((x % BB^k)*(y % BB^k))+(BB^k*(((x % BB^k)+(x / BB^k))*((y % BB^k)+(y / BB^k)) - ((x % BB^k)*(y % BB^k)+(x / BB^k)*(y / BB^k))))+(BB^(2*k)*((x / BB^k)*(y / BB^k))))):qU W v (x*y):=by
 have e1:=Nat.mod_add_div x (BB^k)
 have e2:=Nat.mod_add_div y (BB^k)
 have e3:=zVK (x % BB^k) (x / BB^k) (y % BB^k) (y / BB^k) (BB^k)
 rw [e1,e2] at e3
 rw [e3, <-fQ, <-Nat.two_mul]
 exact h
theorem zLO {W:WV} {u v:WW} {mb n n' x y M k:Nat} (hx:LX n x u W) (hy:LX n' y v W) (hmb:W.cell? ⟨mb,0,none⟩=some (zBP mb)) (hM:max n n'=M) (hk:M / 2=k) (hM4:M<=40000) (ih:0<M->zTF (M - 1)):Calls prog 141 #[u,v, .pointer (some ⟨mb,0,none⟩)] W (Ret W (zDV (x*y)).tS):=by
 have hmix:prog.follows .mixedOrders=true:=by kernel_rfl
 have hdv:(M:Int).tdiv 2=(k:Int):=by rw [Int.tdiv_eq_ediv_of_nonneg oH];omega
 refine yB [(fLX n x).tS,(fLX n' y).tS,wB (CU.one (zBP mb)).cf] func141 rfl kC ⟨hx,hy,⟨mb,0, [zBP mb],rfl,rfl,fun j u hj=>(by match j with|0=>(cases hj;exact hmb)|j+1=>simp at hj)⟩,trivial⟩ fun a s=> ?_
 refine fO ?_
 refine zB 1 ((5, .u (UF.eq (.slice none 0 0))):: []) hmix s kC
  (zAc zG<|zQ4) fun a w1 s=> ?_
 refine zA rfl ?_
 refine fO ?_
 refine zB 7 ((10, .s ((fLX n x).tS))::(11, .s ((uI (n:Int)).tS))::(12, .s ((fLX n' y).tS))::(13, .s ((uI (n':Int)).tS))::(14, .s ((uI (M:Int)).tS))::(15, .s ((uI (k:Int)).tS))::(6, .u (uI (k:Int))):: []) hmix s kC
  (zAc zC<|
  zAc (zF1 kC (fun _ _ h=>h))<|
  zAc zC<|
  zAc (zF1 kC (fun _ _ h=>h))<|
  zAc (zCY (.int .i64 (n:Int)) (.int .i64 (n':Int)) (.int .i64 (M:Int)) (fun _ _ h=>h) (fun _ _ h=>h) (zKK _ _ _ hM))<|
  zAc (zDn (.int .i64 (M:Int)) (.int .i64 2) (.int .i64 (k:Int)) (fun _ _ h=>h) (fun _ _ h=>h) (fun W=>by simp [eqGuard]) (fun W=>by simp [binOp,hdv,go_sem];rw [IntKind.wrap_i64];omega) (fun _=>rfl))<|
  zAc zG<|zQ4) fun a w2 s=> ?_
 refine zA rfl ?_
 refine fO ?_
 refine fO ?_
 refine zB 8 ((16, .s ((fLX n x).tS))::(17, .s ((uI (n:Int)).tS))::(18, .s ((fLX n' y).tS))::(19, .s ((uI (n':Int)).tS))::(20, .s ((uI ((min n n':Nat):Int)).tS))::(21, .s ((uI (k:Int)).tS))::(22, .s ((uI ((max k 12:Nat):Int)).tS))::(23, .u (uB (decide (min n n'<=max k 12)))):: []) hmix s kC
  (zAc zC<|
  zAc (zF1 kC (fun _ _ h=>h))<|
  zAc zC<|
  zAc (zF1 kC (fun _ _ h=>h))<|
  zAc (zCY (.int .i64 (n:Int)) (.int .i64 (n':Int)) (.int .i64 ((min n n':Nat):Int)) (fun _ _ h=>h) (fun _ _ h=>h) (zQr _ _ _ rfl))<|
  zAc zC<|
  zAc (zCY (.int .i64 (k:Int)) (.int .i64 12) (.int .i64 ((max k 12:Nat):Int)) (fun _ _ h=>h) (fun _ _ h=>h) (zKK _ _ _ rfl))<|
  zAc (zDn (.int .i64 ((min n n':Nat):Int)) (.int .i64 ((max k 12:Nat):Int)) (.bool (decide (min n n'<=max k 12))) (fun _ _ h=>h) (fun _ _ h=>h) (fun W=>by simp [eqGuard]) (fun W=>by simp [binOp,Op.intCmp]) (fun _=>rfl))<|zQ4) fun a w3 s=> ?_
 refine zA rfl ?_
 refine StS.cond s (decide (min n n'<=max k 12)) (fun _ _ h=>h) (fun e=> ?_) (fun e=> ?_)
 ·refine fO ?_
  replace s:=s.drop [5]
  refine zB 4 ((24, .s ((fLX n x).tS))::(25, .s ((fLX n' y).tS))::(26, .s ((zDV (x*y)).tS))::(5, .u (zDV (x*y))):: []) hmix s kC
   (zAc zC<|
   zAc zC<|
   zAc (zI zE zTg (fun u0 u1 W hb (h0:LX n x u0 W) (h1:LX n' y u1 W)=>zOd (wN (m:=40000) h0 oH) (wN (m:=40000) h1 oH) oH))<|
   zAc zG<|zQ4) fun a w4 s=> ?_
  refine zA rfl ?_
  refine wpIn_ret ?_
  first|exact wD s (t:=5) rfl (fun _ _ h=>h)|exact wD s (t:=5) rfl (fun _ _ h=>zSQ h)
 ·have hc:=of_decide_eq_false e
  have hkn:k<n:=by omega
  have hkn':k<n':=by omega
  have hk2:k<=M - 2:=by omega
  have hk3:n - k<=M - 2:=by omega
  have hk4:n' - k<=M - 2:=by omega
  have hP:0<BB^k:=Nat.pow_pos qB
  have bxl:x % BB^k<BB^k:=Nat.mod_lt _ hP
  have byl:y % BB^k<BB^k:=Nat.mod_lt _ hP
  have bxh:x / BB^k<BB^(n - k):=by rw [Nat.div_lt_iff_lt_mul hP, <-fQ,Nat.sub_add_cancel oH];exact hx.lt
  have byh:y / BB^k<BB^(n' - k):=by rw [Nat.div_lt_iff_lt_mul hP, <-fQ,Nat.sub_add_cancel oH];exact hy.lt
  have bsx:=hsum (M:=M) oH bxl bxh hk2 hk3
  have bsy:=hsum (M:=M) oH byl byh hk2 hk4
  obtain ⟨N5,hN5⟩: ∃N:Nat,N=100000:=⟨_,rfl⟩
  obtain ⟨N6,hN6⟩: ∃N:Nat,N=300000:=⟨_,rfl⟩
  have bll:x % BB^k*(y % BB^k)+x / BB^k*(y / BB^k)<BB^N5:=by
   have h1:=zCo (M:=N5 - 2) bxl byl oH
   have h2:=zCo (M:=N5 - 2) bxh byh oH
   exact Nat.lt_of_lt_of_le (hsum (M:=N5) oH h1 h2 oH oH) (fP qB oH)
  refine wpIn_skip ?_
  refine fO ?_
  refine zB 18 ((27, .s ((UF.eq (zBP mb)).tS))::(28, .s ((fLX n x).tS))::(29, .s ((uI (k:Int)).tS))::(30, .s ((fLX k (x % BB^k)).tS))::(31, .s ((fLX n' y).tS))::(32, .s ((uI (k:Int)).tS))::(33, .s ((fLX k (y % BB^k)).tS))::(34, .s ((zDV ((x % BB^k)*(y % BB^k))).tS))::(35, .s ((UF.eq (zBP mb)).tS))::(36, .s ((fLX n x).tS))::(37, .s ((uI (k:Int)).tS))::(38, .s ((fLX (n - k) (x / BB^k)).tS))::(39, .s ((fLX n' y).tS))::(40, .s ((uI (k:Int)).tS))::(41, .s ((fLX (n' - k) (y / BB^k)).tS))::(42, .s ((zDV ((x / BB^k)*(y / BB^k))).tS))::(7, .u (zDV ((x % BB^k)*(y % BB^k))))::(8, .u (zDV ((x / BB^k)*(y / BB^k)))):: []) hmix s kC
   (zAc (zAn (C:=(CU.one (zBP mb)).cf) kC (fun _ _ h=>h) zLN)<|
   zAc zC<|
   zAc zC<|
   zAc (zNX (k:=k) oH (fun _ _ h=>h) (fun _ _ h=>h))<|
   zAc zC<|
   zAc zC<|
   zAc (zNX (k:=k) oH (fun _ _ h=>h) (fun _ _ h=>h))<|
   zAc (zEP zE zMl (fun _ _ h=>h) (fun u0 u1 W hb (h0:LX k (x % BB^k) u0 W) (h1:LX k (y % BB^k) u1 W)=>ih oH mb W u0 u1 _ _ (wN (m:=M - 1) h0 oH) (wN (m:=M - 1) h1 oH) (zF9 hmb (s.up hb))))<|
   zAc (zAn (C:=(CU.one (zBP mb)).cf) kC (fun _ _ h=>h) zLN)<|
   zAc zC<|
   zAc zC<|
   zAc (zF2 (k:=k) oH (fun _ _ h=>h) (fun _ _ h=>h))<|
   zAc zC<|
   zAc zC<|
   zAc (zF2 (k:=k) oH (fun _ _ h=>h) (fun _ _ h=>h))<|
   zAc (zEP zE zMl (fun _ _ h=>h) (fun u0 u1 W hb (h0:LX (n - k) (x / BB^k) u0 W) (h1:LX (n' - k) (y / BB^k) u1 W)=>ih oH mb W u0 u1 _ _ (wN (m:=M - 1) h0 oH) (wN (m:=M - 1) h1 oH) (zF9 hmb (s.up hb))))<|
   zAc zG<|
   zAc zG<|zQ4) fun a w5 s=> ?_
  refine zA rfl ?_
  refine fO ?_
  refine zB 24 ((43, .s ((UF.eq (zBP mb)).tS))::(44, .s ((fLX n x).tS))::(45, .s ((uI (k:Int)).tS))::(46, .s ((fLX k (x % BB^k)).tS))::(47, .s ((fLX n x).tS))::(48, .s ((uI (k:Int)).tS))::(49, .s ((fLX (n - k) (x / BB^k)).tS))::(50, .s (wL [x % BB^k,x / BB^k]))::(51, .s ((zDV ((x % BB^k)+(x / BB^k))).tS))::(52, .s ((fLX n' y).tS))::(53, .s ((uI (k:Int)).tS))::(54, .s ((fLX k (y % BB^k)).tS))::(55, .s ((fLX n' y).tS))::(56, .s ((uI (k:Int)).tS))::(57, .s ((fLX (n' - k) (y / BB^k)).tS))::(58, .s (wL [y % BB^k,y / BB^k]))::(59, .s ((zDV ((y % BB^k)+(y / BB^k))).tS))::(60, .s ((zDV (((x % BB^k)+(x / BB^k))*((y % BB^k)+(y / BB^k)))).tS))::(61, .s ((zDV ((x % BB^k)*(y % BB^k))).tS))::(62, .s ((zDV ((x / BB^k)*(y / BB^k))).tS))::(63, .s (wL [(x % BB^k)*(y % BB^k),(x / BB^k)*(y / BB^k)]))::(64, .s ((zDV (((x % BB^k)*(y % BB^k))+((x / BB^k)*(y / BB^k)))).tS))::(65, .s ((zDV ((((x % BB^k)+(x / BB^k))*((y % BB^k)+(y / BB^k))) - (((x % BB^k)*(y % BB^k))+((x / BB^k)*(y / BB^k))))).tS))::(9, .u (zDV ((((x % BB^k)+(x / BB^k))*((y % BB^k)+(y / BB^k))) - (((x % BB^k)*(y % BB^k))+((x / BB^k)*(y / BB^k)))))):: []) hmix s kC
   (zAc (zAn (C:=(CU.one (zBP mb)).cf) kC (fun _ _ h=>h) zLN)<|
   zAc zC<|
   zAc zC<|
   zAc (zNX (k:=k) oH (fun _ _ h=>h) (fun _ _ h=>h))<|
   zAc zC<|
   zAc zC<|
   zAc (zF2 (k:=k) oH (fun _ _ h=>h) (fun _ _ h=>h))<|
   zAc (yI (fun u v W (hu:LX k (x % BB^k) u W) (hv:LX (n - k) (x / BB^k) v W)=>zKA (wN (m:=N6) hu oH) (wN (m:=N6) hv oH) oH))<|
   zAc (zH zE zJf (fun u0 W hb (h0:(wL [x % BB^k,x / BB^k]).p u0 W)=>zJo (zI6 h0 (by simp)) (by simp)))<|
   zAc zC<|
   zAc zC<|
   zAc (zNX (k:=k) oH (fun _ _ h=>h) (fun _ _ h=>h))<|
   zAc zC<|
   zAc zC<|
   zAc (zF2 (k:=k) oH (fun _ _ h=>h) (fun _ _ h=>h))<|
   zAc (yI (fun u v W (hu:LX k (y % BB^k) u W) (hv:LX (n' - k) (y / BB^k) v W)=>zKA (wN (m:=N6) hu oH) (wN (m:=N6) hv oH) oH))<|
   zAc (zH zE zJf (fun u0 W hb (h0:(wL [y % BB^k,y / BB^k]).p u0 W)=>zJo (zI6 h0 (by simp)) (by simp)))<|
   zAc (zEP zE zMl (fun _ _ h=>h) (fun u0 u1 W hb (h0:qU W u0 ((x % BB^k)+(x / BB^k))) (h1:qU W u1 ((y % BB^k)+(y / BB^k)))=>ih oH mb W u0 u1 _ _ (zF6 (m:=M - 1) h0 bsx) (zF6 (m:=M - 1) h1 bsy) (zF9 hmb (s.up hb))))<|
   zAc zC<|
   zAc zC<|
   zAc (yI (fun u v W (hu:qU W u ((x % BB^k)*(y % BB^k))) (hv:qU W v ((x / BB^k)*(y / BB^k)))=>zKA (zF6 (m:=N6) hu (zCo (M:=N6) bxl byl oH)) (zF6 (m:=N6) hv (zCo (M:=N6) bxh byh oH)) oH))<|
   zAc (zH zE zJf (fun u0 W hb (h0:(wL [(x % BB^k)*(y % BB^k),(x / BB^k)*(y / BB^k)]).p u0 W)=>zJo (zI6 h0 (by simp)) (by simp)))<|
   zAc (zI zE zTf (fun u0 u1 W hb (h0:qU W u0 (((x % BB^k)+(x / BB^k))*((y % BB^k)+(y / BB^k)))) (h1:qU W u1 (((x % BB^k)*(y % BB^k))+((x / BB^k)*(y / BB^k))))=>zRd (zF6 (m:=N5) h0 (zCo (M:=N5) bsx bsy oH)) (zF6 (m:=N5) h1 bll) oH (zRe _ _ _ _)))<|
   zAc zG<|zQ4) fun a w6 s=> ?_
  refine zA rfl ?_
  refine fO ?_
  replace s:=s.drop [5]
  refine zB 11 ((66, .s ((zDV ((x % BB^k)*(y % BB^k))).tS))::(67, .s ((zDV ((((x % BB^k)+(x / BB^k))*((y % BB^k)+(y / BB^k))) - (((x % BB^k)*(y % BB^k))+((x / BB^k)*(y / BB^k))))).tS))::(68, .s ((uI (k:Int)).tS))::(69, .s ((fLY 200000 (BB^(k)*((((x % BB^k)+(x / BB^k))*((y % BB^k)+(y / BB^k))) - (((x % BB^k)*(y % BB^k))+((x / BB^k)*(y / BB^k)))))).tS))::(70, .s ((zDV ((x / BB^k)*(y / BB^k))).tS))::(71, .s ((uI (k:Int)).tS))::(72, .s ((uI ((2*k:Nat):Int)).tS))::(73, .s ((fLY 200000 (BB^(2*k)*((x / BB^k)*(y / BB^k)))).tS))::(74, .s (wL [(x % BB^k)*(y % BB^k),BB^(k)*((((x % BB^k)+(x / BB^k))*((y % BB^k)+(y / BB^k))) - (((x % BB^k)*(y % BB^k))+((x / BB^k)*(y / BB^k)))),BB^(2*k)*((x / BB^k)*(y / BB^k))]))::(75, .s ((zDV (((x % BB^k)*(y % BB^k))+(BB^(k)*((((x % BB^k)+(x / BB^k))*((y % BB^k)+(y / BB^k))) - (((x % BB^k)*(y % BB^k))+((x / BB^k)*(y / BB^k)))))+(BB^(2*k)*((x / BB^k)*(y / BB^k))))).tS))::(5, .u (zDV (((x % BB^k)*(y % BB^k))+(BB^(k)*((((x % BB^k)+(x / BB^k))*((y % BB^k)+(y / BB^k))) - (((x % BB^k)*(y % BB^k))+((x / BB^k)*(y / BB^k)))))+(BB^(2*k)*((x / BB^k)*(y / BB^k)))))):: []) hmix s kC
   (zAc zC<|
   zAc zC<|
   zAc zC<|
   zAc (zI zE zPH (fun u0 u1 W hb (h0:qU W u0 ((((x % BB^k)+(x / BB^k))*((y % BB^k)+(y / BB^k))) - (((x % BB^k)*(y % BB^k))+((x / BB^k)*(y / BB^k))))) (h1:u1= .int .i64 (k:Int))=>zMF (zI7 (k:=k) (zF6 (m:=N5) h0 (Nat.lt_of_le_of_lt (Nat.sub_le _ _) (zCo (M:=N5) bsx bsy oH))) h1 oH oH) oH))<|
   zAc zC<|
   zAc zC<|
   zAc (zDn (.int .i64 2) (.int .i64 (k:Int)) (.int .i64 ((2*k:Nat):Int)) (fun _ _ h=>h) (fun _ _ h=>h) (fun W=>by simp [eqGuard]) (fun W=>by simp [binOp,Op.intArith,zP8 k oH]) (fun _=>rfl))<|
   zAc (zI zE zPH (fun u0 u1 W hb (h0:qU W u0 ((x / BB^k)*(y / BB^k))) (h1:u1= .int .i64 ((2*k:Nat):Int))=>zMF (zI7 (k:=2*k) (zF6 (m:=N5) h0 (zCo (M:=N5) bxh byh oH)) h1 oH oH) oH))<|
   zAc (zG6 (fun u v q W (hu:qU W u ((x % BB^k)*(y % BB^k))) (hv:LY 200000 (BB^(k)*((((x % BB^k)+(x / BB^k))*((y % BB^k)+(y / BB^k))) - (((x % BB^k)*(y % BB^k))+((x / BB^k)*(y / BB^k))))) v W) (hq:LY 200000 (BB^(2*k)*((x / BB^k)*(y / BB^k))) q W)=>zR9 (zF6 (m:=N6) hu (zCo (M:=N6) bxl byl oH)) (LY.mono hv (m':=N6) oH) (LY.mono hq (m':=N6) oH) oH))<|
   zAc (zH zE zJf (fun u0 W hb (h0:(wL [(x % BB^k)*(y % BB^k),BB^(k)*((((x % BB^k)+(x / BB^k))*((y % BB^k)+(y / BB^k))) - (((x % BB^k)*(y % BB^k))+((x / BB^k)*(y / BB^k)))),BB^(2*k)*((x / BB^k)*(y / BB^k))]).p u0 W)=>zJo (zI6 h0 (by simp)) (by simp [Nat.add_assoc])))<|
   zAc zG<|zQ4) fun a w7 s=> ?_
  refine zA rfl ?_
  refine wpIn_ret ?_
  first|exact wD s (t:=5) rfl (fun _ _ h=>h)|exact wD s (t:=5) rfl (fun _ _ h=>zSQ h)
theorem zLP: ∀M,M<=40000->zTF M:=by
 intro M
 induction M using Nat.strongRecOn with
 |_ M ih=>
  intro hM mb W u v x y hx hy hmb
  obtain ⟨n,hx,hn⟩:=hx
  obtain ⟨n',hy,hn'⟩:=hy
  exact zLO hx hy hmb rfl rfl oH fun h0=>ih _ oH oH
theorem zOe (M:Nat) (hM:M<=40000):zVZ M:=fun mb A n c l A' n' c' l' w h h' ht ht' hn hn' hmb=>
 (zLP M hM mb w _ _ _ _ ⟨n,⟨A,c,l,rfl,h,ht,rfl⟩,hn⟩ ⟨n',⟨A',c',l',rfl,h',ht',rfl⟩,hn'⟩ hmb).mono fun e w' ⟨v,h1,⟨A1,n1,c1,l1,h2,h3,h4⟩,h5⟩=>⟨A1,n1,c1,l1,by rw [h1,h2],h3,h4,h5⟩
end Go.Proofs.Wd
