/- prod.Mul's inner function: Karatsuba and what it needs. -/
import Derived.Test.YthegekeodchhiaaGreatDoorMLR9
import Derived.Test.YthegekeodchhiaaGreatDoorMLR6
theorem kC {P:Prop} (h:P:=by kernel_rfl):P:=h
theorem oH {P:Prop} (h:P:=by omega):P:=h
abbrev fX:=@Go.wpIn_seq
abbrev fY:=@Nat.pow_le_pow_right
abbrev fZ:=@Nat.pow_add
abbrev WT:=Go.World
abbrev WU:=Go.Value
namespace Go.Proofs.Wd
open Tryz
set_option maxRecDepth 100000
set_option maxHeartbeats 1000000
open Go.RowKit Lb
def LX (n x:Nat) (v:WU) (W:WT):Prop:= ∃A c l,v= .slice A n c/\Rd W A n c l/\Lt l/\val l=x
def fLX (n x:Nat):UF:= .mk' (LX n x) fun _ _ _ ⟨A,c,l,e,h1,h2,h3⟩ k=>⟨A,c,l,e,h1.keepU k,h2,h3⟩
def zEh (x:Nat):UF:= .mk' (fun v w=>y7 w v x) fun _ _ _ ⟨A,n,c,l,e,h1,h2⟩ k=>⟨A,n,c,l,e,h1,h2.keepU k⟩
def LY (m x:Nat) (v:WU) (W:WT):Prop:= ∃n,LX n x v W/\n<=m
def fLY (m x:Nat):UF:= .mk' (LY m x) fun _ _ _ ⟨n,h,h1⟩ k=>⟨n,(fLX n x).us _ _ _ h k,h1⟩
theorem LX.lt {n x:Nat} {v:WU} {W:WT} (h:LX n x v W):x<BB^n:=by
 obtain ⟨A,c,l,e,h1,h2,rfl⟩:=h
 rw [<-h1.len]
 exact qT h2
theorem wP {n m x:Nat} {v:WU} {W:WT} (h:LX n x v W) (hn:n<=m):LY m x v W:=⟨n,h,hn⟩
theorem zGn {m x:Nat} {v:WU} {W:WT} (h:y7 W v x) (hx:x<BB^m):LY m x v W:=by
 obtain ⟨A,n,c,l,rfl,h1,h2⟩:=h
 exact ⟨n,⟨A,c,l,rfl,h2,h1.lt,h1.val⟩,by rw [<-h2.len];exact h1.len hx⟩
def wO (xs:List Nat):SF:=⟨fun v W=> ∃A ls,v= .slice A xs.length xs.length/\Rds W A xs.length ls/\ls.map val=xs,fun _ _ _ ⟨A,ls,h1,h2,h3⟩ hb=>⟨A,ls,h1,h2.below hb,h3⟩⟩
theorem zT4 {W:WT} {x:Nat} {e:Ending} {W':WT} (h:jH W x e W'):Ret W (zEh x).tS e W':=by
 obtain ⟨A,n,c,l,rfl,h1,h2,h3⟩:=h
 exact ⟨_,rfl,⟨A,n,c,l,rfl,h1,h2⟩,h3⟩
theorem zOY {W:WT} {u v:WU} {m x y:Nat} (h:LY m x u W) (h':LY m y v W) (hm:m<=100000):Calls prog 120 #[u,v] W (Ret W (zEh (x*y)).tS):=by
 obtain ⟨n,⟨A,c,l,rfl,h1,h2,rfl⟩,hn⟩:=h
 obtain ⟨n',⟨A',c',l',rfl,h1',h2',rfl⟩,hn'⟩:=h'
 exact (zMc A n c l A' n' c' l' W h1 h1' h2 h2' oH oH).mono fun e W' he=>zT4 he
theorem zJP {W:WT} {u:WU} {xs:List Nat} (h:(wO xs).p u W) (hn:xs.length<=1000):Calls prog 122 #[u] W (Ret W (zEh xs.sum).tS):=by
 obtain ⟨A,ls,rfl,h1,rfl⟩:=h
 exact (zNk A _ _ ls W h1 hn).mono fun e W' he=>zT4 he
theorem zRC {W:WT} {u v:WU} {m x y:Nat} (h:LY m x u W) (h':LY m y v W) (hm:m<=1000000) (hyx:y<=x):Calls prog 121 #[u,v] W (Ret W (zEh (x - y)).tS):=by
 obtain ⟨n,⟨A,c,l,rfl,h1,h2,rfl⟩,hn⟩:=h
 obtain ⟨n',⟨A',c',l',rfl,h1',h2',rfl⟩,hn'⟩:=h'
 exact (zMb A n c A' n' c' W _ (zId A n c l A' n' c' l' W h1 h1' h2 h2' hyx oH oH)).mono fun e W' he=>zT4 he
theorem zJQ {W:WT} {u v:WU} {m x k:Nat} (h:LY m x u W) (hv:v= .int .i64 (k:Int)) (hm:m<=100000) (hk:k<=100000):Calls prog 123 #[u,v] W (Ret W (fLY (k+m) (BB^k*x)).tS):=by
 obtain ⟨n,⟨A,c,l,rfl,h1,h2,rfl⟩,hn⟩:=h
 subst hv
 refine (zNn A n c l k W h1 oH hk).mono fun e W' he=> ?_
 obtain ⟨A',n',c',rfl,h3,h4⟩:=he
 refine ⟨_,rfl,⟨n',⟨A',c',_,rfl,h3,zH3 (jX k) h2,zLa k l⟩, ?_⟩,h4⟩
 rw [<-h3.len,List.length_append,List.length_replicate,h1.len]
 omega
theorem zTZ (A A':Option Addr) (n c n' c':Nat):yA prog 159 2 [(0, .slice A n c),(1, .slice A' n' c')]=some (23,#[.slice A n c, .slice A' n' c']):=by kernel_rfl
theorem zTY (A A' A'':Option Addr) (n c n' c' n'' c'':Nat):yA prog 159 3 [(0, .slice A n c),(1, .slice A' n' c'),(2, .slice A'' n'' c'')]=some (23,#[.slice A n c, .slice A' n' c', .slice A'' n'' c'']):=by kernel_rfl
theorem zLl {u v:WU} {W:WT} {m x y:Nat} (h:LY m x u W) (h':LY m y v W) (hm:m<=1000000): ∃e cs,yA prog 159 2 [(0,u),(1,v)]=some (e,cs)/\(wO [x,y]).p (.slice (some ⟨W.heap.size,0,none⟩) 2 2) (W.alloc (.cells cs e)):=by
 obtain ⟨n,⟨A,c,l,rfl,h1,h2,rfl⟩,hn⟩:=h
 obtain ⟨n',⟨A',c',l',rfl,h1',h2',rfl⟩,hn'⟩:=h'
 exact ⟨_,_,zTZ A A' n c n' c',_,_,rfl,Rds.two h1 h2 oH h1' h2' oH _,rfl⟩
theorem zR9 {u v q:WU} {W:WT} {m x y z:Nat} (h:LY m x u W) (h':LY m y v W) (h'':LY m z q W) (hm:m<=1000000): ∃e cs,yA prog 159 3 [(0,u),(1,v),(2,q)]=some (e,cs)/\(wO [x,y,z]).p (.slice (some ⟨W.heap.size,0,none⟩) 3 3) (W.alloc (.cells cs e)):=by
 obtain ⟨n,⟨A,c,l,rfl,h1,h2,rfl⟩,hn⟩:=h
 obtain ⟨n',⟨A',c',l',rfl,h1',h2',rfl⟩,hn'⟩:=h'
 obtain ⟨n'',⟨A'',c'',l'',rfl,h1'',h2'',rfl⟩,hn''⟩:=h''
 exact ⟨_,_,zTY A A' A'' n c n' c' n'' c'',_,_,rfl,vP h1 h2 oH h1' h2' oH h1'' h2'' oH _,rfl⟩
theorem zK9 {l:List Nat} (ht:Lt l) {k:Nat} (hk:k<=l.length):val (l.take k)=val l % BB^k/\val (l.drop k)=val l / BB^k:=by
 have h1:=qT (zBF ht k)
 rw [List.length_take,Nat.min_eq_left hk] at h1
 rw [jY l k hk]
 exact ⟨by rw [Nat.add_mul_mod_self_left,Nat.mod_eq_of_lt h1],by rw [Nat.add_mul_div_left _ _ (Nat.pow_pos y4),Nat.div_eq_of_lt h1,Nat.zero_add]⟩
theorem zSc (A:Option Addr) (n c k:Nat) (hk:k<=c) (w:WT):(Instr.sliceAt 23 (.slice A n c) none (some (.int .i64 (k:Int))) none).run prog w= .ok (.slice A k c) w:=by
 obtain ⟨i,hi,hz,hs,hb⟩:=info_parts yZ
 simp [Instr.sliceAt,Instr.slice,Instr.sliceBounds,run_underlying yJ,sizeOf,typeInfo,hi,go_sem,hk]
theorem zN0 (A:Option Addr) (n c k:Nat) (hk:k<=n) (w:WT):(Instr.sliceAt 23 (.slice A n c) (some (.int .i64 (k:Int))) none none).run prog w= .ok (.slice (if c=k then A else A.map (·.add k)) (n - k) (c - k)) w:=by
 obtain ⟨i,hi,hz,hs,hb⟩:=info_parts yZ
 simp [Instr.sliceAt,Instr.slice,Instr.sliceBounds,run_underlying yJ,sizeOf,typeInfo,hi,hs,go_sem,hk]
section
variable {F:Fence} {m:Nat} {w0:WT} {ops:Array Oper} {G:Nat->SF} {d:Tmp} {ty:TypeId} {pos:String} {aft:Array Edge}
theorem zOI {x hi:Operand} {n k y:Nat} (hk:k<=n) (hx: ∀v W,(fct G x).p v W->LX n y v W) (hh: ∀v W,(fct G hi).p v W->v= .int .i64 (k:Int)) (hd: ∀v W,LX k (y % BB^k) v W->(G d).p v W:=by exact fun _ _ h=>h):qX F m prog w0 ops G ⟨some d, .slice 23 x none (some hi) none,ty,pos,aft,none⟩:=
 jG (fun _ e=>by cases e) (fun _ e=>by cases e) fun b W hb hp=>by
  obtain ⟨A,c,l,e,h1,h2,rfl⟩:=hx _ _ (hp x (by simp [Op.operands]))
  have e2:=hh _ _ (hp hi (by simp [Op.operands]))
  have hc:=h1.le
  refine ⟨_,by simp [execOp,e,e2,zSc A n c k oH],hd _ _ ⟨A,c,l.take k,rfl,h1.take hk oH (Nat.le_refl _),zBF h2 k,(zK9 h2 (by rw [h1.len];exact hk)).1⟩⟩
theorem zGk {x lo:Operand} {n k y:Nat} (hk:k<=n) (hx: ∀v W,(fct G x).p v W->LX n y v W) (hh: ∀v W,(fct G lo).p v W->v= .int .i64 (k:Int)) (hd: ∀v W,LX (n - k) (y / BB^k) v W->(G d).p v W:=by exact fun _ _ h=>h):qX F m prog w0 ops G ⟨some d, .slice 23 x (some lo) none none,ty,pos,aft,none⟩:=
 jG (fun _ e=>by cases e) (fun _ e=>by cases e) fun b W hb hp=>by
  obtain ⟨A,c,l,e,h1,h2,rfl⟩:=hx _ _ (hp x (by simp [Op.operands]))
  have e2:=hh _ _ (hp lo (by simp [Op.operands]))
  refine ⟨_,by simp [execOp,e,e2,zN0 A n c k hk],hd _ _ ⟨_,c - k,l.drop k,rfl,h1.drop hk,zGN h2 k,(zK9 h2 (by rw [h1.len];exact hk)).2⟩⟩
theorem zGj {P:Program} {t:TypeId} {x:Operand} {n y:Nat} (ht:P.underlying t=some (.slice (P.elem t))) (hx: ∀v W,(fct G x).p v W->LX n y v W) (hd: ∀W,(G d).p (.int .i64 (n:Int)) W:=by exact fun _=>rfl):qX F m P w0 ops G ⟨some d, .call ⟨.builtin .len,#[x],#[t]⟩,ty,pos,aft,none⟩:=by
 intro b W K Q hb hr hK
 obtain ⟨A,c,l,e,_⟩:=hx _ _ (qK hr (x:=x) (by simp [Op.operands,Call.operands]))
 refine ⟨fun f hf=>(by
  unfold Oper.about at hf
  simp [resolve,go_sem] at hf), ?_⟩
 rw [Oper.semAt_eq _ _ _ (fun _ e=>by cases e)]
 have:(execOp b.eval ⟨some d, .call ⟨.builtin .len,#[x],#[t]⟩,ty,pos,aft,none⟩).run P W= .ok (.value (.int .i64 (n:Int))) W:=by
  simp [execOp,resolve,invoke,builtin,e,run_len_slice _ _ _ _ _ _ ht,goInt]
 rw [this]
 exact hK _ _ (fun d' e=>by cases e;exact hd W) (Below.refl _ _)
theorem zDd {bi:Builtin} {x y:Operand} {ats:Array TypeId} (u v r:WU) (hx: ∀q W,(fct G x).p q W->q=u) (hy: ∀q W,(fct G y).p q W->q=v) (hr: ∀cs W,(builtin bi ats ty cs #[u,v]).run prog W= .ok (.value r) W) (hd: ∀W,(G d).p r W:=by exact fun _=>rfl):qX F m prog w0 ops G ⟨some d, .call ⟨.builtin bi,#[x,y],ats⟩,ty,pos,aft,none⟩:=by
 intro b W K Q hb hp hK
 have e1:=hx _ _ (qK hp (x:=x) (by simp [Op.operands,Call.operands]))
 have e2:=hy _ _ (qK hp (x:=y) (by simp [Op.operands,Call.operands]))
 refine ⟨fun f hf=>(by
  unfold Oper.about at hf
  simp [resolve,go_sem] at hf), ?_⟩
 rw [Oper.semAt_eq _ _ _ (fun _ e=>by cases e)]
 have:(execOp b.eval ⟨some d, .call ⟨.builtin bi,#[x,y],ats⟩,ty,pos,aft,none⟩).run prog W= .ok (.value r) W:=by
  simp [execOp,resolve,invoke,e1,e2,hr]
 rw [this]
 exact hK _ _ (fun d' e=>by cases e;exact hd W) (Below.refl _ _)
theorem zFc {y x1 x2:Operand} {g:FuncId} {z:WU} {P:Program} {ats:Array TypeId} (hF:zIU F m P) (he:Enters P g) (hy: ∀v W,(fct G y).p v W->v= .func (.func g) #[] #[z])
  (h: ∀u v W,Below w0.heap.size w0 W->(fct G x1).p u W->(fct G x2).p v W->Calls P g #[u,v,z] W (Ret W (G d))):qX F m P w0 ops G ⟨some d, .call ⟨.value y,#[x1,x2],ats⟩,ty,pos,aft,none⟩:=by
 intro b W K Q hb hr hK
 have h0:=hy _ _ (qK hr (x:=y) (by simp [Op.operands,Call.operands]))
 have h1:=h _ _ W hb (qK hr (x:=x1) (by simp [Op.operands,Call.operands])) (qK hr (x:=x2) (by simp [Op.operands,Call.operands]))
 refine ⟨fun g _=>hF.1 g, ?_⟩
 rw [Oper.semAt_eq _ _ _ (fun _ e=>by cases e)]
 have hx:(execOp b.eval ⟨some d, .call ⟨.value y,#[x1,x2],ats⟩,ty,pos,aft,none⟩).run P W= .ok (.enter g #[b.eval x1,b.eval x2,z]) W:=by
  simp only [execOp,resolve,h0]
  simp [invoke,Deferred.ofValue]
  exact he _ _
 rw [hx]
 simp only [Oper.uponIn_enter]
 refine ⟨hF.2.1,CallsIn.mono (hF.2.2 _ _ _ (Ret W (G d)) h1) fun e W' hh=> ?_⟩
 obtain ⟨v,rfl,h2,h3⟩:=hh
 exact hK _ _ (fun d' e=>by cases e;exact h2) h3
end
def CU.one (v:WU):CU:=⟨fun cs _=>cs= [v],fun _ _ _ h _=>h⟩
theorem zME {v:WU} (cs:List WU) (W:WT) (h:(CU.one v).p cs W): ∃u,cs[0]?=some u/\u=v:=by
 obtain rfl:cs= [v]:=h
 exact ⟨v,rfl,rfl⟩
theorem zGs {mb:Nat} {w W:WT} (h:w.cell? ⟨mb,0,none⟩=some (zBP mb)) (hb:Below w.heap.size w W):W.cell? ⟨mb,0,none⟩=some (zBP mb):=(hb.cell (p:=⟨mb,0,none⟩) (World.block_lt_of_cell? w _ h)).trans h
def zTO (N:Nat):Prop:= ∀(mb:Nat) (W:WT) (u v:WU) (x y:Nat),LY N x u W->LY N y v W->W.cell? ⟨mb,0,none⟩=some (zBP mb)->Calls prog 119 #[u,v,pO mb 0] W (Ret W (zEh (x*y)).tS)
theorem hsum {M x y:Nat} (hM:2<=M) {a b:Nat} (hx:x<BB^a) (hy:y<BB^b) (ha:a<=M - 2) (hb:b<=M - 2):x+y<BB^(M - 1):=by
 have u1:BB^a<=BB^(M - 2):=fY y4 ha
 have u2:BB^b<=BB^(M - 2):=fY y4 hb
 have u3:BB^(M - 2)*2<=BB^(M - 2)*BB:=Nat.mul_le_mul_left _ (by unfold BB;omega)
 have u4:BB^(M - 1)=BB^(M - 2)*BB:=by rw [<-Nat.pow_succ];congr 1;omega
 omega
theorem zAh {F:Fence} {m:Nat} {P:Program} {w0:WT} {ops:Array Oper} {G:Nat->SF} {o:Oper} {l:List Oper} (h:qX F m P w0 ops G o) (k:Obs F m P w0 ops G l):Obs F m P w0 ops G (o::l):=⟨h,k⟩
theorem zRg {F:Fence} {m:Nat} {P:Program} {w0:WT} {ops:Array Oper} {G:Nat->SF}:Obs F m P w0 ops G []:=trivial
theorem zQd (k:Nat) (hk:k<=40000):IntKind.i64.wrap (2*(k:Int))=2*(k:Int):=by
 rw [IntKind.wrap_i64]
 omega
theorem zLs {ats:Array TypeId} {ty:TypeId} (a b r:Nat) (h:max a b=r) (cs:Array Bool) (W:WT):(builtin .max ats ty cs #[.int .i64 (a:Int), .int .i64 (b:Int)]).run prog W= .ok (.value (.int .i64 (r:Int))) W:=by
 subst h
 simp [Builtin.max_,Builtin.max2,go_sem]
 omega
theorem zQD {ats:Array TypeId} {ty:TypeId} (a b r:Nat) (h:min a b=r) (cs:Array Bool) (W:WT):(builtin .min ats ty cs #[.int .i64 (a:Int), .int .i64 (b:Int)]).run prog W= .ok (.value (.int .i64 (r:Int))) W:=by
 subst h
 simp [Builtin.min_,Builtin.min2,go_sem]
 omega
theorem zCC {x y a b M:Nat} (hx:x<BB^a) (hy:y<BB^b) (h:a+b<=M):x*y<BB^M:=by
 refine Nat.lt_of_lt_of_le ?_ (fY y4 h)
 rw [fZ]
 exact Nat.mul_lt_mul_of_lt_of_lt hx hy
theorem LY.mono {m m' x:Nat} {v:WU} {W:WT} (h:LY m x v W) (hm:m<=m'):LY m' x v W:=by
 obtain ⟨n,h1,h2⟩:=h
 exact ⟨n,h1,Nat.le_trans h2 hm⟩
theorem zKd {P:Program} {f:FuncId} {args:Array WU} {W:WT} {x y:Nat} (h:Calls P f args W (Ret W (zEh x).tS)) (e:x=y):Calls P f args W (Ret W (zEh y).tS):=e▸h
theorem zNm {P:Program} {f:FuncId} {args:Array WU} {W:WT} {m m' x:Nat} (h:Calls P f args W (Ret W (fLY m x).tS)) (e:m<=m'):Calls P f args W (Ret W (fLY m' x).tS):=h.mono fun _ _ ⟨v,h1,h2,h3⟩=>⟨v,h1,LY.mono h2 e,h3⟩
theorem zSU {x y k:Nat} {v:WU} {W:WT} (h:y7 W v (((x % BB^k)*(y % BB^k))+(BB^k*(((x % BB^k)+(x / BB^k))*((y % BB^k)+(y / BB^k)) - ((x % BB^k)*(y % BB^k)+(x / BB^k)*(y / BB^k))))+(BB^(2*k)*((x / BB^k)*(y / BB^k))))):y7 W v (x*y):=by
 have e1:=Nat.mod_add_div x (BB^k)
 have e2:=Nat.mod_add_div y (BB^k)
 have e3:=zVz (x % BB^k) (x / BB^k) (y % BB^k) (y / BB^k) (BB^k)
 rw [e1,e2] at e3
 rw [e3, <-fZ, <-Nat.two_mul]
 exact h
theorem zMF {W:WT} {u v:WU} {mb n n' x y M k:Nat} (hx:LX n x u W) (hy:LX n' y v W) (hmb:W.cell? ⟨mb,0,none⟩=some (zBP mb)) (hM:max n n'=M) (hk:M / 2=k) (hM4:M<=40000) (ih:0<M->zTO (M - 1)):Calls prog 119 #[u,v,pO mb 0] W (Ret W (zEh (x*y)).tS):=by
 have hmix:prog.follows .mixedOrders=true:=by kernel_rfl
 have hdv:(M:Int).tdiv 2=(k:Int):=by rw [Int.tdiv_eq_ediv_of_nonneg oH];omega
 refine z9 [(fLX n x).tS,(fLX n' y).tS,wB (CU.one (zBP mb)).cf] func119 rfl kC ⟨hx,hy,⟨mb,0, [zBP mb],rfl,rfl,fun j u hj=>(by match j with|0=>(cases hj;exact hmb)|j+1=>simp at hj)⟩,trivial⟩ fun a s=> ?_
 refine fX ?_
 refine zC 1 ((5, .u (UF.eq (.slice none 0 0))):: []) hmix s kC
  (zAh zF<|zRg) fun a w1 s=> ?_
 refine zA rfl ?_
 refine fX ?_
 refine zC 7 ((10, .Z (fLX n x))::(11, .Z (uI (n:Int)))::(12, .Z (fLX n' y))::(13, .Z (uI (n':Int)))::(14, .Z (uI (M:Int)))::(15, .Z (uI (k:Int)))::(6, .u (uI (k:Int))):: []) hmix s kC
  (zAh zB<|
  zAh (zGj kC (fun _ _ h=>h))<|
  zAh zB<|
  zAh (zGj kC (fun _ _ h=>h))<|
  zAh (zDd (.int .i64 (n:Int)) (.int .i64 (n':Int)) (.int .i64 (M:Int)) (fun _ _ h=>h) (fun _ _ h=>h) (zLs _ _ _ hM))<|
  zAh (zAC (.int .i64 (M:Int)) (.int .i64 2) (.int .i64 (k:Int)) (fun _ _ h=>h) (fun _ _ h=>h) (fun W=>by simp [eqGuard]) (fun W=>by simp [binOp,hdv,go_sem];rw [IntKind.wrap_i64];omega) (fun _=>rfl))<|
  zAh zF<|zRg) fun a w2 s=> ?_
 refine zA rfl ?_
 refine fX ?_
 refine fX ?_
 refine zC 8 ((16, .Z (fLX n x))::(17, .Z (uI (n:Int)))::(18, .Z (fLX n' y))::(19, .Z (uI (n':Int)))::(20, .Z (uI ((min n n':Nat):Int)))::(21, .Z (uI (k:Int)))::(22, .Z (uI ((max k 12:Nat):Int)))::(23, .u (uB (decide (min n n'<=max k 12)))):: []) hmix s kC
  (zAh zB<|
  zAh (zGj kC (fun _ _ h=>h))<|
  zAh zB<|
  zAh (zGj kC (fun _ _ h=>h))<|
  zAh (zDd (.int .i64 (n:Int)) (.int .i64 (n':Int)) (.int .i64 ((min n n':Nat):Int)) (fun _ _ h=>h) (fun _ _ h=>h) (zQD _ _ _ rfl))<|
  zAh zB<|
  zAh (zDd (.int .i64 (k:Int)) (.int .i64 12) (.int .i64 ((max k 12:Nat):Int)) (fun _ _ h=>h) (fun _ _ h=>h) (zLs _ _ _ rfl))<|
  zAh (zAC (.int .i64 ((min n n':Nat):Int)) (.int .i64 ((max k 12:Nat):Int)) (.bool (decide (min n n'<=max k 12))) (fun _ _ h=>h) (fun _ _ h=>h) (fun W=>by simp [eqGuard]) (fun W=>by simp [binOp,Op.intCmp]) (fun _=>rfl))<|zRg) fun a w3 s=> ?_
 refine zA rfl ?_
 refine StS.cond s (decide (min n n'<=max k 12)) (fun _ _ h=>h) (fun e=> ?_) (fun e=> ?_)
 ·refine fX ?_
  replace s:=s.drop [5]
  refine zC 4 ((24, .Z (fLX n x))::(25, .Z (fLX n' y))::(26, .Z (zEh (x*y)))::(5, .u (zEh (x*y))):: []) hmix s kC
   (zAh zB<|
   zAh zB<|
   zAh (zJ zE zTo (fun u0 u1 W hb (h0:LX n x u0 W) (h1:LX n' y u1 W)=>zOY (wP (m:=40000) h0 oH) (wP (m:=40000) h1 oH) oH))<|
   zAh zF<|zRg) fun a w4 s=> ?_
  refine zA rfl ?_
  refine wpIn_ret ?_
  first|exact wJ s (t:=5) rfl (fun _ _ h=>h)|exact wJ s (t:=5) rfl (fun _ _ h=>zSU h)
 ·have hc:=of_decide_eq_false e
  have hkn:k<n:=by omega
  have hkn':k<n':=by omega
  have hk2:k<=M - 2:=by omega
  have hk3:n - k<=M - 2:=by omega
  have hk4:n' - k<=M - 2:=by omega
  have hP:0<BB^k:=Nat.pow_pos y4
  have bxl:x % BB^k<BB^k:=Nat.mod_lt _ hP
  have byl:y % BB^k<BB^k:=Nat.mod_lt _ hP
  have bxh:x / BB^k<BB^(n - k):=by rw [Nat.div_lt_iff_lt_mul hP, <-fZ,Nat.sub_add_cancel oH];exact hx.lt
  have byh:y / BB^k<BB^(n' - k):=by rw [Nat.div_lt_iff_lt_mul hP, <-fZ,Nat.sub_add_cancel oH];exact hy.lt
  have bsx:=hsum (M:=M) oH bxl bxh hk2 hk3
  have bsy:=hsum (M:=M) oH byl byh hk2 hk4
  obtain ⟨N5,hN5⟩: ∃N:Nat,N=100000:=⟨_,rfl⟩
  obtain ⟨N6,hN6⟩: ∃N:Nat,N=300000:=⟨_,rfl⟩
  have bll:x % BB^k*(y % BB^k)+x / BB^k*(y / BB^k)<BB^N5:=by
   have h1:=zCC (M:=N5 - 2) bxl byl oH
   have h2:=zCC (M:=N5 - 2) bxh byh oH
   exact Nat.lt_of_lt_of_le (hsum (M:=N5) oH h1 h2 oH oH) (fY y4 oH)
  refine wpIn_skip ?_
  refine fX ?_
  refine zC 18 ((27, .Z (UF.eq (zBP mb)))::(28, .Z (fLX n x))::(29, .Z (uI (k:Int)))::(30, .Z (fLX k (x % BB^k)))::(31, .Z (fLX n' y))::(32, .Z (uI (k:Int)))::(33, .Z (fLX k (y % BB^k)))::(34, .Z (zEh ((x % BB^k)*(y % BB^k))))::(35, .Z (UF.eq (zBP mb)))::(36, .Z (fLX n x))::(37, .Z (uI (k:Int)))::(38, .Z (fLX (n - k) (x / BB^k)))::(39, .Z (fLX n' y))::(40, .Z (uI (k:Int)))::(41, .Z (fLX (n' - k) (y / BB^k)))::(42, .Z (zEh ((x / BB^k)*(y / BB^k))))::(7, .u (zEh ((x % BB^k)*(y % BB^k))))::(8, .u (zEh ((x / BB^k)*(y / BB^k)))):: []) hmix s kC
   (zAh (jS (C:=(CU.one (zBP mb)).cf) kC (fun _ _ h=>h) zME)<|
   zAh zB<|
   zAh zB<|
   zAh (zOI (k:=k) oH (fun _ _ h=>h) (fun _ _ h=>h))<|
   zAh zB<|
   zAh zB<|
   zAh (zOI (k:=k) oH (fun _ _ h=>h) (fun _ _ h=>h))<|
   zAh (zFc zE zM4 (fun _ _ h=>h) (fun u0 u1 W hb (h0:LX k (x % BB^k) u0 W) (h1:LX k (y % BB^k) u1 W)=>ih oH mb W u0 u1 _ _ (wP (m:=M - 1) h0 oH) (wP (m:=M - 1) h1 oH) (zGs hmb (s.up hb))))<|
   zAh (jS (C:=(CU.one (zBP mb)).cf) kC (fun _ _ h=>h) zME)<|
   zAh zB<|
   zAh zB<|
   zAh (zGk (k:=k) oH (fun _ _ h=>h) (fun _ _ h=>h))<|
   zAh zB<|
   zAh zB<|
   zAh (zGk (k:=k) oH (fun _ _ h=>h) (fun _ _ h=>h))<|
   zAh (zFc zE zM4 (fun _ _ h=>h) (fun u0 u1 W hb (h0:LX (n - k) (x / BB^k) u0 W) (h1:LX (n' - k) (y / BB^k) u1 W)=>ih oH mb W u0 u1 _ _ (wP (m:=M - 1) h0 oH) (wP (m:=M - 1) h1 oH) (zGs hmb (s.up hb))))<|
   zAh zF<|
   zAh zF<|zRg) fun a w5 s=> ?_
  refine zA rfl ?_
  refine fX ?_
  refine zC 24 ((43, .Z (UF.eq (zBP mb)))::(44, .Z (fLX n x))::(45, .Z (uI (k:Int)))::(46, .Z (fLX k (x % BB^k)))::(47, .Z (fLX n x))::(48, .Z (uI (k:Int)))::(49, .Z (fLX (n - k) (x / BB^k)))::(50, .s (wO [x % BB^k,x / BB^k]))::(51, .Z (zEh ((x % BB^k)+(x / BB^k))))::(52, .Z (fLX n' y))::(53, .Z (uI (k:Int)))::(54, .Z (fLX k (y % BB^k)))::(55, .Z (fLX n' y))::(56, .Z (uI (k:Int)))::(57, .Z (fLX (n' - k) (y / BB^k)))::(58, .s (wO [y % BB^k,y / BB^k]))::(59, .Z (zEh ((y % BB^k)+(y / BB^k))))::(60, .Z (zEh (((x % BB^k)+(x / BB^k))*((y % BB^k)+(y / BB^k)))))::(61, .Z (zEh ((x % BB^k)*(y % BB^k))))::(62, .Z (zEh ((x / BB^k)*(y / BB^k))))::(63, .s (wO [(x % BB^k)*(y % BB^k),(x / BB^k)*(y / BB^k)]))::(64, .Z (zEh (((x % BB^k)*(y % BB^k))+((x / BB^k)*(y / BB^k)))))::(65, .Z (zEh ((((x % BB^k)+(x / BB^k))*((y % BB^k)+(y / BB^k))) - (((x % BB^k)*(y % BB^k))+((x / BB^k)*(y / BB^k))))))::(9, .u (zEh ((((x % BB^k)+(x / BB^k))*((y % BB^k)+(y / BB^k))) - (((x % BB^k)*(y % BB^k))+((x / BB^k)*(y / BB^k)))))):: []) hmix s kC
   (zAh (jS (C:=(CU.one (zBP mb)).cf) kC (fun _ _ h=>h) zME)<|
   zAh zB<|
   zAh zB<|
   zAh (zOI (k:=k) oH (fun _ _ h=>h) (fun _ _ h=>h))<|
   zAh zB<|
   zAh zB<|
   zAh (zGk (k:=k) oH (fun _ _ h=>h) (fun _ _ h=>h))<|
   zAh (yK (fun u v W (hu:LX k (x % BB^k) u W) (hv:LX (n - k) (x / BB^k) v W)=>zLl (wP (m:=N6) hu oH) (wP (m:=N6) hv oH) oH))<|
   zAh (zH zE zJY (fun u0 W hb (h0:(wO [x % BB^k,x / BB^k]).p u0 W)=>zKd (zJP h0 (by simp)) (by simp)))<|
   zAh zB<|
   zAh zB<|
   zAh (zOI (k:=k) oH (fun _ _ h=>h) (fun _ _ h=>h))<|
   zAh zB<|
   zAh zB<|
   zAh (zGk (k:=k) oH (fun _ _ h=>h) (fun _ _ h=>h))<|
   zAh (yK (fun u v W (hu:LX k (y % BB^k) u W) (hv:LX (n' - k) (y / BB^k) v W)=>zLl (wP (m:=N6) hu oH) (wP (m:=N6) hv oH) oH))<|
   zAh (zH zE zJY (fun u0 W hb (h0:(wO [y % BB^k,y / BB^k]).p u0 W)=>zKd (zJP h0 (by simp)) (by simp)))<|
   zAh (zFc zE zM4 (fun _ _ h=>h) (fun u0 u1 W hb (h0:y7 W u0 ((x % BB^k)+(x / BB^k))) (h1:y7 W u1 ((y % BB^k)+(y / BB^k)))=>ih oH mb W u0 u1 _ _ (zGn (m:=M - 1) h0 bsx) (zGn (m:=M - 1) h1 bsy) (zGs hmb (s.up hb))))<|
   zAh zB<|
   zAh zB<|
   zAh (yK (fun u v W (hu:y7 W u ((x % BB^k)*(y % BB^k))) (hv:y7 W v ((x / BB^k)*(y / BB^k)))=>zLl (zGn (m:=N6) hu (zCC (M:=N6) bxl byl oH)) (zGn (m:=N6) hv (zCC (M:=N6) bxh byh oH)) oH))<|
   zAh (zH zE zJY (fun u0 W hb (h0:(wO [(x % BB^k)*(y % BB^k),(x / BB^k)*(y / BB^k)]).p u0 W)=>zKd (zJP h0 (by simp)) (by simp)))<|
   zAh (zJ zE zTn (fun u0 u1 W hb (h0:y7 W u0 (((x % BB^k)+(x / BB^k))*((y % BB^k)+(y / BB^k)))) (h1:y7 W u1 (((x % BB^k)*(y % BB^k))+((x / BB^k)*(y / BB^k))))=>zRC (zGn (m:=N5) h0 (zCC (M:=N5) bsx bsy oH)) (zGn (m:=N5) h1 bll) oH (zRD _ _ _ _)))<|
   zAh zF<|zRg) fun a w6 s=> ?_
  refine zA rfl ?_
  refine fX ?_
  replace s:=s.drop [5]
  refine zC 11 ((66, .Z (zEh ((x % BB^k)*(y % BB^k))))::(67, .Z (zEh ((((x % BB^k)+(x / BB^k))*((y % BB^k)+(y / BB^k))) - (((x % BB^k)*(y % BB^k))+((x / BB^k)*(y / BB^k))))))::(68, .Z (uI (k:Int)))::(69, .Z (fLY 200000 (BB^(k)*((((x % BB^k)+(x / BB^k))*((y % BB^k)+(y / BB^k))) - (((x % BB^k)*(y % BB^k))+((x / BB^k)*(y / BB^k)))))))::(70, .Z (zEh ((x / BB^k)*(y / BB^k))))::(71, .Z (uI (k:Int)))::(72, .Z (uI ((2*k:Nat):Int)))::(73, .Z (fLY 200000 (BB^(2*k)*((x / BB^k)*(y / BB^k)))))::(74, .s (wO [(x % BB^k)*(y % BB^k),BB^(k)*((((x % BB^k)+(x / BB^k))*((y % BB^k)+(y / BB^k))) - (((x % BB^k)*(y % BB^k))+((x / BB^k)*(y / BB^k)))),BB^(2*k)*((x / BB^k)*(y / BB^k))]))::(75, .Z (zEh (((x % BB^k)*(y % BB^k))+(BB^(k)*((((x % BB^k)+(x / BB^k))*((y % BB^k)+(y / BB^k))) - (((x % BB^k)*(y % BB^k))+((x / BB^k)*(y / BB^k)))))+(BB^(2*k)*((x / BB^k)*(y / BB^k))))))::(5, .u (zEh (((x % BB^k)*(y % BB^k))+(BB^(k)*((((x % BB^k)+(x / BB^k))*((y % BB^k)+(y / BB^k))) - (((x % BB^k)*(y % BB^k))+((x / BB^k)*(y / BB^k)))))+(BB^(2*k)*((x / BB^k)*(y / BB^k)))))):: []) hmix s kC
   (zAh zB<|
   zAh zB<|
   zAh zB<|
   zAh (zJ zE zPW (fun u0 u1 W hb (h0:y7 W u0 ((((x % BB^k)+(x / BB^k))*((y % BB^k)+(y / BB^k))) - (((x % BB^k)*(y % BB^k))+((x / BB^k)*(y / BB^k))))) (h1:u1= .int .i64 (k:Int))=>zNm (zJQ (k:=k) (zGn (m:=N5) h0 (Nat.lt_of_le_of_lt (Nat.sub_le _ _) (zCC (M:=N5) bsx bsy oH))) h1 oH oH) oH))<|
   zAh zB<|
   zAh zB<|
   zAh (zAC (.int .i64 2) (.int .i64 (k:Int)) (.int .i64 ((2*k:Nat):Int)) (fun _ _ h=>h) (fun _ _ h=>h) (fun W=>by simp [eqGuard]) (fun W=>by simp [binOp,Op.intArith,zQd k oH]) (fun _=>rfl))<|
   zAh (zJ zE zPW (fun u0 u1 W hb (h0:y7 W u0 ((x / BB^k)*(y / BB^k))) (h1:u1= .int .i64 ((2*k:Nat):Int))=>zNm (zJQ (k:=2*k) (zGn (m:=N5) h0 (zCC (M:=N5) bxh byh oH)) h1 oH oH) oH))<|
   zAh (zMh (fun u v q W (hu:y7 W u ((x % BB^k)*(y % BB^k))) (hv:LY 200000 (BB^(k)*((((x % BB^k)+(x / BB^k))*((y % BB^k)+(y / BB^k))) - (((x % BB^k)*(y % BB^k))+((x / BB^k)*(y / BB^k))))) v W) (hq:LY 200000 (BB^(2*k)*((x / BB^k)*(y / BB^k))) q W)=>zR9 (zGn (m:=N6) hu (zCC (M:=N6) bxl byl oH)) (LY.mono hv (m':=N6) oH) (LY.mono hq (m':=N6) oH) oH))<|
   zAh (zH zE zJY (fun u0 W hb (h0:(wO [(x % BB^k)*(y % BB^k),BB^(k)*((((x % BB^k)+(x / BB^k))*((y % BB^k)+(y / BB^k))) - (((x % BB^k)*(y % BB^k))+((x / BB^k)*(y / BB^k)))),BB^(2*k)*((x / BB^k)*(y / BB^k))]).p u0 W)=>zKd (zJP h0 (by simp)) (by simp [Nat.add_assoc])))<|
   zAh zF<|zRg) fun a w7 s=> ?_
  refine zA rfl ?_
  refine wpIn_ret ?_
  first|exact wJ s (t:=5) rfl (fun _ _ h=>h)|exact wJ s (t:=5) rfl (fun _ _ h=>zSU h)
theorem zMG: ∀M,M<=40000->zTO M:=by
 intro M
 induction M using Nat.strongRecOn with
 |_ M ih=>
  intro hM mb W u v x y hx hy hmb
  obtain ⟨n,hx,hn⟩:=hx
  obtain ⟨n',hy,hn'⟩:=hy
  exact zMF hx hy hmb rfl rfl oH fun h0=>ih _ oH oH
theorem zOZ (M:Nat) (hM:M<=40000):zVI M:=fun mb A n c l A' n' c' l' w h h' ht ht' hn hn' hmb=>
 (zMG M hM mb w _ _ _ _ ⟨n,⟨A,c,l,rfl,h,ht,rfl⟩,hn⟩ ⟨n',⟨A',c',l',rfl,h',ht',rfl⟩,hn'⟩ hmb).mono fun e w' ⟨v,h1,⟨A1,n1,c1,l1,h2,h3,h4⟩,h5⟩=>⟨A1,n1,c1,l1,by rw [h1,h2],h3,h4,h5⟩
end Go.Proofs.Wd
