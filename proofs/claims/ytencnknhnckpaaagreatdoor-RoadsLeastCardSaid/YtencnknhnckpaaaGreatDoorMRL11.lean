/- prod.Mul's inner function: Karatsuba and what it needs. -/
import Derived.Test.YtencnknhnckpaaaGreatDoorMRL9
import Derived.Test.YtencnknhnckpaaaGreatDoorMRL6
theorem kC {P:Prop} (h:P:=by kernel_rfl):P:=h
theorem oH {P:Prop} (h:P:=by omega):P:=h
abbrev fK:=@Go.wpIn_seq
abbrev fL:=@Nat.pow_le_pow_right
abbrev fM:=@Nat.pow_add
abbrev WT:=Go.World
abbrev WU:=Go.Value
namespace Go.Proofs.Wd
open Tryz
set_option maxRecDepth 100000
set_option maxHeartbeats 1000000
open Go.RowKit Lb
def LX (n x:Nat) (v:WU) (W:WT):Prop:= ∃A c l,v= .slice A n c/\Rd W A n c l/\Lt l/\val l=x
def fLX (n x:Nat):UF:= .mk' (LX n x) fun _ _ _ ⟨A,c,l,e,h1,h2,h3⟩ k=>⟨A,c,l,e,h1.keepU k,h2,h3⟩
def zDs (x:Nat):UF:= .mk' (fun v w=>q7 w v x) fun _ _ _ ⟨A,n,c,l,e,h1,h2⟩ k=>⟨A,n,c,l,e,h1,h2.keepU k⟩
def LY (m x:Nat) (v:WU) (W:WT):Prop:= ∃n,LX n x v W/\n<=m
def fLY (m x:Nat):UF:= .mk' (LY m x) fun _ _ _ ⟨n,h,h1⟩ k=>⟨n,(fLX n x).us _ _ _ h k,h1⟩
theorem LX.lt {n x:Nat} {v:WU} {W:WT} (h:LX n x v W):x<BB^n:=by
 obtain ⟨A,c,l,e,h1,h2,rfl⟩:=h
 rw [<-h1.len]
 exact qH h2
theorem wO {n m x:Nat} {v:WU} {W:WT} (h:LX n x v W) (hn:n<=m):LY m x v W:=⟨n,h,hn⟩
theorem zFX {m x:Nat} {v:WU} {W:WT} (h:q7 W v x) (hx:x<BB^m):LY m x v W:=by
 obtain ⟨A,n,c,l,rfl,h1,h2⟩:=h
 exact ⟨n,⟨A,c,l,rfl,h2,h1.lt,h1.val⟩,by rw [<-h2.len];exact h1.len hx⟩
def wN (xs:List Nat):SF:=⟨fun v W=> ∃A ls,v= .slice A xs.length xs.length/\Rds W A xs.length ls/\ls.map val=xs,fun _ _ _ ⟨A,ls,h1,h2,h3⟩ hb=>⟨A,ls,h1,h2.below hb,h3⟩⟩
theorem zR1 {W:WT} {x:Nat} {e:Ending} {W':WT} (h:q8 W x e W'):Ret W (zDs x).tS e W':=by
 obtain ⟨A,n,c,l,rfl,h1,h2,h3⟩:=h
 exact ⟨_,rfl,⟨A,n,c,l,rfl,h1,h2⟩,h3⟩
theorem zNj {W:WT} {u v:WU} {m x y:Nat} (h:LY m x u W) (h':LY m y v W) (hm:m<=100000):Calls prog 94 #[u,v] W (Ret W (zDs (x*y)).tS):=by
 obtain ⟨n,⟨A,c,l,rfl,h1,h2,rfl⟩,hn⟩:=h
 obtain ⟨n',⟨A',c',l',rfl,h1',h2',rfl⟩,hn'⟩:=h'
 exact (zKR A n c l A' n' c' l' W h1 h1' h2 h2' oH oH).mono fun e W' he=>zR1 he
theorem zIU {W:WT} {u:WU} {xs:List Nat} (h:(wN xs).p u W) (hn:xs.length<=1000):Calls prog 96 #[u] W (Ret W (zDs xs.sum).tS):=by
 obtain ⟨A,ls,rfl,h1,rfl⟩:=h
 exact (zLY A _ _ ls W h1 hn).mono fun e W' he=>zR1 he
theorem zPK {W:WT} {u v:WU} {m x y:Nat} (h:LY m x u W) (h':LY m y v W) (hm:m<=1000000) (hyx:y<=x):Calls prog 95 #[u,v] W (Ret W (zDs (x - y)).tS):=by
 obtain ⟨n,⟨A,c,l,rfl,h1,h2,rfl⟩,hn⟩:=h
 obtain ⟨n',⟨A',c',l',rfl,h1',h2',rfl⟩,hn'⟩:=h'
 exact (zKQ A n c A' n' c' W _ (zHt A n c l A' n' c' l' W h1 h1' h2 h2' hyx oH oH)).mono fun e W' he=>zR1 he
theorem zIV {W:WT} {u v:WU} {m x k:Nat} (h:LY m x u W) (hv:v= .int .i64 (k:Int)) (hm:m<=100000) (hk:k<=100000):Calls prog 97 #[u,v] W (Ret W (fLY (k+m) (BB^k*x)).tS):=by
 obtain ⟨n,⟨A,c,l,rfl,h1,h2,rfl⟩,hn⟩:=h
 subst hv
 refine (zL1 A n c l k W h1 oH hk).mono fun e W' he=> ?_
 obtain ⟨A',n',c',rfl,h3,h4⟩:=he
 refine ⟨_,rfl,⟨n',⟨A',c',_,rfl,h3,zHj (jO k) h2,zJ2 k l⟩, ?_⟩,h4⟩
 rw [<-h3.len,List.length_append,List.length_replicate,h1.len]
 omega
theorem zRW (A A':Option Addr) (n c n' c':Nat):zV prog 150 2 [(0, .slice A n c),(1, .slice A' n' c')]=some (28,#[.slice A n c, .slice A' n' c']):=by kernel_rfl
theorem zRV (A A' A'':Option Addr) (n c n' c' n'' c'':Nat):zV prog 150 3 [(0, .slice A n c),(1, .slice A' n' c'),(2, .slice A'' n'' c'')]=some (28,#[.slice A n c, .slice A' n' c', .slice A'' n'' c'']):=by kernel_rfl
theorem zKc {u v:WU} {W:WT} {m x y:Nat} (h:LY m x u W) (h':LY m y v W) (hm:m<=1000000): ∃e cs,zV prog 150 2 [(0,u),(1,v)]=some (e,cs)/\(wN [x,y]).p (.slice (some ⟨W.heap.size,0,none⟩) 2 2) (W.alloc (.cells cs e)):=by
 obtain ⟨n,⟨A,c,l,rfl,h1,h2,rfl⟩,hn⟩:=h
 obtain ⟨n',⟨A',c',l',rfl,h1',h2',rfl⟩,hn'⟩:=h'
 exact ⟨_,_,zRW A A' n c n' c',_,_,rfl,Rds.two h1 h2 oH h1' h2' oH _,rfl⟩
theorem zQu {u v q:WU} {W:WT} {m x y z:Nat} (h:LY m x u W) (h':LY m y v W) (h'':LY m z q W) (hm:m<=1000000): ∃e cs,zV prog 150 3 [(0,u),(1,v),(2,q)]=some (e,cs)/\(wN [x,y,z]).p (.slice (some ⟨W.heap.size,0,none⟩) 3 3) (W.alloc (.cells cs e)):=by
 obtain ⟨n,⟨A,c,l,rfl,h1,h2,rfl⟩,hn⟩:=h
 obtain ⟨n',⟨A',c',l',rfl,h1',h2',rfl⟩,hn'⟩:=h'
 obtain ⟨n'',⟨A'',c'',l'',rfl,h1'',h2'',rfl⟩,hn''⟩:=h''
 exact ⟨_,_,zRV A A' A'' n c n' c' n'' c'',_,_,rfl,vK h1 h2 oH h1' h2' oH h1'' h2'' oH _,rfl⟩
theorem zJ1 {l:List Nat} (ht:Lt l) {k:Nat} (hk:k<=l.length):val (l.take k)=val l % BB^k/\val (l.drop k)=val l / BB^k:=by
 have h1:=qH (zBr ht k)
 rw [List.length_take,Nat.min_eq_left hk] at h1
 rw [jP l k hk]
 exact ⟨by rw [Nat.add_mul_mod_self_left,Nat.mod_eq_of_lt h1],by rw [Nat.add_mul_div_left _ _ (Nat.pow_pos yY),Nat.div_eq_of_lt h1,Nat.zero_add]⟩
theorem zQA (A:Option Addr) (n c k:Nat) (hk:k<=c) (w:WT):(Instr.sliceAt 28 (.slice A n c) none (some (.int .i64 (k:Int))) none).run prog w= .ok (.slice A k c) w:=by
 obtain ⟨i,hi,hz,hs,hb⟩:=info_parts yI
 simp [Instr.sliceAt,Instr.slice,Instr.sliceBounds,run_underlying z5,sizeOf,typeInfo,hi,go_sem,hk]
theorem zMD (A:Option Addr) (n c k:Nat) (hk:k<=n) (w:WT):(Instr.sliceAt 28 (.slice A n c) (some (.int .i64 (k:Int))) none none).run prog w= .ok (.slice (if c=k then A else A.map (·.add k)) (n - k) (c - k)) w:=by
 obtain ⟨i,hi,hz,hs,hb⟩:=info_parts yI
 simp [Instr.sliceAt,Instr.slice,Instr.sliceBounds,run_underlying z5,sizeOf,typeInfo,hi,hs,go_sem,hk]
section
variable {F:Fence} {m:Nat} {w0:WT} {ops:Array Oper} {G:Nat->SF} {d:Tmp} {ty:TypeId} {pos:String} {aft:Array Edge}
theorem zM4 {x hi:Operand} {n k y:Nat} (hk:k<=n) (hx: ∀v W,(fct G x).p v W->LX n y v W) (hh: ∀v W,(fct G hi).p v W->v= .int .i64 (k:Int)) (hd: ∀v W,LX k (y % BB^k) v W->(G d).p v W:=by exact fun _ _ h=>h):qP F m prog w0 ops G ⟨some d, .slice 28 x none (some hi) none,ty,pos,aft,none⟩:=
 qT (fun _ e=>by cases e) (fun _ e=>by cases e) fun b W hb hp=>by
  obtain ⟨A,c,l,e,h1,h2,rfl⟩:=hx _ _ (hp x (by simp [Op.operands]))
  have e2:=hh _ _ (hp hi (by simp [Op.operands]))
  have hc:=h1.le
  refine ⟨_,by simp [execOp,e,e2,zQA A n c k oH],hd _ _ ⟨A,c,l.take k,rfl,h1.take hk oH (Nat.le_refl _),zBr h2 k,(zJ1 h2 (by rw [h1.len];exact hk)).1⟩⟩
theorem zFS {x lo:Operand} {n k y:Nat} (hk:k<=n) (hx: ∀v W,(fct G x).p v W->LX n y v W) (hh: ∀v W,(fct G lo).p v W->v= .int .i64 (k:Int)) (hd: ∀v W,LX (n - k) (y / BB^k) v W->(G d).p v W:=by exact fun _ _ h=>h):qP F m prog w0 ops G ⟨some d, .slice 28 x (some lo) none none,ty,pos,aft,none⟩:=
 qT (fun _ e=>by cases e) (fun _ e=>by cases e) fun b W hb hp=>by
  obtain ⟨A,c,l,e,h1,h2,rfl⟩:=hx _ _ (hp x (by simp [Op.operands]))
  have e2:=hh _ _ (hp lo (by simp [Op.operands]))
  refine ⟨_,by simp [execOp,e,e2,zMD A n c k hk],hd _ _ ⟨_,c - k,l.drop k,rfl,h1.drop hk,zGf h2 k,(zJ1 h2 (by rw [h1.len];exact hk)).2⟩⟩
theorem zFR {P:Program} {t:TypeId} {x:Operand} {n y:Nat} (ht:P.underlying t=some (.slice (P.elem t))) (hx: ∀v W,(fct G x).p v W->LX n y v W) (hd: ∀W,(G d).p (.int .i64 (n:Int)) W:=by exact fun _=>rfl):qP F m P w0 ops G ⟨some d, .call ⟨.builtin .len,#[x],#[t]⟩,ty,pos,aft,none⟩:=by
 intro b W K Q hb hr hK
 obtain ⟨A,c,l,e,_⟩:=hx _ _ (qR hr (x:=x) (by simp [Op.operands,Call.operands]))
 refine ⟨fun f hf=>(by
  unfold Oper.about at hf
  simp [resolve,go_sem] at hf), ?_⟩
 rw [Oper.semAt_eq _ _ _ (fun _ e=>by cases e)]
 have:(execOp b.eval ⟨some d, .call ⟨.builtin .len,#[x],#[t]⟩,ty,pos,aft,none⟩).run P W= .ok (.value (.int .i64 (n:Int))) W:=by
  simp [execOp,resolve,invoke,builtin,e,run_len_slice _ _ _ _ _ _ ht,goInt]
 rw [this]
 exact hK _ _ (fun d' e=>by cases e;exact hd W) (Below.refl _ _)
theorem zCE {bi:Builtin} {x y:Operand} {ats:Array TypeId} (u v r:WU) (hx: ∀q W,(fct G x).p q W->q=u) (hy: ∀q W,(fct G y).p q W->q=v) (hr: ∀cs W,(builtin bi ats ty cs #[u,v]).run prog W= .ok (.value r) W) (hd: ∀W,(G d).p r W:=by exact fun _=>rfl):qP F m prog w0 ops G ⟨some d, .call ⟨.builtin bi,#[x,y],ats⟩,ty,pos,aft,none⟩:=by
 intro b W K Q hb hp hK
 have e1:=hx _ _ (qR hp (x:=x) (by simp [Op.operands,Call.operands]))
 have e2:=hy _ _ (qR hp (x:=y) (by simp [Op.operands,Call.operands]))
 refine ⟨fun f hf=>(by
  unfold Oper.about at hf
  simp [resolve,go_sem] at hf), ?_⟩
 rw [Oper.semAt_eq _ _ _ (fun _ e=>by cases e)]
 have:(execOp b.eval ⟨some d, .call ⟨.builtin bi,#[x,y],ats⟩,ty,pos,aft,none⟩).run prog W= .ok (.value r) W:=by
  simp [execOp,resolve,invoke,e1,e2,hr]
 rw [this]
 exact hK _ _ (fun d' e=>by cases e;exact hd W) (Below.refl _ _)
theorem zEA {y x1 x2:Operand} {g:FuncId} {z:WU} {P:Program} {ats:Array TypeId} (hF:zHf F m P) (he:Enters P g) (hy: ∀v W,(fct G y).p v W->v= .func (.func g) #[] #[z])
  (h: ∀u v W,Below w0.heap.size w0 W->(fct G x1).p u W->(fct G x2).p v W->Calls P g #[u,v,z] W (Ret W (G d))):qP F m P w0 ops G ⟨some d, .call ⟨.value y,#[x1,x2],ats⟩,ty,pos,aft,none⟩:=by
 intro b W K Q hb hr hK
 have h0:=hy _ _ (qR hr (x:=y) (by simp [Op.operands,Call.operands]))
 have h1:=h _ _ W hb (qR hr (x:=x1) (by simp [Op.operands,Call.operands])) (qR hr (x:=x2) (by simp [Op.operands,Call.operands]))
 refine ⟨fun g _=>hF.1 g, ?_⟩
 rw [Oper.semAt_eq _ _ _ (fun _ e=>by cases e)]
 have hx:(execOp b.eval ⟨some d, .call ⟨.value y,#[x1,x2],ats⟩,ty,pos,aft,none⟩).run P W= .ok (.enter g #[b.eval x1,b.eval x2,z]) W:=by
  simp only [execOp,resolve,h0]
  simp [invoke,Deferred.ofValue]
  exact he _ _
 rw [hx]
 simp only [Oper.uponIn_enter]
 refine ⟨hF.2.1,CallsIn.mono (hF.2.2 _ _ _ (Ret W (G d)) h1) fun e W' hh=> ?_⟩
 obtain ⟨v,rfl,h2,h3⟩:=hh
 exact hK _ _ (fun d' e=>by cases e;exact h2) h3
end
def CU.one (v:WU):CU:=⟨fun cs _=>cs= [v],fun _ _ _ h _=>h⟩
theorem zLg {v:WU} (cs:List WU) (W:WT) (h:(CU.one v).p cs W): ∃u,cs[0]?=some u/\u=v:=by
 obtain rfl:cs= [v]:=h
 exact ⟨v,rfl,rfl⟩
theorem zFZ {mb:Nat} {w W:WT} (h:w.cell? ⟨mb,0,none⟩=some (zBC mb)) (hb:Below w.heap.size w W):W.cell? ⟨mb,0,none⟩=some (zBC mb):=(hb.cell (p:=⟨mb,0,none⟩) (World.block_lt_of_cell? w _ h)).trans h
def zRD (N:Nat):Prop:= ∀(mb:Nat) (W:WT) (u v:WU) (x y:Nat),LY N x u W->LY N y v W->W.cell? ⟨mb,0,none⟩=some (zBC mb)->Calls prog 93 #[u,v,pO mb 0] W (Ret W (zDs (x*y)).tS)
theorem hsum {M x y:Nat} (hM:2<=M) {a b:Nat} (hx:x<BB^a) (hy:y<BB^b) (ha:a<=M - 2) (hb:b<=M - 2):x+y<BB^(M - 1):=by
 have u1:BB^a<=BB^(M - 2):=fL yY ha
 have u2:BB^b<=BB^(M - 2):=fL yY hb
 have u3:BB^(M - 2)*2<=BB^(M - 2)*BB:=Nat.mul_le_mul_left _ (by unfold BB;omega)
 have u4:BB^(M - 1)=BB^(M - 2)*BB:=by rw [<-Nat.pow_succ];congr 1;omega
 omega
theorem jW {F:Fence} {m:Nat} {P:Program} {w0:WT} {ops:Array Oper} {G:Nat->SF} {o:Oper} {l:List Oper} (h:qP F m P w0 ops G o) (k:Obs F m P w0 ops G l):Obs F m P w0 ops G (o::l):=⟨h,k⟩
theorem zPA {F:Fence} {m:Nat} {P:Program} {w0:WT} {ops:Array Oper} {G:Nat->SF}:Obs F m P w0 ops G []:=trivial
theorem zOy (k:Nat) (hk:k<=40000):IntKind.i64.wrap (2*(k:Int))=2*(k:Int):=by
 rw [IntKind.wrap_i64]
 omega
theorem zKj {ats:Array TypeId} {ty:TypeId} (a b r:Nat) (h:max a b=r) (cs:Array Bool) (W:WT):(builtin .max ats ty cs #[.int .i64 (a:Int), .int .i64 (b:Int)]).run prog W= .ok (.value (.int .i64 (r:Int))) W:=by
 subst h
 simp [Builtin.max_,Builtin.max2,go_sem]
 omega
theorem zO1 {ats:Array TypeId} {ty:TypeId} (a b r:Nat) (h:min a b=r) (cs:Array Bool) (W:WT):(builtin .min ats ty cs #[.int .i64 (a:Int), .int .i64 (b:Int)]).run prog W= .ok (.value (.int .i64 (r:Int))) W:=by
 subst h
 simp [Builtin.min_,Builtin.min2,go_sem]
 omega
theorem zB8 {x y a b M:Nat} (hx:x<BB^a) (hy:y<BB^b) (h:a+b<=M):x*y<BB^M:=by
 refine Nat.lt_of_lt_of_le ?_ (fL yY h)
 rw [fM]
 exact Nat.mul_lt_mul_of_lt_of_lt hx hy
theorem LY.mono {m m' x:Nat} {v:WU} {W:WT} (h:LY m x v W) (hm:m<=m'):LY m' x v W:=by
 obtain ⟨n,h1,h2⟩:=h
 exact ⟨n,h1,Nat.le_trans h2 hm⟩
theorem zI7 {P:Program} {f:FuncId} {args:Array WU} {W:WT} {x y:Nat} (h:Calls P f args W (Ret W (zDs x).tS)) (e:x=y):Calls P f args W (Ret W (zDs y).tS):=e▸h
theorem zL0 {P:Program} {f:FuncId} {args:Array WU} {W:WT} {m m' x:Nat} (h:Calls P f args W (Ret W (fLY m x).tS)) (e:m<=m'):Calls P f args W (Ret W (fLY m' x).tS):=h.mono fun _ _ ⟨v,h1,h2,h3⟩=>⟨v,h1,LY.mono h2 e,h3⟩
theorem zQ2 {x y k:Nat} {v:WU} {W:WT} (h:q7 W v (((x % BB^k)*(y % BB^k))+(BB^k*(((x % BB^k)+(x / BB^k))*((y % BB^k)+(y / BB^k)) - ((x % BB^k)*(y % BB^k)+(x / BB^k)*(y / BB^k))))+(BB^(2*k)*((x / BB^k)*(y / BB^k))))):q7 W v (x*y):=by
 have e1:=Nat.mod_add_div x (BB^k)
 have e2:=Nat.mod_add_div y (BB^k)
 have e3:=zTs (x % BB^k) (x / BB^k) (y % BB^k) (y / BB^k) (BB^k)
 rw [e1,e2] at e3
 rw [e3, <-fM, <-Nat.two_mul]
 exact h
theorem zLi {W:WT} {u v:WU} {mb n n' x y M k:Nat} (hx:LX n x u W) (hy:LX n' y v W) (hmb:W.cell? ⟨mb,0,none⟩=some (zBC mb)) (hM:max n n'=M) (hk:M / 2=k) (hM4:M<=40000) (ih:0<M->zRD (M - 1)):Calls prog 93 #[u,v,pO mb 0] W (Ret W (zDs (x*y)).tS):=by
 have hmix:prog.follows .mixedOrders=true:=by kernel_rfl
 have hdv:(M:Int).tdiv 2=(k:Int):=by rw [Int.tdiv_eq_ediv_of_nonneg oH];omega
 refine qF [(fLX n x).tS,(fLX n' y).tS,wB (CU.one (zBC mb)).cf] func93 rfl kC ⟨hx,hy,⟨mb,0, [zBC mb],rfl,rfl,fun j u hj=>(by match j with|0=>(cases hj;exact hmb)|j+1=>simp at hj)⟩,trivial⟩ fun a s=> ?_
 refine fK ?_
 refine zC 1 ((5, .u (UF.eq (.slice none 0 0))):: []) hmix s kC
  (jW zG<|zPA) fun a w1 s=> ?_
 refine zB rfl ?_
 refine fK ?_
 refine zC 7 ((10, .Z (fLX n x))::(11, .Z (uI (n:Int)))::(12, .Z (fLX n' y))::(13, .Z (uI (n':Int)))::(14, .Z (uI (M:Int)))::(15, .Z (uI (k:Int)))::(6, .u (uI (k:Int))):: []) hmix s kC
  (jW zA<|
  jW (zFR kC (fun _ _ h=>h))<|
  jW zA<|
  jW (zFR kC (fun _ _ h=>h))<|
  jW (zCE (.int .i64 (n:Int)) (.int .i64 (n':Int)) (.int .i64 (M:Int)) (fun _ _ h=>h) (fun _ _ h=>h) (zKj _ _ _ hM))<|
  jW (zDA (.int .i64 (M:Int)) (.int .i64 2) (.int .i64 (k:Int)) (fun _ _ h=>h) (fun _ _ h=>h) (fun W=>by simp [eqGuard]) (fun W=>by simp [binOp,hdv,go_sem];rw [IntKind.wrap_i64];omega) (fun _=>rfl))<|
  jW zG<|zPA) fun a w2 s=> ?_
 refine zB rfl ?_
 refine fK ?_
 refine fK ?_
 refine zC 8 ((16, .Z (fLX n x))::(17, .Z (uI (n:Int)))::(18, .Z (fLX n' y))::(19, .Z (uI (n':Int)))::(20, .Z (uI ((min n n':Nat):Int)))::(21, .Z (uI (k:Int)))::(22, .Z (uI ((max k 12:Nat):Int)))::(23, .u (uB (decide (min n n'<=max k 12)))):: []) hmix s kC
  (jW zA<|
  jW (zFR kC (fun _ _ h=>h))<|
  jW zA<|
  jW (zFR kC (fun _ _ h=>h))<|
  jW (zCE (.int .i64 (n:Int)) (.int .i64 (n':Int)) (.int .i64 ((min n n':Nat):Int)) (fun _ _ h=>h) (fun _ _ h=>h) (zO1 _ _ _ rfl))<|
  jW zA<|
  jW (zCE (.int .i64 (k:Int)) (.int .i64 12) (.int .i64 ((max k 12:Nat):Int)) (fun _ _ h=>h) (fun _ _ h=>h) (zKj _ _ _ rfl))<|
  jW (zDA (.int .i64 ((min n n':Nat):Int)) (.int .i64 ((max k 12:Nat):Int)) (.bool (decide (min n n'<=max k 12))) (fun _ _ h=>h) (fun _ _ h=>h) (fun W=>by simp [eqGuard]) (fun W=>by simp [binOp,Op.intCmp]) (fun _=>rfl))<|zPA) fun a w3 s=> ?_
 refine zB rfl ?_
 refine StS.cond s (decide (min n n'<=max k 12)) (fun _ _ h=>h) (fun e=> ?_) (fun e=> ?_)
 ·refine fK ?_
  replace s:=s.drop [5]
  refine zC 4 ((24, .Z (fLX n x))::(25, .Z (fLX n' y))::(26, .Z (zDs (x*y)))::(5, .u (zDs (x*y))):: []) hmix s kC
   (jW zA<|
   jW zA<|
   jW (yF zF zSq (fun u0 u1 W hb (h0:LX n x u0 W) (h1:LX n' y u1 W)=>zNj (wO (m:=40000) h0 oH) (wO (m:=40000) h1 oH) oH))<|
   jW zG<|zPA) fun a w4 s=> ?_
  refine zB rfl ?_
  refine wpIn_ret ?_
  first|exact wF s (t:=5) rfl (fun _ _ h=>h)|exact wF s (t:=5) rfl (fun _ _ h=>zQ2 h)
 ·have hc:=of_decide_eq_false e
  have hkn:k<n:=by omega
  have hkn':k<n':=by omega
  have hk2:k<=M - 2:=by omega
  have hk3:n - k<=M - 2:=by omega
  have hk4:n' - k<=M - 2:=by omega
  have hP:0<BB^k:=Nat.pow_pos yY
  have bxl:x % BB^k<BB^k:=Nat.mod_lt _ hP
  have byl:y % BB^k<BB^k:=Nat.mod_lt _ hP
  have bxh:x / BB^k<BB^(n - k):=by rw [Nat.div_lt_iff_lt_mul hP, <-fM,Nat.sub_add_cancel oH];exact hx.lt
  have byh:y / BB^k<BB^(n' - k):=by rw [Nat.div_lt_iff_lt_mul hP, <-fM,Nat.sub_add_cancel oH];exact hy.lt
  have bsx:=hsum (M:=M) oH bxl bxh hk2 hk3
  have bsy:=hsum (M:=M) oH byl byh hk2 hk4
  obtain ⟨N5,hN5⟩: ∃N:Nat,N=100000:=⟨_,rfl⟩
  obtain ⟨N6,hN6⟩: ∃N:Nat,N=300000:=⟨_,rfl⟩
  have bll:x % BB^k*(y % BB^k)+x / BB^k*(y / BB^k)<BB^N5:=by
   have h1:=zB8 (M:=N5 - 2) bxl byl oH
   have h2:=zB8 (M:=N5 - 2) bxh byh oH
   exact Nat.lt_of_lt_of_le (hsum (M:=N5) oH h1 h2 oH oH) (fL yY oH)
  refine wpIn_skip ?_
  refine fK ?_
  refine zC 18 ((27, .Z (UF.eq (zBC mb)))::(28, .Z (fLX n x))::(29, .Z (uI (k:Int)))::(30, .Z (fLX k (x % BB^k)))::(31, .Z (fLX n' y))::(32, .Z (uI (k:Int)))::(33, .Z (fLX k (y % BB^k)))::(34, .Z (zDs ((x % BB^k)*(y % BB^k))))::(35, .Z (UF.eq (zBC mb)))::(36, .Z (fLX n x))::(37, .Z (uI (k:Int)))::(38, .Z (fLX (n - k) (x / BB^k)))::(39, .Z (fLX n' y))::(40, .Z (uI (k:Int)))::(41, .Z (fLX (n' - k) (y / BB^k)))::(42, .Z (zDs ((x / BB^k)*(y / BB^k))))::(7, .u (zDs ((x % BB^k)*(y % BB^k))))::(8, .u (zDs ((x / BB^k)*(y / BB^k)))):: []) hmix s kC
   (jW (yG (C:=(CU.one (zBC mb)).cf) kC (fun _ _ h=>h) zLg)<|
   jW zA<|
   jW zA<|
   jW (zM4 (k:=k) oH (fun _ _ h=>h) (fun _ _ h=>h))<|
   jW zA<|
   jW zA<|
   jW (zM4 (k:=k) oH (fun _ _ h=>h) (fun _ _ h=>h))<|
   jW (zEA zF zPW (fun _ _ h=>h) (fun u0 u1 W hb (h0:LX k (x % BB^k) u0 W) (h1:LX k (y % BB^k) u1 W)=>ih oH mb W u0 u1 _ _ (wO (m:=M - 1) h0 oH) (wO (m:=M - 1) h1 oH) (zFZ hmb (s.up hb))))<|
   jW (yG (C:=(CU.one (zBC mb)).cf) kC (fun _ _ h=>h) zLg)<|
   jW zA<|
   jW zA<|
   jW (zFS (k:=k) oH (fun _ _ h=>h) (fun _ _ h=>h))<|
   jW zA<|
   jW zA<|
   jW (zFS (k:=k) oH (fun _ _ h=>h) (fun _ _ h=>h))<|
   jW (zEA zF zPW (fun _ _ h=>h) (fun u0 u1 W hb (h0:LX (n - k) (x / BB^k) u0 W) (h1:LX (n' - k) (y / BB^k) u1 W)=>ih oH mb W u0 u1 _ _ (wO (m:=M - 1) h0 oH) (wO (m:=M - 1) h1 oH) (zFZ hmb (s.up hb))))<|
   jW zG<|
   jW zG<|zPA) fun a w5 s=> ?_
  refine zB rfl ?_
  refine fK ?_
  refine zC 24 ((43, .Z (UF.eq (zBC mb)))::(44, .Z (fLX n x))::(45, .Z (uI (k:Int)))::(46, .Z (fLX k (x % BB^k)))::(47, .Z (fLX n x))::(48, .Z (uI (k:Int)))::(49, .Z (fLX (n - k) (x / BB^k)))::(50, .s (wN [x % BB^k,x / BB^k]))::(51, .Z (zDs ((x % BB^k)+(x / BB^k))))::(52, .Z (fLX n' y))::(53, .Z (uI (k:Int)))::(54, .Z (fLX k (y % BB^k)))::(55, .Z (fLX n' y))::(56, .Z (uI (k:Int)))::(57, .Z (fLX (n' - k) (y / BB^k)))::(58, .s (wN [y % BB^k,y / BB^k]))::(59, .Z (zDs ((y % BB^k)+(y / BB^k))))::(60, .Z (zDs (((x % BB^k)+(x / BB^k))*((y % BB^k)+(y / BB^k)))))::(61, .Z (zDs ((x % BB^k)*(y % BB^k))))::(62, .Z (zDs ((x / BB^k)*(y / BB^k))))::(63, .s (wN [(x % BB^k)*(y % BB^k),(x / BB^k)*(y / BB^k)]))::(64, .Z (zDs (((x % BB^k)*(y % BB^k))+((x / BB^k)*(y / BB^k)))))::(65, .Z (zDs ((((x % BB^k)+(x / BB^k))*((y % BB^k)+(y / BB^k))) - (((x % BB^k)*(y % BB^k))+((x / BB^k)*(y / BB^k))))))::(9, .u (zDs ((((x % BB^k)+(x / BB^k))*((y % BB^k)+(y / BB^k))) - (((x % BB^k)*(y % BB^k))+((x / BB^k)*(y / BB^k)))))):: []) hmix s kC
   (jW (yG (C:=(CU.one (zBC mb)).cf) kC (fun _ _ h=>h) zLg)<|
   jW zA<|
   jW zA<|
   jW (zM4 (k:=k) oH (fun _ _ h=>h) (fun _ _ h=>h))<|
   jW zA<|
   jW zA<|
   jW (zFS (k:=k) oH (fun _ _ h=>h) (fun _ _ h=>h))<|
   jW (qK (fun u v W (hu:LX k (x % BB^k) u W) (hv:LX (n - k) (x / BB^k) v W)=>zKc (wO (m:=N6) hu oH) (wO (m:=N6) hv oH) oH))<|
   jW (zM zF zNp (fun u0 W hb (h0:(wN [x % BB^k,x / BB^k]).p u0 W)=>zI7 (zIU h0 (by simp)) (by simp)))<|
   jW zA<|
   jW zA<|
   jW (zM4 (k:=k) oH (fun _ _ h=>h) (fun _ _ h=>h))<|
   jW zA<|
   jW zA<|
   jW (zFS (k:=k) oH (fun _ _ h=>h) (fun _ _ h=>h))<|
   jW (qK (fun u v W (hu:LX k (y % BB^k) u W) (hv:LX (n' - k) (y / BB^k) v W)=>zKc (wO (m:=N6) hu oH) (wO (m:=N6) hv oH) oH))<|
   jW (zM zF zNp (fun u0 W hb (h0:(wN [y % BB^k,y / BB^k]).p u0 W)=>zI7 (zIU h0 (by simp)) (by simp)))<|
   jW (zEA zF zPW (fun _ _ h=>h) (fun u0 u1 W hb (h0:q7 W u0 ((x % BB^k)+(x / BB^k))) (h1:q7 W u1 ((y % BB^k)+(y / BB^k)))=>ih oH mb W u0 u1 _ _ (zFX (m:=M - 1) h0 bsx) (zFX (m:=M - 1) h1 bsy) (zFZ hmb (s.up hb))))<|
   jW zA<|
   jW zA<|
   jW (qK (fun u v W (hu:q7 W u ((x % BB^k)*(y % BB^k))) (hv:q7 W v ((x / BB^k)*(y / BB^k)))=>zKc (zFX (m:=N6) hu (zB8 (M:=N6) bxl byl oH)) (zFX (m:=N6) hv (zB8 (M:=N6) bxh byh oH)) oH))<|
   jW (zM zF zNp (fun u0 W hb (h0:(wN [(x % BB^k)*(y % BB^k),(x / BB^k)*(y / BB^k)]).p u0 W)=>zI7 (zIU h0 (by simp)) (by simp)))<|
   jW (yF zF zSp (fun u0 u1 W hb (h0:q7 W u0 (((x % BB^k)+(x / BB^k))*((y % BB^k)+(y / BB^k)))) (h1:q7 W u1 (((x % BB^k)*(y % BB^k))+((x / BB^k)*(y / BB^k))))=>zPK (zFX (m:=N5) h0 (zB8 (M:=N5) bsx bsy oH)) (zFX (m:=N5) h1 bll) oH (zPL _ _ _ _)))<|
   jW zG<|zPA) fun a w6 s=> ?_
  refine zB rfl ?_
  refine fK ?_
  replace s:=s.drop [5]
  refine zC 11 ((66, .Z (zDs ((x % BB^k)*(y % BB^k))))::(67, .Z (zDs ((((x % BB^k)+(x / BB^k))*((y % BB^k)+(y / BB^k))) - (((x % BB^k)*(y % BB^k))+((x / BB^k)*(y / BB^k))))))::(68, .Z (uI (k:Int)))::(69, .Z (fLY 200000 (BB^(k)*((((x % BB^k)+(x / BB^k))*((y % BB^k)+(y / BB^k))) - (((x % BB^k)*(y % BB^k))+((x / BB^k)*(y / BB^k)))))))::(70, .Z (zDs ((x / BB^k)*(y / BB^k))))::(71, .Z (uI (k:Int)))::(72, .Z (uI ((2*k:Nat):Int)))::(73, .Z (fLY 200000 (BB^(2*k)*((x / BB^k)*(y / BB^k)))))::(74, .s (wN [(x % BB^k)*(y % BB^k),BB^(k)*((((x % BB^k)+(x / BB^k))*((y % BB^k)+(y / BB^k))) - (((x % BB^k)*(y % BB^k))+((x / BB^k)*(y / BB^k)))),BB^(2*k)*((x / BB^k)*(y / BB^k))]))::(75, .Z (zDs (((x % BB^k)*(y % BB^k))+(BB^(k)*((((x % BB^k)+(x / BB^k))*((y % BB^k)+(y / BB^k))) - (((x % BB^k)*(y % BB^k))+((x / BB^k)*(y / BB^k)))))+(BB^(2*k)*((x / BB^k)*(y / BB^k))))))::(5, .u (zDs (((x % BB^k)*(y % BB^k))+(BB^(k)*((((x % BB^k)+(x / BB^k))*((y % BB^k)+(y / BB^k))) - (((x % BB^k)*(y % BB^k))+((x / BB^k)*(y / BB^k)))))+(BB^(2*k)*((x / BB^k)*(y / BB^k)))))):: []) hmix s kC
   (jW zA<|
   jW zA<|
   jW zA<|
   jW (yF zF zQ8 (fun u0 u1 W hb (h0:q7 W u0 ((((x % BB^k)+(x / BB^k))*((y % BB^k)+(y / BB^k))) - (((x % BB^k)*(y % BB^k))+((x / BB^k)*(y / BB^k))))) (h1:u1= .int .i64 (k:Int))=>zL0 (zIV (k:=k) (zFX (m:=N5) h0 (Nat.lt_of_le_of_lt (Nat.sub_le _ _) (zB8 (M:=N5) bsx bsy oH))) h1 oH oH) oH))<|
   jW zA<|
   jW zA<|
   jW (zDA (.int .i64 2) (.int .i64 (k:Int)) (.int .i64 ((2*k:Nat):Int)) (fun _ _ h=>h) (fun _ _ h=>h) (fun W=>by simp [eqGuard]) (fun W=>by simp [binOp,Op.intArith,zOy k oH]) (fun _=>rfl))<|
   jW (yF zF zQ8 (fun u0 u1 W hb (h0:q7 W u0 ((x / BB^k)*(y / BB^k))) (h1:u1= .int .i64 ((2*k:Nat):Int))=>zL0 (zIV (k:=2*k) (zFX (m:=N5) h0 (zB8 (M:=N5) bxh byh oH)) h1 oH oH) oH))<|
   jW (zGU (fun u v q W (hu:q7 W u ((x % BB^k)*(y % BB^k))) (hv:LY 200000 (BB^(k)*((((x % BB^k)+(x / BB^k))*((y % BB^k)+(y / BB^k))) - (((x % BB^k)*(y % BB^k))+((x / BB^k)*(y / BB^k))))) v W) (hq:LY 200000 (BB^(2*k)*((x / BB^k)*(y / BB^k))) q W)=>zQu (zFX (m:=N6) hu (zB8 (M:=N6) bxl byl oH)) (LY.mono hv (m':=N6) oH) (LY.mono hq (m':=N6) oH) oH))<|
   jW (zM zF zNp (fun u0 W hb (h0:(wN [(x % BB^k)*(y % BB^k),BB^(k)*((((x % BB^k)+(x / BB^k))*((y % BB^k)+(y / BB^k))) - (((x % BB^k)*(y % BB^k))+((x / BB^k)*(y / BB^k)))),BB^(2*k)*((x / BB^k)*(y / BB^k))]).p u0 W)=>zI7 (zIU h0 (by simp)) (by simp [Nat.add_assoc])))<|
   jW zG<|zPA) fun a w7 s=> ?_
  refine zB rfl ?_
  refine wpIn_ret ?_
  first|exact wF s (t:=5) rfl (fun _ _ h=>h)|exact wF s (t:=5) rfl (fun _ _ h=>zQ2 h)
theorem zLj: ∀M,M<=40000->zRD M:=by
 intro M
 induction M using Nat.strongRecOn with
 |_ M ih=>
  intro hM mb W u v x y hx hy hmb
  obtain ⟨n,hx,hn⟩:=hx
  obtain ⟨n',hy,hn'⟩:=hy
  exact zLi hx hy hmb rfl rfl oH fun h0=>ih _ oH oH
theorem zNk (M:Nat) (hM:M<=40000):zTz M:=fun mb A n c l A' n' c' l' w h h' ht ht' hn hn' hmb=>
 (zLj M hM mb w _ _ _ _ ⟨n,⟨A,c,l,rfl,h,ht,rfl⟩,hn⟩ ⟨n',⟨A',c',l',rfl,h',ht',rfl⟩,hn'⟩ hmb).mono fun e w' ⟨v,h1,⟨A1,n1,c1,l1,h2,h3,h4⟩,h5⟩=>⟨A1,n1,c1,l1,by rw [h1,h2],h3,h4,h5⟩
end Go.Proofs.Wd
