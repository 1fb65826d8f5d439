/- prod.Mul's inner function: Karatsuba and what it needs. -/
import Derived.Test.YtihcepanbejfpaaGreatDoorMEA9
import Derived.Test.YtihcepanbejfpaaGreatDoorMEA6
theorem kC {P:Prop} (h:P:=by kernel_rfl):P:=h
theorem oH {P:Prop} (h:P:=by omega):P:=h
abbrev fZ:=@Go.wpIn_seq
abbrev hH:=@Nat.pow_le_pow_right
abbrev lA:=@Nat.pow_add
abbrev WV:=Go.World
abbrev WW:=Go.Value
namespace Go.Proofs.Wd
open Tryz
set_option maxRecDepth 100000
set_option maxHeartbeats 1000000
open Go.RowKit Lb
def LX (n x:Nat) (v:WW) (W:WV):Prop:= ∃A c l,v= .slice A n c/\Rd W A n c l/\Lt l/\val l=x
def fLX (n x:Nat):UF:= .mk' (LX n x) fun _ _ _ ⟨A,c,l,e,h1,h2,h3⟩ k=>⟨A,c,l,e,h1.keepU k,h2,h3⟩
def zDD (x:Nat):UF:= .mk' (fun v w=>qC w v x) fun _ _ _ ⟨A,n,c,l,e,h1,h2⟩ k=>⟨A,n,c,l,e,h1,h2.keepU k⟩
def LY (m x:Nat) (v:WW) (W:WV):Prop:= ∃n,LX n x v W/\n<=m
def fLY (m x:Nat):UF:= .mk' (LY m x) fun _ _ _ ⟨n,h,h1⟩ k=>⟨n,(fLX n x).us _ _ _ h k,h1⟩
theorem LX.lt {n x:Nat} {v:WW} {W:WV} (h:LX n x v W):x<BB^n:=by
 obtain ⟨A,c,l,e,h1,h2,rfl⟩:=h
 rw [<-h1.len]
 exact qM h2
theorem wP {n m x:Nat} {v:WW} {W:WV} (h:LX n x v W) (hn:n<=m):LY m x v W:=⟨n,h,hn⟩
theorem zFP {m x:Nat} {v:WW} {W:WV} (h:qC W v x) (hx:x<BB^m):LY m x v W:=by
 obtain ⟨A,n,c,l,rfl,h1,h2⟩:=h
 exact ⟨n,⟨A,c,l,rfl,h2,h1.lt,h1.val⟩,by rw [<-h2.len];exact h1.len hx⟩
def wN (xs:List Nat):SF:=⟨fun v W=> ∃A ls,v= .slice A xs.length xs.length/\Rds W A xs.length ls/\ls.map val=xs,fun _ _ _ ⟨A,ls,h1,h2,h3⟩ hb=>⟨A,ls,h1,h2.below hb,h3⟩⟩
theorem zSz {W:WV} {x:Nat} {e:Ending} {W':WV} (h:qZ W x e W'):Ret W (zDD x).tS e W':=by
 obtain ⟨A,n,c,l,rfl,h1,h2,h3⟩:=h
 exact ⟨_,rfl,⟨A,n,c,l,rfl,h1,h2⟩,h3⟩
theorem zNg {W:WV} {u v:WW} {m x y:Nat} (h:LY m x u W) (h':LY m y v W) (hm:m<=100000):Calls prog 130 #[u,v] W (Ret W (zDD (x*y)).tS):=by
 obtain ⟨n,⟨A,c,l,rfl,h1,h2,rfl⟩,hn⟩:=h
 obtain ⟨n',⟨A',c',l',rfl,h1',h2',rfl⟩,hn'⟩:=h'
 exact (zKH A n c l A' n' c' l' W h1 h1' h2 h2' oH oH).mono fun e W' he=>zSz he
theorem zIJ {W:WV} {u:WW} {xs:List Nat} (h:(wN xs).p u W) (hn:xs.length<=1000):Calls prog 132 #[u] W (Ret W (zDD xs.sum).tS):=by
 obtain ⟨A,ls,rfl,h1,rfl⟩:=h
 exact (zLN A _ _ ls W h1 hn).mono fun e W' he=>zSz he
theorem zPJ {W:WV} {u v:WW} {m x y:Nat} (h:LY m x u W) (h':LY m y v W) (hm:m<=1000000) (hyx:y<=x):Calls prog 131 #[u,v] W (Ret W (zDD (x - y)).tS):=by
 obtain ⟨n,⟨A,c,l,rfl,h1,h2,rfl⟩,hn⟩:=h
 obtain ⟨n',⟨A',c',l',rfl,h1',h2',rfl⟩,hn'⟩:=h'
 exact (zKG A n c A' n' c' W _ (zHj A n c l A' n' c' l' W h1 h1' h2 h2' hyx oH oH)).mono fun e W' he=>zSz he
theorem zIK {W:WV} {u v:WW} {m x k:Nat} (h:LY m x u W) (hv:v= .int .i64 (k:Int)) (hm:m<=100000) (hk:k<=100000):Calls prog 133 #[u,v] W (Ret W (fLY (k+m) (BB^k*x)).tS):=by
 obtain ⟨n,⟨A,c,l,rfl,h1,h2,rfl⟩,hn⟩:=h
 subst hv
 refine (zLQ A n c l k W h1 oH hk).mono fun e W' he=> ?_
 obtain ⟨A',n',c',rfl,h3,h4⟩:=he
 refine ⟨_,rfl,⟨n',⟨A',c',_,rfl,h3,zG5 (jF k) h2,zJG k l⟩, ?_⟩,h4⟩
 rw [<-h3.len,List.length_append,List.length_replicate,h1.len]
 omega
theorem zSt (A A':Option Addr) (n c n' c':Nat):z9 prog 145 2 [(0, .slice A n c),(1, .slice A' n' c')]=some (24,#[.slice A n c, .slice A' n' c']):=by kernel_rfl
theorem zSs (A A' A'':Option Addr) (n c n' c' n'' c'':Nat):z9 prog 145 3 [(0, .slice A n c),(1, .slice A' n' c'),(2, .slice A'' n'' c'')]=some (24,#[.slice A n c, .slice A' n' c', .slice A'' n'' c'']):=by kernel_rfl
theorem zJ3 {u v:WW} {W:WV} {m x y:Nat} (h:LY m x u W) (h':LY m y v W) (hm:m<=1000000): ∃e cs,z9 prog 145 2 [(0,u),(1,v)]=some (e,cs)/\(wN [x,y]).p (.slice (some ⟨W.heap.size,0,none⟩) 2 2) (W.alloc (.cells cs e)):=by
 obtain ⟨n,⟨A,c,l,rfl,h1,h2,rfl⟩,hn⟩:=h
 obtain ⟨n',⟨A',c',l',rfl,h1',h2',rfl⟩,hn'⟩:=h'
 exact ⟨_,_,zSt A A' n c n' c',_,_,rfl,Rds.two h1 h2 oH h1' h2' oH _,rfl⟩
theorem zQI {u v q:WW} {W:WV} {m x y z:Nat} (h:LY m x u W) (h':LY m y v W) (h'':LY m z q W) (hm:m<=1000000): ∃e cs,z9 prog 145 3 [(0,u),(1,v),(2,q)]=some (e,cs)/\(wN [x,y,z]).p (.slice (some ⟨W.heap.size,0,none⟩) 3 3) (W.alloc (.cells cs e)):=by
 obtain ⟨n,⟨A,c,l,rfl,h1,h2,rfl⟩,hn⟩:=h
 obtain ⟨n',⟨A',c',l',rfl,h1',h2',rfl⟩,hn'⟩:=h'
 obtain ⟨n'',⟨A'',c'',l'',rfl,h1'',h2'',rfl⟩,hn''⟩:=h''
 exact ⟨_,_,zSs A A' A'' n c n' c' n'' c'',_,_,rfl,vK h1 h2 oH h1' h2' oH h1'' h2'' oH _,rfl⟩
theorem zJF {l:List Nat} (ht:Lt l) {k:Nat} (hk:k<=l.length):val (l.take k)=val l % BB^k/\val (l.drop k)=val l / BB^k:=by
 have h1:=qM (zBn ht k)
 rw [List.length_take,Nat.min_eq_left hk] at h1
 rw [jG l k hk]
 exact ⟨by rw [Nat.add_mul_mod_self_left,Nat.mod_eq_of_lt h1],by rw [Nat.add_mul_div_left _ _ (Nat.pow_pos yS),Nat.div_eq_of_lt h1,Nat.zero_add]⟩
theorem zQL (A:Option Addr) (n c k:Nat) (hk:k<=c) (w:WV):(Instr.sliceAt 24 (.slice A n c) none (some (.int .i64 (k:Int))) none).run prog w= .ok (.slice A k c) w:=by
 obtain ⟨i,hi,hz,hs,hb⟩:=info_parts yG
 simp [Instr.sliceAt,Instr.slice,Instr.sliceBounds,run_underlying zW,sizeOf,typeInfo,hi,go_sem,hk]
theorem zMw (A:Option Addr) (n c k:Nat) (hk:k<=n) (w:WV):(Instr.sliceAt 24 (.slice A n c) (some (.int .i64 (k:Int))) none none).run prog w= .ok (.slice (if c=k then A else A.map (·.add k)) (n - k) (c - k)) w:=by
 obtain ⟨i,hi,hz,hs,hb⟩:=info_parts yG
 simp [Instr.sliceAt,Instr.slice,Instr.sliceBounds,run_underlying zW,sizeOf,typeInfo,hi,hs,go_sem,hk]
section
variable {F:Fence} {m:Nat} {w0:WV} {ops:Array Oper} {G:Nat->SF} {d:Tmp} {ty:TypeId} {pos:String} {aft:Array Edge}
theorem zM0 {x hi:Operand} {n k y:Nat} (hk:k<=n) (hx: ∀v W,(fct G x).p v W->LX n y v W) (hh: ∀v W,(fct G hi).p v W->v= .int .i64 (k:Int)) (hd: ∀v W,LX k (y % BB^k) v W->(G d).p v W:=by exact fun _ _ h=>h):qK F m prog w0 ops G ⟨some d, .slice 24 x none (some hi) none,ty,pos,aft,none⟩:=
 qO (fun _ e=>by cases e) (fun _ e=>by cases e) fun b W hb hp=>by
  obtain ⟨A,c,l,e,h1,h2,rfl⟩:=hx _ _ (hp x (by simp [Op.operands]))
  have e2:=hh _ _ (hp hi (by simp [Op.operands]))
  have hc:=h1.le
  refine ⟨_,by simp [execOp,e,e2,zQL A n c k oH],hd _ _ ⟨A,c,l.take k,rfl,h1.take hk oH (Nat.le_refl _),zBn h2 k,(zJF h2 (by rw [h1.len];exact hk)).1⟩⟩
theorem zFL {x lo:Operand} {n k y:Nat} (hk:k<=n) (hx: ∀v W,(fct G x).p v W->LX n y v W) (hh: ∀v W,(fct G lo).p v W->v= .int .i64 (k:Int)) (hd: ∀v W,LX (n - k) (y / BB^k) v W->(G d).p v W:=by exact fun _ _ h=>h):qK F m prog w0 ops G ⟨some d, .slice 24 x (some lo) none none,ty,pos,aft,none⟩:=
 qO (fun _ e=>by cases e) (fun _ e=>by cases e) fun b W hb hp=>by
  obtain ⟨A,c,l,e,h1,h2,rfl⟩:=hx _ _ (hp x (by simp [Op.operands]))
  have e2:=hh _ _ (hp lo (by simp [Op.operands]))
  refine ⟨_,by simp [execOp,e,e2,zMw A n c k hk],hd _ _ ⟨_,c - k,l.drop k,rfl,h1.drop hk,zF9 h2 k,(zJF h2 (by rw [h1.len];exact hk)).2⟩⟩
theorem zFJ {P:Program} {t:TypeId} {x:Operand} {n y:Nat} (ht:P.underlying t=some (.slice (P.elem t))) (hx: ∀v W,(fct G x).p v W->LX n y v W) (hd: ∀W,(G d).p (.int .i64 (n:Int)) W:=by exact fun _=>rfl):qK F m P w0 ops G ⟨some d, .call ⟨.builtin .len,#[x],#[t]⟩,ty,pos,aft,none⟩:=by
 intro b W K Q hb hr hK
 obtain ⟨A,c,l,e,_⟩:=hx _ _ (yU hr (x:=x) (by simp [Op.operands,Call.operands]))
 refine ⟨fun f hf=>(by
  unfold Oper.about at hf
  simp [resolve,go_sem] at hf), ?_⟩
 rw [Oper.semAt_eq _ _ _ (fun _ e=>by cases e)]
 have:(execOp b.eval ⟨some d, .call ⟨.builtin .len,#[x],#[t]⟩,ty,pos,aft,none⟩).run P W= .ok (.value (.int .i64 (n:Int))) W:=by
  simp [execOp,resolve,invoke,builtin,e,run_len_slice _ _ _ _ _ _ ht,goInt]
 rw [this]
 exact hK _ _ (fun d' e=>by cases e;exact hd W) (Below.refl _ _)
theorem zCI {bi:Builtin} {x y:Operand} {ats:Array TypeId} (u v r:WW) (hx: ∀q W,(fct G x).p q W->q=u) (hy: ∀q W,(fct G y).p q W->q=v) (hr: ∀cs W,(builtin bi ats ty cs #[u,v]).run prog W= .ok (.value r) W) (hd: ∀W,(G d).p r W:=by exact fun _=>rfl):qK F m prog w0 ops G ⟨some d, .call ⟨.builtin bi,#[x,y],ats⟩,ty,pos,aft,none⟩:=by
 intro b W K Q hb hp hK
 have e1:=hx _ _ (yU hp (x:=x) (by simp [Op.operands,Call.operands]))
 have e2:=hy _ _ (yU hp (x:=y) (by simp [Op.operands,Call.operands]))
 refine ⟨fun f hf=>(by
  unfold Oper.about at hf
  simp [resolve,go_sem] at hf), ?_⟩
 rw [Oper.semAt_eq _ _ _ (fun _ e=>by cases e)]
 have:(execOp b.eval ⟨some d, .call ⟨.builtin bi,#[x,y],ats⟩,ty,pos,aft,none⟩).run prog W= .ok (.value r) W:=by
  simp [execOp,resolve,invoke,e1,e2,hr]
 rw [this]
 exact hK _ _ (fun d' e=>by cases e;exact hd W) (Below.refl _ _)
theorem zEy {y x1 x2:Operand} {g:FuncId} {z:WW} {P:Program} {ats:Array TypeId} (hF:zHN F m P) (he:Enters P g) (hy: ∀v W,(fct G y).p v W->v= .func (.func g) #[] #[z])
  (h: ∀u v W,Below w0.heap.size w0 W->(fct G x1).p u W->(fct G x2).p v W->Calls P g #[u,v,z] W (Ret W (G d))):qK F m P w0 ops G ⟨some d, .call ⟨.value y,#[x1,x2],ats⟩,ty,pos,aft,none⟩:=by
 intro b W K Q hb hr hK
 have h0:=hy _ _ (yU hr (x:=y) (by simp [Op.operands,Call.operands]))
 have h1:=h _ _ W hb (yU hr (x:=x1) (by simp [Op.operands,Call.operands])) (yU hr (x:=x2) (by simp [Op.operands,Call.operands]))
 refine ⟨fun g _=>hF.1 g, ?_⟩
 rw [Oper.semAt_eq _ _ _ (fun _ e=>by cases e)]
 have hx:(execOp b.eval ⟨some d, .call ⟨.value y,#[x1,x2],ats⟩,ty,pos,aft,none⟩).run P W= .ok (.enter g #[b.eval x1,b.eval x2,z]) W:=by
  simp only [execOp,resolve,h0]
  simp [invoke,Deferred.ofValue]
  exact he _ _
 rw [hx]
 simp only [Oper.uponIn_enter]
 refine ⟨hF.2.1,CallsIn.mono (hF.2.2 _ _ _ (Ret W (G d)) h1) fun e W' hh=> ?_⟩
 obtain ⟨v,rfl,h2,h3⟩:=hh
 exact hK _ _ (fun d' e=>by cases e;exact h2) h3
end
def CU.one (v:WW):CU:=⟨fun cs _=>cs= [v],fun _ _ _ h _=>h⟩
theorem zK9 {v:WW} (cs:List WW) (W:WV) (h:(CU.one v).p cs W): ∃u,cs[0]?=some u/\u=v:=by
 obtain rfl:cs= [v]:=h
 exact ⟨v,rfl,rfl⟩
theorem zFR {mb:Nat} {w W:WV} (h:w.cell? ⟨mb,0,none⟩=some (zBu mb)) (hb:Below w.heap.size w W):W.cell? ⟨mb,0,none⟩=some (zBu mb):=(hb.cell (p:=⟨mb,0,none⟩) (World.block_lt_of_cell? w _ h)).trans h
def zSd (N:Nat):Prop:= ∀(mb:Nat) (W:WV) (u v:WW) (x y:Nat),LY N x u W->LY N y v W->W.cell? ⟨mb,0,none⟩=some (zBu mb)->Calls prog 129 #[u,v,pO mb 0] W (Ret W (zDD (x*y)).tS)
theorem hsum {M x y:Nat} (hM:2<=M) {a b:Nat} (hx:x<BB^a) (hy:y<BB^b) (ha:a<=M - 2) (hb:b<=M - 2):x+y<BB^(M - 1):=by
 have u1:BB^a<=BB^(M - 2):=hH yS ha
 have u2:BB^b<=BB^(M - 2):=hH yS hb
 have u3:BB^(M - 2)*2<=BB^(M - 2)*BB:=Nat.mul_le_mul_left _ (by unfold BB;omega)
 have u4:BB^(M - 1)=BB^(M - 2)*BB:=by rw [<-Nat.pow_succ];congr 1;omega
 omega
theorem jY {F:Fence} {m:Nat} {P:Program} {w0:WV} {ops:Array Oper} {G:Nat->SF} {o:Oper} {l:List Oper} (h:qK F m P w0 ops G o) (k:Obs F m P w0 ops G l):Obs F m P w0 ops G (o::l):=⟨h,k⟩
theorem zPA {F:Fence} {m:Nat} {P:Program} {w0:WV} {ops:Array Oper} {G:Nat->SF}:Obs F m P w0 ops G []:=trivial
theorem zOA (k:Nat) (hk:k<=40000):IntKind.i64.wrap (2*(k:Int))=2*(k:Int):=by
 rw [IntKind.wrap_i64]
 omega
theorem zKc {ats:Array TypeId} {ty:TypeId} (a b r:Nat) (h:max a b=r) (cs:Array Bool) (W:WV):(builtin .max ats ty cs #[.int .i64 (a:Int), .int .i64 (b:Int)]).run prog W= .ok (.value (.int .i64 (r:Int))) W:=by
 subst h
 simp [Builtin.max_,Builtin.max2,go_sem]
 omega
theorem zOW {ats:Array TypeId} {ty:TypeId} (a b r:Nat) (h:min a b=r) (cs:Array Bool) (W:WV):(builtin .min ats ty cs #[.int .i64 (a:Int), .int .i64 (b:Int)]).run prog W= .ok (.value (.int .i64 (r:Int))) W:=by
 subst h
 simp [Builtin.min_,Builtin.min2,go_sem]
 omega
theorem zCb {x y a b M:Nat} (hx:x<BB^a) (hy:y<BB^b) (h:a+b<=M):x*y<BB^M:=by
 refine Nat.lt_of_lt_of_le ?_ (hH yS h)
 rw [lA]
 exact Nat.mul_lt_mul_of_lt_of_lt hx hy
theorem LY.mono {m m' x:Nat} {v:WW} {W:WV} (h:LY m x v W) (hm:m<=m'):LY m' x v W:=by
 obtain ⟨n,h1,h2⟩:=h
 exact ⟨n,h1,Nat.le_trans h2 hm⟩
theorem zIW {P:Program} {f:FuncId} {args:Array WW} {W:WV} {x y:Nat} (h:Calls P f args W (Ret W (zDD x).tS)) (e:x=y):Calls P f args W (Ret W (zDD y).tS):=e▸h
theorem zLP {P:Program} {f:FuncId} {args:Array WW} {W:WV} {m m' x:Nat} (h:Calls P f args W (Ret W (fLY m x).tS)) (e:m<=m'):Calls P f args W (Ret W (fLY m' x).tS):=h.mono fun _ _ ⟨v,h1,h2,h3⟩=>⟨v,h1,LY.mono h2 e,h3⟩
theorem zRh {x y k:Nat} {v:WW} {W:WV} (h:qC W v (((x % BB^k)*(y % BB^k))+(BB^k*(((x % BB^k)+(x / BB^k))*((y % BB^k)+(y / BB^k)) - ((x % BB^k)*(y % BB^k)+(x / BB^k)*(y / BB^k))))+(BB^(2*k)*((x / BB^k)*(y / BB^k))))):qC W v (x*y):=by
 have e1:=Nat.mod_add_div x (BB^k)
 have e2:=Nat.mod_add_div y (BB^k)
 have e3:=zTS (x % BB^k) (x / BB^k) (y % BB^k) (y / BB^k) (BB^k)
 rw [e1,e2] at e3
 rw [e3, <-lA, <-Nat.two_mul]
 exact h
theorem zLa {W:WV} {u v:WW} {mb n n' x y M k:Nat} (hx:LX n x u W) (hy:LX n' y v W) (hmb:W.cell? ⟨mb,0,none⟩=some (zBu mb)) (hM:max n n'=M) (hk:M / 2=k) (hM4:M<=40000) (ih:0<M->zSd (M - 1)):Calls prog 129 #[u,v,pO mb 0] W (Ret W (zDD (x*y)).tS):=by
 have hmix:prog.follows .mixedOrders=true:=by kernel_rfl
 have hdv:(M:Int).tdiv 2=(k:Int):=by rw [Int.tdiv_eq_ediv_of_nonneg oH];omega
 refine yF [(fLX n x).tS,(fLX n' y).tS,wC (CU.one (zBu mb)).cf] func129 rfl kC ⟨hx,hy,⟨mb,0, [zBu mb],rfl,rfl,fun j u hj=>(by match j with|0=>(cases hj;exact hmb)|j+1=>simp at hj)⟩,trivial⟩ fun a s=> ?_
 refine fZ ?_
 refine zB 1 ((5, .u (UF.eq (.slice none 0 0))):: []) hmix s kC
  (jY zG<|zPA) fun a w1 s=> ?_
 refine zA rfl ?_
 refine fZ ?_
 refine zB 7 ((10, .Z (fLX n x))::(11, .Z (uI (n:Int)))::(12, .Z (fLX n' y))::(13, .Z (uI (n':Int)))::(14, .Z (uI (M:Int)))::(15, .Z (uI (k:Int)))::(6, .u (uI (k:Int))):: []) hmix s kC
  (jY zC<|
  jY (zFJ kC (fun _ _ h=>h))<|
  jY zC<|
  jY (zFJ kC (fun _ _ h=>h))<|
  jY (zCI (.int .i64 (n:Int)) (.int .i64 (n':Int)) (.int .i64 (M:Int)) (fun _ _ h=>h) (fun _ _ h=>h) (zKc _ _ _ hM))<|
  jY (zC6 (.int .i64 (M:Int)) (.int .i64 2) (.int .i64 (k:Int)) (fun _ _ h=>h) (fun _ _ h=>h) (fun W=>by simp [eqGuard]) (fun W=>by simp [binOp,hdv,go_sem];rw [IntKind.wrap_i64];omega) (fun _=>rfl))<|
  jY zG<|zPA) fun a w2 s=> ?_
 refine zA rfl ?_
 refine fZ ?_
 refine fZ ?_
 refine zB 8 ((16, .Z (fLX n x))::(17, .Z (uI (n:Int)))::(18, .Z (fLX n' y))::(19, .Z (uI (n':Int)))::(20, .Z (uI ((min n n':Nat):Int)))::(21, .Z (uI (k:Int)))::(22, .Z (uI ((max k 12:Nat):Int)))::(23, .u (uB (decide (min n n'<=max k 12)))):: []) hmix s kC
  (jY zC<|
  jY (zFJ kC (fun _ _ h=>h))<|
  jY zC<|
  jY (zFJ kC (fun _ _ h=>h))<|
  jY (zCI (.int .i64 (n:Int)) (.int .i64 (n':Int)) (.int .i64 ((min n n':Nat):Int)) (fun _ _ h=>h) (fun _ _ h=>h) (zOW _ _ _ rfl))<|
  jY zC<|
  jY (zCI (.int .i64 (k:Int)) (.int .i64 12) (.int .i64 ((max k 12:Nat):Int)) (fun _ _ h=>h) (fun _ _ h=>h) (zKc _ _ _ rfl))<|
  jY (zC6 (.int .i64 ((min n n':Nat):Int)) (.int .i64 ((max k 12:Nat):Int)) (.bool (decide (min n n'<=max k 12))) (fun _ _ h=>h) (fun _ _ h=>h) (fun W=>by simp [eqGuard]) (fun W=>by simp [binOp,Op.intCmp]) (fun _=>rfl))<|zPA) fun a w3 s=> ?_
 refine zA rfl ?_
 refine StS.cond s (decide (min n n'<=max k 12)) (fun _ _ h=>h) (fun e=> ?_) (fun e=> ?_)
 ·refine fZ ?_
  replace s:=s.drop [5]
  refine zB 4 ((24, .Z (fLX n x))::(25, .Z (fLX n' y))::(26, .Z (zDD (x*y)))::(5, .u (zDD (x*y))):: []) hmix s kC
   (jY zC<|
   jY zC<|
   jY (zM zD zRS (fun u0 u1 W hb (h0:LX n x u0 W) (h1:LX n' y u1 W)=>zNg (wP (m:=40000) h0 oH) (wP (m:=40000) h1 oH) oH))<|
   jY zG<|zPA) fun a w4 s=> ?_
  refine zA rfl ?_
  refine wpIn_ret ?_
  first|exact wF s (t:=5) rfl (fun _ _ h=>h)|exact wF s (t:=5) rfl (fun _ _ h=>zRh h)
 ·have hc:=of_decide_eq_false e
  have hkn:k<n:=by omega
  have hkn':k<n':=by omega
  have hk2:k<=M - 2:=by omega
  have hk3:n - k<=M - 2:=by omega
  have hk4:n' - k<=M - 2:=by omega
  have hP:0<BB^k:=Nat.pow_pos yS
  have bxl:x % BB^k<BB^k:=Nat.mod_lt _ hP
  have byl:y % BB^k<BB^k:=Nat.mod_lt _ hP
  have bxh:x / BB^k<BB^(n - k):=by rw [Nat.div_lt_iff_lt_mul hP, <-lA,Nat.sub_add_cancel oH];exact hx.lt
  have byh:y / BB^k<BB^(n' - k):=by rw [Nat.div_lt_iff_lt_mul hP, <-lA,Nat.sub_add_cancel oH];exact hy.lt
  have bsx:=hsum (M:=M) oH bxl bxh hk2 hk3
  have bsy:=hsum (M:=M) oH byl byh hk2 hk4
  obtain ⟨N5,hN5⟩: ∃N:Nat,N=100000:=⟨_,rfl⟩
  obtain ⟨N6,hN6⟩: ∃N:Nat,N=300000:=⟨_,rfl⟩
  have bll:x % BB^k*(y % BB^k)+x / BB^k*(y / BB^k)<BB^N5:=by
   have h1:=zCb (M:=N5 - 2) bxl byl oH
   have h2:=zCb (M:=N5 - 2) bxh byh oH
   exact Nat.lt_of_lt_of_le (hsum (M:=N5) oH h1 h2 oH oH) (hH yS oH)
  refine wpIn_skip ?_
  refine fZ ?_
  refine zB 18 ((27, .Z (UF.eq (zBu mb)))::(28, .Z (fLX n x))::(29, .Z (uI (k:Int)))::(30, .Z (fLX k (x % BB^k)))::(31, .Z (fLX n' y))::(32, .Z (uI (k:Int)))::(33, .Z (fLX k (y % BB^k)))::(34, .Z (zDD ((x % BB^k)*(y % BB^k))))::(35, .Z (UF.eq (zBu mb)))::(36, .Z (fLX n x))::(37, .Z (uI (k:Int)))::(38, .Z (fLX (n - k) (x / BB^k)))::(39, .Z (fLX n' y))::(40, .Z (uI (k:Int)))::(41, .Z (fLX (n' - k) (y / BB^k)))::(42, .Z (zDD ((x / BB^k)*(y / BB^k))))::(7, .u (zDD ((x % BB^k)*(y % BB^k))))::(8, .u (zDD ((x / BB^k)*(y / BB^k)))):: []) hmix s kC
   (jY (yW (C:=(CU.one (zBu mb)).cf) kC (fun _ _ h=>h) zK9)<|
   jY zC<|
   jY zC<|
   jY (zM0 (k:=k) oH (fun _ _ h=>h) (fun _ _ h=>h))<|
   jY zC<|
   jY zC<|
   jY (zM0 (k:=k) oH (fun _ _ h=>h) (fun _ _ h=>h))<|
   jY (zEy zD zLy (fun _ _ h=>h) (fun u0 u1 W hb (h0:LX k (x % BB^k) u0 W) (h1:LX k (y % BB^k) u1 W)=>ih oH mb W u0 u1 _ _ (wP (m:=M - 1) h0 oH) (wP (m:=M - 1) h1 oH) (zFR hmb (s.up hb))))<|
   jY (yW (C:=(CU.one (zBu mb)).cf) kC (fun _ _ h=>h) zK9)<|
   jY zC<|
   jY zC<|
   jY (zFL (k:=k) oH (fun _ _ h=>h) (fun _ _ h=>h))<|
   jY zC<|
   jY zC<|
   jY (zFL (k:=k) oH (fun _ _ h=>h) (fun _ _ h=>h))<|
   jY (zEy zD zLy (fun _ _ h=>h) (fun u0 u1 W hb (h0:LX (n - k) (x / BB^k) u0 W) (h1:LX (n' - k) (y / BB^k) u1 W)=>ih oH mb W u0 u1 _ _ (wP (m:=M - 1) h0 oH) (wP (m:=M - 1) h1 oH) (zFR hmb (s.up hb))))<|
   jY zG<|
   jY zG<|zPA) fun a w5 s=> ?_
  refine zA rfl ?_
  refine fZ ?_
  refine zB 24 ((43, .Z (UF.eq (zBu mb)))::(44, .Z (fLX n x))::(45, .Z (uI (k:Int)))::(46, .Z (fLX k (x % BB^k)))::(47, .Z (fLX n x))::(48, .Z (uI (k:Int)))::(49, .Z (fLX (n - k) (x / BB^k)))::(50, .s (wN [x % BB^k,x / BB^k]))::(51, .Z (zDD ((x % BB^k)+(x / BB^k))))::(52, .Z (fLX n' y))::(53, .Z (uI (k:Int)))::(54, .Z (fLX k (y % BB^k)))::(55, .Z (fLX n' y))::(56, .Z (uI (k:Int)))::(57, .Z (fLX (n' - k) (y / BB^k)))::(58, .s (wN [y % BB^k,y / BB^k]))::(59, .Z (zDD ((y % BB^k)+(y / BB^k))))::(60, .Z (zDD (((x % BB^k)+(x / BB^k))*((y % BB^k)+(y / BB^k)))))::(61, .Z (zDD ((x % BB^k)*(y % BB^k))))::(62, .Z (zDD ((x / BB^k)*(y / BB^k))))::(63, .s (wN [(x % BB^k)*(y % BB^k),(x / BB^k)*(y / BB^k)]))::(64, .Z (zDD (((x % BB^k)*(y % BB^k))+((x / BB^k)*(y / BB^k)))))::(65, .Z (zDD ((((x % BB^k)+(x / BB^k))*((y % BB^k)+(y / BB^k))) - (((x % BB^k)*(y % BB^k))+((x / BB^k)*(y / BB^k))))))::(9, .u (zDD ((((x % BB^k)+(x / BB^k))*((y % BB^k)+(y / BB^k))) - (((x % BB^k)*(y % BB^k))+((x / BB^k)*(y / BB^k)))))):: []) hmix s kC
   (jY (yW (C:=(CU.one (zBu mb)).cf) kC (fun _ _ h=>h) zK9)<|
   jY zC<|
   jY zC<|
   jY (zM0 (k:=k) oH (fun _ _ h=>h) (fun _ _ h=>h))<|
   jY zC<|
   jY zC<|
   jY (zFL (k:=k) oH (fun _ _ h=>h) (fun _ _ h=>h))<|
   jY (yC (fun u v W (hu:LX k (x % BB^k) u W) (hv:LX (n - k) (x / BB^k) v W)=>zJ3 (wP (m:=N6) hu oH) (wP (m:=N6) hv oH) oH))<|
   jY (zH zD zIP (fun u0 W hb (h0:(wN [x % BB^k,x / BB^k]).p u0 W)=>zIW (zIJ h0 (by simp)) (by simp)))<|
   jY zC<|
   jY zC<|
   jY (zM0 (k:=k) oH (fun _ _ h=>h) (fun _ _ h=>h))<|
   jY zC<|
   jY zC<|
   jY (zFL (k:=k) oH (fun _ _ h=>h) (fun _ _ h=>h))<|
   jY (yC (fun u v W (hu:LX k (y % BB^k) u W) (hv:LX (n' - k) (y / BB^k) v W)=>zJ3 (wP (m:=N6) hu oH) (wP (m:=N6) hv oH) oH))<|
   jY (zH zD zIP (fun u0 W hb (h0:(wN [y % BB^k,y / BB^k]).p u0 W)=>zIW (zIJ h0 (by simp)) (by simp)))<|
   jY (zEy zD zLy (fun _ _ h=>h) (fun u0 u1 W hb (h0:qC W u0 ((x % BB^k)+(x / BB^k))) (h1:qC W u1 ((y % BB^k)+(y / BB^k)))=>ih oH mb W u0 u1 _ _ (zFP (m:=M - 1) h0 bsx) (zFP (m:=M - 1) h1 bsy) (zFR hmb (s.up hb))))<|
   jY zC<|
   jY zC<|
   jY (yC (fun u v W (hu:qC W u ((x % BB^k)*(y % BB^k))) (hv:qC W v ((x / BB^k)*(y / BB^k)))=>zJ3 (zFP (m:=N6) hu (zCb (M:=N6) bxl byl oH)) (zFP (m:=N6) hv (zCb (M:=N6) bxh byh oH)) oH))<|
   jY (zH zD zIP (fun u0 W hb (h0:(wN [(x % BB^k)*(y % BB^k),(x / BB^k)*(y / BB^k)]).p u0 W)=>zIW (zIJ h0 (by simp)) (by simp)))<|
   jY (zM zD zRR (fun u0 u1 W hb (h0:qC W u0 (((x % BB^k)+(x / BB^k))*((y % BB^k)+(y / BB^k)))) (h1:qC W u1 (((x % BB^k)*(y % BB^k))+((x / BB^k)*(y / BB^k))))=>zPJ (zFP (m:=N5) h0 (zCb (M:=N5) bsx bsy oH)) (zFP (m:=N5) h1 bll) oH (zPK _ _ _ _)))<|
   jY zG<|zPA) fun a w6 s=> ?_
  refine zA rfl ?_
  refine fZ ?_
  replace s:=s.drop [5]
  refine zB 11 ((66, .Z (zDD ((x % BB^k)*(y % BB^k))))::(67, .Z (zDD ((((x % BB^k)+(x / BB^k))*((y % BB^k)+(y / BB^k))) - (((x % BB^k)*(y % BB^k))+((x / BB^k)*(y / BB^k))))))::(68, .Z (uI (k:Int)))::(69, .Z (fLY 200000 (BB^(k)*((((x % BB^k)+(x / BB^k))*((y % BB^k)+(y / BB^k))) - (((x % BB^k)*(y % BB^k))+((x / BB^k)*(y / BB^k)))))))::(70, .Z (zDD ((x / BB^k)*(y / BB^k))))::(71, .Z (uI (k:Int)))::(72, .Z (uI ((2*k:Nat):Int)))::(73, .Z (fLY 200000 (BB^(2*k)*((x / BB^k)*(y / BB^k)))))::(74, .s (wN [(x % BB^k)*(y % BB^k),BB^(k)*((((x % BB^k)+(x / BB^k))*((y % BB^k)+(y / BB^k))) - (((x % BB^k)*(y % BB^k))+((x / BB^k)*(y / BB^k)))),BB^(2*k)*((x / BB^k)*(y / BB^k))]))::(75, .Z (zDD (((x % BB^k)*(y % BB^k))+(BB^(k)*((((x % BB^k)+(x / BB^k))*((y % BB^k)+(y / BB^k))) - (((x % BB^k)*(y % BB^k))+((x / BB^k)*(y / BB^k)))))+(BB^(2*k)*((x / BB^k)*(y / BB^k))))))::(5, .u (zDD (((x % BB^k)*(y % BB^k))+(BB^(k)*((((x % BB^k)+(x / BB^k))*((y % BB^k)+(y / BB^k))) - (((x % BB^k)*(y % BB^k))+((x / BB^k)*(y / BB^k)))))+(BB^(2*k)*((x / BB^k)*(y / BB^k)))))):: []) hmix s kC
   (jY zC<|
   jY zC<|
   jY zC<|
   jY (zM zD zOl (fun u0 u1 W hb (h0:qC W u0 ((((x % BB^k)+(x / BB^k))*((y % BB^k)+(y / BB^k))) - (((x % BB^k)*(y % BB^k))+((x / BB^k)*(y / BB^k))))) (h1:u1= .int .i64 (k:Int))=>zLP (zIK (k:=k) (zFP (m:=N5) h0 (Nat.lt_of_le_of_lt (Nat.sub_le _ _) (zCb (M:=N5) bsx bsy oH))) h1 oH oH) oH))<|
   jY zC<|
   jY zC<|
   jY (zC6 (.int .i64 2) (.int .i64 (k:Int)) (.int .i64 ((2*k:Nat):Int)) (fun _ _ h=>h) (fun _ _ h=>h) (fun W=>by simp [eqGuard]) (fun W=>by simp [binOp,Op.intArith,zOA k oH]) (fun _=>rfl))<|
   jY (zM zD zOl (fun u0 u1 W hb (h0:qC W u0 ((x / BB^k)*(y / BB^k))) (h1:u1= .int .i64 ((2*k:Nat):Int))=>zLP (zIK (k:=2*k) (zFP (m:=N5) h0 (zCb (M:=N5) bxh byh oH)) h1 oH oH) oH))<|
   jY (zEw (fun u v q W (hu:qC W u ((x % BB^k)*(y % BB^k))) (hv:LY 200000 (BB^(k)*((((x % BB^k)+(x / BB^k))*((y % BB^k)+(y / BB^k))) - (((x % BB^k)*(y % BB^k))+((x / BB^k)*(y / BB^k))))) v W) (hq:LY 200000 (BB^(2*k)*((x / BB^k)*(y / BB^k))) q W)=>zQI (zFP (m:=N6) hu (zCb (M:=N6) bxl byl oH)) (LY.mono hv (m':=N6) oH) (LY.mono hq (m':=N6) oH) oH))<|
   jY (zH zD zIP (fun u0 W hb (h0:(wN [(x % BB^k)*(y % BB^k),BB^(k)*((((x % BB^k)+(x / BB^k))*((y % BB^k)+(y / BB^k))) - (((x % BB^k)*(y % BB^k))+((x / BB^k)*(y / BB^k)))),BB^(2*k)*((x / BB^k)*(y / BB^k))]).p u0 W)=>zIW (zIJ h0 (by simp)) (by simp [Nat.add_assoc])))<|
   jY zG<|zPA) fun a w7 s=> ?_
  refine zA rfl ?_
  refine wpIn_ret ?_
  first|exact wF s (t:=5) rfl (fun _ _ h=>h)|exact wF s (t:=5) rfl (fun _ _ h=>zRh h)
theorem zLb: ∀M,M<=40000->zSd M:=by
 intro M
 induction M using Nat.strongRecOn with
 |_ M ih=>
  intro hM mb W u v x y hx hy hmb
  obtain ⟨n,hx,hn⟩:=hx
  obtain ⟨n',hy,hn'⟩:=hy
  exact zLa hx hy hmb rfl rfl oH fun h0=>ih _ oH oH
theorem zNh (M:Nat) (hM:M<=40000):zT4 M:=fun mb A n c l A' n' c' l' w h h' ht ht' hn hn' hmb=>
 (zLb M hM mb w _ _ _ _ ⟨n,⟨A,c,l,rfl,h,ht,rfl⟩,hn⟩ ⟨n',⟨A',c',l',rfl,h',ht',rfl⟩,hn'⟩ hmb).mono fun e w' ⟨v,h1,⟨A1,n1,c1,l1,h2,h3,h4⟩,h5⟩=>⟨A1,n1,c1,l1,by rw [h1,h2],h3,h4,h5⟩
end Go.Proofs.Wd
