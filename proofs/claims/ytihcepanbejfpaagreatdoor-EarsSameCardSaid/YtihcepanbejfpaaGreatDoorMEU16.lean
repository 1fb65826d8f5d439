/- Walks of prod's Up and Down; The walk of prod's Down; Walks of straitr and what it needs. -/
import Derived.Test.YtihcepanbejfpaaGreatDoorMEU15
import Derived.Test.YtihcepanbejfpaaGreatDoorMEU14
abbrev sS:=@Go.IntKind.wrap_i64
abbrev sT:=@Int.natCast_pow
abbrev sU:=@Int.tdiv_eq_ediv_of_nonneg
abbrev sV:=@Nat.lt_of_mul_lt_mul_left
abbrev sX:=@Nat.mul_mod_mul_right
namespace Go.Proofs.Wd
open Tryz
variable {w:WB}{B P s x z:Nat}{e:TypeId}{l:List Nat}
set_option maxRecDepth 100000
set_option maxHeartbeats 1000000
open Go.RowKit Lb
theorem zMY(k:Nat)(h:k<=17592186044416)(w:WB):
  (Instr.makeSlice 24 (.int .i64 0) (.int .i64 (k:Int))).run prog w=.ok (.slice (some ⟨w.heap.size,0,none⟩) 0 k) (w.alloc (.cells (madeCells #[.int .u32 0] k) 69)):=by
 obtain⟨i,hi,O,J,hb⟩:=cZ yQ
 have I:=run_make (P:=prog) w 24 69 i (.int .u32 0) z7 hi O .i64 .i64 0 k oA oA (by rw[hb];omega) oA
 simp only[lO,J,gK]at I
 exact I
theorem zND(k:Nat)(h:k<=17592186044416)(w:WB):yB (w.alloc (.cells (madeCells #[.int .u32 0] k) 69)) w.heap.size 69 (.slice (some ⟨w.heap.size,0,none⟩) 0 k) []:=
 ⟨rfl,.inr ⟨w.heap.size,k,_,rfl,vP _,xL w _,vR _,by unfold maxLen;omega,by simp[madeCells],rfl⟩⟩
def zLC(w:WB)(v:Nat)(e:Ending)(w':WB):Prop:=∃A n c l,e=.returned (.slice A n c)/\Is l v/\yB w' w.heap.size 69 (.slice A n c) l/\Below w.heap.size w w'
theorem yB.base{B':Nat}{v:Value}(h:yB w B e v l)(hb:B'<=B):yB w B' e v l:=by
 obtain⟨J,h2⟩:=h
 refine⟨J,?_⟩
 rcases h2 with h2|⟨g,cap,I,h3,h4,O⟩
 .exact .inl h2
 .exact .inr ⟨g,cap,I,h3,by omega,O⟩
theorem zEq(A:WG Addr)(n c:Nat)(l:List Nat)(w:WB)(h:Rd w A n c l)(hl:n<=1099511627776):
  Calls prog 143 #[.slice A n c] w fun e w'=>∃A' c',e=.returned (.slice A' n c')/\yB w' w.heap.size 69 (.slice A' n c') l/\Below w.heap.size w w':=by
 have hq:=fun(wx:WB) (a:WG Addr) (l c:Nat)=>Lib.run_eql_slice_nil (P:=prog) wx 24 69 a l c 0 0 z7
 cases A with
 |none=>
  obtain⟨rfl,rfl,rfl⟩:=h.empty
  go_enter func143,ntmps143
  go_wp2
  go_ret
  exact⟨none,0,rfl,wV _ _ _,xF _ _⟩
 |some ad=>
  have hown:yB (w.alloc (.cells #[] 69)) w.heap.size 69 (.slice (some ⟨w.heap.size,0,none⟩) 0 0) []:=lN (base:=w.heap.size) (e:=69) (size:=1) w #[] 0 (vP _) (by unfold maxLen;omega) rfl
  have hlen:=h.len
  go_enter func143,ntmps143
  go_wp2_with (at_builtin;refine zS rfl _ _ 24 69 rfl z7 yQ w.heap.size _ [] rfl hown (some ad) n c l rfl (h.alloc _) (by simp;omega) (by simp) ?_;intro v1 w1 hown1 hg1 hat1;obtain⟨A1,c1,rfl⟩:=hown1.form)
  go_ret
  rw[lJ]at hown1
  have hb:=yB.grown ((xF w.heap.size w).alloc (vP _) _) hown hg1 (vP _) (by simp)
  rw[hlen]at hown1
  exact⟨A1,c1,rfl,hown1,hb⟩
theorem zPi(A:WG Addr)(n c:Nat)(l:List Nat)(w:WB)(h:Rd w A n c l)(ht:Lt l)(hl:n<=1099511627776):
  Calls prog 124 #[.slice A n c] w (zLC w (val l)):=by
 have hle:=h.le;have hcap:=h.cap;have hlen:=h.len
 go_enter func124,ntmps124
 go_wp2
 go_loop [3] (fun x=>∃k:Nat,k<=n/\x=.int .i64 k/\(∀i,k<=i->i<l.length->lm l i=0)) (fun x=>(intOf x).toNat)
 case atStart=>exact⟨n,vP _,rfl,fun i h1 h2=>by omega⟩
 case round=>
  obtain⟨k,hk,rfl,hz⟩:=hrel
  have HZ:=hid hz
  clear hz
  by_cases h0:0<k
  .obtain⟨b,o,rfl,hc⟩:=h.cells (k-1) oA
   have e1:((k:Int)-1).toNat=k-1:=by omega
   by_cases hx:lm l (k-1)=0
   .go_wp2
    go_round
    case rel=>exact⟨k-1,by omega,by congr 1;omega,fun i h1 h2=>by
     by_cases e:i=k-1
     .subst e;exact hx
     .exact HZ.out i oA h2⟩
    case measure=>simp[intOf];omega
   .have hx2:((lm l (k-1):Int)==0)=false:=by simpa using hx
    have HX:=hid hx
    clear hx
    go_wp2_with (go_at_call 143;refine(zEq _ k k (l.take k) _ (h.take oA (vP _) oA) oA).mono ?_;rintro e w1 ⟨A1,c1,rfl,hr1,hb1⟩)
    go_ret
    exact⟨A1,k,c1,l.take k,rfl,⟨zB3 ht _,zCm l k oA HZ.out (.inr HX.out),jN oA HZ.out⟩,hr1,hb1⟩
  .obtain rfl:k=0:=by omega
   cases A with
   |none=>
    obtain⟨rfl,rfl,rfl⟩:=h.empty
    go_wp2_with (go_at_call 143;refine(zEq _ 0 0 [] _ (wM _) oA).mono ?_;rintro e w1 ⟨A1,c1,rfl,hr1,hb1⟩)
    go_ret
    exact⟨A1,0,c1, [],rfl,Is.nil,hr1,hb1⟩
   |some ad=>
    go_wp2_with (go_at_call 143;refine(zEq _ 0 0 (l.take 0) _ (h.take oA (vP _) oA) oA).mono ?_;rintro e w1 ⟨A1,c1,rfl,hr1,hb1⟩)
    go_ret
    exact⟨A1,0,c1,l.take 0,rfl,⟨zB3 ht _,zCm l 0 oA HZ.out (.inl rfl),jN oA HZ.out⟩,hr1,hb1⟩
def UpI(w:WB)(l:List Nat)(n s:Nat)(v o i:Value)(W:WB):Prop:=
 ∃(j u:Nat) (A:WG Addr) (c:Nat) (lo:List Nat),j<=n/\i=.int .i64 j/\o=.int .u32 u/\v=.slice A j c/\u<s/\yB W w.heap.size 69 (.slice A j c) lo/\lo.length=j/\Lt lo/\
  val lo+u*BB^j=s*sm (lm l) j/\Below w.heap.size w W
theorem zMs(n s u:Nat)(k:Nat)(hk:k<=31)(J:2^k=s)(hn:n<4294967296)(hu:u<s):
  ∃p hi lo z:Nat,n*s=p/\p<18446744073709551616/\p/4294967296=hi/\p%4294967296=lo/\hi<s/\lo<4294967296/\bits .or .u32 (lo:Int) (u:Int)=(z:Int)/\z<4294967296/\n*s+u=z+hi*4294967296:=by
 have I:s*2^(32-k)=4294967296:=by
  rw[<-J,<-uA,show k+(32-k)=32 from by omega]
 have O:0<s:=by rw[<-J];exact rA _
 have hsl:s<4294967296:=by
  have:2<=2^(32-k):=by
   calc 2=2^1:=rfl
    _<=2^(32-k):=vZ oA oA
  have:=uR s this
  omega
 have hp:n*s<4294967296*s:=rB hn O
 have hp2:4294967296*s<=4294967296*4294967296:=uR _ oA
 obtain⟨q,hq⟩:∃q,n*s%4294967296=q*s:=by
  refine⟨n%2^(32-k),?_⟩
  rw[<-I,vS s,sX]
 have h4:n*s%4294967296|||u=n*s%4294967296+u:=by
  rw[hq,<-J,vS]
  exact(lP (by rw[J];exact hu) q).symm
 have h0:n*s%4294967296+u<4294967296:=by
  have U:n*s%4294967296<4294967296:=by omega
  rw[hq]at U ⊢
  rw[<-I,vS q]at U
  have h2:q<2^(32-k):=sV U
  have h3:(q+1)*s<=2^(32-k)*s:=uE _ h2
  rw[vT,uU,vS (2^(32-k)),I]at h3
  omega
 refine⟨n*s,n*s/4294967296,n*s%4294967296,n*s%4294967296+u,rfl,by omega,rfl,rfl,gH (by rw[vS]at hp ⊢;exact hp),by omega,?_,h0,by omega⟩
 rw[u32_or_nat _ _ oA oA,h4]
theorem zRk(A:WG Addr)(n c:Nat)(l:List Nat)(k:Nat)(w:WB)(h:Rd w A n c l)(ht:Lt l)(hk:k<=31)(hn:n<=100000):
  Calls prog 163 #[.slice A n c,.int .i64 (k:Int)] w (zLC w (val l*2^k)):=by
 have hle:=h.le;have hcap:=h.cap
 have HN:=hid h.len
 have hmk:∀wx:WB,(Instr.makeSlice 24 (.int .i64 0) (.int .i64 ((n:Int)+1))).run prog wx=.ok (.slice (some ⟨wx.heap.size,0,none⟩) 0 (n+1)) (wx.alloc (.cells (madeCells #[.int .u32 0] (n+1)) 69)):=fun wx=>zMY (n+1) oA wx
 have hk1:(k:Int)/32=0:=by omega
 have hk2:(k:Int)%32=(k:Int):=by omega
 have hk3:(k:Int).tdiv 32=0:=by rw[sU oA];exact hk1
 have hk4:(k:Int).tmod 32=(k:Int):=by rw[pD oA];exact hk2
 obtain⟨s,hs⟩:∃s,2^k=s:=⟨_,rfl⟩
 rw[hs]
 have hsl:s<4294967296:=by rw[<-hs];exact nF (vZ oA hk) (by decide)
 have hpow:(2:Int)^k%4294967296=(s:Int):=by
  rw[<-hs,sT]
  have:((2^k:Nat):Int)<4294967296:=by rw[hs];omega
  rw[sT]at this
  have h0:=mW (2^k)
  rw[sT]at h0
  exact Int.emod_eq_of_lt h0 this
 go_enter func163,ntmps163
 go_wp2_with (go_at_call 168;refine(zI7 k 65536 oA oA _).mono ?_;rintro e w1 ⟨rfl,hw1⟩;rw[hw1];clear hw1 w1)
 go_loopw [5,6,24] (UpI w l n s) (fun _ _ i _=>n-(intOf i).toNat)
 case atStart=>exact⟨0,0,_,_, [],vR _,rfl,rfl,rfl,by rw[<-hs];exact rA _,zND (n+1) oA w,rfl,zB4,by simp[sm],(xF _ w).alloc (vP _) _⟩
 case round=>
  obtain⟨j,u,Ao,co,lo,hj,rfl,rfl,rfl,hu,hown,hlo,hlt,heq,hB⟩:=hrel
  have HQ:=hid heq
  clear heq
  have hr:=h.below hB
  by_cases hjn:j<n
  .obtain⟨b,o,rfl,hcb⟩:=hr.cells j hjn
   have x1:=qR ht j
   simp only[BB]at x1
   obtain⟨x,hx⟩:∃x,lm l j=x:=⟨_,rfl⟩
   rw[hx]at x1 hcb
   obtain⟨p,hi,lw,z,hp,hp2,hhi,hlw,hhs,hlw2,hor,hz,hst⟩:=zMs x s u k hk hs x1 hu
   have hmul:=zNW x s p hi lw x1 hsl hp hp2 hhi hlw
   have HX:=hid hx;have HST:=hid hst
   clear hx hst hp hhi hlw
   have hs1:lo.length+ [z].length<=17592186044416:=by simp;omega
   have hl1:(lo++ [z]).length=j+1:=by simp;omega
   go_wp2_with (first|(go_at_call 169;refine(hmul _).mono ?_;rintro e w2 ⟨rfl,rfl⟩)|(at_builtin;refine zS rfl _ _ 24 69 rfl z7 yQ w.heap.size _ lo rfl (yB.alloc hown _) _ 1 1 [z] rfl (Rd.one _ z 69) hs1 (y8 hB.size _) ?_;intro v1 w3 hown1 hg1 hat1;obtain⟨A1,c1,rfl⟩:=hown1.form' hl1))
   go_roundw
   case rel=>exact⟨j+1,hi,A1,c1,lo++ [z],by omega,by go_num,rfl,rfl,hhs,hown1,hl1,zBh hlt hz,by rw[zAo,hlo];simp only[sm,vY];rw[HX.out];exact zSv HQ.out HST.out,yB.grown (hB.alloc hB.size _) (yB.alloc hown _) hg1 (vP _) (y8 hB.size _)⟩
   case measure=>simp[intOf];omega
  .obtain rfl:j=n:=by omega
   have hs1:lo.length+ [u].length<=17592186044416:=by simp;omega
   have hl1:(lo++ [u]).length=j+1:=by simp;omega
   have hl2:Lt (lo++ [u]):=zBh hlt (by unfold BB;omega)
   have hk9:j+1<=1099511627776:=by omega
   go_wp2_with (first|(at_builtin;refine zS rfl _ _ 24 69 rfl z7 yQ w.heap.size _ lo rfl (yB.alloc hown _) _ 1 1 [u] rfl (Rd.one _ u 69) hs1 (y8 hB.size _) ?_;intro v1 w3 hown1 hg1 hat1;obtain⟨A1,c1,rfl⟩:=hown1.form' hl1)|(go_at_call 124;refine(zPi _ _ _ _ _ hown1.rd hl2 hk9).mono ?_;rintro e w2 ⟨A2,n2,c2,l2,rfl,hi2,hr2,hb2⟩))
   go_ret
   have e1:=zAZ (l:=l) (n:=j) (by have:=HN.out;omega)
   have hv:val (lo++ [u])=val l*s:=by rw[zAo,hlo,HQ.out,e1,vS]
   rw[hv]at hi2
   have hB1:=yB.grown (hB.alloc hB.size _) (yB.alloc hown _) hg1 (vP _) (y8 hB.size _)
   exact⟨A2,n2,c2,l2,rfl,hi2,hr2.base hB1.size,hB1.trans (hb2.mono hB1.size)⟩
attribute [local go_sem] Oper.semAt_some qL yG
def zWJ(w:WB)(R cc:Nat)(l:List Nat)(n s:Nat)(i:Value)(W:WB):Prop:=
 ∃(j:Nat) (l':List Nat),j<=n/\i=.int .i64 j/\Row W R cc l'/\l'.length=n/\Lt l'/\(∀x,j<=x->lm l' x=lm l x)/\
  sm (lm l) j+lm l j%s*BB^j=s*sm (lm l') j+lm l 0%s/\Below w.heap.size w W
theorem zOJ(x y s k:Nat)(hk:k<=31)(hs:2^k=s)(U:x<4294967296):
  ∃f sh z:Nat,x/s=f/\y*2^(32-k)%4294967296=sh/\f<4294967296/\sh<4294967296/\bits .or .u32 (f:Int) (sh:Int)=(z:Int)/\z<4294967296/\s*z=(x-x%s)+4294967296*(y%s)/\(y%s=0->f=z):=by
 have I:s*2^(32-k)=4294967296:=by
  rw[<-hs,<-uA,show k+(32-k)=32 from by omega]
 have J:0<s:=by rw[<-hs];exact rA _
 obtain⟨T,hT⟩:∃T,2^(32-k)=T:=⟨_,rfl⟩
 rw[hT]at I
 have h4:y*T%4294967296=y%s*T:=by rw[<-I,sX]
 have O:x/s<T:=gH (by rw[I];exact U)
 have h5:y%s*T<4294967296:=by
  rw[<-I]
  exact rB (vW _ J) (by rw[<-hT];exact rA _)
 have h0:y%s*T|||x/s=y%s*T+x/s:=by
  rw[<-hT]at O ⊢
  rw[vS]
  exact(lP O _).symm
 have hz:y%s*T+x/s<4294967296:=by
  have h1:(y%s+1)*T<=s*T:=uE _ (vW _ J)
  rw[I,vT,uU]at h1
  obtain⟨f,hf1⟩:∃f,x/s=f:=⟨_,rfl⟩
  rw[hf1]at O ⊢
  omega
 refine⟨x/s,y*2^(32-k)%4294967296,y%s*T+x/s,rfl,rfl,nF (pS _ _) U,by omega,?_,hz,?_,fun e=>by rw[e,gN,uL]⟩
 .rw[hT,h4,u32_or_nat _ _ (nF (pS _ _) U) h5,Nat.or_comm,h0]
 .rw[uG,pM,I,vS (y%s)]
  have:=uX x s
  omega
theorem zQ4(A:WG Addr)(n c:Nat)(l:List Nat)(k:Nat)(w:WB)(h:Rd w A n c l)(ht:Lt l)(hk:k<=31)(hn:n<=100000):
  Calls prog 165 #[.slice A n c,.int .i64 (k:Int)] w (jK w (val l/2^k)):=by
 have hmix:prog.follows .mixedOrders=true:=by kernel_rfl
 have hle:=h.le;have hcap:=h.cap
 have HN:=hid h.len
 have hk1:(k:Int)/32=0:=by omega
 have hk2:(k:Int)%32=(k:Int):=by omega
 have hk3:(k:Int).tdiv 32=0:=by rw[sU oA];exact hk1
 have hk4:(k:Int).tmod 32=(k:Int):=by rw[pD oA];exact hk2
 have hcount:∀w1:WB,Calls prog 168 #[.int .i64 (k:Int),.int .i64 65536] w1 fun e w'=>e=.returned (.int .i64 (k:Int))/\w'=w1:=fun w1=>zI7 k 65536 oA oA w1
 rcases uH n with rfl|hn0
 .obtain rfl:l=[]:=xM h.len
  go_enter func165,ntmps165
  go_wp2
  go_step3
  go_wp2_with (go_at_call 168;go_must (refine(hcount _).mono ?_;rintro e w1 ⟨rfl,hw1⟩;rw[hw1];clear hw1 w1))
  rw[lK]
  go_ret
  exact⟨none,0,0, [],rfl,by show Is [] (0/2^k);rw[Nat.zero_div];exact Is.nil,wM w,xF _ _⟩
 .obtain⟨b,o,rfl,_,_⟩:=h.shape hn0
  have hclone:=zEq (some ⟨b,o,none⟩) n c l w h oA
  obtain⟨s,hs⟩:∃s,2^k=s:=⟨_,rfl⟩
  rw[hs]
  go_enter func165,ntmps165
  go_wp2
  go_step3
  go_wp2_with (first|(go_at_call 168;go_must (refine(hcount _).mono ?_;rintro e w1 ⟨rfl,hw1⟩;rw[hw1];clear hw1 w1))|(go_at_call 143;go_must (refine hclone.mono ?_;rintro e w1 ⟨A1,c1,rfl,ho1,hb1⟩;obtain⟨R,rfl,_,hR,hrow⟩:=Row.of_own ho1 (by rw[h.len];exact hn0))))
  go_step3
  go_wp2
  go_loopw [21] (zWJ w R c1 l n s) (fun i _=>n-(intOf i).toNat)
  case atStart=>exact⟨0,l,vR _,rfl,hrow,HN.out,ht,fun _ _=>rfl,by simp[sm],hb1⟩
  case round=>
   obtain⟨j,l',hj,rfl,hr,hl,hlt,hun,heq,hB⟩:=hrel
   have HQ:=hid heq
   have HU:=hid hun
   clear heq hun
   by_cases hjn:j<n
   .have hrc:=hr.cap
    have gr:=hr.cell (i:=j) oA
    have gf:=hr.frozen j
    have hx0:lm l' j=lm l j:=HU.out _ (vP _)
    have x1:=qR ht j
    simp only[BB]at x1
    obtain⟨x,hx⟩:∃x,lm l j=x:=⟨_,rfl⟩
    obtain⟨y,hy⟩:∃y,lm l (j+1)=y:=⟨_,rfl⟩
    rw[hx0,hx]at gr
    rw[hx]at x1
    obtain⟨f,sh,z,hf,hsh,hf2,hsh2,hor,hz,hst,hfz⟩:=zOJ x y s k hk hs x1
    have hdv:(x:Int)/2^k=(f:Int):=by
     rw[<-hf,<-hs,pH,sT]
     rfl
    have HX:=hid hx;have HY:=hid hy;have HST:=hid hst;have HFZ:=hid hfz;have HSH:=hid hsh
    clear hx hx0 hy hst hf hfz hsh
    have key:∀(W:WB) (v:Nat),v<4294967296->v=z->Row W R c1 (l'.set j v)->Below w.heap.size w W->zWJ w R c1 l n s (.int .i64 ((j:Int)+1)) W:=by
     intro W v hv hvz hr2 hb2
     subst hvz
     refine⟨j+1,l'.set j v,by omega,by go_num,hr2,by rw[uK];exact hl,zDg hlt hz,fun y hy=>?_,?_,hb2⟩
     .rw[zA3 oA,if_neg oA]
      exact HU.out y oA
     .have e1:sm (lm (l'.set j v)) (j+1)=sm (lm l') j+v*BB^j:=by
       show sm (lm (l'.set j v)) j+lm (l'.set j v) j*BB^j=_
       rw[zA3 oA,if_pos rfl]
       congr 1
       exact zAV fun i hi=>by rw[zA3 oA,if_neg oA]
      rw[e1,HY.out,vY]
      show sm (lm l) j+lm l j*BB^j+_*(BB^j*4294967296)=_
      rw[HX.out]
      have hq:=HQ.out
      rw[HX.out]at hq
      exact zOK hq HST.out
    have HK:=hid key
    clear key
    rcases(by omega:n<=j+1∨(j+1<n/\k=0)∨(j+1<n/\0<k))with h9|⟨h9,h10⟩|⟨h9,h10⟩
    .have hy0:=HY.out
     rw[zEc (by have:=HN.out;omega)]at hy0
     have hfz:=HFZ.out (by rw[<-hy0];exact Nat.zero_mod s)
     have hk9:=HK.out _ f hf2 hfz (hr.set j f) (hB.setCell (p:=⟨R,j,none⟩) hR _)
     have HK9:=hid hk9
     clear hy0 hfz hk9
     go_wp2
     exact⟨HK9.out,by simp[intOf];omega⟩
    .have hk0:((k:Int)==0)=true:=by simp[h10]
     have hfz:=HFZ.out (by rw[<-hs,h10];exact gO y)
     have hk9:=HK.out _ f hf2 hfz (hr.set j f) (hB.setCell (p:=⟨R,j,none⟩) hR _)
     have HK9:=hid hk9
     clear hfz hk9 h10
     go_wp2
     exact⟨HK9.out,by simp[intOf];omega⟩
    .have hr9:=hr.set j f
     have hk9:=HK.out ((wr.setCell ⟨R,j,none⟩ (.int .u32 (f:Int))).setCell ⟨R,j,none⟩ (.int .u32 (z:Int))).drew z hz rfl (by have:=hr9.set j z;rw[List.set_set]at this;exact this.kept rfl) ((hB.setCell (p:=⟨R,j,none⟩) hR _).setCell (p:=⟨R,j,none⟩) hR _).drew
     have HK9:=hid hk9
     clear hk9
     have hk0:((k:Int)==0)=false:=by simp only[nJ,ne_eq];omega
     have hjl:(j:Int)+1<(l.length:Int):=by have:=HN.out;omega
     have hwr:IntKind.i64.wrap ((j:Int)+1)=(j:Int)+1:=by rw[sS];omega
     have hjt:((j:Int)+1).toNat=j+1:=by omega
     obtain⟨m,hm⟩:∃m,32-k=m:=⟨_,rfl⟩
     have e2:(32:Int)-(k:Int)=(m:Int):=by omega
     have e3:IntKind.i64.wrap (m:Int)=(m:Int):=by rw[sS];omega
     have hshl:(y:Int)*2^m%4294967296=(sh:Int):=by
      rw[<-HSH.out,hm,pL,pE,sT]
      rfl
     have hm32:m<=32:=by omega
     clear hm
     have d1:(wr.setCell ⟨R,j,none⟩ (.int .u32 (f:Int))).drew.cell? ⟨R,j,none⟩=some (.int .u32 (f:Int)):=by
      have:=hr9.cell (i:=j) (by rw[uK];omega)
      rwa [zA3 oA,if_pos rfl]at this
     have d2:(wr.setCell ⟨R,j,none⟩ (.int .u32 (f:Int))).drew.cell? ⟨R,j+1,none⟩=some (.int .u32 (y:Int)):=by
      have:=hr9.cell (i:=j+1) (by rw[uK];omega)
      rw[zA3 oA,if_neg oA,HU.out _ oA,HY.out]at this
      exact this
     have d3:(wr.setCell ⟨R,j,none⟩ (.int .u32 (f:Int))).drew.frozen? ⟨R,j,none⟩=false:=hr9.frozen j
     go_wp2
     refine(bL (n:=0)).1<|yC 15 (fun W=>W.cell? ⟨R,j,none⟩=some (.int .u32 (f:Int))/\W.cell? ⟨R,j+1,none⟩=some (.int .u32 (y:Int))) hmix ?_
     have d4:=And.intro d1 d2
     refine zP (i:=0) (v:=?vv1) kA kA rfl kA kA kA fD d4 ⟨.inl ⟨rfl,?yy1⟩,fun _=>rfl⟩ ?_
     case yy1=>
      rintro wx ⟨q1,q2⟩
      go_simp
      first|done|rfl
     refine zP (i:=1) (v:=?vv2) kA kA rfl kA kA kA fD d4 ⟨.inl ⟨rfl,?yy2⟩,fun _=>rfl⟩ ?_
     case yy2=>
      rintro wx ⟨q1,q2⟩
      go_simp
      first|done|rfl
     refine zP (i:=2) (v:=?vv3) kA kA rfl kA kA kA fD d4 ⟨.inl ⟨rfl,?yy3⟩,fun _=>rfl⟩ ?_
     case yy3=>
      rintro wx ⟨q1,q2⟩
      go_simp
      first|done|rfl
     refine zP (i:=3) (v:=?vv4) kA kA rfl kA kA kA fD d4 ⟨.inl ⟨rfl,?yy4⟩,fun _=>rfl⟩ ?_
     case yy4=>
      rintro wx ⟨q1,q2⟩
      go_simp
      first|done|rfl
     refine zP (i:=4) (v:=?vv5) kA kA rfl kA kA kA fD d4 ⟨.inl ⟨rfl,?yy5⟩,fun _=>rfl⟩ ?_
     case yy5=>
      rintro wx ⟨q1,q2⟩
      go_simp
      first|done|rfl
     refine zP (i:=5) (v:=?vv6) kA kA rfl kA kA kA fD d4 ⟨.inl ⟨rfl,?yy6⟩,fun _=>rfl⟩ ?_
     case yy6=>
      rintro wx ⟨q1,q2⟩
      go_simp
      first|done|rfl
     refine zP (i:=6) (v:=?vv7) kA kA rfl kA kA kA fD d4 ⟨.inl ⟨rfl,?yy7⟩,fun _=>rfl⟩ ?_
     case yy7=>
      rintro wx ⟨q1,q2⟩
      go_simp
      first|done|rfl
     refine zP (i:=7) (v:=?vv8) kA kA rfl kA kA kA fD d4 ⟨.inl ⟨rfl,?yy8⟩,fun _=>rfl⟩ ?_
     case yy8=>
      rintro wx ⟨q1,q2⟩
      go_simp
      first|done|rfl
     refine zP (i:=8) (v:=?vv9) kA kA rfl kA kA kA fD d4 ⟨.inl ⟨rfl,?yy9⟩,fun _=>rfl⟩ ?_
     case yy9=>
      rintro wx ⟨q1,q2⟩
      go_simp
      first|done|rfl
     refine zP (i:=9) (v:=?vv10) kA kA rfl kA kA kA fD d4 ⟨.inl ⟨rfl,?yy10⟩,fun _=>rfl⟩ ?_
     case yy10=>
      rintro wx ⟨q1,q2⟩
      go_simp
      first|done|rfl
     refine zP (i:=10) (v:=?vv11) kA kA rfl kA kA kA fD d4 ⟨.inl ⟨rfl,?yy11⟩,fun _=>rfl⟩ ?_
     case yy11=>
      rintro wx ⟨q1,q2⟩
      go_simp
      first|done|rfl
     refine zP (i:=11) (v:=?vv12) kA kA rfl kA kA kA fD d4 ⟨.inl ⟨rfl,?yy12⟩,fun _=>rfl⟩ ?_
     case yy12=>
      rintro wx ⟨q1,q2⟩
      go_simp
      first|done|rfl
     refine zP (i:=12) (v:=?vv13) kA kA rfl kA kA kA fD d4 ⟨.inl ⟨rfl,?yy13⟩,fun _=>rfl⟩ ?_
     case yy13=>
      rintro wx ⟨q1,q2⟩
      go_simp
      first|done|rfl
     refine zP (i:=13) (v:=?vv14) kA kA rfl kA kA kA fD d4 ⟨.inl ⟨rfl,?yy14⟩,fun _=>rfl⟩ ?_
     case yy14=>
      rintro wx ⟨q1,q2⟩
      go_simp
      first|done|rfl
     refine zP (i:=14) (v:=?vv15) kA kA rfl kA kA kA fD d4 ⟨.inl ⟨rfl,?yy15⟩,fun _=>rfl⟩ ?_
     case yy15=>
      rintro wx ⟨q1,q2⟩
      go_simp
      first|done|rfl
     refine zAN (i:=15) kA rfl (fun K hK=>?_)
     go_simp
     refine hK _ _ (.inl rfl) ?_
     clear hK K
     refine zCR kA ?_
     go_wp2
     rw[hshl,hor]
     exact⟨HK9.out,by simp[intOf];omega⟩
   .obtain rfl:j=n:=by omega
    have hfin:val l'=val l/s:=by
     have e1:sm (lm l) j=val l:=by have:=HN.out;unfold val;rw[this]
     have e2:sm (lm l') j=val l':=by unfold val;rw[hl]
     have e3:lm l j=0:=zEc (by have:=HN.out;omega)
     have hq:=HQ.out
     rw[e1,e2,e3,Nat.zero_mod,gN,uM]at hq
     have hs0:0<s:=by rw[<-hs];exact rA _
     rw[hq,gL hs0,uO (vW _ hs0),uM]
    have hrd:Rd wr (some ⟨R,0,none⟩) l.length c1 l':=by have:=hr.rd;rwa [hl,<-HN.out]at this
    have htr:=q9 (some ⟨R,0,none⟩) l.length c1 l' wr hrd hlt (by rw[HN.out];omega)
    rw[hfin]at htr
    clear hfin
    go_wp2_with (go_at_call 124;(with_reducible refine htr.mono ?_);rintro e w2 ⟨A2,n2,c2,l2,rfl,hi2,hr2,hb2⟩)
    rw[lK]
    go_ret
    exact⟨A2,n2,c2,l2,rfl,hi2,hr2,hB.trans (hb2.mono hB.size)⟩
theorem zGw(k most:Int)(h0:0<=k)(h1:k<=most)(w:WB):Calls prog 138 #[.int .i64 k,.int .i64 most] w fun e w'=>e=.returned (.int .i64 k)/\w=w':=by
 have hmax:max k 0=k:=by omega
 have hmin:min k most=k:=by omega
 go_enter func138,ntmps138
 go_wp2
 go_ret
 exact⟨rfl,rfl⟩
theorem zLX(m:Nat)(h:m<=17592186044416)(w:WB):yB (w.alloc (.cells (madeCells #[.int .u32 0] m) 69)) w.heap.size 69 (.slice (some ⟨w.heap.size,0,none⟩) m m) (List.replicate m 0):=by
 have I:madeCells #[.int .u32 0] m=(zBL (List.replicate m 0)).toArray:=by
  apply Array.ext'
  simp[madeCells,zBL,gO,pP]
 rw[I]
 unfold yB
 rw[pB]
 exact⟨by simp[zBL],.inr ⟨w.heap.size,m,_,rfl,vP _,xL w _,vP _,by unfold maxLen;omega,by simp[zBL],by simp[zBL,nK]⟩⟩
def zY3(w:WB)(l:List Nat)(n s q:Nat)(v o i:Value)(W:WB):Prop:=
 ∃(j u:Nat) (A:WG Addr) (c:Nat) (lo:List Nat),j<=n/\i=.int .i64 j/\o=.int .u32 u/\v=.slice A (q+j) c/\u<s/\yB W w.heap.size 69 (.slice A (q+j) c) lo/\lo.length=q+j/\Lt lo/\
  val lo+u*BB^(q+j)=s*sm (lm l) j*BB^q/\Below w.heap.size w W
theorem zPG{X u Q hi:Nat}(h1:X+u*(Q*P)=s*B*Q)(h2:x*s+u=z+hi*4294967296):X+z*(Q*P)+hi*(Q*P*4294967296)=s*(B+x*P)*Q:=by
 have J:(x*s+u)*(Q*P)=(z+hi*4294967296)*(Q*P):=by rw[h2]
 have I:s*(B+x*P)*Q=s*B*Q+x*s*(Q*P):=by
  rw[uG,vT]
  congr 1
  rw[vS x s,vX,vX,vX,vS P Q]
 rw[I,<-h1]
 have e3:hi*(Q*P*4294967296)=hi*4294967296*(Q*P):=by rw[vS (Q*P),vX]
 rw[vT,vT]at J
 omega
theorem zMV(A:WG Addr)(n c:Nat)(l:List Nat)(q t:Nat)(w:WB)(h:Rd w A n c l)(ht:Lt l)(htt:t<=31)(hq:32*q+t<=65536)(hn:n<=100000):
  Calls prog 116 #[.slice A n c,.int .i64 ((32*q+t:Nat):Int)] w (jK w (val l*2^(32*q+t))):=by
 have hle:=h.le;have hcap:=h.cap
 have HN:=hid h.len
 have hpw:2^(32*q+t)=BB^q*2^t:=by rw[uA,<-zGO]
 obtain⟨k,hk⟩:∃k,32*q+t=k:=⟨_,rfl⟩
 rw[hk]at hpw hq ⊢
 have hk1:(k:Int)/32=(q:Int):=by omega
 have hk2:(k:Int)%32=(t:Int):=by omega
 have hk3:(k:Int).tdiv 32=(q:Int):=by rw[sU oA];exact hk1
 have hk4:(k:Int).tmod 32=(t:Int):=by rw[pD oA];exact hk2
 have hq2:q<=2048:=by omega
 have hmk:∀wx:WB,(Instr.makeSlice 24 (.int .i64 (q:Int)) (.int .i64 (q:Int))).run prog wx=.ok (.slice (some ⟨wx.heap.size,0,none⟩) q q) (wx.alloc (.cells (madeCells #[.int .u32 0] q) 69)):=fun wx=>by
  have:=zBp q oA wx
  exact this
 obtain⟨s,hs⟩:∃s,2^t=s:=⟨_,rfl⟩
 rw[hs]at hpw
 rw[hpw]
 have hsl:s<4294967296:=by rw[<-hs];exact nF (vZ oA htt) (by decide)
 clear hpw hk
 go_enter func116,ntmps116
 go_wp2_with (go_at_call 138;refine(zGw k 65536 oA oA _).mono ?_;rintro e w1 ⟨rfl,rfl⟩)
 go_loopw [5,6,7] (zY3 w l n s q) (fun _ _ i _=>n-(intOf i).toNat)
 case atStart=>exact⟨0,0,_,_,List.replicate q 0,vR _,rfl,rfl,rfl,by rw[<-hs];exact rA _,zLX q oA w,by simp,zAa _,by rw[zAC];simp[sm],(xF _ w).alloc (vP _) _⟩
 case round=>
  obtain⟨j,u,Ao,co,lo,hj,rfl,rfl,rfl,hu,hown,hlo,hlt,heq,hB⟩:=hrel
  have HQ:=hid heq
  have HLO:=hid hlo
  clear heq hlo
  have hr:=h.below hB
  by_cases hjn:j<n
  .obtain⟨b,o,rfl,hcb⟩:=hr.cells j hjn
   have x1:=qR ht j
   simp only[BB]at x1
   obtain⟨x,hx⟩:∃x,lm l j=x:=⟨_,rfl⟩
   rw[hx]at x1 hcb
   obtain⟨p,hi,lw,z,hp,hp2,hhi,hlw,hhs,hlw2,hor,hz,hst⟩:=zMs x s u t htt hs x1 hu
   have hshl:IntKind.u64.wrap ((x:Int)*2^t)=(p:Int):=by
    have e1:(x:Int)*2^t=(p:Int):=by
     rw[<-hp,<-hs,pE,sT]
     rfl
    rw[e1,nQ]
    omega
   have hp3:(p:Int)/4294967296=(hi:Int):=by omega
   have hp4:(p:Int)%4294967296=(lw:Int):=by omega
   have hp5:(hi:Int)%4294967296=(hi:Int):=by omega
   have HX:=hid hx;have HST:=hid hst
   clear hx hst hp hhi hlw
   have hs1:lo.length+ [z].length<=17592186044416:=by have:=HLO.out;simp;omega
   have hl1:(lo++ [z]).length=q+(j+1):=by have:=HLO.out;simp;omega
   go_wp2_with (at_builtin;refine zS rfl _ _ 24 69 rfl z7 yQ w.heap.size _ lo rfl (yB.alloc hown _) _ 1 1 [z] rfl (Rd.one _ z 69) hs1 (y8 hB.size _) ?_;intro v1 w3 hown1 hg1 hat1;obtain⟨A1,c1,rfl⟩:=hown1.form' hl1)
   go_roundw
   case rel=>exact⟨j+1,hi,A1,c1,lo++ [z],by omega,by go_num,rfl,rfl,hhs,hown1,hl1,zBh hlt hz,by rw[zAo,HLO.out];simp only[sm,vY,<-uS];rw[HX.out,uA];exact zPG (by rw[<-uA];exact HQ.out) HST.out,yB.grown (hB.alloc hB.size _) (yB.alloc hown _) hg1 (vP _) (y8 hB.size _)⟩
   case measure=>simp[intOf];omega
  .obtain rfl:j=n:=by omega
   have hs1:lo.length+ [u].length<=17592186044416:=by have:=HLO.out;simp;omega
   have hl1:(lo++ [u]).length=q+j+1:=by have:=HLO.out;simp;omega
   have hl2:Lt (lo++ [u]):=zBh hlt (by unfold BB;omega)
   have hk9:q+j+1<=1099511627776:=by omega
   go_wp2_with (first|(at_builtin;refine zS rfl _ _ 24 69 rfl z7 yQ w.heap.size _ lo rfl (yB.alloc hown _) _ 1 1 [u] rfl (Rd.one _ u 69) hs1 (y8 hB.size _) ?_;intro v1 w3 hown1 hg1 hat1;obtain⟨A1,c1,rfl⟩:=hown1.form' hl1)|(go_at_call 40;refine(jR _ _ _ _ _ hown1.rd hl2 hk9).mono ?_;rintro e w2 ⟨A2,n2,c2,l2,rfl,hi2,hr2,hb2⟩))
   go_ret
   have e1:=zAZ (l:=l) (n:=j) (by have:=HN.out;omega)
   have hv:val (lo++ [u])=val l*(BB^q*s):=by rw[zAo,HLO.out,HQ.out,e1,vS s,vX,vS s]
   rw[hv]at hi2
   have hB1:=yB.grown (hB.alloc hB.size _) (yB.alloc hown _) hg1 (vP _) (y8 hB.size _)
   exact⟨A2,n2,c2,l2,rfl,hi2,hr2,hB1.trans (hb2.mono hB1.size)⟩
def zSl(w:WB)(l:List Nat)(n q s:Nat)(v i:Value)(W:WB):Prop:=
 ∃(j:Nat) (A:WG Addr) (c:Nat) (lo:List Nat),q+j<=n/\i=.int .i64 ((q+j:Nat):Int)/\v=.slice A j c/\yB W w.heap.size 69 (.slice A j c) lo/\lo.length=j/\Lt lo/\
  val lo*s+lm l q%s=sm (fun x=>lm l (q+x)) j+lm l (q+j)%s*BB^j/\Below w.heap.size w W
theorem zLM(x y s t:Nat)(ht:t<=31)(hs:2^t=s)(hx:x<4294967296)(hy:y<4294967296):
  ∃m z:Nat,x+y*4294967296=m/\m<18446744073709551616/\bits .or .u64 (x:Int) ((y:Int)*4294967296)=(m:Int)/\m/s%4294967296=z/\z<4294967296/\z*s+x%s=x+y%s*4294967296:=by
 have h0:=zE8 y x hy hx
 have J:bits .or .u64 (x:Int) ((y:Int)*4294967296)=bits .or .u64 ((y:Int)*4294967296) (x:Int):=by
  have e:=lM x (y*4294967296) oA oA
  have U:=lM (y*4294967296) x oA oA
  rw[Nat.or_comm]at U
  rw[show((y:Int)*4294967296)=((y*4294967296:Nat):Int)from by omega,e,U]
 have I:s*2^(32-t)=4294967296:=by
  rw[<-hs,<-uA,show t+(32-t)=32 from by omega]
 have O:0<s:=by rw[<-hs];exact rA _
 obtain⟨g,hg⟩:∃g,2^(32-t)=g:=⟨_,rfl⟩
 rw[hg]at I
 refine⟨_,_,rfl,by omega,by rw[J,h0];omega,rfl,vW _ oA,?_⟩
 have e1:(x+y*4294967296)/s=x/s+y*g:=by
  rw[<-I,show y*(s*g)=s*(y*g)from by rw[pM],gC _ _ O]
 have hxs:x/s<g:=gH (by rw[I];exact hx)
 have U:(x/s+y*g)%4294967296=x/s+y%s*g:=by
  have e3:y*g=y%s*g+4294967296*(y/s):=by
   have:=uX y s
   calc y*g=(s*(y/s)+y%s)*g:=by rw[this]
    _=y%s*g+4294967296*(y/s):=by rw[vT,gJ,<-I];congr 1;rw[vX,vX,vS g]
  rw[e3,<-uS,gT,uC]
  have h1:y%s<s:=vW _ O
  have h2:(y%s+1)*g<=s*g:=uE _ h1
  rw[I,vT]at h2
  omega
 rw[e1,U,vT]
 have e4:=uX x s
 have e5:y%s*g*s=y%s*4294967296:=by rw[vX,vS g,I]
 rw[e5,vS (x/s)]
 omega
theorem zLN{Z r S y:Nat}(h1:Z*s+r=S+x%s*P)(h2:z*s+x%s=x+y%s*4294967296):(Z+z*P)*s+r=S+x*P+y%s*(P*4294967296):=by
 have I:(z*s+x%s)*P=(x+y%s*4294967296)*P:=by rw[h2]
 rw[vT,vT]at I
 have e2:(Z+z*P)*s=Z*s+z*s*P:=by rw[vT,Nat.mul_right_comm]
 have e3:y%s*(P*4294967296)=y%s*4294967296*P:=by rw[vS P,vX]
 omega
theorem zM5(A:WG Addr)(n c:Nat)(l:List Nat)(q t:Nat)(w:WB)(h:Rd w A n c l)(ht:Lt l)(htt:t<=31)(hq:32*q+t<=65536)(hn:n<=100000)(hqn:q<=n):
  Calls prog 113 #[.slice A n c,.int .i64 ((32*q+t:Nat):Int)] w (jK w (val l/2^(32*q+t))):=by
 have hle:=h.le;have hcap:=h.cap
 have HN:=hid h.len
 have hpw:2^(32*q+t)=BB^q*2^t:=by rw[uA,<-zGO]
 obtain⟨k,hk⟩:∃k,32*q+t=k:=⟨_,rfl⟩
 rw[hk]at hpw hq ⊢
 have hk1:(k:Int)/32=(q:Int):=by omega
 have hk2:(k:Int)%32=(t:Int):=by omega
 have hk3:(k:Int).tdiv 32=(q:Int):=by rw[sU oA];exact hk1
 have hk4:(k:Int).tmod 32=(t:Int):=by rw[pD oA];exact hk2
 have hq2:q<=2048:=by omega
 obtain⟨s,hs⟩:∃s,2^t=s:=⟨_,rfl⟩
 rw[hs]at hpw
 rw[hpw]
 have HS0:Hid (0<s):=hid (by rw[<-hs];exact rA _)
 have HS:=hid hs
 clear hpw hk hs
 have hown0:yB w w.heap.size 69 (.slice none 0 0) []:=wV w _ _
 go_enter func113,ntmps113
 go_wp2_with (go_at_call 138;refine(zGw k 65536 oA oA _).mono ?_;rintro e w1 ⟨rfl,rfl⟩)
 go_loopw [5,6] (zSl w l n q s) (fun _ i _=>n-(intOf i).toNat)
 case atStart=>exact⟨0,none,0, [],by omega,by simp,rfl,hown0,rfl,zB4,by simp[sm],xF _ _⟩
 case round=>
  obtain⟨j,Ao,co,lo,hj,rfl,rfl,hown,hlo,hlt,heq,hB⟩:=hrel
  have HQ:=hid heq
  have HLO:=hid hlo
  clear heq hlo
  have hr:=h.below hB
  obtain⟨p,hp⟩:∃p,q+j=p:=⟨_,rfl⟩
  rw[hp]at hj ⊢
  have HP':=hid hp
  clear hp
  by_cases hjn:p<n
  .obtain⟨b,o,rfl,hcb⟩:=hr.cells p hjn
   have x1:=qR ht p
   have y1:=qR ht (p+1)
   simp only[BB]at x1 y1
   obtain⟨x,hx⟩:∃x,lm l p=x:=⟨_,rfl⟩
   obtain⟨y,hy⟩:∃y,lm l (p+1)=y:=⟨_,rfl⟩
   rw[hx]at x1 hcb
   rw[hy]at y1
   obtain⟨m,z,hm,hm2,hor,hz,hz2,hst⟩:=zLM x y s t htt HS.out x1 y1
   have hshr:(m:Int)/2^t%4294967296=(z:Int):=by
    rw[<-hz,pL,pH,<-HS.out,sT]
    rfl
   have HX:=hid hx;have HY:=hid hy;have HST:=hid hst;have HSH:=hid hshr;have HP:=HP';have HM:=hid hm
   clear hx hy hst hz hshr hm
   have hs1:lo.length+ [z].length<=17592186044416:=by have:=HLO.out;have:=HP.out;simp;omega
   have hl1:(lo++ [z]).length=j+1:=by have:=HLO.out;simp;omega
   have hrel2:∀(W3:WB) (A1:WG Addr) (c1:Nat),yB W3 w.heap.size 69 (.slice A1 (j+1) c1) (lo++ [z])->Below w.heap.size w W3->zSl w l n q s (.slice A1 (j+1) c1) (.int .i64 ((p:Int)+1)) W3:=by
    intro W3 A1 c1 h1 h2
    refine⟨j+1,A1,c1,lo++ [z],by have:=HP.out;omega,by have:=HP.out;congr 1;omega,rfl,h1,hl1,zBh hlt hz2,?_,h2⟩
    rw[zAo,HLO.out]
    simp only[sm]
    have e1:q+(j+1)=p+1:=by have:=HP.out;omega
    rw[e1,HP.out,HX.out,HY.out,vY]
    have hq0:=HQ.out
    rw[HP.out,HX.out]at hq0
    exact zLN hq0 HST.out
   have HR:=hid hrel2
   clear hrel2
   by_cases hj1:p+1<n
   .obtain⟨b2,o2,e2,hcb2⟩:=hr.cells (p+1) hj1
    cases e2
    rw[HY.out]at hcb2
    have hpt:((p:Int)+1).toNat=p+1:=by omega
    have hpw2:IntKind.u64.wrap ((y:Int)*4294967296)=(y:Int)*4294967296:=by rw[nQ];omega
    have hshr:=HSH.out
    go_wp2_with (at_builtin;refine zS rfl _ _ 24 69 rfl z7 yQ w.heap.size _ lo rfl (yB.alloc hown _) _ 1 1 [z] rfl (Rd.one _ z 69) hs1 (y8 hB.size _) ?_;intro v1 w3 hown1 hg1 hat1;obtain⟨A1,c1,rfl⟩:=hown1.form' hl1)
    have hB1:=yB.grown (hB.alloc hB.size _) (yB.alloc hown _) hg1 (vP _) (y8 hB.size _)
    exact⟨HR.out w3 A1 c1 hown1 hB1,by simp[intOf];omega⟩
   .have hy0:y=0:=by rw[<-HY.out];exact zEc (by have:=HN.out;omega)
    have hmx:m=x:=by have:=HM.out;omega
    subst hmx
    have hshr:=HSH.out
    clear hor
    go_wp2_with (at_builtin;refine zS rfl _ _ 24 69 rfl z7 yQ w.heap.size _ lo rfl (yB.alloc hown _) _ 1 1 [z] rfl (Rd.one _ z 69) hs1 (y8 hB.size _) ?_;intro v1 w3 hown1 hg1 hat1;obtain⟨A1,c1,rfl⟩:=hown1.form' hl1)
    have hB1:=yB.grown (hB.alloc hB.size _) (yB.alloc hown _) hg1 (vP _) (y8 hB.size _)
    exact⟨HR.out w3 A1 c1 hown1 hB1,by simp[intOf];omega⟩
  .obtain rfl:p=n:=by omega
   have hl0:lm l p=0:=zEc (by have:=HN.out;omega)
   have hq0:=HQ.out
   have hsm:sm (fun x=>lm l (q+x)) j=val l/BB^q:=by
    have e1:=zAb l q (by have:=HN.out;omega)
    have e2:=q8 (zB3 ht q)
    rw[uD,uQ (by have:=HN.out;omega)]at e2
    have e3:val (l.drop q)=sm (fun x=>lm l (q+x)) j:=by
     unfold val
     rw[uJ,HN.out,show p-q=j from by have:=HP'.out;omega]
     exact zAV fun i _=>zDK
    rw[<-e3,e1,gC _ _ (zCC q),uO e2,uL]
   rw[HP'.out,hl0,Nat.zero_mod,gN,uM,hsm]at hq0
   have hrs:lm l q%s<s:=vW _ HS0.out
   have hv:val lo=val l/(BB^q*s):=by
    rw[<-Nat.div_div_eq_div_mul,<-hq0,vS,gL HS0.out,uO hrs,uM]
   have htr:=jR _ _ _ lo wr hown.rd hlt (by have:=HP'.out;omega)
   rw[hv]at htr
   clear hq0 hsm hv hrs hl0
   go_wp2_with (go_at_call 40;refine htr.mono ?_;rintro e w2 ⟨A2,n2,c2,l2,rfl,hi2,hr2,hb2⟩)
   go_ret
   exact⟨A2,n2,c2,l2,rfl,hi2,hr2,hB.trans (hb2.mono hB.size)⟩
theorem zMZ(A:WG Addr)(n c:Nat)(l:List Nat)(w:WB)(h:Rd w A n c l)(ht:Lt l)(hl:n<=1099511627776):
  Calls prog 40 #[.slice A n c] w (zLC w (val l)):=by
 have hle:=h.le;have hcap:=h.cap;have hlen:=h.len
 have hown:yB (w.alloc (.cells #[] 69)) w.heap.size 69 (.slice (some ⟨w.heap.size,0,none⟩) 0 0) []:=lN (base:=w.heap.size) (e:=69) (size:=1) w #[] 0 (vP _) (by unfold maxLen;omega) rfl
 have hbs:w.heap.size<=(w.alloc (.cells #[] 69)).heap.size:=by simp
 go_enter func40,ntmps40
 go_wp2
 go_loop [3] (fun x=>∃k:Nat,k<=n/\x=.int .i64 k/\(∀i,k<=i->i<l.length->lm l i=0)) (fun x=>(intOf x).toNat)
 case atStart=>exact⟨n,vP _,rfl,fun i h1 h2=>by omega⟩
 case round=>
  obtain⟨k,hk,rfl,hz⟩:=hrel
  have HZ:=hid hz
  clear hz
  have hfin:∀w1 A1 c1,yB w1 w.heap.size 69 (.slice A1 k c1) ([]++l.take k)->(k=0∨lm l (k-1)≠0)->(w.alloc (.cells #[] 69)).grownBy w1 (Value.ownBlock (.slice (some ⟨w.heap.size,0,none⟩) 0 0))->zLC w (val l) (.returned (.slice A1 k c1)) w1:=by
   intro w1 A1 c1 h1 h2 h3
   rw[lJ]at h1
   exact⟨A1,k,c1,l.take k,rfl,⟨zB3 ht _,zCm l k oA HZ.out h2,jN oA HZ.out⟩,h1,yB.grown ((xF w.heap.size w).alloc (vP _) _) hown h3 (vP _) hbs⟩
  have HF:=hid hfin
  clear hfin
  have hs1:([]:List Nat).length+(l.take k).length<=17592186044416:=by simp;omega
  have hl1:([]++l.take k).length=k:=by simp;omega
  by_cases h0:0<k
  .obtain⟨b,o,rfl,hc⟩:=h.cells (k-1) oA
   have e1:((k:Int)-1).toNat=k-1:=by omega
   by_cases hx:lm l (k-1)=0
   .go_wp2
    go_round
    case rel=>exact⟨k-1,by omega,by congr 1;omega,fun i h1 h2=>by
     by_cases e:i=k-1
     .subst e;exact hx
     .exact HZ.out i oA h2⟩
    case measure=>simp[intOf];omega
   .have hx2:((lm l (k-1):Int)==0)=false:=by simpa using hx
    have HX:=hid hx
    clear hx
    have hr1:Rd (w.alloc (.cells #[] 69)) (some ⟨b,o,none⟩) k c (l.take k):=(h.take hk oA (vP _)).alloc _
    go_wp2_with (at_builtin;go_must (refine zS rfl _ _ 24 69 rfl z7 yQ w.heap.size _ [] rfl hown _ k c (l.take k) rfl hr1 hs1 hbs ?_;intro v1 w1 hown1 hg1 hat1;obtain⟨A1,c1,rfl⟩:=hown1.form' hl1))
    go_ret
    exact HF.out w1 A1 c1 hown1 (.inr HX.out) hg1
  .obtain rfl:k=0:=by omega
   cases A with
   |none=>
    obtain⟨rfl,rfl,rfl⟩:=h.empty
    go_wp2_with (at_builtin;go_must (refine zS rfl _ _ 24 69 rfl z7 yQ w.heap.size _ [] rfl hown _ 0 0 [] rfl (wM _) hs1 hbs ?_;intro v1 w1 hown1 hg1 hat1;obtain⟨A1,c1,rfl⟩:=hown1.form' hl1))
    go_ret
    exact HF.out w1 A1 c1 hown1 (.inl (by simp)) hg1
   |some ad=>
    have hr1:Rd (w.alloc (.cells #[] 69)) (some ad) 0 c (l.take 0):=(h.take hk oA (vP _)).alloc _
    go_wp2_with (at_builtin;go_must (refine zS rfl _ _ 24 69 rfl z7 yQ w.heap.size _ [] rfl hown _ 0 c (l.take 0) rfl hr1 hs1 hbs ?_;intro v1 w1 hown1 hg1 hat1;obtain⟨A1,c1,rfl⟩:=hown1.form' hl1))
    go_ret
    exact HF.out w1 A1 c1 hown1 (.inl (by simp)) hg1
theorem zKz(A:WG Addr)(n c:Nat)(l:List Nat)(A':WG Addr)(n' c':Nat)(l':List Nat)(w:WB)(h:Rd w A n c l)(h':Rd w A' n' c' l')(ht:Lt l)(ht':Lt l')(hge:val l'<=val l)(hn:n<=137438953472):
  Calls prog 115 #[.slice A n c,.slice A' n' c'] w fun e w'=>∃A1 n1 c1 l1,e=.returned (.tuple #[.slice A1 n1 c1,.int .i64 0])/\Is l1 (val l-val l')/\yB w' w.heap.size 69 (.slice A1 n1 c1) l1/\Below w.heap.size w w':=by
 have hle:=h.le;have hcap:=h.cap;have hle':=h'.le;have hcap':=h'.cap
 have hcmp:decide (zAP (val l) (val l')<0)=false:=by
  unfold zAP
  rw[if_neg oA]
  split<;>simp
 have HN:Hid (l.length=n/\sm (lm l') n=val l'):=hid ⟨h.len,zJk (nF hge (by have:=q8 ht;rwa [h.len]at this))⟩
 have HG:=hid hge
 clear hge
 go_enter func115,ntmps115
 go_wp2_with (go_at_call 114;refine(zE3 A n c l A' n' c' l' _ h h' ht ht').mono ?_;rintro e w1 ⟨rfl,rfl⟩)
 go_loopw [6,7,8] (zWD w l l' n) (fun _ _ i _=>n-(intOf i).toNat)
 case atStart=>exact⟨0,0,none,0, [],vR _,rfl,rfl,rfl,by omega,wV _ _ _,rfl,zB4,by simp[sm],xF _ _⟩
 case round=>
  obtain⟨k,u,Ao,co,lo,hk,rfl,rfl,rfl,hu1,hown,hlk,hlt,heq,hB⟩:=hrel
  have HQ:=hid heq
  clear heq
  have hr:=h.below hB;have hr':=h'.below hB
  have x1:=qR ht k;have x2:=qR ht' k
  simp only[BB]at x1 x2
  by_cases h0:k<n
  .obtain⟨d,z,t,u',hd,hz,htt,hu',hz1,hu1',hd1,ht1,hstep⟩:=zIr (lm l k) (lm l' k) u x1 x2 hu1
   have HS:=hid hstep
   clear hstep
   have hs1:lo.length+ [z].length<=17592186044416:=by simp;omega
   have hl1:(lo++ [z]).length=k+1:=by simp;omega
   go_wp2_with (first|(go_at_call 139;first|((with_reducible refine(zAh A _ c l _ _ hr ht (mW k)).mono ?_);rintro e w1 ⟨rfl,rfl⟩)|((with_reducible refine(zAh A' _ c' l' _ _ hr' ht' (mW k)).mono ?_);rintro e w1 ⟨rfl,rfl⟩))|(at_builtin;refine zS rfl _ _ 24 69 rfl z7 yQ w.heap.size _ lo rfl (yB.alloc hown _) _ 1 1 [z] rfl (Rd.one _ z 69) hs1 (y8 hB.size _) ?_;intro v1 w1 hown1 hg1 hat1;obtain⟨A1,c1,rfl⟩:=hown1.form' hl1))
   go_roundw
   case rel=>exact⟨k+1,u',A1,c1,lo++ [z],by omega,by go_num,rfl,rfl,hu1',hown1,hl1,zBh hlt hz1,by rw[zAo,hlk];simp only[sm,vY];exact zG4 HQ.out HS.out,yB.grown (hB.alloc hB.size _) (yB.alloc hown _) hg1 (vP _) (y8 hB.size _)⟩
   case measure=>simp[intOf];omega
  .obtain rfl:k=n:=by omega
   have hk1:k<=1099511627776:=by omega
   go_wp2_with (go_at_call 40;refine(zMZ _ _ _ _ _ hown.rd hlt hk1).mono ?_;rintro e w2 ⟨A2,n2,c2,l2,rfl,hi2,hr2,hb2⟩)
   go_ret2
   have e1:=zAZ (l:=l) (n:=k) (by have:=HN.out;omega)
   have e2:=HN.out.2
   have e3:=q8 hlt
   have e4:=HQ.out
   have e5:=HG.out
   rw[hlk]at e3
   rw[e1,e2]at e4
   have hu0:u=0:=by
    rcases bF 0 u with h0|h0
    .have:u=1:=by omega
     subst this
     omega
    .omega
   subst hu0
   have hv2:val lo=val l-val l':=by omega
   rw[hv2]at hi2
   exact⟨A2,n2,c2,l2,rfl,hi2,hr2.base hB.size,hB.trans (hb2.mono hB.size)⟩
theorem zII{base:Nat}{A:WG Addr}{n c:Nat}(h:yB w base e (.slice A n c) l):∀b o,A=some ⟨b,o,none⟩->base<=b:=by
 intro b o J
 subst J
 rcases h.2 with⟨I,_⟩|⟨g,cap,cur,I,hg,_⟩
 .cases I
 .injection I with h1 h2 h3
  injection h1 with h1
  injection h1 with h1 _
  omega
end Go.Proofs.Wd
