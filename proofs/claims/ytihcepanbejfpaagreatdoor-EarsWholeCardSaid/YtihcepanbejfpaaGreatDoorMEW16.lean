/- Walks of prod's Up and Down; The walk of prod's Down; Walks of straitr and what it needs. -/
import Derived.Test.YtihcepanbejfpaaGreatDoorMEW15
import Derived.Test.YtihcepanbejfpaaGreatDoorMEW14
abbrev sT:=@Go.IntKind.wrap_i64
abbrev sU:=@Int.natCast_pow
abbrev sV:=@Int.tdiv_eq_ediv_of_nonneg
abbrev sX:=@Nat.lt_of_mul_lt_mul_left
abbrev sY:=@Nat.mul_mod_mul_right
namespace Go.Proofs.Wd
open Tryz
variable {w:WB}{B P s x z:Nat}{e:TypeId}{l:List Nat}
set_option maxRecDepth 100000
set_option maxHeartbeats 1000000
open Go.RowKit Lb
theorem zNw(k:Nat)(h:k<=17592186044416)(w:WB):
  (Instr.makeSlice 24 (.int .i64 0) (.int .i64 (k:Int))).run prog w=.ok (.slice (some ⟨w.heap.size,0,none⟩) 0 k) (w.alloc (.cells (madeCells #[.int .u32 0] k) 69)):=by
 obtain⟨i,hi,J,O,hb⟩:=cY yX
 have I:=run_make (P:=prog) w 24 69 i (.int .u32 0) yH hi J .i64 .i64 0 k oA oA (by rw[hb];omega) oA
 simp only[lN,O,gK]at I
 exact I
theorem zOd(k:Nat)(h:k<=17592186044416)(w:WB):yE (w.alloc (.cells (madeCells #[.int .u32 0] k) 69)) w.heap.size 69 (.slice (some ⟨w.heap.size,0,none⟩) 0 k) []:=
 ⟨rfl,.inr ⟨w.heap.size,k,_,rfl,vQ _,xM w _,vS _,by unfold maxLen;omega,by simp[madeCells],rfl⟩⟩
def zMa(w:WB)(v:Nat)(e:Ending)(w':WB):Prop:=∃A n c l,e=.returned (.slice A n c)/\Is l v/\yE w' w.heap.size 69 (.slice A n c) l/\Below w.heap.size w w'
theorem yE.base{B':Nat}{v:Value}(h:yE w B e v l)(hb:B'<=B):yE w B' e v l:=by
 obtain⟨J,h2⟩:=h
 refine⟨J,?_⟩
 rcases h2 with h2|⟨g,cap,I,h3,h4,O⟩
 .exact .inl h2
 .exact .inr ⟨g,cap,I,h3,oA,O⟩
theorem zEI(A:WG Addr)(n c:Nat)(l:List Nat)(w:WB)(h:Rd w A n c l)(hl:n<=1099511627776):
  Calls prog 143 #[.slice A n c] w fun e w'=>∃A' c',e=.returned (.slice A' n c')/\yE w' w.heap.size 69 (.slice A' n c') l/\Below w.heap.size w w':=by
 have hq:=fun(wx:WB) (a:WG Addr) (l c:Nat)=>Lib.run_eql_slice_nil (P:=prog) wx 24 69 a l c 0 0 yH
 cases A with
 |none=>
  obtain⟨rfl,rfl,rfl⟩:=h.empty
  go_enter func143,ntmps143
  go_wp2
  go_ret
  exact⟨none,0,rfl,wV _ _ _,xG _ _⟩
 |some ad=>
  have hown:yE (w.alloc (.cells #[] 69)) w.heap.size 69 (.slice (some ⟨w.heap.size,0,none⟩) 0 0) []:=lM (base:=w.heap.size) (e:=69) (size:=1) w #[] 0 (vQ _) (by unfold maxLen;omega) rfl
  have hlen:=h.len
  go_enter func143,ntmps143
  go_wp2_with (at_builtin;refine zU rfl _ _ 24 69 rfl yH yX w.heap.size _ [] rfl hown (some ad) n c l rfl (h.alloc _) fM fG ?_;intro v1 w1 hown1 hg1 hat1;obtain⟨A1,c1,rfl⟩:=hown1.form)
  go_ret
  rw[lI]at hown1
  have hb:=yE.grown ((xG w.heap.size w).alloc (vQ _) _) hown hg1 (vQ _) fG
  rw[hlen]at hown1
  exact⟨A1,c1,rfl,hown1,hb⟩
theorem zP4(A:WG Addr)(n c:Nat)(l:List Nat)(w:WB)(h:Rd w A n c l)(ht:Lt l)(hl:n<=1099511627776):
  Calls prog 124 #[.slice A n c] w (zMa w (val l)):=by
 have hle:=h.le;have hcap:=h.cap;have hlen:=h.len
 go_enter func124,ntmps124
 go_wp2
 go_loop [3] (fun x=>∃k:Nat,k<=n/\x=.int .i64 k/\(∀i,k<=i->i<l.length->lm l i=0)) (fun x=>(intOf x).toNat)
 case atStart=>exact⟨n,vQ _,rfl,fun i h1 h2=>oA⟩
 case round=>
  obtain⟨k,hk,rfl,hz⟩:=hrel
  have HZ:=hid hz
  clear hz
  by_cases h0:0<k
  .obtain⟨b,o,rfl,hc⟩:=h.cells (k-1) oA
   have e1:((k:Int)-1).toNat=k-1:=oA
   by_cases hx:lm l (k-1)=0
   .go_wp2
    go_round
    case rel=>exact⟨k-1,oA,by congr 1;omega,fun i h1 h2=>by
     by_cases e:i=k-1
     .subst e;exact hx
     .exact HZ.out i oA h2⟩
    case measure=>simp[intOf];omega
   .have hx2:((lm l (k-1):Int)==0)=false:=by simpa using hx
    have HX:=hid hx
    clear hx
    go_wp2_with (go_at_call 143;refine(zEI _ k k (l.take k) _ (h.take oA (vQ _) oA) oA).mono ?_;rintro e w1 ⟨A1,c1,rfl,hr1,hb1⟩)
    go_ret
    exact⟨A1,k,c1,l.take k,rfl,⟨zCa ht _,zCu l k oA HZ.out (.inr HX.out),jI oA HZ.out⟩,hr1,hb1⟩
  .obtain rfl:k=0:=oA
   cases A with
   |none=>
    obtain⟨rfl,rfl,rfl⟩:=h.empty
    go_wp2_with (go_at_call 143;refine(zEI _ 0 0 [] _ (wM _) oA).mono ?_;rintro e w1 ⟨A1,c1,rfl,hr1,hb1⟩)
    go_ret
    exact⟨A1,0,c1, [],rfl,Is.nil,hr1,hb1⟩
   |some ad=>
    go_wp2_with (go_at_call 143;refine(zEI _ 0 0 (l.take 0) _ (h.take oA (vQ _) oA) oA).mono ?_;rintro e w1 ⟨A1,c1,rfl,hr1,hb1⟩)
    go_ret
    exact⟨A1,0,c1,l.take 0,rfl,⟨zCa ht _,zCu l 0 oA HZ.out (.inl rfl),jI oA HZ.out⟩,hr1,hb1⟩
def UpI(w:WB)(l:List Nat)(n s:Nat)(v o i:Value)(W:WB):Prop:=
 ∃(j u:Nat) (A:WG Addr) (c:Nat) (lo:List Nat),j<=n/\i=.int .i64 j/\o=.int .u32 u/\v=.slice A j c/\u<s/\yE W w.heap.size 69 (.slice A j c) lo/\lo.length=j/\Lt lo/\
  val lo+u*BB^j=s*sm (lm l) j/\Below w.heap.size w W
theorem zM2(n s u:Nat)(k:Nat)(hk:k<=31)(J:2^k=s)(hn:n<4294967296)(hu:u<s):
  ∃p hi lo z:Nat,n*s=p/\p<18446744073709551616/\p/4294967296=hi/\p%4294967296=lo/\hi<s/\lo<4294967296/\bits .or .u32 (lo:Int) (u:Int)=(z:Int)/\z<4294967296/\n*s+u=z+hi*4294967296:=by
 have I:s*2^(32-k)=4294967296:=by
  rw[<-J,<-uC,show k+(32-k)=32 from oA]
 have h4:0<s:=by rw[<-J];exact pZ _
 have hsl:s<4294967296:=by
  have:2<=2^(32-k):=by
   calc 2=2^1:=rfl
    _<=2^(32-k):=vZ oA oA
  have:=uS s this
  omega
 have hp:n*s<4294967296*s:=rA hn h4
 have hp2:4294967296*s<=4294967296*4294967296:=uS _ oA
 obtain⟨q,hq⟩:∃q,n*s%4294967296=q*s:=by
  refine⟨n%2^(32-k),?_⟩
  rw[<-I,vT s,sY]
 have h0:n*s%4294967296|||u=n*s%4294967296+u:=by
  rw[hq,<-J,vT]
  exact(lO (by rw[J];exact hu) q).symm
 have O:n*s%4294967296+u<4294967296:=by
  have U:n*s%4294967296<4294967296:=oA
  rw[hq]at U ⊢
  rw[<-I,vT q]at U
  have h2:q<2^(32-k):=sX U
  have h3:(q+1)*s<=2^(32-k)*s:=uF _ h2
  rw[vU,uV,vT (2^(32-k)),I]at h3
  omega
 refine⟨n*s,n*s/4294967296,n*s%4294967296,n*s%4294967296+u,rfl,oA,rfl,rfl,gJ (by rw[vT]at hp ⊢;exact hp),oA,?_,O,oA⟩
 rw[u32_or_nat _ _ oA oA,h0]
theorem zR2(A:WG Addr)(n c:Nat)(l:List Nat)(k:Nat)(w:WB)(h:Rd w A n c l)(ht:Lt l)(hk:k<=31)(hn:n<=100000):
  Calls prog 163 #[.slice A n c,.int .i64 (k:Int)] w (zMa w (val l*2^k)):=by
 have hle:=h.le;have hcap:=h.cap
 have HN:=hid h.len
 have hmk:∀wx:WB,(Instr.makeSlice 24 (.int .i64 0) (.int .i64 ((n:Int)+1))).run prog wx=.ok (.slice (some ⟨wx.heap.size,0,none⟩) 0 (n+1)) (wx.alloc (.cells (madeCells #[.int .u32 0] (n+1)) 69)):=fun wx=>zNw (n+1) oA wx
 have hk1:(k:Int)/32=0:=oA
 have hk2:(k:Int)%32=(k:Int):=oA
 have hk3:(k:Int).tdiv 32=0:=by rw[sV oA];exact hk1
 have hk4:(k:Int).tmod 32=(k:Int):=by rw[pB oA];exact hk2
 obtain⟨s,hs⟩:∃s,2^k=s:=⟨_,rfl⟩
 rw[hs]
 have hsl:s<4294967296:=by rw[<-hs];exact nD (vZ oA hk) fH
 have hpow:(2:Int)^k%4294967296=(s:Int):=by
  rw[<-hs,sU]
  have:((2^k:Nat):Int)<4294967296:=by rw[hs];omega
  rw[sU]at this
  have h0:=mU (2^k)
  rw[sU]at h0
  exact Int.emod_eq_of_lt h0 this
 go_enter func163,ntmps163
 go_wp2_with (go_at_call 168;refine(zJF k 65536 oA oA _).mono ?_;rintro e w1 ⟨rfl,hw1⟩;rw[hw1];clear hw1 w1)
 go_loopw [5,6,24] (UpI w l n s) (fun _ _ i _=>n-(intOf i).toNat)
 case atStart=>exact⟨0,0,_,_, [],vS _,rfl,rfl,rfl,by rw[<-hs];exact pZ _,zOd (n+1) oA w,rfl,zCp,by simp[sm],(xG _ w).alloc (vQ _) _⟩
 case round=>
  obtain⟨j,u,Ao,co,lo,hj,rfl,rfl,rfl,hu,hown,hlo,hlt,heq,hB⟩:=hrel
  have HQ:=hid heq
  clear heq
  have hr:=h.below hB
  by_cases hjn:j<n
  .obtain⟨b,o,rfl,hcb⟩:=hr.cells j hjn
   have x1:=qQ ht j
   simp only[BB]at x1
   obtain⟨x,hx⟩:∃x,lm l j=x:=⟨_,rfl⟩
   rw[hx]at x1 hcb
   obtain⟨p,hi,lw,z,hp,hp2,hhi,hlw,hhs,hlw2,hor,hz,hst⟩:=zM2 x s u k hk hs x1 hu
   have hmul:=zOz x s p hi lw x1 hsl hp hp2 hhi hlw
   have HX:=hid hx;have HST:=hid hst
   clear hx hst hp hhi hlw
   have hs1:lo.length+ [z].length<=17592186044416:=fM
   have hl1:(lo++ [z]).length=j+1:=fM
   go_wp2_with (first|(go_at_call 169;refine(hmul _).mono ?_;rintro e w2 ⟨rfl,rfl⟩)|(at_builtin;refine zU rfl _ _ 24 69 rfl yH yX w.heap.size _ lo rfl (yE.alloc hown _) _ 1 1 [z] rfl (Rd.one _ z 69) hs1 (qI hB.size _) ?_;intro v1 w3 hown1 hg1 hat1;obtain⟨A1,c1,rfl⟩:=hown1.form' hl1))
   go_roundw
   case rel=>exact⟨j+1,hi,A1,c1,lo++ [z],oA,fR,rfl,rfl,hhs,hown1,hl1,zBP hlt hz,by rw[zAX,hlo];simp only[sm,uA];rw[HX.out];exact zTg HQ.out HST.out,yE.grown (hB.alloc hB.size _) (yE.alloc hown _) hg1 (vQ _) (qI hB.size _)⟩
   case measure=>simp[intOf];omega
  .obtain rfl:j=n:=oA
   have hs1:lo.length+ [u].length<=17592186044416:=fM
   have hl1:(lo++ [u]).length=j+1:=fM
   have hl2:Lt (lo++ [u]):=zBP hlt (by unfold BB;omega)
   have hk9:j+1<=1099511627776:=oA
   go_wp2_with (first|(at_builtin;refine zU rfl _ _ 24 69 rfl yH yX w.heap.size _ lo rfl (yE.alloc hown _) _ 1 1 [u] rfl (Rd.one _ u 69) hs1 (qI hB.size _) ?_;intro v1 w3 hown1 hg1 hat1;obtain⟨A1,c1,rfl⟩:=hown1.form' hl1)|(go_at_call 124;refine(zP4 _ _ _ _ _ hown1.rd hl2 hk9).mono ?_;rintro e w2 ⟨A2,n2,c2,l2,rfl,hi2,hr2,hb2⟩))
   go_ret
   have e1:=zBk (l:=l) (n:=j) (by have:=HN.out;omega)
   have hv:val (lo++ [u])=val l*s:=by rw[zAX,hlo,HQ.out,e1,vT]
   rw[hv]at hi2
   have hB1:=yE.grown (hB.alloc hB.size _) (yE.alloc hown _) hg1 (vQ _) (qI hB.size _)
   exact⟨A2,n2,c2,l2,rfl,hi2,hr2.base hB1.size,hB1.trans (hb2.mono hB1.size)⟩
attribute [local go_sem] Oper.semAt_some qL yG
def zXu(w:WB)(R cc:Nat)(l:List Nat)(n s:Nat)(i:Value)(W:WB):Prop:=
 ∃(j:Nat) (l':List Nat),j<=n/\i=.int .i64 j/\Row W R cc l'/\l'.length=n/\Lt l'/\(∀x,j<=x->lm l' x=lm l x)/\
  sm (lm l) j+lm l j%s*BB^j=s*sm (lm l') j+lm l 0%s/\Below w.heap.size w W
theorem zPm(x y s k:Nat)(hk:k<=31)(hs:2^k=s)(U:x<4294967296):
  ∃f sh z:Nat,x/s=f/\y*2^(32-k)%4294967296=sh/\f<4294967296/\sh<4294967296/\bits .or .u32 (f:Int) (sh:Int)=(z:Int)/\z<4294967296/\s*z=(x-x%s)+4294967296*(y%s)/\(y%s=0->f=z):=by
 have I:s*2^(32-k)=4294967296:=by
  rw[<-hs,<-uC,show k+(32-k)=32 from oA]
 have J:0<s:=by rw[<-hs];exact pZ _
 obtain⟨T,hT⟩:∃T,2^(32-k)=T:=⟨_,rfl⟩
 rw[hT]at I
 have h0:y*T%4294967296=y%s*T:=by rw[<-I,sY]
 have O:x/s<T:=gJ (by rw[I];exact U)
 have h5:y%s*T<4294967296:=by
  rw[<-I]
  exact rA (vY _ J) (by rw[<-hT];exact pZ _)
 have h4:y%s*T|||x/s=y%s*T+x/s:=by
  rw[<-hT]at O ⊢
  rw[vT]
  exact(lO O _).symm
 have hz:y%s*T+x/s<4294967296:=by
  have h1:(y%s+1)*T<=s*T:=uF _ (vY _ J)
  rw[I,vU,uV]at h1
  obtain⟨f,hf1⟩:∃f,x/s=f:=⟨_,rfl⟩
  rw[hf1]at O ⊢
  omega
 refine⟨x/s,y*2^(32-k)%4294967296,y%s*T+x/s,rfl,rfl,nD (pQ _ _) U,oA,?_,hz,?_,fun e=>by rw[e,gN,uM]⟩
 .rw[hT,h0,u32_or_nat _ _ (nD (pQ _ _) U) h5,Nat.or_comm,h4]
 .rw[uH,pK,I,vT (y%s)]
  have:=uY x s
  omega
theorem zRG(A:WG Addr)(n c:Nat)(l:List Nat)(k:Nat)(w:WB)(h:Rd w A n c l)(ht:Lt l)(hk:k<=31)(hn:n<=100000):
  Calls prog 165 #[.slice A n c,.int .i64 (k:Int)] w (jH w (val l/2^k)):=by
 have hmix:prog.follows .mixedOrders=true:=fJ
 have hle:=h.le;have hcap:=h.cap
 have HN:=hid h.len
 have hk1:(k:Int)/32=0:=oA
 have hk2:(k:Int)%32=(k:Int):=oA
 have hk3:(k:Int).tdiv 32=0:=by rw[sV oA];exact hk1
 have hk4:(k:Int).tmod 32=(k:Int):=by rw[pB oA];exact hk2
 have hcount:∀w1:WB,Calls prog 168 #[.int .i64 (k:Int),.int .i64 65536] w1 fun e w'=>e=.returned (.int .i64 (k:Int))/\w'=w1:=fun w1=>zJF k 65536 oA oA w1
 rcases uJ n with rfl|hn0
 .obtain rfl:l=[]:=xN h.len
  go_enter func165,ntmps165
  go_wp2
  go_step3
  go_wp2_with (go_at_call 168;go_must (refine(hcount _).mono ?_;rintro e w1 ⟨rfl,hw1⟩;rw[hw1];clear hw1 w1))
  rw[lJ]
  go_ret
  exact⟨none,0,0, [],rfl,by show Is [] (0/2^k);rw[Nat.zero_div];exact Is.nil,wM w,xG _ _⟩
 .obtain⟨b,o,rfl,_,_⟩:=h.shape hn0
  have hclone:=zEI (some ⟨b,o,none⟩) n c l w h oA
  obtain⟨s,hs⟩:∃s,2^k=s:=⟨_,rfl⟩
  rw[hs]
  go_enter func165,ntmps165
  go_wp2
  go_step3
  go_wp2_with (first|(go_at_call 168;go_must (refine(hcount _).mono ?_;rintro e w1 ⟨rfl,hw1⟩;rw[hw1];clear hw1 w1))|(go_at_call 143;go_must (refine hclone.mono ?_;rintro e w1 ⟨A1,c1,rfl,ho1,hb1⟩;obtain⟨R,rfl,_,hR,hrow⟩:=Row.of_own ho1 (by rw[h.len];exact hn0))))
  go_step3
  go_wp2
  go_loopw [21] (zXu w R c1 l n s) (fun i _=>n-(intOf i).toNat)
  case atStart=>exact⟨0,l,vS _,rfl,hrow,HN.out,ht,fun _ _=>rfl,by simp[sm],hb1⟩
  case round=>
   obtain⟨j,l',hj,rfl,hr,hl,hlt,hun,heq,hB⟩:=hrel
   have HQ:=hid heq
   have HU:=hid hun
   clear heq hun
   by_cases hjn:j<n
   .have hrc:=hr.cap
    have gr:=hr.cell (i:=j) oA
    have gf:=hr.frozen j
    have hx0:lm l' j=lm l j:=HU.out _ (vQ _)
    have x1:=qQ ht j
    simp only[BB]at x1
    obtain⟨x,hx⟩:∃x,lm l j=x:=⟨_,rfl⟩
    obtain⟨y,hy⟩:∃y,lm l (j+1)=y:=⟨_,rfl⟩
    rw[hx0,hx]at gr
    rw[hx]at x1
    obtain⟨f,sh,z,hf,hsh,hf2,hsh2,hor,hz,hst,hfz⟩:=zPm x y s k hk hs x1
    have hdv:(x:Int)/2^k=(f:Int):=by
     rw[<-hf,<-hs,pD,sU]
     rfl
    have HX:=hid hx;have HY:=hid hy;have HST:=hid hst;have HFZ:=hid hfz;have HSH:=hid hsh
    clear hx hx0 hy hst hf hfz hsh
    have key:∀(W:WB) (v:Nat),v<4294967296->v=z->Row W R c1 (l'.set j v)->Below w.heap.size w W->zXu w R c1 l n s (.int .i64 ((j:Int)+1)) W:=by
     intro W v hv hvz hr2 hb2
     subst hvz
     refine⟨j+1,l'.set j v,oA,fR,hr2,by rw[uL];exact hl,zDk hlt hz,fun y hy=>?_,?_,hb2⟩
     .rw[zBa oA,if_neg oA]
      exact HU.out y oA
     .have e1:sm (lm (l'.set j v)) (j+1)=sm (lm l') j+v*BB^j:=by
       show sm (lm (l'.set j v)) j+lm (l'.set j v) j*BB^j=_
       rw[zBa oA,if_pos rfl]
       congr 1
       exact zAZ fun i hi=>by rw[zBa oA,if_neg oA]
      rw[e1,HY.out,uA]
      show sm (lm l) j+lm l j*BB^j+_*(BB^j*4294967296)=_
      rw[HX.out]
      have hq:=HQ.out
      rw[HX.out]at hq
      exact zPn hq HST.out
    have HK:=hid key
    clear key
    rcases(oA:n<=j+1∨(j+1<n/\k=0)∨(j+1<n/\0<k))with h9|⟨h9,h10⟩|⟨h9,h10⟩
    .have hy0:=HY.out
     rw[zEw (by have:=HN.out;omega)]at hy0
     have hfz:=HFZ.out (by rw[<-hy0];exact Nat.zero_mod s)
     have hk9:=HK.out _ f hf2 hfz (hr.set j f) (hB.setCell (p:=⟨R,j,none⟩) hR _)
     have HK9:=hid hk9
     clear hy0 hfz hk9
     go_wp2
     exact⟨HK9.out,by simp[intOf];omega⟩
    .have hk0:((k:Int)==0)=true:=by simp[h10]
     have hfz:=HFZ.out (by rw[<-hs,h10];exact gP y)
     have hk9:=HK.out _ f hf2 hfz (hr.set j f) (hB.setCell (p:=⟨R,j,none⟩) hR _)
     have HK9:=hid hk9
     clear hfz hk9 h10
     go_wp2
     exact⟨HK9.out,by simp[intOf];omega⟩
    .have hr9:=hr.set j f
     have hk9:=HK.out ((wr.setCell ⟨R,j,none⟩ (.int .u32 (f:Int))).setCell ⟨R,j,none⟩ (.int .u32 (z:Int))).drew z hz rfl (by have:=hr9.set j z;rw[List.set_set]at this;exact this.kept rfl) ((hB.setCell (p:=⟨R,j,none⟩) hR _).setCell (p:=⟨R,j,none⟩) hR _).drew
     have HK9:=hid hk9
     clear hk9
     have hk0:((k:Int)==0)=false:=by simp only[nH,ne_eq];omega
     have hjl:(j:Int)+1<(l.length:Int):=by have:=HN.out;omega
     have hwr:IntKind.i64.wrap ((j:Int)+1)=(j:Int)+1:=by rw[sT];omega
     have hjt:((j:Int)+1).toNat=j+1:=oA
     obtain⟨m,hm⟩:∃m,32-k=m:=⟨_,rfl⟩
     have e2:(32:Int)-(k:Int)=(m:Int):=oA
     have e3:IntKind.i64.wrap (m:Int)=(m:Int):=by rw[sT];omega
     have hshl:(y:Int)*2^m%4294967296=(sh:Int):=by
      rw[<-HSH.out,hm,pJ,pC,sU]
      rfl
     have hm32:m<=32:=oA
     clear hm
     have d1:(wr.setCell ⟨R,j,none⟩ (.int .u32 (f:Int))).drew.cell? ⟨R,j,none⟩=some (.int .u32 (f:Int)):=by
      have:=hr9.cell (i:=j) (by rw[uL];omega)
      rwa [zBa oA,if_pos rfl]at this
     have d2:(wr.setCell ⟨R,j,none⟩ (.int .u32 (f:Int))).drew.cell? ⟨R,j+1,none⟩=some (.int .u32 (y:Int)):=by
      have:=hr9.cell (i:=j+1) (by rw[uL];omega)
      rw[zBa oA,if_neg oA,HU.out _ oA,HY.out]at this
      exact this
     have d3:(wr.setCell ⟨R,j,none⟩ (.int .u32 (f:Int))).drew.frozen? ⟨R,j,none⟩=false:=hr9.frozen j
     go_wp2
     refine(bL (n:=0)).1<|yF 15 (fun W=>W.cell? ⟨R,j,none⟩=some (.int .u32 (f:Int))/\W.cell? ⟨R,j+1,none⟩=some (.int .u32 (y:Int))) hmix ?_
     have d4:=And.intro d1 d2
     refine zP (i:=0) (v:=?vv1) kA kA rfl kA kA kA fD d4 ⟨.inl ⟨rfl,?yy1⟩,fun _=>rfl⟩ ?_
     case yy1=>
      rintro wx ⟨q1,q2⟩
      go_simp
      first|done|rfl
     refine zP (i:=1) (v:=?vv2) kA kA rfl kA kA kA fD d4 ⟨.inl ⟨rfl,?yy2⟩,fun _=>rfl⟩ ?_
     case yy2=>
      rintro wx ⟨q1,q2⟩
      go_simp
      first|done|rfl
     refine zP (i:=2) (v:=?vv3) kA kA rfl kA kA kA fD d4 ⟨.inl ⟨rfl,?yy3⟩,fun _=>rfl⟩ ?_
     case yy3=>
      rintro wx ⟨q1,q2⟩
      go_simp
      first|done|rfl
     refine zP (i:=3) (v:=?vv4) kA kA rfl kA kA kA fD d4 ⟨.inl ⟨rfl,?yy4⟩,fun _=>rfl⟩ ?_
     case yy4=>
      rintro wx ⟨q1,q2⟩
      go_simp
      first|done|rfl
     refine zP (i:=4) (v:=?vv5) kA kA rfl kA kA kA fD d4 ⟨.inl ⟨rfl,?yy5⟩,fun _=>rfl⟩ ?_
     case yy5=>
      rintro wx ⟨q1,q2⟩
      go_simp
      first|done|rfl
     refine zP (i:=5) (v:=?vv6) kA kA rfl kA kA kA fD d4 ⟨.inl ⟨rfl,?yy6⟩,fun _=>rfl⟩ ?_
     case yy6=>
      rintro wx ⟨q1,q2⟩
      go_simp
      first|done|rfl
     refine zP (i:=6) (v:=?vv7) kA kA rfl kA kA kA fD d4 ⟨.inl ⟨rfl,?yy7⟩,fun _=>rfl⟩ ?_
     case yy7=>
      rintro wx ⟨q1,q2⟩
      go_simp
      first|done|rfl
     refine zP (i:=7) (v:=?vv8) kA kA rfl kA kA kA fD d4 ⟨.inl ⟨rfl,?yy8⟩,fun _=>rfl⟩ ?_
     case yy8=>
      rintro wx ⟨q1,q2⟩
      go_simp
      first|done|rfl
     refine zP (i:=8) (v:=?vv9) kA kA rfl kA kA kA fD d4 ⟨.inl ⟨rfl,?yy9⟩,fun _=>rfl⟩ ?_
     case yy9=>
      rintro wx ⟨q1,q2⟩
      go_simp
      first|done|rfl
     refine zP (i:=9) (v:=?vv10) kA kA rfl kA kA kA fD d4 ⟨.inl ⟨rfl,?yy10⟩,fun _=>rfl⟩ ?_
     case yy10=>
      rintro wx ⟨q1,q2⟩
      go_simp
      first|done|rfl
     refine zP (i:=10) (v:=?vv11) kA kA rfl kA kA kA fD d4 ⟨.inl ⟨rfl,?yy11⟩,fun _=>rfl⟩ ?_
     case yy11=>
      rintro wx ⟨q1,q2⟩
      go_simp
      first|done|rfl
     refine zP (i:=11) (v:=?vv12) kA kA rfl kA kA kA fD d4 ⟨.inl ⟨rfl,?yy12⟩,fun _=>rfl⟩ ?_
     case yy12=>
      rintro wx ⟨q1,q2⟩
      go_simp
      first|done|rfl
     refine zP (i:=12) (v:=?vv13) kA kA rfl kA kA kA fD d4 ⟨.inl ⟨rfl,?yy13⟩,fun _=>rfl⟩ ?_
     case yy13=>
      rintro wx ⟨q1,q2⟩
      go_simp
      first|done|rfl
     refine zP (i:=13) (v:=?vv14) kA kA rfl kA kA kA fD d4 ⟨.inl ⟨rfl,?yy14⟩,fun _=>rfl⟩ ?_
     case yy14=>
      rintro wx ⟨q1,q2⟩
      go_simp
      first|done|rfl
     refine zP (i:=14) (v:=?vv15) kA kA rfl kA kA kA fD d4 ⟨.inl ⟨rfl,?yy15⟩,fun _=>rfl⟩ ?_
     case yy15=>
      rintro wx ⟨q1,q2⟩
      go_simp
      first|done|rfl
     refine zAL (i:=15) kA rfl (fun K hK=>?_)
     go_simp
     refine hK _ _ (.inl rfl) ?_
     clear hK K
     refine zCW kA ?_
     go_wp2
     rw[hshl,hor]
     exact⟨HK9.out,by simp[intOf];omega⟩
   .obtain rfl:j=n:=oA
    have hfin:val l'=val l/s:=by
     have e1:sm (lm l) j=val l:=by have:=HN.out;unfold val;rw[this]
     have e2:sm (lm l') j=val l':=by unfold val;rw[hl]
     have e3:lm l j=0:=zEw (by have:=HN.out;omega)
     have hq:=HQ.out
     rw[e1,e2,e3,Nat.zero_mod,gN,uN]at hq
     have hs0:0<s:=by rw[<-hs];exact pZ _
     rw[hq,gL hs0,uP (vY _ hs0),uN]
    have hrd:Rd wr (some ⟨R,0,none⟩) l.length c1 l':=by have:=hr.rd;rwa [hl,<-HN.out]at this
    have htr:=qX (some ⟨R,0,none⟩) l.length c1 l' wr hrd hlt (by rw[HN.out];omega)
    rw[hfin]at htr
    clear hfin
    go_wp2_with (go_at_call 124;(with_reducible refine htr.mono ?_);rintro e w2 ⟨A2,n2,c2,l2,rfl,hi2,hr2,hb2⟩)
    rw[lJ]
    go_ret
    exact⟨A2,n2,c2,l2,rfl,hi2,hr2,hB.trans (hb2.mono hB.size)⟩
theorem zGY(k most:Int)(h0:0<=k)(h1:k<=most)(w:WB):Calls prog 138 #[.int .i64 k,.int .i64 most] w fun e w'=>e=.returned (.int .i64 k)/\w=w':=by
 have hmax:max k 0=k:=oA
 have hmin:min k most=k:=oA
 go_enter func138,ntmps138
 go_wp2
 go_ret
 exact⟨rfl,rfl⟩
theorem zMv(m:Nat)(h:m<=17592186044416)(w:WB):yE (w.alloc (.cells (madeCells #[.int .u32 0] m) 69)) w.heap.size 69 (.slice (some ⟨w.heap.size,0,none⟩) m m) (List.replicate m 0):=by
 have I:madeCells #[.int .u32 0] m=(zBQ (List.replicate m 0)).toArray:=by
  apply Array.ext'
  simp[madeCells,zBQ,gP,pM]
 rw[I]
 unfold yE
 rw[nZ]
 exact⟨by simp[zBQ],.inr ⟨w.heap.size,m,_,rfl,vQ _,xM w _,vQ _,by unfold maxLen;omega,by simp[zBQ],by simp[zBQ,nK]⟩⟩
def zZR(w:WB)(l:List Nat)(n s q:Nat)(v o i:Value)(W:WB):Prop:=
 ∃(j u:Nat) (A:WG Addr) (c:Nat) (lo:List Nat),j<=n/\i=.int .i64 j/\o=.int .u32 u/\v=.slice A (q+j) c/\u<s/\yE W w.heap.size 69 (.slice A (q+j) c) lo/\lo.length=q+j/\Lt lo/\
  val lo+u*BB^(q+j)=s*sm (lm l) j*BB^q/\Below w.heap.size w W
theorem zQs{X u Q hi:Nat}(h1:X+u*(Q*P)=s*B*Q)(h2:x*s+u=z+hi*4294967296):X+z*(Q*P)+hi*(Q*P*4294967296)=s*(B+x*P)*Q:=by
 have J:(x*s+u)*(Q*P)=(z+hi*4294967296)*(Q*P):=by rw[h2]
 have I:s*(B+x*P)*Q=s*B*Q+x*s*(Q*P):=by
  rw[uH,vU]
  congr 1
  rw[vT x s,vX,vX,vX,vT P Q]
 rw[I,<-h1]
 have e3:hi*(Q*P*4294967296)=hi*4294967296*(Q*P):=by rw[vT (Q*P),vX]
 rw[vU,vU]at J
 omega
theorem zNt(A:WG Addr)(n c:Nat)(l:List Nat)(q t:Nat)(w:WB)(h:Rd w A n c l)(ht:Lt l)(htt:t<=31)(hq:32*q+t<=65536)(hn:n<=100000):
  Calls prog 116 #[.slice A n c,.int .i64 ((32*q+t:Nat):Int)] w (jH w (val l*2^(32*q+t))):=by
 have hle:=h.le;have hcap:=h.cap
 have HN:=hid h.len
 have hpw:2^(32*q+t)=BB^q*2^t:=by rw[uC,<-zHh]
 obtain⟨k,hk⟩:∃k,32*q+t=k:=⟨_,rfl⟩
 rw[hk]at hpw hq ⊢
 have hk1:(k:Int)/32=(q:Int):=oA
 have hk2:(k:Int)%32=(t:Int):=oA
 have hk3:(k:Int).tdiv 32=(q:Int):=by rw[sV oA];exact hk1
 have hk4:(k:Int).tmod 32=(t:Int):=by rw[pB oA];exact hk2
 have hq2:q<=2048:=oA
 have hmk:∀wx:WB,(Instr.makeSlice 24 (.int .i64 (q:Int)) (.int .i64 (q:Int))).run prog wx=.ok (.slice (some ⟨wx.heap.size,0,none⟩) q q) (wx.alloc (.cells (madeCells #[.int .u32 0] q) 69)):=fun wx=>by
  have:=zBq q oA wx
  exact this
 obtain⟨s,hs⟩:∃s,2^t=s:=⟨_,rfl⟩
 rw[hs]at hpw
 rw[hpw]
 have hsl:s<4294967296:=by rw[<-hs];exact nD (vZ oA htt) fH
 clear hpw hk
 go_enter func116,ntmps116
 go_wp2_with (go_at_call 138;refine(zGY k 65536 oA oA _).mono ?_;rintro e w1 ⟨rfl,rfl⟩)
 go_loopw [5,6,7] (zZR w l n s q) (fun _ _ i _=>n-(intOf i).toNat)
 case atStart=>exact⟨0,0,_,_,List.replicate q 0,vS _,rfl,rfl,rfl,by rw[<-hs];exact pZ _,zMv q oA w,fG,j5 _,by rw[zAB];simp[sm],(xG _ w).alloc (vQ _) _⟩
 case round=>
  obtain⟨j,u,Ao,co,lo,hj,rfl,rfl,rfl,hu,hown,hlo,hlt,heq,hB⟩:=hrel
  have HQ:=hid heq
  have HLO:=hid hlo
  clear heq hlo
  have hr:=h.below hB
  by_cases hjn:j<n
  .obtain⟨b,o,rfl,hcb⟩:=hr.cells j hjn
   have x1:=qQ ht j
   simp only[BB]at x1
   obtain⟨x,hx⟩:∃x,lm l j=x:=⟨_,rfl⟩
   rw[hx]at x1 hcb
   obtain⟨p,hi,lw,z,hp,hp2,hhi,hlw,hhs,hlw2,hor,hz,hst⟩:=zM2 x s u t htt hs x1 hu
   have hshl:IntKind.u64.wrap ((x:Int)*2^t)=(p:Int):=by
    have e1:(x:Int)*2^t=(p:Int):=by
     rw[<-hp,<-hs,pC,sU]
     rfl
    rw[e1,nO]
    omega
   have hp3:(p:Int)/4294967296=(hi:Int):=oA
   have hp4:(p:Int)%4294967296=(lw:Int):=oA
   have hp5:(hi:Int)%4294967296=(hi:Int):=oA
   have HX:=hid hx;have HST:=hid hst
   clear hx hst hp hhi hlw
   have hs1:lo.length+ [z].length<=17592186044416:=by have:=HLO.out;simp;omega
   have hl1:(lo++ [z]).length=q+(j+1):=by have:=HLO.out;simp;omega
   go_wp2_with (at_builtin;refine zU rfl _ _ 24 69 rfl yH yX w.heap.size _ lo rfl (yE.alloc hown _) _ 1 1 [z] rfl (Rd.one _ z 69) hs1 (qI hB.size _) ?_;intro v1 w3 hown1 hg1 hat1;obtain⟨A1,c1,rfl⟩:=hown1.form' hl1)
   go_roundw
   case rel=>exact⟨j+1,hi,A1,c1,lo++ [z],oA,fR,rfl,rfl,hhs,hown1,hl1,zBP hlt hz,by rw[zAX,HLO.out];simp only[sm,uA,<-uT];rw[HX.out,uC];exact zQs (by rw[<-uC];exact HQ.out) HST.out,yE.grown (hB.alloc hB.size _) (yE.alloc hown _) hg1 (vQ _) (qI hB.size _)⟩
   case measure=>simp[intOf];omega
  .obtain rfl:j=n:=oA
   have hs1:lo.length+ [u].length<=17592186044416:=by have:=HLO.out;simp;omega
   have hl1:(lo++ [u]).length=q+j+1:=by have:=HLO.out;simp;omega
   have hl2:Lt (lo++ [u]):=zBP hlt (by unfold BB;omega)
   have hk9:q+j+1<=1099511627776:=oA
   go_wp2_with (first|(at_builtin;refine zU rfl _ _ 24 69 rfl yH yX w.heap.size _ lo rfl (yE.alloc hown _) _ 1 1 [u] rfl (Rd.one _ u 69) hs1 (qI hB.size _) ?_;intro v1 w3 hown1 hg1 hat1;obtain⟨A1,c1,rfl⟩:=hown1.form' hl1)|(go_at_call 40;refine(jL _ _ _ _ _ hown1.rd hl2 hk9).mono ?_;rintro e w2 ⟨A2,n2,c2,l2,rfl,hi2,hr2,hb2⟩))
   go_ret
   have e1:=zBk (l:=l) (n:=j) (by have:=HN.out;omega)
   have hv:val (lo++ [u])=val l*(BB^q*s):=by rw[zAX,HLO.out,HQ.out,e1,vT s,vX,vT s]
   rw[hv]at hi2
   have hB1:=yE.grown (hB.alloc hB.size _) (yE.alloc hown _) hg1 (vQ _) (qI hB.size _)
   exact⟨A2,n2,c2,l2,rfl,hi2,hr2,hB1.trans (hb2.mono hB1.size)⟩
def zS8(w:WB)(l:List Nat)(n q s:Nat)(v i:Value)(W:WB):Prop:=
 ∃(j:Nat) (A:WG Addr) (c:Nat) (lo:List Nat),q+j<=n/\i=.int .i64 ((q+j:Nat):Int)/\v=.slice A j c/\yE W w.heap.size 69 (.slice A j c) lo/\lo.length=j/\Lt lo/\
  val lo*s+lm l q%s=sm (fun x=>lm l (q+x)) j+lm l (q+j)%s*BB^j/\Below w.heap.size w W
theorem zMk(x y s t:Nat)(ht:t<=31)(hs:2^t=s)(hx:x<4294967296)(hy:y<4294967296):
  ∃m z:Nat,x+y*4294967296=m/\m<18446744073709551616/\bits .or .u64 (x:Int) ((y:Int)*4294967296)=(m:Int)/\m/s%4294967296=z/\z<4294967296/\z*s+x%s=x+y%s*4294967296:=by
 have h0:=zFz y x hy hx
 have J:bits .or .u64 (x:Int) ((y:Int)*4294967296)=bits .or .u64 ((y:Int)*4294967296) (x:Int):=by
  have e:=lL x (y*4294967296) oA oA
  have U:=lL (y*4294967296) x oA oA
  rw[Nat.or_comm]at U
  rw[show((y:Int)*4294967296)=((y*4294967296:Nat):Int)from oA,e,U]
 have I:s*2^(32-t)=4294967296:=by
  rw[<-hs,<-uC,show t+(32-t)=32 from oA]
 have O:0<s:=by rw[<-hs];exact pZ _
 obtain⟨g,hg⟩:∃g,2^(32-t)=g:=⟨_,rfl⟩
 rw[hg]at I
 refine⟨_,_,rfl,oA,by rw[J,h0];omega,rfl,vY _ oA,?_⟩
 have e1:(x+y*4294967296)/s=x/s+y*g:=by
  rw[<-I,show y*(s*g)=s*(y*g)from by rw[pK],gD _ _ O]
 have hxs:x/s<g:=gJ (by rw[I];exact hx)
 have U:(x/s+y*g)%4294967296=x/s+y%s*g:=by
  have e3:y*g=y%s*g+4294967296*(y/s):=by
   have:=uY y s
   calc y*g=(s*(y/s)+y%s)*g:=by rw[this]
    _=y%s*g+4294967296*(y/s):=by rw[vU,gO,<-I];congr 1;rw[vX,vX,vT g]
  rw[e3,<-uT,gU,uD]
  have h1:y%s<s:=vY _ O
  have h2:(y%s+1)*g<=s*g:=uF _ h1
  rw[I,vU]at h2
  omega
 rw[e1,U,vU]
 have e4:=uY x s
 have e5:y%s*g*s=y%s*4294967296:=by rw[vX,vT g,I]
 rw[e5,vT (x/s)]
 omega
theorem zMl{Z r S y:Nat}(h1:Z*s+r=S+x%s*P)(h2:z*s+x%s=x+y%s*4294967296):(Z+z*P)*s+r=S+x*P+y%s*(P*4294967296):=by
 have I:(z*s+x%s)*P=(x+y%s*4294967296)*P:=by rw[h2]
 rw[vU,vU]at I
 have e2:(Z+z*P)*s=Z*s+z*s*P:=by rw[vU,Nat.mul_right_comm]
 have e3:y%s*(P*4294967296)=y%s*4294967296*P:=by rw[vT P,vX]
 omega
theorem zNE(A:WG Addr)(n c:Nat)(l:List Nat)(q t:Nat)(w:WB)(h:Rd w A n c l)(ht:Lt l)(htt:t<=31)(hq:32*q+t<=65536)(hn:n<=100000)(hqn:q<=n):
  Calls prog 113 #[.slice A n c,.int .i64 ((32*q+t:Nat):Int)] w (jH w (val l/2^(32*q+t))):=by
 have hle:=h.le;have hcap:=h.cap
 have HN:=hid h.len
 have hpw:2^(32*q+t)=BB^q*2^t:=by rw[uC,<-zHh]
 obtain⟨k,hk⟩:∃k,32*q+t=k:=⟨_,rfl⟩
 rw[hk]at hpw hq ⊢
 have hk1:(k:Int)/32=(q:Int):=oA
 have hk2:(k:Int)%32=(t:Int):=oA
 have hk3:(k:Int).tdiv 32=(q:Int):=by rw[sV oA];exact hk1
 have hk4:(k:Int).tmod 32=(t:Int):=by rw[pB oA];exact hk2
 have hq2:q<=2048:=oA
 obtain⟨s,hs⟩:∃s,2^t=s:=⟨_,rfl⟩
 rw[hs]at hpw
 rw[hpw]
 have HS0:Hid (0<s):=hid (by rw[<-hs];exact pZ _)
 have HS:=hid hs
 clear hpw hk hs
 have hown0:yE w w.heap.size 69 (.slice none 0 0) []:=wV w _ _
 go_enter func113,ntmps113
 go_wp2_with (go_at_call 138;refine(zGY k 65536 oA oA _).mono ?_;rintro e w1 ⟨rfl,rfl⟩)
 go_loopw [5,6] (zS8 w l n q s) (fun _ i _=>n-(intOf i).toNat)
 case atStart=>exact⟨0,none,0, [],oA,fG,rfl,hown0,rfl,zCp,by simp[sm],xG _ _⟩
 case round=>
  obtain⟨j,Ao,co,lo,hj,rfl,rfl,hown,hlo,hlt,heq,hB⟩:=hrel
  have HQ:=hid heq
  have HLO:=hid hlo
  clear heq hlo
  have hr:=h.below hB
  obtain⟨p,hp⟩:∃p,q+j=p:=⟨_,rfl⟩
  rw[hp]at hj ⊢
  have HP':=hid hp
  clear hp
  by_cases hjn:p<n
  .obtain⟨b,o,rfl,hcb⟩:=hr.cells p hjn
   have x1:=qQ ht p
   have y1:=qQ ht (p+1)
   simp only[BB]at x1 y1
   obtain⟨x,hx⟩:∃x,lm l p=x:=⟨_,rfl⟩
   obtain⟨y,hy⟩:∃y,lm l (p+1)=y:=⟨_,rfl⟩
   rw[hx]at x1 hcb
   rw[hy]at y1
   obtain⟨m,z,hm,hm2,hor,hz,hz2,hst⟩:=zMk x y s t htt HS.out x1 y1
   have hshr:(m:Int)/2^t%4294967296=(z:Int):=by
    rw[<-hz,pJ,pD,<-HS.out,sU]
    rfl
   have HX:=hid hx;have HY:=hid hy;have HST:=hid hst;have HSH:=hid hshr;have HP:=HP';have HM:=hid hm
   clear hx hy hst hz hshr hm
   have hs1:lo.length+ [z].length<=17592186044416:=by have:=HLO.out;have:=HP.out;simp;omega
   have hl1:(lo++ [z]).length=j+1:=by have:=HLO.out;simp;omega
   have hrel2:∀(W3:WB) (A1:WG Addr) (c1:Nat),yE W3 w.heap.size 69 (.slice A1 (j+1) c1) (lo++ [z])->Below w.heap.size w W3->zS8 w l n q s (.slice A1 (j+1) c1) (.int .i64 ((p:Int)+1)) W3:=by
    intro W3 A1 c1 h1 h2
    refine⟨j+1,A1,c1,lo++ [z],by have:=HP.out;omega,by have:=HP.out;congr 1;omega,rfl,h1,hl1,zBP hlt hz2,?_,h2⟩
    rw[zAX,HLO.out]
    simp only[sm]
    have e1:q+(j+1)=p+1:=by have:=HP.out;omega
    rw[e1,HP.out,HX.out,HY.out,uA]
    have hq0:=HQ.out
    rw[HP.out,HX.out]at hq0
    exact zMl hq0 HST.out
   have HR:=hid hrel2
   clear hrel2
   by_cases hj1:p+1<n
   .obtain⟨b2,o2,e2,hcb2⟩:=hr.cells (p+1) hj1
    cases e2
    rw[HY.out]at hcb2
    have hpt:((p:Int)+1).toNat=p+1:=oA
    have hpw2:IntKind.u64.wrap ((y:Int)*4294967296)=(y:Int)*4294967296:=by rw[nO];omega
    have hshr:=HSH.out
    go_wp2_with (at_builtin;refine zU rfl _ _ 24 69 rfl yH yX w.heap.size _ lo rfl (yE.alloc hown _) _ 1 1 [z] rfl (Rd.one _ z 69) hs1 (qI hB.size _) ?_;intro v1 w3 hown1 hg1 hat1;obtain⟨A1,c1,rfl⟩:=hown1.form' hl1)
    have hB1:=yE.grown (hB.alloc hB.size _) (yE.alloc hown _) hg1 (vQ _) (qI hB.size _)
    exact⟨HR.out w3 A1 c1 hown1 hB1,by simp[intOf];omega⟩
   .have hy0:y=0:=by rw[<-HY.out];exact zEw (by have:=HN.out;omega)
    have hmx:m=x:=by have:=HM.out;omega
    subst hmx
    have hshr:=HSH.out
    clear hor
    go_wp2_with (at_builtin;refine zU rfl _ _ 24 69 rfl yH yX w.heap.size _ lo rfl (yE.alloc hown _) _ 1 1 [z] rfl (Rd.one _ z 69) hs1 (qI hB.size _) ?_;intro v1 w3 hown1 hg1 hat1;obtain⟨A1,c1,rfl⟩:=hown1.form' hl1)
    have hB1:=yE.grown (hB.alloc hB.size _) (yE.alloc hown _) hg1 (vQ _) (qI hB.size _)
    exact⟨HR.out w3 A1 c1 hown1 hB1,by simp[intOf];omega⟩
  .obtain rfl:p=n:=oA
   have hl0:lm l p=0:=zEw (by have:=HN.out;omega)
   have hq0:=HQ.out
   have hsm:sm (fun x=>lm l (q+x)) j=val l/BB^q:=by
    have e1:=j7 l q (by have:=HN.out;omega)
    have e2:=qV (zCa ht q)
    rw[uE,uR (by have:=HN.out;omega)]at e2
    have e3:val (l.drop q)=sm (fun x=>lm l (q+x)) j:=by
     unfold val
     rw[uK,HN.out,show p-q=j from by have:=HP'.out;omega]
     exact zAZ fun i _=>zD0
    rw[<-e3,e1,gD _ _ (zCI q),uP e2,uM]
   rw[HP'.out,hl0,Nat.zero_mod,gN,uN,hsm]at hq0
   have hrs:lm l q%s<s:=vY _ HS0.out
   have hv:val lo=val l/(BB^q*s):=by
    rw[<-Nat.div_div_eq_div_mul,<-hq0,vT,gL HS0.out,uP hrs,uN]
   have htr:=jL _ _ _ lo wr hown.rd hlt (by have:=HP'.out;omega)
   rw[hv]at htr
   clear hq0 hsm hv hrs hl0
   go_wp2_with (go_at_call 40;refine htr.mono ?_;rintro e w2 ⟨A2,n2,c2,l2,rfl,hi2,hr2,hb2⟩)
   go_ret
   exact⟨A2,n2,c2,l2,rfl,hi2,hr2,hB.trans (hb2.mono hB.size)⟩
theorem zNx(A:WG Addr)(n c:Nat)(l:List Nat)(w:WB)(h:Rd w A n c l)(ht:Lt l)(hl:n<=1099511627776):
  Calls prog 40 #[.slice A n c] w (zMa w (val l)):=by
 have hle:=h.le;have hcap:=h.cap;have hlen:=h.len
 have hown:yE (w.alloc (.cells #[] 69)) w.heap.size 69 (.slice (some ⟨w.heap.size,0,none⟩) 0 0) []:=lM (base:=w.heap.size) (e:=69) (size:=1) w #[] 0 (vQ _) (by unfold maxLen;omega) rfl
 have hbs:w.heap.size<=(w.alloc (.cells #[] 69)).heap.size:=fG
 go_enter func40,ntmps40
 go_wp2
 go_loop [3] (fun x=>∃k:Nat,k<=n/\x=.int .i64 k/\(∀i,k<=i->i<l.length->lm l i=0)) (fun x=>(intOf x).toNat)
 case atStart=>exact⟨n,vQ _,rfl,fun i h1 h2=>oA⟩
 case round=>
  obtain⟨k,hk,rfl,hz⟩:=hrel
  have HZ:=hid hz
  clear hz
  have hfin:∀w1 A1 c1,yE w1 w.heap.size 69 (.slice A1 k c1) ([]++l.take k)->(k=0∨lm l (k-1)≠0)->(w.alloc (.cells #[] 69)).grownBy w1 (Value.ownBlock (.slice (some ⟨w.heap.size,0,none⟩) 0 0))->zMa w (val l) (.returned (.slice A1 k c1)) w1:=by
   intro w1 A1 c1 h1 h2 h3
   rw[lI]at h1
   exact⟨A1,k,c1,l.take k,rfl,⟨zCa ht _,zCu l k oA HZ.out h2,jI oA HZ.out⟩,h1,yE.grown ((xG w.heap.size w).alloc (vQ _) _) hown h3 (vQ _) hbs⟩
  have HF:=hid hfin
  clear hfin
  have hs1:([]:List Nat).length+(l.take k).length<=17592186044416:=fM
  have hl1:([]++l.take k).length=k:=fM
  by_cases h0:0<k
  .obtain⟨b,o,rfl,hc⟩:=h.cells (k-1) oA
   have e1:((k:Int)-1).toNat=k-1:=oA
   by_cases hx:lm l (k-1)=0
   .go_wp2
    go_round
    case rel=>exact⟨k-1,oA,by congr 1;omega,fun i h1 h2=>by
     by_cases e:i=k-1
     .subst e;exact hx
     .exact HZ.out i oA h2⟩
    case measure=>simp[intOf];omega
   .have hx2:((lm l (k-1):Int)==0)=false:=by simpa using hx
    have HX:=hid hx
    clear hx
    have hr1:Rd (w.alloc (.cells #[] 69)) (some ⟨b,o,none⟩) k c (l.take k):=(h.take hk oA (vQ _)).alloc _
    go_wp2_with (at_builtin;go_must (refine zU rfl _ _ 24 69 rfl yH yX w.heap.size _ [] rfl hown _ k c (l.take k) rfl hr1 hs1 hbs ?_;intro v1 w1 hown1 hg1 hat1;obtain⟨A1,c1,rfl⟩:=hown1.form' hl1))
    go_ret
    exact HF.out w1 A1 c1 hown1 (.inr HX.out) hg1
  .obtain rfl:k=0:=oA
   cases A with
   |none=>
    obtain⟨rfl,rfl,rfl⟩:=h.empty
    go_wp2_with (at_builtin;go_must (refine zU rfl _ _ 24 69 rfl yH yX w.heap.size _ [] rfl hown _ 0 0 [] rfl (wM _) hs1 hbs ?_;intro v1 w1 hown1 hg1 hat1;obtain⟨A1,c1,rfl⟩:=hown1.form' hl1))
    go_ret
    exact HF.out w1 A1 c1 hown1 (.inl fG) hg1
   |some ad=>
    have hr1:Rd (w.alloc (.cells #[] 69)) (some ad) 0 c (l.take 0):=(h.take hk oA (vQ _)).alloc _
    go_wp2_with (at_builtin;go_must (refine zU rfl _ _ 24 69 rfl yH yX w.heap.size _ [] rfl hown _ 0 c (l.take 0) rfl hr1 hs1 hbs ?_;intro v1 w1 hown1 hg1 hat1;obtain⟨A1,c1,rfl⟩:=hown1.form' hl1))
    go_ret
    exact HF.out w1 A1 c1 hown1 (.inl fG) hg1
theorem zK9(A:WG Addr)(n c:Nat)(l:List Nat)(A':WG Addr)(n' c':Nat)(l':List Nat)(w:WB)(h:Rd w A n c l)(h':Rd w A' n' c' l')(ht:Lt l)(ht':Lt l')(hge:val l'<=val l)(hn:n<=137438953472):
  Calls prog 115 #[.slice A n c,.slice A' n' c'] w fun e w'=>∃A1 n1 c1 l1,e=.returned (.tuple #[.slice A1 n1 c1,.int .i64 0])/\Is l1 (val l-val l')/\yE w' w.heap.size 69 (.slice A1 n1 c1) l1/\Below w.heap.size w w':=by
 have hle:=h.le;have hcap:=h.cap;have hle':=h'.le;have hcap':=h'.cap
 have hcmp:decide (zAN (val l) (val l')<0)=false:=by
  unfold zAN
  rw[if_neg oA]
  split<;>simp
 have HN:Hid (l.length=n/\sm (lm l') n=val l'):=hid ⟨h.len,zJS (nD hge (by have:=qV ht;rwa [h.len]at this))⟩
 have HG:=hid hge
 clear hge
 go_enter func115,ntmps115
 go_wp2_with (go_at_call 114;refine(zFv A n c l A' n' c' l' _ h h' ht ht').mono ?_;rintro e w1 ⟨rfl,rfl⟩)
 go_loopw [6,7,8] (zXo w l l' n) (fun _ _ i _=>n-(intOf i).toNat)
 case atStart=>exact⟨0,0,none,0, [],vS _,rfl,rfl,rfl,oA,wV _ _ _,rfl,zCp,by simp[sm],xG _ _⟩
 case round=>
  obtain⟨k,u,Ao,co,lo,hk,rfl,rfl,rfl,hu1,hown,hlk,hlt,heq,hB⟩:=hrel
  have HQ:=hid heq
  clear heq
  have hr:=h.below hB;have hr':=h'.below hB
  have x1:=qQ ht k;have x2:=qQ ht' k
  simp only[BB]at x1 x2
  by_cases h0:k<n
  .obtain⟨d,z,t,u',hd,hz,htt,hu',hz1,hu1',hd1,ht1,hstep⟩:=zIS (lm l k) (lm l' k) u x1 x2 hu1
   have HS:=hid hstep
   clear hstep
   have hs1:lo.length+ [z].length<=17592186044416:=fM
   have hl1:(lo++ [z]).length=k+1:=fM
   go_wp2_with (first|(go_at_call 139;first|((with_reducible refine(zAd A _ c l _ _ hr ht (mU k)).mono ?_);rintro e w1 ⟨rfl,rfl⟩)|((with_reducible refine(zAd A' _ c' l' _ _ hr' ht' (mU k)).mono ?_);rintro e w1 ⟨rfl,rfl⟩))|(at_builtin;refine zU rfl _ _ 24 69 rfl yH yX w.heap.size _ lo rfl (yE.alloc hown _) _ 1 1 [z] rfl (Rd.one _ z 69) hs1 (qI hB.size _) ?_;intro v1 w1 hown1 hg1 hat1;obtain⟨A1,c1,rfl⟩:=hown1.form' hl1))
   go_roundw
   case rel=>exact⟨k+1,u',A1,c1,lo++ [z],oA,fR,rfl,rfl,hu1',hown1,hl1,zBP hlt hz1,by rw[zAX,hlk];simp only[sm,uA];exact zHu HQ.out HS.out,yE.grown (hB.alloc hB.size _) (yE.alloc hown _) hg1 (vQ _) (qI hB.size _)⟩
   case measure=>simp[intOf];omega
  .obtain rfl:k=n:=oA
   have hk1:k<=1099511627776:=oA
   go_wp2_with (go_at_call 40;refine(zNx _ _ _ _ _ hown.rd hlt hk1).mono ?_;rintro e w2 ⟨A2,n2,c2,l2,rfl,hi2,hr2,hb2⟩)
   go_ret2
   have e1:=zBk (l:=l) (n:=k) (by have:=HN.out;omega)
   have e2:=HN.out.2
   have e3:=qV hlt
   have e4:=HQ.out
   have e5:=HG.out
   rw[hlk]at e3
   rw[e1,e2]at e4
   have hu0:u=0:=by
    rcases bJ 0 u with h0|h0
    .have:u=1:=oA
     subst this
     omega
    .omega
   subst hu0
   have hv2:val lo=val l-val l':=oA
   rw[hv2]at hi2
   exact⟨A2,n2,c2,l2,rfl,hi2,hr2.base hB.size,hB.trans (hb2.mono hB.size)⟩
theorem zJi{base:Nat}{A:WG Addr}{n c:Nat}(h:yE w base e (.slice A n c) l):∀b o,A=some ⟨b,o,none⟩->base<=b:=by
 intro b o J
 subst J
 rcases h.2 with⟨I,_⟩|⟨g,cap,cur,I,hg,_⟩
 .cases I
 .injection I with h1 h2 h3
  injection h1 with h1
  injection h1 with h1 _
  omega
end Go.Proofs.Wd
