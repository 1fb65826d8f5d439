/- Walks of prod's Up and Down; The walk of prod's Down; Walks of straitr and what it needs. -/
import Derived.Test.YtencnknhnckpaaaGreatDoorMRT15
import Derived.Test.YtencnknhnckpaaaGreatDoorMRT14
abbrev pN:=@Int.natCast_pow
abbrev pP:=@Int.tdiv_eq_ediv_of_nonneg
abbrev pQ:=@Go.IntKind.wrap_i64
abbrev pR:=@Nat.lt_of_mul_lt_mul_left
abbrev pS:=@Nat.mul_mod_mul_right
namespace Go.Proofs.Wd
open Tryz
variable {w:WB}{B P s x z:Nat}{e:TypeId}{l:List Nat}
set_option maxRecDepth 100000
set_option maxHeartbeats 1000000
open Go.RowKit Lb
theorem zK6(k:Nat)(h:k<=17592186044416)(w:WB):
  (Instr.makeSlice 28 (.int .i64 0) (.int .i64 (k:Int))).run prog w=.ok (.slice (some ⟨w.heap.size,0,none⟩) 0 k) (w.alloc (.cells (madeCells #[.int .u32 0] k) 81)):=by
 obtain⟨i,J,O,hs,hb⟩:=cT yS
 have I:=run_make (P:=prog) w 28 81 i (.int .u32 0) yB J O .i64 .i64 0 k oA oA (by rw[hb];omega) oA
 simp only[fC,hs,gI]at I
 exact I
theorem zLD(k:Nat)(h:k<=17592186044416)(w:WB):z7 (w.alloc (.cells (madeCells #[.int .u32 0] k) 81)) w.heap.size 81 (.slice (some ⟨w.heap.size,0,none⟩) 0 k) []:=
 ⟨rfl,.inr ⟨w.heap.size,k,_,rfl,vR _,xM w _,vS _,by unfold maxLen;omega,by simp[madeCells],rfl⟩⟩
def zJU(w:WB)(v:Nat)(e:Ending)(w':WB):Prop:=∃A n c l,e=.returned (.slice A n c)/\Is l v/\z7 w' w.heap.size 81 (.slice A n c) l/\Below w.heap.size w w'
theorem z7.base{B':Nat}{v:Value}(h:z7 w B e v l)(hb:B'<=B):z7 w B' e v l:=by
 obtain⟨h1,I⟩:=h
 refine⟨h1,?_⟩
 rcases I with I|⟨g,cap,J,h3,h4,O⟩
 .exact .inl I
 .exact .inr ⟨g,cap,J,h3,oA,O⟩
theorem zDs(A:WF Addr)(n c:Nat)(l:List Nat)(w:WB)(h:Rd w A n c l)(hl:n<=1099511627776):
  Calls prog 104 #[.slice A n c] w fun e w'=>∃A' c',e=.returned (.slice A' n c')/\z7 w' w.heap.size 81 (.slice A' n c') l/\Below w.heap.size w w':=by
 have hq:=fun(wx:WB) (a:WF Addr) (l c:Nat)=>Lib.run_eql_slice_nil (P:=prog) wx 28 81 a l c 0 0 yB
 cases A with
 |none=>
  obtain⟨rfl,rfl,rfl⟩:=h.empty
  go_enter func104,ntmps104
  go_wp2
  go_ret
  exact⟨none,0,rfl,wS _ _ _,xF _ _⟩
 |some ad=>
  have hown:z7 (w.alloc (.cells #[] 81)) w.heap.size 81 (.slice (some ⟨w.heap.size,0,none⟩) 0 0) []:=fH (base:=w.heap.size) (e:=81) (size:=1) w #[] 0 (vR _) (by unfold maxLen;omega) rfl
  have hlen:=h.len
  go_enter func104,ntmps104
  go_wp2_with (at_builtin;refine zS rfl _ _ 28 81 rfl yB yS w.heap.size _ [] rfl hown (some ad) n c l rfl (h.alloc _) sB eN ?_;intro v1 w1 hown1 hg1 hat1;obtain⟨A1,c1,rfl⟩:=hown1.form)
  go_ret
  rw[eZ]at hown1
  have hb:=z7.grown ((xF w.heap.size w).alloc (vR _) _) hown hg1 (vR _) eN
  rw[hlen]at hown1
  exact⟨A1,c1,rfl,hown1,hb⟩
theorem zM9(A:WF Addr)(n c:Nat)(l:List Nat)(w:WB)(h:Rd w A n c l)(ht:Lt l)(hl:n<=1099511627776):
  Calls prog 86 #[.slice A n c] w (zJU w (val l)):=by
 have hle:=h.le;have hcap:=h.cap;have hlen:=h.len
 go_enter func86,ntmps86
 go_wp2
 go_loop [3] (fun x=>∃k:Nat,k<=n/\x=.int .i64 k/\(∀i,k<=i->i<l.length->lm l i=0)) (fun x=>(intOf x).toNat)
 case atStart=>exact⟨n,vR _,rfl,fun i h1 h2=>oA⟩
 case round=>
  obtain⟨k,hk,rfl,hz⟩:=hrel
  have HZ:=hid hz
  clear hz
  by_cases h0:0<k
  .obtain⟨b,o,rfl,hc⟩:=h.cells (k-1) oA
   have e1:((k:Int)-1).toNat=k-1:=oA
   by_cases hx:lm l (k-1)=0
   .go_wp2
    go_round
    case rel=>exact⟨k-1,oA,by congr 1;omega,fun i h1 h2=>by
     by_cases e:i=k-1
     .subst e;exact hx
     .exact HZ.out i oA h2⟩
    case measure=>simp[intOf];omega
   .have hx2:((lm l (k-1):Int)==0)=false:=by simpa using hx
    have HX:=hid hx
    clear hx
    go_wp2_with (go_at_call 104;refine(zDs _ k k (l.take k) _ (h.take oA (vR _) oA) oA).mono ?_;rintro e w1 ⟨A1,c1,rfl,hr1,hb1⟩)
    go_ret
    exact⟨A1,k,c1,l.take k,rfl,⟨zBC ht _,zBQ l k oA HZ.out (.inr HX.out),jJ oA HZ.out⟩,hr1,hb1⟩
  .obtain rfl:k=0:=oA
   cases A with
   |none=>
    obtain⟨rfl,rfl,rfl⟩:=h.empty
    go_wp2_with (go_at_call 104;refine(zDs _ 0 0 [] _ (wM _) oA).mono ?_;rintro e w1 ⟨A1,c1,rfl,hr1,hb1⟩)
    go_ret
    exact⟨A1,0,c1, [],rfl,Is.nil,hr1,hb1⟩
   |some ad=>
    go_wp2_with (go_at_call 104;refine(zDs _ 0 0 (l.take 0) _ (h.take oA (vR _) oA) oA).mono ?_;rintro e w1 ⟨A1,c1,rfl,hr1,hb1⟩)
    go_ret
    exact⟨A1,0,c1,l.take 0,rfl,⟨zBC ht _,zBQ l 0 oA HZ.out (.inl rfl),jJ oA HZ.out⟩,hr1,hb1⟩
def UpI(w:WB)(l:List Nat)(n s:Nat)(v o i:Value)(W:WB):Prop:=
 ∃(j u:Nat) (A:WF Addr) (c:Nat) (lo:List Nat),j<=n/\i=.int .i64 j/\o=.int .u32 u/\v=.slice A j c/\u<s/\z7 W w.heap.size 81 (.slice A j c) lo/\lo.length=j/\Lt lo/\
  val lo+u*BB^j=s*sm (lm l) j/\Below w.heap.size w W
theorem zKQ(n s u:Nat)(k:Nat)(hk:k<=31)(I:2^k=s)(hn:n<4294967296)(hu:u<s):
  ∃p hi lo z:Nat,n*s=p/\p<18446744073709551616/\p/4294967296=hi/\p%4294967296=lo/\hi<s/\lo<4294967296/\bits .or .u32 (lo:Int) (u:Int)=(z:Int)/\z<4294967296/\n*s+u=z+hi*4294967296:=by
 have h:s*2^(32-k)=4294967296:=by
  rw[<-I,<-uA,show k+(32-k)=32 from oA]
 have O:0<s:=by rw[<-I];exact nV _
 have hsl:s<4294967296:=by
  have:2<=2^(32-k):=by
   calc 2=2^1:=rfl
    _<=2^(32-k):=vZ oA oA
  have:=uR s this
  omega
 have hp:n*s<4294967296*s:=nW hn O
 have hp2:4294967296*s<=4294967296*4294967296:=uR _ oA
 obtain⟨q,hq⟩:∃q,n*s%4294967296=q*s:=by
  refine⟨n%2^(32-k),?_⟩
  rw[<-h,vT s,pS]
 have h0:n*s%4294967296|||u=n*s%4294967296+u:=by
  rw[hq,<-I,vT]
  exact(fJ (by rw[I];exact hu) q).symm
 have J:n*s%4294967296+u<4294967296:=by
  have h1:n*s%4294967296<4294967296:=oA
  rw[hq]at h1 ⊢
  rw[<-h,vT q]at h1
  have h2:q<2^(32-k):=pR h1
  have h3:(q+1)*s<=2^(32-k)*s:=uE _ h2
  rw[vU,uY,vT (2^(32-k)),h]at h3
  omega
 refine⟨n*s,n*s/4294967296,n*s%4294967296,n*s%4294967296+u,rfl,oA,rfl,rfl,gK (by rw[vT]at hp ⊢;exact hp),oA,?_,J,oA⟩
 rw[u32_or_nat _ _ oA oA,h0]
theorem zOT(A:WF Addr)(n c:Nat)(l:List Nat)(k:Nat)(w:WB)(h:Rd w A n c l)(ht:Lt l)(hk:k<=31)(hn:n<=100000):
  Calls prog 124 #[.slice A n c,.int .i64 (k:Int)] w (zJU w (val l*2^k)):=by
 have hle:=h.le;have hcap:=h.cap
 have HN:=hid h.len
 have hmk:∀wx:WB,(Instr.makeSlice 28 (.int .i64 0) (.int .i64 ((n:Int)+1))).run prog wx=.ok (.slice (some ⟨wx.heap.size,0,none⟩) 0 (n+1)) (wx.alloc (.cells (madeCells #[.int .u32 0] (n+1)) 81)):=fun wx=>zK6 (n+1) oA wx
 have hk1:(k:Int)/32=0:=oA
 have hk2:(k:Int)%32=(k:Int):=oA
 have hk3:(k:Int).tdiv 32=0:=by rw[pP oA];exact hk1
 have hk4:(k:Int).tmod 32=(k:Int):=by rw[nE oA];exact hk2
 obtain⟨s,hs⟩:∃s,2^k=s:=⟨_,rfl⟩
 rw[hs]
 have hsl:s<4294967296:=by rw[<-hs];exact mC (vZ oA hk) rY
 have hpow:(2:Int)^k%4294967296=(s:Int):=by
  rw[<-hs,pN]
  have:((2^k:Nat):Int)<4294967296:=by rw[hs];omega
  rw[pN]at this
  have h0:=lS (2^k)
  rw[pN]at h0
  exact Int.emod_eq_of_lt h0 this
 go_enter func124,ntmps124
 go_wp2_with (go_at_call 129;refine(zHO k 65536 oA oA _).mono ?_;rintro e w1 ⟨rfl,hw1⟩;rw[hw1];clear hw1 w1)
 go_loopw [5,6,24] (UpI w l n s) (fun _ _ i _=>n-(intOf i).toNat)
 case atStart=>exact⟨0,0,_,_, [],vS _,rfl,rfl,rfl,by rw[<-hs];exact nV _,zLD (n+1) oA w,rfl,zCc,by simp[sm],(xF _ w).alloc (vR _) _⟩
 case round=>
  obtain⟨j,u,Ao,co,lo,hj,rfl,rfl,rfl,hu,hown,hlo,hlt,heq,hB⟩:=hrel
  have HQ:=hid heq
  clear heq
  have hr:=h.below hB
  by_cases hjn:j<n
  .obtain⟨b,o,rfl,hcb⟩:=hr.cells j hjn
   have x1:=qK ht j
   simp only[BB]at x1
   obtain⟨x,hx⟩:∃x,lm l j=x:=⟨_,rfl⟩
   rw[hx]at x1 hcb
   obtain⟨p,hi,lw,z,hp,hp2,hhi,hlw,hhs,hlw2,hor,hz,hst⟩:=zKQ x s u k hk hs x1 hu
   have hmul:=zLL x s p hi lw x1 hsl hp hp2 hhi hlw
   have HX:=hid hx;have HST:=hid hst
   clear hx hst hp hhi hlw
   have hs1:lo.length+ [z].length<=17592186044416:=sB
   have hl1:(lo++ [z]).length=j+1:=sB
   go_wp2_with (first|(go_at_call 130;refine(hmul _).mono ?_;rintro e w2 ⟨rfl,rfl⟩)|(at_builtin;refine zS rfl _ _ 28 81 rfl yB yS w.heap.size _ lo rfl (z7.alloc hown _) _ 1 1 [z] rfl (Rd.one _ z 81) hs1 (qB hB.size _) ?_;intro v1 w3 hown1 hg1 hat1;obtain⟨A1,c1,rfl⟩:=hown1.form' hl1))
   go_roundw
   case rel=>exact⟨j+1,hi,A1,c1,lo++ [z],oA,sE,rfl,rfl,hhs,hown1,hl1,zBk hlt hz,by rw[zAz,hlo];simp only[sm,vY];rw[HX.out];exact zPE HQ.out HST.out,z7.grown (hB.alloc hB.size _) (z7.alloc hown _) hg1 (vR _) (qB hB.size _)⟩
   case measure=>simp[intOf];omega
  .obtain rfl:j=n:=oA
   have hs1:lo.length+ [u].length<=17592186044416:=sB
   have hl1:(lo++ [u]).length=j+1:=sB
   have hl2:Lt (lo++ [u]):=zBk hlt (by unfold BB;omega)
   have hk9:j+1<=1099511627776:=oA
   go_wp2_with (first|(at_builtin;refine zS rfl _ _ 28 81 rfl yB yS w.heap.size _ lo rfl (z7.alloc hown _) _ 1 1 [u] rfl (Rd.one _ u 81) hs1 (qB hB.size _) ?_;intro v1 w3 hown1 hg1 hat1;obtain⟨A1,c1,rfl⟩:=hown1.form' hl1)|(go_at_call 86;refine(zM9 _ _ _ _ _ hown1.rd hl2 hk9).mono ?_;rintro e w2 ⟨A2,n2,c2,l2,rfl,hi2,hr2,hb2⟩))
   go_ret
   have e1:=zAY (l:=l) (n:=j) (by have:=HN.out;omega)
   have hv:val (lo++ [u])=val l*s:=by rw[zAz,hlo,HQ.out,e1,vT]
   rw[hv]at hi2
   have hB1:=z7.grown (hB.alloc hB.size _) (z7.alloc hown _) hg1 (vR _) (qB hB.size _)
   exact⟨A2,n2,c2,l2,rfl,hi2,hr2.base hB1.size,hB1.trans (hb2.mono hB1.size)⟩
attribute [local go_sem] Oper.semAt_some qD yA
def zSD(w:WB)(R cc:Nat)(l:List Nat)(n s:Nat)(i:Value)(W:WB):Prop:=
 ∃(j:Nat) (l':List Nat),j<=n/\i=.int .i64 j/\Row W R cc l'/\l'.length=n/\Lt l'/\(∀x,j<=x->lm l' x=lm l x)/\
  sm (lm l) j+lm l j%s*BB^j=s*sm (lm l') j+lm l 0%s/\Below w.heap.size w W
theorem zMr(x y s k:Nat)(hk:k<=31)(hs:2^k=s)(hx:x<4294967296):
  ∃f sh z:Nat,x/s=f/\y*2^(32-k)%4294967296=sh/\f<4294967296/\sh<4294967296/\bits .or .u32 (f:Int) (sh:Int)=(z:Int)/\z<4294967296/\s*z=(x-x%s)+4294967296*(y%s)/\(y%s=0->f=z):=by
 have h:s*2^(32-k)=4294967296:=by
  rw[<-hs,<-uA,show k+(32-k)=32 from oA]
 have I:0<s:=by rw[<-hs];exact nV _
 obtain⟨T,hT⟩:∃T,2^(32-k)=T:=⟨_,rfl⟩
 rw[hT]at h
 have J:y*T%4294967296=y%s*T:=by rw[<-h,pS]
 have hf:x/s<T:=gK (by rw[h];exact hx)
 have O:y%s*T<4294967296:=by
  rw[<-h]
  exact nW (uH _ I) (by rw[<-hT];exact nV _)
 have h0:y%s*T|||x/s=y%s*T+x/s:=by
  rw[<-hT]at hf ⊢
  rw[vT]
  exact(fJ hf _).symm
 have hz:y%s*T+x/s<4294967296:=by
  have h1:(y%s+1)*T<=s*T:=uE _ (uH _ I)
  rw[h,vU,uY]at h1
  obtain⟨f,hf1⟩:∃f,x/s=f:=⟨_,rfl⟩
  rw[hf1]at hf ⊢
  omega
 refine⟨x/s,y*2^(32-k)%4294967296,y%s*T+x/s,rfl,rfl,mC (nO _ _) hx,oA,?_,hz,?_,fun e=>by rw[e,gD,uK]⟩
 .rw[hT,J,u32_or_nat _ _ (mC (nO _ _) hx) O,Nat.or_comm,h0]
 .rw[uF,nK,h,vT (y%s)]
  have:=gC x s
  omega
theorem zOw(A:WF Addr)(n c:Nat)(l:List Nat)(k:Nat)(w:WB)(h:Rd w A n c l)(ht:Lt l)(hk:k<=31)(hn:n<=100000):
  Calls prog 126 #[.slice A n c,.int .i64 (k:Int)] w (jH w (val l/2^k)):=by
 have hmix:prog.follows .mixedOrders=true:=rZ
 have hle:=h.le;have hcap:=h.cap
 have HN:=hid h.len
 have hk1:(k:Int)/32=0:=oA
 have hk2:(k:Int)%32=(k:Int):=oA
 have hk3:(k:Int).tdiv 32=0:=by rw[pP oA];exact hk1
 have hk4:(k:Int).tmod 32=(k:Int):=by rw[nE oA];exact hk2
 have hcount:∀w1:WB,Calls prog 129 #[.int .i64 (k:Int),.int .i64 65536] w1 fun e w'=>e=.returned (.int .i64 (k:Int))/\w'=w1:=fun w1=>zHO k 65536 oA oA w1
 rcases uJ n with rfl|hn0
 .obtain rfl:l=[]:=xL h.len
  go_enter func126,ntmps126
  go_wp2
  go_step3
  go_wp2_with (go_at_call 129;go_must (refine(hcount _).mono ?_;rintro e w1 ⟨rfl,hw1⟩;rw[hw1];clear hw1 w1))
  rw[fD]
  go_ret
  exact⟨none,0,0, [],rfl,by show Is [] (0/2^k);rw[Nat.zero_div];exact Is.nil,wM w,xF _ _⟩
 .obtain⟨b,o,rfl,_,_⟩:=h.shape hn0
  have hclone:=zDs (some ⟨b,o,none⟩) n c l w h oA
  obtain⟨s,hs⟩:∃s,2^k=s:=⟨_,rfl⟩
  rw[hs]
  go_enter func126,ntmps126
  go_wp2
  go_step3
  go_wp2_with (first|(go_at_call 129;go_must (refine(hcount _).mono ?_;rintro e w1 ⟨rfl,hw1⟩;rw[hw1];clear hw1 w1))|(go_at_call 104;go_must (refine hclone.mono ?_;rintro e w1 ⟨A1,c1,rfl,ho1,hb1⟩;obtain⟨R,rfl,_,hR,hrow⟩:=Row.of_own ho1 (by rw[h.len];exact hn0))))
  go_step3
  go_wp2
  go_loopw [21] (zSD w R c1 l n s) (fun i _=>n-(intOf i).toNat)
  case atStart=>exact⟨0,l,vS _,rfl,hrow,HN.out,ht,fun _ _=>rfl,by simp[sm],hb1⟩
  case round=>
   obtain⟨j,l',hj,rfl,hr,hl,hlt,hun,heq,hB⟩:=hrel
   have HQ:=hid heq
   have HU:=hid hun
   clear heq hun
   by_cases hjn:j<n
   .have hrc:=hr.cap
    have gr:=hr.cell (i:=j) oA
    have gf:=hr.frozen j
    have hx0:lm l' j=lm l j:=HU.out _ (vR _)
    have x1:=qK ht j
    simp only[BB]at x1
    obtain⟨x,hx⟩:∃x,lm l j=x:=⟨_,rfl⟩
    obtain⟨y,hy⟩:∃y,lm l (j+1)=y:=⟨_,rfl⟩
    rw[hx0,hx]at gr
    rw[hx]at x1
    obtain⟨f,sh,z,hf,hsh,hf2,hsh2,hor,hz,hst,hfz⟩:=zMr x y s k hk hs x1
    have hdv:(x:Int)/2^k=(f:Int):=by
     rw[<-hf,<-hs,nD,pN]
     rfl
    have HX:=hid hx;have HY:=hid hy;have HST:=hid hst;have HFZ:=hid hfz;have HSH:=hid hsh
    clear hx hx0 hy hst hf hfz hsh
    have key:∀(W:WB) (v:Nat),v<4294967296->v=z->Row W R c1 (l'.set j v)->Below w.heap.size w W->zSD w R c1 l n s (.int .i64 ((j:Int)+1)) W:=by
     intro W v hv hvz hr2 hb2
     subst hvz
     refine⟨j+1,l'.set j v,oA,sE,hr2,by rw[uC];exact hl,zCw hlt hz,fun y hy=>?_,?_,hb2⟩
     .rw[zAK oA,if_neg oA]
      exact HU.out y oA
     .have e1:sm (lm (l'.set j v)) (j+1)=sm (lm l') j+v*BB^j:=by
       show sm (lm (l'.set j v)) j+lm (l'.set j v) j*BB^j=_
       rw[zAK oA,if_pos rfl]
       congr 1
       exact zAB fun i hi=>by rw[zAK oA,if_neg oA]
      rw[e1,HY.out,vY]
      show sm (lm l) j+lm l j*BB^j+_*(BB^j*4294967296)=_
      rw[HX.out]
      have hq:=HQ.out
      rw[HX.out]at hq
      exact zMt hq HST.out
    have HK:=hid key
    clear key
    rcases(oA:n<=j+1∨(j+1<n/\k=0)∨(j+1<n/\0<k))with h9|⟨h9,h10⟩|⟨h9,h10⟩
    .have hy0:=HY.out
     rw[zDk (by have:=HN.out;omega)]at hy0
     have hfz:=HFZ.out (by rw[<-hy0];exact Nat.zero_mod s)
     have hk9:=HK.out _ f hf2 hfz (hr.set j f) (hB.setCell (p:=⟨R,j,none⟩) hR _)
     have HK9:=hid hk9
     clear hy0 hfz hk9
     go_wp2
     exact⟨HK9.out,by simp[intOf];omega⟩
    .have hk0:((k:Int)==0)=true:=by simp[h10]
     have hfz:=HFZ.out (by rw[<-hs,h10];exact gO y)
     have hk9:=HK.out _ f hf2 hfz (hr.set j f) (hB.setCell (p:=⟨R,j,none⟩) hR _)
     have HK9:=hid hk9
     clear hfz hk9 h10
     go_wp2
     exact⟨HK9.out,by simp[intOf];omega⟩
    .have hr9:=hr.set j f
     have hk9:=HK.out ((wr.setCell ⟨R,j,none⟩ (.int .u32 (f:Int))).setCell ⟨R,j,none⟩ (.int .u32 (z:Int))).drew z hz rfl (by have:=hr9.set j z;rw[List.set_set]at this;exact this.kept rfl) ((hB.setCell (p:=⟨R,j,none⟩) hR _).setCell (p:=⟨R,j,none⟩) hR _).drew
     have HK9:=hid hk9
     clear hk9
     have hk0:((k:Int)==0)=false:=by simp only[mF,ne_eq];omega
     have hjl:(j:Int)+1<(l.length:Int):=by have:=HN.out;omega
     have hwr:IntKind.i64.wrap ((j:Int)+1)=(j:Int)+1:=by rw[pQ];omega
     have hjt:((j:Int)+1).toNat=j+1:=oA
     obtain⟨m,hm⟩:∃m,32-k=m:=⟨_,rfl⟩
     have e2:(32:Int)-(k:Int)=(m:Int):=oA
     have e3:IntKind.i64.wrap (m:Int)=(m:Int):=by rw[pQ];omega
     have hshl:(y:Int)*2^m%4294967296=(sh:Int):=by
      rw[<-HSH.out,hm,nI,nB,pN]
      rfl
     have hm32:m<=32:=oA
     clear hm
     have d1:(wr.setCell ⟨R,j,none⟩ (.int .u32 (f:Int))).drew.cell? ⟨R,j,none⟩=some (.int .u32 (f:Int)):=by
      have:=hr9.cell (i:=j) (by rw[uC];omega)
      rwa [zAK oA,if_pos rfl]at this
     have d2:(wr.setCell ⟨R,j,none⟩ (.int .u32 (f:Int))).drew.cell? ⟨R,j+1,none⟩=some (.int .u32 (y:Int)):=by
      have:=hr9.cell (i:=j+1) (by rw[uC];omega)
      rw[zAK oA,if_neg oA,HU.out _ oA,HY.out]at this
      exact this
     have d3:(wr.setCell ⟨R,j,none⟩ (.int .u32 (f:Int))).drew.frozen? ⟨R,j,none⟩=false:=hr9.frozen j
     go_wp2
     refine(bJ (n:=0)).1<|zZ 15 (fun W=>W.cell? ⟨R,j,none⟩=some (.int .u32 (f:Int))/\W.cell? ⟨R,j+1,none⟩=some (.int .u32 (y:Int))) hmix ?_
     have d4:=And.intro d1 d2
     refine zQ (i:=0) (v:=?vv1) kA kA rfl kA kA kA (fun _ _ _ h=>h) d4 ⟨.inl ⟨rfl,?yy1⟩,fun _=>rfl⟩ ?_
     case yy1=>
      rintro wx ⟨q1,q2⟩
      go_simp
      first|done|rfl
     refine zQ (i:=1) (v:=?vv2) kA kA rfl kA kA kA (fun _ _ _ h=>h) d4 ⟨.inl ⟨rfl,?yy2⟩,fun _=>rfl⟩ ?_
     case yy2=>
      rintro wx ⟨q1,q2⟩
      go_simp
      first|done|rfl
     refine zQ (i:=2) (v:=?vv3) kA kA rfl kA kA kA (fun _ _ _ h=>h) d4 ⟨.inl ⟨rfl,?yy3⟩,fun _=>rfl⟩ ?_
     case yy3=>
      rintro wx ⟨q1,q2⟩
      go_simp
      first|done|rfl
     refine zQ (i:=3) (v:=?vv4) kA kA rfl kA kA kA (fun _ _ _ h=>h) d4 ⟨.inl ⟨rfl,?yy4⟩,fun _=>rfl⟩ ?_
     case yy4=>
      rintro wx ⟨q1,q2⟩
      go_simp
      first|done|rfl
     refine zQ (i:=4) (v:=?vv5) kA kA rfl kA kA kA (fun _ _ _ h=>h) d4 ⟨.inl ⟨rfl,?yy5⟩,fun _=>rfl⟩ ?_
     case yy5=>
      rintro wx ⟨q1,q2⟩
      go_simp
      first|done|rfl
     refine zQ (i:=5) (v:=?vv6) kA kA rfl kA kA kA (fun _ _ _ h=>h) d4 ⟨.inl ⟨rfl,?yy6⟩,fun _=>rfl⟩ ?_
     case yy6=>
      rintro wx ⟨q1,q2⟩
      go_simp
      first|done|rfl
     refine zQ (i:=6) (v:=?vv7) kA kA rfl kA kA kA (fun _ _ _ h=>h) d4 ⟨.inl ⟨rfl,?yy7⟩,fun _=>rfl⟩ ?_
     case yy7=>
      rintro wx ⟨q1,q2⟩
      go_simp
      first|done|rfl
     refine zQ (i:=7) (v:=?vv8) kA kA rfl kA kA kA (fun _ _ _ h=>h) d4 ⟨.inl ⟨rfl,?yy8⟩,fun _=>rfl⟩ ?_
     case yy8=>
      rintro wx ⟨q1,q2⟩
      go_simp
      first|done|rfl
     refine zQ (i:=8) (v:=?vv9) kA kA rfl kA kA kA (fun _ _ _ h=>h) d4 ⟨.inl ⟨rfl,?yy9⟩,fun _=>rfl⟩ ?_
     case yy9=>
      rintro wx ⟨q1,q2⟩
      go_simp
      first|done|rfl
     refine zQ (i:=9) (v:=?vv10) kA kA rfl kA kA kA (fun _ _ _ h=>h) d4 ⟨.inl ⟨rfl,?yy10⟩,fun _=>rfl⟩ ?_
     case yy10=>
      rintro wx ⟨q1,q2⟩
      go_simp
      first|done|rfl
     refine zQ (i:=10) (v:=?vv11) kA kA rfl kA kA kA (fun _ _ _ h=>h) d4 ⟨.inl ⟨rfl,?yy11⟩,fun _=>rfl⟩ ?_
     case yy11=>
      rintro wx ⟨q1,q2⟩
      go_simp
      first|done|rfl
     refine zQ (i:=11) (v:=?vv12) kA kA rfl kA kA kA (fun _ _ _ h=>h) d4 ⟨.inl ⟨rfl,?yy12⟩,fun _=>rfl⟩ ?_
     case yy12=>
      rintro wx ⟨q1,q2⟩
      go_simp
      first|done|rfl
     refine zQ (i:=12) (v:=?vv13) kA kA rfl kA kA kA (fun _ _ _ h=>h) d4 ⟨.inl ⟨rfl,?yy13⟩,fun _=>rfl⟩ ?_
     case yy13=>
      rintro wx ⟨q1,q2⟩
      go_simp
      first|done|rfl
     refine zQ (i:=13) (v:=?vv14) kA kA rfl kA kA kA (fun _ _ _ h=>h) d4 ⟨.inl ⟨rfl,?yy14⟩,fun _=>rfl⟩ ?_
     case yy14=>
      rintro wx ⟨q1,q2⟩
      go_simp
      first|done|rfl
     refine zQ (i:=14) (v:=?vv15) kA kA rfl kA kA kA (fun _ _ _ h=>h) d4 ⟨.inl ⟨rfl,?yy15⟩,fun _=>rfl⟩ ?_
     case yy15=>
      rintro wx ⟨q1,q2⟩
      go_simp
      first|done|rfl
     refine zAq (i:=15) kA rfl (fun K hK=>?_)
     go_simp
     refine hK _ _ (.inl rfl) ?_
     clear hK K
     refine zCd kA ?_
     go_wp2
     rw[hshl,hor]
     exact⟨HK9.out,by simp[intOf];omega⟩
   .obtain rfl:j=n:=oA
    have hfin:val l'=val l/s:=by
     have e1:sm (lm l) j=val l:=by have:=HN.out;unfold val;rw[this]
     have e2:sm (lm l') j=val l':=by unfold val;rw[hl]
     have e3:lm l j=0:=zDk (by have:=HN.out;omega)
     have hq:=HQ.out
     rw[e1,e2,e3,Nat.zero_mod,gD,uM]at hq
     have hs0:0<s:=by rw[<-hs];exact nV _
     rw[hq,gM hs0,uP (uH _ hs0),uM]
    have hrd:Rd wr (some ⟨R,0,none⟩) l.length c1 l':=by have:=hr.rd;rwa [hl,<-HN.out]at this
    have htr:=qT (some ⟨R,0,none⟩) l.length c1 l' wr hrd hlt (by rw[HN.out];omega)
    rw[hfin]at htr
    clear hfin
    go_wp2_with (go_at_call 86;(with_reducible refine htr.mono ?_);rintro e w2 ⟨A2,n2,c2,l2,rfl,hi2,hr2,hb2⟩)
    rw[fD]
    go_ret
    exact⟨A2,n2,c2,l2,rfl,hi2,hr2,hB.trans (hb2.mono hB.size)⟩
theorem zFC(k most:Int)(h0:0<=k)(h1:k<=most)(w:WB):Calls prog 111 #[.int .i64 k,.int .i64 most] w fun e w'=>e=.returned (.int .i64 k)/\w=w':=by
 have hmax:max k 0=k:=oA
 have hmin:min k most=k:=oA
 go_enter func111,ntmps111
 go_wp2
 go_ret
 exact⟨rfl,rfl⟩
theorem zKh(m:Nat)(h:m<=17592186044416)(w:WB):z7 (w.alloc (.cells (madeCells #[.int .u32 0] m) 81)) w.heap.size 81 (.slice (some ⟨w.heap.size,0,none⟩) m m) (List.replicate m 0):=by
 have I:madeCells #[.int .u32 0] m=(zBl (List.replicate m 0)).toArray:=by
  apply Array.ext'
  simp[madeCells,zBl,gO,nM]
 rw[I]
 unfold z7
 rw[mZ]
 exact⟨by simp[zBl],.inr ⟨w.heap.size,m,_,rfl,vR _,xM w _,vR _,by unfold maxLen;omega,by simp[zBl],by simp[zBl,mJ]⟩⟩
def zUB(w:WB)(l:List Nat)(n s q:Nat)(v o i:Value)(W:WB):Prop:=
 ∃(j u:Nat) (A:WF Addr) (c:Nat) (lo:List Nat),j<=n/\i=.int .i64 j/\o=.int .u32 u/\v=.slice A (q+j) c/\u<s/\z7 W w.heap.size 81 (.slice A (q+j) c) lo/\lo.length=q+j/\Lt lo/\
  val lo+u*BB^(q+j)=s*sm (lm l) j*BB^q/\Below w.heap.size w W
theorem zNo{X u Q h:Nat}(h1:X+u*(Q*P)=s*B*Q)(h2:x*s+u=z+h*4294967296):X+z*(Q*P)+h*(Q*P*4294967296)=s*(B+x*P)*Q:=by
 have I:(x*s+u)*(Q*P)=(z+h*4294967296)*(Q*P):=by rw[h2]
 have J:s*(B+x*P)*Q=s*B*Q+x*s*(Q*P):=by
  rw[uF,vU]
  congr 1
  rw[vT x s,vV,vV,vV,vT P Q]
 rw[J,<-h1]
 have e3:h*(Q*P*4294967296)=h*4294967296*(Q*P):=by rw[vT (Q*P),vV]
 rw[vU,vU]at I
 omega
theorem zK4(A:WF Addr)(n c:Nat)(l:List Nat)(q t:Nat)(w:WB)(h:Rd w A n c l)(ht:Lt l)(htt:t<=31)(hq:32*q+t<=65536)(hn:n<=100000):
  Calls prog 103 #[.slice A n c,.int .i64 ((32*q+t:Nat):Int)] w (jH w (val l*2^(32*q+t))):=by
 have hle:=h.le;have hcap:=h.cap
 have HN:=hid h.len
 have hpw:2^(32*q+t)=BB^q*2^t:=by rw[uA,<-zFW]
 obtain⟨k,hk⟩:∃k,32*q+t=k:=⟨_,rfl⟩
 rw[hk]at hpw hq ⊢
 have hk1:(k:Int)/32=(q:Int):=oA
 have hk2:(k:Int)%32=(t:Int):=oA
 have hk3:(k:Int).tdiv 32=(q:Int):=by rw[pP oA];exact hk1
 have hk4:(k:Int).tmod 32=(t:Int):=by rw[nE oA];exact hk2
 have hq2:q<=2048:=oA
 have hmk:∀wx:WB,(Instr.makeSlice 28 (.int .i64 (q:Int)) (.int .i64 (q:Int))).run prog wx=.ok (.slice (some ⟨wx.heap.size,0,none⟩) q q) (wx.alloc (.cells (madeCells #[.int .u32 0] q) 81)):=fun wx=>by
  have:=zA0 q oA wx
  exact this
 obtain⟨s,hs⟩:∃s,2^t=s:=⟨_,rfl⟩
 rw[hs]at hpw
 rw[hpw]
 have hsl:s<4294967296:=by rw[<-hs];exact mC (vZ oA htt) rY
 clear hpw hk
 go_enter func103,ntmps103
 go_wp2_with (go_at_call 111;refine(zFC k 65536 oA oA _).mono ?_;rintro e w1 ⟨rfl,rfl⟩)
 go_loopw [5,6,7] (zUB w l n s q) (fun _ _ i _=>n-(intOf i).toNat)
 case atStart=>exact⟨0,0,_,_,List.replicate q 0,vS _,rfl,rfl,rfl,by rw[<-hs];exact nV _,zKh q oA w,eN,jU _,by rw[zAl];simp[sm],(xF _ w).alloc (vR _) _⟩
 case round=>
  obtain⟨j,u,Ao,co,lo,hj,rfl,rfl,rfl,hu,hown,hlo,hlt,heq,hB⟩:=hrel
  have HQ:=hid heq
  have HLO:=hid hlo
  clear heq hlo
  have hr:=h.below hB
  by_cases hjn:j<n
  .obtain⟨b,o,rfl,hcb⟩:=hr.cells j hjn
   have x1:=qK ht j
   simp only[BB]at x1
   obtain⟨x,hx⟩:∃x,lm l j=x:=⟨_,rfl⟩
   rw[hx]at x1 hcb
   obtain⟨p,hi,lw,z,hp,hp2,hhi,hlw,hhs,hlw2,hor,hz,hst⟩:=zKQ x s u t htt hs x1 hu
   have hshl:IntKind.u64.wrap ((x:Int)*2^t)=(p:Int):=by
    have e1:(x:Int)*2^t=(p:Int):=by
     rw[<-hp,<-hs,nB,pN]
     rfl
    rw[e1,mK]
    omega
   have hp3:(p:Int)/4294967296=(hi:Int):=oA
   have hp4:(p:Int)%4294967296=(lw:Int):=oA
   have hp5:(hi:Int)%4294967296=(hi:Int):=oA
   have HX:=hid hx;have HST:=hid hst
   clear hx hst hp hhi hlw
   have hs1:lo.length+ [z].length<=17592186044416:=by have:=HLO.out;simp;omega
   have hl1:(lo++ [z]).length=q+(j+1):=by have:=HLO.out;simp;omega
   go_wp2_with (at_builtin;refine zS rfl _ _ 28 81 rfl yB yS w.heap.size _ lo rfl (z7.alloc hown _) _ 1 1 [z] rfl (Rd.one _ z 81) hs1 (qB hB.size _) ?_;intro v1 w3 hown1 hg1 hat1;obtain⟨A1,c1,rfl⟩:=hown1.form' hl1)
   go_roundw
   case rel=>exact⟨j+1,hi,A1,c1,lo++ [z],oA,sE,rfl,rfl,hhs,hown1,hl1,zBk hlt hz,by rw[zAz,HLO.out];simp only[sm,vY,<-uV];rw[HX.out,uA];exact zNo (by rw[<-uA];exact HQ.out) HST.out,z7.grown (hB.alloc hB.size _) (z7.alloc hown _) hg1 (vR _) (qB hB.size _)⟩
   case measure=>simp[intOf];omega
  .obtain rfl:j=n:=oA
   have hs1:lo.length+ [u].length<=17592186044416:=by have:=HLO.out;simp;omega
   have hl1:(lo++ [u]).length=q+j+1:=by have:=HLO.out;simp;omega
   have hl2:Lt (lo++ [u]):=zBk hlt (by unfold BB;omega)
   have hk9:q+j+1<=1099511627776:=oA
   go_wp2_with (first|(at_builtin;refine zS rfl _ _ 28 81 rfl yB yS w.heap.size _ lo rfl (z7.alloc hown _) _ 1 1 [u] rfl (Rd.one _ u 81) hs1 (qB hB.size _) ?_;intro v1 w3 hown1 hg1 hat1;obtain⟨A1,c1,rfl⟩:=hown1.form' hl1)|(go_at_call 36;refine(jK _ _ _ _ _ hown1.rd hl2 hk9).mono ?_;rintro e w2 ⟨A2,n2,c2,l2,rfl,hi2,hr2,hb2⟩))
   go_ret
   have e1:=zAY (l:=l) (n:=j) (by have:=HN.out;omega)
   have hv:val (lo++ [u])=val l*(BB^q*s):=by rw[zAz,HLO.out,HQ.out,e1,vT s,vV,vT s]
   rw[hv]at hi2
   have hB1:=z7.grown (hB.alloc hB.size _) (z7.alloc hown _) hg1 (vR _) (qB hB.size _)
   exact⟨A2,n2,c2,l2,rfl,hi2,hr2,hB1.trans (hb2.mono hB1.size)⟩
def zPr(w:WB)(l:List Nat)(n q s:Nat)(v i:Value)(W:WB):Prop:=
 ∃(j:Nat) (A:WF Addr) (c:Nat) (lo:List Nat),q+j<=n/\i=.int .i64 ((q+j:Nat):Int)/\v=.slice A j c/\z7 W w.heap.size 81 (.slice A j c) lo/\lo.length=j/\Lt lo/\
  val lo*s+lm l q%s=sm (fun x=>lm l (q+x)) j+lm l (q+j)%s*BB^j/\Below w.heap.size w W
theorem zJ3(x y s t:Nat)(ht:t<=31)(hs:2^t=s)(hx:x<4294967296)(hy:y<4294967296):
  ∃m z:Nat,x+y*4294967296=m/\m<18446744073709551616/\bits .or .u64 (x:Int) ((y:Int)*4294967296)=(m:Int)/\m/s%4294967296=z/\z<4294967296/\z*s+x%s=x+y%s*4294967296:=by
 have h0:=zEn y x hy hx
 have I:bits .or .u64 (x:Int) ((y:Int)*4294967296)=bits .or .u64 ((y:Int)*4294967296) (x:Int):=by
  have e:=fF x (y*4294967296) oA oA
  have O:=fF (y*4294967296) x oA oA
  rw[Nat.or_comm]at O
  rw[show((y:Int)*4294967296)=((y*4294967296:Nat):Int)from oA,e,O]
 have h:s*2^(32-t)=4294967296:=by
  rw[<-hs,<-uA,show t+(32-t)=32 from oA]
 have J:0<s:=by rw[<-hs];exact nV _
 obtain⟨g,hg⟩:∃g,2^(32-t)=g:=⟨_,rfl⟩
 rw[hg]at h
 refine⟨_,_,rfl,oA,by rw[I,h0];omega,rfl,uH _ oA,?_⟩
 have e1:(x+y*4294967296)/s=x/s+y*g:=by
  rw[<-h,show y*(s*g)=s*(y*g)from by rw[nK],gH _ _ J]
 have hxs:x/s<g:=gK (by rw[h];exact hx)
 have O:(x/s+y*g)%4294967296=x/s+y%s*g:=by
  have e3:y*g=y%s*g+4294967296*(y/s):=by
   have:=gC y s
   calc y*g=(s*(y/s)+y%s)*g:=by rw[this]
    _=y%s*g+4294967296*(y/s):=by rw[vU,gL,<-h];congr 1;rw[vV,vV,vT g]
  rw[e3,<-uV,gT,uU]
  have h1:y%s<s:=uH _ J
  have h2:(y%s+1)*g<=s*g:=uE _ h1
  rw[h,vU]at h2
  omega
 rw[e1,O,vU]
 have e4:=gC x s
 have e5:y%s*g*s=y%s*4294967296:=by rw[vV,vT g,h]
 rw[e5,vT (x/s)]
 omega
theorem zJ4{Z r S y:Nat}(h1:Z*s+r=S+x%s*P)(h2:z*s+x%s=x+y%s*4294967296):(Z+z*P)*s+r=S+x*P+y%s*(P*4294967296):=by
 have h:(z*s+x%s)*P=(x+y%s*4294967296)*P:=by rw[h2]
 rw[vU,vU]at h
 have e2:(Z+z*P)*s=Z*s+z*s*P:=by rw[vU,Nat.mul_right_comm]
 have e3:y%s*(P*4294967296)=y%s*4294967296*P:=by rw[vT P,vV]
 omega
theorem zLf(A:WF Addr)(n c:Nat)(l:List Nat)(q t:Nat)(w:WB)(h:Rd w A n c l)(ht:Lt l)(htt:t<=31)(hq:32*q+t<=65536)(hn:n<=100000)(hqn:q<=n):
  Calls prog 100 #[.slice A n c,.int .i64 ((32*q+t:Nat):Int)] w (jH w (val l/2^(32*q+t))):=by
 have hle:=h.le;have hcap:=h.cap
 have HN:=hid h.len
 have hpw:2^(32*q+t)=BB^q*2^t:=by rw[uA,<-zFW]
 obtain⟨k,hk⟩:∃k,32*q+t=k:=⟨_,rfl⟩
 rw[hk]at hpw hq ⊢
 have hk1:(k:Int)/32=(q:Int):=oA
 have hk2:(k:Int)%32=(t:Int):=oA
 have hk3:(k:Int).tdiv 32=(q:Int):=by rw[pP oA];exact hk1
 have hk4:(k:Int).tmod 32=(t:Int):=by rw[nE oA];exact hk2
 have hq2:q<=2048:=oA
 obtain⟨s,hs⟩:∃s,2^t=s:=⟨_,rfl⟩
 rw[hs]at hpw
 rw[hpw]
 have HS0:Hid (0<s):=hid (by rw[<-hs];exact nV _)
 have HS:=hid hs
 clear hpw hk hs
 have hown0:z7 w w.heap.size 81 (.slice none 0 0) []:=wS w _ _
 go_enter func100,ntmps100
 go_wp2_with (go_at_call 111;refine(zFC k 65536 oA oA _).mono ?_;rintro e w1 ⟨rfl,rfl⟩)
 go_loopw [5,6] (zPr w l n q s) (fun _ i _=>n-(intOf i).toNat)
 case atStart=>exact⟨0,none,0, [],oA,eN,rfl,hown0,rfl,zCc,by simp[sm],xF _ _⟩
 case round=>
  obtain⟨j,Ao,co,lo,hj,rfl,rfl,hown,hlo,hlt,heq,hB⟩:=hrel
  have HQ:=hid heq
  have HLO:=hid hlo
  clear heq hlo
  have hr:=h.below hB
  obtain⟨p,hp⟩:∃p,q+j=p:=⟨_,rfl⟩
  rw[hp]at hj ⊢
  have HP':=hid hp
  clear hp
  by_cases hjn:p<n
  .obtain⟨b,o,rfl,hcb⟩:=hr.cells p hjn
   have x1:=qK ht p
   have y1:=qK ht (p+1)
   simp only[BB]at x1 y1
   obtain⟨x,hx⟩:∃x,lm l p=x:=⟨_,rfl⟩
   obtain⟨y,hy⟩:∃y,lm l (p+1)=y:=⟨_,rfl⟩
   rw[hx]at x1 hcb
   rw[hy]at y1
   obtain⟨m,z,hm,hm2,hor,hz,hz2,hst⟩:=zJ3 x y s t htt HS.out x1 y1
   have hshr:(m:Int)/2^t%4294967296=(z:Int):=by
    rw[<-hz,nI,nD,<-HS.out,pN]
    rfl
   have HX:=hid hx;have HY:=hid hy;have HST:=hid hst;have HSH:=hid hshr;have HP:=HP';have HM:=hid hm
   clear hx hy hst hz hshr hm
   have hs1:lo.length+ [z].length<=17592186044416:=by have:=HLO.out;have:=HP.out;simp;omega
   have hl1:(lo++ [z]).length=j+1:=by have:=HLO.out;simp;omega
   have hrel2:∀(W3:WB) (A1:WF Addr) (c1:Nat),z7 W3 w.heap.size 81 (.slice A1 (j+1) c1) (lo++ [z])->Below w.heap.size w W3->zPr w l n q s (.slice A1 (j+1) c1) (.int .i64 ((p:Int)+1)) W3:=by
    intro W3 A1 c1 h1 h2
    refine⟨j+1,A1,c1,lo++ [z],by have:=HP.out;omega,by have:=HP.out;congr 1;omega,rfl,h1,hl1,zBk hlt hz2,?_,h2⟩
    rw[zAz,HLO.out]
    simp only[sm]
    have e1:q+(j+1)=p+1:=by have:=HP.out;omega
    rw[e1,HP.out,HX.out,HY.out,vY]
    have hq0:=HQ.out
    rw[HP.out,HX.out]at hq0
    exact zJ4 hq0 HST.out
   have HR:=hid hrel2
   clear hrel2
   by_cases hj1:p+1<n
   .obtain⟨b2,o2,e2,hcb2⟩:=hr.cells (p+1) hj1
    cases e2
    rw[HY.out]at hcb2
    have hpt:((p:Int)+1).toNat=p+1:=oA
    have hpw2:IntKind.u64.wrap ((y:Int)*4294967296)=(y:Int)*4294967296:=by rw[mK];omega
    have hshr:=HSH.out
    go_wp2_with (at_builtin;refine zS rfl _ _ 28 81 rfl yB yS w.heap.size _ lo rfl (z7.alloc hown _) _ 1 1 [z] rfl (Rd.one _ z 81) hs1 (qB hB.size _) ?_;intro v1 w3 hown1 hg1 hat1;obtain⟨A1,c1,rfl⟩:=hown1.form' hl1)
    have hB1:=z7.grown (hB.alloc hB.size _) (z7.alloc hown _) hg1 (vR _) (qB hB.size _)
    exact⟨HR.out w3 A1 c1 hown1 hB1,by simp[intOf];omega⟩
   .have hy0:y=0:=by rw[<-HY.out];exact zDk (by have:=HN.out;omega)
    have hmx:m=x:=by have:=HM.out;omega
    subst hmx
    have hshr:=HSH.out
    clear hor
    go_wp2_with (at_builtin;refine zS rfl _ _ 28 81 rfl yB yS w.heap.size _ lo rfl (z7.alloc hown _) _ 1 1 [z] rfl (Rd.one _ z 81) hs1 (qB hB.size _) ?_;intro v1 w3 hown1 hg1 hat1;obtain⟨A1,c1,rfl⟩:=hown1.form' hl1)
    have hB1:=z7.grown (hB.alloc hB.size _) (z7.alloc hown _) hg1 (vR _) (qB hB.size _)
    exact⟨HR.out w3 A1 c1 hown1 hB1,by simp[intOf];omega⟩
  .obtain rfl:p=n:=oA
   have hl0:lm l p=0:=zDk (by have:=HN.out;omega)
   have hq0:=HQ.out
   have hsm:sm (fun x=>lm l (q+x)) j=val l/BB^q:=by
    have e1:=jV l q (by have:=HN.out;omega)
    have e2:=qO (zBC ht q)
    rw[uG,uT (by have:=HN.out;omega)]at e2
    have e3:val (l.drop q)=sm (fun x=>lm l (q+x)) j:=by
     unfold val
     rw[uS,HN.out,show p-q=j from by have:=HP'.out;omega]
     exact zAB fun i _=>zC2
    rw[<-e3,e1,gH _ _ (zB3 q),uP e2,uK]
   rw[HP'.out,hl0,Nat.zero_mod,gD,uM,hsm]at hq0
   have hrs:lm l q%s<s:=uH _ HS0.out
   have hv:val lo=val l/(BB^q*s):=by
    rw[<-Nat.div_div_eq_div_mul,<-hq0,vT,gM HS0.out,uP hrs,uM]
   have htr:=jK _ _ _ lo wr hown.rd hlt (by have:=HP'.out;omega)
   rw[hv]at htr
   clear hq0 hsm hv hrs hl0
   go_wp2_with (go_at_call 36;refine htr.mono ?_;rintro e w2 ⟨A2,n2,c2,l2,rfl,hi2,hr2,hb2⟩)
   go_ret
   exact⟨A2,n2,c2,l2,rfl,hi2,hr2,hB.trans (hb2.mono hB.size)⟩
theorem zK9(A:WF Addr)(n c:Nat)(l:List Nat)(w:WB)(h:Rd w A n c l)(ht:Lt l)(hl:n<=1099511627776):
  Calls prog 36 #[.slice A n c] w (zJU w (val l)):=by
 have hle:=h.le;have hcap:=h.cap;have hlen:=h.len
 have hown:z7 (w.alloc (.cells #[] 81)) w.heap.size 81 (.slice (some ⟨w.heap.size,0,none⟩) 0 0) []:=fH (base:=w.heap.size) (e:=81) (size:=1) w #[] 0 (vR _) (by unfold maxLen;omega) rfl
 have hbs:w.heap.size<=(w.alloc (.cells #[] 81)).heap.size:=eN
 go_enter func36,ntmps36
 go_wp2
 go_loop [3] (fun x=>∃k:Nat,k<=n/\x=.int .i64 k/\(∀i,k<=i->i<l.length->lm l i=0)) (fun x=>(intOf x).toNat)
 case atStart=>exact⟨n,vR _,rfl,fun i h1 h2=>oA⟩
 case round=>
  obtain⟨k,hk,rfl,hz⟩:=hrel
  have HZ:=hid hz
  clear hz
  have hfin:∀w1 A1 c1,z7 w1 w.heap.size 81 (.slice A1 k c1) ([]++l.take k)->(k=0∨lm l (k-1)≠0)->(w.alloc (.cells #[] 81)).grownBy w1 (Value.ownBlock (.slice (some ⟨w.heap.size,0,none⟩) 0 0))->zJU w (val l) (.returned (.slice A1 k c1)) w1:=by
   intro w1 A1 c1 h1 h2 h3
   rw[eZ]at h1
   exact⟨A1,k,c1,l.take k,rfl,⟨zBC ht _,zBQ l k oA HZ.out h2,jJ oA HZ.out⟩,h1,z7.grown ((xF w.heap.size w).alloc (vR _) _) hown h3 (vR _) hbs⟩
  have HF:=hid hfin
  clear hfin
  have hs1:([]:List Nat).length+(l.take k).length<=17592186044416:=sB
  have hl1:([]++l.take k).length=k:=sB
  by_cases h0:0<k
  .obtain⟨b,o,rfl,hc⟩:=h.cells (k-1) oA
   have e1:((k:Int)-1).toNat=k-1:=oA
   by_cases hx:lm l (k-1)=0
   .go_wp2
    go_round
    case rel=>exact⟨k-1,oA,by congr 1;omega,fun i h1 h2=>by
     by_cases e:i=k-1
     .subst e;exact hx
     .exact HZ.out i oA h2⟩
    case measure=>simp[intOf];omega
   .have hx2:((lm l (k-1):Int)==0)=false:=by simpa using hx
    have HX:=hid hx
    clear hx
    have hr1:Rd (w.alloc (.cells #[] 81)) (some ⟨b,o,none⟩) k c (l.take k):=(h.take hk oA (vR _)).alloc _
    go_wp2_with (at_builtin;go_must (refine zS rfl _ _ 28 81 rfl yB yS w.heap.size _ [] rfl hown _ k c (l.take k) rfl hr1 hs1 hbs ?_;intro v1 w1 hown1 hg1 hat1;obtain⟨A1,c1,rfl⟩:=hown1.form' hl1))
    go_ret
    exact HF.out w1 A1 c1 hown1 (.inr HX.out) hg1
  .obtain rfl:k=0:=oA
   cases A with
   |none=>
    obtain⟨rfl,rfl,rfl⟩:=h.empty
    go_wp2_with (at_builtin;go_must (refine zS rfl _ _ 28 81 rfl yB yS w.heap.size _ [] rfl hown _ 0 0 [] rfl (wM _) hs1 hbs ?_;intro v1 w1 hown1 hg1 hat1;obtain⟨A1,c1,rfl⟩:=hown1.form' hl1))
    go_ret
    exact HF.out w1 A1 c1 hown1 (.inl eN) hg1
   |some ad=>
    have hr1:Rd (w.alloc (.cells #[] 81)) (some ad) 0 c (l.take 0):=(h.take hk oA (vR _)).alloc _
    go_wp2_with (at_builtin;go_must (refine zS rfl _ _ 28 81 rfl yB yS w.heap.size _ [] rfl hown _ 0 c (l.take 0) rfl hr1 hs1 hbs ?_;intro v1 w1 hown1 hg1 hat1;obtain⟨A1,c1,rfl⟩:=hown1.form' hl1))
    go_ret
    exact HF.out w1 A1 c1 hown1 (.inl eN) hg1
theorem zI3(A:WF Addr)(n c:Nat)(l:List Nat)(A':WF Addr)(n' c':Nat)(l':List Nat)(w:WB)(h:Rd w A n c l)(h':Rd w A' n' c' l')(ht:Lt l)(ht':Lt l')(hge:val l'<=val l)(hn:n<=137438953472):
  Calls prog 102 #[.slice A n c,.slice A' n' c'] w fun e w'=>∃A1 n1 c1 l1,e=.returned (.tuple #[.slice A1 n1 c1,.int .i64 0])/\Is l1 (val l-val l')/\z7 w' w.heap.size 81 (.slice A1 n1 c1) l1/\Below w.heap.size w w':=by
 have hle:=h.le;have hcap:=h.cap;have hle':=h'.le;have hcap':=h'.cap
 have hcmp:decide (zAs (val l) (val l')<0)=false:=by
  unfold zAs
  rw[if_neg oA]
  split<;>simp
 have HN:Hid (l.length=n/\sm (lm l') n=val l'):=hid ⟨h.len,zH0 (mC hge (by have:=qO ht;rwa [h.len]at this))⟩
 have HG:=hid hge
 clear hge
 go_enter func102,ntmps102
 go_wp2_with (go_at_call 101;refine(zEi A n c l A' n' c' l' _ h h' ht ht').mono ?_;rintro e w1 ⟨rfl,rfl⟩)
 go_loopw [6,7,8] (zSx w l l' n) (fun _ _ i _=>n-(intOf i).toNat)
 case atStart=>exact⟨0,0,none,0, [],vS _,rfl,rfl,rfl,oA,wS _ _ _,rfl,zCc,by simp[sm],xF _ _⟩
 case round=>
  obtain⟨k,u,Ao,co,lo,hk,rfl,rfl,rfl,hu1,hown,hlk,hlt,heq,hB⟩:=hrel
  have HQ:=hid heq
  clear heq
  have hr:=h.below hB;have hr':=h'.below hB
  have x1:=qK ht k;have x2:=qK ht' k
  simp only[BB]at x1 x2
  by_cases h0:k<n
  .obtain⟨d,z,t,u',hd,hz,htt,hu',hz1,hu1',hd1,ht1,hstep⟩:=zG4 (lm l k) (lm l' k) u x1 x2 hu1
   have HS:=hid hstep
   clear hstep
   have hs1:lo.length+ [z].length<=17592186044416:=sB
   have hl1:(lo++ [z]).length=k+1:=sB
   go_wp2_with (first|(go_at_call 112;first|((with_reducible refine(jW A _ c l _ _ hr ht (lS k)).mono ?_);rintro e w1 ⟨rfl,rfl⟩)|((with_reducible refine(jW A' _ c' l' _ _ hr' ht' (lS k)).mono ?_);rintro e w1 ⟨rfl,rfl⟩))|(at_builtin;refine zS rfl _ _ 28 81 rfl yB yS w.heap.size _ lo rfl (z7.alloc hown _) _ 1 1 [z] rfl (Rd.one _ z 81) hs1 (qB hB.size _) ?_;intro v1 w1 hown1 hg1 hat1;obtain⟨A1,c1,rfl⟩:=hown1.form' hl1))
   go_roundw
   case rel=>exact⟨k+1,u',A1,c1,lo++ [z],oA,sE,rfl,rfl,hu1',hown1,hl1,zBk hlt hz1,by rw[zAz,hlk];simp only[sm,vY];exact zF2 HQ.out HS.out,z7.grown (hB.alloc hB.size _) (z7.alloc hown _) hg1 (vR _) (qB hB.size _)⟩
   case measure=>simp[intOf];omega
  .obtain rfl:k=n:=oA
   have hk1:k<=1099511627776:=oA
   go_wp2_with (go_at_call 36;refine(zK9 _ _ _ _ _ hown.rd hlt hk1).mono ?_;rintro e w2 ⟨A2,n2,c2,l2,rfl,hi2,hr2,hb2⟩)
   go_ret2
   have e1:=zAY (l:=l) (n:=k) (by have:=HN.out;omega)
   have e2:=HN.out.2
   have e3:=qO hlt
   have e4:=HQ.out
   have e5:=HG.out
   rw[hlk]at e3
   rw[e1,e2]at e4
   have hu0:u=0:=by
    rcases xZ 0 u with h0|h0
    .have:u=1:=oA
     subst this
     omega
    .omega
   subst hu0
   have hv2:val lo=val l-val l':=oA
   rw[hv2]at hi2
   exact⟨A2,n2,c2,l2,rfl,hi2,hr2.base hB.size,hB.trans (hb2.mono hB.size)⟩
theorem zHp{base:Nat}{A:WF Addr}{n c:Nat}(h:z7 w base e (.slice A n c) l):∀b o,A=some ⟨b,o,none⟩->base<=b:=by
 intro b o J
 subst J
 rcases h.2 with⟨I,_⟩|⟨g,cap,cur,I,hg,_⟩
 .cases I
 .injection I with h1 h2 h3
  injection h1 with h1
  injection h1 with h1 _
  omega
end Go.Proofs.Wd
