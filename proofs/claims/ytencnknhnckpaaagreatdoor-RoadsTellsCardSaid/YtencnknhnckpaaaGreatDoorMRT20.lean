/- Natural numbers as values; the walks of gcd's Reduce, Lcm, Coprime; Th and what it needs. -/
import Derived.Test.YtencnknhnckpaaaGreatDoorMRT18
import Derived.Test.YtencnknhnckpaaaGreatDoorMRT19
theorem dA{P:Prop}(h:P:=by decide):P:=h
abbrev rF:=@Go.wpIn_block
abbrev rG:=@Go.wpIn_exit
abbrev rH:=@decide_eq_false_iff_not
abbrev rI:=@List.length_singleton
abbrev rJ:=@List.getElem?_map
abbrev rK:=@Nat.lt_irrefl
abbrev rL:=@List.not_mem_nil
abbrev rM:=@or_false
namespace Go.Proofs.Wd
open Tryz
variable {W:WB}{a b m:Nat}{v v':WD}
set_option maxHeartbeats 2000000
open Go.RowKit Lb
theorem zTe(h:LV W m v a)(h':LV W m v' b)(hm:m<=2000)(O:Tab W):Calls prog 105 #[v,v'] W (zMN W (Nat.gcd a b)):=by
 obtain⟨A,n,c,l,rfl,h1,h2,h3,rfl⟩:=h
 obtain⟨A',n',c',l',rfl,J,I,h3',rfl⟩:=h'
 exact(zQR A n c l A' n' c' l' W h1 J h2 I oA oA O).mono fun _ _=>jH.v
theorem zPm(I:a<BB^m)(hb:b<BB^m):Nat.gcd a b<BB^m:=by
 rcases uJ a with rfl|h
 .rwa [Nat.gcd_zero_left]
 .exact lU (lZ b h) I
theorem zMA{vg:WD}{g B:Nat}(h:LV W m v a)(hg:LV W m vg g)(hm:m<=2000)(hg0:0<g)(hc:W.cell? ⟨B,0,none⟩=some vg):
  Calls prog 116 #[v,pO B 0] W (zMN W (a/g)):=by
 obtain⟨A,n,c,l,rfl,h1,h2,h3,h4⟩:=h
 obtain⟨A',n',c',l',rfl,h1',h2',h3',h4'⟩:=hg
 have hd:=zJg a g hg0 A n c l A' n' c' l' W h1 h2 h1' h2' h4 h4' oA oA
 have H4:=hid h4;have H4':=hid h4'
 clear h4 h4'
 go_enter func116,ntmps116
 go_wp2_with fail
 refine hd.mono ?_
 rintro e w4 ⟨A4,n4,c4,l4,A5,n5,c5,l5,rfl,hi4,hr4,hi5,hr5,hb5⟩
 go_wp2_with fail
 go_ret
 exact⟨_,rfl,⟨A4,n4,c4,l4,rfl,hi4,hr4⟩,hb5⟩
theorem zSo(A:WF Addr)(n c:Nat)(w:WB):
  Calls prog 106 #[.slice A n c] w fun e w'=>e=.returned (.func (.func 116) #[] #[pO w.heap.size 0])/\w'=w.alloc (.cells #[.slice A n c] 28):=by
 go_enter func106,ntmps106
 go_wp2
 go_ret
 exact⟨rfl,rfl⟩
theorem zNv(h:LV W m v a)(h':LV W m v' b)(hm:m<=2000)(hT:Tab W):Calls prog 88 #[v,v'] W (zT5 W (a/Nat.gcd a b) (b/Nat.gcd a b)):=by
 have hgc:=zTe h h' hm hT
 have hgl:=zPm h.bound h'.bound
 have hen:∀args w,(callFunc 116 args).run prog w=.ok (.enter 116 args) w:=enters_of func116 kA rfl
 obtain⟨g,hg⟩:∃g,Nat.gcd a b=g:=⟨_,rfl⟩
 rw[hg]at hgc hgl ⊢
 rcases uJ g with h0|h0
 .have HZ:=hid h0
  go_enter func88,ntmps88
  go_wp2_with fail
  refine hgc.mono ?_
  rintro e w4 ⟨v4,rfl,⟨A4,n4,c4,l4,rfl,hi4,hr4⟩,hb4⟩
  obtain rfl:n4=0:=by rw[<-hr4.len];exact hi4.zero_iff.1 HZ.out
  go_wp2_with fail
  go_ret2
  exact⟨_,_,rfl,⟨none,0,0, [],rfl,by rw[HZ.out,Nat.div_zero];exact Is.nil,wM _⟩,⟨none,0,0, [],rfl,by rw[HZ.out,Nat.div_zero];exact Is.nil,wM _⟩,hb4⟩
 .clear hg
  go_enter func88,ntmps88
  go_wp2_with fail
  refine hgc.mono ?_
  rintro e w4 ⟨v4,rfl,⟨A4,n4,c4,l4,rfl,hi4,hr4⟩,hb4⟩
  have hn4:0<n4:=by rw[<-hr4.len];exact hi4.pos_iff.1 h0
  have hb5:=hb4.trans ((xF _ w4).alloc (vR _) (.cells #[.slice A4 n4 c4] 28)|>.mono hb4.size)
  have x5:=bX w4 28 (.slice A4 n4 c4)
  obtain⟨W5,hW5⟩:∃W5,w4.alloc (.cells #[.slice A4 n4 c4] 28)=W5:=⟨_,rfl⟩
  rw[hW5]at hb5 x5
  have hg5:LV W5 m (.slice A4 n4 c4) g:=by rw[<-hW5];exact(jB.lv ⟨A4,n4,c4,l4,rfl,hi4,hr4⟩ hgl).below ((xF _ w4).alloc (vR _) _)
  have hby:=zSo A4 n4 c4 w4
  rw[hW5]at hby
  clear hW5
  go_wp2_with fail
  refine hby.mono ?_
  rintro e w6 ⟨rfl,rfl⟩
  go_wp2_with fail
  refine(zMA (h.below hb5) hg5 hm h0 x5.cell).mono ?_
  rintro e w7 ⟨v7,rfl,hv7,hb7⟩
  go_wp2_with fail
  refine(zMA ((h'.below hb5).below hb7) (hg5.below hb7) hm h0 ((hb7.cell (p:=⟨w4.heap.size,0,none⟩) (zU x5.cell)).trans x5.cell)).mono ?_
  rintro e w8 ⟨v8,rfl,hv8,hb8⟩
  go_wp2_with fail
  go_ret2
  have t1:=hb5.trans (hb7.mono hb5.size)
  exact⟨_,_,rfl,hv7.below hb8,hv8,t1.trans (hb8.mono t1.size)⟩
end Go.Proofs.Wd

namespace Lb
set_option maxHeartbeats 2000000
theorem zRg{l:List Nat}(ht:Lt l){j s x:Nat}(hj:j<l.length)(hz:∀i,i<j->lm l i=0)(J:lm l j=2^s*x)(ho:x%2=1):TZ (val l) (32*j+s)/\s<32:=by
 have I:=qK ht j
 have hs:s<32:=by
  have O:2^s*1<=2^s*x:=uR _ oA
  rw[gI,<-J]at O
  exact(Nat.pow_lt_pow_iff_right dA).1 (lU O (by rw[zUa]at I;simpa using I))
 refine⟨?_,hs⟩
 have e0:val (l.take j)=0:=by
  rw[zF0 oA]
  have:sm (lm l) j=sm (lm l) 0:=zCR (vS _) fun i _ hi=>hz i hi
  rw[this];rfl
 have h:=jV l j oA
 rw[e0,uK,zBm hj,J,zFW]at h
 obtain⟨y,hy⟩:∃y,val (l.drop (j+1))=y:=⟨_,rfl⟩
 rw[hy,show BB=2^s*(2*2^(31-s))from by rw[<-gR,<-uA,show s+(31-s+1)=32 from oA];rfl,vV,<-uF,<-vV,<-uA]at h
 refine⟨x/2+2^(31-s)*y,?_⟩
 rw[h]
 congr 1
 rw[uF,<-vV]
 omega
end Lb
namespace Go.Proofs.Wd
open Tryz
open Go.RowKit Lb
variable {W:WB}{a m:Nat}{v:WD}
theorem zM7(A:WF Addr)(n c:Nat)(l:List Nat)(w:WB)(h:Rd w A n c l)(ht:Lt l)(h0:0<val l)(hn:n<=2000):
  ∃q t:Nat,TZ (val l) (32*q+t)/\t<=31/\q<n/\Calls prog 99 #[.slice A n c] w fun e w'=>e=.returned (.int .i64 ((32*q+t:Nat):Int))/\w'=w:=by
 obtain⟨j,hjn,hjz,hj0⟩:∃j,j<n/\(∀i,i<j->lm l i=0)/\lm l j≠0:=by
  have hex:∃j,lm l j≠0:=by
   refine rB fun hc=>?_
   have hz:∀i,lm l i=0:=fun i=>rB fun e=>hc ⟨i,e⟩
   have:sm (lm l) l.length=sm (lm l) 0:=zCR (vS _) fun i _ _=>hz i
   have e:val l=sm (lm l) l.length:=rfl
   rw[e,this]at h0
   simp[sm]at h0
  have hmin:∀k,(∃j,j<=k/\lm l j≠0)->∃j,(∀i,i<j->lm l i=0)/\lm l j≠0:=by
   intro k
   induction k with
   |zero=>rintro⟨j,hj,e⟩;exact⟨j,fun i hi=>oA,e⟩
   |succ k ih=>
    rintro⟨j,hj,e⟩
    by_cases hk:∃j,j<=k/\lm l j≠0
    .exact ih hk
    .exact⟨j,fun i hi=>rB fun e'=>hk ⟨i,oA,e'⟩,e⟩
  obtain⟨j0,hj0⟩:=hex
  obtain⟨j,h1,h2⟩:=hmin j0 ⟨j0,vR _,hj0⟩
  refine⟨j,?_,h1,h2⟩
  rw[<-h.len]
  exact Nat.lt_of_not_le fun e=>h2 (zDk e)
 obtain⟨s,hs⟩:=vJ (lm l j) oA
 obtain⟨m,hm⟩:=hs
 obtain⟨htz,hs32⟩:=zRg ht (s:=s) (x:=2*m+1) (by rw[h.len];exact hjn) hjz hm oA
 refine⟨j,s,htz,oA,hjn,?_⟩
 have hb:=qK ht j
 have hle:=h.le;have hcap:=h.cap
 have HJZ:=hid hjz;have HM:=hid hm;have HB:=hid hb
 obtain⟨d,hd⟩:∃d:Nat->Nat,d=fun i=>2^(s-i)*(2*m+1):=⟨_,rfl⟩
 have hd0:d 0=lm l j:=by rw[hd,hm];rfl
 have hds:d s%2=1:=by rw[hd];simp
 have hdi:∀i,i<s->d i%2=0/\d i/2=d (i+1):=fun i hi=>by
  rw[hd]
  show 2^(s-i)*(2*m+1)%2=0/\2^(s-i)*(2*m+1)/2=2^(s-(i+1))*(2*m+1)
  rw[show s-i=(s-(i+1))+1 from oA,gR,vV]
  omega
 have hdl:∀i,d i<=d 0:=fun i=>by
  rw[hd]
  exact uE _ (vZ oA oA)
 have HD0:=hid hd0;have HDS:=hid hds;have HDI:=hid hdi;have HDL:=hid hdl
 clear hd hd0 hds hdi hdl
 have HL:Hid (∀i,lm l i<4294967296):=hid fun i=>qK ht i
 clear hjz hm htz hb h0
 go_enter func99,ntmps99
 go_wp2
 go_loopw [3,4] (fun t i wr=>∃k:Nat,k<=j/\i=.int .i64 k/\t=.int .i64 ((32*k:Nat):Int)/\wr=w) (fun _ i _=>j-(intOf i).toNat)
 case atStart=>exact⟨0,vS _,rfl,rfl,rfl⟩
 case round=>
  obtain⟨k,hk,rfl,rfl,rfl⟩:=hrel
  obtain⟨b,o,rfl,hc⟩:=h.cells k oA
  by_cases hkj:k<j
  .have hz:=HJZ.out k hkj
   rw[hz]at hc
   clear hz
   go_wp2
   go_roundw
   case rel=>exact⟨k+1,oA,sE,sE,trivial⟩
   case measure=>simp[intOf];omega
  .obtain rfl:k=j:=oA
   have hlk:=HL.out k
   obtain⟨x,hx⟩:∃x,lm l k=x:=⟨_,rfl⟩
   rw[hx]at hc hj0 hlk
   have HX:=hid hx
   clear hx
   have e1:((32*k:Nat):Int).tdiv 32=(k:Int):=by rw[pP oA];omega
   have e2:(((32*k:Nat):Int)/32)=(k:Int):=oA
   have hx2:((x:Int)==0)=false:=by simpa using hj0
   go_wp2
   go_loopw [3,5] (fun t y wr2=>∃i:Nat,i<=s/\t=.int .i64 ((32*k+i:Nat):Int)/\y=.int .u32 (d i:Nat)/\wr2=wr) (fun t _ _=>32*k+s-(intOf t).toNat)
   case atStart=>exact⟨0,vS _,rfl,by rw[HD0.out,HX.out],rfl⟩
   case round=>
    obtain⟨i,hi,rfl,rfl,rfl⟩:=hrel
    have hdx:=HDL.out i
    rw[HD0.out,HX.out]at hdx
    by_cases his:i<s
    .obtain⟨q1,q2⟩:=HDI.out i his
     obtain⟨y,hy⟩:∃y,d i=y:=⟨_,rfl⟩
     rw[hy]at q1 q2 hdx ⊢
     have HY:=hid q2
     clear q2 hy
     go_wp2
     go_roundw
     case rel=>exact⟨i+1,oA,sE,by rw[<-HY.out];go_num,trivial⟩
     case measure=>simp[intOf];omega
    .obtain rfl:i=s:=oA
     have q1:=HDS.out
     obtain⟨y,hy⟩:∃y,d i=y:=⟨_,rfl⟩
     rw[hy]at q1 hdx ⊢
     clear hy
     go_wp2
     go_ret
     exact⟨rfl,rfl⟩
theorem zOE(h:Nat):Below W.heap.size W (W.drewN h):=⟨(xF W.heap.size W).os,(xF W.heap.size W).tape,(xF W.heap.size W).output,(xF W.heap.size W).size,(xF W.heap.size W).block⟩
theorem zRB{v':WD}{b:Nat}(h:LV W m v a)(h':LV W m v' b)(hm:m<=100000):Calls prog 62 #[v,v'] W (zMN W (a*b)):=by
 obtain⟨A,n,c,l,rfl,h1,O,h3,rfl⟩:=h
 obtain⟨A',n',c',l',rfl,J,I,h3',rfl⟩:=h'
 exact(zI9 A n c l A' n' c' l' W h1 J O I oA oA).mono fun _ _=>jH.v
theorem zDA(h:LV W m v a)(hm:m<=100000):Calls prog 36 #[v] W (zMN W a):=by
 obtain⟨A,n,c,l,rfl,I,J,h3,rfl⟩:=h
 exact(jK A n c l W I J oA).mono fun _ _=>jH.v
theorem jB.open{x:Nat}(h:jB W v x):∃A n c,v=.slice A n c/\(x=0->n=0)/\(0<x->0<n)/\n<=c/\c<=9223372036854775807/\jB W (.slice A n c) x:=by
 obtain⟨A,n,c,l,rfl,J,I⟩:=h
 have h3:=J.zero_iff;have O:=J.pos_iff
 rw[I.len]at h3 O
 exact⟨A,n,c,rfl,h3.1,O.1,I.le,I.cap,⟨A,n,c,l,rfl,J,I⟩⟩
end Go.Proofs.Wd

namespace Lb
set_option maxHeartbeats 2000000
theorem zPf{x k:Nat}(h:TZ x k):x/2^k%2=1/\x/2^k<=x/\0<x/2^k:=by
 have:=h.part.2
 exact⟨this,nZ _ _,Nat.pos_of_ne_zero fun e=>by rw[e]at this;simp at this⟩
def Bin(G x y:Nat):Prop:=0<y/\(x=0->y=G)/\∀i j,TZ x i->TZ y j->Nat.gcd (x/2^i) (y/2^j)=G
theorem Bin.start{a b i j:Nat}(h:TZ a i)(hj:TZ b j):Bin (Nat.gcd (a/2^i) (b/2^j)) a b:=
 ⟨hj.pos,fun e=>by have:=h.pos;omega,fun i' j' J I=>by rw[J.unique h,I.unique hj]⟩
theorem Bin.turn{G x y:Nat}(hx:x%2=1)(J:y%2=1)(I:Nat.gcd x y=G)(h:y<=x):Bin G (x-y) y:=by
 refine⟨oA,fun e=>?_,fun i j h1 O=>?_⟩
 .have:x=y:=oA
  rw[<-I,this,Nat.gcd_self]
 .have hj:j=0:=O.unique (wY J)
  rw[hj,Nat.pow_zero,Nat.div_one,uQ,vE J h1,uQ,zGC h,I]
end Lb
namespace Go.Proofs.Wd
open Tryz
open Go.RowKit Lb
variable {W W' w w' w0:WB}{M N a b b1 b2 base c c' d g gg i id j m n n' nn o z:Nat}{A A':WF Addr}{r x y:WK}{p q q':Rat}{e e' t t' te tt:WE}{pv rv u v v':WD}{cs vs zs:List WD}{k:Int}{qs:List Rat}{C S T:Nat->Prop}{F:Fence}{P:WG}{ops:Array Oper}{G:List (List (Nat×Rat))}{name pos:String}{aft:Array Edge}{Cs:List CU}{f:FuncId}{xs:Array WK}{args:Array WD}{ats:Array WE}{R:WB->Prop}{bq s:Bool}{L l out:List Wt}{done:List Bool}{E:Adj}
theorem zLe{x q t:Nat}(h:jB W (.slice A n c) x)(hx:x<BB^m)(hm:m<=2000)(I:t<=31)(hq:q<n):Calls prog 100 #[.slice A n c,.int .i64 ((32*q+t:Nat):Int)] W (zMN W (x/2^(32*q+t))):=by
 obtain⟨A1,n1,c1,l1,e1,J,O⟩:=h
 cases e1
 have hn:n<=m:=zHB J O hx
 have:=zLf A n c l1 q t W O J.lt I oA oA oA
 rw[J.val]at this
 exact this.mono fun _ _=>jH.v
theorem zSW{x q t:Nat}(h:LV W m (.slice A n c) x)(hm:m<=2000)(I:t<=31)(hq:q<=2000):Calls prog 103 #[.slice A n c,.int .i64 ((32*q+t:Nat):Int)] W (zMN W (x*2^(32*q+t))):=by
 obtain⟨A1,n1,c1,l1,J,h1,O,h3,rfl⟩:=h
 cases J
 exact(zK4 A n c l1 q t W h1 O I oA oA).mono fun _ _=>jH.v
def zT4(w:WB)(x:Nat):Ending->WB->Prop:=fun e w'=>∃v,e=.returned (.tuple #[v,.int .i64 0])/\jB w' v x/\Below w.heap.size w w'
theorem zO2(h:LV W m v a)(h':LV W m v' b)(hm:m<=2000)(O:b<=a):Calls prog 102 #[v,v'] W (zT4 W (a-b)):=by
 obtain⟨A,n,c,l,rfl,h1,h2,h3,rfl⟩:=h
 obtain⟨A',n',c',l',rfl,J,I,h3',rfl⟩:=h'
 refine(zF6 A n c l A' n' c' l' W h1 J h2 I O oA).mono ?_
 rintro e w' ⟨A1,n1,c1,l1,rfl,i1,r1,hb⟩
 exact⟨_,rfl,⟨A1,n1,c1,l1,rfl,i1,r1⟩,hb⟩
theorem zIN{x:Nat}(h:jB W (.slice A n c) x)(hx:x<BB^m)(hm:m<=2000)(h0:0<x):
  ∃q t:Nat,TZ x (32*q+t)/\t<=31/\q<n/\n<=m/\Calls prog 99 #[.slice A n c] W fun e w'=>e=.returned (.int .i64 ((32*q+t:Nat):Int))/\w'=W:=by
 obtain⟨A1,n1,c1,l1,e1,I,O⟩:=h
 cases e1
 have hn:n<=m:=zHB I O hx
 obtain⟨q,t,J,k2,k3,k4⟩:=zM7 A n c l1 W O I.lt (by rw[I.val];exact h0) oA
 rw[I.val]at J
 exact⟨q,t,J,k2,k3,hn,k4⟩
theorem jB.rdv{x:Nat}(h:jB W v x):rdv W v=x:=by
 obtain⟨A1,n1,c1,l1,rfl,J,I⟩:=h
 exact I.rdv J
def RgI(w:WB)(m G:Nat)(u v:WD)(W:WB):Prop:=∃A n c A' n' c' x y,u=.slice A n c/\v=.slice A' n' c'/\jB W (.slice A n c) x/\jB W (.slice A' n' c') y/\x<BB^m/\y<BB^m/\Bin G x y/\Below w.heap.size w W
theorem zQg(h:LV W m v a)(h':LV W m v' b)(hm:m<=2000):Calls prog 80 #[v,v'] W (zMN W (Nat.gcd a b)):=by
 have hla:=h.bound;have hlb:=h'.bound
 obtain⟨A0,n0,c0,rfl,-,k1,k2,h⟩:=h.open
 obtain⟨B0,m0,d0,rfl,-,k3,k4,h'⟩:=h'.open
 go_enter func80,ntmps80
 go_wp2_with fail
 refine(zDA h oA).mono ?_
 rintro e w1 ⟨va,rfl,ha,b1⟩
 obtain⟨A,n,c,rfl,za,pa,ia,ja,ha⟩:=ha.open
 go_wp2_with fail
 refine(zDA (h'.below b1) oA).mono ?_
 rintro e w2 ⟨vb,rfl,hb,b2⟩
 obtain⟨A',n',c',rfl,zb,pb,ib,jb,hb⟩:=hb.open
 have b02:=b1.trans (b2.mono b1.size)
 have ha2:=ha.below b2
 clear h h' ha b1 b2 k1 k2 k3 k4
 by_cases h0:a=0∨b=0
 .have hg:Nat.gcd a b=a+b:=by
   rcases h0 with e|e
   .rw[e];simp
   .rw[e];simp
  have h00:n=0∨(0<n/\n'=0):=by
   rcases uJ n with e|e
   .exact .inl e
   .refine .inr ⟨e,zb (h0.resolve_left fun e'=>?_)⟩
    have:=za e';omega
  have HG:=hid hg
  clear za pa zb pb h0 hg
  have ad:=zP3 (ha2.lv hla) (hb.lv hlb) oA 28
  have bS:Below w2.heap.size w2 (w2.alloc (.cells #[.slice A n c,.slice A' n' c'] 28)):=(xF _ w2).alloc (vR _) _
  have HLA:=hid hla;have HLB:=hid hlb
  clear hla hlb
  rcases h00 with rfl|⟨e1,rfl⟩
  all_goals
   go_wp2_with fail
   refine ad.mono ?_
   rintro e w4 ⟨vs,rfl,hs,b4⟩
   go_wp2_with fail
   go_ret
   exact⟨vs,rfl,by rw[HG.out];exact hs,b02.trans ((bS.trans (b4.mono bS.size)).mono b02.size)⟩
 .have hn0:0<n:=pa oA
  have hn0':0<n':=pb oA
  have hnb:((n:Int)==0)=false:=sB
  have hnb':((n':Int)==0)=false:=sB
  obtain⟨q,t,hz,ht,hq,hnm,htw⟩:=zIN ha2 hla hm oA
  obtain⟨q',t',hz',ht',hq',hnm',htw'⟩:=zIN hb hlb hm oA
  have hgcd:=hz.gcd hz'
  have hbin:=Bin.start hz hz'
  have hG0:Nat.gcd (a/2^(32*q+t)) (b/2^(32*q'+t'))<BB^m:=zPm (lU (nZ _ _) hla) (lU (nZ _ _) hlb)
  obtain⟨G,hG⟩:∃G,Nat.gcd (a/2^(32*q+t)) (b/2^(32*q'+t'))=G:=⟨_,rfl⟩
  rw[hG]at hgcd hbin hG0
  obtain⟨p,s,hs,hps,hpq⟩:∃p s:Nat,s<=31/\p<=2000/\min (32*q+t) (32*q'+t')=32*p+s:=by
   rcases gS (32*q+t) (32*q'+t')with e|e
   .exact⟨q,t,ht,oA,oA⟩
   .exact⟨q',t',ht',oA,oA⟩
  rw[hpq]at hgcd
  have hmin:min ((32*q+t:Nat):Int) ((32*q'+t':Nat):Int)=((32*p+s:Nat):Int):=oA
  have HGC:=hid hgcd;have HBI:=hid hbin;have HG0:=hid hG0
  obtain⟨k,hk⟩:∃k,32*q+t=k:=⟨_,rfl⟩
  obtain⟨k',hk'⟩:∃k,32*q'+t'=k:=⟨_,rfl⟩
  rw[hk]at htw hmin
  rw[hk']at htw' hmin
  obtain⟨K,hK⟩:∃K,32*p+s=K:=⟨_,rfl⟩
  rw[hK]at hmin
  have HK:=hid hK
  have hK2:K<=64500:=oA
  have hk2:k<=64500:=oA
  have hk2':k'<=64500:=oA
  have HLA:=hid hla;have HLB:=hid hlb
  clear hgcd hbin hG0 hz hz' hG hpq hk hk' hK za pa zb pb hq hq' ht ht' hnm hnm' h0 hla hlb
  go_wp2_with fail
  refine htw.mono ?_
  rintro e w3 ⟨rfl,rfl⟩
  go_wp2_with fail
  refine htw'.mono ?_
  rintro e w3 ⟨rfl,rfl⟩
  go_wp2
  go_loopw [0,1] (RgI W m G) (fun u v wr=>rdv wr u+rdv wr v)
  case atStart=>exact⟨A,n,c,A',n',c',a,b,rfl,rfl,ha2,hb,HLA.out,HLB.out,HBI.out,b02⟩
  case round=>
   clear ha2 hb b02 hn0 hn0' hnb hnb' htw htw' ia ja ib jb hmin
   obtain⟨A1,n1,c1,A2,n2,c2,x,y,rfl,rfl,hx,hy,hxl,hyl,hbn,hB⟩:=hrel
   obtain⟨_,_,_,e1,zx,px,ix,jx,_⟩:=hx.open
   cases e1
   obtain⟨_,_,_,e1,zy,py,iy,jy,_⟩:=hy.open
   cases e1
   have hy0:=hbn.1
   have HBN:=hid hbn
   have HXL:=hid hxl;have HYL:=hid hyl
   rcases uJ n1 with h0|h0
   .have hx0:x=0:=by
     rcases uJ x with e|e
     .exact e
     .have:=px e;omega
    have hyG:=hbn.2.1 hx0
    have HYG:=hid hyG
    have hup:=zSW (q:=p) (t:=s) (hy.lv hyl) hm hs hps
    rw[HK.out]at hup
    subst h0
    clear hbn hxl hyl hx0 hyG zx px zy py
    go_wp2_with fail
    refine hup.mono ?_
    rintro e w5 ⟨v5,rfl,hv5,hb5⟩
    go_wp2_with fail
    go_ret
    exact⟨v5,rfl,by rw[HGC.out,HK.out,<-HYG.out,vT];exact hv5,hB.trans (hb5.mono hB.size)⟩
   .have hx0:0<x:=Nat.pos_of_ne_zero fun e=>by have:=zx e;omega
    obtain⟨q1,t1,z1,ht1,hq1,hnm1,htw1⟩:=zIN hx hxl hm hx0
    have hd1:=zLe hx hxl hm ht1 hq1
    obtain⟨o1,o2,o3⟩:=zPf z1
    obtain⟨k1,hk1⟩:∃k,32*q1+t1=k:=⟨_,rfl⟩
    have hk1l:k1<=64500:=oA
    rw[hk1]at htw1 hd1 z1 o1 o2 o3
    have Z1:=hid z1
    obtain⟨X,hX⟩:∃X,x/2^k1=X:=⟨_,rfl⟩
    have HX:=hid hX
    rw[hX]at hd1 o1 o2 o3
    clear z1 hX hk1 ht1 hq1 hnm1 hbn zx px zy py
    have HO1:=hid o1
    have hrx:=hx.rdv;have hry:=hy.rdv
    have HRX:=hid hrx;have HRY:=hid hry
    clear hrx hry o1
    go_wp2_with fail
    refine htw1.mono ?_
    rintro e w5 ⟨rfl,rfl⟩
    go_wp2_with fail
    refine hd1.mono ?_
    rintro e w6 ⟨v6,rfl,h6,b6⟩
    obtain⟨A6,n6,c6,rfl,z6,p6,i6,j6,h6⟩:=h6.open
    have hy6:=hy.below b6
    obtain⟨q2,t2,z2,ht2,hq2,hnm2,htw2⟩:=zIN hy6 hyl hm hy0
    have hd2:=zLe hy6 hyl hm ht2 hq2
    obtain⟨o4,o5,o6⟩:=zPf z2
    obtain⟨k2,hk2⟩:∃k,32*q2+t2=k:=⟨_,rfl⟩
    have hk2l:k2<=64500:=oA
    rw[hk2]at htw2 hd2 z2 o4 o5 o6
    have Z2:=hid z2
    obtain⟨Y,hY⟩:∃Y,y/2^k2=Y:=⟨_,rfl⟩
    have HY:=hid hY
    rw[hY]at hd2 o4 o5 o6
    clear z2 hY hk2 ht2 hq2 hnm2 htw1 hd1 z6 p6
    have HO4:=hid o4
    clear o4
    go_wp2_with fail
    refine htw2.mono ?_
    rintro e w7 ⟨rfl,rfl⟩
    go_wp2_with fail
    refine hd2.mono ?_
    rintro e w8 ⟨v8,rfl,h8,b8⟩
    obtain⟨A8,n8,c8,rfl,z8,p8,i8,j8,h8⟩:=h8.open
    have h68:=h6.below b8
    have b68:=b6.trans (b8.mono b6.size)
    have hB8:=hB.trans (b68.mono hB.size)
    have hXl:X<BB^m:=lU o2 HXL.out
    have hYl:Y<BB^m:=lU o5 HYL.out
    have hXY:Nat.gcd X Y=G:=by rw[<-HX.out,<-HY.out];exact HBN.out.2.2 _ _ Z1.out Z2.out
    have HXY:=hid hXY
    obtain⟨cz,hcz⟩:∃cz,zAs X Y=cz:=⟨_,rfl⟩
    have hc1:=zRD (h68.lv hXl) (h8.lv hYl)
    have hcl:cz<0↔X<Y:=by
     rw[<-hcz]
     unfold zAs
     split
     .exact⟨fun _=>sD,fun _=>oA⟩
     .split
      .exact⟨fun h=>oA,fun h=>oA⟩
      .exact⟨fun h=>oA,fun h=>oA⟩
    rw[hcz]at hc1
    clear htw2 hd2 z8 p8 h6 hy6 hx hy hXY hcz hxl hyl
    have HXl:=hid hXl;have HYl:=hid hYl
    clear hXl hYl
    rcases xZ X Y with hlt|hge
    .have hcz:cz<0:=hcl.2 hlt
     have hsb:=zO2 (h8.lv HYl.out) (h68.lv HXl.out) hm (mI hlt)
     have hbt:=Bin.turn (G:=G) HO4.out HO1.out (by rw[uQ];exact HXY.out) (mI hlt)
     have HBT:=hid hbt
     clear hbt hcl
     go_wp2_with fail
     refine hc1.mono ?_
     rintro e w9 ⟨rfl,rfl⟩
     go_wp2_with fail
     refine hsb.mono ?_
     rintro e w10 ⟨v10,rfl,h10,b10⟩
     obtain⟨A10,n10,c10,rfl,z10,p10,i10,j10,h10⟩:=h10.open
     clear z10 p10
     go_wp2_with fail
     refine⟨⟨A10,n10,c10,A6,n6,c6,Y-X,X,rfl,rfl,h10,h68.below b10,lU (mM _ _) HYl.out,HXl.out,HBT.out,hB8.trans (b10.mono hB8.size)⟩,?_⟩
     show rdv _ _+rdv _ _<rdv _ _+rdv _ _
     rw[h10.rdv,(h68.below b10).rdv,HRX.out,HRY.out]
     omega
    .have hcz: ¬cz<0:=fun e=>by have:=hcl.1 e;omega
     have hsb:=zO2 (h68.lv HXl.out) (h8.lv HYl.out) hm hge
     have hbt:=Bin.turn (G:=G) HO1.out HO4.out HXY.out hge
     have HBT:=hid hbt
     clear hbt hcl
     go_wp2_with fail
     refine hc1.mono ?_
     rintro e w9 ⟨rfl,rfl⟩
     go_wp2_with fail
     refine hsb.mono ?_
     rintro e w10 ⟨v10,rfl,h10,b10⟩
     obtain⟨A10,n10,c10,rfl,z10,p10,i10,j10,h10⟩:=h10.open
     clear z10 p10
     go_wp2_with fail
     refine⟨⟨A10,n10,c10,A8,n8,c8,X-Y,Y,rfl,rfl,h10,h8.below b10,lU (mM _ _) HXl.out,HYl.out,HBT.out,hB8.trans (b10.mono hB8.size)⟩,?_⟩
     show rdv _ _+rdv _ _<rdv _ _+rdv _ _
     rw[h10.rdv,(h8.below b10).rdv,HRX.out,HRY.out]
     omega
set_option maxRecDepth 100000
theorem zOU{x:Nat}(h:LV W m v x)(hm:m<=100000):Calls prog 86 #[v] W (zMN W x):=by
 obtain⟨A,n,c,l,rfl,I,J,h3,rfl⟩:=h
 exact(qT A n c l W I J oA).mono fun _ _=>jH.v
theorem Tab.bls(J:Tab W)(hb:W.heap[b]?=some (.cells cs.toArray te (0,0)))(h0:∃s,cs[0]?=some (.bool s))(hg:BlS (fun k=>k=b) W w):Tab w:=fun j hj=>by
 have O:=J j hj
 have I:(0:Nat)≠b:=fun e=>by
  have h:=J 0 dA
  obtain⟨s,hs⟩:=h0
  unfold World.cell? at h
  rw[show((⟨0,0,none⟩:Addr).block)=b from e,hb]at h
  simp[hs]at h
 exact(bO (a:=⟨0,j,none⟩) (hg.block _ (zU O) I)).trans O
theorem zLt(h:QVp m k d (.agg cs.toArray) W):∃s,cs[0]?=some (.bool s):=by
 obtain⟨u,I,s,rfl⟩:=zRK cs W h
 exact⟨s,I⟩
theorem zDd(h:QVp m k d (.agg cs.toArray) W):cs.all z9=true:=by
 have:=(zER (v:=.agg cs.toArray) h).2
 simpa[Value.cells]using this
theorem zFZ{x:Nat}(h:jB W v x):Calls prog 55 #[v] W (Ret W (fNV (x:Int)).tS):=by
 exact y2 [(jG x).tS] func55 rfl kA ⟨h,trivial⟩ fun a s=>fK<|rgK 0 [] s
  zC fun a w1 s=>yP (CU.len 2) (cs:=[.bool false,.slice none 0 0]) kA rfl s kA (fun W=>rfl) rfl fun b2 a w s=>zF rfl<|fK<|rgK 2 ((3,.Z (jG x))::(4,.u (fNV (x:Int)))::[]) s
  (oc zA<|oc (zEY (fun u W (I:jB W u x)=>zMD I))<|zC) fun a w2 s=>yI (fNV (x:Int)) rfl s zGq fun a w s=>zF rfl<|nR<|wP s (CU.agg (fNV (x:Int))) rfl kA rfl rfl (zPh _) (fun cs W h=>h)
theorem zPW(z:Int)(hz: -9223372036854775808<=z/\z<=9223372036854775807):Calls prog 32 #[.int .i64 z] W (Ret W (fQN (z:Rat)).tS):=by
 exact y2 [(fI z).tS] func32 rfl kA ⟨rfl,trivial⟩ fun a s=>fK<|rgK 0 [] s
  zC fun a w1 s=>yP (CU.len 3) (cs:=zR3) kA rfl s kA (fun W=>rfl) rfl fun b2 a w s=>zF rfl<|fK<|rgK 4 ((3,.Z (uI z))::(4,.Z (fNV z))::(5,.Z (jG 1))::(6,.u (fQN (z:Rat)))::[]) s
  (oc zA<|oc (zK zD zTy (fun J W hb (O:J=.int .i64 z)=>by subst O;exact zUs z hz))<|oc (zEW (fun u W (I:u=.int .u32 1)=>zOZ I))<|oc (zAS (fun u v W (I:NV W u z) (hv:jB W v 1)=>zJP (q:=(z:Rat)) I hv))<|zC) fun a w2 s=>yI (fQN (z:Rat)) rfl s yO fun a w s=>zF rfl<|nR<|wP s (CU.agg (fQN (z:Rat))) rfl kA rfl rfl (yV _) (fun cs W h=>h)
theorem zPX(hh:W.heap[b]?=some (.cells cs.toArray 91 (0,0)))(hc:QVp m k d (.agg cs.toArray) W)(hm:m<=2000)(hd:d=0):Calls prog 70 #[pO b 0] W (zMX W b 91 (CU.agg (fQN ((0:Int):Rat))) (uB false).tS):=by
 have hz:true=decide (d=0):=(eY hd).symm
 refine zIc b [(0,UF.eq (pO b 0))] [⟨0,91,CU.agg (fQV m k d),b,false⟩] func70 rfl kA (fun q hq=>by simp at hq;subst hq;exact⟨eN,rfl⟩) ⟨⟨cs,rfl,.inr (.inr rfl),hh,hc,zDd hc,fun y hy=>by cases hy⟩,trivial⟩ (fun x O=>by simp at O;subst O;simp) fun a s=>rgQ ((2,.u (uB false))::[]) s
  (oc zE<|zC) fun a w1 s=>fK<|rgQ ((3,.s (wJ b (cg (fQV m k d))))::(4,.Y (fQV m k d))::(5,.X (fQV m k d) 0)::(6,.X (fQV m k d) 2)::(7,.Z (fLV m d))::(8,.Z (jG d))::(9,.s (zPn d))::(10,.u (uB true))::[]) s
  (oc zA<|oc (zBe (C:=cg (fQV m k d)))<|oc (zO (C:=cg (fQV m k d)) 0 kA)<|oc (q7 (C:=cg (fQV m k d)) 0 2 kA)<|oc (yK (C:=cg (fQV m k d)) (k:=2) kA (h:=zHj))<|oc (zK zD zR7 (fun I W hb (J:LV W m I d)=>zOU J oA))<|oc (zDE kA iiz)<|oc (zDF hz)<|zC) fun a w2 s=>StS.cond s true iiz (fun e=>?_) sF
 refine fK<|rgK 4 ((11,.Z (UF.eq (pO b 0)))::(12,.u (fQN ((0:Int):Rat)))::(13,.Z (UF.eq (pO b 0)))::(14,.u (UF.eq (pO b 0)))::[]) s
  (oc (zA (fun _ _ _ h=>h.1))<|oc (zK zD zHM (fun I W hb (J:I=.int .i64 0)=>by subst J;exact zPW 0 dA))<|oc (zBx (a:=⟨b,0,none⟩) iiz)<|oc (zBg (b:=b) (o:=0) 0 kA iiz)<|zC) fun a w3 s=>zCB (c:=0) (o:=0) (kk:=3) (CU.agg (fQN ((0:Int):Rat))) ((fQN ((0:Int):Rat)).tS) rfl s kA rfl rfl iiz iiz zNf fun a w s=>zF rfl<|fK ?_
 replace s:=s.drop [2]
 exact rgE ((2,.u (uB false))::[]) s
  (oc zE<|zC) fun a w4 s=>nR<|vH s (c:=0) (C:=CU.agg (fQN ((0:Int):Rat))) rfl rfl rfl rfl iiz
theorem zPY(hh:W.heap[b]?=some (.cells cs.toArray 91 (0,0)))(hc:QVp m k d (.agg cs.toArray) W)(hm:m<=2000)(O:0<d)(hT:Tab W):Calls prog 70 #[pO b 0] W (zMX W b 91 (CU.agg (fQN (mkRat k d))) (uB true).tS):=by
 have hz:false=decide (d=0):=(bD oA).symm
 have bk:k.natAbs<BB^m:=by obtain⟨_,_,_,_,J,_⟩:=hc;exact J.bound
 have h5:∀W I u1,Tab W->LV W m I k.natAbs->LV W m u1 d->Calls prog 88 #[I,u1] W (Ret W (wI (jG (k.natAbs/Nat.gcd k.natAbs d)).tS (jG (d/Nat.gcd k.natAbs d)).tS)):=fun W I u1 hT h0 J=>(zNv h0 J hm hT).mono fun e w' ⟨v,v',e1,J,h2,hb⟩=>⟨_,e1,⟨v,v',rfl,J,h2⟩,hb⟩
 refine zIc b [(0,UF.eq (pO b 0))] [⟨0,91,CU.agg (fQV m k d),b,false⟩] func70 rfl kA (fun q hq=>by simp at hq;subst hq;exact⟨eN,rfl⟩) ⟨⟨cs,rfl,.inr (.inr rfl),hh,hc,zDd hc,fun y hy=>by cases hy⟩,trivial⟩ (fun x hx=>by simp at hx;subst hx;simp) fun a s=>rgQ ((2,.u (uB false))::[]) s
  (oc zE<|zC) fun a w1 s=>fK<|rgQ ((3,.s (wJ b (cg (fQV m k d))))::(4,.Y (fQV m k d))::(5,.X (fQV m k d) 0)::(6,.X (fQV m k d) 2)::(7,.Z (fLV m d))::(8,.Z (jG d))::(9,.s (zPn d))::(10,.u (uB false))::[]) s
  (oc zA<|oc (zBe (C:=cg (fQV m k d)))<|oc (zO (C:=cg (fQV m k d)) 0 kA)<|oc (q7 (C:=cg (fQV m k d)) 0 2 kA)<|oc (yK (C:=cg (fQV m k d)) (k:=2) kA (h:=zHj))<|oc (zK zD zR7 (fun I W hb (h0:LV W m I d)=>zOU h0 oA))<|oc (zDE kA iiz)<|oc (zDF hz)<|zC) fun a w2 s=>StS.cond s false iiz sF (fun e=>?_)
 refine nQ<|fK<|rgK 10 ((15,.Z (UF.eq (pO b 0)))::(16,.s (wJ b (cg (fQV m k d))))::(17,.Y (fQV m k d))::(18,.X (fQV m k d) 0)::(19,.X (fQV m k d) 0)::(20,.Z (fUV m k))::(21,.u (fNV k))::(22,.Z (UF.eq (pO b 0)))::(23,.Z (UF.eq (pO b 0)))::(24,.u (UF.eq (pO b 0)))::[]) s
  (oc (zA (fun _ _ _ h=>h.1))<|oc zA<|oc (zBe (C:=cg (fQV m k d)))<|oc (zO (C:=cg (fQV m k d)) 0 kA)<|oc (q7 (C:=cg (fQV m k d)) 0 0 kA)<|oc (jS (C:=cg (fQV m k d)) (k:=0) 2 kA (h:=zLs))<|oc (zK zD zTo (fun I W hb (h0:UV W m I k)=>zRT h0 oA))<|oc (zBx (a:=⟨b,0,none⟩) iiz)<|oc (zBg (b:=b) (o:=0) 0 kA iiz)<|oc (zBg (b:=b) (o:=0) 0 kA iiz)<|zC) fun a w3 s=>zCB (c:=0) (o:=0) (kk:=2) (CU.agg (fQM m k d)) ((fNV k).tS) rfl s kA rfl rfl iiz iiz zPL fun a w s=>zF rfl<|fK<|jR [0,1,2,8] 15 ((26,.u (UF.eq (pO b 0)))::(27,.u (UF.eq (pO b 0)))::(28,.s (wJ b (cg (fQM m k d))))::(29,.Y (fQM m k d))::(30,.X (fQM m k d) 0)::(31,.X (fQM m k d) 0)::(32,.X (fQM m k d) 1)::(33,.Z (jG (k.natAbs)))::(34,.s (wJ b (cg (fQM m k d))))::(35,.Y (fQM m k d))::(36,.X (fQM m k d) 0)::(37,.X (fQM m k d) 2)::(38,.Z (fLV m d))::(39,.Z (zCa (jG (k.natAbs/Nat.gcd k.natAbs d)) (jG (d/Nat.gcd k.natAbs d))))::(25,.u (zCa (jG (k.natAbs/Nat.gcd k.natAbs d)) (jG (d/Nat.gcd k.natAbs d))))::[]) hmix s kA
  (oc (zA (fun _ _ _ h=>h.1))<|oc (zA (fun _ _ _ h=>h.1))<|oc zA<|oc (zBe (C:=cg (fQM m k d)))<|oc (zO (C:=cg (fQM m k d)) 0 kA)<|oc (q7 (C:=cg (fQM m k d)) 0 0 kA)<|oc (q7 (C:=cg (fQM m k d)) 0 1 kA)<|oc (yK (C:=cg (fQM m k d)) (k:=1) kA (h:=zRP))<|oc zA<|oc (zBe (C:=cg (fQM m k d)))<|oc (zO (C:=cg (fQM m k d)) 0 kA)<|oc (q7 (C:=cg (fQM m k d)) 0 2 kA)<|oc (yK (C:=cg (fQM m k d)) (k:=2) kA (h:=zRO))<|oc (zW zD zTn (fun I u1 W hb (h0:jB W I (k.natAbs)) (J:LV W m u1 d)=>h5 W I u1 (hT.bls hh (zLt hc) (s.gr.trans hb)) (jB.lv h0 bk) J))<|oc zA<|zC) fun Q' hQ a w4 s=>zBD (jG (k.natAbs/Nat.gcd k.natAbs d)) rfl s kA (zAD (A:=(jG (k.natAbs/Nat.gcd k.natAbs d)).tS) (B:=(jG (d/Nat.gcd k.natAbs d)).tS) iiz) kA fun a w s=>zBD (jG (d/Nat.gcd k.natAbs d)) rfl s kA (zAC (A:=(jG (k.natAbs/Nat.gcd k.natAbs d)).tS) (B:=(jG (d/Nat.gcd k.natAbs d)).tS) iiz) kA fun a w s=>zBD (UF.eq (pO b 0)) rfl s kA (zBx (a:=⟨b,0,none⟩) iiz) kA fun a w s=>zBD (UF.eq (pO b 0)) rfl s kA (zBg (b:=b) (o:=0) 0 kA iiz) kA fun a w s=>zBD (UF.eq (pO b 0)) rfl s kA (zBg (b:=b) (o:=0) 0 kA iiz) kA fun a w s=>zBD (UF.eq (pO b 1)) rfl s kA (zBg (b:=b) (o:=0) 1 kA iiz) kA fun a w s=>zCB (c:=0) (o:=1) (kk:=1) (CU.agg (fQA m (decide (k<0)) (k.natAbs/Nat.gcd k.natAbs d) d)) ((jG (k.natAbs/Nat.gcd k.natAbs d)).tS) rfl s kA rfl rfl iiz iiz zRn fun a w s=>zBD (UF.eq (pO b 0)) rfl s kA (zBx (a:=⟨b,0,none⟩) iiz) kA fun a w s=>zBD (UF.eq (pO b 0)) rfl s kA (zBg (b:=b) (o:=0) 0 kA iiz) kA fun a w s=>zBD (UF.eq (pO b 2)) rfl s kA (zBg (b:=b) (o:=0) 2 kA iiz) kA fun a w s=>zCB (c:=0) (o:=2) (kk:=1) (CU.agg (fQN (mkRat k d))) ((jG (d/Nat.gcd k.natAbs d)).tS) rfl s kA rfl rfl iiz iiz (zRm (zB6 k d O).symm (zDi k d O).symm (zCo k d O).symm) fun a w s=>zF rfl (hQ _ _ ?_)
 refine fK ?_
 replace s:=s.drop [2]
 exact rgE ((2,.u (uB true))::[]) s
  (oc zE<|zC) fun a w5 s=>nR<|vH s (c:=0) (C:=CU.agg (fQN (mkRat k d))) rfl rfl rfl rfl iiz
theorem zG8(O:W.heap[b]?=some (.cells cs.toArray 91 (0,0)))(I:QVp m k d (.agg cs.toArray) W)(J:m<=2000)(hT:Tab W):Calls prog 70 #[pO b 0] W (zMX W b 91 (CU.agg (fQN (mkRat k d))) (uB (decide (0<d))).tS):=by
 rcases uJ d with h|h
 .have:=zPX O I J h
  rw[h,pJ,bD oA]
  exact this
 .rw[eY h]
  exact zPY O I J h hT
theorem zSX(h:QVp m k d v W)(hm:m<=2000)(O:Tab W):Calls prog 52 #[v] W (Ret W (wK W 91 (CU.agg (fQN (mkRat k d))))):=by
 refine y2 [(fQV m k d).tS] func52 rfl kA ⟨h,trivial⟩ fun a s=>fK<|rgK 0 [] s
  zC fun a w1 s=>zAZ (CU.agg (fQV m k d)) rfl s kA (fun v W h=>zER h) fun b1 a w s=>yN (UF.eq (.pointer none)) rfl s kA iiz fun a w s=>zF rfl<|fK<|rgK 2 ((4,.Z (fQV m k d))::(5,.u (fQV m k d))::[]) s
  (oc (yJ (f:=fQV m k d) 3 kA (hz:=zO8 _ _ _))<|oc (zEY (fun u W (hu:QVp m k d u W)=>zSr hu))<|zC) fun a w2 s=>zAZ (CU.agg (fQV m k d)) rfl s kA (fun v W h=>zER h) fun I a w s=>zSQ rfl s kA fun a w s=>zF rfl<|fK<|rgK 1 ((7,.u (UF.eq (pO I 0)))::[]) s
  (oc (zA (fun _ _ _ h=>h.1))<|zC) fun a w3 s=>zIP (c:=3) (CU.agg (fQN (mkRat k d))) (UF.any) rfl zD zSa s kA rfl rfl iiz (fun cs h1 h2=>?_) fun a w s=>?_
 .exact(zG8 h1 h2 hm (O.below s.gr.below)).mono fun e w' ⟨v,g1,_,J⟩=>⟨v,g1,trivial,J⟩
 refine zF rfl<|fK ?_
 replace s:=s.drop [2]
 exact rgE ((9,.s (wJ I (cg (fQN (mkRat k d)))))::(2,.u (UF.eq (pO I 0)))::[]) s
  (oc zA<|oc (zE (fun _ _ _ h=>h.1))<|zC) fun a w4 s=>nR<|vL s (t:=2) (c:=3) rfl rfl rfl iiz
theorem zNY{b' m':Nat}{h5:List WD}(hh:W.heap[b]?=some (.cells cs.toArray 91 (0,0)))(hc:QNp q (.agg cs.toArray) W)(hk:W.heap[b']?=some (.cells h5.toArray 91 (0,0)))(h7:QNp q' (.agg h5.toArray) W)(he:b'≠b)(hq:QB q m)(I:QB q' m')(hm:m+m'+1<=2000)(hT:Tab W):Calls prog 57 #[pO b 0,pO b' 0] W (zMX W b 91 (CU.agg (fQN (q+q'))) SF.any):=by
 have bk:Bd (((q).num*((q').den:Int))+((q').num*((q).den:Int))) (m+m'+1):=hq.num_add I
 rw[Rat.add_def']
 refine zIc b [(0,UF.eq (pO b 0)),(1,UF.eq (pO b' 0))] [⟨0,91,CU.agg (fQN q),b,false⟩,⟨1,91,CU.agg (fQN q'),b',true⟩] func57 rfl kA (fun x hx=>by simp at hx;rcases hx with rfl|rfl<;>exact⟨eN,rfl⟩) ⟨⟨cs,rfl,.inr (.inr rfl),hh,hc,zDd (zNN hc hq),fun y hy=>by simp at hy;subst hy;exact .inl he⟩,⟨h5,rfl,.inl rfl,hk,h7,zDd (zNN h7 I),fun y hy=>by cases hy⟩,trivial⟩ (fun x hx=>by simp at hx;rcases hx with rfl|rfl<;>simp) fun a s=>fK<|jR [0,1,6,14,19] 32 ((4,.Z (UF.eq (pO b 0)))::(5,.s (wJ b (cg (fQN q))))::(6,.Y (fQN q))::(7,.X (fQN q) 0)::(8,.X (fQN q) 0)::(9,.Z (fNV ((q).num)))::(10,.s (wJ b' (cg (fQN q'))))::(11,.Y (fQN q'))::(12,.X (fQN q') 0)::(13,.X (fQN q') 2)::(14,.Z (jG ((q').den)))::(15,.Z (fNV ((q').den:Int)))::(16,.s (zMV (m+m') [(q).num,((q').den:Int)]))::(17,.Z (fNV ((q).num*((q').den:Int))))::(18,.s (wJ b' (cg (fQN q'))))::(19,.Y (fQN q'))::(20,.X (fQN q') 0)::(21,.X (fQN q') 0)::(22,.Z (fNV ((q').num)))::(23,.s (wJ b (cg (fQN q))))::(24,.Y (fQN q))::(25,.X (fQN q) 0)::(26,.X (fQN q) 2)::(27,.Z (jG ((q).den)))::(28,.Z (fNV ((q).den:Int)))::(29,.s (zMV (m+m') [(q').num,((q).den:Int)]))::(30,.Z (fNV ((q').num*((q).den:Int))))::(31,.s (zMV (m+m') [((q).num*((q').den:Int)),((q').num*((q).den:Int))]))::(32,.u (fNV (((q).num*((q').den:Int))+((q').num*((q).den:Int)))))::(33,.Z (UF.eq (pO b 0)))::(34,.Z (UF.eq (pO b 0)))::(35,.u (UF.eq (pO b 0)))::[]) hmix s kA
  (oc (zA (fun _ _ _ h=>h.1))<|oc zA<|oc (zBe (C:=cg (fQN q)))<|oc (zO (C:=cg (fQN q)) 0 kA)<|oc (q7 (C:=cg (fQN q)) 0 0 kA)<|oc (jS (C:=cg (fQN q)) (k:=0) 2 kA (h:=zCk))<|oc zA<|oc (zBe (C:=cg (fQN q')))<|oc (zO (C:=cg (fQN q')) 0 kA)<|oc (q7 (C:=cg (fQN q')) 0 2 kA)<|oc (yK (C:=cg (fQN q')) (k:=2) kA (h:=zBT))<|oc (zK zD zOj (fun J W hb (O:jB W J ((q').den))=>zFZ O))<|oc (y8 (fun u v W (hu:NV W u ((q).num)) (hv:NV W v ((q').den:Int))=>zBL (NV.uv' hu (Bd.mono (hq).1 (m':=(m+m')) sC)) (NV.uv' hv (Bd.mono (zAN I.2) (m':=(m+m')) sC))))<|oc (zK zD zOk (fun J W hb (O:ISV W (m+m') J [(q).num,((q').den:Int)])=>zN0 (k:=((q).num*((q').den:Int))) O (by show(m+m')*2+(m+m')+1<=40000;omega) eN eN))<|oc zA<|oc (zBe (C:=cg (fQN q')))<|oc (zO (C:=cg (fQN q')) 0 kA)<|oc (q7 (C:=cg (fQN q')) 0 0 kA)<|oc (jS (C:=cg (fQN q')) (k:=0) 2 kA (h:=zCk))<|oc zA<|oc (zBe (C:=cg (fQN q)))<|oc (zO (C:=cg (fQN q)) 0 kA)<|oc (q7 (C:=cg (fQN q)) 0 2 kA)<|oc (yK (C:=cg (fQN q)) (k:=2) kA (h:=zBT))<|oc (zK zD zOj (fun J W hb (O:jB W J ((q).den))=>zFZ O))<|oc (y8 (fun u v W (hu:NV W u ((q').num)) (hv:NV W v ((q).den:Int))=>zBL (NV.uv' hu (Bd.mono (I).1 (m':=(m+m')) sC)) (NV.uv' hv (Bd.mono (zAN hq.2) (m':=(m+m')) sC))))<|oc (zK zD zOk (fun J W hb (O:ISV W (m+m') J [(q').num,((q).den:Int)])=>zN0 (k:=((q').num*((q).den:Int))) O (by show(m+m')*2+(m+m')+1<=40000;omega) eN eN))<|oc (y8 (fun u v W (hu:NV W u ((q).num*((q').den:Int))) (hv:NV W v ((q').num*((q).den:Int)))=>zBL (NV.uv' hu (Bd.mono (Bd.mul (hq).1 (zAN I.2)) oA)) (NV.uv' hv (Bd.mono (Bd.mul (I).1 (zAN hq.2)) oA))))<|oc (zK zD zTs (fun J W hb (O:ISV W (m+m') J [((q).num*((q').den:Int)),((q').num*((q).den:Int))])=>zT1 (k:=(((q).num*((q').den:Int))+((q').num*((q).den:Int)))) O oA eN eN))<|oc (zBx (a:=⟨b,0,none⟩) iiz)<|oc (zBg (b:=b) (o:=0) 0 kA iiz)<|oc (zBg (b:=b) (o:=0) 0 kA iiz)<|zC) fun Q' hQ a w1 s=>zCB (c:=0) (o:=0) (kk:=2) (CU.agg (fQK (((q).num*((q').den:Int))+((q').num*((q).den:Int))) ((q).den))) ((fNV (((q).num*((q').den:Int))+((q').num*((q).den:Int)))).tS) rfl s kA rfl rfl iiz iiz (zPM (k0:=q.num) (d:=q.den)) fun a w s=>zF rfl (hQ _ _ ?_)
 refine fK<|jR [0,1,6] 15 ((36,.Z (UF.eq (pO b 0)))::(37,.s (wJ b (cg (fQK (((q).num*((q').den:Int))+((q').num*((q).den:Int))) ((q).den)))))::(38,.Y (fQK (((q).num*((q').den:Int))+((q').num*((q).den:Int))) ((q).den)))::(39,.X (fQK (((q).num*((q').den:Int))+((q').num*((q).den:Int))) ((q).den)) 0)::(40,.X (fQK (((q).num*((q').den:Int))+((q').num*((q).den:Int))) ((q).den)) 2)::(41,.Z (jG ((q).den)))::(42,.s (wJ b' (cg (fQN q'))))::(43,.Y (fQN q'))::(44,.X (fQN q') 0)::(45,.X (fQN q') 2)::(46,.Z (jG ((q').den)))::(47,.u (jG (((q).den)*((q').den))))::(48,.Z (UF.eq (pO b 0)))::(49,.Z (UF.eq (pO b 0)))::(50,.u (UF.eq (pO b 2)))::[]) hmix s kA
  (oc (zA (fun _ _ _ h=>h.1))<|oc zA<|oc (zBe (C:=cg (fQK (((q).num*((q').den:Int))+((q').num*((q).den:Int))) ((q).den))))<|oc (zO (C:=cg (fQK (((q).num*((q').den:Int))+((q').num*((q).den:Int))) ((q).den))) 0 kA)<|oc (q7 (C:=cg (fQK (((q).num*((q').den:Int))+((q').num*((q).den:Int))) ((q).den))) 0 2 kA)<|oc (yK (C:=cg (fQK (((q).num*((q').den:Int))+((q').num*((q).den:Int))) ((q).den))) (k:=2) kA (h:=zRQ))<|oc zA<|oc (zBe (C:=cg (fQN q')))<|oc (zO (C:=cg (fQN q')) 0 kA)<|oc (q7 (C:=cg (fQN q')) 0 2 kA)<|oc (yK (C:=cg (fQN q')) (k:=2) kA (h:=zBT))<|oc (zW zD zTr (fun J u1 W hb (O:jB W J ((q).den)) (h1:jB W u1 ((q').den))=>zS5 (LV.mono (jB.lv O hq.2) (m':=(m+m')) oA) (LV.mono (jB.lv h1 I.2) (m':=(m+m')) oA) oA))<|oc (zBx (a:=⟨b,0,none⟩) iiz)<|oc (zBg (b:=b) (o:=0) 0 kA iiz)<|oc (zBg (b:=b) (o:=0) 2 kA iiz)<|zC) fun Q' hQ a w2 s=>zCB (c:=0) (o:=2) (kk:=1) (CU.agg (fQK (((q).num*((q').den:Int))+((q').num*((q).den:Int))) (((q).den)*((q').den)))) ((jG (((q).den)*((q').den))).tS) rfl s kA rfl rfl iiz iiz zPN fun a w s=>zF rfl (hQ _ _ ?_)
 refine rgK 1 ((51,.u (UF.eq (pO b 0)))::[]) s
  (oc (zA (fun _ _ _ h=>h.1))<|zC) fun a w3 s=>zIP (c:=0) (CU.agg (fQN (mkRat (((q).num*((q').den:Int))+((q').num*((q).den:Int))) ((q).den*(q').den)))) (UF.any) rfl zD zSa s kA rfl rfl iiz (fun cs h1 h2=>?_) fun a w s=>?_
 .exact(zG8 (m:=m+m'+1) h1 (zS4 h2 bk (vW (hq.den_mul I) (vZ qA oA))) oA (hT.bls hh (zLt (zNN hc hq)) s.gr)).mono fun e w' ⟨v,g1,_,g2⟩=>⟨v,g1,trivial,g2⟩
 exact zF rfl<|vK s (c:=0) (C:=CU.agg (fQN (mkRat (((q).num*((q').den:Int))+((q').num*((q).den:Int))) ((q).den*(q').den)))) rfl rfl rfl rfl (fun _=>trivial)
theorem zLb(h:RVp m q v W)(J:m<=2000)(I:Tab W):Calls prog 52 #[v] W (Ret W (wK W 91 (CU.agg (fQN q)))):=by
 obtain⟨k,d,O,rfl⟩:=h
 exact zSX O J I
theorem zP7(h:RVp m q v W)(hm:m<=2000)(I:0<m)(O:Tab W):Calls prog 49 #[v] W (Ret W (fQN q).tS):=by
 have hq:QB q m:=h.qb I
 exact y2 [(fRV m q).tS] func49 rfl kA ⟨h,trivial⟩ fun a s=>fK<|rgK 0 [] s
  zC fun a w1 s=>zAZ (CU.agg (fRV m q)) rfl s kA (fun v W h=>zDP h) fun b1 a w s=>yP (CU.len 3) (cs:=zR3) kA rfl s kA (fun W=>rfl) rfl fun b2 a w s=>zF rfl<|fK<|rgK 5 ((3,.Z (fRV m q))::(4,.s (wK w 91 (CU.agg (fQN q))))::(5,.Y (fQN q))::(6,.X (fQN q) 0)::(7,.u (fQN q))::[]) s
  (oc (yJ (f:=fRV m q) 3 kA (hz:=zBu _ _))<|oc (zK zD zOl (fun u0 W J (h0:RVp m q u0 W)=>(zLb h0 oA (O.below (s.up J))).mono (wF (zCK J.size))))<|oc (zBe (C:=cg (fQN q)) zFJ)<|oc (zO (C:=cg (fQN q)) 0 kA)<|oc (jS (C:=cg (fQN q)) (k:=0) 3 kA (h:=zNM))<|zC) fun a w2 s=>yI (fQN q) rfl s yO fun a w s=>zF rfl<|nR<|wP s (CU.agg (fQN q)) rfl kA rfl rfl (yV _) (fun cs W h=>h)
theorem zP5(h:RVp m q v W)(hm:m<=2000)(O:0<m)(hT:Tab W):Calls prog 48 #[v] W (Ret W (fI q.num.sign).tS):=by
 have hq:QB q m:=h.qb O
 refine y2 [(fRV m q).tS] func48 rfl kA ⟨h,trivial⟩ fun a s=>fK<|rgK 0 [] s
  zC fun a w1 s=>zAZ (CU.agg (fRV m q)) rfl s kA (fun v W h=>zDP h) fun b1 a w s=>yN (uI 0) rfl s kA iiz fun a w s=>zF rfl<|fK ?_
 replace s:=s.drop [2]
 exact rgE ((3,.Z (fRV m q))::(4,.s (wK w 91 (CU.agg (fQN q))))::(5,.Y (fQN q))::(6,.X (fQN q) 0)::(7,.X (fQN q) 0)::(8,.Z (fNV ((q).num)))::(9,.Z (uI (q.num.sign)))::(2,.u (uI (q.num.sign)))::[]) s
  (oc (yJ (f:=fRV m q) 3 kA (hz:=zBu _ _))<|oc (zK zD zOl (fun I W hb (J:RVp m q I W)=>(zLb J oA (hT.below (s.up hb))).mono (wF (zCK hb.size))))<|oc (zBe (C:=cg (fQN q)) zFJ)<|oc (zO (C:=cg (fQN q)) 0 kA)<|oc (q7 (C:=cg (fQN q)) 0 0 kA)<|oc (jS (C:=cg (fQN q)) (k:=0) 2 kA (h:=zCk))<|oc (zK zD zTu (fun I W hb (J:NV W I ((q).num))=>zEt (zRu (NV.uv' J (hq).1) oA)))<|oc zE<|zC) fun a w2 s=>nR<|wG s (t:=2) rfl iiz
theorem zLh(h:RVp m q v W)(h':RVp m q' v' W)(hm:m<=2000)(h4:0<m)(hT:Tab W):Calls prog 33 #[v,v'] W (Ret W (fI (qsg q q')).tS):=by
 have hq:QB q m:=h.qb h4
 have h2:QB q' m:=h'.qb h4
 refine y2 [(fRV m q).tS,(fRV m q').tS] func33 rfl kA ⟨h,h',trivial⟩ fun a s=>fK<|rgK 0 [] s
  zC fun a w1 s=>zAZ (CU.agg (fRV m q)) rfl s kA (fun v W h=>zDP h) fun b2 a w s=>zAZ (CU.agg (fRV m q')) rfl s kA (fun v W h=>zDP h) fun b3 a w s=>yN (uI 0) rfl s kA iiz fun a w s=>zF rfl<|fK ?_
 have so:=s.old;have sg:=s.gr
 refine rgL 6 ((7,.Z (fRV m q))::(8,.s (wK w 91 (CU.agg (fQN q))))::(9,.Z (fRV m q'))::(10,.s (wK w 91 (CU.agg (fQN q'))))::(5,.s (wK w 91 (CU.agg (fQN q))))::(6,.s (wK w 91 (CU.agg (fQN q'))))::[]) s
  (oc (yJ (f:=fRV m q) 3 kA (hz:=zBu _ _))<|oc (zK zD zOl (fun I W O (J:RVp m q I W)=>(zLb J oA (hT.below (s.up O))).mono (wF (zCK O.size))))<|oc (yJ (f:=fRV m q') 3 kA (hz:=zBu _ _))<|oc (zK zD zOl (fun I W O (J:RVp m q' I W)=>(zLb J oA (hT.below (s.up O))).mono (wF (zCK O.size))))<|oc zE<|oc zE<|zC) fun a w2 s hr=>?_
 obtain⟨b5,_,s⟩:=s.adopt true 5 (hr (_,_) mz4) sg (fun y hy=>.inl (so y hy))
 obtain⟨b6,_,s⟩:=s.adopt true 6 (hr (_,_) mz5) sg (fun y hy=>by rcases xX.1 hy with rfl|hy;exact .inr ⟨rfl,rfl⟩;exact .inl (so y hy))
 refine zF rfl<|fK ?_
 replace s:=s.drop [4]
 exact rgE ((11,.s (wJ b5 (cg (fQN q))))::(12,.Y (fQN q))::(13,.X (fQN q) 0)::(14,.X (fQN q) 0)::(15,.Z (fNV ((q).num)))::(16,.s (wJ b6 (cg (fQN q'))))::(17,.Y (fQN q'))::(18,.X (fQN q') 0)::(19,.X (fQN q') 2)::(20,.Z (jG ((q').den)))::(21,.Z (fNV ((q').den:Int)))::(22,.s (zMV (m+m) [(q).num,((q').den:Int)]))::(23,.Z (fNV ((q).num*((q').den:Int))))::(24,.s (wJ b6 (cg (fQN q'))))::(25,.Y (fQN q'))::(26,.X (fQN q') 0)::(27,.X (fQN q') 0)::(28,.Z (fNV ((q').num)))::(29,.s (wJ b5 (cg (fQN q))))::(30,.Y (fQN q))::(31,.X (fQN q) 0)::(32,.X (fQN q) 2)::(33,.Z (jG ((q).den)))::(34,.Z (fNV ((q).den:Int)))::(35,.s (zMV (m+m) [(q').num,((q).den:Int)]))::(36,.Z (fNV ((q').num*((q).den:Int))))::(37,.Z (uI (qsg q q')))::(4,.u (uI (qsg q q')))::[]) s
  (oc zA<|oc (zBe (C:=cg (fQN q)))<|oc (zO (C:=cg (fQN q)) 0 kA)<|oc (q7 (C:=cg (fQN q)) 0 0 kA)<|oc (jS (C:=cg (fQN q)) (k:=0) 2 kA (h:=zCk))<|oc zA<|oc (zBe (C:=cg (fQN q')))<|oc (zO (C:=cg (fQN q')) 0 kA)<|oc (q7 (C:=cg (fQN q')) 0 2 kA)<|oc (yK (C:=cg (fQN q')) (k:=2) kA (h:=zBT))<|oc (zK zD zOj (fun I W O (J:jB W I ((q').den))=>zFZ J))<|oc (y8 (fun u v W (hu:NV W u ((q).num)) (hv:NV W v ((q').den:Int))=>zBL (NV.uv' hu (Bd.mono (hq).1 (m':=(m+m)) sC)) (NV.uv' hv (Bd.mono (zAN h2.2) (m':=(m+m)) sC))))<|oc (zK zD zOk (fun I W O (J:ISV W (m+m) I [(q).num,((q').den:Int)])=>zN0 (k:=((q).num*((q').den:Int))) J (by show(m+m)*2+(m+m)+1<=40000;omega) eN eN))<|oc zA<|oc (zBe (C:=cg (fQN q')))<|oc (zO (C:=cg (fQN q')) 0 kA)<|oc (q7 (C:=cg (fQN q')) 0 0 kA)<|oc (jS (C:=cg (fQN q')) (k:=0) 2 kA (h:=zCk))<|oc zA<|oc (zBe (C:=cg (fQN q)))<|oc (zO (C:=cg (fQN q)) 0 kA)<|oc (q7 (C:=cg (fQN q)) 0 2 kA)<|oc (yK (C:=cg (fQN q)) (k:=2) kA (h:=zBT))<|oc (zK zD zOj (fun I W O (J:jB W I ((q).den))=>zFZ J))<|oc (y8 (fun u v W (hu:NV W u ((q').num)) (hv:NV W v ((q).den:Int))=>zBL (NV.uv' hu (Bd.mono (h2).1 (m':=(m+m)) sC)) (NV.uv' hv (Bd.mono (zAN hq.2) (m':=(m+m)) sC))))<|oc (zK zD zOk (fun I W O (J:ISV W (m+m) I [(q').num,((q).den:Int)])=>zN0 (k:=((q').num*((q).den:Int))) J (by show(m+m)*2+(m+m)+1<=40000;omega) eN eN))<|oc (zW zD zTx (fun I u1 W O (J:NV W I ((q).num*((q').den:Int))) (h1:NV W u1 ((q').num*((q).den:Int)))=>zEt (zTU (NV.uv' J (Bd.mul (hq).1 (zAN h2.2))) (NV.uv' h1 (Bd.mul (h2).1 (zAN hq.2))) oA)))<|oc zE<|zC) fun a w3 s=>nR<|wG s (t:=4) rfl iiz
set_option maxHeartbeats 2000000
attribute [local go_sem] Oper.semAt_some qD yA
structure QRd(m:Nat)(w:World)(A:Option Addr)(n:Nat)(qs:List Rat):Prop where
 len:qs.length=n
 cells:∀i,i<n->∃b o c0 c1 c2 q,A=some ⟨b,o,none⟩/\w.cell? ⟨b,o+i*3,none⟩=some c0/\w.cell? ⟨b,o+i*3+1,none⟩=some c1/\w.cell? ⟨b,o+i*3+2,none⟩=some c2/\qs[i]?=some q/\RVp m q (.agg #[c0,c1,c2]) w
theorem RVp.keep(h:RVp m q v w)(O:∀p:Addr,p.block<w.heap.size->w'.cell? p=w.cell? p):RVp m q v w':=by
 obtain⟨k,d,⟨b,s,t,e,⟨sg,A,n,c,l,e1,h1,h2⟩,A',n',c',l',e2,J,I⟩,h3⟩:=h
 exact⟨k,d,⟨b,s,t,e,⟨sg,A,n,c,l,e1,h1.keep O,h2⟩,A',n',c',l',e2,J.keep O,I⟩,h3⟩
theorem QRd.keep(h:QRd m w A n qs)(I:∀p:Addr,p.block<w.heap.size->w'.cell? p=w.cell? p):QRd m w' A n qs:=
 ⟨h.len,fun i hi=>by
  obtain⟨b,o,c0,c1,c2,q,e,g0,O,J,h1,h2⟩:=h.cells i hi
  exact⟨b,o,c0,c1,c2,q,e,(I _ (xJ w _ g0)).trans g0,(I _ (xJ w _ O)).trans O,(I _ (xJ w _ J)).trans J,h1,h2.keep I⟩⟩
theorem QRd.below(h:QRd m w A n qs)(I:Below w.heap.size w w'):QRd m w' A n qs:=h.keep fun _ hp=>I.cell hp
theorem RVp.below(h:RVp m q v w)(I:Below w.heap.size w w'):RVp m q v w':=h.keep fun _ hp=>I.cell hp
def qAt(qs:List Rat)(k:Nat):Rat:=(qs[k]?).getD 0
def zRb(W:WB)(B:Nat)(q:Rat):Prop:=∃cs:List WD,W.heap[B]?=some (.cells cs.toArray 91 (0,0))/\QNp q (.agg cs.toArray) W
theorem QNp.keepU(h:QNp q v w)(I:y4 w w'):QNp q v w':=(fQN q).us _ _ _ h I
def zUD(N0:Nat)(qs:List Rat)(k:Nat)(xs:Array WD)(W:WB):Prop:=∃B,xs=#[pO B 0]/\N0<=B/\zRb W B (qAt qs k)
theorem zNP(A:WF Addr)(n c:Nat)(w:WB):
  Calls prog 56 #[.slice A n c] w fun e w'=>e=.returned (.func (.func 75) #[] #[pO w.heap.size 0])/\w'=w.alloc (.cells #[.slice A n c] 23):=by
 go_enter func56,ntmps56
 go_wp2
 go_ret
 exact⟨rfl,rfl⟩
theorem zSY{J I O:WD}(h:RVp m q (.agg #[J,I,O]) W)(hm:m<=2000)(hT:Tab W):Calls prog 52 #[.agg #[J,I,O]] W fun e w'=>∃B,e=.returned (pO B 0)/\W.heap.size<=B/\zRb w' B q/\Below W.heap.size W w':=
 (zLb h hm hT).mono fun _ _ ⟨_,e1,⟨B,cs,e2,h1,h2,h3,_⟩,hb⟩=>⟨B,by rw[e1,e2],h1,⟨cs,h2,h3⟩,hb⟩
theorem zKd(m:Nat)(hm:m<=2000)(A:WF Addr)(n c:Nat)(qs:List Rat)(b1:Nat)(w w0:WB)(h:QRd m w A n qs)(hT:Tab w)(hw0:Below w.heap.size w w0)(hn:n<=c)(hc:c<=9223372036854775807)
  (hc1:w0.cell? ⟨b1,0,none⟩=some (.slice A n c)){S:Nat->Prop}(hS:∀b,S b->b<w0.heap.size)(_hS1:S b1)(hSA:∀b,b<w.heap.size->S b):
  zOK prog 75 #[pO b1 0] (zUD w0.heap.size qs) n (zFt S) Mk (fun _=>True) w0:=by
 intro lp J W hW hJ hY h0
 have hl1:=zU hc1
 have hw1:=(hW.cell (p:=⟨b1,0,none⟩) hl1).trans hc1
 refine zBr func75 rfl ?_
 simp only[ntmps75,bN,fN,lM,Nat.reduceAdd,Nat.reduceSub,lN,lO,lP,lQ,fS,lR]
 gi_wp2
 gi_loopw [7] (fun i wr=>∃k:Nat,k<=n/\i=.int .i64 k/\J k wr/\yZ S w0 wr/\w0.heap.size<=wr.heap.size) (fun i _=>n-(intOf i).toNat)
 case atStart=>exact⟨0,vS _,rfl,h0,yZ.of_below hW hS,hW.size⟩
 case round=>
  obtain⟨k,hk,rfl,hj,hb,hz⟩:=hrel
  by_cases hkn:k<n
  .have hkeep:∀p:Addr,p.block<w.heap.size->wr.cell? p=w.cell? p:=fun p hp=>(hb.cell (hSA _ hp)).trans (hw0.cell hp)
   obtain⟨b,o,c0,c1,c2,q,rfl,p0,p1,p2,hi,hr⟩:=(h.keep (w':=wr) hkeep).cells k hkn
   have hTr:Tab wr:=fun j hj=>(hkeep ⟨0,j,none⟩ (zU (hT j hj))).trans (hT j hj)
   have hid1:qAt qs k=q:=by simp[qAt,hi]
   have hjk:=hJ k wr
   have hHI:=hid hi
   clear hi
   obtain⟨sg,A1,n1,d1,A2,n2,d2,rfl,rfl,rfl⟩:∃sg A1 n1 d1 A2 n2 d2,c0=.bool sg/\c1=.slice A1 n1 d1/\c2=.slice A2 n2 d2:=by
    obtain⟨k',d',hq,_⟩:=hr
    obtain⟨sg,A1,n1,d1,A2,n2,d2,e⟩:=zDC hq
    have:=vX Array.toList (zA7 e)
    simp at this
    exact⟨sg,A1,n1,d1,A2,n2,d2,this.1,this.2.1,this.2.2⟩
   gi_wp2_with (first|(gi_at_call 52;refine bC (bB.2 (zSY (hr.below (j5 _ _)) hm (hTr.below (j5 _ _)))) ?_;rintro e w2 ⟨B2,rfl,hB2,hn2,hb2⟩;have hmk:Mk wr w2:=((xF _ wr).alloc lr _).trans (hb2.mono eN);obtain⟨fn,tmps,assign,body,hy,hR⟩:=hY k w2 #[pO B2 0] hkn (hjk _ hj hmk) ⟨B2,rfl,xQ hz (xQ eN hB2),by rw[hid1];exact hn2⟩)|(refine hR.mono ?_;rintro e W3 ⟨rfl,hJ3,hk3⟩))
   refine⟨⟨k+1,oA,rfl,hJ3,(hb.trans (yZ.of_below hmk fun b hb=>vW (hS b hb) hz)).trans hk3.1,xQ hz (xQ hmk.size hk3.2)⟩,?_⟩
   simp[intOf]
   omega
  .obtain rfl:k=n:=oA
   gi_wp2
   go_end0
   exact⟨⟨_,rfl⟩,hj,trivial⟩
def zDe(qs:List Rat):Nat->Rat
 |0=>0
 |k+1=>zDe qs k+qAt qs k
def zSv(w:WB)(B0 P:Nat)(f:Nat->Rat)(k:Nat)(W:WB):Prop:=
 zRb W B0 (f k)/\Boxed W P 87 (pO B0 0)/\jC W w.heap.size 32 #[.bool false,.slice none 0 0,.slice none 0 0]/\Below w.heap.size w W/\P+2<=W.heap.size/\w.heap.size<B0
theorem zRb.abide{B C:Nat}{row:WF Nat}(h:zRb W B q)(J:W.grownBy W' row)(O:∀r,row=some r->C<=r/\∃o,W.heap[r]?=some o/\o.isCells=false):zRb W' B q:=by
 obtain⟨cs,I,h2⟩:=h
 have hk:y4 W W':=fun p x hp=>zFT hp J O
 refine⟨cs,(J.block _ (xP.1 I).1 fun e=>?_).trans I,h2.keepU hk⟩
 obtain⟨_,o,ho,hc⟩:=O _ e.symm
 rw[I]at ho
 cases ho
 cases hc
theorem zG1(w:WB)(B0 P:Nat)(f:Nat->Rat){C:Nat}(hC:w.heap.size<=C):OwnFrom C (zSv w B0 P f):=by
 rintro k W W' row ⟨h1,J,h3,O,h5,h6⟩ h I
 exact⟨h1.abide h I,qL J h I,h3.abide h I,zAi O h lr hC I,xQ h5 h.size,h6⟩
theorem zNz(m M:Nat)(A:WF Addr)(n c:Nat)(qs:List Rat)(w:WB)(h:QRd m w A n qs)(hn:n<=c)(hc:c<=9223372036854775807)(hm:m<=2000)(hm0:0<m)(hM:M+m+1<=2000)(hp:∀k,k<=n->QB (zDe qs k) M)(hT:Tab w):
  Calls prog 34 #[.slice A n c] w (Ret w (fQN (zDe qs n)).tS):=by
 refine jD func34 rfl ?_
 simp only[ntmps34,bN,fN,lM,Nat.reduceAdd,Nat.reduceSub,lN,lO,lP,lQ,fS,lR]
 go_wp2_with (first|(go_at_call 32;refine(zPW 0 dA).mono ?_;rintro e w1 ⟨v1,rfl,hv1,hb1⟩;obtain⟨A1,n1,c1,A2,n2,c2,rfl⟩:=zBw hv1)|(go_at_call 56;refine(zNP A n c _).mono ?_;rintro e w3 ⟨rfl,rfl⟩))
 have hv2:QNp 0 (.agg #[.bool false,.slice A1 n1 c1,.slice A2 n2 c2]) w1:=hv1
 obtain⟨W0,hW0⟩:∃W0,(((w1.alloc (.cells #[.bool false,.slice A1 n1 c1,.slice A2 n2 c2] 91)).alloc (.cells #[pO w1.heap.size 0] 87)).alloc (.cells #[.slice A n c] 23))=W0:=⟨_,rfl⟩
 have hsz:W0.heap.size=w1.heap.size+3:=by rw[<-hW0];simp
 have hbw1:Below w.heap.size w w1:=((xF _ w).alloc lr _).trans (hb1.mono eN)
 have hsz1:w.heap.size<w1.heap.size:=vW eN hb1.size
 have hb01:Below w1.heap.size w1 W0:=by rw[<-hW0];exact(((xF _ w1).alloc lr _).alloc eN _).alloc sB _
 have hB1:Below w.heap.size w W0:=hbw1.trans (hb01.mono hbw1.size)
 have x0:zRb W0 w1.heap.size 0:=⟨[_,_,_],(by rw[<-hW0];exact((jC.new w1 _ #[.bool false,.slice A1 n1 c1,.slice A2 n2 c2]).alloc _).alloc _),hv2.keepU (zN hb01)⟩
 have x1:Boxed W0 (w1.heap.size+1) 87 (pO w1.heap.size 0):=by rw[<-hW0];exact(zAX _ _ _ eN).alloc _
 have x2:Boxed W0 (w1.heap.size+1+1) 23 (.slice A n c):=by rw[<-hW0];exact zAX _ _ _ eN
 have x3:jC W0 w.heap.size 32 #[.bool false,.slice none 0 0,.slice none 0 0]:=(jC.kept (jC.kept (jC.new w _ _) hb1) hb01)
 rw[hW0]
 clear hW0
 have hSb:∀b,(b<w.heap.size∨b=w1.heap.size+1+1)->b<W0.heap.size:=fun b hb=>by have:=hbw1.size;omega
 refine zCe (gf:=75) rfl (enters_of func75 kA rfl) (zKd m hm A n c qs (w1.heap.size+1+1) w W0 h hT hB1 hn hc x2.cell (S:=fun b=>b<w.heap.size∨b=w1.heap.size+1+1) hSb (.inr rfl) (fun b hb=>.inl hb)) ?hE ?hps zFt.trans (zIs hSb)
  (zSv w w1.heap.size (w1.heap.size+1) (zDe qs)) (zG1 w _ _ _ hB1.size) (zCb (zG1 w _ _ _ lr)) wR (fun _ _ _ _ _ _ _ _=>trivial) ⟨x0,x1,x3,hB1,oA,hsz1⟩
  (fun _ xs=>{ tmps:=#[.slice A n c,undef,pO w.heap.size 0,.pointer (some ⟨w1.heap.size+1,0,none⟩),xs.getD 0 undef,.agg #[.bool false,.slice A1 n1 c1,.slice A2 n2 c2],.agg #[.bool false,.slice A1 n1 c1,.slice A2 n2 c2],pO w1.heap.size 0,.slice A n c,.func (.func 75) #[] #[.pointer (some ⟨w1.heap.size+1+1,0,none⟩)],xs.getD 0 undef,undef,undef,undef,undef,undef,undef,undef],defers:=[] }) ?assign ?body ?done
 case hE=>
  rintro k xs W l o o' ⟨B,rfl,h1,h2⟩ ho hc
  exact⟨B,rfl,h1,h2.abide (C:=0) (eQ W l o') (fun r e=>by cases e;exact⟨vS _,o,ho,hc⟩)⟩
 case hps=>
  rintro k xs W ⟨B,rfl,_⟩
  rfl
 case assign=>
  rintro lp k xs W K ⟨B,rfl,h1,h2⟩ hK
  gi_wp2
  exact hK
 case body=>
  rintro lp k xs W hk ⟨h1,h2,h3,h4,h5,h6⟩ ⟨B,rfl,hB,hnb⟩
  have hc2:=h2.cell
  have hne:B≠w1.heap.size:=oA
  have hbd:=hp k (mI hk)
  have hbd2:QB (qAt qs k) m:=by
   obtain⟨_,_,_,_,_,q,_,_,_,_,e,hr⟩:=h.cells k hk
   rw[show qAt qs k=q from by simp[qAt,e]]
   exact hr.qb hm0
  have hTW:Tab W:=hT.below h4
  gi_wp2_with (gi_at_call 57;refine bC (bB.2 (by
   obtain⟨cs,g1,g2⟩:=h1
   obtain⟨cs',g1',g2'⟩:=hnb
   exact zNY g1 g2 g1' g2' hne hbd hbd2 oA hTW)) ?_;rintro e w3 ⟨u,rfl,_,hg3,cs3,hh3,hc3,_⟩)
  refine⟨(eG hg3 (fun j o e ho=>by cases e;obtain⟨cs,g1,_⟩:=h1;rw[g1]at ho;cases ho;rfl)).from _,⟨(yZ.refl _ _).grown hg3 (fun b hb=>⟨by have:=h4.size;rcases hb with hb|hb<;>omega,fun e=>by have:=mE e;omega⟩),hg3.size⟩,⟨cs3,hh3,hc3⟩,h2.kept hg3 (fun e=>by have:=mE e;omega),(hg3.block _ h3.lt (fun e=>by have:=mE e;omega)).trans h3,zA6 h4 hg3 h4.size oA,xQ h5 hg3.size,h6⟩
 case done=>
  rintro D W hD ⟨h1,h2,h3,h4,h5,h6⟩ _ hd
  obtain⟨cs,hh,hq⟩:=h1
  obtain⟨A3,n3,c3,A4,n4,c4,ecs⟩:=zBw hq
  have ecs:=vX Array.toList (zA7 ecs)
  simp at ecs
  subst ecs
  obtain⟨g0,g1,g2⟩:W.cell? ⟨w1.heap.size,0,none⟩=some (.bool (decide ((zDe qs n).num<0)))/\W.cell? ⟨w1.heap.size,0+1,none⟩=some (.slice A3 n3 c3)/\W.cell? ⟨w1.heap.size,0+2,none⟩=some (.slice A4 n4 c4):=⟨zAe hh 0 _ rfl,zAe hh 1 _ rfl,zAe hh 2 _ rfl⟩
  simp only[uK]at g1 g2
  have hc2:=h2.cell
  have q0:W.cell? ⟨w.heap.size,0,none⟩=some (.bool false):=h3.cell 0
  have q1:W.cell? ⟨w.heap.size,1,none⟩=some (.slice none 0 0):=h3.cell 1
  have q2:W.cell? ⟨w.heap.size,2,none⟩=some (.slice none 0 0):=h3.cell 2
  have q3:=h3.frozen 0;have q4:=h3.frozen 1;have q5:=h3.frozen 2
  go_wp2
  have hb5:jC (((W.setCell ⟨w.heap.size,0,none⟩ (.bool (decide ((zDe qs n).num<0)))).setCell ⟨w.heap.size,1,none⟩ (.slice A3 n3 c3)).setCell ⟨w.heap.size,2,none⟩ (.slice A4 n4 c4)) w.heap.size 32 #[.bool (decide ((zDe qs n).num<0)),.slice A3 n3 c3,.slice A4 n4 c4]:=((h3.set 0 _).set 1 _).set 2 _
  have hM2:Marks w.heap.size (((W.setCell ⟨w.heap.size,0,none⟩ (.bool (decide ((zDe qs n).num<0)))).setCell ⟨w.heap.size,1,none⟩ (.slice A3 n3 c3)).setCell ⟨w.heap.size,2,none⟩ (.slice A4 n4 c4)) [mark D] [D]:=((Marks.nil w.heap.size W).more (D:=D) eN (by have:=hB1.size;omega) hd).others (((bP _ _ _).trans (bP _ _ _)).trans (bP _ _ _))
  have hrow:∀(W':WB) (i:Nat) (v u:WD),W'.cell? ⟨w.heap.size,i,none⟩=some u->z9 u=true->y4 W' (W'.setCell ⟨w.heap.size,i,none⟩ v):=fun W' i v u hu hn p x hp=>(mL _ _ _ _ (fun e=>by rw[<-e]at hp;rw[hu]at hp;cases hp;cases hn)).trans hp
  have hk3:y4 W (((W.setCell ⟨w.heap.size,0,none⟩ (.bool (decide ((zDe qs n).num<0)))).setCell ⟨w.heap.size,1,none⟩ (.slice A3 n3 c3)).setCell ⟨w.heap.size,2,none⟩ (.slice A4 n4 c4)):=((hrow _ _ _ _ q0 rfl).trans (hrow _ _ _ _ ((h3.set 0 _).cell 1) rfl)).trans (hrow _ _ _ _ (((h3.set 0 _).set 1 _).cell 2) rfl)
  have hq3:=hq.keepU hk3
  have hb3:Below w.heap.size w (((W.setCell ⟨w.heap.size,0,none⟩ (.bool (decide ((zDe qs n).num<0)))).setCell ⟨w.heap.size,1,none⟩ (.slice A3 n3 c3)).setCell ⟨w.heap.size,2,none⟩ (.slice A4 n4 c4)):=((h4.setCell lr _).setCell lr _).setCell lr _
  generalize((W.setCell ⟨w.heap.size,0,none⟩ (.bool (decide ((zDe qs n).num<0)))).setCell ⟨w.heap.size,1,none⟩ (.slice A3 n3 c3)).setCell ⟨w.heap.size,2,none⟩ (.slice A4 n4 c4)=W9 at*
  refine qF _ (v:=.agg #[.bool (decide ((zDe qs n).num<0)),.slice A3 n3 c3,.slice A4 n4 c4]) (fun w' ho'=>?_) [D] _ _ hM2 (Oth.refl _ _) ?_
  .have h7:=hb5.oth ho'
   have:=zEf (P:=prog) (w:=w') (t:=32) (k:=3) kA (vs:=[.bool (decide ((zDe qs n).num<0)),.slice A3 n3 c3,.slice A4 n4 c4]) rfl h7
   simp[results,results34,asAddr,this]
  .intro w' ho
   exact⟨_,rfl,hq3.keepU (fun p x hp=>(ho.cell p).trans hp),zAh hb3 ho lr⟩
def fQS(m:Nat)(qs:List Rat):SF:=⟨fun v W=>∃A c,v=.slice A qs.length c/\qs.length<=c/\c<=9223372036854775807/\QRd m W A qs.length qs,fun _ _ _ ⟨A,c,h1,h2,h3,h4⟩ hb=>⟨A,c,h1,h2,h3,h4.below hb⟩⟩
theorem zO1(s s':Bool)(A A' D D':WF Addr)(n n' c c' i h j I:Nat):zV prog 23 2 [(0,.agg #[.bool s,.slice A n c,.slice D i j]),(1,.agg #[.bool s',.slice A' n' c',.slice D' h I])]=some (32,#[.bool s,.slice A n c,.slice D i j,.bool s',.slice A' n' c',.slice D' h I]):=rZ
theorem zIa(hu:RVp m p u W)(J:RVp m q v W):∃e cs,zV prog 23 2 [(0,u),(1,v)]=some (e,cs)/\(fQS m [p,q]).p (.slice (some ⟨W.heap.size,0,none⟩) 2 2) (W.alloc (.cells cs e)):=by
 obtain⟨k,d,h1,h2⟩:=id hu
 obtain⟨k',d',h,h2'⟩:=id J
 obtain⟨s,A,n,c,D,i,j,rfl⟩:=zDC h1
 obtain⟨s',A',n',c',I,O,j',rfl⟩:=zDC h
 refine⟨_,_,zO1 s s' A A' D I n n' c c' i O j j',some ⟨W.heap.size,0,none⟩,2,rfl,vR _,rY,rfl,fun x hx=>?_⟩
 have hb:=j5 W (.cells #[.bool s,.slice A n c,.slice D i j,.bool s',.slice A' n' c',.slice I O j'] 32)
 rcases(by simp at hx;omega:x=0∨x=1)with rfl|rfl
 .exact⟨_,0,_,_,_,p,rfl,zCp W _ _ 0 _ rfl,zCp W _ _ 1 _ rfl,zCp W _ _ 2 _ rfl,rfl,hu.below hb⟩
 .exact⟨_,0,_,_,_,q,rfl,zCp W _ _ 3 _ rfl,zCp W _ _ 4 _ rfl,zCp W _ _ 5 _ rfl,rfl,J.below hb⟩
theorem zRE(M:Nat)(h:(fQS m qs).p v W)(I:0<m)(J:M+m+1<=2000)(hp:∀k,k<=qs.length->QB (zDe qs k) M)(hT:Tab W):Calls prog 34 #[v] W (Ret W (fQN (zDe qs qs.length)).tS):=by
 obtain⟨A,c,rfl,h1,O,h3⟩:=h
 exact zNz m M A qs.length c qs W h3 h1 O oA I J hp hT
theorem QB.zero(h:0<m):QB 0 m:=⟨uN qA,zLE h⟩
theorem zQi(p q:Rat):zDe [p,q] 2=p+q:=by
 show(0+p)+q=_
 rw[Rat.zero_add]
theorem zIg(h:(fQS m [p,q]).p v W)(hp:QB p m)(J:QB q m)(hm:3*m+2<=2000)(O:Tab W):Calls prog 34 #[v] W (Ret W (fQN (p+q)).tS):=by
 have:=zRE (m+m+1) h hp.pos oA (fun k I=>by
  rcases(by simp at I;omega:k=0∨k=1∨k=2)with rfl|rfl|rfl
  .exact QB.zero oA
  .show QB (0+p) _
   rw[Rat.zero_add]
   exact hp.mono oA
  .rw[zQi]
   exact hp.add J) O
 rw[show([p,q]:List Rat).length=2 from rfl,zQi]at this
 exact this
theorem zNH(h:NV W v k)(h':NV W v' k):Calls prog 44 #[v,v'] W (Ret W (fB true).tS):=by
 obtain⟨A,n,c,l,rfl,h1,h2⟩:=h
 obtain⟨A',n',c',l',rfl,J,I⟩:=h'
 refine(zJ7 _ A n c l _ A' n' c' l' W h2 I).mono fun e w' ⟨O,hb⟩=>⟨_,O,?_,hb⟩
 rw[h1.inj J]
 simp[fB,UF.eq,UF.mk']
theorem zNK{x:Nat}(h:jB W v x)(h':jB W v' x):Calls prog 45 #[v,v'] W (Ret W (fB true).tS):=by
 obtain⟨A,n,c,l,rfl,h1,h2⟩:=h
 obtain⟨A',n',c',l',rfl,J,I⟩:=h'
 refine(zG5 A n c l A' n' c' l' W h2 I).mono fun e w' ⟨O,nq,hw⟩=>⟨_,O,?_,?_⟩
 .rw[h1.inj J]
  simp[fB,UF.eq,UF.mk']
 .subst hw
  exact zOE nq
def UVx(n:Nat)(k:Int)(v:WD)(w:WB):Prop:=∃s A c l,v=.agg #[.bool s,.slice A n c]/\Rd w A n c l/\Lt l/\iv s l=k
def LVx(n x:Nat)(v:WD)(w:WB):Prop:=∃A c l,v=.slice A n c/\Rd w A n c l/\Lt l/\val l=x
def QXp(n n':Nat)(k:Int)(d:Nat)(v:WD)(w:WB):Prop:=∃b s t,v=.agg #[b,s,t]/\UVx n k (.agg #[b,s]) w/\LVx n' d t w
def fQX(n n':Nat)(k:Int)(d:Nat):UF:=.mk' (QXp n n' k d) fun _ _ _ ⟨b,s,t,e,⟨sg,A,c,l,e1,h1,h2⟩,A',c',l',e2,h1',h2'⟩ u=>⟨b,s,t,e,⟨sg,A,c,l,e1,h1.keepU u,h2⟩,A',c',l',e2,h1'.keepU u,h2'⟩
theorem zS2(h:QXp n n' k d v W)(h1:n<=m)(h2:n'<=m):QVp m k d v W:=by
 obtain⟨b,s,t,e,⟨sg,A,c,l,e1,g1,g2,g3⟩,A',c',l',e2,J,I,O⟩:=h
 exact⟨b,s,t,e,⟨sg,A,n,c,l,e1,g1,g2,h1,g3⟩,A',n',c',l',e2,J,I,h2,O⟩
theorem zRJ(n n':Nat)(k:Int)(d:Nat):∀cs:List WD,∀W,(fQX n n' k d).p (.agg cs.toArray) W->cs.length=3:=fun cs W ⟨b,s,t,e,_⟩=>by rw[zAM e];rfl
theorem zF9(h:QNp q v W)(h':QNp q v' W):Calls prog 21 #[v,v'] W (Ret W (fB true).tS):=by
 refine y2 [(fQN q).tS,(fQN q).tS] func21 rfl kA ⟨h,h',trivial⟩ fun a s=>fK<|rgK 0 [] s
  zC fun a w1 s=>zAZ (CU.agg (fQN q)) rfl s kA (fun v W h=>zFE h) fun b2 a w s=>zAZ (CU.agg (fQN q)) rfl s kA (fun v W h=>zFE h) fun b3 a w s=>yN (uB false) rfl s kA iiz fun a w s=>zF rfl<|fK ?_
 replace s:=s.drop [4]
 exact rgE ((5,.X (fQN q) 0)::(6,.Z (fNV ((q).num)))::(7,.X (fQN q) 0)::(8,.Z (fNV ((q).num)))::(9,.Z (uB true))::(10,.Z (uB true))::(11,.X (fQN q) 2)::(12,.Z (jG ((q).den)))::(13,.X (fQN q) 2)::(14,.Z (jG ((q).den)))::(15,.Z (uB true))::(16,.Z (uB true))::(4,.u (uB true))::[]) s
  (oc (zO (C:=cg (fQN q)) 0 kA)<|oc (jS (C:=cg (fQN q)) (k:=0) 2 kA (h:=zCk))<|oc (zO (C:=cg (fQN q)) 0 kA)<|oc (jS (C:=cg (fQN q)) (k:=0) 2 kA (h:=zCk))<|oc (zW zD zTF (fun J I W hb (O:NV W J ((q).num)) (h1:NV W I ((q).num))=>zNH O h1))<|oc zA<|oc (zB 10 true kA iiz (fun _=>zO (C:=cg (fQN q)) 2 kA) arf)<|oc (zB 10 true kA iiz (fun _=>yK (C:=cg (fQN q)) (k:=2) kA (h:=zBT)) arf)<|oc (zB 10 true kA iiz (fun _=>zO (C:=cg (fQN q)) 2 kA) arf)<|oc (zB 10 true kA iiz (fun _=>yK (C:=cg (fQN q)) (k:=2) kA (h:=zBT)) arf)<|oc (zB 10 true kA iiz (fun _=>zW zD zTE (fun J I W hb (O:jB W J ((q).den)) (h1:jB W I ((q).den))=>zNK O h1)) arf)<|oc (zT true iiz (fun _ _ _ h=>h) sF)<|oc zE<|zC) fun a w2 s=>nR<|wG s (t:=4) rfl iiz
structure QX where
 n:Nat
 n':Nat
 k:Int
 d:Nat
abbrev wE(x:QX):CU:=CU.agg (fQX x.n x.n' x.k x.d)
def zS3(L:List QX)(k:Nat):Nat:=((L.take k).map fun x=>min (x.n+x.n') 1000).sum
def gq(L:List QX):Bool:=decide (((L.map wE).length:Int)>60)||decide (((zS3 L (min (L.map wE).length 61):Nat):Int)>40)
theorem wrap64(u:Int)(r:Nat)(h:u=r)(hr:r<9223372036854775808):IntKind.i64.wrap u=r:=by
 subst h
 rw[pQ]
 omega
theorem zRF(k:Int)(I:u=.int .i64 k)(h: -9223372036854775808<=k/\k<=9223372036854775807):Calls prog 47 #[u] W (zGO W k):=by
 subst I
 exact zRG k h
def zMl:Nat:=10000
theorem zRY{x:Nat}(h:x<18446744073709551616)(m:Nat)(I:2<=m):x<BB^m:=vW h (xQ (show 18446744073709551616<=BB^2 from rY) (vZ qA I))
theorem zHi{x:Nat}(h:LV W m v x)(hm:m<=100000):Calls prog 78 #[v] W (Ret W (zCa (UF.eq (.int .u64 ((zM x:Nat):Int))) (fB (yW x))).tS):=by
 obtain⟨A,n,c,l,rfl,J,I,h3,rfl⟩:=h
 refine(zJ1 A n c l W J I oA).mono ?_
 rintro e w' ⟨rfl,O⟩
 exact⟨_,rfl,⟨_,_,rfl,rfl,rfl⟩,O⟩
theorem zO7(x:Nat)(J:x<18446744073709551616)(I:v=.int .u64 (x:Int)):Calls prog 63 #[v] W (Ret W (jG x).tS):=by
 subst I
 exact(zId x J W).mono fun _ _ h=>jH.v h
theorem zAI(x:Nat):zM x<18446744073709551616:=by unfold zM;split<;>omega
theorem zIm{G:Nat->SF}{d:Tmp}{ty:WE}(k:IntKind)(u v r:Int)(O:∀q W,(fct G x).p q W->q=.int k u)(J:∀q W,(fct G y).p q W->q=.int k v)(h:v≠0)(I:k.wrap (u.tdiv v)=r)(hd:∀W,(G d).p (.int k r) W:=by exact fun _=>rfl):qR F m P w0 ops G ⟨some d,.binOp .quo t x y t',ty,pos,aft,none⟩:=
 zDg (.int k u) (.int k v) (.int k r) O J (fun W=>by simp[eqGuard]) (fun W=>by simp[binOp,Op.intDiv,h,I]) hd
theorem zRe(u:Int)(r:Nat)(h:u=r)(hr:r<18446744073709551616):IntKind.u64.wrap u=r:=by
 subst h
 rw[lW]
 omega
theorem zJl{x:Nat}(h:jB W v x):Calls prog 41 #[v] W (Ret W (fNV (x:Int)).tS):=by
 exact y2 [(jG x).tS] func41 rfl kA ⟨h,trivial⟩ fun a s=>fK<|rgK 0 [] s
  zC fun a w1 s=>yP (CU.len 2) (cs:=[.bool false,.slice none 0 0]) kA rfl s kA (fun W=>rfl) rfl fun b2 a w s=>zF rfl<|fK<|rgK 2 ((3,.Z (jG x))::(4,.u (fNV (x:Int)))::[]) s
  (oc zA<|oc (zEY (fun u W (I:jB W u x)=>zMD I))<|zC) fun a w2 s=>yI (fNV (x:Int)) rfl s zGq fun a w s=>zF rfl<|nR<|wP s (CU.agg (fNV (x:Int))) rfl kA rfl rfl (zPh _) (fun cs W h=>h)
theorem zHf(z:Int)(I:v=.int .i64 z)(hz: -9223372036854775808<=z/\z<=9223372036854775807):Calls prog 26 #[v] W (Ret W (fQN (z:Rat)).tS):=by
 exact y2 [(fI z).tS] func26 rfl kA ⟨I,trivial⟩ fun a s=>fK<|rgK 0 [] s
  zC fun a w1 s=>yP (CU.len 3) (cs:=zR3) kA rfl s kA (fun W=>rfl) rfl fun b2 a w s=>zF rfl<|fK<|rgK 4 ((3,.Z (uI z))::(4,.Z (fNV z))::(5,.Z (jG 1))::(6,.u (fQN (z:Rat)))::[]) s
  (oc zA<|oc (zK zD zTC (fun O W hb (h0:O=.int .i64 z)=>zRF z h0 hz))<|oc (zEW (fun u W (J:u=.int .u32 1)=>zOZ J))<|oc (zAS (fun u v W (J:NV W u z) (I:jB W v 1)=>zJP (q:=(z:Rat)) J I))<|zC) fun a w2 s=>yI (fQN (z:Rat)) rfl s yO fun a w s=>zF rfl<|nR<|wP s (CU.agg (fQN (z:Rat))) rfl kA rfl rfl (yV _) (fun cs W h=>h)
theorem zDX(k:Int)(d:Nat)(h:0<d):(if decide (k<0)then -((k.natAbs/Nat.gcd k.natAbs d:Nat):Int)else((k.natAbs/Nat.gcd k.natAbs d:Nat):Int))=(mkRat k d).num:=by
 have I:=zDi k d h
 have J:=zB6 k d h
 rw[<-I,<-J]
 by_cases hs:(mkRat k d).num<0
 .rw[eY hs,if_pos rfl]
  omega
 .rw[bD hs,if_neg dA]
  omega
theorem zP9(h:UV W m v k)(h':LV W m v' d)(hm:m<=2000)(hd:d=0):Calls prog 59 #[v,v'] W (Ret W (zCa (fQN (mkRat k d)) (fI 30)).tS):=by
 have bk:k.natAbs<BB^m:=h.bound
 have hz:true=decide (d=0):=(eY hd).symm
 have I:mkRat k d=((0:Int):Rat):=by rw[hd,pJ];rfl
 refine y2 [(fUV m k).tS,(fLV m d).tS] func59 rfl kA ⟨h,h',trivial⟩ fun a s=>fK<|rgK 0 [] s
  zC fun a w1 s=>zAZ (CU.agg (fUV m k)) rfl s kA (fun v W h=>zOR h) fun b2 a w s=>yP (CU.len 3) (cs:=zR3) kA rfl s kA (fun W=>rfl) rfl fun b4 a w s=>yN (uI 0) rfl s kA iiz fun a w s=>zF rfl<|fK<|rgQ ((18,.Z (fLV m d))::(19,.Z (jG d))::(20,.s (zPn d))::(21,.u (uB true))::[]) s
  (oc zA<|oc (zK zD zOp (fun J W hb (O:LV W m J d)=>(zDA O oA)))<|oc (zDE kA iiz)<|oc (zDF hz)<|zC) fun a w2 s=>StS.cond s true iiz (fun e=>?_) sF
 refine fK ?_
 replace s:=s.drop [5]
 exact rgK 1 ((22,.u (fQN ((0:Int):Rat)))::[]) s
  (oc (zK zD zFe (fun J W hb (O:J=.int .i64 0)=>zHf 0 O dA))<|zC) fun a w3 s=>yI (fQN ((0:Int):Rat)) rfl s yO fun a w s=>yN (uI 30) rfl s kA iiz fun a w s=>zF rfl<|nR<|vF s (CU.agg (fQN ((0:Int):Rat))) rfl kA rfl rfl (yV _) (fun cs v W h1 h2=>⟨_,_,rfl,by rw[I];exact h1,h2⟩)
theorem zQa(h:UV W m v k)(h':LV W m v' d)(hm:m<=2000)(O:0<d):Calls prog 59 #[v,v'] W (Ret W (zCa (fQN (mkRat k d)) (fI 0)).tS):=by
 have bk:k.natAbs<BB^m:=h.bound
 have hz:false=decide (d=0):=(bD oA).symm
 have hc:∀W I u1 x,LV W m I x->jB W u1 (Nat.gcd k.natAbs d)->Calls prog 81 #[I,u1] W (Ret W (zMm (jG (x/(Nat.gcd k.natAbs d))) (jG (x%(Nat.gcd k.natAbs d))) (fI 0)).tS):=fun W I u1 x h1 h2=>by
  refine(zRC h1 (jB.lv (m:=m) h2 (lU (Nat.gcd_le_right _ O) h'.bound)) oA (Nat.gcd_pos_of_pos_right _ O)).mono ?_
  rintro e w' ⟨v1,v2,rfl,h3,h4,hb⟩
  exact⟨_,rfl,⟨v1,v2,_,rfl,h3,h4,rfl⟩,hb⟩
 refine y2 [(fUV m k).tS,(fLV m d).tS] func59 rfl kA ⟨h,h',trivial⟩ fun a s=>fK<|rgK 0 [] s
  zC fun a w1 s=>zAZ (CU.agg (fUV m k)) rfl s kA (fun v W h=>zOR h) fun b2 a w s=>yP (CU.len 3) (cs:=zR3) kA rfl s kA (fun W=>rfl) rfl fun b4 a w s=>yN (uI 0) rfl s kA iiz fun a w s=>zF rfl<|fK<|rgQ ((18,.Z (fLV m d))::(19,.Z (jG d))::(20,.s (zPn d))::(21,.u (uB false))::[]) s
  (oc zA<|oc (zK zD zOp (fun I W hb (J:LV W m I d)=>(zDA J oA)))<|oc (zDE kA iiz)<|oc (zDF hz)<|zC) fun a w2 s=>StS.cond s false iiz sF (fun e=>?_)
 refine nQ<|fK<|rgK 2 ((23,.Z (fUV m k))::(24,.u (fNV k))::[]) s
  (oc (yJ (f:=fUV m k) 2 kA (hz:=zOQ _ _))<|oc (zK zD zQV (fun I W hb (J:UV W m I k)=>zGc J oA))<|zC) fun a w3 s=>zBs (CU.agg (fNV k)) ((fNV k).tS) rfl s kA rfl rfl rfl (zOQ _ _) iiz zGq fun a w s=>zF rfl<|rgQ ((26,.X (fNV k) 1)::(27,.Z (jG ((k).natAbs)))::(28,.Z (zCa (UF.eq (.int .u64 ((zM ((k).natAbs):Nat):Int))) (uB (yW ((k).natAbs)))))::(25,.Z (zCa (UF.eq (.int .u64 ((zM ((k).natAbs):Nat):Int))) (uB (yW ((k).natAbs)))))::(29,.Z (UF.eq (.int .u64 ((zM ((k).natAbs):Nat):Int))))::(30,.Z (uB (yW ((k).natAbs))))::(6,.u (UF.eq (.int .u64 ((zM ((k).natAbs):Nat):Int))))::(7,.u (uB (yW ((k).natAbs))))::[]) s
  (oc (zO (C:=cg (fNV k)) 1 kA)<|oc (yK (C:=cg (fNV k)) (k:=1) kA (h:=zJt))<|oc (zK zD zR9 (fun I W hb (J:jB W I ((k).natAbs))=>zHi (jB.lv (m:=m) J bk) oA))<|oc zA<|oc (zAD (A:=(UF.eq (.int .u64 ((zM ((k).natAbs):Nat):Int))).tS) (B:=(uB (yW ((k).natAbs))).tS) iiz)<|oc (zAC (A:=(UF.eq (.int .u64 ((zM ((k).natAbs):Nat):Int))).tS) (B:=(uB (yW ((k).natAbs))).tS) iiz)<|oc zE<|oc zE<|zC) fun a w4 s=>rgQ ((32,.Z (fLV m d))::(33,.Z (zCa (UF.eq (.int .u64 ((zM d:Nat):Int))) (uB (yW d))))::(31,.Z (zCa (UF.eq (.int .u64 ((zM d:Nat):Int))) (uB (yW d))))::(34,.Z (UF.eq (.int .u64 ((zM d:Nat):Int))))::(35,.Z (uB (yW d)))::(8,.u (UF.eq (.int .u64 ((zM d:Nat):Int))))::(9,.u (uB (yW d)))::[]) s
  (oc zA<|oc (zK zD zR9 (fun I W hb (J:LV W m I d)=>zHi J oA))<|oc zA<|oc (zAD (A:=(UF.eq (.int .u64 ((zM d:Nat):Int))).tS) (B:=(uB (yW d)).tS) iiz)<|oc (zAC (A:=(UF.eq (.int .u64 ((zM d:Nat):Int))).tS) (B:=(uB (yW d)).tS) iiz)<|oc zE<|oc zE<|zC) fun a w5 s=>fK<|rgQ ((36,.Z (uB (yW ((k).natAbs))))::(37,.Z (uB (yW ((k).natAbs))))::(38,.s (SF.imp ((yW ((k).natAbs))=true) ((uB (yW d)).tS)))::(39,.u (uB ((yW ((k).natAbs))&&(yW d))))::[]) s
  (oc zA<|oc zA<|oc (zB 37 (yW ((k).natAbs)) kA iiz (fun e=>zI [] ((uB (yW d)).tS) fnz (fun _ _ h _=>h) kA zA) (fun e W h=>absurd h e))<|oc (zT (yW ((k).natAbs)) iiz (fun e v W h=>zBH (zG e h) e) (fun e v W h=>zBc h e))<|zC) fun a w6 s=>StS.cond s ((yW ((k).natAbs))&&(yW d)) iiz (fun e=>?_) (fun e=>?_)
 .rw[xU]at e
  have he:zM k.natAbs=k.natAbs:=by have:=e.1;unfold yW at this;unfold zM;rw[if_pos (xW this)]
  have hd:zM d=d:=by have:=e.2;unfold yW at this;unfold zM;rw[if_pos (xW this)]
  have hh:((Nat.gcd (zM k.natAbs) (zM d):Nat):Int)≠0:=by rw[he,hd];have:=Nat.gcd_pos_of_pos_right k.natAbs O;omega
  have h8:(mkRat k d).den=zM d/(Nat.gcd (zM k.natAbs) (zM d)):=by rw[he,hd];exact zCo k d O
  have hg:∀x,x<18446744073709551616->x<BB^zMl:=fun x hx=>zRY hx _ dA
  have ha:∀W u,UV W zMl u (if decide (k<0)then -(((zM k.natAbs/(Nat.gcd (zM k.natAbs) (zM d))):Nat):Int)else(((zM k.natAbs/(Nat.gcd (zM k.natAbs) (zM d))):Nat):Int))->Calls prog 58 #[u] W (zGO W (mkRat k d).num):=fun W u hu=>by
   have:=zGc hu dA
   rw[he,hd,zDX k d O]at this
   exact this
  refine rgQ ((40,.Z (UF.eq (.int .u64 ((zM ((k).natAbs):Nat):Int))))::(41,.Z (UF.eq (.int .u64 ((zM d:Nat):Int))))::(42,.Z (UF.eq (.int .u64 ((Nat.gcd (zM k.natAbs) (zM d):Nat):Int))))::(10,.u (UF.eq (.int .u64 ((Nat.gcd (zM k.natAbs) (zM d):Nat):Int))))::[]) s
   (oc zA<|oc zA<|oc (zW zD zTq (fun I u1 W hb (J:I=.int .u64 ((zM ((k).natAbs):Nat):Int)) (h1:u1=.int .u64 ((zM d:Nat):Int))=>zLj _ _ J h1 (zAI _) (zAI _)))<|oc zE<|zC) fun a w7 s=>fK ?_
  replace s:=s.drop [5]
  refine jR [2,3,8,9] 13 ((43,.X (fNV k) 0)::(44,.Z (uB (decide (k<0))))::(45,.Z (UF.eq (.int .u64 ((zM ((k).natAbs):Nat):Int))))::(46,.Z (UF.eq (.int .u64 ((Nat.gcd (zM k.natAbs) (zM d):Nat):Int))))::(47,.Z (UF.eq (.int .u64 ((zM k.natAbs/(Nat.gcd (zM k.natAbs) (zM d)):Nat):Int))))::(48,.Z (jG (zM k.natAbs/(Nat.gcd (zM k.natAbs) (zM d)))))::(49,.Z (fUV zMl (if decide (k<0)then -((zM k.natAbs/(Nat.gcd (zM k.natAbs) (zM d)):Nat):Int)else((zM k.natAbs/(Nat.gcd (zM k.natAbs) (zM d)):Nat):Int))))::(50,.Z (fNV ((mkRat k d).num)))::(51,.Z (UF.eq (.int .u64 ((zM d:Nat):Int))))::(52,.Z (UF.eq (.int .u64 ((Nat.gcd (zM k.natAbs) (zM d):Nat):Int))))::(53,.Z (UF.eq (.int .u64 ((zM d/(Nat.gcd (zM k.natAbs) (zM d)):Nat):Int))))::(54,.Z (jG (zM d/(Nat.gcd (zM k.natAbs) (zM d)))))::(55,.u (fQN (mkRat k d)))::[]) hmix s kA
   (oc (zO (C:=cg (fNV k)) 0 kA)<|oc (yK (C:=cg (fNV k)) (k:=0) kA (h:=zPg))<|oc zA<|oc zA<|oc (zIm .u64 ((zM ((k).natAbs):Nat):Int) ((Nat.gcd (zM k.natAbs) (zM d):Nat):Int) ((zM k.natAbs/(Nat.gcd (zM k.natAbs) (zM d)):Nat):Int) iiz iiz hh (zRe _ _ (by rw[pP oA,nD]) (lU (nZ _ _) (zAI _))))<|oc (zK zD zSb (fun I W hb (J:I=.int .u64 ((zM k.natAbs/(Nat.gcd (zM k.natAbs) (zM d)):Nat):Int))=>zO7 _ (lU (nZ _ _) (zAI _)) J))<|oc (zAS (fun u v W (hu:u=.bool (decide (k<0))) (hv:jB W v (zM k.natAbs/(Nat.gcd (zM k.natAbs) (zM d))))=>zSs hu hv (hg _ (by first|exact lU (nZ _ _) (zAI _)|exact hk64|exact lU (nZ _ _) (vW bk (vZ qA (xQ hm dA)))))))<|oc (zK zD zQV (fun I W hb (J:UV W zMl I (if decide (k<0)then -((zM k.natAbs/(Nat.gcd (zM k.natAbs) (zM d)):Nat):Int)else((zM k.natAbs/(Nat.gcd (zM k.natAbs) (zM d)):Nat):Int)))=>ha W I (J:UV W zMl I _)))<|oc zA<|oc zA<|oc (zIm .u64 ((zM d:Nat):Int) ((Nat.gcd (zM k.natAbs) (zM d):Nat):Int) ((zM d/(Nat.gcd (zM k.natAbs) (zM d)):Nat):Int) iiz iiz hh (zRe _ _ (by rw[pP oA,nD]) (lU (nZ _ _) (zAI _))))<|oc (zK zD zSb (fun I W hb (J:I=.int .u64 ((zM d/(Nat.gcd (zM k.natAbs) (zM d)):Nat):Int))=>zO7 _ (lU (nZ _ _) (zAI _)) J))<|oc (zAS (fun u v W (hu:NV W u ((mkRat k d).num)) (hv:jB W v (zM d/(Nat.gcd (zM k.natAbs) (zM d))))=>zJP (q:=mkRat k d) hu (by first|exact hv|(rw[h8];exact hv))))<|zC) fun Q' hQ a w8 s=>yI (fQN (mkRat k d)) rfl s yO fun a w s=>yN (uI 0) rfl s kA iiz fun a w s=>zF rfl (hQ _ _ ?_)
  exact nR<|vF s (CU.agg (fQN (mkRat k d))) rfl kA rfl rfl (yV _) (fun cs v W h1 h2=>⟨_,_,rfl,h1,h2⟩)
 .have hg:∀x,x<BB^zMl->x<BB^zMl:=fun x hx=>hx
  have h8:(mkRat k d).den=d/(Nat.gcd k.natAbs d):=zCo k d O
  have ha:∀W u,UV W zMl u (if decide (k<0)then -((((k).natAbs/(Nat.gcd k.natAbs d)):Nat):Int)else((((k).natAbs/(Nat.gcd k.natAbs d)):Nat):Int))->Calls prog 58 #[u] W (zGO W (mkRat k d).num):=fun W u hu=>by
   have:=zGc hu dA
   rw[zDX k d O]at this
   exact this
  refine nQ<|rgQ ((56,.X (fNV k) 1)::(57,.Z (jG ((k).natAbs)))::(58,.Z (fLV m d))::(59,.Z (jG (Nat.gcd k.natAbs d)))::(11,.u (jG (Nat.gcd k.natAbs d)))::[]) s
   (oc (zO (C:=cg (fNV k)) 1 kA)<|oc (yK (C:=cg (fNV k)) (k:=1) kA (h:=zJt))<|oc zA<|oc (zW zD zTp (fun I u1 W hb (J:jB W I ((k).natAbs)) (h1:LV W m u1 d)=>zQg (jB.lv (m:=m) J bk) h1 oA))<|oc zE<|zC) fun a w9 s=>rgQ ((61,.X (fNV k) 1)::(62,.Z (jG ((k).natAbs)))::(63,.Z (jG (Nat.gcd k.natAbs d)))::(64,.Z (zMm (jG (((k).natAbs)/(Nat.gcd k.natAbs d))) (jG (((k).natAbs)%(Nat.gcd k.natAbs d))) (uI 0)))::(60,.Z (zMm (jG (((k).natAbs)/(Nat.gcd k.natAbs d))) (jG (((k).natAbs)%(Nat.gcd k.natAbs d))) (uI 0)))::(65,.Z (jG (((k).natAbs)/(Nat.gcd k.natAbs d))))::(66,.Z (jG (((k).natAbs)%(Nat.gcd k.natAbs d))))::(67,.Z (uI 0))::(12,.u (jG (((k).natAbs)/(Nat.gcd k.natAbs d))))::(13,.Z (jG (((k).natAbs)%(Nat.gcd k.natAbs d))))::(14,.Z (uI 0))::[]) s
   (oc (zO (C:=cg (fNV k)) 1 kA)<|oc (yK (C:=cg (fNV k)) (k:=1) kA (h:=zJt))<|oc zA<|oc (zW zD zR8 (fun I u1 W hb (J:jB W I ((k).natAbs)) (h1:jB W u1 (Nat.gcd k.natAbs d))=>hc W I u1 _ (jB.lv (m:=m) J bk) h1))<|oc zA<|oc (zCH (A:=(jG (((k).natAbs)/(Nat.gcd k.natAbs d))).tS) (B:=(jG (((k).natAbs)%(Nat.gcd k.natAbs d))).tS) (C:=(uI 0).tS) iiz)<|oc (zCG (A:=(jG (((k).natAbs)/(Nat.gcd k.natAbs d))).tS) (B:=(jG (((k).natAbs)%(Nat.gcd k.natAbs d))).tS) (C:=(uI 0).tS) iiz)<|oc (zCF (A:=(jG (((k).natAbs)/(Nat.gcd k.natAbs d))).tS) (B:=(jG (((k).natAbs)%(Nat.gcd k.natAbs d))).tS) (C:=(uI 0).tS) iiz)<|oc zE<|oc zE<|oc zE<|zC) fun a w10 s=>rgQ ((69,.Z (fLV m d))::(70,.Z (jG (Nat.gcd k.natAbs d)))::(71,.Z (zMm (jG (d/(Nat.gcd k.natAbs d))) (jG (d%(Nat.gcd k.natAbs d))) (uI 0)))::(68,.Z (zMm (jG (d/(Nat.gcd k.natAbs d))) (jG (d%(Nat.gcd k.natAbs d))) (uI 0)))::(72,.Z (jG (d/(Nat.gcd k.natAbs d))))::(73,.Z (jG (d%(Nat.gcd k.natAbs d))))::(74,.Z (uI 0))::(15,.u (jG (d/(Nat.gcd k.natAbs d))))::(16,.Z (jG (d%(Nat.gcd k.natAbs d))))::(17,.Z (uI 0))::[]) s
   (oc zA<|oc zA<|oc (zW zD zR8 (fun I u1 W hb (J:LV W m I d) (h1:jB W u1 (Nat.gcd k.natAbs d))=>hc W I u1 _ J h1))<|oc zA<|oc (zCH (A:=(jG (d/(Nat.gcd k.natAbs d))).tS) (B:=(jG (d%(Nat.gcd k.natAbs d))).tS) (C:=(uI 0).tS) iiz)<|oc (zCG (A:=(jG (d/(Nat.gcd k.natAbs d))).tS) (B:=(jG (d%(Nat.gcd k.natAbs d))).tS) (C:=(uI 0).tS) iiz)<|oc (zCF (A:=(jG (d/(Nat.gcd k.natAbs d))).tS) (B:=(jG (d%(Nat.gcd k.natAbs d))).tS) (C:=(uI 0).tS) iiz)<|oc zE<|oc zE<|oc zE<|zC) fun a w11 s=>fK ?_
  replace s:=s.drop [5]
  exact rgK 7 ((75,.X (fNV k) 0)::(76,.Z (uB (decide (k<0))))::(77,.Z (jG (((k).natAbs)/(Nat.gcd k.natAbs d))))::(78,.Z (fUV zMl (if decide (k<0)then -((((k).natAbs)/(Nat.gcd k.natAbs d):Nat):Int)else((((k).natAbs)/(Nat.gcd k.natAbs d):Nat):Int))))::(79,.Z (fNV ((mkRat k d).num)))::(80,.Z (jG (d/(Nat.gcd k.natAbs d))))::(81,.u (fQN (mkRat k d)))::[]) s
   (oc (zO (C:=cg (fNV k)) 0 kA)<|oc (yK (C:=cg (fNV k)) (k:=0) kA (h:=zPg))<|oc zA<|oc (zAS (fun u v W (hu:u=.bool (decide (k<0))) (hv:jB W v (((k).natAbs)/(Nat.gcd k.natAbs d)))=>zSs hu hv (hg _ (by first|exact lU (nZ _ _) (zAI _)|exact hk64|exact lU (nZ _ _) (vW bk (vZ qA (xQ hm dA)))))))<|oc (zK zD zQV (fun I W hb (J:UV W zMl I (if decide (k<0)then -((((k).natAbs)/(Nat.gcd k.natAbs d):Nat):Int)else((((k).natAbs)/(Nat.gcd k.natAbs d):Nat):Int)))=>ha W I (J:UV W zMl I _)))<|oc zA<|oc (zAS (fun u v W (hu:NV W u ((mkRat k d).num)) (hv:jB W v (d/(Nat.gcd k.natAbs d)))=>zJP (q:=mkRat k d) hu (by first|exact hv|(rw[h8];exact hv))))<|zC) fun a w12 s=>yI (fQN (mkRat k d)) rfl s yO fun a w s=>yN (uI 0) rfl s kA iiz fun a w s=>zF rfl<|nR<|vF s (CU.agg (fQN (mkRat k d))) rfl kA rfl rfl (yV _) (fun cs v W h1 h2=>⟨_,_,rfl,h1,h2⟩)
theorem zLk(h:UV W m v k)(J:LV W m v' d)(I:m<=2000):Calls prog 59 #[v,v'] W (Ret W (zCa (fQN (mkRat k d)) (fI (if d=0 then 30 else 0))).tS):=by
 by_cases hd:d=0
 .rw[if_pos hd]
  exact zP9 h J I hd
 .rw[if_neg hd]
  exact zQa h J I oA
theorem zNE(h:QVp m k d v W)(hm:m<=2000):Calls prog 38 #[v] W (Ret W (fQN (mkRat k d)).tS):=by
 exact y2 [(fQV m k d).tS] func38 rfl kA ⟨h,trivial⟩ fun a s=>fK<|rgK 0 [] s
  zC fun a w1 s=>zAZ (CU.agg (fQV m k d)) rfl s kA (fun v W h=>zER h) fun b1 a w s=>yP (CU.len 3) (cs:=zR3) kA rfl s kA (fun W=>rfl) rfl fun b2 a w s=>zF rfl<|fK<|rgK 8 ((6,.X (fQV m k d) 0)::(7,.Z (fUV m k))::(8,.X (fQV m k d) 2)::(9,.Z (fLV m d))::(10,.Z (zCa (fQN (mkRat k d)) (uI (if d=0 then 30 else 0))))::(5,.Z (zCa (fQN (mkRat k d)) (uI (if d=0 then 30 else 0))))::(11,.u (fQN (mkRat k d)))::(12,.u (uI (if d=0 then 30 else 0)))::[]) s
  (oc (zO (C:=cg (fQV m k d)) 0 kA)<|oc (jS (C:=cg (fQV m k d)) (k:=0) 2 kA (h:=zLs))<|oc (zO (C:=cg (fQV m k d)) 2 kA)<|oc (yK (C:=cg (fQV m k d)) (k:=2) kA (h:=zHj))<|oc (zW zD zSc (fun I O W hb (J:UV W m I k) (h1:LV W m O d)=>zLk J h1 hm))<|oc zA<|oc (zAD (A:=(fQN (mkRat k d)).tS) (B:=(uI (if d=0 then 30 else 0)).tS) iiz)<|oc (zAC (A:=(fQN (mkRat k d)).tS) (B:=(uI (if d=0 then 30 else 0)).tS) iiz)<|zC) fun a w2 s=>yP (CU.len 3) (cs:=zR3) kA rfl s kA (fun W=>rfl) rfl fun b3 a w s=>yI (fQN (mkRat k d)) rfl s yO fun a w s=>yN (uI (if d=0 then 30 else 0)) rfl s kA iiz fun a w s=>zF rfl<|fK<|rgK 1 ((13,.u (fQN (mkRat k d)))::[]) s
  (oc (yJ (f:=fQN (mkRat k d)) 3 kA (hz:=yV _))<|zC) fun a w3 s=>yI (fQN (mkRat k d)) rfl s yO fun a w s=>zF rfl<|nR<|wP s (CU.agg (fQN (mkRat k d))) rfl kA rfl rfl (yV _) (fun cs W h=>h)
theorem zEl(h:RVp m q v W)(I:m<=2000):Calls prog 38 #[v] W (Ret W (fQN q).tS):=by
 obtain⟨k,d,J,rfl⟩:=h
 exact zNE J I
theorem zLi(n:Int)(d:Nat)(hd:0<d):(mkRat n d).num.sign=n.sign:=by
 have I:=pE.1 (zB6 n d hd)
 have J:(mkRat n d).num=0↔n=0:=by rw[Rat.num_eq_zero,Rat.mkRat_eq_zero oA]
 rcases mX n 0 with h|h|h
 .rw[mT h,mT (I.2 h)]
 .rw[J.2 h,h]
 .rw[mO h,mO (by have:=mt I.1 oA;have:=mt J.1 oA;omega)]
theorem zNA(h:QVp m k d v W)(hm:m<=2000)(hd:d=0):Calls prog 11 #[v] W (Ret W (fI 0).tS):=by
 have O:true=decide (d=0):=(eY hd).symm
 refine y2 [(fQV m k d).tS] func11 rfl kA ⟨h,trivial⟩ fun a s=>fK<|rgK 0 [] s
  zC fun a w1 s=>zAZ (CU.agg (fQV m k d)) rfl s kA (fun v W h=>zER h) fun b1 a w s=>yN (uI 0) rfl s kA iiz fun a w s=>zF rfl<|fK<|rgQ ((3,.X (fQV m k d) 2)::(4,.Z (fLV m d))::(5,.Z (jG d))::(6,.s (zPn d))::(7,.u (uB true))::[]) s
  (oc (zO (C:=cg (fQV m k d)) 2 kA)<|oc (yK (C:=cg (fQV m k d)) (k:=2) kA (h:=zHj))<|oc (zK zD zOp (fun I W hb (J:LV W m I d)=>(zDA J oA)))<|oc (zDE kA iiz)<|oc (zDF O)<|zC) fun a w2 s=>StS.cond s true iiz (fun e=>?_) sF
 refine fK ?_
 replace s:=s.drop [2]
 exact rgE ((2,.u (uI 0))::[]) s
  (oc zE<|zC) fun a w3 s=>nR<|wG s (t:=2) rfl iiz
theorem zNC(h:QVp m k d v W)(hm:m<=2000)(hd:0<d):Calls prog 11 #[v] W (Ret W (fI k.sign).tS):=by
 have hz:false=decide (d=0):=(bD oA).symm
 refine y2 [(fQV m k d).tS] func11 rfl kA ⟨h,trivial⟩ fun a s=>fK<|rgK 0 [] s
  zC fun a w1 s=>zAZ (CU.agg (fQV m k d)) rfl s kA (fun v W h=>zER h) fun b1 a w s=>yN (uI 0) rfl s kA iiz fun a w s=>zF rfl<|fK<|rgQ ((3,.X (fQV m k d) 2)::(4,.Z (fLV m d))::(5,.Z (jG d))::(6,.s (zPn d))::(7,.u (uB false))::[]) s
  (oc (zO (C:=cg (fQV m k d)) 2 kA)<|oc (yK (C:=cg (fQV m k d)) (k:=2) kA (h:=zHj))<|oc (zK zD zOp (fun I W O (J:LV W m I d)=>(zDA J oA)))<|oc (zDE kA iiz)<|oc (zDF hz)<|zC) fun a w2 s=>StS.cond s false iiz sF (fun e=>?_)
 refine nQ<|fK ?_
 replace s:=s.drop [2]
 exact rgE ((8,.X (fQV m k d) 0)::(9,.Z (fUV m k))::(10,.Z (uI (k.sign)))::(2,.u (uI (k.sign)))::[]) s
  (oc (zO (C:=cg (fQV m k d)) 0 kA)<|oc (jS (C:=cg (fQV m k d)) (k:=0) 2 kA (h:=zLs))<|oc (zK zD zSd (fun I W O (J:UV W m I k)=>zEt (zJd J oA)))<|oc zE<|zC) fun a w3 s=>nR<|wG s (t:=2) rfl iiz
theorem zNB(h:RVp m q v W)(I:m<=2000):Calls prog 11 #[v] W (Ret W (fI q.num.sign).tS):=by
 obtain⟨k,d,J,rfl⟩:=h
 by_cases hd:d=0
 .have:=zNA J I hd
  rw[hd,pJ]
  exact this
 .rw[zLi k d oA]
  exact zNC J I oA
theorem zP8(h:QNp p u W)(h':QNp q v W)(hp:QB p m)(hq:QB q m)(hm:m<=990):Calls prog 42 #[u,v] W (Ret W (fQN (p+q)).tS):=by
 have h5:∀W I O,NV W I (((p).num*((q).den:Int))+((q).num*((p).den:Int)))->jB W O ((p).den*(q).den)->Calls prog 59 #[I,O] W (Ret W (zCa (fQN (p+q)) UF.any).tS):=fun W I O J h1=>by
  have:=zLk (m:=m+m+1) (J.uv' (hp.num_add hq)) (h1.lv (vW (hp.den_mul hq) (vZ qA oA))) oA
  rw[<-Rat.add_def' p q]at this
  exact this.mono fun e w' ⟨v,e1,⟨x,y,e2,h2,_⟩,hb⟩=>⟨v,e1,⟨x,y,e2,h2,trivial⟩,hb⟩
 refine y2 [(fQN p).tS,(fQN q).tS] func42 rfl kA ⟨h,h',trivial⟩ fun a s=>fK<|rgK 0 [] s
  zC fun a w1 s=>zAZ (CU.agg (fQN p)) rfl s kA (fun v W h=>zFE h) fun b2 a w s=>zAZ (CU.agg (fQN q)) rfl s kA (fun v W h=>zFE h) fun b3 a w s=>yP (CU.len 3) (cs:=zR3) kA rfl s kA (fun W=>rfl) rfl fun b4 a w s=>zF rfl<|fK ?_
 have so:=s.old;have sg:=s.gr
 refine zB2 [24] [⟨25,5,32, [.bool false,.slice none 0 0,.slice none 0 0],wK w 32 (CU.len 3)⟩] 26 ((8,.X (fQN p) 0)::(9,.Z (fNV ((p).num)))::(10,.X (fQN q) 2)::(11,.Z (jG ((q).den)))::(12,.Z (fNV ((q).den:Int)))::(13,.s (zMV (m+m) [(p).num,((q).den:Int)]))::(14,.Z (fNV ((p).num*((q).den:Int))))::(15,.X (fQN q) 0)::(16,.Z (fNV ((q).num)))::(17,.X (fQN p) 2)::(18,.Z (jG ((p).den)))::(19,.Z (fNV ((p).den:Int)))::(20,.s (zMV (m+m) [(q).num,((p).den:Int)]))::(21,.Z (fNV ((q).num*((p).den:Int))))::(22,.s (zMV (m+m) [((p).num*((q).den:Int)),((q).num*((p).den:Int))]))::(23,.Z (fNV (((p).num*((q).den:Int))+((q).num*((p).den:Int)))))::(24,.X (fQN p) 2)::(25,.Z (jG ((p).den)))::(26,.X (fQN q) 2)::(27,.Z (jG ((q).den)))::(28,.Z (jG ((p).den*(q).den)))::(29,.Z (zCa (fQN (p+q)) (UF.any)))::(7,.Z (zCa (fQN (p+q)) (UF.any)))::(30,.u (fQN (p+q)))::(5,.s (wK w 32 (CU.len 3)))::[]) hmix s (sH ⟨by show 25<26;decide,.tail _ (.tail _ (.tail _ (.tail _ (.tail _ (.tail _ (.tail _ (.tail _ (.tail _ zFL)))))))),⟨_,_,_,rfl⟩,rZ,zGj (fun _=>rfl) rfl⟩ fnz) kA
  (oc (zO (C:=cg (fQN p)) 0 kA)<|oc (jS (C:=cg (fQN p)) (k:=0) 2 kA (h:=zCk))<|oc (zO (C:=cg (fQN q)) 2 kA)<|oc (yK (C:=cg (fQN q)) (k:=2) kA (h:=zBT))<|oc (zK zD zOm (fun I W hb (J:jB W I ((q).den))=>zJl J))<|oc (y8 (fun u v W (hu:NV W u ((p).num)) (hv:NV W v ((q).den:Int))=>zBL (NV.uv' hu (Bd.mono (hp).1 (m':=(m+m)) sC)) (NV.uv' hv (Bd.mono (zAN hq.2) (m':=(m+m)) sC))))<|oc (zK zD zOn (fun I W hb (J:ISV W (m+m) I [(p).num,((q).den:Int)])=>zGd J (by show(m+m)*2+(m+m)+1<=40000;omega) eN eN))<|oc (zO (C:=cg (fQN q)) 0 kA)<|oc (jS (C:=cg (fQN q)) (k:=0) 2 kA (h:=zCk))<|oc (zO (C:=cg (fQN p)) 2 kA)<|oc (yK (C:=cg (fQN p)) (k:=2) kA (h:=zBT))<|oc (zK zD zOm (fun I W hb (J:jB W I ((p).den))=>zJl J))<|oc (y8 (fun u v W (hu:NV W u ((q).num)) (hv:NV W v ((p).den:Int))=>zBL (NV.uv' hu (Bd.mono (hq).1 (m':=(m+m)) sC)) (NV.uv' hv (Bd.mono (zAN hp.2) (m':=(m+m)) sC))))<|oc (zK zD zOn (fun I W hb (J:ISV W (m+m) I [(q).num,((p).den:Int)])=>zGd J (by show(m+m)*2+(m+m)+1<=40000;omega) eN eN))<|oc (y8 (fun u v W (hu:NV W u ((p).num*((q).den:Int))) (hv:NV W v ((q).num*((p).den:Int)))=>zBL (NV.uv' hu (Bd.mul (hp).1 (zAN hq.2))) (NV.uv' hv (Bd.mul (hq).1 (zAN hp.2)))))<|oc (zK zD zTw (fun I W hb (J:ISV W (m+m) I [((p).num*((q).den:Int)),((q).num*((p).den:Int))])=>zQe J oA eN eN))<|oc (zO (C:=cg (fQN p)) 2 kA)<|oc (yK (C:=cg (fQN p)) (k:=2) kA (h:=zBT))<|oc (zO (C:=cg (fQN q)) 2 kA)<|oc (yK (C:=cg (fQN q)) (k:=2) kA (h:=zBT))<|oc (zW zD zTv (fun I O W hb (J:jB W I ((p).den)) (h1:jB W O ((q).den))=>zRB (jB.lv (m:=m) J hp.2) (jB.lv (m:=m) h1 hq.2) oA))<|oc (zW zD zSc (fun I O W hb (J:NV W I (((p).num*((q).den:Int))+((q).num*((p).den:Int)))) (h1:jB W O ((p).den*(q).den))=>h5 W I O J h1))<|oc zA<|oc (zAD (A:=(fQN (p+q)).tS) (B:=(UF.any).tS) iiz)<|oc (zAC (A:=(fQN (p+q)).tS) (B:=(UF.any).tS) iiz)<|oc (zGp (cs:=zR3) kA (zGj (fun _=>rfl) rfl))<|zC) fun Q' hQ a w2 s hr hd=>?_
 obtain⟨b5,_,e5,s⟩:=s.adoptA false 5 (hr (_,_) (.tail _ (.tail _ (.tail _ (.tail _ (.tail _ (.tail _ (.tail _ (.tail _ (.tail _ zFL)))))))))) sg (fun y hy=>.inl (so y hy))
 refine yI (fQN (p+q)) rfl s yO fun a w s=>yN UF.any rfl s kA (fun _ _ _=>trivial) fun a w s=>zF rfl (hQ _ _ ?_)
 exact fK<|rgK 1 ((32,.u (fQN (p+q)))::[]) s
  (oc (yJ (f:=fQN (p+q)) 3 kA (hz:=yV _))<|zC) fun a w3 s=>yI (fQN (p+q)) rfl s yO fun a w s=>zF rfl<|nR<|wP s (CU.agg (fQN (p+q))) rfl kA rfl rfl (yV _) (fun cs W h=>h)
theorem zGa(h:RVp m p u W)(h':RVp m q v W)(hm:m<=990)(h3:0<m):Calls prog 13 #[u,v] W (Ret W (fI (qsg p q)).tS):=by
 have hp:QB p m:=h.qb h3
 have hq:QB q m:=h'.qb h3
 refine y2 [(fRV m p).tS,(fRV m q).tS] func13 rfl kA ⟨h,h',trivial⟩ fun a s=>fK<|rgK 0 [] s
  zC fun a w1 s=>zAZ (CU.agg (fRV m p)) rfl s kA (fun v W h=>zDP h) fun b2 a w s=>zAZ (CU.agg (fRV m q)) rfl s kA (fun v W h=>zDP h) fun b3 a w s=>yN (uI 0) rfl s kA iiz fun a w s=>zF rfl<|fK<|jR [] 4 ((5,.Z (fRV m p))::(6,.u (fQN p))::(7,.Z (fRV m q))::(8,.u (fQN q))::[]) hmix s kA
  (oc (yJ (f:=fRV m p) 3 kA (hz:=zBu _ _))<|oc (zK zD zOo (fun I W O (J:RVp m p I W)=>zEl J oA))<|oc (yJ (f:=fRV m q) 3 kA (hz:=zBu _ _))<|oc (zK zD zOo (fun I W O (J:RVp m q I W)=>zEl J oA))<|zC) fun Q' hQ a w2 s=>zBs (CU.agg (fQN p)) ((fQN p).tS) rfl s kA rfl rfl rfl (zBu _ _) iiz yO fun a w s=>zBs (CU.agg (fQN q)) ((fQN q).tS) rfl s kA rfl rfl rfl (zBu _ _) iiz yO fun a w s=>zF rfl (hQ _ _ ?_)
 refine fK ?_
 replace s:=s.drop [4]
 exact rgE ((9,.X (fQN p) 0)::(10,.Z (fNV ((p).num)))::(11,.X (fQN q) 2)::(12,.Z (jG ((q).den)))::(13,.Z (fNV ((q).den:Int)))::(14,.s (zMV (m+m) [(p).num,((q).den:Int)]))::(15,.Z (fNV ((p).num*((q).den:Int))))::(16,.X (fQN q) 0)::(17,.Z (fNV ((q).num)))::(18,.X (fQN p) 2)::(19,.Z (jG ((p).den)))::(20,.Z (fNV ((p).den:Int)))::(21,.s (zMV (m+m) [(q).num,((p).den:Int)]))::(22,.Z (fNV ((q).num*((p).den:Int))))::(23,.Z (fNV (((p).num*((q).den:Int))-((q).num*((p).den:Int)))))::(24,.Z (uI (qsg p q)))::(4,.u (uI (qsg p q)))::[]) s
  (oc (zO (C:=cg (fQN p)) 0 kA)<|oc (jS (C:=cg (fQN p)) (k:=0) 2 kA (h:=zCk))<|oc (zO (C:=cg (fQN q)) 2 kA)<|oc (yK (C:=cg (fQN q)) (k:=2) kA (h:=zBT))<|oc (zK zD zOm (fun I W O (J:jB W I ((q).den))=>zJl J))<|oc (y8 (fun u v W (hu:NV W u ((p).num)) (hv:NV W v ((q).den:Int))=>zBL (NV.uv' hu (Bd.mono (hp).1 (m':=(m+m)) sC)) (NV.uv' hv (Bd.mono (zAN hq.2) (m':=(m+m)) sC))))<|oc (zK zD zOn (fun I W O (J:ISV W (m+m) I [(p).num,((q).den:Int)])=>zGd J (by show(m+m)*2+(m+m)+1<=40000;omega) eN eN))<|oc (zO (C:=cg (fQN q)) 0 kA)<|oc (jS (C:=cg (fQN q)) (k:=0) 2 kA (h:=zCk))<|oc (zO (C:=cg (fQN p)) 2 kA)<|oc (yK (C:=cg (fQN p)) (k:=2) kA (h:=zBT))<|oc (zK zD zOm (fun I W O (J:jB W I ((p).den))=>zJl J))<|oc (y8 (fun u v W (hu:NV W u ((q).num)) (hv:NV W v ((p).den:Int))=>zBL (NV.uv' hu (Bd.mono (hq).1 (m':=(m+m)) sC)) (NV.uv' hv (Bd.mono (zAN hp.2) (m':=(m+m)) sC))))<|oc (zK zD zOn (fun I W O (J:ISV W (m+m) I [(q).num,((p).den:Int)])=>zGd J (by show(m+m)*2+(m+m)+1<=40000;omega) eN eN))<|oc (zW zD zTI (fun I u1 W O (J:NV W I ((p).num*((q).den:Int))) (h1:NV W u1 ((q).num*((p).den:Int)))=>zQc (NV.uv' J (Bd.mul (hp).1 (zAN hq.2))) (NV.uv' h1 (Bd.mul (hq).1 (zAN hp.2))) oA))<|oc (zK zD zSd (fun I W O (J:NV W I (((p).num*((q).den:Int))-((q).num*((p).den:Int))))=>zEt (zJd (NV.uv' J (Bd.sub (Bd.mul (hp).1 (zAN hq.2)) (Bd.mul (hq).1 (zAN hp.2)))) oA)))<|oc zE<|zC) fun a w3 s=>nR<|wG s (t:=4) rfl iiz
theorem zND(h:RVp m p u W)(h':RVp m q v W)(hm:m<=990)(I:0<m):Calls prog 12 #[u,v] W (Ret W (fB (qsg p q==0)).tS):=by
 refine y2 [(fRV m p).tS,(fRV m q).tS] func12 rfl kA ⟨h,h',trivial⟩ fun a s=>fK<|rgK 0 [] s
  zC fun a w1 s=>zAZ (CU.agg (fRV m p)) rfl s kA (fun v W h=>zDP h) fun b2 a w s=>zAZ (CU.agg (fRV m q)) rfl s kA (fun v W h=>zDP h) fun b3 a w s=>yN (uB false) rfl s kA iiz fun a w s=>zF rfl<|fK ?_
 replace s:=s.drop [4]
 exact rgE ((5,.Z (fRV m p))::(6,.Z (fRV m q))::(7,.Z (uI (qsg p q)))::(8,.Z (uB ((qsg p q)==0)))::(4,.u (uB ((qsg p q)==0)))::[]) s
  (oc (yJ (f:=fRV m p) 3 kA (hz:=zBu _ _))<|oc (yJ (f:=fRV m q) 3 kA (hz:=zBu _ _))<|oc (zW zD zOt (fun O J W hb (h0:RVp m p O W) (h1:RVp m q J W)=>zGa h0 h1 hm I))<|oc (zJ .i64 (qsg p q) 0 ((qsg p q)==0) iiz iiz rfl rfl)<|oc zE<|zC) fun a w2 s=>nR<|wG s (t:=4) rfl iiz
theorem zLO{ds:List WD}(k:Nat)(h:Mem W b o cs)(hd:∀j u,ds[j]?=some u->cs[k+j]?=some u):Mem W b (o+k) ds:=fun j u hj=>by
 have:=h (k+j) u (hd j u hj)
 rwa [<-uV]at this
abbrev rvs(m:Nat)(qs:List Rat):List CU:=qs.map fun q=>CU.agg (fRV m q)
theorem zEH{k:Nat}(h:k<qs.length):(rvs m qs)[k]?=some (CU.agg (fRV m (qAt qs k))):=by
 rw[rJ,mD h]
 simp[qAt,h]
theorem zQp{k:Nat}(h:k<qs.length):qAt qs k∈qs:=by
 simp[qAt,h]
theorem zI1(h:RVp m q v W):∃s A n c D i j,v=.agg #[.bool s,.slice A n c,.slice D i j]:=by
 obtain⟨k,d,I,_⟩:=h
 exact zDC I
theorem zKY(hu:RVp m p u W)(hv:RVp m q v W):∃e cs,zV prog 23 2 [(0,u),(1,v)]=some (e,cs)/\(SF.row 3 (rvs m [p,q])).p (.slice (some ⟨W.heap.size,0,none⟩) 2 2) (W.alloc (.cells cs e)):=by
 obtain⟨s,A,n,c,D,i,j,rfl⟩:=zI1 hu
 obtain⟨s',A',n',c',h,I,J,rfl⟩:=zI1 hv
 refine⟨_,_,zO1 s s' A A' D h n n' c c' i I j J,some ⟨W.heap.size,0,none⟩,2,rfl,vR _,rY,fun e=>(by cases e),fun x C O=>?_⟩
 have hb:=j5 W (.cells #[.bool s,.slice A n c,.slice D i j,.bool s',.slice A' n' c',.slice h I J] 32)
 have hm:=zCp W #[.bool s,.slice A n c,.slice D i j,.bool s',.slice A' n' c',.slice h I J] 32
 rcases(by have:=(cD.1 O).1;simp at this;omega:x=0∨x=1)with rfl|rfl
 .obtain rfl:CU.agg (fRV m p)=C:=by simpa using O
  exact⟨W.heap.size,0, [.bool s,.slice A n c,.slice D i j],rfl,zLO 0 hm (fun j u hj=>by match j with|0=>exact hj|1=>exact hj|2=>exact hj|j+3=>simp at hj),(fRV m p).tS.st _ _ _ hu hb⟩
 .obtain rfl:CU.agg (fRV m q)=C:=by simpa using O
  exact⟨W.heap.size,0, [.bool s',.slice A' n' c',.slice h I J],rfl,zLO 3 hm (fun j u hj=>by match j with|0=>exact hj|1=>exact hj|2=>exact hj|j+3=>simp at hj),(fRV m q).tS.st _ _ _ hv hb⟩
theorem zQb(M:Nat)(h:(SF.row 3 (rvs m qs)).p v W)(_hm0:0<m)(hmM:m<=M)(hM:M<=990)(hl:qs.length<=1000000)(hq:∀q,q∈qs->QB q m)(hp:∀k,k<qs.length->QB (zDe qs k) M):Calls prog 15 #[v] W (Ret W (fQN (zDe qs qs.length)).tS):=by
 refine y2 [SF.row 3 (rvs m qs)] func15 rfl kA ⟨h,trivial⟩ fun a s=>fK<|rgK 0 [] s
  zC fun a w1 s=>yP (CU.len 3) (cs:=zR3) kA rfl s kA (fun W=>rfl) rfl fun b2 a w s=>zF rfl<|fK<|rgK 1 ((5,.u (fQN ((0:Int):Rat)))::[]) s
  (oc (zK zD zFe (fun J W hb (O:J=.int .i64 0)=>zHf 0 O dA))<|zC) fun a w2 s=>yP (CU.len 3) (cs:=zR3) kA rfl s kA (fun W=>rfl) rfl fun b3 a w s=>yI (fQN ((0:Int):Rat)) rfl s yO fun a w s=>zF rfl<|fK<|rgQ ((4,.u (uI 0))::[]) s
  (oc zE<|zC) fun a w3 s=>rF<|zKU 3 (fun p=>CU.agg (fQN (zDe qs p))) (fun p=>p<=qs.length) (fun p=> [(0,.o (SF.row 3 (rvs m qs))),(4,.u (fI ((p:Nat):Int)))]) (fun p=>qs.length-p) (0:Nat) (vS _) (s.keepK _ (sH mz2<|sH (.head _) fnz)) rfl fun p a w hx s=>fK<|rgQ ((6,.Z (fI (p:Int)))::(7,.s (SF.row 3 (rvs m qs)))::(8,.Z (uI ((rvs m qs).length:Int)))::(9,.u (uB (decide ((p:Int)<((rvs m qs).length:Int)))))::[]) s
  (oc zA<|oc zA<|oc (zCm (z:=3) (Cs:=rvs m qs) kA iiz (fun _=>rfl))<|oc (zJ .i64 (p:Int) ((rvs m qs).length:Int) (decide ((p:Int)<((rvs m qs).length:Int))) iiz iiz rfl rfl)<|zC) fun a w4 s=>StS.cond s (decide ((p:Int)<((rvs m qs).length:Int))) iiz (fun e=>?_) (fun e=>?_)
 .have I:p+1<=qs.length:=by have:=xW e;rw[xT]at this;omega
  have h2:=zEH (m:=m) (k:=p) I
  have h3:=hq _ (zQp (k:=p) I)
  refine nQ<|fK<|rF<|jR [1,2] 7 ((12,.Z (fQN (zDe qs p)))::(13,.s (SF.row 3 (rvs m qs)))::(14,.Z (fI (p:Int)))::(15,.Y (fRV m (qAt qs p)))::(16,.Z (fRV m (qAt qs p)))::(17,.Z (fQN (qAt qs p)))::(18,.u (fQN (zDe qs p+qAt qs p)))::[]) hmix s kA
   (oc (yJ (f:=fQN (zDe qs p)) 3 kA (hz:=yV _))<|oc zA<|oc zA<|oc (zCE (z:=3) (Cs:=rvs m qs) (i:=p) (C:=CU.agg (fRV m (qAt qs p))) kA h2 iiz iiz)<|oc (yJ (f:=fRV m (qAt qs p)) 3 kA (hz:=zBu _ _))<|oc (zK zD zOo (fun J W hb (O:RVp m (qAt qs p) J W)=>zEl O oA))<|oc (zW zD zTH (fun J u1 W hb (O:QNp (zDe qs p) J W) (h1:QNp (qAt qs p) u1 W)=>zP8 O h1 (hp p I) (h3.mono oA) oA))<|zC) fun Q' hQ a w5 s=>zBs (CU.agg (fQN (zDe qs p+qAt qs p))) ((fQN (zDe qs p+qAt qs p)).tS) rfl s kA rfl rfl rfl (yV _) iiz yO fun a w s=>zF rfl (hQ _ _ ?_)
  refine zP 2 ((10,.Z (fI (p:Int)))::(11,.u (fI ((p+1:Nat):Int)))::[]) s kA
   (oc zA<|oc (yL .i64 (p:Int) 1 ((p+1:Nat):Int) iiz iiz (wrap64 _ _ oA oA))<|zC) fun a w6 s=>?_
  replace s:=s.drop [4]
  exact yN (fI ((p+1:Nat):Int)) rfl s kA iiz fun a w s=>zF rfl<|⟨p+1,I,(by show qs.length-(p+1)<qs.length-p;omega),s.keepK _ (sH mz4<|sH (.head _) fnz)⟩
 .have I:p=qs.length:=by have:=mB e;rw[xT]at this;omega
  exact rG<|fK<|rgK 1 ((19,.u (fQN (zDe qs p)))::[]) s
   (oc (yJ (f:=fQN (zDe qs p)) 3 kA (hz:=yV _))<|zC) fun a w7 s=>yI (fQN (zDe qs p)) rfl s yO fun a w s=>zF rfl<|nR<|wP s (CU.agg (fQN (zDe qs p))) rfl kA rfl rfl (yV _) (fun cs W h=>by rw[I]at h;exact h)
theorem zGb(h:(SF.row 3 (rvs m [p,q])).p v W)(hp:QB p m)(hq:QB q m)(J:m<=990):Calls prog 15 #[v] W (Ret W (fQN (p+q)).tS):=by
 have:=zQb m h hp.pos lr J eN (fun x I=>by simp at I;rcases I with rfl|rfl;exact hp;exact hq) (fun k O=>by
  rcases(by simp at O;omega:k=0∨k=1)with rfl|rfl
  .exact QB.zero hp.pos
  .show QB (0+p) _
   rw[Rat.zero_add]
   exact hp)
 rw[show([p,q]:List Rat).length=2 from rfl,zQi]at this
 exact this
theorem zAR{G:Nat->SF}{d:Tmp}{ty:WE}(k:IntKind)(u v r:Int)(J:∀q W,(fct G x).p q W->q=.int k u)(I:∀q W,(fct G y).p q W->q=.int k v)(h:k.wrap (u-v)=r)(hd:∀W,(G d).p (.int k r) W:=by exact fun _=>rfl):qR F m P w0 ops G ⟨some d,.binOp .sub t x y t',ty,pos,aft,none⟩:=
 zDg (.int k u) (.int k v) (.int k r) J I (fun W=>by simp[eqGuard]) (fun W=>by simp[binOp,Op.intArith,h]) hd
theorem Tab.bls2(J:Tab W)(O:BlS S W w)(I: ¬S 0):Tab w:=fun j hj=>by
 have h:=J j hj
 exact(bO (a:=⟨0,j,none⟩) (O.block _ (zU h) I)).trans h
/-! ### Frames -/
theorem BlS.comp{u v:WB}(h:BlS S u v)(k:BlS S v w):BlS S u w:=⟨k.os.trans h.os,k.tape.trans h.tape,k.output.trans h.output,xQ h.size k.size,fun q I J=>(k.block q (vW I h.size) J).trans (h.block q I J)⟩
theorem zAg{u:WB}(h:Below u.heap.size u w):BlS S u w:=⟨h.os,h.tape,h.output,h.size,fun q I _=>h.block q I⟩
theorem BlS.shrink{S':Nat->Prop}{u:WB}(h:BlS S u w)(I:∀q,S q->S' q∨u.heap.size<=q):BlS S' u w:=⟨h.os,h.tape,h.output,h.size,fun q O J=>h.block q O fun hh=>by
 rcases I q hh with e|e
 .exact J e
 .omega⟩
def zHV(w:WB)(q:Nat):Prop:=∃(cs:Array WD) (t:WE) (z:Nat×Nat),w.heap[q]?=some (.cells cs t z)/\cs.toList.all z9=true
theorem zCs(hb:BlS S w w')(h:∀q,S q->zHV w q):y4 w w':=fun q u J=>by
 have I:=xJ w _ J
 by_cases e:S q.block
 .exfalso
  obtain⟨cs,t,z,O,h5⟩:=h _ e
  have:=zFU O h5 rfl J
  cases this
 .exact(bO (hb.block _ I e)).trans J
theorem zBY(I:Tab w)(J:BlS S w w')(h: ¬S 0):Tab w':=I.bls2 J h
/-! ### Rows -/
def q9(w:WB)(g:Nat)(e:WE)(z cap:Nat)(Cs:List CU):Prop:=
 ∃cur:Array WD,w.heap[g]?=some (.cells cur e (0,0))/\Cs.length<=cap/\cap<=maxLen/\cur.size=cap*z/\cur.toList.all z9=true/\∀(i:Nat) (C:CU),Cs[i]?=some C->C.p ((cur.toList.drop (i*z)).take z) w
theorem q9.toN{cap:Nat}(h:q9 w g e z cap Cs){base:Nat}(hb:base<=g){n:Nat}(hn:n=Cs.length):y9 w base e z (.slice (some ⟨g,0,none⟩) n cap) Cs:=by
 subst hn
 obtain⟨I,h1,J,h3,O,h5,h6⟩:=h
 exact .inr ⟨g,cap,I,rfl,hb,h1,J,h3,O,h5,h6⟩
theorem q9.row{cap:Nat}(h:q9 w g e z cap Cs){n:Nat}(I:n=Cs.length):(SF.row z Cs).p (.slice (some ⟨g,0,none⟩) n cap) w:=(h.toN (vS _) I).row
theorem q9.take{cap:Nat}(h:q9 w g e z cap Cs)(i:Nat):q9 w g e z cap (Cs.take i):=by
 obtain⟨I,h1,h2,h3,J,O,h6⟩:=h
 refine⟨I,h1,by rw[uG];omega,h3,J,O,fun j C hj=>?_⟩
 rw[gB]at hj
 split at hj
 .exact h6 j C hj
 .cases hj
theorem zDR(h:y9 w base e z v Cs)(h0:0<Cs.length):∃g cap,v=.slice (some ⟨g,0,none⟩) Cs.length cap/\base<=g/\q9 w g e z cap Cs:=by
 rcases h with⟨_,rfl⟩|⟨g,cap,I,rfl,hb,h1,J,h3,O,h5,h6⟩
 .simp at h0
 .exact⟨g,cap,rfl,hb,I,h1,J,h3,O,h5,h6⟩
theorem q9.keep{cap:Nat}(h:q9 w g e z cap Cs)(hb:w'.heap[g]?=w.heap[g]?)(hk:y4 w w'):q9 w' g e z cap Cs:=by
 obtain⟨I,h1,O,h3,h4,h5,h6⟩:=h
 exact⟨I,hb.trans h1,O,h3,h4,h5,fun i C J=>C.us _ _ _ (h6 i C J) hk⟩
theorem q9.at{cap:Nat}(h:q9 w g e z cap Cs):∃cur:Array WD,w.heap[g]?=some (.cells cur e (0,0)):=⟨h.choose,h.choose_spec.1⟩
theorem q9.lt{cap:Nat}(h:q9 w g e z cap Cs):g<w.heap.size:=(xP.1 h.at.choose_spec).1
theorem q9.plain{cap:Nat}(h:q9 w g e z cap Cs):zHV w g:=by
 obtain⟨I,J,_,_,_,O,_⟩:=h
 exact⟨I,e,(0,0),J,O⟩
theorem q9.below{cap:Nat}(h:q9 w g e z cap Cs)(I:Below w.heap.size w w'):q9 w' g e z cap Cs:=h.keep (I.block g h.lt) (zN I)
theorem q9.cap{cap:Nat}(h:q9 w g e z cap Cs):Cs.length<=cap:=by obtain⟨_,_,I,_⟩:=h;exact I
theorem zX{cs O:Array WD}{z z':Nat×Nat}(h:w.heap[b]?=some (.cells cs e z))(I:w.heap[c]?=some (.cells O e' z'))(J:e≠e'):b≠c:=fun k=>by
 subst k
 rw[h]at I
 injection I with I
 injection I with _ I
 exact J I
theorem zJX(h:o+vs.length<=cs.length):(j7 cs o vs).length=cs.length:=by
 unfold j7
 simp only[uD,uG,uS]
 omega
theorem zFy(h:o+vs.length<=cs.length)(k:Nat):(j7 cs o vs)[k]?=if o<=k/\k<o+vs.length then vs[k-o]? else cs[k]?:=by
 have I:(cs.take o).length=o:=by rw[uG];omega
 unfold j7
 rw[pT]
 by_cases h1:k<o
 .rw[uZ oA,cZ h1,if_neg oA]
 .rw[gF oA,I]
  by_cases h2:k<o+vs.length
  .rw[uZ oA,if_pos ⟨oA,h2⟩]
  .rw[gF oA,uW,if_neg oA]
   congr 1
   omega
theorem zIi(hl:vs.length=z)(hc:cs.length=n*z)(O:i<n):((j7 cs (i*z) vs).drop (j*z)).take z=if j=i then vs else(cs.drop (j*z)).take z:=by
 have I:i*z+vs.length<=cs.length:=by
  rw[hl,hc,<-pX]
  exact uE _ O
 refine List.ext_getElem? fun q=>?_
 rw[gB]
 by_cases e:j=i
 .subst e
  rw[if_pos rfl]
  split
  .rename_i J
   rw[uW,zFy I,if_pos oA]
   congr 1
   omega
  .rename_i J
   rw[uX oA]
 .rw[if_neg e,gB]
  split
  .rename_i J
   rw[uW,uW,zFy I,if_neg]
   rintro⟨h1,h2⟩
   rcases Nat.lt_or_gt_of_ne e with h|h
   .have:=uE z (show j+1<=i from h)
    rw[pX]at this
    omega
   .have:=uE z (show i+1<=j from h)
    rw[pX]at this
    omega
  .rfl
theorem q9.put{cap:Nat}(h:q9 w g e z cap Cs)(hi:i<Cs.length){t:WE}(J:zFS P t=some z){u:WD}{C:CU}(hu:u.cells.size=z/\(∀x,x∈u.cells.toList->x.oneCell'=true)/\u.cells.toList.all z9=true/\C.p u.cells.toList w):
  ∃w',(storeVar t ⟨g,i*z,none⟩ u).run P w=.ok () w'/\BlS (fun q=>q=g) w w'/\y4 w w'/\q9 w' g e z cap (Cs.set i C):=by
 obtain⟨I,h1,h2,h3,h4,h5,h6⟩:=id h
 obtain⟨u1,u2,u3,u4⟩:=hu
 have hb:I.toList.length=cap*z:=h4
 have h8:u.cells.toList.length=z:=u1
 have ha:i<cap:=vW hi h2
 have O:i*z+u.cells.toList.length<=I.toList.length:=by
  rw[h8,hb,<-pX]
  exact uE _ ha
 have hc:=zAQ (P:=P) (b:=g) (t:=e) u.cells.toList (i*z) I.toList w (by simpa using h1) O u2
 have h0:=zBK (b:=g) u.cells.toList (i*z) 0
 rw[uM]at h0
 have hd:=zDl w g (j7 I.toList (i*z) u.cells.toList).toArray
 have h9:BlS (fun q=>q=g) w (w.setRow g (j7 I.toList (i*z) u.cells.toList).toArray):=(BlS.refl _ w).grown hd (.inr rfl)
 have hk:=zCs h9 fun q hq=>by rw[hq];exact h.plain
 refine⟨_,?_,h9,hk,_,fX w g I _ e _ h1,by rw[uC];exact h2,h3,?_,?_,fun j D hj=>?_⟩
 .unfold zFS at J
  cases hin:P.info? t with
  |none=>rw[hin]at J;cases J
  |some ii=>
   rw[hin]at J
   simp only[fO,fP]at J
   simp[storeVar,sizeOf,typeInfo,hin,J,u1,h0,hc]
 .rw[bN,zJX O]
  exact h4
 .rw[List.toList_toArray]
  unfold j7
  have h7:∀x,x∈I.toList->z9 x=true:=xR.1 h5
  exact zIE (xR.2 fun x hx=>h7 x (gA hx)) u3 (xR.2 fun x hx=>h7 x (gP hx))
 .rw[List.toList_toArray,zIi h8 hb ha]
  rw[gQ]at hj
  by_cases e:i=j
  .rw[if_pos e,if_pos oA]at hj
   cases hj
   rw[if_pos e.symm]
   exact C.us _ _ _ u4 hk
  .rw[if_neg e]at hj
   rw[if_neg (xY e)]
   exact D.us _ _ _ (h6 j D hj) hk
theorem zPU{C:CU}(h3:zID P t=some (e,z,true))(J:zeroCells P e=some zs)(hn:n<=1000000)(hC:∀W,C.p zs W){x y:WD}(hx:x=.int .i64 (n:Int))(hy:y=.int .i64 (n:Int)):
  ∃w',(Instr.makeSlice t x y).run P w=.ok (.slice (some ⟨w.heap.size,0,none⟩) n n) w'/\Below w.heap.size w w'/\q9 w' w.heap.size e z n (List.replicate n C):=by
 subst hx hy
 obtain⟨ht,i,h,hi,hz,hs,h1,I,h4,h6⟩:=zFV h3
 have ez:zs=h.cells.toList:=by
  unfold zeroCells at J
  rw[hi]at J
  simp only[lG,hz,fO,fP]at J
  exact J.symm
 subst ez
 have hr:=run_make (P:=P) w t e i h ht hi hz .i64 .i64 (n:Int) (n:Int) oA (Int.le_refl _) (by
  have:i.bytes*n<=1000*1000000:=gJ h1 hn
  have h2:(i.bytes:Int)*(n:Int)=((i.bytes*n:Nat):Int):=by rw[nB]
  rw[h2];omega) oA
 simp only[fR]at hr
 refine⟨_,hr,j5 _ _,_,bT w _,eN,by unfold maxLen;omega,by rw[size_madeCells,hs],?_,fun j D hj=>?_⟩
 .refine xR.2 fun u hu=>?_
  simp only[madeCells,rC,xG,rD,xV]at hu
  obtain⟨q,_,rfl⟩:=hu
  have O:q%h.cells.size<h.cells.size:=uH _ (by rw[I];exact h6)
  have:h.cells[q%h.cells.size]!∈h.cells.toList:=by
   rw[getElem!_pos h.cells _ O]
   exact Array.getElem_mem_toList O
  exact xR.1 h4 _ this
 .rw[nA]at hj
  split at hj<;>cases hj
  rename_i h5
  have e1:(((madeCells h.cells (n*i.size)).toList.drop (j*z)).take z)=h.cells.toList:=by
   have hzl:h.cells.toList.length=z:=I
   refine List.ext_getElem? fun q=>?_
   rw[gB]
   split
   .rename_i hq
    rw[uW]
    have O:j*z+q<n*i.size:=by
     rw[hs]
     have:=uE z (show j+1<=n from h5)
     rw[pX]at this
     omega
    have h0:(j*z+q)%h.cells.size=q:=by rw[I,gL,Nat.add_mul_mod_self_right,uU hq]
    simp only[madeCells,rC,rD,rJ,List.getElem?_range O,fO,h0]
    rw[getElem!_pos h.cells q oA,mD oA]
    simp
   .rw[uX oA]
  rw[e1]
  exact hC _
section
variable {S:Nat->Prop}{F:Fence}{m:Nat}{P:WG}{Q:Exit->Act->WB->Prop}{w0:WB}{K:List (Nat×KF)}{B:List Bx}{n:Nat}{ds:List Deferred}{a:Act}{w:WB}{ops:Array Oper}
theorem StS.anewB(h:StS S w0 K B n [] a w)(J:(K.all fun q=>zKz q.2)=true)(hB:(B.all fun x=>x.r)=true):St w K B n [] a w:=
 ⟨BlS.refl _ _,h.size,h.nd,fun q O=>by
  obtain⟨f,ef⟩:=zBX J q O
  have I:=h.sl q O
  rw[ef]at I ⊢
  exact I,wW B (fun x hx=>by simpa using xR.1 hB x hx) h.bx,⟨[],Marks.nil _ _⟩,.inl (zBX J)⟩
theorem StS.jump(h:StS S w0 K B n [] a w)(hu:(K.all fun q=>zKz q.2)=true)(J:(B.all fun x=>x.r)=true)(hb:BlS T w w')(O:y4 w w')(hB:∀x,x∈B-> ¬T x.b):St w' K B n [] a w':=
 ⟨BlS.refl _ _,h.size,h.nd,fun q hq=>by
  obtain⟨f,ef⟩:=zBX hu q hq
  have h1:=h.sl q hq
  rw[ef]at h1 ⊢
  exact f.us _ _ _ h1 O,wW B (fun x I=>by simpa using xR.1 J x I) (wT O B (fun x I=>by
   obtain⟨_,_,_,h3,_⟩:=h.bx.mem x I
   exact hb.block _ (xP.1 h3).1 (hB x I)) h.bx),⟨[],Marks.nil _ _⟩,.inl (zBX hu)⟩
theorem zAF{k cap:Nat}{ty:WE}(C:CU)(ho:ops[k]?=some ⟨none,.store t x y,ty,pos,aft,none⟩)(h:StS S w0 K B n [] a w)(hu:(K.all fun q=>zKz q.2)=true)(h0:(B.all fun x=>x.r)=true)
  (hr:q9 w g e z cap Cs)(hi:i<Cs.length)(O:zFS P t=some z)(hx:a.eval x=.pointer (some ⟨g,i*z,none⟩))(hy:(a.eval y).cells.size=z/\(∀u,u∈(a.eval y).cells.toList->u.oneCell'=true)/\(a.eval y).cells.toList.all z9=true/\C.p (a.eval y).cells.toList w)(hB:∀q,q∈B-> ¬q.b=g)
  (fin:∀w',BlS (fun q=>q=g) w w'->y4 w w'->q9 w' g e z cap (Cs.set i C)->St w' K B n [] a w'->zBj F m P ops Q (k+1) a w'):zBj F m P ops Q k a w:=by
 obtain⟨w',J,g1,g2,g3⟩:=hr.put (P:=P) hi O hy
 have I:(execOp a.eval ⟨none,.store t x y,ty,pos,aft,none⟩).run P w=.ok .skip w':=by simp[execOp,Instr.storeAt,Instr.sureAddr,hx,J]
 refine zAO ho rfl ⟨fun f hf=>(by cases hf),?_⟩
 rw[bG _ _ _ (fun _ e=>by cases e),I]
 exact fin w' g1 g2 g3 (h.jump hu h0 g1 g2 hB)
theorem zFw{k:Nat}{ty:WE}(Ds:List CU)(h:StS S w0 K B n [] a w)(hr:y9 w base e z v Cs)(hbase:base<=w.heap.size)
  (ho:ops[k]?=some ⟨some d,.call ⟨.builtin .append,#[x,y],#[t,t]⟩,ty,pos,aft,none⟩)(happ:zID P t=some (e,z,true))(hf:zAw K B n d=true)(hu:(K.all fun q=>zKz q.2)=true)(hBr:(B.all fun x=>x.r)=true)
  (hx:a.eval x=v)(hy:(SF.row z Ds).p (a.eval y) w)(hD:∀C,C∈Ds->CU.ok z C)(hsz:Cs.length+Ds.length<=140000000000)(hB:∀q,q∈B-> ¬v.ownBlock=some q.b)
  (fin:∀v' a' w',y9 w' base e z v' (Cs++Ds)->BlS (fun q=>v.ownBlock=some q) w w'->y4 w w'->(v'.ownBlock=v.ownBlock∨v'.ownBlock=some w.heap.size)->St w' ((d,.u (UF.eq v'))::K) B n [] a' w'->zBj F m P ops Q (k+1) a' w'):zBj F m P ops Q k a w:=by
 obtain⟨v',w',hrun,g1,g2,g3⟩:=zK8 (P:=P) (ty:=ty) happ hr hy hD hsz hbase
 have hrun2:(execOp a.eval ⟨some d,.call ⟨.builtin .append,#[x,y],#[t,t]⟩,ty,pos,aft,none⟩).run P w=.ok (.value v') w':=by
  simp only[execOp,resolve,invoke,builtin,bW,cJ,cN,cE,cF,cO,hx,hrun]
 refine zAO ho rfl ⟨fun f hf=>(by
  unfold Oper.about at hf
  simp[resolve,go_sem]at hf),?_⟩
 rw[bG _ _ _ (fun _ e=>by cases e),hrun2]
 have hbl:BlS (fun q=>v.ownBlock=some q) w w':=⟨g2.os,g2.tape,g2.output,g2.size,fun q hq hn=>g2.block q hq fun e=>hn e.symm⟩
 have hk:y4 w w':=hr.keepU g2
 exact fin v' _ w' g1 hbl hk g3 ((h.jump hu hBr hbl hk hB).set hf (xF _ _) rfl)
theorem zJW{k:Nat}{ty:WE}(C:CU)(h:StS S w0 K B n [] a w)(ho:ops[k]?=some ⟨some d,.makeSlice t x y,ty,pos,aft,none⟩)(I:zID P t=some (e,z,true))(O:zeroCells P e=some zs)(hf:zAw K B n d=true)(hu:(K.all fun q=>zKz q.2)=true)(h1:(B.all fun x=>x.r)=true)
  (hn:nn<=1000000)(hC:∀W,C.p zs W)(hx:a.eval x=.int .i64 (nn:Int))(hy:a.eval y=.int .i64 (nn:Int))
  (fin:∀g a' w',g=w.heap.size->Below w.heap.size w w'->q9 w' g e z nn (List.replicate nn C)->St w' ((d,.u (UF.eq (.slice (some ⟨g,0,none⟩) nn nn)))::K) B n [] a' w'->zBj F m P ops Q (k+1) a' w'):zBj F m P ops Q k a w:=by
 obtain⟨w',J,g1,g2⟩:=zPU (P:=P) (w:=w) I O hn hC hx hy
 refine zAO ho rfl (zBI (fun _ e=>by cases e) (fun _ e=>by cases e) (W':=w') (v:=.slice (some ⟨w.heap.size,0,none⟩) nn nn) (by simp[execOp,J]) ?_)
 exact fin _ _ w' rfl g1 g2 ((h.jump (T:=fun _=>False) hu h1 (zAg g1) (zN g1) (fun _ _ k=>k)).set hf (xF _ _) rfl)
def zMW(T:Nat->Prop)(W:WB)(g:UF)(R:WB->Prop):Ending->WB->Prop:=fun e W'=>∃v,e=.returned v/\g.p v W'/\R W'/\BlS T W W'
theorem zEC{k:Nat}{ty:WE}{g:UF}(hF:zHT F m P)(he:Enters P f)(h:StS S w0 K B n [] a w)(ho:ops[k]?=some ⟨some d,.call ⟨.value (.func f),xs,ats⟩,ty,pos,aft,none⟩)
  (hf:zAw K B n d=true)(hu:(K.all fun q=>zKz q.2)=true)(J:(B.all fun x=>x.r)=true)(hT:∀q,T q->zHV w q)(hB:∀q,q∈B-> ¬T q.b)(I:xs.map a.eval=args)(hc:Calls P f args w (zMW T w g R))
  (fin:∀a' w',R w'->BlS T w w'->y4 w w'->St w' ((d,.u g)::K) B n [] a' w'->zBj F m P ops Q (k+1) a' w'):zBj F m P ops Q k a w:=by
 subst I
 refine zAO ho rfl ⟨fun g _=>hF.1 g,?_⟩
 rw[bG _ _ _ (fun _ e=>by cases e),execOp_call_go,he]
 simp only[fV]
 refine⟨hF.2.1,bC (hF.2.2 _ _ _ _ (by simpa using hc)) fun e W' hh=>?_⟩
 obtain⟨v,rfl,hv,hR,O⟩:=hh
 have hk:=zCs O hT
 exact fin _ W' hR O hk ((h.jump hu J O hk hB).set hf (xF _ _) hv)
end
/-! ### Methods behind interfaces -/
def zDj(P:WG)(t:WE)(name:String):WF (FuncId×Bool×WE):=match P.info? t with
 | some i=>match i.methods.find? (·.name==name)with
  |some mt=>match mt.path.toList,mt.func,P.underlying t with
   | [],some (f,p),some (.pointer e)=>some (f,p,e)
   |_,_,_=>none
  |none=>none
 |none=>none
theorem zE0{p:Bool}(h:zDj P t name=some (f,p,e)):P.underlying t=some (.pointer e)/\∃i mt,P.info? t=some i/\i.methods.find? (·.name==name)=some mt/\mt.path=#[]/\mt.func=some (f,p):=by
 unfold zDj at h
 split at h<;>try cases h
 rename_i i I
 split at h<;>try cases h
 rename_i mt O
 split at h<;>try cases h
 rename_i h1 J h3
 exact⟨h3,i,mt,I,O,by simpa using h1,J⟩
theorem zG3(h:zDj P t name=some (f,true,e))(I:Addr)(w:WB):(method (P.types.size+Made.depth) t (.pointer (some I)) name).run P w=.ok (f,.pointer (some I)) w:=by
 obtain⟨O,i,mt,J,hm,hp,hf⟩:=zE0 h
 obtain⟨k,hk⟩:∃k,P.types.size+Made.depth=k+1:=⟨P.types.size+99,rfl⟩
 rw[hk]
 unfold method
 simp[typeInfo,J,hm,hp,hf,follow,receiverAt,bI O,Place.get]
theorem zEJ(h:zDj P t name=some (f,false,e)){I:Addr}{w:WB}{v:WD}(hl:(loadVar e I).run P w=.ok v w):(method (P.types.size+Made.depth) t (.pointer (some I)) name).run P w=.ok (f,v) w:=by
 obtain⟨h1,i,mt,J,O,hp,hf⟩:=zE0 h
 obtain⟨k,hk⟩:∃k,P.types.size+Made.depth=k+1:=⟨P.types.size+99,rfl⟩
 rw[hk]
 have hw:∀s s':String,(Builtin.ssaWrapNilChk_ #[t] t #[.pointer (some I),strVal s,strVal s']).run P w=.ok (.pointer (some I)) w:=fun _ _=>rfl
 unfold method
 simp[typeInfo,J,O,hp,hf,follow,receiverAt,bI h1,Place.get,hw,asAddr,hl]
theorem zDq{a:Act}{d:WF Tmp}{ty:WE}{gd:WF (Nat×Bool)}(I:a.eval r=.iface tt pv)(hm:(method (P.types.size+Made.depth) tt pv name).run P w=.ok (f,rv) w)(O:Enters P f):
  (execOp a.eval ⟨d,.call ⟨.invoke r name,xs,ats⟩,ty,pos,aft,gd⟩).run P w=.ok (.enter f (#[rv]++xs.map a.eval)) w:=by
 have h:(#[Value.iface tt pv]++xs.map a.eval).extract 1 (#[Value.iface tt pv]++xs.map a.eval).size=xs.map a.eval:=by
  refine cV eN fun i h1 h2=>?_
  simp
 simp only[execOp,resolve,I,bW,cJ,cN,invoke]
 have J:(#[Value.iface tt pv]++xs.map a.eval)[0]?=some (.iface tt pv):=by rw[lE eN];rfl
 rw[J]
 simp only[h,callMethod,bW,run_program,cN,hm]
 exact O _ _
section
variable {S:Nat->Prop}{F:Fence}{m:Nat}{P:WG}{Q:Exit->Act->WB->Prop}{w0:WB}{K:List (Nat×KF)}{B:List Bx}{n:Nat}{a:Act}{w:WB}{ops:Array Oper}
theorem zKS{k:Nat}{ty:WE}{g:UF}(hF:zHT F m P)(he:Enters P f)(h:StS S w0 K B n [] a w)(ho:ops[k]?=some ⟨some d,.call ⟨.invoke r name,xs,ats⟩,ty,pos,aft,none⟩)
  (hr:a.eval r=.iface tt pv)(hm:(method (P.types.size+Made.depth) tt pv name).run P w=.ok (f,rv) w)(hf:zAw K B n d=true)(hu:(K.all fun q=>zKz q.2)=true)(J:(B.all fun x=>x.r)=true)(hT:∀q,T q->zHV w q)(hB:∀q,q∈B-> ¬T q.b)(I:xs.map a.eval=args)(hc:Calls P f (#[rv]++args) w (zMW T w g R))
  (fin:∀a' w',R w'->BlS T w w'->y4 w w'->St w' ((d,.u g)::K) B n [] a' w'->zBj F m P ops Q (k+1) a' w'):zBj F m P ops Q k a w:=by
 subst I
 refine zAO ho rfl ⟨fun g _=>hF.1 g,?_⟩
 rw[bG _ _ _ (fun _ e=>by cases e),zDq hr hm he]
 simp only[fV]
 refine⟨hF.2.1,bC (hF.2.2 _ _ _ _ hc) fun e W' hh=>?_⟩
 obtain⟨v,rfl,hv,hR,O⟩:=hh
 have hk:=zCs O hT
 exact fin _ W' hR O hk ((h.jump hu J O hk hB).set hf (xF _ _) hv)
theorem zPe{G:Nat->SF}{d:Tmp}{ty:WE}(hF:zHT F m P)(O:Enters P f)
  (h:∀(b:Act) (W:WB),Below w0.heap.size w0 W->(∀x,x∈r::xs.toList->(fct G x).p (b.eval x) W)->∃tt pv rv,b.eval r=.iface tt pv/\(method (P.types.size+Made.depth) tt pv name).run P W=.ok (f,rv) W/\Calls P f (#[rv]++xs.map b.eval) W (Ret W (G d))):
  qR F m P w0 ops G ⟨some d,.call ⟨.invoke r name,xs,ats⟩,ty,pos,aft,none⟩:=by
 intro b W K Q hb hr hK
 obtain⟨tt,pv,rv,h1,h2,h3⟩:=h b W hb fun x J=>qX hr (x:=x) (by
  simp only[Op.operands,Call.operands,pV,uL]
  rcases xX.1 J with rfl|J
  .exact .inl eN
  .exact .inr J)
 refine⟨fun g _=>hF.1 g,?_⟩
 rw[bG _ _ _ (fun _ e=>by cases e),zDq h1 h2 O]
 simp only[fV]
 refine⟨hF.2.1,bC (hF.2.2 _ _ _ _ h3) fun e W' O=>?_⟩
 obtain⟨v,rfl,hv,I⟩:=O
 exact hK v W' (fun d' e=>by cases e;exact hv) I
theorem zJn{G:Nat->SF}{d:Tmp}{ty:WE}(J:∃u,P.underlying t=some u/\(∀ms,u≠ .interface ms))(h:∀v W,(fct G x).p v W->(G d).p (.iface t v) W):qR F m P w0 ops G ⟨some d,.makeInterface t x,ty,pos,aft,none⟩:=
 qY (fun _ e=>by cases e) (fun _ e=>by cases e) fun b W hb O=>by
  obtain⟨u,hu,I⟩:=J
  have h1:=h _ _ (O x (by simp[Op.operands]))
  refine⟨.iface t (b.eval x),?_,h1⟩
  cases u<;>first
   |exact absurd rfl (I _)
   |simp[execOp,Instr.makeInterface,bI hu]
theorem zFH{G:Nat->SF}{d:Tmp}{I ty:WE}(O:∃u,P.underlying t=some u/\(∀ms,u≠ .interface ms))(h:∀v W,(fct G x).p v W->∃u,v=.iface t u/\(G d).p u W):qR F m P w0 ops G ⟨some d,.typeAssert x I t false,ty,pos,aft,none⟩:=
 qY (fun _ e=>by cases e) (fun _ e=>by cases e) fun b W hb hh=>by
  obtain⟨u,hu,J⟩:=O
  obtain⟨v,e,h1⟩:=h _ _ (hh x (by simp[Op.operands]))
  refine⟨v,?_,h1⟩
  cases u<;>first
   |exact absurd rfl (J _)
   |simp[execOp,Instr.typeAssert,bI hu,e]
theorem qQ{G:Nat->SF}{d:Tmp}{ty:WE}{cap:Nat}(hz:zA8 P t=some z)(hi:i<nn)(hx:∀v W,(fct G x).p v W->v=.slice (some ⟨g,0,none⟩) nn cap)(hy:∀v W,(fct G y).p v W->v=.int .i64 (i:Int))(hd:∀W,(G d).p (.pointer (some ⟨g,i*z,none⟩)) W:=by exact fun _=>rfl):qR F m P w0 ops G ⟨some d,.indexAddr t x y,ty,pos,aft,none⟩:=
 qY (fun _ e=>by cases e) (fun _ e=>by cases e) fun b W hb J=>by
  have e:=hx _ _ (J x (by simp[Op.operands]))
  have e2:=hy _ _ (J y (by simp[Op.operands]))
  unfold zA8 at hz
  split at hz<;>try cases hz
  rename_i e' O
  cases hin:P.info? e' with
  |none=>rw[hin]at hz;cases hz
  |some ie=>
   rw[hin]at hz
   simp only[fO,fP]at hz
   have h:P.elem t=e':=by simp[Program.elem,O]
   refine⟨.pointer (some ⟨g,i*z,none⟩),?_,hd _⟩
   have I:(0:Int)<=(i:Int)/\(i:Int)<(nn:Nat):=oA
   simp only[execOp,e,e2]
   rw[bW,pZ _ _ _ _ _ _ _ (by rw[h];exact O),if_pos I,h]
   simp[sizeOf,typeInfo,hin,hz,xH]
theorem zFG{G:Nat->SF}{d:Tmp}{ty:WE}(hk:zB9 P t=true)(h:w0.heap[b]?=some (.cells #[v] te (0,0)))(O:∀u W,(fct G x).p u W->u= pO b 0)(hd:∀W,Below w0.heap.size w0 W->(G d).p v W:=by exact fun _ _=>rfl):qR F m P w0 ops G ⟨some d,.load t x,ty,pos,aft,none⟩:=
 qY (fun _ e=>by cases e) (fun _ e=>by cases e) fun a W I J=>by
  have e:=O _ _ (J x (by simp[Op.operands]))
  have hm:=zAe (cs:=[v]) ((I.block b (xP.1 h).1).trans h)
  exact⟨v,by simp[execOp,Instr.loadAt,e,Instr.sureAddr,jA hk hm (u:=v) rfl],hd W I⟩
theorem zQs{G:Nat->SF}{d:Tmp}{ty:WE}(k:IntKind)(u v r:Int)(J:∀q W,(fct G x).p q W->q=.int k u)(I:∀q W,(fct G y).p q W->q=.int k v)(h:k.wrap (u*v)=r)(hd:∀W,(G d).p (.int k r) W:=by exact fun _=>rfl):qR F m P w0 ops G ⟨some d,.binOp .mul t x y t',ty,pos,aft,none⟩:=
 zDg (.int k u) (.int k v) (.int k r) J I (fun W=>by simp[eqGuard]) (fun W=>by simp[binOp,Op.intArith,h]) hd
end
def zT0:Nat->List UF->List (Nat×KF)
 |_, []=> []
 |k,f::l=>(k,.u f)::zT0 (k+1) l
def zRc(w:WB):List UF->List WD->Prop
 | [],_=>True
 |f::l,v::vs=>f.p v w/\zRc w l vs
 |_::_, []=>False
theorem zFj{w:WB}:∀(l:List UF) (vs:List WD) (k:Nat),zRc w l vs->∀q,q∈zT0 k l->∃f,q.2=.u f/\k<=q.1/\q.1-k<vs.length/\f.p (vs.getD (q.1-k) undef) w
 | [],_,_,_,q,h=>by cases h
 |f::l, [],_,h,_,_=>h.elim
 | f::l,v::vs,k,h,q,I=>by
  rcases xX.1 I with rfl|I
  .exact⟨f,rfl,vR _,eN,by simpa using h.1⟩
  .obtain⟨f',O,h2,h3,J⟩:=zFj l vs (k+1) h.2 q I
   refine⟨f',O,oA,sB,?_⟩
   have e:q.1-k=q.1-(k+1)+1:=oA
   rw[e]
   exact J
theorem zB0{fn:Func}{c:Code}{R:Ending->WB->Prop}(l:List UF)
  (hf:P.funcs[f]?=some fn)(hb:fn.body=some c)(hn:Nat.ble args.size fn.ntmps=true)(hA:zRc w l args.toList)
  (h:∀a,St w (zT0 0 l) [] fn.ntmps [] a w->c.wpIn Fence.wide 0 P (bodyPost P fn R) a w):Calls P f args w R:=by
 have hn:=hH hn
 refine zBr hf hb (h _ ⟨BlS.refl _ _,sB,rfl,fun q I=>?_,trivial,⟨[],Marks.nil _ _⟩,.inl fun q I=>?_⟩)
 .obtain⟨f,e,_,J,O⟩:=zFj l _ 0 hA q I
  rw[e]
  show f.p ((args++Array.replicate (fn.ntmps-args.size) undef).getD q.1 undef) w
  rw[nJ,pW]at J
  rw[nJ]at O
  have:(args++Array.replicate (fn.ntmps-args.size) undef).getD q.1 undef=args.toList.getD q.1 undef:=by
   rw[xS,lE J,nX,nH]
  rw[this]
  exact O
 .obtain⟨f,e,_⟩:=zFj l _ 0 hA q I
  exact⟨f,e⟩
section
variable {S:Nat->Prop}{P:WG}{w0:WB}{K:List (Nat×KF)}{B:List Bx}{n:Nat}{a:Act}{w:WB}
theorem StS.retT1(h:StS S w0 K B n [] a w){fn:Func}{t:Nat}{g:UF}{R:Ending->WB->Prop}(I:fn.results=#[.tmp t])(O:(t,KF.u g)∈K)(J:∀v,g.p v w->R (.returned v) w):bodyPost P fn R .ret a w:=
 ⟨h.nd,a.tmps.getD t undef,by simp[results,I],J _ (h.sl _ O)⟩
theorem StS.retN0(h:StS S w0 K B n [] a w){fn:Func}{R:Ending->WB->Prop}(I:fn.results=#[])(J:R (.returned (.tuple #[])) w):bodyPost P fn R .normal a w:=
 ⟨h.nd,.tuple #[],by simp[results,I],J⟩
end
/-! ### One who waits: five cells -/
def WTp(x:Wt)(v:WD)(w:WB):Prop:=∃s A n c A' n' c',v=.agg #[.bool s,.slice A n c,.slice A' n' c',.int .i64 (x.s:Int),.int .i64 (x.n:Int)]/\QNp x.c (.agg #[.bool s,.slice A n c,.slice A' n' c']) w
def fWt(x:Wt):UF:=.mk' (WTp x) fun _ _ _ ⟨s,A,n,c,A',n',c',e,h⟩ u=>⟨s,A,n,c,A',n',c',e,(fQN x.c).us _ _ _ h u⟩
theorem zCT{a b c d e:WD}(h:Value.agg cs.toArray=.agg #[a,b,c,d,e]):cs=[a,b,c,d,e]:=by
 have:=vX Array.toList (zA7 h)
 simpa using this
theorem zJM{a b c d:WD}(h:Value.agg cs.toArray=.agg #[a,b,c,d]):cs=[a,b,c,d]:=by
 have:=vX Array.toList (zA7 h)
 simpa using this
theorem zEw(x:Wt):∀cs:List WD,∀W,(fWt x).p (.agg cs.toArray) W->cs.length=5:=fun cs W ⟨_,_,_,_,_,_,_,e,_⟩=>by rw[zCT e];rfl
theorem zFY{x:Wt}(cs:List WD)(W:WB)(h:(CU.agg (fWt x)).p cs W):0+3<=cs.length/\QNp x.c (.agg ((cs.drop 0).take 3).toArray) W:=by
 obtain⟨_,_,_,_,_,_,_,e,I⟩:=h
 rw[zCT e]
 exact⟨eN,I⟩
theorem zCx{x:Wt}(cs:List WD)(W:WB)(h:(CU.agg (fWt x)).p cs W):∃u,cs[3]?=some u/\u=.int .i64 (x.s:Int):=by
 obtain⟨_,_,_,_,_,_,_,e,_⟩:=h
 rw[zCT e]
 exact⟨_,rfl,rfl⟩
theorem zDv{x:Wt}(cs:List WD)(W:WB)(h:(CU.agg (fWt x)).p cs W):∃u,cs[4]?=some u/\u=.int .i64 (x.n:Int):=by
 obtain⟨_,_,_,_,_,_,_,e,_⟩:=h
 rw[zCT e]
 exact⟨_,rfl,rfl⟩
theorem zOM{x:Wt}(h:(fWt x).p v W):(CU.agg (fWt x)).p v.cells.toList W/\v.cells.toList.all z9=true:=by
 obtain⟨s,A,n,c,A',n',c',rfl,I⟩:=h
 exact⟨⟨s,A,n,c,A',n',c',rfl,I⟩,rfl⟩
theorem zGG{z z':Int}(u:WD)(h:u∈ [Value.bool s,.slice A n c,.slice A' n' c',.int .i64 z,.int .i64 z']):u.oneCell'=true:=by
 simp only[xX,rL,rM]at h
 rcases h with rfl|rfl|rfl|rfl|rfl<;>rfl
theorem zFX{x:Wt}(v:WD)(W:WB)(h:(fWt x).p v W):∃vs:List WD,v=.agg vs.toArray/\vs.length=5/\(∀u,u∈vs->u.oneCell'=true)/\vs.all z9=true/\(CU.agg (fWt x)).p vs W:=by
 obtain⟨s,A,n,c,A',n',c',rfl,I⟩:=h
 exact⟨_,rfl,rfl,zGG,rfl,s,A,n,c,A',n',c',rfl,I⟩
theorem zOL{x:Wt}(h:(fWt x).p v W):v.cells.size=5/\(∀u,u∈v.cells.toList->u.oneCell'=true)/\v.cells.toList.all z9=true/\(CU.agg (fWt x)).p v.cells.toList W:=by
 obtain⟨s,A,n,c,A',n',c',rfl,I⟩:=h
 exact⟨rfl,zGG,rfl,s,A,n,c,A',n',c',rfl,I⟩
theorem zSJ(x:Wt):CU.ok 5 (CU.agg (fWt x)):=fun cs W ⟨s,A,n,c,A',n',c',e,_⟩=>by
 rw[zCT e]
 exact⟨rfl,rfl,zGG⟩
theorem bWt(s:Bool)(A A':WF Addr)(n n' c c':Nat)(z z':Int):prog.built 86 [(0,.agg #[.bool s,.slice A n c,.slice A' n' c']),(1,.int .i64 z),(2,.int .i64 z')]=some #[.bool s,.slice A n c,.slice A' n' c',.int .i64 z,.int .i64 z']:=rZ
theorem zUf{x:Wt}{q:WD}(h:QNp x.c u W)(I:v=.int .i64 (x.s:Int))(J:q=.int .i64 (x.n:Int)):∃cells,prog.built 86 [(0,u),(1,v),(2,q)]=some cells/\(fWt x).p (.agg cells) W:=by
 subst I J
 obtain⟨A,n,c,A',n',c',rfl⟩:=zBw h
 exact⟨_,bWt _ _ _ _ _ _ _ _ _,_,A,n,c,A',n',c',rfl,h⟩
theorem zRv(s:Bool)(A A':WF Addr)(n n' c c':Nat)(z z':Int):zV prog 108 1 [(0,.agg #[.bool s,.slice A n c,.slice A' n' c',.int .i64 z,.int .i64 z'])]=some (86,#[.bool s,.slice A n c,.slice A' n' c',.int .i64 z,.int .i64 z']):=rZ
theorem zRp{x:Wt}(I:(fWt x).p u W):∃e cs,zV prog 108 1 [(0,u)]=some (e,cs)/\(SF.row 5 [CU.agg (fWt x)]).p (.slice (some ⟨W.heap.size,0,none⟩) 1 1) (W.alloc (.cells cs e)):=by
 obtain⟨s,A,n,c,A',n',c',rfl,J⟩:=I
 refine⟨_,_,zRv _ _ _ _ _ _ _ _ _,_,1,rfl,vR _,rY,sF,fun i C h=>?_⟩
 cases i with
 |zero=>
  obtain rfl:CU.agg (fWt x)=C:=by simpa using h
  exact⟨_,0,_,rfl,zCp W _ _,s,A,n,c,A',n',c',rfl,(fQN x.c).us _ _ _ J (zN (j5 W _))⟩
 |succ i=>simp at h
theorem zRo{x:Wt}(I:(fWt x).p u W):∃e cs,zV prog 108 1 [(0,u)]=some (e,cs)/\e=86/\q9 (W.alloc (.cells cs e)) W.heap.size 86 5 1 [CU.agg (fWt x)]:=by
 obtain⟨s,A,n,c,A',n',c',rfl,J⟩:=I
 refine⟨_,_,zRv _ _ _ _ _ _ _ _ _,rfl,_,bT W _,vR _,rY,rfl,rfl,fun i C h=>?_⟩
 cases i with
 |zero=>
  obtain rfl:CU.agg (fWt x)=C:=by simpa using h
  exact⟨s,A,n,c,A',n',c',rfl,(fQN x.c).us _ _ _ J (zN (j5 W _))⟩
 |succ i=>simp at h
abbrev wts(L:List Wt):List CU:=L.map fun x=>CU.agg (fWt x)
theorem zEv(h:i<L.length):(wts L)[i]?=some (CU.agg (fWt (L.getD i wz))):=by
 simp[wts,h]
theorem zPt:((wts L).set i (CU.agg (fWt (L.getD j wz)))).set j (CU.agg (fWt (L.getD i wz)))=wts (zCQ wz L i j):=by
 unfold wts zCQ
 rw[nC,nC]
/-! ### A road: four cells -/
def ROp(r:Nat×Rat)(v:WD)(w:WB):Prop:=∃s A n c A' n' c',v=.agg #[.int .i64 (r.1:Int),.bool s,.slice A n c,.slice A' n' c']/\QNp r.2 (.agg #[.bool s,.slice A n c,.slice A' n' c']) w
def fRo(r:Nat×Rat):UF:=.mk' (ROp r) fun _ _ _ ⟨s,A,n,c,A',n',c',e,h⟩ u=>⟨s,A,n,c,A',n',c',e,(fQN r.2).us _ _ _ h u⟩
theorem zI7(x:Nat×Rat):∀cs:List WD,∀W,(fRo x).p (.agg cs.toArray) W->cs.length=4:=fun cs W ⟨_,_,_,_,_,_,_,e,_⟩=>by rw[zJM e];rfl
theorem zEO{x:Nat×Rat}(cs:List WD)(W:WB)(h:(CU.agg (fRo x)).p cs W):∃u,cs[0]?=some u/\u=.int .i64 (x.1:Int):=by
 obtain⟨_,_,_,_,_,_,_,e,_⟩:=h
 rw[zJM e]
 exact⟨_,rfl,rfl⟩
theorem zI8{x:Nat×Rat}(cs:List WD)(W:WB)(h:(CU.agg (fRo x)).p cs W):1+3<=cs.length/\QNp x.2 (.agg ((cs.drop 1).take 3).toArray) W:=by
 obtain⟨_,_,_,_,_,_,_,e,I⟩:=h
 rw[zJM e]
 exact⟨eN,I⟩
theorem zJG{z:Int}(u:WD)(h:u∈ [Value.int .i64 z,.bool s,.slice A n c,.slice A' n' c']):u.oneCell'=true:=by
 simp only[xX,rL,rM]at h
 rcases h with rfl|rfl|rfl|rfl<;>rfl
theorem zEh{x:Nat×Rat}(v:WD)(W:WB)(h:(fRo x).p v W):∃vs:List WD,v=.agg vs.toArray/\vs.length=4/\(∀u,u∈vs->u.oneCell'=true)/\vs.all z9=true/\(CU.agg (fRo x)).p vs W:=by
 obtain⟨s,A,n,c,A',n',c',rfl,I⟩:=h
 exact⟨_,rfl,rfl,zJG,rfl,s,A,n,c,A',n',c',rfl,I⟩
theorem zRA(x:Nat×Rat):CU.ok 4 (CU.agg (fRo x)):=fun cs W ⟨s,A,n,c,A',n',c',e,_⟩=>by
 rw[zJM e]
 exact⟨rfl,rfl,zJG⟩
theorem bRo(s:Bool)(A A':WF Addr)(n n' c c':Nat)(z:Int):prog.built 67 [(0,.int .i64 z),(1,.agg #[.bool s,.slice A n c,.slice A' n' c'])]=some #[.int .i64 z,.bool s,.slice A n c,.slice A' n' c']:=rZ
theorem zUg{x:Nat×Rat}(I:u=.int .i64 (x.1:Int))(h:QNp x.2 v W):∃cells,prog.built 67 [(0,u),(1,v)]=some cells/\(fRo x).p (.agg cells) W:=by
 subst I
 obtain⟨A,n,c,A',n',c',rfl⟩:=zBw h
 exact⟨_,bRo _ _ _ _ _ _ _ _,_,A,n,c,A',n',c',rfl,h⟩
theorem zSR(s:Bool)(A A':WF Addr)(n n' c c':Nat)(z:Int):zV prog 65 1 [(0,.agg #[.int .i64 z,.bool s,.slice A n c,.slice A' n' c'])]=some (67,#[.int .i64 z,.bool s,.slice A n c,.slice A' n' c']):=rZ
abbrev ros(l:List (Nat×Rat)):List CU:=l.map fun x=>CU.agg (fRo x)
theorem zF7{l:List (Nat×Rat)}(h:i<l.length):(ros l)[i]?=some (CU.agg (fRo (l.getD i (0,0)))):=by
 simp[ros,h]
/-! ### qJ that are turned; rows cut off -/
theorem zB1(h:w.heap[b]?=some (.cells #[v] e (0,0)))(J:z9 v=true):q9 w b e 1 1 [wC [v]]:=
 ⟨#[v],h,vR _,rY,rfl,by simp[J],fun i C I=>by
  cases i with
  |zero=>
   obtain rfl:wC [v]=C:=by simpa using I
   rfl
  |succ i=>simp at I⟩
theorem zCO(h:q9 w b e 1 1 [wC [v]]):w.heap[b]?=some (.cells #[v] e (0,0)):=by
 obtain⟨I,h1,_,_,O,_,h6⟩:=h
 have J:(I.toList.drop (0*1)).take 1=[v]:=h6 0 _ rfl
 have hl:I.toList.length=1:=by simpa using O
 have e:I.toList=[v]:=by
  rw[gD,mH,mJ oA]at J
  exact J
 have e2:I=#[v]:=by rw[<-fW (xs:=I),e]
 rw[h1,e2]
section
variable {F:Fence}{m:Nat}{P:WG}{w0:WB}{ops:Array Oper}{G:Nat->SF}{d:Tmp}{ty:WE}{pos:String}{aft:Array Edge}
theorem zPS{ie:TypeInfo}(hu:P.underlying t=some (.slice e'))(hie:P.info? e'=some ie)(A:WF Addr)(n c k:Nat)(hk:k<=c)(w:WB):(Instr.sliceAt t (.slice A n c) none (some (.int .i64 (k:Int))) none).run P w=.ok (.slice A k c) w:=by
 simp[Instr.sliceAt,Instr.slice,Instr.sliceBounds,bI hu,sizeOf,typeInfo,hie,go_sem,hk]
theorem zPc{I:WK}{k:Nat}(h:zA8 P t=some z)(hk:k<=c)(hx:∀v W,(fct G x).p v W->v=.slice (some ⟨g,0,none⟩) n c)(hh:∀v W,(fct G I).p v W->v=.int .i64 (k:Int))(hd:∀W,(G d).p (.slice (some ⟨g,0,none⟩) k c) W:=by exact fun _=>rfl):qR F m P w0 ops G ⟨some d,.slice t x none (some I) none,ty,pos,aft,none⟩:=
 qY (fun _ e=>by cases e) (fun _ e=>by cases e) fun b W hb hp=>by
  have e:=hx _ _ (hp x (by simp[Op.operands]))
  have O:=hh _ _ (hp I (by simp[Op.operands]))
  unfold zA8 at h
  split at h<;>try cases h
  rename_i e' hu
  obtain⟨ie,J,_⟩:=lH.1 h
  exact⟨.slice (some ⟨g,0,none⟩) k c,by simp[execOp,e,O,zPS hu J _ n c k hk],hd _⟩
end
/-! ### The queue in memory -/
structure QM(w:World)(b g cap:Nat)(L:List Wt):Prop where
 bx:w.heap[b]?=some (.cells #[.slice (some ⟨g,0,none⟩) L.length cap] 108 (0,0))
 rw:q9 w g 86 5 cap (wts L)
 bl:0<b
 gl:0<g
theorem QM.below{cap:Nat}(h:QM w b g cap L)(I:Below w.heap.size w w'):QM w' b g cap L:=⟨(I.block b (xP.1 h.bx).1).trans h.bx,h.rw.below I,h.bl,h.gl⟩
theorem QM.ne{cap:Nat}(h:QM w b g cap L):b≠g:=zX h.bx h.rw.at.choose_spec dA
theorem QM.bpl{cap:Nat}(h:QM w b g cap L):zHV w b:=⟨_,_,_,h.bx,rfl⟩
theorem QM.row{cap:Nat}(h:QM w b g cap L):(SF.row 5 (wts L)).p (.slice (some ⟨g,0,none⟩) L.length cap) w:=h.rw.row eN
theorem QM.ld{cap:Nat}(h:QM w b g cap L):(loadVar 108 ⟨b,0,none⟩).run prog w=.ok (.slice (some ⟨g,0,none⟩) L.length cap) w:=jA kA (zAe (cs:=[_]) h.bx) rfl
theorem QM.turn{cap:Nat}{I:List Wt}(h:QM w b g cap L)(hb:BlS (fun q=>q=g) w w')(O:I.length=L.length)(J:q9 w' g 86 5 cap (wts I)):QM w' b g cap I:=
 ⟨by rw[O];exact(hb.block b (xP.1 h.bx).1 h.ne).trans h.bx,J,h.bl,h.gl⟩
abbrev qI(b:Nat):WD:=.iface 106 (pO b 0)
theorem zDD(p q:Rat):(qsg p q<0)=(p<q):=by
 have I:=@zO9 p q
 have h2:=@zDT p q
 have h3:=@zRL p q
 have h4:=zQj p q
 exact propext ⟨fun h=>I.1 oA,fun h=>by rw[I.2 h];decide⟩
theorem zSM{x y:Wt}(h:((qsg (x).c (y).c) !=0)=true):decide (qsg (x).c (y).c<0)=Wt.lt x y:=by
 have I:x.c≠y.c:=fun e=>by rw[zDT.2 e]at h;simp at h
 unfold Wt.lt
 rw[if_neg I]
 simp only[zDD]
theorem zSL{x y:Wt}(h:((qsg (x).c (y).c) !=0)=false)(k:((x.s:Int) !=(y.s:Int))=true):decide ((x.s:Int)<(y.s:Int))=Wt.lt x y:=by
 have I:x.c=y.c:=zDT.1 (by simpa using h)
 have J:x.s≠y.s:=fun e=>by rw[e]at k;simp at k
 unfold Wt.lt
 rw[if_pos I,if_neg J]
 exact pE.2 oA
theorem zSK{x y:Wt}(h:((qsg (x).c (y).c) !=0)=false)(k:((x.s:Int) !=(y.s:Int))=false):decide ((x.n:Int)<(y.n:Int))=Wt.lt x y:=by
 have I:x.c=y.c:=zDT.1 (by simpa using h)
 have J:x.s=y.s:=by
  have:(x.s:Int)=(y.s:Int):=by simpa using k
  omega
 unfold Wt.lt
 rw[if_pos I,if_pos J]
 exact pE.2 oA
theorem zPw{x y:Wt}(h0:(fWt x).p u W)(h1:(fWt y).p v W)(hx:QB x.c 1)(hy:QB y.c 1)(O:Tab W):Calls prog 154 #[u,v] W (Ret W (fB (Wt.lt x y)).tS):=by
 refine y2 [(fWt x).tS,(fWt y).tS] func154 rfl kA ⟨h0,h1,trivial⟩ fun a s=>fK<|rgK 0 [] s
  zC fun a w1 s=>zAZ (CU.agg (fWt x)) rfl s kA (fun v W h=>zOM h) fun b2 a w s=>zAZ (CU.agg (fWt y)) rfl s kA (fun v W h=>zOM h) fun b3 a w s=>yN (uB false) rfl s kA iiz fun a w s=>zF rfl<|fK<|rgQ ((6,.X (fWt x) 0)::(7,.Z (fQN ((x).c)))::(8,.X (fWt y) 0)::(9,.Z (fQN ((y).c)))::(10,.Z (uI (qsg ((x).c) ((y).c))))::(5,.u (uI (qsg ((x).c) ((y).c))))::[]) s
  (oc (zO (C:=cg (fWt x)) 0 kA)<|oc (jS (C:=cg (fWt x)) (k:=0) 3 kA (h:=zFY))<|oc (zO (C:=cg (fWt y)) 0 kA)<|oc (jS (C:=cg (fWt y)) (k:=0) 3 kA (h:=zFY))<|oc (zW zD zQX (fun u0 J W hb (h0:QNp ((x).c) u0 W) (h1:QNp ((y).c) J W)=>zLh (m:=1) (wH h0 hx) (wH h1 hy) dA dA (O.below (s.up hb))))<|oc zE<|zC) fun a w2 s=>rgQ ((11,.Z (uI (qsg ((x).c) ((y).c))))::(12,.u (uB ((qsg ((x).c) ((y).c)) !=0)))::[]) s
  (oc zA<|oc (zJ .i64 (qsg ((x).c) ((y).c)) 0 ((qsg ((x).c) ((y).c)) !=0) iiz iiz rfl rfl)<|zC) fun a w3 s=>StS.cond s ((qsg ((x).c) ((y).c)) !=0) iiz (fun e=>?_) (fun e=>?_)
 .have I:=e
  refine fK ?_
  replace s:=s.drop [4]
  exact rgE ((13,.Z (uI (qsg ((x).c) ((y).c))))::(14,.Z (uB (decide ((qsg ((x).c) ((y).c))<0))))::(4,.u (uB (decide ((qsg ((x).c) ((y).c))<0))))::[]) s
   (oc zA<|oc (zJ .i64 (qsg ((x).c) ((y).c)) 0 (decide ((qsg ((x).c) ((y).c))<0)) iiz iiz rfl rfl)<|oc zE<|zC) fun a w4 s=>nR<|wG s (t:=4) rfl (fun v W h=>by rw[<-zSM I];exact h)
 .have I:=e
  refine nQ<|fK<|rgQ ((15,.X (fWt x) 3)::(16,.Z (uI (((x).s:Nat):Int)))::(17,.X (fWt y) 3)::(18,.Z (uI (((y).s:Nat):Int)))::(19,.u (uB ((((x).s:Nat):Int) !=(((y).s:Nat):Int))))::[]) s
   (oc (zO (C:=cg (fWt x)) 3 kA)<|oc (yK (C:=cg (fWt x)) (k:=3) kA (h:=zCx))<|oc (zO (C:=cg (fWt y)) 3 kA)<|oc (yK (C:=cg (fWt y)) (k:=3) kA (h:=zCx))<|oc (zJ .i64 (((x).s:Nat):Int) (((y).s:Nat):Int) ((((x).s:Nat):Int) !=(((y).s:Nat):Int)) iiz iiz rfl rfl)<|zC) fun a w5 s=>StS.cond s ((((x).s:Nat):Int) !=(((y).s:Nat):Int)) iiz (fun e=>?_) (fun e=>?_)
  .refine fK ?_
   replace s:=s.drop [4]
   exact rgE ((20,.X (fWt x) 3)::(21,.Z (uI (((x).s:Nat):Int)))::(22,.X (fWt y) 3)::(23,.Z (uI (((y).s:Nat):Int)))::(24,.Z (uB (decide ((((x).s:Nat):Int)<(((y).s:Nat):Int)))))::(4,.u (uB (decide ((((x).s:Nat):Int)<(((y).s:Nat):Int)))))::[]) s
    (oc (zO (C:=cg (fWt x)) 3 kA)<|oc (yK (C:=cg (fWt x)) (k:=3) kA (h:=zCx))<|oc (zO (C:=cg (fWt y)) 3 kA)<|oc (yK (C:=cg (fWt y)) (k:=3) kA (h:=zCx))<|oc (zJ .i64 (((x).s:Nat):Int) (((y).s:Nat):Int) (decide ((((x).s:Nat):Int)<(((y).s:Nat):Int))) iiz iiz rfl rfl)<|oc zE<|zC) fun a w6 s=>nR<|wG s (t:=4) rfl (fun v W h=>by rw[<-zSL I e];exact h)
  .refine nQ ?_
   refine fK ?_
   replace s:=s.drop [4]
   exact rgE ((25,.X (fWt x) 4)::(26,.Z (uI (((x).n:Nat):Int)))::(27,.X (fWt y) 4)::(28,.Z (uI (((y).n:Nat):Int)))::(29,.Z (uB (decide ((((x).n:Nat):Int)<(((y).n:Nat):Int)))))::(4,.u (uB (decide ((((x).n:Nat):Int)<(((y).n:Nat):Int)))))::[]) s
    (oc (zO (C:=cg (fWt x)) 4 kA)<|oc (yK (C:=cg (fWt x)) (k:=4) kA (h:=zDv))<|oc (zO (C:=cg (fWt y)) 4 kA)<|oc (yK (C:=cg (fWt y)) (k:=4) kA (h:=zDv))<|oc (zJ .i64 (((x).n:Nat):Int) (((y).n:Nat):Int) (decide ((((x).n:Nat):Int)<(((y).n:Nat):Int))) iiz iiz rfl rfl)<|oc zE<|zC) fun a w7 s=>nR<|wG s (t:=4) rfl (fun v W h=>by rw[<-zSK I e];exact h)
theorem zQo{l:WD}(I:(SF.row 5 (wts L)).p l W)(hu:u=.int .i64 (i:Int))(hv:v=.int .i64 (j:Int))(J:i<L.length)(hj:j<L.length)(hx:QB (L.getD i wz).c 1)(hy:QB (L.getD j wz).c 1)(hT:Tab W):Calls prog 155 #[l,u,v] W (Ret W (fB (Wt.lt (L.getD i wz) (L.getD j wz))).tS):=by
 refine y2 [(UF.eq l).tS,(uI (i:Int)).tS,(uI (j:Int)).tS] func155 rfl kA ⟨rfl,hu,hv,trivial⟩ fun a s=>rgQ ((6,.u (uB false))::[]) s
  (oc zE<|zC) fun a w1 s=>fK ?_
 replace s:=s.drop [6]
 exact rgE ((7,.Z (UF.eq l))::(8,.Z (uI (i:Int)))::(9,.Y (fWt (L.getD i wz)))::(10,.Z (fWt (L.getD i wz)))::(11,.Z (UF.eq l))::(12,.Z (uI (j:Int)))::(13,.Y (fWt (L.getD j wz)))::(14,.Z (fWt (L.getD j wz)))::(15,.Z (uB (Wt.lt (L.getD i wz) (L.getD j wz))))::(6,.u (uB (Wt.lt (L.getD i wz) (L.getD j wz))))::[]) s
  (oc zA<|oc zA<|oc (zL (z:=5) (Cs:=wts L) (i:=i) (C:=CU.agg (fWt (L.getD i wz))) kA (zEv J) (y7 I s) iiz)<|oc (yJ (f:=fWt (L.getD i wz)) 5 kA (hz:=zEw _))<|oc zA<|oc zA<|oc (zL (z:=5) (Cs:=wts L) (i:=j) (C:=CU.agg (fWt (L.getD j wz))) kA (zEv hj) (y7 I s) iiz)<|oc (yJ (f:=fWt (L.getD j wz)) 5 kA (hz:=zEw _))<|oc (zW zD zSh (fun u0 O W hb (h0:(fWt (L.getD i wz)).p u0 W) (h1:(fWt (L.getD j wz)).p O W)=>zPw h0 h1 hx hy (hT.below (s.up hb))))<|oc zE<|zC) fun a w2 s=>nR<|wG s (t:=6) rfl (fun v W h=>h)
theorem zPa{l:WD}(I:(SF.row 5 (wts L)).p l W):Calls prog 66 #[l] W (Ret W (uI (L.length:Int)).tS):=by
 refine y2 [(UF.eq l).tS] func66 rfl kA ⟨rfl,trivial⟩ fun a s=>rgQ ((2,.u (uI 0))::[]) s
  (oc zE<|zC) fun a w1 s=>fK ?_
 replace s:=s.drop [2]
 exact rgE ((3,.Z (UF.eq l))::(4,.Z (uI ((wts L).length:Int)))::(2,.u (uI ((wts L).length:Int)))::[]) s
  (oc zA<|oc (qZ (z:=5) (Cs:=wts L) kA (y7 I s) (fun _=>rfl))<|oc zE<|zC) fun a w2 s=>nR<|wG s (t:=2) rfl (fun v W h=>by rw[show v=_ from h];show _=Value.int .i64 (L.length:Int);simp)
theorem zQh{cap:Nat}(I:q9 W g 86 5 cap (wts L))(hu:u=.int .i64 (i:Int))(hv:v=.int .i64 (j:Int))(hi:i<L.length)(hj:j<L.length):Calls prog 158 #[.slice (some ⟨g,0,none⟩) L.length cap,u,v] W (zMW (fun q=>q=g) W UF.any fun W'=>q9 W' g 86 5 cap (wts (zCQ wz L i j))):=by
 have hl:(SF.row 5 (wts L)).p (.slice (some ⟨g,0,none⟩) L.length cap) W:=I.row eN
 have O:BlS (fun q=>q=g) W W:=BlS.refl _ _
 refine zB0 [UF.eq (.slice (some ⟨g,0,none⟩) L.length cap),uI (i:Int),uI (j:Int)] func158 rfl kA ⟨rfl,hu,hv,trivial⟩ fun a s=>?_
 replace s:St W [(0,.u (UF.eq (.slice (some ⟨g,0,none⟩) L.length cap))),(1,.u (uI (i:Int))),(2,.u (uI (j:Int)))] [] f158.ntmps [] a W:=s
 refine jR [0,1,2,3,4,5,8,9] 12 ((6,.u (UF.eq (.slice (some ⟨g,0,none⟩) L.length cap)))::(7,.u (uI (i:Int)))::(8,.u (UF.eq (.slice (some ⟨g,0,none⟩) L.length cap)))::(9,.u (uI (j:Int)))::(10,.Z (UF.eq (.slice (some ⟨g,0,none⟩) L.length cap)))::(11,.Z (uI (j:Int)))::(12,.Y (fWt (L.getD j wz)))::(13,.u (fWt (L.getD j wz)))::(14,.Z (UF.eq (.slice (some ⟨g,0,none⟩) L.length cap)))::(15,.Z (uI (i:Int)))::(16,.Y (fWt (L.getD i wz)))::(17,.u (fWt (L.getD i wz)))::[]) hmix s kA
  (oc zA<|oc zA<|oc zA<|oc zA<|oc zA<|oc zA<|oc (zL (z:=5) (Cs:=wts L) (i:=j) (C:=CU.agg (fWt (L.getD j wz))) kA (zEv hj) (fun v W J h=>(by rw[show v=(Value.slice (some ⟨g,0,none⟩) L.length cap)from h];exact(SF.row 5 (wts L)).st _ _ _ hl (s.up J))) iiz)<|oc (yJ (f:=fWt (L.getD j wz)) 5 kA (hz:=zEw _))<|oc zA<|oc zA<|oc (zL (z:=5) (Cs:=wts L) (i:=i) (C:=CU.agg (fWt (L.getD i wz))) kA (zEv hi) (fun v W J h=>(by rw[show v=(Value.slice (some ⟨g,0,none⟩) L.length cap)from h];exact(SF.row 5 (wts L)).st _ _ _ hl (s.up J))) iiz)<|oc (yJ (f:=fWt (L.getD i wz)) 5 kA (hz:=zEw _))<|zC) fun Q' hQ a w1 s=>zBD (UF.eq (.pointer (some ⟨g,i*5,none⟩))) rfl s kA (qQ (z:=5) (g:=g) (nn:=L.length) (cap:=cap) (i:=i) kA hi iiz iiz) kA fun a w s=>?_
 have J:=s.below
 replace I:=I.below J
 replace O:=O.trans J
 refine zAF (g:=g) (i:=i) (cap:=cap) (z:=5) (e:=86) (CU.agg (fWt (L.getD j wz))) rfl s rfl rfl I (by simpa using hi) kA (s.fct (.tmp 18)) (zOL (s.fct (.tmp 13))) (fun q hq=>by cases hq) fun w h0 h3 I s=>?_
 replace O:=O.comp h0
 refine zBD (UF.eq (.pointer (some ⟨g,j*5,none⟩))) rfl s kA (qQ (z:=5) (g:=g) (nn:=L.length) (cap:=cap) (i:=j) kA hj iiz iiz) kA fun a w s=>?_
 have J:=s.below
 replace I:=I.below J
 replace O:=O.trans J
 refine zAF (g:=g) (i:=j) (cap:=cap) (z:=5) (e:=86) (CU.agg (fWt (L.getD i wz))) rfl s rfl rfl I (by simpa using hj) kA (s.fct (.tmp 19)) (zOL (s.fct (.tmp 17))) (fun q hq=>by cases hq) fun w h0 h3 I s=>?_
 replace O:=O.comp h0
 refine zF rfl (hQ _ _ ?_)
 have J:=s.below
 replace I:=I.below J
 replace O:=O.trans J
 replace s:=s.anewB rfl rfl
 exact s.retN0 rfl ⟨_,rfl,trivial,by rw[<-zPt];exact I,O⟩
def fIW(x:Wt):UF:=.mk' (fun v w=>∃u,v=.iface 86 u/\(fWt x).p u w) fun _ _ _ ⟨u,e,h⟩ k=>⟨u,e,(fWt x).us _ _ _ h k⟩
theorem zMZ(L:List Wt)(x:Wt):wts (L++ [x])=wts L++ [CU.agg (fWt x)]:=by unfold wts;rw[pB];rfl
theorem zQm{cap:Nat}{x:Wt}(O:QM W b g cap L)(hx:(fIW x).p u W)(hn:L.length<=1000000):Calls prog 157 #[pO b 0,u] W (zMW (fun q=>q=b∨q=g) W UF.any fun W'=>∃g' cap',(g'=g∨W.heap.size<=g')/\QM W' b g' cap' (L++ [x])):=by
 have hF:BlS (fun q=>q=b∨q=g) W W:=BlS.refl _ _
 refine zB0 [UF.eq (pO b 0),fIW x] func157 rfl kA ⟨rfl,hx,trivial⟩ fun a s=>?_
 replace s:St W [(0,.u (UF.eq (pO b 0))),(1,.u (fIW x))] [] f157.ntmps [] a W:=s
 refine zB2 [0] [] 7 ((4,.u (UF.eq (pO b 0)))::(5,.Z (UF.eq (pO b 0)))::(6,.Z (UF.eq (pO b 0)))::(7,.u (UF.eq (.slice (some ⟨g,0,none⟩) L.length cap)))::(8,.Z (fIW x))::(9,.Z (fWt x))::(10,.s (SF.row 5 [CU.agg (fWt x)]))::[]) hmix s fnz kA
  (oc zA<|oc zA<|oc (zBx (a:=⟨b,0,none⟩) iiz)<|oc (zFG (b:=b) (v:=(.slice (some ⟨g,0,none⟩) L.length cap)) kA O.bx iiz)<|oc zA<|oc (zFH ⟨_,underlying86,fun _ e=>by cases e⟩ (fun v W h=>h))<|oc (zEW (fun u W (hu:(fWt x).p u W)=>zRp hu))<|zC) fun Q' hQ a w1 s hr hd=>?_
 have hb:=s.below
 replace O:=O.below hb
 replace hF:=hF.trans hb
 refine zFw (base:=0) (z:=5) (e:=86) (v:=(.slice (some ⟨g,0,none⟩) L.length cap)) [CU.agg (fWt x)] s (O.rw.toN (vS _) eN) (vS _) rfl kA kA rfl rfl (s.fct (.tmp 7)) (hr (_,_) mz6) (fun C hC=>by obtain rfl:=nY.1 hC;exact zSJ x) sB (fun q hq=>by cases hq) fun v' a w2 hN h1 h4 hO s=>?_
 obtain⟨g',cap',rfl,-,J⟩:=zDR hN eN
 have h5:g'=g∨g'=_:=hO.imp (fun e=>mE e) (fun e=>mE e)
 have I:=(h1.block b (xP.1 O.bx).1 (fun e=>O.ne (mE e).symm)).trans O.bx
 have h7:b≠g':=zX I J.at.choose_spec dA
 have h8:0<g':=by rcases h5 with e|e;(rw[e];exact O.gl);(rw[e];exact nG O.bl (xP.1 O.bx).1)
 have h9:g'=g∨W.heap.size<=g':=h5.imp_right fun e=>by rw[e];exact hF.size
 have hc:=O.bl
 replace hF:=hF.comp (h1.sub (S':=fun q=>q=b∨q=g) fun q hq=>.inr (mE hq).symm)
 clear O
 refine zBD (UF.eq (pO b 0)) rfl s kA (zBx (a:=⟨b,0,none⟩) iiz) kA fun a w s=>?_
 have hb:=s.below
 replace I:=(hb.block b (xP.1 I).1).trans I
 replace J:=J.below hb
 replace hF:=hF.trans hb
 refine zAF (g:=b) (i:=0) (cap:=1) (z:=1) (e:=108) (wC [(.slice (some ⟨g',0,none⟩) (wts L++ [CU.agg (fWt x)]).length cap')]) rfl s rfl rfl (zB1 I rfl) eN kA (s.fct (.tmp 12)) (by rw[show a.eval (.tmp 11)=(.slice (some ⟨g',0,none⟩) (wts L++ [CU.agg (fWt x)]).length cap')from s.fct (.tmp 11)];exact⟨rfl,fun u hu=>by obtain rfl:=nY.1 hu;rfl,rfl,rfl⟩) (fun q hq=>by cases hq) fun w h1 h4 h6 s=>?_
 replace I:=zCO h6
 replace J:=J.keep (h1.block g' J.lt (xY h7)) h4
 replace hF:=hF.comp (h1.sub (S':=fun q=>q=b∨q=g) fun q hq=>.inl hq)
 refine zF rfl (hQ _ _ ?_)
 have hb:=s.below
 replace I:=(hb.block b (xP.1 I).1).trans I
 replace J:=J.below hb
 replace hF:=hF.trans hb
 replace s:=s.anewB rfl rfl
 exact s.retN0 rfl ⟨_,rfl,trivial,⟨g',cap',h9,⟨by rw[I];simp,by rw[zMZ];exact J,hc,h8⟩⟩,hF⟩
theorem zMY(L:List Wt)(k:Nat):wts (L.take k)=(wts L).take k:=by unfold wts;rw[List.map_take]
theorem zRM{cap:Nat}(I:QM W b g cap L)(h0:0<L.length)(hn:L.length<=1000000):Calls prog 156 #[pO b 0] W (zMW (fun q=>q=b) W (fIW (L.getD (L.length-1) wz)) fun W'=>QM W' b g cap (L.take (L.length-1))):=by
 have O:BlS (fun q=>q=b) W W:=BlS.refl _ _
 have hl:=I.row
 have h9:L.length-1<L.length:=oA
 have h4:L.length-1<=cap:=by have:=I.rw.cap;simp at this;omega
 refine zB0 [UF.eq (pO b 0)] func156 rfl kA ⟨rfl,trivial⟩ fun a s=>?_
 replace s:St W [(0,.u (UF.eq (pO b 0)))] [] f156.ntmps [] a W:=s
 refine rgQ [] s
  (oc (zE (fun _ _ _ _=>trivial))<|zC) fun a w1 s=>?_
 have J:=s.below
 replace I:=I.below J
 replace hl:=(SF.row 5 (wts L)).st _ _ _ hl J
 replace O:=O.trans J
 replace s:=s.anewB rfl rfl
 refine rgQ ((5,.Z (UF.eq (pO b 0)))::(6,.Z (UF.eq (pO b 0)))::(7,.Z (UF.eq (.slice (some ⟨g,0,none⟩) L.length cap)))::(3,.u (UF.eq (.slice (some ⟨g,0,none⟩) L.length cap)))::[]) s
  (oc zA<|oc (zBx (a:=⟨b,0,none⟩) iiz)<|oc (zFG (b:=b) (v:=(.slice (some ⟨g,0,none⟩) L.length cap)) kA I.bx iiz)<|oc zE<|zC) fun a w2 s=>?_
 have J:=s.below
 replace I:=I.below J
 replace hl:=(SF.row 5 (wts L)).st _ _ _ hl J
 replace O:=O.trans J
 replace s:=s.anewB rfl rfl
 refine fK<|rgK 6 ((8,.Z (UF.eq (.slice (some ⟨g,0,none⟩) L.length cap)))::(9,.Z (UF.eq (.slice (some ⟨g,0,none⟩) L.length cap)))::(10,.Z (uI (L.length:Int)))::(11,.Z (uI ((L.length-1:Nat):Int)))::(12,.Y (fWt (L.getD (L.length-1) wz)))::(13,.u (fWt (L.getD (L.length-1) wz)))::[]) s
  (oc zA<|oc zA<|oc (zAd kA (fun v W h=>⟨_,_,_,h,rfl⟩))<|oc (zAR .i64 (L.length:Int) 1 ((L.length-1:Nat):Int) iiz iiz (wrap64 _ _ oA oA))<|oc (zL (z:=5) (Cs:=wts L) (i:=(L.length-1)) (C:=CU.agg (fWt (L.getD (L.length-1) wz))) kA (zEv h9) (fun v W J h=>(by rw[show v=(Value.slice (some ⟨g,0,none⟩) L.length cap)from h];exact(SF.row 5 (wts L)).st _ _ _ hl (s.up J))) iiz)<|oc (yJ (f:=fWt (L.getD (L.length-1) wz)) 5 kA (hz:=zEw _))<|zC) fun a w3 s=>yP (CU.len 5) (cs:=[.bool false,.slice none 0 0,.slice none 0 0,.int .i64 0,.int .i64 0]) kA rfl s kA (fun W=>rfl) rfl fun b4 a w s=>yI (fWt (L.getD (L.length-1) wz)) rfl s zFX fun a w s=>zF rfl ?_
 have J:=s.below
 replace I:=I.below J
 replace hl:=(SF.row 5 (wts L)).st _ _ _ hl J
 replace O:=O.trans J
 replace s:StS _ _ _ [⟨4,86,CU.agg (fWt (L.getD (L.length-1) wz)),b4,true⟩] _ _ _ _:=s.freeze
 replace s:=s.anewB rfl rfl
 refine fK<|rgK 7 ((14,.Z (UF.eq (pO b 0)))::(15,.Z (UF.eq (.slice (some ⟨g,0,none⟩) L.length cap)))::(16,.Z (UF.eq (.slice (some ⟨g,0,none⟩) L.length cap)))::(17,.Z (uI (L.length:Int)))::(18,.Z (uI ((L.length-1:Nat):Int)))::(19,.u (UF.eq (.slice (some ⟨g,0,none⟩) (L.length-1) cap)))::(20,.u (UF.eq (pO b 0)))::[]) s
  (oc zA<|oc zA<|oc zA<|oc (zAd kA (fun v W h=>⟨_,_,_,h,rfl⟩))<|oc (zAR .i64 (L.length:Int) 1 ((L.length-1:Nat):Int) iiz iiz (wrap64 _ _ oA oA))<|oc (zPc (g:=g) (n:=L.length) (c:=cap) (k:=L.length-1) (z:=5) kA h4 iiz iiz)<|oc (zBx (a:=⟨b,0,none⟩) iiz)<|zC) fun a w4 s=>?_
 have J:=s.below
 replace I:=I.below J
 replace hl:=(SF.row 5 (wts L)).st _ _ _ hl J
 replace O:=O.trans J
 obtain⟨cs4,h5,-,-⟩:=s.boxAt (c:=4) rfl
 have h2:=zX h5 I.bx (show(86:WE)≠108 from rY)
 refine zAF (g:=b) (i:=0) (cap:=1) (z:=1) (e:=108) (wC [(.slice (some ⟨g,0,none⟩) (L.length-1) cap)]) rfl s rfl rfl (zB1 I.bx rfl) eN kA (s.fct (.tmp 20)) (by rw[show a.eval (.tmp 19)=(.slice (some ⟨g,0,none⟩) (L.length-1) cap)from s.fct (.tmp 19)];exact⟨rfl,fun u hu=>by obtain rfl:=nY.1 hu;rfl,rfl,rfl⟩) (fun q hq=>by obtain rfl:=nY.1 hq;exact h2) fun w h3 ha h6 s=>?_
 have h8:=(I.rw.keep (h3.block g I.rw.lt I.ne.symm) ha).take (L.length-1)
 replace I:QM w b g cap (L.take (L.length-1)):=⟨by rw[zCO h6];simp,by rw[zMY];exact h8,I.bl,I.gl⟩
 replace O:=O.comp h3
 clear hl
 refine zF rfl ?_
 have J:=s.below
 replace I:=I.below J
 replace O:=O.trans J
 replace s:StS _ _ _ [⟨4,86,CU.agg (fWt (L.getD (L.length-1) wz)),b4,true⟩] _ _ _ _:=s.freeze
 replace s:=s.anewB rfl rfl
 refine rgQ ((21,.Z (fWt (L.getD (L.length-1) wz)))::(22,.Z (fIW (L.getD (L.length-1) wz)))::(2,.u (fIW (L.getD (L.length-1) wz)))::[]) s
  (oc (yJ (f:=fWt (L.getD (L.length-1) wz)) 5 kA (hz:=zEw _))<|oc (zJn ⟨_,underlying86,fun _ e=>by cases e⟩ (fun v W h=>⟨v,rfl,h⟩))<|oc zE<|zC) fun a w5 s=>?_
 have J:=s.below
 replace I:=I.below J
 replace O:=O.trans J
 replace s:StS _ _ _ [⟨4,86,CU.agg (fWt (L.getD (L.length-1) wz)),b4,true⟩] _ _ _ _:=s.freeze
 replace s:=s.anewB rfl rfl
 exact nR<|s.retT1 rfl (.head _) fun v hv=>⟨v,rfl,hv,I,O⟩
theorem zRW:zDj prog 106 "Less" =some (155,false,108):=by kernel_rfl
theorem zRU:zDj prog 106 "Swap" =some (158,false,108):=by kernel_rfl
theorem zS8:zDj prog 106 "Len" =some (66,false,108):=by kernel_rfl
theorem zRV:zDj prog 106 "Push" =some (157,true,108):=by kernel_rfl
theorem zS7:zDj prog 106 "Pop" =some (156,true,108):=by kernel_rfl
section
variable {S:Nat->Prop}{F:Fence}{m:Nat}{Q:Exit->Act->WB->Prop}{w0:WB}{K:List (Nat×KF)}{B:List Bx}{n:Nat}{a:Act}{w:WB}{ops:Array Oper}{G:Nat->SF}{d:Tmp}{ty:WE}{pos:String}{aft:Array Edge}{b g cap:Nat}{L:List Wt}
theorem zEo(hF:zHT F m prog)(hM:QM w0 b g cap L)(O:i<L.length)(hj:j<L.length)(hL:∀x,x∈L->QB x.c 1)(hT:Tab w0)(hr:∀v W,(fct G r).p v W->v=qI b)(hx:∀v W,(fct G x).p v W->v=.int .i64 (i:Int))(hy:∀v W,(fct G y).p v W->v=.int .i64 (j:Int))(hd:∀W,(G d).p (.bool (Wt.lt (L.getD i wz) (L.getD j wz))) W:=by exact fun _=>rfl):qR F m prog w0 ops G ⟨some d,.call ⟨.invoke r "Less",#[x,y],ats⟩,ty,pos,aft,none⟩:=
 zPe hF (enters_of func155 kA rfl) fun a W hb J=>by
  have e1:=hr _ _ (J r (.head _))
  have e2:=hx _ _ (J x eN)
  have e3:=hy _ _ (J y eN)
  have I:=hM.below hb
  have gq:∀k,k<L.length->QB (L.getD k wz).c 1:=fun k hk=>hL _ (by rw[nX,mD hk];exact uO hk)
  refine⟨_,_,.slice (some ⟨g,0,none⟩) L.length cap,e1,zEJ zRW I.ld,?_⟩
  have e4:(#[Value.slice (some ⟨g,0,none⟩) L.length cap]++#[x,y].map a.eval)=#[Value.slice (some ⟨g,0,none⟩) L.length cap,a.eval x,a.eval y]:=by rw[cE];simp
  rw[e4]
  exact(zQo I.row e2 e3 O hj (gq i O) (gq j hj) (hT.below hb)).mono (wF fun v W h=>by rw[show v=_ from h];exact hd W)
theorem zLF(hF:zHT F m prog)(hM:QM w0 b g cap L)(hr:∀v W,(fct G r).p v W->v=qI b)(hd:∀W,(G d).p (.int .i64 (L.length:Int)) W:=by exact fun _=>rfl):qR F m prog w0 ops G ⟨some d,.call ⟨.invoke r "Len",#[],ats⟩,ty,pos,aft,none⟩:=
 zPe hF (enters_of func66 kA rfl) fun a W hb hh=>by
  have J:=hr _ _ (hh r (.head _))
  have I:=hM.below hb
  refine⟨_,_,.slice (some ⟨g,0,none⟩) L.length cap,J,zEJ zS8 I.ld,?_⟩
  have O:(#[Value.slice (some ⟨g,0,none⟩) L.length cap]++(#[]:Array WK).map a.eval)=#[Value.slice (some ⟨g,0,none⟩) L.length cap]:=by rw[cE];simp
  rw[O]
  exact(zPa I.row).mono (wF fun v W h=>by rw[show v=_ from h];exact hd W)
theorem zF1{k:Nat}(hF:zHT F m prog)(h:StS S w0 K B n [] a w)(I:QM w b g cap L)(hi:i<L.length)(hj:j<L.length)(ho:ops[k]?=some ⟨some d,.call ⟨.invoke r "Swap",#[x,y],ats⟩,ty,pos,aft,none⟩)(hr:a.eval r=qI b)(hx:a.eval x=.int .i64 (i:Int))(hy:a.eval y=.int .i64 (j:Int))
  (hf:zAw K B n d=true)(hu:(K.all fun q=>zKz q.2)=true)(J:(B.all fun x=>x.r)=true)(hB:∀q,q∈B-> ¬q.b=g)
  (fin:∀a' w',QM w' b g cap (zCQ wz L i j)->BlS (fun q=>q=g) w w'->St w' ((d,.u UF.any)::K) B n [] a' w'->zBj F m prog ops Q (k+1) a' w'):zBj F m prog ops Q k a w:=
 zKS (T:=fun q=>q=g) (args:=#[.int .i64 (i:Int),.int .i64 (j:Int)]) hF (enters_of func158 kA rfl) h ho hr (zEJ zRU I.ld) hf hu J (fun q hq=>by rw[hq];exact I.rw.plain) hB (by rw[cE];simp[hx,hy]) (zQh I.rw rfl rfl hi hj) fun a' w' hR O _ s=>fin a' w' (I.turn O (qU _ _ _) hR) O s
end
theorem zAE(z:Int)(h: -9223372036854775808<=z)(h':z<=9223372036854775807):IntKind.i64.wrap z=z:=by rw[pQ];omega
theorem zQr(j:Nat)(h:j<=1000000000):IntKind.i64.wrap (((j:Int)-1).tdiv 2)=(((j-1)/2:Nat):Int):=by
 have e:((j:Int)-1).tdiv 2=(((j-1)/2:Nat):Int):=by
  rcases uJ j with rfl|hj
  .rfl
  .rw[show(j:Int)-1=((j-1:Nat):Int)from oA,pP oA]
   omega
 rw[e]
 exact zAE _ oA oA
theorem zPC(h:((((j-1)/2:Nat):Int)==(j:Int))=bq)(e:(bq|| !(Wt.lt (l.getD j wz) (l.getD ((j-1)/2) wz)))=true):upH wz Wt.lt j l=l:=by
 rw[upH]
 by_cases h0:j=0
 .rw[if_pos h0]
 .rw[if_neg h0]
  have:bq=false:=by rw[<-h];exact mF.2 oA
  rw[this,cM]at e
  rw[if_neg (by simpa using e)]
theorem zSO(I:((((j-1)/2:Nat):Int)==(j:Int))=bq)(e:(bq|| !(Wt.lt (l.getD j wz) (l.getD ((j-1)/2) wz)))=false):upH wz Wt.lt ((j-1)/2) (zCQ wz l ((j-1)/2) j)=upH wz Wt.lt j l:=by
 rw[bL]at e
 have J:j≠0:=fun h=>by
  subst h
  rw[<-I]at e
  exact absurd e.1 dA
 conv=>rhs;rw[upH]
 rw[if_neg J,if_pos (by simpa using e.2)]
theorem zTc{cap:Nat}(J:QM W b g cap L)(hu:u=qI b)(hv:v=.int .i64 (j:Int))(hj:j<L.length)(hn:L.length<=100000)(hL:∀x,x∈L->QB x.c 1)(O:Tab W):Calls prog 85 #[u,v] W (zMW (fun q=>q=g) W UF.any fun W'=>QM W' b g cap (upH wz Wt.lt j L)):=by
 have hF:BlS (fun q=>q=g) W W:=BlS.refl _ _
 refine zB0 [UF.eq (qI b),uI (j:Int)] func85 rfl kA ⟨hu,hv,trivial⟩ fun a s=>?_
 replace s:St W [(0,.u (UF.eq (qI b))),(1,.u (uI (j:Int)))] [] f85.ntmps [] a W:=s
 refine rF<|yC (fun(x:Nat×List Wt) a w=>x.1<x.2.length/\x.2.length=L.length/\(∀y,y∈x.2->QB y.c 1)/\upH wz Wt.lt x.1 x.2=upH wz Wt.lt j L/\QM w b g cap x.2/\Tab w/\BlS (fun q=>q=g) W w/\St w [(0,.u (UF.eq (qI b))),(1,.u (uI (x.1:Int)))] [] f85.ntmps [] a w) (fun x=>x.1) (j,L) ⟨hj,rfl,hL,rfl,J,O,hF,s⟩ fun x a w hx=>?_
 obtain⟨hj,hl,hL,he,J,O,hF,s⟩:=hx
 have hp:((x.1-1)/2)<x.2.length:=oA
 refine rF<|rgQ ((5,.Z (uI (x.1:Int)))::(6,.Z (uI ((x.1:Int)-1)))::(7,.Z (uI ((((x.1-1)/2):Nat):Int)))::(4,.u (uI ((((x.1-1)/2):Nat):Int)))::[]) s
  (oc zA<|oc (zAR .i64 (x.1:Int) 1 ((x.1:Int)-1) iiz iiz (zAE _ oA oA))<|oc (zIm .i64 ((x.1:Int)-1) 2 ((((x.1-1)/2):Nat):Int) iiz iiz dA (zQr _ oA))<|oc zE<|zC) fun a w1 s=>?_
 have I:=s.below
 replace J:=J.below I
 replace O:=O.below I
 replace hF:=hF.trans I
 replace s:=s.anewB rfl rfl
 refine fK<|fK ?_
 obtain⟨bq,hbq⟩:∃bq:Bool,(((((x.1-1)/2):Nat):Int)==(x.1:Int))=bq:=⟨_,rfl⟩
 refine rgE ((8,.Z (uI ((((x.1-1)/2):Nat):Int)))::(9,.Z (uI (x.1:Int)))::(10,.Z (uB bq))::(11,.Z (uB bq))::(12,.s (SF.imp ((bq)=false) ((UF.eq (qI b)).tS)))::(13,.s (SF.imp ((bq)=false) ((uI (x.1:Int)).tS)))::(14,.s (SF.imp ((bq)=false) ((uI ((((x.1-1)/2):Nat):Int)).tS)))::(15,.s (SF.imp ((bq)=false) ((uB (Wt.lt (x.2.getD (x.1) wz) (x.2.getD ((x.1-1)/2) wz))).tS)))::(16,.s (SF.imp ((bq)=false) ((uB (!(Wt.lt (x.2.getD (x.1) wz) (x.2.getD ((x.1-1)/2) wz)))).tS)))::(17,.u (uB (bq||(!(Wt.lt (x.2.getD (x.1) wz) (x.2.getD ((x.1-1)/2) wz))))))::[]) s
  (oc zA<|oc zA<|oc (zJ .i64 ((((x.1-1)/2):Nat):Int) (x.1:Int) bq iiz iiz hbq rfl)<|oc zA<|oc (zB 11 bq kA iiz (fun e=>zI [] ((UF.eq (qI b)).tS) fnz (fun _ _ h _=>h) kA zA) (fun e W h=>absurd h e))<|oc (zB 11 bq kA iiz (fun e=>zI [] ((uI (x.1:Int)).tS) fnz (fun _ _ h _=>h) kA zA) (fun e W h=>absurd h e))<|oc (zB 11 bq kA iiz (fun e=>zI [] ((uI ((((x.1-1)/2):Nat):Int)).tS) fnz (fun _ _ h _=>h) kA zA) (fun e W h=>absurd h e))<|oc (zB 11 bq kA iiz (fun e=>zI [(12,(UF.eq (qI b)).tS),(13,(uI (x.1:Int)).tS),(14,(uI ((((x.1-1)/2):Nat):Int)).tS)] ((uB (Wt.lt (x.2.getD (x.1) wz) (x.2.getD ((x.1-1)/2) wz))).tS) (sH (fun v W h=>zG (c:=(bq)=false) (f:=(UF.eq (qI b)).tS) e h)<|sH (fun v W h=>zG (c:=(bq)=false) (f:=(uI (x.1:Int)).tS) e h)<|sH (fun v W h=>zG (c:=(bq)=false) (f:=(uI ((((x.1-1)/2):Nat):Int)).tS) e h) fnz) (fun _ _ h _=>h) kA (zEo (i:=x.1) (j:=((x.1-1)/2)) zD J hj hp hL O iiz iiz iiz)) (fun e W h=>absurd h e))<|oc (zB 11 bq kA iiz (fun e=>zI [(15,(uB (Wt.lt (x.2.getD (x.1) wz) (x.2.getD ((x.1-1)/2) wz))).tS)] ((uB (!(Wt.lt (x.2.getD (x.1) wz) (x.2.getD ((x.1-1)/2) wz)))).tS) (sH (fun v W h=>zG (c:=(bq)=false) (f:=(uB (Wt.lt (x.2.getD (x.1) wz) (x.2.getD ((x.1-1)/2) wz))).tS) e h) fnz) (fun _ _ h _=>h) kA (zAv (Wt.lt (x.2.getD (x.1) wz) (x.2.getD ((x.1-1)/2) wz)) iiz (fun _=>rfl))) (fun e W h=>absurd h e))<|oc (zT bq iiz (fun e v W h=>qH h e) (fun e v W h=>yX (zG e h) e))<|zC) fun a w2 s=>?_
 have I:=s.below
 replace J:=J.below I
 replace O:=O.below I
 replace hF:=hF.trans I
 replace s:=s.anewB rfl rfl
 refine StS.cond s (bq||(!(Wt.lt (x.2.getD (x.1) wz) (x.2.getD ((x.1-1)/2) wz)))) iiz (fun e=>?_) (fun e=>?_)
 .refine rG ?_
  exact s.retN0 rfl ⟨_,rfl,trivial,by rw[<-he,zPC hbq e];exact J,hF⟩
 .refine nQ ?_
  refine fK<|rgK 3 ((18,.u (UF.eq (qI b)))::(19,.u (uI ((((x.1-1)/2):Nat):Int)))::(20,.u (uI (x.1:Int)))::[]) s
   (oc zA<|oc zA<|oc zA<|zC) fun a w3 s=>?_
  have I:=s.below
  replace J:=J.below I
  replace O:=O.below I
  replace hF:=hF.trans I
  refine zF1 (i:=((x.1-1)/2)) (j:=x.1) zD s J hp hj rfl (s.fct (.tmp 18)) (s.fct (.tmp 19)) (s.fct (.tmp 20)) kA rfl rfl (fun q hq=>by cases hq) fun a w h3 h1 s=>?_
  replace O:=zBY O h1 (fun e=>rK _ (by have:=J.gl;rw[<-e]at this;exact this))
  replace J:=h3
  replace hF:=hF.comp h1
  refine zF rfl ?_
  have I:=s.below
  replace J:=J.below I
  replace O:=O.below I
  replace hF:=hF.trans I
  replace s:=s.anewB rfl rfl
  replace s:=s.drop [1]
  refine rgE ((22,.Z (uI ((((x.1-1)/2):Nat):Int)))::(1,.u (uI ((((x.1-1)/2):Nat):Int)))::[]) s
   (oc zA<|oc zE<|zC) fun a w4 s=>?_
  have I:=s.below
  replace J:=J.below I
  replace O:=O.below I
  replace hF:=hF.trans I
  replace s:=s.anewB rfl rfl
  exact⟨(((x.1-1)/2),zCQ wz x.2 ((x.1-1)/2) x.1),(by show((x.1-1)/2)<x.1;have:=(bL.1 e).1;rw[<-hbq]at this;have h6:=mF.1 this;omega),(by show((x.1-1)/2)<_;rw[qU];exact hp),(by show(zCQ wz x.2 _ _).length=_;rw[qU];exact hl),(fun y hy=>hL y ((zBt hp hj).mem_iff.1 hy)),(by rw[<-he];exact zSO hbq e),J,O,hF,s.keepK _ (sH mz7<|sH (.head _) fnz)⟩
theorem zOv{b1:Bool}(h:decide (((2*i+1:Nat):Int)≥(n:Int))=b1)(e:(b1||false)=true):zA4 wz Wt.lt i n l=l:=by
 have:b1=true:=by simpa using e
 rw[this]at h
 have:=xW h
 rw[zA4,if_neg oA]
theorem zQ2{b1:Bool}(h:decide (((2*i+1:Nat):Int)≥(n:Int))=b1)(e:(b1||false)=false):2*i+1<n:=by
 have:b1=false:=by simpa using e
 rw[this]at h
 have:=mB h
 omega
theorem zTa(e:(decide (((2*i+2:Nat):Int)<(n:Int))&&Wt.lt (l.getD (2*i+2) wz) (l.getD (2*i+1) wz))=true):kid wz Wt.lt l i n=2*i+2:=by
 rw[xU]at e
 have:=xW e.1
 unfold kid
 rw[if_pos ⟨oA,e.2⟩]
theorem zTb(e:(decide (((2*i+2:Nat):Int)<(n:Int))&&Wt.lt (l.getD (2*i+2) wz) (l.getD (2*i+1) wz))=false):kid wz Wt.lt l i n=2*i+1:=by
 unfold kid
 rw[if_neg]
 rintro⟨h1,h⟩
 rw[h,Bool.and_true,rH]at e
 omega
theorem zHN(h:kid wz Wt.lt l i n=c)(e:(!(Wt.lt (l.getD c wz) (l.getD i wz)))=true):zA4 wz Wt.lt i n l=l:=by
 rw[zA4,h]
 split
 .rw[if_neg (by simpa using e)]
 .rfl
theorem zMv(h:2*i+1<n)(I:kid wz Wt.lt l i n=c)(e:(!(Wt.lt (l.getD c wz) (l.getD i wz)))=false):zA4 wz Wt.lt c n (zCQ wz l i c)=zA4 wz Wt.lt i n l:=by
 conv=>rhs;rw[zA4,I]
 rw[if_pos h,if_pos (by simpa using e)]
theorem BlS.ext{u v:WB}{J:Nat}(h:BlS S u v)(k:BlS (fun q=>q=J) v w)(O:S J∨u.heap.size<=J):BlS S u w:=
 ((h.sub (S':=fun q=>S q∨u.heap.size<=q) fun q I=>.inl I).comp (k.sub fun q I=>by rw[I];exact O)).shrink fun q I=>I
theorem zQQ{cap:Nat}{i0:Nat}(J:QM W b g cap L)(hu:u=qI b)(hv:v=.int .i64 (i0:Int))(hc:v'=.int .i64 (n:Int))(hd:i0<L.length)(hnl:n<=L.length)(hn:L.length<=100000)(hL:∀x,x∈L->QB x.c 1)(O:Tab W):Calls prog 84 #[u,v,v'] W (zMW (fun q=>q=g) W UF.any fun W'=>QM W' b g cap (zA4 wz Wt.lt i0 n L)):=by
 have hF:BlS (fun q=>q=g) W W:=BlS.refl _ _
 refine zB0 [UF.eq (qI b),uI (i0:Int),uI (n:Int)] func84 rfl kA ⟨hu,hv,hc,trivial⟩ fun a s=>?_
 replace s:St W [(0,.u (UF.eq (qI b))),(1,.u (uI (i0:Int))),(2,.u (uI (n:Int)))] [] f84.ntmps [] a W:=s
 refine rgQ ((6,.u (uB false))::[]) s
  (oc zE<|zC) fun a w1 s=>?_
 have I:=s.below
 replace J:=J.below I
 replace O:=O.below I
 replace hF:=hF.trans I
 replace s:=s.anewB rfl rfl
 refine rgQ ((11,.Z (uI (i0:Int)))::(7,.u (uI (i0:Int)))::[]) s
  (oc zA<|oc zE<|zC) fun a w2 s=>?_
 have I:=s.below
 replace J:=J.below I
 replace O:=O.below I
 replace hF:=hF.trans I
 replace s:=s.anewB rfl rfl
 refine fK<|rF<|yC (fun(x:Nat×List Wt) a w=>x.1<x.2.length/\x.2.length=L.length/\(∀y,y∈x.2->QB y.c 1)/\zA4 wz Wt.lt x.1 n x.2=zA4 wz Wt.lt i0 n L/\QM w b g cap x.2/\Tab w/\BlS (fun q=>q=g) W w/\St w [(0,.u (UF.eq (qI b))),(1,.u (uI (i0:Int))),(2,.u (uI (n:Int))),(7,.u (uI (x.1:Int)))] [] f84.ntmps [] a w) (fun x=>n-x.1) (i0,L) ⟨hd,rfl,hL,rfl,J,O,hF,s.keepK _ (sH mz2<|sH mz3<|sH mz4<|sH (.head _) fnz)⟩ fun x a w hx=>?_
 obtain⟨hj,hl,hL,he,J,O,hF,s⟩:=hx
 refine rF<|rgQ ((12,.Z (uI (x.1:Int)))::(13,.Z (uI ((2*x.1:Nat):Int)))::(14,.Z (uI ((2*x.1+1:Nat):Int)))::(8,.u (uI ((2*x.1+1:Nat):Int)))::[]) s
  (oc zA<|oc (zQs .i64 2 (x.1:Int) ((2*x.1:Nat):Int) iiz iiz (by first|exact zAE _ oA oA|(rw[zAE _ oA oA];omega)))<|oc (yL .i64 ((2*x.1:Nat):Int) 1 ((2*x.1+1:Nat):Int) iiz iiz (by first|exact zAE _ oA oA|(rw[zAE _ oA oA];omega)))<|oc zE<|zC) fun a w3 s=>?_
 have I:=s.below
 replace J:=J.below I
 replace O:=O.below I
 replace hF:=hF.trans I
 replace s:=s.anewB rfl rfl
 refine fK<|fK ?_
 obtain⟨b1,hb1⟩:∃b1:Bool,decide (((2*x.1+1:Nat):Int)≥(n:Int))=b1:=⟨_,rfl⟩
 refine rgE ((15,.Z (uI ((2*x.1+1:Nat):Int)))::(16,.Z (uI (n:Int)))::(17,.Z (uB b1))::(18,.Z (uB b1))::(19,.s (SF.imp ((b1)=false) ((uI ((2*x.1+1:Nat):Int)).tS)))::(20,.s (SF.imp ((b1)=false) ((uB false).tS)))::(21,.u (uB (b1||false)))::[]) s
  (oc zA<|oc zA<|oc (zJ .i64 ((2*x.1+1:Nat):Int) (n:Int) b1 iiz iiz hb1 rfl)<|oc zA<|oc (zB 18 b1 kA iiz (fun e=>zI [] ((uI ((2*x.1+1:Nat):Int)).tS) fnz (fun _ _ h _=>h) kA zA) (fun e W h=>absurd h e))<|oc (zB 18 b1 kA iiz (fun e=>zI [(19,(uI ((2*x.1+1:Nat):Int)).tS)] ((uB false).tS) (sH (fun v W h=>zG (c:=(b1)=false) (f:=(uI ((2*x.1+1:Nat):Int)).tS) e h) fnz) (fun _ _ h _=>h) kA (zJ .i64 ((2*x.1+1:Nat):Int) 0 false iiz iiz (bD oA) rfl)) (fun e W h=>absurd h e))<|oc (zT b1 iiz (fun e v W h=>qH h e) (fun e v W h=>yX (zG e h) e))<|zC) fun a w4 s=>?_
 have I:=s.below
 replace J:=J.below I
 replace O:=O.below I
 replace hF:=hF.trans I
 replace s:=s.anewB rfl rfl
 refine StS.cond s (b1||false) iiz (fun e=>?_) (fun e=>?_)
 .refine rG ?_
  refine rgQ ((45,.Z (uI (x.1:Int)))::(46,.Z (uI (i0:Int)))::(47,.Z (uB (decide ((x.1:Int)>(i0:Int)))))::(6,.u (uB (decide ((x.1:Int)>(i0:Int)))))::[]) s
   (oc zA<|oc zA<|oc (zJ .i64 (x.1:Int) (i0:Int) (decide ((x.1:Int)>(i0:Int))) iiz iiz rfl rfl)<|oc zE<|zC) fun a w5 s=>?_
  have I:=s.below
  replace J:=J.below I
  replace O:=O.below I
  replace hF:=hF.trans I
  replace s:=s.anewB rfl rfl
  exact nR<|s.retT1 rfl (.head _) fun v hv=>⟨v,rfl,trivial,by rw[<-he,zOv hb1 e];exact J,hF⟩
 .have h6:=zQ2 hb1 e
  refine nQ<|rgQ ((22,.Z (uI ((2*x.1+1:Nat):Int)))::(9,.u (uI ((2*x.1+1:Nat):Int)))::[]) s
   (oc zA<|oc zE<|zC) fun a w6 s=>?_
  have I:=s.below
  replace J:=J.below I
  replace O:=O.below I
  replace hF:=hF.trans I
  replace s:=s.anewB rfl rfl
  refine fK<|rgQ ((23,.Z (uI ((2*x.1+1:Nat):Int)))::(24,.Z (uI ((2*x.1+2:Nat):Int)))::(10,.u (uI ((2*x.1+2:Nat):Int)))::[]) s
   (oc zA<|oc (yL .i64 ((2*x.1+1:Nat):Int) 1 ((2*x.1+2:Nat):Int) iiz iiz (by first|exact zAE _ oA oA|(rw[zAE _ oA oA];omega)))<|oc zE<|zC) fun a w7 s=>?_
  have I:=s.below
  replace J:=J.below I
  replace O:=O.below I
  replace hF:=hF.trans I
  replace s:=s.anewB rfl rfl
  refine rgQ ((25,.Z (uI ((2*x.1+2:Nat):Int)))::(26,.Z (uI (n:Int)))::(27,.Z (uB (decide (((2*x.1+2:Nat):Int)<(n:Int)))))::(28,.Z (uB (decide (((2*x.1+2:Nat):Int)<(n:Int)))))::(29,.s (SF.imp ((decide (((2*x.1+2:Nat):Int)<(n:Int)))=true) ((UF.eq (qI b)).tS)))::(30,.s (SF.imp ((decide (((2*x.1+2:Nat):Int)<(n:Int)))=true) ((uI ((2*x.1+2:Nat):Int)).tS)))::(31,.s (SF.imp ((decide (((2*x.1+2:Nat):Int)<(n:Int)))=true) ((uI ((2*x.1+1:Nat):Int)).tS)))::(32,.s (SF.imp ((decide (((2*x.1+2:Nat):Int)<(n:Int)))=true) ((uB (Wt.lt (x.2.getD (2*x.1+2) wz) (x.2.getD (2*x.1+1) wz))).tS)))::(33,.u (uB ((decide (((2*x.1+2:Nat):Int)<(n:Int)))&&(Wt.lt (x.2.getD (2*x.1+2) wz) (x.2.getD (2*x.1+1) wz)))))::[]) s
   (oc zA<|oc zA<|oc (zJ .i64 ((2*x.1+2:Nat):Int) (n:Int) (decide (((2*x.1+2:Nat):Int)<(n:Int))) iiz iiz rfl rfl)<|oc zA<|oc (zB 28 (decide (((2*x.1+2:Nat):Int)<(n:Int))) kA iiz (fun e=>zI [] ((UF.eq (qI b)).tS) fnz (fun _ _ h _=>h) kA zA) (fun e W h=>absurd h e))<|oc (zB 28 (decide (((2*x.1+2:Nat):Int)<(n:Int))) kA iiz (fun e=>zI [] ((uI ((2*x.1+2:Nat):Int)).tS) fnz (fun _ _ h _=>h) kA zA) (fun e W h=>absurd h e))<|oc (zB 28 (decide (((2*x.1+2:Nat):Int)<(n:Int))) kA iiz (fun e=>zI [] ((uI ((2*x.1+1:Nat):Int)).tS) fnz (fun _ _ h _=>h) kA zA) (fun e W h=>absurd h e))<|oc (zB 28 (decide (((2*x.1+2:Nat):Int)<(n:Int))) kA iiz (fun e=>zI [(29,(UF.eq (qI b)).tS),(30,(uI ((2*x.1+2:Nat):Int)).tS),(31,(uI ((2*x.1+1:Nat):Int)).tS)] ((uB (Wt.lt (x.2.getD (2*x.1+2) wz) (x.2.getD (2*x.1+1) wz))).tS) (sH (fun v W h=>zG (c:=(decide (((2*x.1+2:Nat):Int)<(n:Int)))=true) (f:=(UF.eq (qI b)).tS) e h)<|sH (fun v W h=>zG (c:=(decide (((2*x.1+2:Nat):Int)<(n:Int)))=true) (f:=(uI ((2*x.1+2:Nat):Int)).tS) e h)<|sH (fun v W h=>zG (c:=(decide (((2*x.1+2:Nat):Int)<(n:Int)))=true) (f:=(uI ((2*x.1+1:Nat):Int)).tS) e h) fnz) (fun _ _ h _=>h) kA (zEo (i:=2*x.1+2) (j:=2*x.1+1) zD J (by have:=xW e;omega) oA hL O iiz iiz iiz)) (fun e W h=>absurd h e))<|oc (zT (decide (((2*x.1+2:Nat):Int)<(n:Int))) iiz (fun e v W h=>zBH (zG e h) e) (fun e v W h=>zBc h e))<|zC) fun a w8 s=>?_
  have I:=s.below
  replace J:=J.below I
  replace O:=O.below I
  replace hF:=hF.trans I
  replace s:=s.anewB rfl rfl
  refine StS.cond s ((decide (((2*x.1+2:Nat):Int)<(n:Int)))&&(Wt.lt (x.2.getD (2*x.1+2) wz) (x.2.getD (2*x.1+1) wz))) iiz (fun e=>?_) (fun e=>?_)
  .have h3:=zTa e
   have hh:2*x.1+2<n:=by rw[xU]at e;have:=xW e.1;omega
   replace s:=s.drop [9]
   refine rgE ((34,.Z (uI ((2*x.1+2:Nat):Int)))::(9,.u (uI ((2*x.1+2:Nat):Int)))::[]) s
    (oc zA<|oc zE<|zC) fun a w9 s=>?_
   have I:=s.below
   replace J:=J.below I
   replace O:=O.below I
   replace hF:=hF.trans I
   replace s:=s.anewB rfl rfl
   refine fK<|rgQ ((35,.Z (UF.eq (qI b)))::(36,.Z (uI ((2*x.1+2:Nat):Int)))::(37,.Z (uI (x.1:Int)))::(38,.Z (uB (Wt.lt (x.2.getD (2*x.1+2) wz) (x.2.getD (x.1) wz))))::(39,.u (uB (!(Wt.lt (x.2.getD (2*x.1+2) wz) (x.2.getD (x.1) wz)))))::[]) s
    (oc zA<|oc zA<|oc zA<|oc (zEo (i:=2*x.1+2) (j:=x.1) zD J oA oA hL O iiz iiz iiz)<|oc (zAv (Wt.lt (x.2.getD (2*x.1+2) wz) (x.2.getD (x.1) wz)) iiz (fun _=>rfl))<|zC) fun a w10 s=>?_
   have I:=s.below
   replace J:=J.below I
   replace O:=O.below I
   replace hF:=hF.trans I
   replace s:=s.anewB rfl rfl
   refine StS.cond s (!(Wt.lt (x.2.getD (2*x.1+2) wz) (x.2.getD (x.1) wz))) iiz (fun e=>?_) (fun e=>?_)
   .have h2:=e
    refine rG<|rgQ ((45,.Z (uI (x.1:Int)))::(46,.Z (uI (i0:Int)))::(47,.Z (uB (decide ((x.1:Int)>(i0:Int)))))::(6,.u (uB (decide ((x.1:Int)>(i0:Int)))))::[]) s
     (oc zA<|oc zA<|oc (zJ .i64 (x.1:Int) (i0:Int) (decide ((x.1:Int)>(i0:Int))) iiz iiz rfl rfl)<|oc zE<|zC) fun a w11 s=>?_
    have I:=s.below
    replace J:=J.below I
    replace O:=O.below I
    replace hF:=hF.trans I
    replace s:=s.anewB rfl rfl
    exact nR<|s.retT1 rfl (.head _) fun v hv=>⟨v,rfl,trivial,by rw[<-he,zHN h3 h2];exact J,hF⟩
   .have h2:=e
    refine nQ<|fK<|rgK 3 ((40,.u (UF.eq (qI b)))::(41,.u (uI (x.1:Int)))::(42,.u (uI ((2*x.1+2:Nat):Int)))::[]) s
     (oc zA<|oc zA<|oc zA<|zC) fun a w12 s=>?_
    have I:=s.below
    replace J:=J.below I
    replace O:=O.below I
    replace hF:=hF.trans I
    refine zF1 (i:=x.1) (j:=2*x.1+2) zD s J oA oA rfl (s.fct (.tmp 40)) (s.fct (.tmp 41)) (s.fct (.tmp 42)) kA rfl rfl (fun q hq=>by cases hq) fun a w h7 h4 s=>?_
    replace O:=zBY O h4 (fun e=>rK _ (by have:=J.gl;rw[<-e]at this;exact this))
    replace J:=h7
    replace hF:=hF.comp h4
    refine zF rfl ?_
    have I:=s.below
    replace J:=J.below I
    replace O:=O.below I
    replace hF:=hF.trans I
    replace s:=s.anewB rfl rfl
    replace s:=s.drop [7]
    refine rgE ((44,.Z (uI ((2*x.1+2:Nat):Int)))::(7,.u (uI ((2*x.1+2:Nat):Int)))::[]) s
     (oc zA<|oc zE<|zC) fun a w13 s=>?_
    have I:=s.below
    replace J:=J.below I
    replace O:=O.below I
    replace hF:=hF.trans I
    replace s:=s.anewB rfl rfl
    exact⟨(2*x.1+2,zCQ wz x.2 x.1 (2*x.1+2)),(by show n-(2*x.1+2)<n-x.1;omega),(by show 2*x.1+2<_;rw[qU];omega),(by show(zCQ wz x.2 _ _).length=_;rw[qU];exact hl),(fun y hy=>hL y ((zBt oA oA).mem_iff.1 hy)),(by rw[<-he];exact zMv h6 h3 h2),J,O,hF,s.keepK _ (sH zDW<|sH zFl<|sH zGN<|sH (.head _) fnz)⟩
  .have h3:=zTb e
   have hh:2*x.1+1<n:=h6
   refine nQ<|fK<|rgQ ((35,.Z (UF.eq (qI b)))::(36,.Z (uI ((2*x.1+1:Nat):Int)))::(37,.Z (uI (x.1:Int)))::(38,.Z (uB (Wt.lt (x.2.getD (2*x.1+1) wz) (x.2.getD (x.1) wz))))::(39,.u (uB (!(Wt.lt (x.2.getD (2*x.1+1) wz) (x.2.getD (x.1) wz)))))::[]) s
    (oc zA<|oc zA<|oc zA<|oc (zEo (i:=2*x.1+1) (j:=x.1) zD J oA oA hL O iiz iiz iiz)<|oc (zAv (Wt.lt (x.2.getD (2*x.1+1) wz) (x.2.getD (x.1) wz)) iiz (fun _=>rfl))<|zC) fun a w14 s=>?_
   have I:=s.below
   replace J:=J.below I
   replace O:=O.below I
   replace hF:=hF.trans I
   replace s:=s.anewB rfl rfl
   refine StS.cond s (!(Wt.lt (x.2.getD (2*x.1+1) wz) (x.2.getD (x.1) wz))) iiz (fun e=>?_) (fun e=>?_)
   .have h2:=e
    refine rG<|rgQ ((45,.Z (uI (x.1:Int)))::(46,.Z (uI (i0:Int)))::(47,.Z (uB (decide ((x.1:Int)>(i0:Int)))))::(6,.u (uB (decide ((x.1:Int)>(i0:Int)))))::[]) s
     (oc zA<|oc zA<|oc (zJ .i64 (x.1:Int) (i0:Int) (decide ((x.1:Int)>(i0:Int))) iiz iiz rfl rfl)<|oc zE<|zC) fun a w15 s=>?_
    have I:=s.below
    replace J:=J.below I
    replace O:=O.below I
    replace hF:=hF.trans I
    replace s:=s.anewB rfl rfl
    exact nR<|s.retT1 rfl (.head _) fun v hv=>⟨v,rfl,trivial,by rw[<-he,zHN h3 h2];exact J,hF⟩
   .have h2:=e
    refine nQ<|fK<|rgK 3 ((40,.u (UF.eq (qI b)))::(41,.u (uI (x.1:Int)))::(42,.u (uI ((2*x.1+1:Nat):Int)))::[]) s
     (oc zA<|oc zA<|oc zA<|zC) fun a w16 s=>?_
    have I:=s.below
    replace J:=J.below I
    replace O:=O.below I
    replace hF:=hF.trans I
    refine zF1 (i:=x.1) (j:=2*x.1+1) zD s J oA oA rfl (s.fct (.tmp 40)) (s.fct (.tmp 41)) (s.fct (.tmp 42)) kA rfl rfl (fun q hq=>by cases hq) fun a w h7 h4 s=>?_
    replace O:=zBY O h4 (fun e=>rK _ (by have:=J.gl;rw[<-e]at this;exact this))
    replace J:=h7
    replace hF:=hF.comp h4
    refine zF rfl ?_
    have I:=s.below
    replace J:=J.below I
    replace O:=O.below I
    replace hF:=hF.trans I
    replace s:=s.anewB rfl rfl
    replace s:=s.drop [7]
    refine rgE ((44,.Z (uI ((2*x.1+1:Nat):Int)))::(7,.u (uI ((2*x.1+1:Nat):Int)))::[]) s
     (oc zA<|oc zE<|zC) fun a w17 s=>?_
    have I:=s.below
    replace J:=J.below I
    replace O:=O.below I
    replace hF:=hF.trans I
    replace s:=s.anewB rfl rfl
    exact⟨(2*x.1+1,zCQ wz x.2 x.1 (2*x.1+1)),(by show n-(2*x.1+1)<n-x.1;omega),(by show 2*x.1+1<_;rw[qU];omega),(by show(zCQ wz x.2 _ _).length=_;rw[qU];exact hl),(fun y hy=>hL y ((zBt oA oA).mem_iff.1 hy)),(by rw[<-he];exact zMv h6 h3 h2),J,O,hF,s.keepK _ (sH zDW<|sH zFl<|sH zGN<|sH (.head _) fnz)⟩
theorem zQO{cap:Nat}{x:Wt}(I:QM W b g cap L)(hu:u=qI b)(hv:(fIW x).p v W)(hn:L.length<=90000)(hL:∀x,x∈L->QB x.c 1)(h5:QB x.c 1)(hT:Tab W):Calls prog 68 #[u,v] W (zMW (fun q=>q=b∨q=g) W UF.any fun W'=>∃g' cap',(g'=g∨W.heap.size<=g')/\QM W' b g' cap' (zD6 wz Wt.lt L x)):=by
 have O:BlS (fun q=>q=b∨q=g) W W:=BlS.refl _ _
 refine zB0 [UF.eq (qI b),fIW x] func68 rfl kA ⟨hu,hv,trivial⟩ fun a s=>?_
 replace s:St W [(0,.u (UF.eq (qI b))),(1,.u (fIW x))] [] f68.ntmps [] a W:=s
 refine fK<|rgK 2 ((4,.u (UF.eq (qI b)))::(5,.u (fIW x))::[]) s
  (oc zA<|oc zA<|zC) fun a w1 s=>?_
 have h3:W.heap.size<=_:=(O.trans s.below).size
 have J:=s.below
 replace I:=I.below J
 replace hT:=hT.below J
 replace O:=O.trans J
 refine zKS (T:=fun q=>q=b∨q=g) (args:=#[a.eval (.tmp 5)]) zD (enters_of func157 kA rfl) s rfl (s.fct (.tmp 4)) (zG3 zRV _ _) kA rfl rfl (fun q hq=>by rcases hq with rfl|rfl;(exact I.bpl);(exact I.rw.plain)) (fun q hq=>by cases hq) (by rw[cE];simp) (zQm I (s.fct (.tmp 5)) oA) fun a w hR h1 h8 s=>?_
 replace hT:=zBY hT h1 (fun e=>by rcases e with e|e;(have:=I.bl;rw[<-e]at this;exact rK _ this);(have:=I.gl;rw[<-e]at this;exact rK _ this))
 replace O:=O.comp h1
 obtain⟨g',cap',hg,I⟩:=hR
 replace hg:g'=g∨W.heap.size<=g':=hg.imp_right fun h=>xQ h3 h
 refine zF rfl ?_
 have J:=s.below
 replace I:=I.below J
 replace hT:=hT.below J
 replace O:=O.trans J
 replace s:=s.anewB rfl rfl
 have h7:∀y,y∈L++ [x]->QB y.c 1:=fun y hy=>by rcases uL.1 hy with h|h;(exact hL y h);(obtain rfl:=nY.1 h;exact h5)
 refine rgK 4 ((7,.u (UF.eq (qI b)))::(8,.Z (UF.eq (qI b)))::(9,.Z (uI ((L++ [x]).length:Int)))::(10,.u (uI (L.length:Int)))::[]) s
  (oc zA<|oc zA<|oc (zLF zD I iiz)<|oc (zAR .i64 ((L++ [x]).length:Int) 1 (L.length:Int) iiz iiz (by rw[uD,rI,zAE _ oA oA];omega))<|zC) fun a w2 s=>?_
 have J:=s.below
 replace I:=I.below J
 replace hT:=hT.below J
 replace O:=O.trans J
 refine zEC (T:=fun q=>q=g') (args:=#[qI b,.int .i64 (L.length:Int)]) zD (enters_of func85 kA rfl) s rfl kA rfl rfl (fun q hq=>by rw[hq];exact I.rw.plain) (fun q hq=>by cases hq) (by rw[cE];simp[show a.eval (.tmp 7)=qI b from s.fct (.tmp 7),show a.eval (.tmp 10)=.int .i64 (L.length:Int)from s.fct (.tmp 10)]) (zTc I rfl rfl eN sB h7 hT) fun a w h6 h1 h8 s=>?_
 replace I:=h6
 replace O:=O.ext h1 (hg.imp_left .inr)
 refine zF rfl ?_
 have J:=s.below
 replace I:=I.below J
 replace O:=O.trans J
 replace s:=s.anewB rfl rfl
 exact s.retN0 rfl ⟨_,rfl,trivial,⟨g',cap',hg,I⟩,O⟩
theorem zR4{cap:Nat}(I:QM W b g cap L)(hu:u=qI b)(h0:0<L.length)(hn:L.length<=100000)(hL:∀x,x∈L->QB x.c 1)(O:Tab W):Calls prog 67 #[u] W (zMW (fun q=>q=b∨q=g) W (fIW (L.getD 0 wz)) fun W'=>QM W' b g cap (zD7 wz Wt.lt L)):=by
 have J:BlS (fun q=>q=b∨q=g) W W:=BlS.refl _ _
 refine zB0 [UF.eq (qI b)] func67 rfl kA ⟨hu,trivial⟩ fun a s=>?_
 replace s:St W [(0,.u (UF.eq (qI b)))] [] f67.ntmps [] a W:=s
 refine rgQ [] s
  (oc (zE (fun _ _ _ _=>trivial))<|zC) fun a w1 s=>?_
 have h:=s.below
 replace I:=I.below h
 replace O:=O.below h
 replace J:=J.trans h
 replace s:=s.anewB rfl rfl
 refine rgQ ((4,.Z (UF.eq (qI b)))::(5,.Z (uI (L.length:Int)))::(6,.Z (uI ((L.length-1:Nat):Int)))::(3,.u (uI ((L.length-1:Nat):Int)))::[]) s
  (oc zA<|oc (zLF zD I iiz)<|oc (zAR .i64 (L.length:Int) 1 ((L.length-1:Nat):Int) iiz iiz (wrap64 _ _ oA oA))<|oc zE<|zC) fun a w2 s=>?_
 have h:=s.below
 replace I:=I.below h
 replace O:=O.below h
 replace J:=J.trans h
 replace s:=s.anewB rfl rfl
 refine fK<|rgK 2 ((7,.u (UF.eq (qI b)))::(8,.u (uI ((L.length-1:Nat):Int)))::[]) s
  (oc zA<|oc zA<|zC) fun a w3 s=>?_
 have h:=s.below
 replace I:=I.below h
 replace O:=O.below h
 replace J:=J.trans h
 refine zF1 (i:=0) (j:=L.length-1) zD s I h0 oA rfl (s.fct (.tmp 7)) rfl (s.fct (.tmp 8)) kA rfl rfl (fun q hq=>by cases hq) fun a w h3 h1 s=>?_
 replace O:=zBY O h1 (fun e=>rK _ (by have:=I.gl;rw[<-e]at this;exact this))
 replace I:=h3
 replace J:=J.comp (h1.sub fun q hq=>.inr hq)
 replace hL:∀y,y∈zCQ wz L 0 (L.length-1)->QB y.c 1:=fun y hy=>hL y ((zBt h0 oA).mem_iff.1 hy)
 have h4:(zCQ wz L 0 (L.length-1)).length=L.length:=qU _ _ _
 refine zF rfl ?_
 have h:=s.below
 replace I:=I.below h
 replace O:=O.below h
 replace J:=J.trans h
 replace s:=s.anewB rfl rfl
 refine fK<|rgK 2 ((10,.u (UF.eq (qI b)))::(11,.u (uI ((L.length-1:Nat):Int)))::[]) s
  (oc zA<|oc zA<|zC) fun a w4 s=>?_
 have h:=s.below
 replace I:=I.below h
 replace O:=O.below h
 replace J:=J.trans h
 refine zEC (T:=fun q=>q=g) (args:=#[qI b,.int .i64 ((0:Nat):Int),.int .i64 ((L.length-1:Nat):Int)]) zD (enters_of func84 kA rfl) s rfl kA rfl rfl (fun q hq=>by rw[hq];exact I.rw.plain) (fun q hq=>by cases hq) (by rw[cE];simp[show a.eval (.tmp 10)=qI b from s.fct (.tmp 10),show a.eval (.tmp 11)=.int .i64 ((L.length-1:Nat):Int)from s.fct (.tmp 11)];rfl) (zQQ I rfl rfl rfl oA oA oA hL O) fun a w h3 h1 h7 s=>?_
 replace O:=zBY O h1 (fun e=>rK _ (by have:=I.gl;rw[<-e]at this;exact this))
 replace I:=h3
 replace J:=J.comp (h1.sub fun q hq=>.inr hq)
 have h5:(zA4 wz Wt.lt 0 (L.length-1) (zCQ wz L 0 (L.length-1))).length=L.length:=by rw[zGH];exact h4
 refine zF rfl ?_
 have h:=s.below
 replace I:=I.below h
 replace O:=O.below h
 replace J:=J.trans h
 replace s:=s.anewB rfl rfl
 refine fK<|rgK 1 ((13,.u (UF.eq (qI b)))::[]) s
  (oc zA<|zC) fun a w5 s=>?_
 have h:=s.below
 replace I:=I.below h
 replace O:=O.below h
 replace J:=J.trans h
 refine zKS (T:=fun q=>q=b) (args:=#[]) zD (enters_of func156 kA rfl) s rfl (s.fct (.tmp 13)) (zG3 zS7 _ _) kA rfl rfl (fun q hq=>by rw[hq];exact I.bpl) (fun q hq=>by cases hq) (by rw[cE];simp) (zRM I oA oA) fun a w h3 h1 h7 s=>?_
 replace I:=h3
 rw[h5]at I s
 rw[zJi h0]at s
 replace J:=J.comp (h1.sub fun q hq=>.inl hq)
 clear O
 refine yN (fIW (L.getD 0 wz)) rfl s kA iiz fun a w s=>zF rfl ?_
 have h:=s.below
 replace I:=I.below h
 replace J:=J.trans h
 replace s:=s.anewB rfl rfl
 exact nR<|s.retT1 rfl (.head _) fun v hv=>⟨v,rfl,hv,I,J⟩
theorem yT(cs:List WD)(W:WB)(h:(wC [v]).p cs W):∃u,cs[0]?=some u/\u=v:=by
 obtain rfl:cs=[v]:=h
 exact⟨_,rfl,rfl⟩
theorem jY(h:u=v)(h1:v.cells=#[v])(h2:v.oneCell'=true)(h3:z9 v=true):u.cells.size=1/\(∀x,x∈u.cells.toList->x.oneCell'=true)/\u.cells.toList.all z9=true/\(wC [v]).p u.cells.toList W:=by
 subst h
 rw[h1]
 exact⟨rfl,fun x I=>by obtain rfl:=nY.1 I;exact h2,by simp[h3],rfl⟩
theorem zJE(h2:v.oneCell'=true)(h3:z9 v=true):CU.ok 1 (wC [v]):=fun cs W h=>by
 obtain rfl:cs=[v]:=h
 exact⟨rfl,by simp[h3],fun u I=>by obtain rfl:=nY.1 I;exact h2⟩
abbrev bls(l:List Bool):List CU:=l.map fun b=>wC [.bool b]
abbrev ins(l:List Int):List CU:=l.map fun z=>wC [.int .i64 z]
abbrev sls(l:List WD):List CU:=l.map fun v=>wC [v]
theorem zMB{l:List Bool}(h:i<l.length):(bls l)[i]?=some (wC [.bool (l.getD i false)]):=by simp[bls,h]
theorem qC{l:List Int}(h:i<l.length):(ins l)[i]?=some (wC [.int .i64 (l.getD i 0)]):=by simp[ins,h]
theorem zDy{l:List WD}(h:i<l.length):(sls l)[i]?=some (wC [l.getD i (.slice none 0 0)]):=by simp[sls,h]
theorem zQ6(l:List Bool)(i:Nat)(b:Bool):(bls l).set i (wC [.bool b])=bls (l.set i b):=by unfold bls;rw[nC]
theorem zBA(l:List Int)(i:Nat)(b:Int):(ins l).set i (wC [.int .i64 b])=ins (l.set i b):=by unfold ins;rw[nC]
theorem zKX(l:List WD)(i:Nat)(b:WD):(sls l).set i (wC [b])=sls (l.set i b):=by unfold sls;rw[nC]
/-! ### A graph: a row of rows of roads -/
def zFr(gg:Nat)(vs:List WD)(q:Nat):Prop:=q=gg∨ ∃i,i<vs.length/\(vs.getD i (.slice none 0 0)).ownBlock=some q
structure GM(w:World)(gg cap:Nat)(vs:List Value)(G:List (List (Nat×Rat))):Prop where
 ln:vs.length=G.length
 rw:q9 w gg 65 1 cap (sls vs)
 gl:0<gg
 rows:∀i,i<G.length->y9 w (0+1) 67 4 (vs.getD i (.slice none 0 0)) (ros (G.getD i []))
theorem qP(h:y9 w base e z v Cs){g:Nat}(I:v.ownBlock=some g):base<=g/\∃cur:Array WD,w.heap[g]?=some (.cells cur e (0,0))/\cur.toList.all z9=true:=by
 rcases h with⟨rfl,_⟩|⟨g',cap,cur,rfl,hb,J,_,_,_,O,_⟩
 .simp[Value.ownBlock]at I
 .simp[Value.ownBlock]at I
  subst I
  exact⟨hb,cur,J,O⟩
theorem GM.ty{cap:Nat}(h:GM w gg cap vs G){q:Nat}(hq:zFr gg vs q):0<q/\∃(cs:Array WD) (t:WE),w.heap[q]?=some (.cells cs t (0,0))/\cs.toList.all z9=true/\(t=65∨t=67):=by
 rcases hq with rfl|⟨i,hi,hq⟩
 .obtain⟨I,O,_,_,_,J,_⟩:=h.rw
  exact⟨h.gl,I,_,O,J,.inl rfl⟩
 .obtain⟨h0,I,O,J⟩:=qP (h.rows i (by rw[<-h.ln];exact hi)) hq
  exact⟨h0,I,_,O,J,.inr rfl⟩
theorem GM.lt{cap:Nat}(h:GM w gg cap vs G){q:Nat}(I:zFr gg vs q):q<w.heap.size:=by
 obtain⟨_,cs,t,J,_⟩:=h.ty I
 exact(xP.1 J).1
theorem GM.keep{cap:Nat}(h:GM w gg cap vs G)(O:∀q,zFr gg vs q->w'.heap[q]?=w.heap[q]?)(I:y4 w w'):GM w' gg cap vs G:=
 ⟨h.ln,h.rw.keep (O gg (.inl rfl)) I,h.gl,fun i J=>(h.rows i J).keep (fun k I=>O k (.inr ⟨i,by rw[h.ln];exact J,I⟩)) I⟩
theorem GM.below{cap:Nat}(h:GM w gg cap vs G)(I:Below w.heap.size w w'):GM w' gg cap vs G:=h.keep (fun q J=>I.block q (h.lt J)) (zN I)
theorem GM.row{cap:Nat}(h:GM w gg cap vs G){n:Nat}(I:n=G.length):(SF.row 1 (sls vs)).p (.slice (some ⟨gg,0,none⟩) n cap) w:=h.rw.row (by rw[I,<-h.ln];simp)
theorem GM.at{cap:Nat}(h:GM w gg cap vs G){i:Nat}(I:i<G.length):(SF.row 4 (ros (G.getD i []))).p (vs.getD i (.slice none 0 0)) w:=(h.rows i I).row
theorem GM.no{cap:Nat}(h:GM w gg cap vs G){q:Nat}(J:zFr gg vs q){b:Nat}{cs:Array WD}{t:WE}{z:Nat×Nat}(hb:w.heap[b]?=some (.cells cs t z))(h1:t≠65)(h2:t≠67):q≠b:=by
 obtain⟨_,cs',t',O,_,I⟩:=h.ty J
 refine zX O hb fun e=>?_
 rcases I with rfl|rfl
 .exact h1 e.symm
 .exact h2 e.symm
abbrev qS(G:List (List (Nat×Rat))):Adj:=fun n=>G.getD n []
/-! ### Worlds in which blocks have turned -/
theorem zGx(I:BlS T w w')(O:∀q,T q->N<=q/\zHV w q)(hN:N<=w.heap.size):Itr N w w':=
 ⟨I.os,I.tape,I.output,I.size,fun k hk=>I.block k (vW hk hN) fun h=>by have:=(O k h).1;omega,
  fun k o J hc=>(I.block k (xP.1 J).1 fun h=>by
   obtain⟨_,cs,t,z,h1,_⟩:=O k h
   rw[h1]at J
   cases J
   cases hc).trans J,zCs I fun q hq=>(O q hq).2⟩
theorem yQ(I:Below w.heap.size w w')(hN:N<=w.heap.size):Itr N w w':=zGx (T:=fun _=>False) (zAg I) (fun _ h=>h.elim) hN
theorem q9.rnd{cap:Nat}(h:q9 w g e z cap Cs)(I:Rnd N C w w')(O: ¬C g):q9 w' g e z cap Cs:=
 h.keep (by obtain⟨cur,J⟩:=h.at;rw[J];exact I.cells _ _ J rfl O) I.keep
theorem QM.keep{cap:Nat}(h:QM w b g cap L)(h1:w'.heap[b]?=w.heap[b]?)(h2:w'.heap[g]?=w.heap[g]?)(I:y4 w w'):QM w' b g cap L:=⟨h1.trans h.bx,h.rw.keep h2 I,h.bl,h.gl⟩
theorem QM.rnd{cap:Nat}(h:QM w b g cap L)(I:Rnd N C w w')(O: ¬C b)(J: ¬C g):QM w' b g cap L:=⟨I.cells _ _ h.bx rfl O,h.rw.rnd I J,h.bl,h.gl⟩
theorem zFv(h:Tab w):0<w.heap.size:=zU (h 0 dA)
theorem zNa(I:Tab w)(h:w'.heap[0]?=w.heap[0]?):Tab w':=fun j hj=>(bO (a:=⟨0,j,none⟩) h).trans (I j hj)
theorem zGo{G:Nat->SF}{d:Tmp}{ty:WE}{k:Nat}{z:WK}(h:∀u v q W,(fct G x).p u W->(fct G y).p v W->(fct G z).p q W->∃cells,P.built t [(i,u),(j,v),(k,q)]=some cells/\(G d).p (.agg cells) W):qR F m P w0 ops G ⟨some d,.build t #[(i,x),(j,y),(k,z)],ty,pos,aft,none⟩:=
 zGn fun b W hb I=>by
  obtain⟨cells,O,J⟩:=h _ _ _ W (I x eN) (I y eN) (I z eN)
  exact⟨cells,by simpa using O,J⟩
theorem zDU{c:Wt}{rs:List (Nat×Rat)}{k:Nat}(h:k<rs.length):jN done c (rs.take (k+1)) L=if done.getD (rs.getD k (0,0)).1 false=true then jN done c (rs.take k) L else zD6 wz Wt.lt (jN done c (rs.take k) L) ⟨c.c+(rs.getD k (0,0)).2,c.s+1,(rs.getD k (0,0)).1⟩:=by
 have e:rs.getD k (0,0)=rs[k]:=by simp[h]
 rw[fT h,e]
 unfold jN
 rw[pI]
 rfl
theorem DI.few{f:Nat}(h:DI E N a out done L f):L.length<=f/\out.length<=N:=by
 have h1:=h.fu
 have I:=zIy done
 rw[<-h.ct,h.dl]at I
 omega
theorem DI.inner{f:Nat}(h:DI E N a out done L f)(h0:0<L.length){c:Wt}(ec:L.getD 0 wz=c)(hd:done.getD c.n false=false){k:Nat}:
  (jN (done.set c.n true) c ((E c.n).take k) (zD7 wz Wt.lt L)).length<=f/\∀x,x∈jN (done.set c.n true) c ((E c.n).take k) (zD7 wz Wt.lt L)->Rch E a x.n x.c x.s/\x.s<=N+1:=by
 have hfew:=h.few
 have I:=zGg (d:=wz) (lt:=Wt.lt) h0
 rw[ec]at I
 have h3:c∈L:=I.mem_iff.1 (.head _)
 obtain⟨J,h4,hcs⟩:=h.rc c h3
 have O:c.n<done.length:=by rw[h.dl];exact J
 have h5:=zEm (E:=E) O hd N
 rw[if_pos J]at h5
 have h1:=(zDV (done.set c.n true) c ((E c.n).take k) _ (zGi zGQ h0 h.hp)).2
 rw[zGh,uG]at h1
 have h2:=h.fu
 refine⟨oA,fun x hx=>?_⟩
 rcases(zES _ _ _ _ _).1 hx with hx|⟨r,hr,_,rfl⟩
 .obtain⟨_,g2,g3⟩:=h.rc x (I.mem_iff.1 (.tail _ hx))
  exact⟨g2,oA⟩
 .exact⟨.cons h4 (gA hr),by show c.s+1<=_;omega⟩
theorem DI.deg{f:Nat}(h:DI E N a out done L f)(J:n<N)(hd:done.getD n false=false):(E n).length<=f:=by
 have I:=zEm (E:=E) (show n<done.length by rw[h.dl];exact J) hd N
 rw[if_pos J]at I
 have:=h.fu
 omega
def zQ1(b1 b2 gg:Nat)(vs:List WD)(q:Nat):Prop:=q=b1∨q=b2∨zFr gg vs q∨q=0
structure SE(b1 b2 gg cap N a:Nat)(vs:List Value)(G:List (List (Nat×Rat)))(w:World):Prop where
 w1:w.heap[b1]?=some (.cells #[.slice (some ⟨gg,0,none⟩) N cap] 61 (0,0))
 w2:w.heap[b2]?=some (.cells #[.int .i64 (a:Int)] 3 (0,0))
 g:GM w gg cap vs G
 t:Tab w
theorem SE.lt{cap:Nat}(h:SE b1 b2 gg cap N a vs G w){q:Nat}(I:zQ1 b1 b2 gg vs q):q<w.heap.size:=by
 rcases I with rfl|rfl|I|rfl
 .exact(xP.1 h.w1).1
 .exact(xP.1 h.w2).1
 .exact h.g.lt I
 .exact zFv h.t
theorem SE.same{cap:Nat}(h:SE b1 b2 gg cap N a vs G w)(I:∀q,zQ1 b1 b2 gg vs q->w'.heap[q]?=w.heap[q]?)(J:y4 w w'):SE b1 b2 gg cap N a vs G w':=
 ⟨(I b1 (.inl rfl)).trans h.w1,(I b2 (.inr (.inl rfl))).trans h.w2,h.g.keep (fun q O=>I q (.inr (.inr (.inl O)))) J,zNa h.t (I _ (.inr (.inr (.inr rfl))))⟩
theorem SE.below{cap:Nat}(h:SE b1 b2 gg cap N a vs G w)(I:Below w.heap.size w w'):SE b1 b2 gg cap N a vs G w':=h.same (fun q J=>I.block q (h.lt J)) (zN I)
theorem SE.bls{cap:Nat}(h:SE b1 b2 gg cap N a vs G w)(hb:BlS T w w')(hk:y4 w w')(J:∀q,zQ1 b1 b2 gg vs q->q<M)(O:∀q,T q->M<=q):SE b1 b2 gg cap N a vs G w':=h.same (fun q I=>hb.block q (h.lt I) fun ht=>by have:=J q I;have:=O q ht;omega) hk
theorem SE.rnd{cap:Nat}(h:SE b1 b2 gg cap N a vs G w)(I:Rnd M C w w')(J:∀q,zQ1 b1 b2 gg vs q->q<M/\ ¬C q):SE b1 b2 gg cap N a vs G w':=h.same (fun q O=>I.low q (J q O).1 (J q O).2) I.keep
theorem zDS(h:u=.int .i64 0):Calls prog 32 #[u] W (Ret W (fQN 0).tS):=by subst h;exact zPW 0 dA
theorem zBd{G:Nat->SF}{d:Tmp}{ty:WE}(h:∀u W,Below w0.heap.size w0 W->(fct G x).p u W->∃e cs,zV P t 1 [(0,u)]=some (e,cs)/\(G d).p (.slice (some ⟨W.heap.size,0,none⟩) 1 1) (W.alloc (.cells cs e))):qR F m P w0 ops G ⟨some d,.buildSlice t 1 #[(0,x)],ty,pos,aft,none⟩:=
 zB5 fun b W I hh=>by
  obtain⟨e,cs,O,J⟩:=h _ W I (hh x eN)
  exact⟨e,cs,by simpa using O,J⟩
theorem zTi(f:WK->WD)(x:WK):(Array.map f #[x]).getD 0 undef=f x:=by simp[xS]
structure SX where
 done:List Bool
 L:List Wt
 out:List Wt
 f:Nat
 g:Nat
 cp:Nat
theorem zJZ{w_:WB}{cap a_:Nat}(xp:w_.heap[b1]?=some (.cells #[.slice (some ⟨gg,0,none⟩) N cap] 61 (0,0)))(x9:w_.heap[b2]?=some (.cells #[.int .i64 (a_:Int)] 3 (0,0)))(hG:GM w_ gg cap vs G)(hN:N=G.length)(ha:a_<N)(hNs:N<=100000)(qo:Gok (qS G) N)(x6:∀n,n<N->∀r,r∈qS G n->QB r.2 1)(qf:∀n c s,Rch (qS G) a_ n c s->s<=N+1->QB c 1)(xv:1+zKg (qS G) (List.replicate N false) N<=80000)(hT:Tab w_)(hU:∀q,C q->q<w_.heap.size)(xr:∀q,zQ1 b1 b2 gg vs q-> ¬C q):
  ItC prog 65 #[pO b1 0,pO b2 0] (fun k=> [fWt ((stl (qS G) N a_).getD k wz)]) (stl (qS G) N a_).length False C w_:=by
 intro l J Z W xf xw hkW h9 xq hend hV hJ
 have q4:SE b1 b2 gg cap N a_ vs G w_:=⟨xp,x9,hG,hT⟩
 have xt:∀q,zQ1 b1 b2 gg vs q->q<w_.heap.size/\ ¬C q:=fun q hq=>⟨q4.lt hq,xr q hq⟩
 have hS:∀q,zQ1 b1 b2 gg vs q->q<W.heap.size:=fun q hq=>vW (q4.lt hq) xf
 have hE:SE b1 b2 gg cap N a_ vs G W:=q4.below xw
 have I:W.heap.size<=W.heap.size:=vR _
 refine zB0 [UF.eq (.func (.yield l) #[] #[]),UF.eq (pO b1 0),UF.eq (pO b2 0)] func65 rfl kA ⟨rfl,rfl,rfl,trivial⟩ fun a s=>?_
 replace s:St W [(0,.u (UF.eq (.func (.yield l) #[] #[]))),(1,.u (UF.eq (pO b1 0))),(2,.u (UF.eq (pO b2 0)))] [] f65.ntmps [] a W:=s
 refine(bJ (n:=0)).2 (wp_scope_straight ((bJ (n:=0)).1 ?_))
 refine fK<|rgK 2 ((9,.Z (UF.eq (.slice (some ⟨gg,0,none⟩) N cap)))::(10,.u (uI (N:Int)))::[]) s
  (oc (zFG (b:=b1) (v:=(.slice (some ⟨gg,0,none⟩) N cap)) kA hE.w1 iiz)<|oc (zAd kA (fun v W h=>⟨_,_,_,h,rfl⟩))<|zC) fun a w1 s=>?_
 have O:=s.below
 replace hE:=hE.below O
 replace hJ:=h9 _ _ _ hJ (yQ O I)
 replace I:=xQ I O.size
 refine zJW (nn:=N) (z:=1) (e:=4) (zs:=[.bool false]) (wC [.bool false]) s rfl kA kA kA rfl rfl oA (fun W=>rfl) (s.fct (.tmp 10)) (s.fct (.tmp 10)) fun gd a w xo O hD s=>?_
 have x0:W.heap.size<=gd:=by rw[xo];exact I
 replace hE:=hE.below O
 replace hJ:=h9 _ _ _ hJ (yQ O I)
 replace I:=xQ I O.size
 replace hD:q9 w gd 4 1 N (bls (List.replicate N false)):=by unfold bls;rw[List.map_replicate];exact hD
 refine yN (UF.eq (.slice (some ⟨gd,0,none⟩) N N)) rfl s kA iiz fun a w s=>zF rfl ?_
 have O:=s.below
 replace hE:=hE.below O
 replace hJ:=h9 _ _ _ hJ (yQ O I)
 replace I:=xQ I O.size
 replace hD:=hD.below O
 replace s:=s.anewB rfl rfl
 refine fK<|zB2 [] [] 4 ((12,.Z (fQN 0))::(13,.Z (uI (a_:Int)))::(14,.Z (fWt (⟨0,0,a_⟩)))::(15,.s (wD w 86 5 [CU.agg (fWt ⟨0,0,a_⟩)]))::[]) hmix s fnz kA
  (oc (zK zD zHM (fun u0 W O (h0:u0=.int .i64 0)=>zDS h0))<|oc (zFG (b:=b2) (v:=.int .i64 (a_:Int)) kA hE.w2 iiz)<|oc (zGo (fun u v q W (hu:QNp 0 u W) (hv:v=.int .i64 0) (hq:q=.int .i64 (a_:Int))=>zUf (x:=⟨0,0,a_⟩) hu hv hq))<|oc (zBd (fun u W O (hu:(fWt ⟨0,0,a_⟩).p u W)=>by obtain⟨e,cs,h1,h2,h3⟩:=zRo hu;exact⟨e,cs,h1,h3.toN O.size rfl⟩))<|zC) fun Q' hQ a w2 s hr hd=>?_
 obtain⟨v15,e15⟩:∃v,a.tmps.getD 15 undef=v:=⟨_,rfl⟩
 have hY:=(hr (_,_) mz3)
 rw[show a.tmps.getD _ undef=v15 from e15]at hY
 obtain⟨g,cp,rfl,xe,q0⟩:=zDR hY eN
 have hg:W.heap.size<=g:=xQ I xe
 replace s:=s.learn 15 _ e15
 have O:=s.below
 replace hE:=hE.below O
 replace hJ:=h9 _ _ _ hJ (yQ O I)
 replace I:=xQ I O.size
 replace hD:=hD.below O
 replace s:=s.anewB rfl rfl
 refine zAZ (wC [.slice (some ⟨g,0,none⟩) 1 cp]) rfl s kA (fun v W h=>by rw[show v=_ from h];exact⟨rfl,rfl⟩) fun b5 a w2 s=>yN (UF.eq (pO b5 0)) rfl s kA (fun _ _ h=>h.1) fun a w2 s=>zF rfl (hQ _ _ ?_)
 have qt:=s.inB_new (q:=b5) ⟨_,.head _,rfl,rfl⟩
 obtain⟨xa,xb,qw,-⟩:=s.boxAt (c:=16) rfl
 obtain rfl:xa=[.slice (some ⟨g,0,none⟩) 1 cp]:=qw
 replace s:=s.popB
 have hW:W.heap.size<=b5:=xQ I qt
 have O:=s.below
 replace hE:=hE.below O
 replace hJ:=h9 _ _ _ hJ (yQ O I)
 replace I:=xQ I O.size
 replace hD:=hD.below O
 replace q0:=q0.below O
 have htl:=hS _ (.inr (.inr (.inr rfl)))
 have hM:QM _ b5 g cp [⟨0,0,a_⟩]:=⟨xb,q0,oA,oA⟩
 replace s:=s.anewB rfl rfl
 refine fK<|wpIn_label<|rF<|yC (fun(x:SX) a w=>DI (qS G) N a_ x.out x.done x.L x.f/\x.out++dij (qS G) x.f x.done x.L=(stl (qS G) N a_)/\x.f<=80000/\W.heap.size<=x.g/\W.heap.size<=w.heap.size/\SE b1 b2 gg cap N a_ vs G w/\q9 w gd 4 1 N (bls x.done)/\QM w b5 x.g x.cp x.L/\J x.out.length w/\St w [(0,.u (UF.eq (.func (.yield l) #[] #[]))),(1,.u (UF.eq (pO b1 0))),(4,.u (UF.eq (.slice (some ⟨gd,0,none⟩) N N))),(5,.u (UF.eq (pO b5 0)))] [] f65.ntmps [] a w) (fun x=>x.f) ⟨List.replicate N false, [⟨0,0,a_⟩], [],1+zKg (qS G) (List.replicate N false) N,g,cp⟩ ⟨DI.begin _ ha,rfl,xv,hg,I,hE,hD,hM,hJ,s.keepK _ (sH mz5<|sH mz6<|sH mz2<|sH (.head _) fnz)⟩ fun x a w hx=>?_
 obtain⟨hI,hR,hf8,hg,I,hE,hD,hM,hJ,s⟩:=hx
 have hL:∀y,y∈x.L->QB y.c 1:=fun y hy=>qf _ _ _ (hI.rc y hy).2.1 (by have:=(hI.rc y hy).2.2;have:=hI.few.2;omega)
 have hLf:=hI.few.1
 refine fK<|fK ?_
 have xh:=hM.row
 refine rgE ((17,.Z (UF.eq (pO b5 0)))::(18,.Z (UF.eq (pO b5 0)))::(19,.Z (UF.eq (.slice (some ⟨x.g,0,none⟩) x.L.length x.cp)))::(20,.Z (uI (x.L.length:Int)))::(21,.u (uB (decide ((x.L.length:Int)>0))))::[]) s
  (oc zA<|oc (zBx (a:=⟨b5,0,none⟩) iiz)<|oc (zFG (b:=b5) (v:=(.slice (some ⟨x.g,0,none⟩) x.L.length x.cp)) kA hM.bx iiz)<|oc (zK zD zTt (fun u0 W O (h0:u0=(.slice (some ⟨x.g,0,none⟩) x.L.length x.cp))=>zPa (by rw[show u0=(Value.slice (some ⟨x.g,0,none⟩) x.L.length x.cp)from h0];exact(SF.row 5 (wts x.L)).st _ _ _ xh (s.up O))))<|oc (zJ .i64 (x.L.length:Int) 0 (decide ((x.L.length:Int)>0)) iiz iiz rfl rfl)<|zC) fun a w3 s=>?_
 have O:=s.below
 replace hE:=hE.below O
 replace hJ:=h9 _ _ _ hJ (yQ O I)
 replace I:=xQ I O.size
 replace hD:=hD.below O
 replace hM:=hM.below O
 replace s:=s.anewB rfl rfl
 refine StS.cond s (decide ((x.L.length:Int)>0)) iiz (fun e=>?_) (fun e=>?_)
 .have h0:0<x.L.length:=by have:=xW e;omega
  obtain⟨c,ec⟩:∃c,x.L.getD 0 wz=c:=⟨_,rfl⟩
  have qk:c∈x.L:=by rw[<-ec,nX,mD h0];exact uO h0
  obtain⟨hn,xm,hcs⟩:=hI.rc c qk
  have qq:QB c.c 1:=hL c qk
  have hfw:=hI.few.2
  have qx:c.n<x.done.length:=by rw[hI.dl];exact hn
  refine nQ<|rF<|fK<|rgK 2 ((22,.Z (UF.eq (pO b5 0)))::(23,.u (UF.eq (qI b5)))::[]) s
   (oc zA<|oc (zJn ⟨_,underlying106,fun _ e=>by cases e⟩ (fun v W h=>by rw[show v=_ from h];rfl))<|zC) fun a w4 s=>?_
  have O:=s.below
  replace hE:=hE.below O
  replace hJ:=h9 _ _ _ hJ (yQ O I)
  replace I:=xQ I O.size
  replace hD:=hD.below O
  replace hM:=hM.below O
  have hF:gd≠b5:=zX hD.at.choose_spec hM.bx dA
  have hK:gd≠x.g:=zX hD.at.choose_spec hM.rw.at.choose_spec dA
  refine zEC (T:=fun q=>q=b5∨q=x.g) (args:=#[qI b5]) zD (enters_of func67 kA rfl) s rfl kA rfl rfl (fun q hq=>by rcases hq with rfl|rfl;(exact hM.bpl);(exact hM.rw.plain)) (fun q hq=>by cases hq) (by rw[cE];simp[show a.eval (.tmp 23)=qI b5 from s.fct (.tmp 23)]) (zR4 hM rfl h0 oA hL hE.t) fun a w hO he ho s=>?_
  replace hE:=hE.bls he ho hS (fun q hq=>(by rcases hq with rfl|rfl;(exact hW);(exact hg)))
  replace hJ:=h9 _ _ _ hJ (zGx he (fun q hq=>⟨(by rcases hq with rfl|rfl;(exact hW);(exact hg)),(by rcases hq with rfl|rfl;(exact hM.bpl);(exact hM.rw.plain))⟩) I)
  replace I:=xQ I he.size
  replace hD:=hD.keep (he.block gd hD.lt (fun h=>by rcases h with h|h;(exact hF h);(exact hK h))) ho
  replace hM:=hO
  rw[ec]at s
  refine zBD (fWt c) rfl s kA (zFH ⟨_,underlying86,fun _ e=>by cases e⟩ (fun v W h=>h)) kA fun a w s=>yP (CU.len 5) (cs:=[.bool false,.slice none 0 0,.slice none 0 0,.int .i64 0,.int .i64 0]) kA rfl s kA (fun W=>rfl) rfl fun b6 a w s=>yI (fWt c) rfl s zFX fun a w s=>zF rfl ?_
  have xi:=s.inB_new (q:=b6) ⟨_,.head _,rfl,rfl⟩
  have ql:b6≠gd:=by have:=hD.lt;omega
  have qy:b6≠b5:=by have:=(xP.1 hM.bx).1;omega
  have hl:b6≠x.g:=by have:=hM.rw.lt;omega
  have hn6W:W.heap.size<=b6:=xQ I xi
  have O:=s.below
  replace hE:=hE.below O
  replace hJ:=h9 _ _ _ hJ (yQ O I)
  replace I:=xQ I O.size
  replace hD:=hD.below O
  replace hM:=hM.below O
  replace s:StS _ _ _ [⟨6,86,CU.agg (fWt c),b6,true⟩] _ _ _ _:=s.freeze
  replace s:=s.anewB rfl rfl
  refine fK<|fK ?_
  have qd:(SF.row 1 (bls x.done)).p (.slice (some ⟨gd,0,none⟩) N N) _:=hD.row (by simp[hI.dl])
  refine rgE ((26,.Z (UF.eq (.slice (some ⟨gd,0,none⟩) N N)))::(27,.X (fWt c) 4)::(28,.Z (uI (((c).n:Nat):Int)))::(29,.s (wB (wC [.bool (x.done.getD c.n false)]).cf))::(30,.u (uB (x.done.getD c.n false)))::[]) s
   (oc zA<|oc (zO (C:=cg (fWt c)) 4 kA)<|oc (yK (C:=cg (fWt c)) (k:=4) kA (h:=zDv))<|oc (zL (z:=1) (Cs:=bls x.done) (i:=c.n) (C:=wC [.bool (x.done.getD c.n false)]) kA (zMB qx) (fun v W O h=>(by rw[show v=(Value.slice (some ⟨gd,0,none⟩) N N)from h];exact(SF.row 1 (bls x.done)).st _ _ _ qd (s.up O))) iiz)<|oc (z5 (C:=(wC [.bool (x.done.getD c.n false)]).cf) kA iiz yT)<|zC) fun a w5 s=>?_
  have O:=s.below
  replace hE:=hE.below O
  replace hJ:=h9 _ _ _ hJ (yQ O I)
  replace I:=xQ I O.size
  replace hD:=hD.below O
  replace hM:=hM.below O
  replace s:=s.anewB rfl rfl
  refine StS.cond s (x.done.getD c.n false) iiz (fun e=>?_) (fun e=>?_)
  .obtain⟨f',ef,q5,xj⟩:=hI.skip h0 (by rw[ec];exact e)
   refine rG ?_
   replace s:=s.popB
   exact⟨⟨x.done,zD7 wz Wt.lt x.L,x.out,f',x.g,x.cp⟩,(by show f'<x.f;omega),q5,(by rw[<-hR,xj]),(by show f'<=_;omega),hg,I,hE,hD,hM,hJ,s.keepK _ (sH mz5<|sH mz6<|sH mz7<|sH mz8 fnz)⟩
  .obtain⟨f',ef,-,-,-,q5,hP⟩:=hI.settle qo ha h0 ec e
   have hd:=e
   have hdeg:=hI.deg hn hd
   refine nQ<|fK<|rgK 3 ((31,.u (UF.eq (.slice (some ⟨gd,0,none⟩) N N)))::(32,.X (fWt c) 4)::(33,.u (uI (((c).n:Nat):Int)))::[]) s
    (oc zA<|oc (zO (C:=cg (fWt c)) 4 kA)<|oc (yK (C:=cg (fWt c)) (k:=4) kA (h:=zDv))<|zC) fun a w6 s=>zBD (UF.eq (.pointer (some ⟨gd,c.n*1,none⟩))) rfl s kA (qQ (z:=1) (g:=gd) (nn:=N) (cap:=N) (i:=c.n) kA hn iiz iiz) kA fun a w s=>?_
   have O:=s.below
   replace hE:=hE.below O
   replace hJ:=h9 _ _ _ hJ (yQ O I)
   replace I:=xQ I O.size
   replace hD:=hD.below O
   replace hM:=hM.below O
   have hF:b5≠gd:=(zX hD.at.choose_spec hM.bx dA).symm
   have hK:x.g≠gd:=(zX hD.at.choose_spec hM.rw.at.choose_spec dA).symm
   refine zAF (g:=gd) (i:=c.n) (cap:=N) (z:=1) (e:=4) (wC [.bool true]) rfl s rfl rfl hD (by simpa using qx) kA (s.fct (.tmp 34)) (jY rfl rfl rfl rfl) (sH ql fnz) fun w he ho y0 s=>?_
   replace hE:=hE.bls he ho hS (fun q hq=>(by rw[hq];exact x0))
   replace hJ:=h9 _ _ _ hJ (zGx he (fun q hq=>⟨(by rw[hq];exact x0),(by rw[hq];exact hD.plain)⟩) I)
   replace I:=xQ I he.size
   replace hM:=hM.keep (he.block b5 (xP.1 hM.bx).1 hF) (he.block x.g hM.rw.lt hK) ho
   replace hD:=y0
   rw[zQ6]at hD
   refine zF rfl ?_
   have O:=s.below
   replace hE:=hE.below O
   replace hJ:=h9 _ _ _ hJ (yQ O I)
   replace I:=xQ I O.size
   replace hD:=hD.below O
   replace hM:=hM.below O
   replace s:=s.anewB rfl rfl
   refine fK<|fK<|rgK 2 ((35,.u (UF.eq (.func (.yield l) #[] #[])))::(36,.u (fWt c))::[]) s
    (oc zA<|oc (yJ (f:=fWt c) 5 kA (hz:=zEw _))<|zC) fun a w7 s=>?_
   have O:=s.below
   replace hE:=hE.below O
   replace hJ:=h9 _ _ _ hJ (yQ O I)
   replace I:=xQ I O.size
   replace hD:=hD.below O
   replace hM:=hM.below O
   have xz:x.out.length<(stl (qS G) N a_).length:=by rw[<-hR,hP];simp
   have x7:(stl (qS G) N a_).getD x.out.length wz=c:=by rw[<-hR,hP];simp
   refine zPJ rfl s iiz kA (zBX kA) (sH (fun hc=>by have:b6<_:=hU _ hc;omega) fnz) (hV x.out.length _ _ xz hJ ⟨eN,fun j f hj=>?_⟩) fun a w bv hr qj s=>?_
   .match j,hj with
    |0,hj=>obtain rfl:=mE hj;rw[zTi,x7];exact s.at.sl 36
   replace hE:=hE.rnd hr xt
   replace hD:=hD.rnd hr (fun hc=>by have:=hU _ hc;omega)
   replace hM:=hM.rnd hr (fun hc=>by have:=hU _ hc;omega) (fun hc=>by have:=hU _ hc;omega)
   replace I:=xQ I hr.size
   have hA:(bv=true->J (x.out.length+1) w)/\(bv=false->Z w):=⟨fun e=>by rcases qj with⟨_,h⟩|⟨e2,_⟩;(exact h);(rw[e]at e2;cases e2),fun e=>by rcases qj with⟨e2,_⟩|⟨_,h⟩;(rw[e]at e2;cases e2);(exact h)⟩
   clear hJ
   replace s:=s.anewB rfl rfl
   refine zBD (uB (!bv)) rfl s kA (zAv bv iiz (fun _=>rfl)) kA fun a w s=>zF rfl ?_
   have O:=s.below
   replace hE:=hE.below O
   replace hA:(bv=true->J (x.out.length+1) _)/\(bv=false->Z _):=⟨fun e=>h9 _ _ _ (hA.1 e) (yQ O I),fun e=>xq _ _ (hA.2 e) (yQ O I)⟩
   replace I:=xQ I O.size
   replace hD:=hD.below O
   replace hM:=hM.below O
   replace s:=s.anewB rfl rfl
   refine StS.cond s (!bv) iiz (fun e=>?_) (fun e=>?_)
   .have hZ:=hA.2 (by simpa using e)
    exact nR<|⟨s.nd,.tuple #[],by simp[results,results65],⟨_,rfl⟩,.inr hZ⟩
   .have hJ:=hA.1 (by simpa using e)
    clear hA
    refine nQ<|fK ?_
    have xl:=hE.g.row hN
    have x8:c.n<vs.length:=by rw[hE.g.ln,<-hN];exact hn
    have q2:=hE.g.at (i:=c.n) (by rw[<-hN];exact hn)
    refine rgE ((39,.Z (UF.eq (.slice (some ⟨gg,0,none⟩) N cap)))::(40,.X (fWt c) 4)::(41,.Z (uI (((c).n:Nat):Int)))::(42,.s (wB (wC [(vs.getD c.n (.slice none 0 0))]).cf))::(43,.u (UF.eq (vs.getD c.n (.slice none 0 0))))::(44,.u (uI ((ros (qS G c.n)).length:Int)))::(45,.u (uI 0))::[]) s
     (oc (zFG (b:=b1) (v:=(.slice (some ⟨gg,0,none⟩) N cap)) kA hE.w1 iiz)<|oc (zO (C:=cg (fWt c)) 4 kA)<|oc (yK (C:=cg (fWt c)) (k:=4) kA (h:=zDv))<|oc (zL (z:=1) (Cs:=sls vs) (i:=c.n) (C:=wC [(vs.getD c.n (.slice none 0 0))]) kA (zDy x8) (fun v W O h=>(by rw[show v=(Value.slice (some ⟨gg,0,none⟩) N cap)from h];exact(SF.row 1 (sls vs)).st _ _ _ xl (s.up O))) iiz)<|oc (z5 (C:=(wC [(vs.getD c.n (.slice none 0 0))]).cf) kA iiz yT)<|oc (qZ (z:=4) (Cs:=ros (qS G c.n)) kA (fun v W O h=>(by rw[show v=(vs.getD c.n (.slice none 0 0))from h];exact(SF.row 4 (ros (qS G c.n))).st _ _ _ q2 (s.up O))) (fun _=>rfl))<|oc zA<|zC) fun a w8 s=>?_
    have O:=s.below
    replace hE:=hE.below O
    replace hJ:=h9 _ _ _ hJ (yQ O I)
    replace I:=xQ I O.size
    replace hD:=hD.below O
    replace hM:=hM.below O
    replace s:=s.anewB rfl rfl
    refine rF<|yC (fun(y:Nat×Nat×Nat) a w=>y.1<=(qS G c.n).length/\W.heap.size<=y.2.1/\b6≠y.2.1/\W.heap.size<=w.heap.size/\SE b1 b2 gg cap N a_ vs G w/\q9 w gd 4 1 N (bls (x.done.set c.n true))/\QM w b5 y.2.1 y.2.2 (jN (x.done.set c.n true) c ((qS G c.n).take y.1) (zD7 wz Wt.lt x.L))/\J (x.out.length+1) w/\St w [(0,.u (UF.eq (.func (.yield l) #[] #[]))),(1,.u (UF.eq (pO b1 0))),(4,.u (UF.eq (.slice (some ⟨gd,0,none⟩) N N))),(5,.u (UF.eq (pO b5 0))),(43,.u (UF.eq (vs.getD c.n (.slice none 0 0)))),(44,.u (uI ((ros (qS G c.n)).length:Int))),(45,.u (uI (y.1:Int)))] [⟨6,86,CU.agg (fWt c),b6,true⟩] f65.ntmps [] a w) (fun y=>(qS G c.n).length-y.1) (0,x.g,x.cp) ⟨vS _,hg,hl,I,hE,hD,hM,hJ,s.keepK _ (sH zFL<|sH (.tail _ zFL)<|sH (.tail _ (.tail _ zFL))<|sH (.tail _ (.tail _ (.tail _ zFL)))<|sH (.head _)<|sH mz1<|sH mz2 fnz)⟩ fun y a w hx=>?_
    clear hM hD hE hJ I hg hl
    obtain⟨hk,hg,hl,I,hE,hD,hM,hJ,s⟩:=hx
    have qc:=hI.inner h0 ec hd (k:=y.1)
    refine rgQ ((46,.u (uB (decide ((y.1:Int)<((ros (qS G c.n)).length:Int)))))::[]) s
     (oc (zJ .i64 (y.1:Int) ((ros (qS G c.n)).length:Int) (decide ((y.1:Int)<((ros (qS G c.n)).length:Int))) iiz iiz rfl rfl)<|zC) fun a w9 s=>?_
    have O:=s.below
    replace hE:=hE.below O
    replace hJ:=h9 _ _ _ hJ (yQ O I)
    replace I:=xQ I O.size
    replace hD:=hD.below O
    replace hM:=hM.below O
    replace s:=s.anewB rfl rfl
    refine fK<|StS.cond s (decide ((y.1:Int)<((ros (qS G c.n)).length:Int))) iiz (fun e=>?_) (fun e=>?_)
    .have hs:y.1<(qS G c.n).length:=by have h7:=xW e;simp only[xT]at h7;omega
     have q1:((qS G c.n).getD y.1 (0,0))∈qS G c.n:=by rw[nX,mD hs];exact uO hs
     have xn:((qS G c.n).getD y.1 (0,0)).1<(x.done.set c.n true).length:=by rw[uC,hI.dl];exact(qo _ hn _ q1).1
     have qz:QB ((qS G c.n).getD y.1 (0,0)).2 1:=x6 _ hn _ q1
     refine nQ<|fK<|rF<|fK ?_
     have q2:=hE.g.at (i:=c.n) (by rw[<-hN];exact hn)
     refine rgK 2 ((47,.Y (fRo ((qS G c.n).getD y.1 (0,0))))::(48,.u (fRo ((qS G c.n).getD y.1 (0,0))))::[]) s
      (oc (zL (z:=4) (Cs:=ros (qS G c.n)) (i:=y.1) (C:=CU.agg (fRo ((qS G c.n).getD y.1 (0,0)))) kA (zF7 hs) (fun v W O h=>(by rw[show v=(vs.getD c.n (.slice none 0 0))from h];exact(SF.row 4 (ros (qS G c.n))).st _ _ _ q2 (s.up O))) iiz)<|oc (yJ (f:=fRo ((qS G c.n).getD y.1 (0,0))) 4 kA (hz:=zI7 _))<|zC) fun a w10 s=>yP (CU.len 4) (cs:=[.int .i64 0,.bool false,.slice none 0 0,.slice none 0 0]) kA rfl s kA (fun W=>rfl) rfl fun b8 a w s=>yI (fRo ((qS G c.n).getD y.1 (0,0))) rfl s zEh fun a w s=>zF rfl ?_
     have hn8:=s.inB_new (q:=b8) ⟨_,.head _,rfl,rfl⟩
     have qm:b8≠b5:=by have:=(xP.1 hM.bx).1;omega
     have qp:b8≠y.2.1:=by have:=hM.rw.lt;omega
     have O:=s.below
     replace hE:=hE.below O
     replace hJ:=h9 _ _ _ hJ (yQ O I)
     replace I:=xQ I O.size
     replace hD:=hD.below O
     replace hM:=hM.below O
     replace s:StS _ _ _ [⟨8,67,CU.agg (fRo ((qS G c.n).getD y.1 (0,0))),b8,true⟩,⟨6,86,CU.agg (fWt c),b6,true⟩] _ _ _ _:=s.freeze
     replace s:=s.anewB rfl rfl
     refine fK ?_
     have qd:(SF.row 1 (bls (x.done.set c.n true))).p (.slice (some ⟨gd,0,none⟩) N N) _:=hD.row (by simp[hI.dl])
     refine rgE ((49,.Z (UF.eq (.slice (some ⟨gd,0,none⟩) N N)))::(50,.X (fRo ((qS G c.n).getD y.1 (0,0))) 0)::(51,.Z (uI ((((qS G c.n).getD y.1 (0,0)).1:Nat):Int)))::(52,.s (wB (wC [.bool ((x.done.set c.n true).getD ((qS G c.n).getD y.1 (0,0)).1 false)]).cf))::(53,.Z (uB ((x.done.set c.n true).getD ((qS G c.n).getD y.1 (0,0)).1 false)))::(54,.u (uB (!((x.done.set c.n true).getD ((qS G c.n).getD y.1 (0,0)).1 false))))::[]) s
      (oc zA<|oc (zO (C:=cg (fRo ((qS G c.n).getD y.1 (0,0)))) 0 kA)<|oc (yK (C:=cg (fRo ((qS G c.n).getD y.1 (0,0)))) (k:=0) kA (h:=zEO))<|oc (zL (z:=1) (Cs:=bls (x.done.set c.n true)) (i:=((qS G c.n).getD y.1 (0,0)).1) (C:=wC [.bool ((x.done.set c.n true).getD ((qS G c.n).getD y.1 (0,0)).1 false)]) kA (zMB xn) (fun v W O h=>(by rw[show v=(Value.slice (some ⟨gd,0,none⟩) N N)from h];exact(SF.row 1 (bls (x.done.set c.n true))).st _ _ _ qd (s.up O))) iiz)<|oc (z5 (C:=(wC [.bool ((x.done.set c.n true).getD ((qS G c.n).getD y.1 (0,0)).1 false)]).cf) kA iiz yT)<|oc (zAv ((x.done.set c.n true).getD ((qS G c.n).getD y.1 (0,0)).1 false) iiz (fun _=>rfl))<|zC) fun a w11 s=>?_
     have O:=s.below
     replace hE:=hE.below O
     replace hJ:=h9 _ _ _ hJ (yQ O I)
     replace I:=xQ I O.size
     replace hD:=hD.below O
     replace hM:=hM.below O
     replace s:=s.anewB rfl rfl
     refine StS.cond s (!((x.done.set c.n true).getD ((qS G c.n).getD y.1 (0,0)).1 false)) iiz (fun e=>?_) (fun e=>?_)
     .have q6:=e
      refine jR [0] 15 ((55,.Z (UF.eq (pO b5 0)))::(56,.u (UF.eq (qI b5)))::(57,.X (fWt c) 0)::(58,.Z (fQN ((c).c)))::(59,.X (fRo ((qS G c.n).getD y.1 (0,0))) 1)::(60,.Z (fQN (((qS G c.n).getD y.1 (0,0)).2)))::(61,.s (fQS 1 [c.c,((qS G c.n).getD y.1 (0,0)).2]))::(62,.Z (fQN (c.c+((qS G c.n).getD y.1 (0,0)).2)))::(63,.X (fWt c) 3)::(64,.Z (uI (((c).s:Nat):Int)))::(65,.Z (uI ((c.s+1:Nat):Int)))::(66,.X (fRo ((qS G c.n).getD y.1 (0,0))) 0)::(67,.Z (uI ((((qS G c.n).getD y.1 (0,0)).1:Nat):Int)))::(68,.Z (fWt (⟨c.c+((qS G c.n).getD y.1 (0,0)).2,c.s+1,((qS G c.n).getD y.1 (0,0)).1⟩)))::(69,.u (fIW ⟨c.c+((qS G c.n).getD y.1 (0,0)).2,c.s+1,((qS G c.n).getD y.1 (0,0)).1⟩))::[]) hmix s kA
       (oc zA<|oc (zJn ⟨_,underlying106,fun _ e=>by cases e⟩ (fun v W h=>by rw[show v=_ from h];rfl))<|oc (zO (C:=cg (fWt c)) 0 kA)<|oc (jS (C:=cg (fWt c)) (k:=0) 3 kA (h:=zFY))<|oc (zO (C:=cg (fRo ((qS G c.n).getD y.1 (0,0)))) 1 kA)<|oc (jS (C:=cg (fRo ((qS G c.n).getD y.1 (0,0)))) (k:=1) 3 kA (h:=zI8))<|oc (y8 (fun u v W (hu:QNp ((c).c) u W) (hv:QNp (((qS G c.n).getD y.1 (0,0)).2) v W)=>zIa (m:=1) (wH hu qq) (wH hv qz)))<|oc (zK zD zQW (fun u0 W O (h0:(fQS 1 [c.c,((qS G c.n).getD y.1 (0,0)).2]).p u0 W)=>zIg (m:=1) (p:=c.c) (q:=((qS G c.n).getD y.1 (0,0)).2) h0 qq qz dA (hE.t.below (s.up O))))<|oc (zO (C:=cg (fWt c)) 3 kA)<|oc (yK (C:=cg (fWt c)) (k:=3) kA (h:=zCx))<|oc (yL .i64 (((c).s:Nat):Int) 1 ((c.s+1:Nat):Int) iiz iiz (wrap64 _ _ oA oA))<|oc (zO (C:=cg (fRo ((qS G c.n).getD y.1 (0,0)))) 0 kA)<|oc (yK (C:=cg (fRo ((qS G c.n).getD y.1 (0,0)))) (k:=0) kA (h:=zEO))<|oc (zGo (fun u v q W (hu:QNp (c.c+((qS G c.n).getD y.1 (0,0)).2) u W) (hv:v=.int .i64 ((c.s+1:Nat):Int)) (hq:q=.int .i64 ((((qS G c.n).getD y.1 (0,0)).1:Nat):Int))=>zUf (x:=⟨c.c+((qS G c.n).getD y.1 (0,0)).2,c.s+1,((qS G c.n).getD y.1 (0,0)).1⟩) hu hv hq))<|oc (zJn ⟨_,underlying86,fun _ e=>by cases e⟩ (fun v W h=>⟨v,rfl,h⟩))<|zC) fun Q' hQ a w12 s=>?_
      have O:=s.below
      replace hE:=hE.below O
      replace hJ:=h9 _ _ _ hJ (yQ O I)
      replace I:=xQ I O.size
      replace hD:=hD.below O
      replace hM:=hM.below O
      have hF:gd≠b5:=zX hD.at.choose_spec hM.bx dA
      have hK:gd≠y.2.1:=zX hD.at.choose_spec hM.rw.at.choose_spec dA
      have h6w:b6<_:=(xP.1 (s.boxAt (c:=6) rfl).choose_spec.1).1
      have xu:QB (c.c+((qS G c.n).getD y.1 (0,0)).2) 1:=qf _ _ _ (.cons xm q1) (by have:=hI.few.2;omega)
      refine zEC (T:=fun q=>q=b5∨q=y.2.1) (args:=#[qI b5,a.eval (.tmp 69)]) zD (enters_of func68 kA rfl) s rfl kA rfl rfl (fun q hq=>by rcases hq with rfl|rfl;(exact hM.bpl);(exact hM.rw.plain)) (sH (fun h=>by rcases h with h|h;(exact qm h);(exact qp h))<|sH (fun h=>by rcases h with h|h;(exact qy h);(exact hl h)) fnz) (by rw[cE];show #[a.eval (.tmp 56),a.eval (.tmp 69)]=_;rw[show a.eval (.tmp 56)=qI b5 from s.fct (.tmp 56)]) (zQO (x:=⟨c.c+((qS G c.n).getD y.1 (0,0)).2,c.s+1,((qS G c.n).getD y.1 (0,0)).1⟩) hM rfl (s.fct (.tmp 69)) (by have:=qc.1;omega) (fun z hz=>qf _ _ _ (qc.2 z hz).1 (qc.2 z hz).2) xu hE.t) fun a w hO he ho s=>?_
      obtain⟨g',xc,qv,hO⟩:=hO
      replace hl:b6≠g':=by rcases qv with e|e;(rw[e];exact hl);omega
      replace hE:=hE.bls he ho hS (fun q hq=>(by rcases hq with rfl|rfl;(exact hW);(exact hg)))
      replace hJ:=h9 _ _ _ hJ (zGx he (fun q hq=>⟨(by rcases hq with rfl|rfl;(exact hW);(exact hg)),(by rcases hq with rfl|rfl;(exact hM.bpl);(exact hM.rw.plain))⟩) I)
      replace I:=xQ I he.size
      replace hg:W.heap.size<=g':=by rcases qv with e|e;(rw[e];exact hg);(have:=he.size;omega)
      replace hD:=hD.keep (he.block gd hD.lt (fun h=>by rcases h with h|h;(exact hF h);(exact hK h))) ho
      replace hM:=hO
      refine zF rfl (hQ _ _ ?_)
      have O:=s.below
      replace hE:=hE.below O
      replace hJ:=h9 _ _ _ hJ (yQ O I)
      replace I:=xQ I O.size
      replace hD:=hD.below O
      replace hM:=hM.below O
      replace s:=s.anewB rfl rfl
      have qn:True:=trivial
      refine zP 1 ((71,.u (uI ((y.1+1:Nat):Int)))::[]) s kA
       (oc (yL .i64 (y.1:Int) 1 ((y.1+1:Nat):Int) iiz iiz (wrap64 _ _ oA oA))<|zC) fun a w13 s=>?_
      replace s:=s.drop [45]
      refine zBD (uI ((y.1+1:Nat):Int)) rfl s kA zA kA fun a w s=>zF rfl ?_
      have O:=s.below
      replace hE:=hE.below O
      replace hJ:=h9 _ _ _ hJ (yQ O I)
      replace I:=xQ I O.size
      replace hD:=hD.below O
      replace hM:=hM.below O
      replace s:=s.anewB rfl rfl
      replace s:=s.popB
      exact⟨(y.1+1,g',xc),(by show(qS G c.n).length-(y.1+1)<(qS G c.n).length-y.1;omega),hs,hg,hl,I,hE,hD,(by rw[zDU hs,if_neg (by simpa using q6)];exact hM),hJ,s.keepK _ (sH mz8<|sH mz9<|sH zC1<|sH zDW<|sH zFl<|sH zGN<|sH (.head _) fnz)⟩
     .have q6:=e
      refine nQ ?_
      have qn:True:=trivial
      refine zP 1 ((71,.u (uI ((y.1+1:Nat):Int)))::[]) s kA
       (oc (yL .i64 (y.1:Int) 1 ((y.1+1:Nat):Int) iiz iiz (wrap64 _ _ oA oA))<|zC) fun a w14 s=>?_
      replace s:=s.drop [45]
      refine zBD (uI ((y.1+1:Nat):Int)) rfl s kA zA kA fun a w s=>zF rfl ?_
      have O:=s.below
      replace hE:=hE.below O
      replace hJ:=h9 _ _ _ hJ (yQ O I)
      replace I:=xQ I O.size
      replace hD:=hD.below O
      replace hM:=hM.below O
      replace s:=s.anewB rfl rfl
      replace s:=s.popB
      exact⟨(y.1+1,y.2.1,y.2.2),(by show(qS G c.n).length-(y.1+1)<(qS G c.n).length-y.1;omega),hs,hg,hl,I,hE,hD,(by rw[zDU hs,if_pos (by simpa using q6)];exact hM),hJ,s.keepK _ (sH mz5<|sH mz6<|sH mz7<|sH mz8<|sH mz9<|sH zC1<|sH (.head _) fnz)⟩
    .have x5:=e
     refine rG ?_
     replace s:=s.popB
     have x4:y.1=(qS G c.n).length:=by have h7:=mB x5;simp only[xT]at h7;omega
     rw[x4,pA]at hM
     exact⟨⟨(x.done.set c.n true),jN (x.done.set c.n true) c (qS G c.n) (zD7 wz Wt.lt x.L),x.out++ [c],f',y.2.1,y.2.2⟩,(by show f'<x.f;omega),q5,(by rw[<-hR,hP];simp),(by show f'<=_;omega),hg,I,hE,hD,hM,(by show J (x.out++ [c]).length _;rw[uD];exact hJ),s.keepK _ (sH mz1<|sH mz2<|sH mz3<|sH mz4 fnz)⟩
 .have xy:x.L.length=0:=by have:=mB e;omega
  exact rG<|⟨s.nd,.tuple #[],by simp[results,results65],⟨_,rfl⟩,.inl (by rw[<-hR,zJH xy,pU];exact hJ)⟩
structure Low(N:Nat)(W W':World):Prop where
 size:W.heap.size<=W'.heap.size
 low:∀k:Nat,k<N->W'.heap[k]?=W.heap[k]?
 keep:y4 W W'
theorem Low.of_itr(h:Itr N W W'):Low N W W':=⟨h.size,h.low,h.keep⟩
theorem Low.of_below(h:Below W.heap.size W W')(hN:N<=W.heap.size):Low N W W':=⟨h.size,fun k I=>h.block k (vW I hN),zN h⟩
theorem Low.trans{U V:WB}(h:Low N U V)(k:Low N V W):Low N U W:=⟨xQ h.size k.size,fun q I=>(k.low q I).trans (h.low q I),h.keep.trans k.keep⟩
section
variable {S:Nat->Prop}{P:WG}{Q:Exit->Act->WB->Prop}{w0:WB}{K:List (Nat×KF)}{B:List Bx}{n:Nat}{ds:List Deferred}{a:Act}{w:WB}
theorem StS.hop(h:StS S w0 K B n ds a W)(I:BlS T W W')(hk:y4 W W')(h0:∀q,T q->w0.heap.size<=q)(hB:∀x,x∈B-> ¬T x.b)(hD:∀Ds,Marks w0.heap.size W ds Ds->∀D,D∈Ds-> ¬T D):StS S w0 K B n ds a W':=by
 refine⟨⟨I.os.trans h.gr.os,I.tape.trans h.gr.tape,I.output.trans h.gr.output,xQ h.gr.size I.size,fun k O hs=>(I.block k (vW O h.gr.size) fun ht=>by have:=h0 k ht;omega).trans (h.gr.block k O hs)⟩,
  h.size,h.nd,fun q hq=>KF.us (h.sl q hq) hk,wT hk B (fun x hx=>by
   obtain⟨_,_,_,h3,_⟩:=h.bx.mem x hx
   exact I.block _ (xP.1 h3).1 (hB x hx)) h.bx,?_,h.so⟩
 obtain⟨Ds,J⟩:=h.mks
 exact⟨Ds,J.eq,J.nodup,fun D hd=>⟨(J.at_ D hd).1,(I.block D (J.lt D hd) (hD Ds J D hd)).trans (J.at_ D hd).2⟩⟩
theorem zKV{g:WK}{ps:Array Tmp}{assign body:Code}{gf:Nat}{lb:Array WD}{Ef:Nat->List UF}{X:Nat->WB->Prop}
  (Kr:Nat->List (Nat×KF))(h:StS S w0 K B n ds a w)(hBr:(B.all fun x=>x.r)=true)
  (hg:∀v W,(Wd.fct (zAt K B) g).p v W->v=.func (.func gf) #[] lb)(eg:∀args w,(callFunc gf args).run P w=.ok (.enter gf args) w)
  (hT:∀q,T q->w0.heap.size<=q/\q<w.heap.size)(hBT:∀x,x∈B-> ¬T x.b)(hit:ItC P gf lb Ef N False T w)
  (hX:∀k W W',Low w.heap.size W W'->X k W->X k W')(hXp:∀k W,X k W->∀q,T q->zHV W q)(hx0:X 0 w)(hEl:∀k,(Ef k).length=ps.size)
  (hKr:∀k q,q∈Kr k->(q∈K/\zKz q.2=true/\ps.toList.contains q.1=false)∨ ∃(j:Nat) (f:UF),ps[j]?=some q.1/\(Ef k)[j]?=some f/\q.2=.u f)
  (hps:j9 ps.toList=true)(hpl:(ps.toList.all fun p=>Nat.blt p n)=true)(hpB:(B.all fun x=> !ps.toList.contains x.t)=true)
  (rounds:∀l k W a',k<N->X k W->w.heap.size<=W.heap.size->St W (Kr k) B n [] a' W->
   assign.wpIn (Fence.wide.inRound l) 0 P (Exit.then (fun a1 W1=>Below W.heap.size W W1/\∀W2,W2.heap.size=W1.heap.size->X k W2->
    (∀K1 B1,(K1.all fun q=>zKz q.2)=true->(B1.all fun x=>x.r)=true->St W K1 B1 n [] a1 W1->St W2 K1 B1 n [] a1 W2)->
    body.wpIn (Fence.wide.inRound l) 0 P (Exit.then (fun _ W3=>BlS T W2 W3/\X (k+1) W3) (fun _ _ _=>False)) a1 W2) (fun _ _ _=>False)) a' W)
  (done:∀D W,X N W->StS S w0 K B n (mark D::ds) { a with defers:=mark D::a.defers } W->Q .normal { a with defers:=mark D::a.defers } W):
  (Code.rangeFunc g ps assign body).wpIn Fence.wide 0 P Q a w:=by
 refine wpIn_rangeFunc ?_
 intro fn hfn
 show ∃l mark w₁ d w₁' f args w₂,(Instr.enterLoop fn a.tmps ps assign body none).run P w=_/\_
 obtain⟨rec,hrec⟩:∃rec:LoopState->WF Code->Loop,rec=fun st pe=>{ state:=st,pending:=pe,fn,tmps:=a.tmps,params:=ps,assign,body,defers:=w.heap.size }:=⟨_,rfl⟩
 obtain⟨W1,hW1⟩:∃W1,(w.alloc (.deferred (some []))).alloc (.loop (rec .ready none))=W1:=⟨_,rfl⟩
 have hL1:W1.heap[w.heap.size+1]?=some (.loop (rec .ready none)):=by
  rw[<-hW1];have:=bT (w.alloc (.deferred (some []))) (.loop (rec .ready none));rwa [cB]at this
 have hK1:W1.heap[w.heap.size]?=some (.deferred (some [])):=by
  rw[<-hW1];exact(eM _ _ _ eN).trans (bT w _)
 have hb1:Below w.heap.size w W1:=by
  rw[<-hW1];exact((xF _ w).alloc lr _).alloc eN _
 have hz1:W1.heap.size=w.heap.size+2:=by rw[<-hW1];simp
 have hgv:a.eval g=.func (.func gf) #[] lb:=hg _ _ (h.fct g)
 have hold:=h.old
 have hw0:=h.gr.size
 have hi1:Itr w.heap.size w W1:=yQ hb1 lr
 have hs1:=h.itr hi1 hw0 hold
 have hDl:∀{W:WB} {o:Obj},W.heap[w.heap.size+1]?=some o->(∃r,o=.loop r)->∀Ds,Marks w0.heap.size W ds Ds->w.heap.size+1 ∉ Ds:=fun {W o} ho hr Ds hm hh=>by
  obtain⟨r,rfl⟩:=hr
  rw[(hm.at_ _ hh).2]at ho
  cases ho
 have hDs:∀{W:WB} Ds,Marks w0.heap.size W ds Ds->∀D,D∈Ds->D<w.heap.size:=fun {W} Ds hm D hd=>by
  obtain⟨Ds',hm'⟩:=h.mks
  have:Ds=Ds':=by
   have e:=hm.eq.symm.trans hm'.eq
   exact zHw e
  subst this
  exact hm'.lt D hd
 refine⟨w.heap.size+1, [{ target:=.collected w.heap.size,args:=#[] }],W1,{ target:=.fn (.func gf) lb,args:=#[.func (.yield (w.heap.size+1)) #[] #[]] },W1,gf,
  #[.func (.yield (w.heap.size+1)) #[] #[]]++lb,W1,?_,?_,?_,?_,fun h=>absurd h (by simp[Fence.wide]),?_⟩
 .rw[<-hW1,hrec];exact run_enterLoop_outer _ _ _ _ _
 .simp only[resolve,hgv]
  simp[go_sem]
 .intro f' _;trivial
 .simp[invoke,go_sem,eg]
 .refine bB.2 ((hit (w.heap.size+1)
   (fun k W=>StS S w0 K B n ds a W/\W.heap[w.heap.size+1]?=some (.loop (rec .ready none))/\W.heap[w.heap.size]?=some (.deferred (some []))/\w.heap.size+2<=W.heap.size/\X k W)
   (fun _=>False) W1 oA hb1 (zN hb1)
   (fun k A B' ⟨h1,h3,h4,h5,h6⟩ hi=>by
    have hlow:Itr w.heap.size A B':=⟨hi.os,hi.tape,hi.output,hi.size,fun q hq=>hi.low q oA,hi.oth,hi.keep⟩
    exact⟨h1.itr hlow hw0 hold,hi.oth _ _ h3 rfl,hi.oth _ _ h4 rfl,xQ h5 hi.size,hX _ _ _ (.of_itr hlow) h6⟩)
   (fun _ _ h _=>h) (fun he=>he.elim) ?_ ⟨hs1,hL1,hK1,oA,hX _ _ _ (.of_itr hi1) hx0⟩).mono ?_)
  .rintro k W xs hk ⟨hs,hl,hd,hz5,hxk⟩ ⟨hxs,hev⟩
   have hlt:w.heap.size+1<W.heap.size:=(xP.1 hl).1
   have hy:=run_yield (P:=P) (args:=xs) hl (by rw[hrec];exact hxs.trans (hEl k))
   rw[hrec]at hy
   have hxs':xs.size=ps.size:=hxs.trans (hEl k)
   have hzip:(ps.zip xs).foldl (fun t (p,v)=>t.setIfInBounds p v) a.tmps=(ps.toList.zip xs.toList).foldl (fun t (p,v)=>t.setIfInBounds p v) a.tmps:=by
    rw[<-Array.foldl_toList,Array.toList_zip]
   have hzf:(ps.toList.zip xs.toList).map (·.1)=ps.toList:=by
    rw[List.map_fst_zip]
    simp[hxs']
   have hnd:ps.toList.Nodup:=zFI hps
   have hs0:St W (Kr k) B n [] { tmps:=(ps.zip xs).foldl (fun t (p,v)=>t.setIfInBounds p v) a.tmps,defers:=[] } W:=by
    refine⟨BlS.refl _ _,?_,rfl,fun q hq=>?_,?_,⟨[],Marks.nil _ _⟩,.inr fun _ h=>h⟩
    .show((ps.zip xs).foldl (fun t (p,v)=>t.setIfInBounds p v) a.tmps).size=n
     rw[hzip,zEu]
     exact h.size
    .show q.2.p W (((ps.zip xs).foldl (fun t (p,v)=>t.setIfInBounds p v) a.tmps).getD q.1 undef) W
     rw[hzip]
     rcases hKr k q hq with⟨h1,h2,h3⟩|⟨j,f,h1,h2,h3⟩
     .rw[zBE q.1 _ _ (by rw[hzf];intro hc;rw[bV.2 hc]at h3;cases h3)]
      have:=hs.sl q h1
      cases hq2:q.2 with
      |u f=>rw[hq2]at this;exact this
      |o f=>rw[hq2]at h2;cases h2
     .have hj:j<ps.size:=(xP.1 h1).1
      have hjx:j<xs.size:=oA
      have e1:=hev j f h2
      have e2:xs.getD j undef=xs[j]:=by rw[xS,bR hjx];rfl
      have e3:ps[j]=q.1:=(xP.1 h1).2
      rw[zGP _ _ q.1 xs[j] (by rw[hzf];exact hnd) (by
       refine List.mem_iff_getElem?.2 ⟨j,?_⟩
       rw[List.getElem?_zip_eq_some]
       exact⟨by rw[nH];exact h1,by rw[nH,bR hjx]⟩) (by
       have:=xR.1 hpl q.1 (by rw[<-e3];exact Array.mem_toList_iff.2 (cU hj))
       rw[h.size]
       simpa using this)]
      rw[h3]
      rw[e2]at e1
      exact e1
    .refine wX B (fun x hx=>.inl (by simpa using xR.1 hBr x hx)) (fun x hx=>?_) hs.bx
     show((ps.zip xs).foldl (fun t (p,v)=>t.setIfInBounds p v) a.tmps).getD x.t undef=_
     rw[hzip]
     refine zBE _ _ _ ?_
     rw[hzf]
     intro hc
     have:=xR.1 hpB x hx
     rw[bV.2 hc]at this
     cases this
   refine⟨fn,_,assign,body,hy,roundIn_of_wpIn hfn (cX ?_ (rounds (w.heap.size+1) k W _ hk hxk oA hs0))⟩
   intro e a1 Wa hp
   cases e with
   | normal=>
    obtain⟨hgr,hcont⟩:=hp
    have hla:Wa.heap[w.heap.size+1]?=some (.loop (rec .ready none)):=(hgr.block _ hlt).trans hl
    have hda:Wa.heap[w.heap.size]?=some (.deferred (some [])):=(hgr.block _ oA).trans hd
    have hlta:w.heap.size+1<Wa.heap.size:=(xP.1 hla).1
    refine⟨_,run_beginRound hla (by rw[hrec]),?_⟩
    obtain⟨W2,hW2⟩:∃W2,Wa.putObj (w.heap.size+1) (.loop { rec .ready none with state:=.busy })=W2:=⟨_,rfl⟩
    rw[hW2]
    have hl2:W2.heap[w.heap.size+1]?=some (.loop { rec .ready none with state:=.busy }):=by rw[<-hW2];exact eF hlta
    have hd2:W2.heap[w.heap.size]?=some (.deferred (some [])):=by rw[<-hW2];exact(bQ oA).trans hda
    have hz2:W2.heap.size=Wa.heap.size:=by rw[<-hW2,eA]
    have hk2:y4 Wa W2:=fun q u hq=>by
     by_cases e:q.block=w.heap.size+1
     .rw[zCN hla rfl e]at hq
      cases hq
     .rw[<-hW2]
      exact(bO (bQ e)).trans hq
    have ho2:∀q,q≠w.heap.size+1->W2.heap[q]?=Wa.heap[q]?:=fun q hq=>by rw[<-hW2];exact bQ hq
    have hlow2:Low w.heap.size W W2:=(Low.of_below hgr oA).trans ⟨oA,fun q hq=>ho2 q oA,hk2⟩
    have hx2:=hX _ _ _ hlow2 hxk
    have hbody:=hcont W2 hz2 hx2 (fun K1 B1 hu1 hB1 hs'=>(hs'.jump (T:=fun q=>q=w.heap.size+1) hu1 hB1 ⟨by rw[<-hW2];rfl,by rw[<-hW2];rfl,by rw[<-hW2];rfl,oA,fun q _ hq=>ho2 q hq⟩ hk2 (fun x hx e=>by
     obtain⟨cs,_,_,h3,_⟩:=hs'.bx.mem x hx
     rw[e,hla]at h3
     cases h3)))
    refine cX ?_ hbody
    intro e a3 W3 hp3
    cases e with
    | normal=>
     obtain⟨hT3,hx3⟩:=hp3
     have hTl:∀q,T q->q≠w.heap.size+1/\q≠w.heap.size:=fun q hq=>by have:=(hT q hq).2;omega
     have hl3:W3.heap[w.heap.size+1]?=some (.loop { rec .ready none with state:=.busy }):=(hT3.block _ oA (fun hh=>(hTl _ hh).1 rfl)).trans hl2
     have hd3:W3.heap[w.heap.size]?=some (.deferred (some [])):=(hT3.block _ oA (fun hh=>(hTl _ hh).2 rfl)).trans hd2
     have hlt3:w.heap.size+1<W3.heap.size:=(xP.1 hl3).1
     have hk3:y4 W2 W3:=zCs hT3 (hXp k W2 hx2)
     have hrun:=run_endRound (P:=P) none hl3
     obtain⟨W4,hW4⟩:∃W4,W3.putObj (w.heap.size+1) (.loop (rec .ready none))=W4:=⟨_,rfl⟩
     have hrun4:(Instr.endRound (w.heap.size+1) none).run P W3=.ok (.bool true) W4:=by rw[<-hW4,hrun,hrec];rfl
     have ho4:∀q,q≠w.heap.size+1->W4.heap[q]?=W3.heap[q]?:=fun q hq=>by rw[<-hW4];exact bQ hq
     have hz4:W4.heap.size=W3.heap.size:=by rw[<-hW4,eA]
     have hk4:y4 W3 W4:=fun q u hq=>by
      by_cases e:q.block=w.heap.size+1
      .rw[zCN hl3 rfl e]at hq
       cases hq
      .exact(bO (ho4 _ e)).trans hq
     have hz3:=hT3.size
     have hza:=hgr.size
     have hb4:BlS (fun q=>T q∨q=w.heap.size+1) W W4:=by
      refine⟨?_,?_,?_,oA,fun q hq hn=>?_⟩
      .rw[<-hW4];exact hT3.os.trans (by rw[<-hW2];exact hgr.os)
      .rw[<-hW4];exact hT3.tape.trans (by rw[<-hW2];exact hgr.tape)
      .rw[<-hW4];exact hT3.output.trans (by rw[<-hW2];exact hgr.output)
      .have hne:q≠w.heap.size+1:=fun e=>hn (.inr e)
       rw[ho4 q hne,hT3.block q oA (fun hh=>hn (.inl hh)),ho2 q hne]
       exact hgr.block q hq
     have hkW:y4 W W4:=((zN hgr).trans hk2).trans (hk3.trans hk4)
     have hx4:=hX _ _ _ (⟨oA,fun q hq=>ho4 q oA,hk4⟩:Low w.heap.size W3 W4) hx3
     refine⟨_,W4,hrun4,.inl ⟨rfl,hs.hop hb4 hkW (fun q hq=>?_) (fun x hx hq=>?_) (fun Ds hm D hd' hq=>?_),by rw[<-hW4];exact eF hlt3,(ho4 _ oA).trans hd3,oA,hx4⟩,?_⟩
     .rcases hq with hq|hq
      .exact(hT q hq).1
      .omega
     .rcases hq with hq|hq
      .exact hBT x hx hq
      .have:=hold x hx;omega
     .rcases hq with hq|hq
      .obtain⟨cs,t,z,h3,_⟩:=hXp k W hxk D hq
       rw[(hm.at_ D hd').2]at h3
       cases h3
      .subst hq
       exact hDl hl ⟨_,rfl⟩ Ds hm hd'
     .exact zMe hb4 (fun q hq=>by
       rcases hq with hq|hq
       .have:=(hT q hq).2;omega
       .omega) oA (l:=w.heap.size+1) oA hl rfl (fun q hq=>hq) hkW
    |_=>exact hp3.elim
   |_=>exact hp.elim
  .rintro e W2 ⟨⟨v,rfl⟩,(⟨hs,hl,hd,_,hx⟩|hz)⟩
   .have hxo:∀o',X N (W2.putObj (w.heap.size+1) o'):=fun o'=>hX _ _ _ (⟨by rw[eA];exact vR _,fun q hq=>bQ oA,fun q u hq=>by
     by_cases e:q.block=w.heap.size+1
     .rw[zCN hl rfl e]at hq
      cases hq
     .exact(bO (bQ e)).trans hq⟩:Low w.heap.size W2 _) hx
    have hmo:∀o':Obj,StS S w0 K B n (mark w.heap.size::ds) { a with defers:=mark w.heap.size::a.defers } (W2.putObj (w.heap.size+1) o'):=fun o'=>
     (hs.put (o':=o') hl rfl (hDl hl ⟨_,rfl⟩) (.inr oA)).more hw0 ((bQ oA).trans hd) (fun Ds hm hh=>absurd (hDs Ds hm _ hh) (rK _))
    exact⟨none,_,by have:=run_endLoop (P:=P) hl (by rw[hrec];simp);rw[hrec]at this;exact this,done _ _ (hxo _) (hmo _)⟩
   .exact hz.elim
end
section
variable {F:Fence}{m:Nat}{P:WG}{ops:Array Oper}{Q:Exit->Act->WB->Prop}{E:Array Bool->Nat->WD->WB->Prop}{C:Array Bool->WB->Prop}{R:Nat->WB->WB->Prop}{a0:Act}{k:Nat}
structure FR(ops:Array Oper)(E:Array Bool->Nat->Value->World->Prop)(C:Array Bool->World->Prop)(a0:Act)(k:Nat)(listed:Array Bool)(a:Act)(w:World):Prop where
 cls:C listed w
 size:a.tmps.size=a0.tmps.size
 nd:a.defers=a0.defers
 keep:∀t,(∀j,j<k->zY ops j≠some t)->a.tmps.getD t undef=a0.tmps.getD t undef
 vals:∀j,j<k->listed.getD j false=true->∀t,zY ops j=some t->E listed j (a.tmps.getD t undef) w
 old:∀j,j<k->listed.getD j false=false->∀t,zY ops j=some t->a.tmps.getD t undef=a0.tmps.getD t undef
theorem zTg(hq:zA9 ops=true)(hQ:zCX ops (Array.replicate ops.size false) k=true)(hk:k<=ops.size)(hJ:q8 ops=true)(hV:jZ ops a0.tmps.size=true)
  (hC:∀i (l:Array Bool) w w',i<k->l.size=ops.size->l.getD i false=false->C l w->R i w w'->C (l.setIfInBounds i true) w')(hE:∀i j (l:Array Bool) v w w',i<k->j<k->i≠j->l.size=ops.size->l.getD i false=false->l.getD j false=true->zDZ ops l->(∀o,ops[i]?=some o->∀e∈o.after,Region.binds .any e=true->l.getD e.on false=true)->E l j v w->R i w w'->E (l.setIfInBounds i true) j v w')
  (hw:∀i o,i<k->ops[i]?=some o->∀(listed:Array Bool) a w,FR ops E C a0 k listed a w->listed.getD i false=false->(∀e∈o.after,Region.binds .any e=true->listed.getD e.on false=true)->∀Kk:Act->WB->Prop,(∀v w',E (listed.setIfInBounds i true) i v w'->R i w w'->Kk (a.put o.dst v) w')->wpOpIn F m P ops (qV Q) i Kk a w)
  (hF:∀a w,FR ops E C a0 k (lst ops.size (List.range k)) a w->zKx F m P ops (fun _=>True) Q (List.range k) a w):
  ∀(fuel:Nat) (listed:Array Bool) (a:Act) (w:WB),listed.count false=fuel->listed.size=ops.size->(∀i,k<=i->listed.getD i false=false)->zDZ ops listed->FR ops E C a0 k listed a w->jP F m P .any ops ops.size (fun _=>True) (qV Q) fuel listed a w:=by
 intro fuel
 have h7:∀(listed:Array Bool) (a:Act) (w:WB),listed.size=ops.size->(∀i,k<=i->listed.getD i false=false)->(∀i,i<k->listed.getD i false=true)->FR ops E C a0 k listed a w->jP F m P .any ops ops.size (fun _=>True) (qV Q) (listed.count false) listed a w:=fun listed a w hs J I hf=>by
  have hl:listed=lst ops.size (List.range k):=zE3 hs fun i _=>by
   cases h:inL (List.range k) i with
   |true=>exact I i (xV.1 (zE8 h))
   |false=>
    refine J i (Nat.not_lt.1 fun hi=>?_)
    rw[zFO (xV.2 hi)]at h
    cases h
  rw[hl]at hf ⊢
  exact hF a w hf
 induction fuel with
 | zero=>
  intro listed a w hc hs J hn hf
  rw[<-hc]
  refine h7 listed a w hs J (fun i hi=>?_) hf
  cases hg:listed.getD i true with
  |true=>
   have O:i<listed.size:=oA
   simp[O]at hg ⊢
   exact hg
  |false=>have:=jT hg;omega
 | succ fuel ih=>
  intro listed a w hc hs J hn hf
  by_cases I:∀i,i<k->listed.getD i false=true
  .rw[<-hc]
   exact h7 listed a w hs J I hf
  .simp only[eC]at I
   obtain⟨u,hO,hu⟩:=I
   have O:u<listed.size:=oA
   have hS:listed.getD u true=false:=by
    simp[O]at hu ⊢
    exact hu
   have hA:∀i,listed.getD i true=false->Region.ready .any ops listed≠ []:=by
    intro i
    induction i using Nat.strongRecOn with
    | _ i ihi=>
     intro hi h6
     have O:i<listed.size:=by
      rcases xZ i listed.size with e|e
      .exact e
      .simp[bY e]at hi
     have ho:ops[i]?=some (ops[i]'(by rw[<-hs];exact O)):=bR _
     by_cases I:∀e∈(ops[i]'(by rw[<-hs];exact O)).after,Region.binds .any e=true->listed.getD e.on false=true
     .have hm:i∈Region.ready .any ops listed:=cC.2 ⟨hi,_,ho,I⟩
      rw[h6]at hm
      cases hm
     .simp only[eC]at I
      obtain⟨e,he,hb,hg⟩:=I
      have hL:=zAV hq ho he hb
      refine ihi e.on hL ?_ h6
      have hK:e.on<listed.size:=oA
      simp[hK]at hg ⊢
      exact hg
   refine⟨fun h6=>(hA u hS h6).elim,fun i hi=>?_⟩
   obtain⟨hy,o,ho,I⟩:=cC.1 hi
   have hT:=(xP.1 ho).1
   have hh:i<k:=by
    rcases xZ i k with e|e
    .exact e
    .exfalso
     have h1:=xR.1 hQ i (xV.2 hT)
     rw[bD oA,cM]at h1
     have h2:=xR.1 h1 u (xV.2 hO)
     have h3:(Array.replicate ops.size false).getD u true=false:=by
      rw[xS,eE,if_pos oA]
      rfl
     rw[h3,cM]at h2
     exact hu (zAW hn _ u i o ho I h2)
   have h8:listed.getD i false=false:=by
    have O:i<listed.size:=oA
    simp[O]at hy ⊢
    exact hy
   refine hw i o hh ho listed a w hf h8 I _ fun v w' hv hR=>⟨.inr trivial,?_⟩
   refine ih (listed.setIfInBounds i true) (a.put o.dst v) w' ?_ (by simpa using hs) (fun j hj=>?_) (fun j oj hj h4 e he hx=>?_) ⟨hC i _ _ _ hh hs h8 hf.cls hR,by rw[zBZ];exact hf.size,by rw[zA5];exact hf.nd,fun t ht=>?_,fun j hj h0 t ht=>?_,fun j hj h0 t ht=>?_⟩
   .have:=jT hy
    omega
   .rw[bF false oA]
    exact J j hj
   .by_cases e2:j=i
    .subst e2
     rw[ho]at h4
     cases h4
     have hL:=zAV hq ho he hx
     rw[bF false oA]
     exact I e he hx
    .rw[bF false (xY e2)]at hj
     have:=hn j oj hj h4 e he hx
     by_cases e3:e.on=i
     .rw[e3]
      have O:i<listed.size:=oA
      simp[O]
     .rw[bF false (xY e3)]
      exact this
   .rw[zB7 (fun hd=>ht i hh (by rw[jE ho];exact hd))]
    exact hf.keep t ht
   .by_cases e2:j=i
    .subst e2
     rw[jE ho]at ht
     have:(a.put o.dst v).tmps.getD t undef=v:=by
      rw[ht]
      exact jL (by rw[hf.size];exact qG hV ho ht) v
     rw[this]
     exact hv
    .rw[bF false (xY e2)]at h0
     rw[zB7 (fun hd=>by
      obtain⟨oj,h4,hz⟩:=qE ht
      exact jM hJ ho h4 (xY e2) hd hz)]
     exact hE i j _ _ _ _ hh hj (xY e2) hs h8 h0 hn (fun o' hG=>by rw[ho]at hG;cases hG;exact I) (hf.vals j hj h0 t ht) hR
   .by_cases e2:j=i
    .subst e2
     have O:j<listed.size:=oA
     rw[xS,cQ O]at h0
     cases h0
    .rw[bF false (xY e2)]at h0
     rw[zB7 (fun hd=>by
      obtain⟨oj,h4,hz⟩:=qE ht
      exact jM hJ ho h4 (xY e2) hd hz)]
     exact hf.old j hj h0 t ht
theorem zJ2(E:Array Bool->Nat->WD->WB->Prop)(C:Array Bool->WB->Prop)(R:Nat->WB->WB->Prop)(k:Nat)(hmix:P.follows .mixedOrders=true)(hs:a0.tmps.size=n)
  (h:(zA9 ops&&zCX ops (Array.replicate ops.size false) k&&decide (k<=ops.size)&&q8 ops&&jZ ops n&&(List.range (ops.size-k)).all fun r=>Region.ready .any ops (yM ops.size (k+r))==[k+r])=true)
  (hC:∀i (l:Array Bool) w w',i<k->l.size=ops.size->l.getD i false=false->C l w->R i w w'->C (l.setIfInBounds i true) w')(hE:∀i j (l:Array Bool) v w w',i<k->j<k->i≠j->l.size=ops.size->l.getD i false=false->l.getD j false=true->zDZ ops l->(∀o,ops[i]?=some o->∀e∈o.after,Region.binds .any e=true->l.getD e.on false=true)->E l j v w->R i w w'->E (l.setIfInBounds i true) j v w')(h0:∀l w',(∀i,l.getD i false=false)->Below w.heap.size w w'->C l w')
  (I:∀i o,i<k->ops[i]?=some o->∀(listed:Array Bool) a w,FR ops E C a0 k listed a w->listed.getD i false=false->(∀e∈o.after,Region.binds .any e=true->listed.getD e.on false=true)->∀Kk:Act->WB->Prop,(∀v w',E (listed.setIfInBounds i true) i v w'->R i w w'->Kk (a.put o.dst v) w')->wpOpIn F m P ops (qV Q) i Kk a w)
  (O:∀Q':Exit->Act->WB->Prop,(∀a w,Q .normal a w->Q' .normal a w)->∀a w,C (lst ops.size (List.range k)) w->a.tmps.size=n->a.defers=a0.defers->(∀t,(∀j,j<k->zY ops j≠some t)->a.tmps.getD t undef=a0.tmps.getD t undef)->(∀j,j<k->∀t,zY ops j=some t->E (lst ops.size (List.range k)) j (a.tmps.getD t undef) w)->zBj F m P ops Q' k a w):(Code.region id ops true).wpIn F m P Q a0 w:=by
 simp only[xU,bE]at h
 obtain⟨⟨⟨⟨⟨h1,h2⟩,h3⟩,h4⟩,h5⟩,h6⟩:=h
 refine zZ ops.size (fun _=>True) hmix ?_
 have hd:Below w.heap.size w w.drew:=(xF _ w).drew
 have J:∀i d,(Array.replicate ops.size false).getD i d=if i<ops.size then false else d:=fun i d=>by
  rw[xS,eE]
  split<;>rfl
 refine zTg (E:=E) (C:=C) (R:=R) (a0:=a0) (k:=k) h1 h2 h3 h4 (by rw[hs];exact h5) hC hE I (fun a w hf=>?_) _ _ a0 w.drew (eX ..) eN (fun i _=>by rw[J];split<;>rfl) (fun i o hi=>by rw[J]at hi;split at hi<;>cases hi) ⟨h0 _ _ (fun i=>by rw[J];split<;>rfl) hd,rfl,rfl,fun _ _=>rfl,(fun j hj hl=>by rw[J]at hl;split at hl<;>cases hl),fun _ _ _ _ _=>rfl⟩
 refine zEP (k:=k) (fun r J=>(by have:=xR.1 h6 r (xV.2 J);simpa using this)) (ops.size-k) 0 _ a w oA (fun i _=>?_) (O (qV Q) iiz a w hf.cls (by rw[hf.size];exact hs) hf.nd hf.keep fun j hj t ht=>hf.vals j hj (by rw[zAT oA];exact zFO (xV.2 hj)) t ht)
 rw[uM]
 cases e:inL (List.range k) i with
 |true=>exact(eY (xV.1 (zE8 e))).symm
 |false=>exact(bD fun hk=>by rw[zFO (xV.2 hk)]at e;cases e).symm
theorem zA2(E:Nat->WD->WB->Prop)(C:Array Bool->WB->Prop)(R:Nat->WB->WB->Prop)(k:Nat)(hmix:P.follows .mixedOrders=true)(hs:a0.tmps.size=n)
  (J:(zA9 ops&&zCX ops (Array.replicate ops.size false) k&&decide (k<=ops.size)&&q8 ops&&jZ ops n&&(List.range (ops.size-k)).all fun r=>Region.ready .any ops (yM ops.size (k+r))==[k+r])=true)
  (hC:∀i (l:Array Bool) w w',i<k->l.size=ops.size->l.getD i false=false->C l w->R i w w'->C (l.setIfInBounds i true) w')(hE:∀i j v w w',i<k->j<k->i≠j->E j v w->R i w w'->E j v w')(h0:∀l w',(∀i,l.getD i false=false)->Below w.heap.size w w'->C l w')
  (h:∀i o,i<k->ops[i]?=some o->∀(listed:Array Bool) a w,FR ops (fun _=>E) C a0 k listed a w->listed.getD i false=false->(∀e∈o.after,Region.binds .any e=true->listed.getD e.on false=true)->∀Kk:Act->WB->Prop,(∀v w',E i v w'->R i w w'->Kk (a.put o.dst v) w')->wpOpIn F m P ops (qV Q) i Kk a w)
  (I:∀Q':Exit->Act->WB->Prop,(∀a w,Q .normal a w->Q' .normal a w)->∀a w,C (lst ops.size (List.range k)) w->a.tmps.size=n->a.defers=a0.defers->(∀t,(∀j,j<k->zY ops j≠some t)->a.tmps.getD t undef=a0.tmps.getD t undef)->(∀j,j<k->∀t,zY ops j=some t->E j (a.tmps.getD t undef) w)->zBj F m P ops Q' k a w):(Code.region id ops true).wpIn F m P Q a0 w:=
 zJ2 (fun _=>E) C R k hmix hs J hC (fun i j _ v w w' hi hj O _ _ _ _ _=>hE i j v w w' hi hj O) h0 h I
end
end Go.Proofs.Wd
