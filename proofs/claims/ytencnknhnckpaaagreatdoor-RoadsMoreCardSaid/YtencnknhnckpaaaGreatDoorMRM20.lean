/- Natural numbers as values; the walks of gcd's Reduce, Lcm, Coprime; Th and what it needs. -/
import Derived.Test.YtencnknhnckpaaaGreatDoorMRM18
import Derived.Test.YtencnknhnckpaaaGreatDoorMRM13
import Derived.Test.YtencnknhnckpaaaGreatDoorMRM7
import Derived.Test.YtencnknhnckpaaaGreatDoorMRM19
import Derived.Test.YtencnknhnckpaaaGreatDoorMRM1
import Derived.Test.YtencnknhnckpaaaGreatDoorMRM17
import Derived.Test.YtencnknhnckpaaaGreatDoorMRM9
import Derived.Test.YtencnknhnckpaaaGreatDoorMRM16
import Derived.Test.YtencnknhnckpaaaGreatDoorMRM6
theorem kH {P:Prop} (h:P:=by kernel_rfl):P:=h
theorem oO {P:Prop} (h:P:=by omega):P:=h
theorem dA {P:Prop} (h:P:=by decide):P:=h
abbrev sC:=@Go.wpIn_seq
abbrev sD:=@Nat.le_trans
abbrev sE:=@Go.wpIn_ret
abbrev sF:=@Array.getElem?_eq_some_iff
abbrev sG:=@Nat.lt_of_le_of_lt
abbrev sH:=@Go.RowKit.Below.refl
abbrev sI:=@Go.wpIn_skip
abbrev sJ:=@Nat.lt_of_lt_of_le
abbrev sK:=@List.all_eq_true
abbrev sL:=@Nat.le_refl
abbrev sM:=@Nat.zero_le
abbrev sN:=@Nat.div_le_self
abbrev sO:=@Go.wpIn_block
abbrev sP:=@List.map_toArray
abbrev sQ:=@of_decide_eq_true
abbrev sR:=@List.mem_range
abbrev sS:=@Option.some.inj
abbrev sT:=@Go.wpIn_exit
abbrev sU:=@Nat.lt_irrefl
abbrev sV:=@Nat.eq_zero_or_pos
abbrev sW:=@Go.World.cell?_of_block
abbrev sX:=@decide_eq_false
abbrev sY:=@List.mem_singleton
abbrev sZ:=@Go.World.putObj_heap_other
abbrev tA:=@Nat.mul_le_mul_right
abbrev tB:=@Nat.pow_le_pow_right
abbrev tC:=@Array.getD_eq_getD_getElem?
abbrev tD:=@Go.getD_set_ne
abbrev tE:=@decide_eq_true
abbrev tF:=@List.mem_cons
abbrev tG:=@Go.CallsIn.mono
abbrev tH:=@List.getElem?_eq_getElem
abbrev tI:=@List.getElem?_drop
abbrev tJ:=@Nat.succ_mul
abbrev tK:=@Go.Oper.semAt_eq
abbrev tL:=@Go.run_underlying
abbrev tM:=@List.map_set
abbrev tN:=@Nat.mul_assoc
abbrev tO:=@Int.tdiv_eq_ediv_of_nonneg
abbrev tP:=@Go.World.block_lt_of_cell?
abbrev tQ:=@Bool.and_eq_true
abbrev tR:=@List.length_map
abbrev tS:=@of_decide_eq_false
abbrev tT:=@List.length_take
abbrev tU:=@List.getElem?_take
abbrev tV:=@Option.map_some
abbrev tW:=@Go.World.alloc_heap_new
abbrev tX:=@Go.Sem.run_bind
abbrev tY:=@List.getD_eq_getElem?_getD
abbrev tZ:=@Classical.byContradiction
abbrev zE1:=@List.size_toArray
abbrev zF9:=@Go.KeepsOthers.setCell
abbrev zTX:=@List.length_append
abbrev zTY:=@Option.some.injEq
abbrev zTZ:=@Go.Result.andThen_ok
abbrev zT0:=@Go.Oper.uponIn_enter
abbrev zT1:=@Array.getElem?_toList
abbrev zT2:=@List.getElem_mem
abbrev zT3:=@Bool.false_or
abbrev zT4:=@Array.getElem?_eq_getElem
abbrev zT5:=@Go.World.putObj_size
abbrev zT6:=@Nat.gcd_pos_of_pos_right
abbrev zT7:=@List.getElem?_append_left
abbrev zT8:=@List.getElem?_append_right
abbrev zT9:=@Array.getElem?_append_left
abbrev zUa:=@Array.getElem?_replicate
abbrev Wg:=Go.World
abbrev Wh:=Go.Value
abbrev Wi:=Go.TypeId
abbrev Wj:=Option
abbrev Wk:=Go.Operand
abbrev Wl:=Go.Program
namespace Go.Proofs.Wd
open Tryz
set_option maxHeartbeats 1000000
open Go.RowKit Lb
theorem zSF {W:Wg} {m:Nat} {v v':Wh} {a b:Nat} (h:LV W m v a) (h':LV W m v' b) (hm:m<=2000) (hT:Tab W):Calls prog 105 #[v,v'] W (zMa W (Nat.gcd a b)):=by
 obtain ⟨A,n,c,l,rfl,h1,h2,h3,rfl⟩:=h
 obtain ⟨A',n',c',l',rfl,h1',h2',h3',rfl⟩:=h'
 exact (zQi A n c l A' n' c' l' W h1 h1' h2 h2' oO oO hT).mono fun _ _=>q7.v
theorem zOJ {a b m:Nat} (ha:a<BB^m) (hb:b<BB^m):Nat.gcd a b<BB^m:=by
 rcases sV a with rfl|h
 ·rwa [Nat.gcd_zero_left]
 ·exact sG (Nat.gcd_le_left b h) ha
theorem zLY {m:Nat} {v vg:Wh} {a g B:Nat} {W:Wg} (h:LV W m v a) (hg:LV W m vg g) (hm:m<=2000) (hg0:0<g) (hc:W.cell? ⟨B,0,none⟩=some vg):
  Calls prog 116 #[v,pO B 0] W (zMa W (a / g)):=by
 obtain ⟨A,n,c,l,rfl,h1,h2,h3,h4⟩:=h
 obtain ⟨A',n',c',l',rfl,h1',h2',h3',h4'⟩:=hg
 have hd:=zID a g hg0 A n c l A' n' c' l' W h1 h2 h1' h2' h4 h4' oO oO
 have H4:=hid h4;have H4':=hid h4'
 clear h4 h4'
 go_enter func116,ntmps116
 go_wp2_with fail
 refine hd.mono ?_
 rintro e w4 ⟨A4,n4,c4,l4,A5,n5,c5,l5,rfl,hi4,hr4,hi5,hr5,hb5⟩
 go_wp2_with fail
 go_ret
 exact ⟨_,rfl,⟨A4,n4,c4,l4,rfl,hi4,hr4⟩,hb5⟩
theorem zRM (A:Wj Addr) (n c:Nat) (w:Wg):
  Calls prog 106 #[.slice A n c] w fun e w'=>e= .returned (.func (.func 116) #[] #[pO w.heap.size 0])/\w'=w.alloc (.cells #[.slice A n c] 28):=by
 go_enter func106,ntmps106
 go_wp2
 go_ret
 exact ⟨rfl,rfl⟩
theorem zMQ {W:Wg} {m:Nat} {v v':Wh} {a b:Nat} (h:LV W m v a) (h':LV W m v' b) (hm:m<=2000) (hT:Tab W):Calls prog 88 #[v,v'] W (zTp W (a / Nat.gcd a b) (b / Nat.gcd a b)):=by
 have hgc:=zSF h h' hm hT
 have hgl:=zOJ h.bound h'.bound
 have hen: ∀args w,(callFunc 116 args).run prog w= .ok (.enter 116 args) w:=enters_of func116 kH rfl
 obtain ⟨g,hg⟩: ∃g,Nat.gcd a b=g:=⟨_,rfl⟩
 rw [hg] at hgc hgl ⊢
 rcases sV g with h0|h0
 ·have HZ:=hid h0
  go_enter func88,ntmps88
  go_wp2_with fail
  refine hgc.mono ?_
  rintro e w4 ⟨v4,rfl,⟨A4,n4,c4,l4,rfl,hi4,hr4⟩,hb4⟩
  obtain rfl:n4=0:=by rw [<-hr4.len];exact hi4.zero_iff.1 HZ.out
  go_wp2_with fail
  go_ret2
  exact ⟨_,_,rfl,⟨none,0,0, [],rfl,by rw [HZ.out,Nat.div_zero];exact Is.nil,wL _⟩,⟨none,0,0, [],rfl,by rw [HZ.out,Nat.div_zero];exact Is.nil,wL _⟩,hb4⟩
 ·clear hg
  go_enter func88,ntmps88
  go_wp2_with fail
  refine hgc.mono ?_
  rintro e w4 ⟨v4,rfl,⟨A4,n4,c4,l4,rfl,hi4,hr4⟩,hb4⟩
  have hn4:0<n4:=by rw [<-hr4.len];exact hi4.pos_iff.1 h0
  have hb5:=hb4.trans ((sH _ w4).alloc (sL _) (.cells #[.slice A4 n4 c4] 28)|>.mono hb4.size)
  have x5:=Boxed.new w4 28 (.slice A4 n4 c4)
  obtain ⟨W5,hW5⟩: ∃W5,w4.alloc (.cells #[.slice A4 n4 c4] 28)=W5:=⟨_,rfl⟩
  rw [hW5] at hb5 x5
  have hg5:LV W5 m (.slice A4 n4 c4) g:=by rw [<-hW5];exact (qV.lv ⟨A4,n4,c4,l4,rfl,hi4,hr4⟩ hgl).below ((sH _ w4).alloc (sL _) _)
  have hby:=zRM A4 n4 c4 w4
  rw [hW5] at hby
  clear hW5
  go_wp2_with fail
  refine hby.mono ?_
  rintro e w6 ⟨rfl,rfl⟩
  go_wp2_with fail
  refine (zLY (h.below hb5) hg5 hm h0 x5.cell).mono ?_
  rintro e w7 ⟨v7,rfl,hv7,hb7⟩
  go_wp2_with fail
  refine (zLY ((h'.below hb5).below hb7) (hg5.below hb7) hm h0 ((hb7.cell (p:=⟨w4.heap.size,0,none⟩) (zV x5.cell)).trans x5.cell)).mono ?_
  rintro e w8 ⟨v8,rfl,hv8,hb8⟩
  go_wp2_with fail
  go_ret2
  have t1:=hb5.trans (hb7.mono hb5.size)
  exact ⟨_,_,rfl,hv7.below hb8,hv8,t1.trans (hb8.mono t1.size)⟩
end Go.Proofs.Wd

namespace Lb
set_option maxHeartbeats 1000000
theorem zQF {l:List Nat} (ht:Lt l) {j s x:Nat} (hj:j<l.length) (hz: ∀i,i<j->lm l i=0) (hx:lm l j=2^s*x) (ho:x % 2=1):TZ (val l) (32*j+s)/\s<32:=by
 have hb:=y7 ht j
 have hs:s<32:=by
  have h1:2^s*1<=2^s*x:=Nat.mul_le_mul_left _ oO
  rw [Nat.mul_one, <-hx] at h1
  exact (Nat.pow_lt_pow_iff_right dA).1 (sG h1 (by rw [zTu] at hb;simpa using hb))
 refine ⟨?_,hs⟩
 have e0:val (l.take j)=0:=by
  rw [zFy oO]
  have:sm (lm l) j=sm (lm l) 0:=zCE (sM _) fun i _ hi=>hz i hi
  rw [this];rfl
 have e1:=jM l j oO
 rw [e0,Nat.zero_add,zBf hj,hx,zFu] at e1
 obtain ⟨y,hy⟩: ∃y,val (l.drop (j+1))=y:=⟨_,rfl⟩
 rw [hy,show BB=2^s*(2*2^(31 - s)) from by rw [<-Nat.pow_succ', <-Nat.pow_add,show s+(31 - s+1)=32 from by omega];rfl,tN, <-Nat.mul_add, <-tN, <-Nat.pow_add] at e1
 refine ⟨x / 2+2^(31 - s)*y, ?_⟩
 rw [e1]
 congr 1
 rw [Nat.mul_add, <-tN]
 omega
end Lb
namespace Go.Proofs.Wd
open Tryz
open Go.RowKit Lb
theorem zMr (A:Wj Addr) (n c:Nat) (l:List Nat) (w:Wg) (h:Rd w A n c l) (ht:Lt l) (h0:0<val l) (hn:n<=2000):
  ∃q t:Nat,TZ (val l) (32*q+t)/\t<=31/\q<n/\Calls prog 99 #[.slice A n c] w fun e w'=>e= .returned (.int .i64 ((32*q+t:Nat):Int))/\w'=w:=by
 obtain ⟨j,hjn,hjz,hj0⟩: ∃j,j<n/\(∀i,i<j->lm l i=0)/\lm l j≠0:=by
  have hex: ∃j,lm l j≠0:=by
   refine tZ fun hc=> ?_
   have hz: ∀i,lm l i=0:=fun i=>tZ fun e=>hc ⟨i,e⟩
   have:sm (lm l) l.length=sm (lm l) 0:=zCE (sM _) fun i _ _=>hz i
   have e:val l=sm (lm l) l.length:=rfl
   rw [e,this] at h0
   simp [sm] at h0
  have hmin: ∀k,(∃j,j<=k/\lm l j≠0)-> ∃j,(∀i,i<j->lm l i=0)/\lm l j≠0:=by
   intro k
   induction k with
   |zero=>rintro ⟨j,hj,e⟩;exact ⟨j,fun i hi=>by omega,e⟩
   |succ k ih=>
    rintro ⟨j,hj,e⟩
    by_cases hk: ∃j,j<=k/\lm l j≠0
    ·exact ih hk
    ·exact ⟨j,fun i hi=>tZ fun e'=>hk ⟨i,by omega,e'⟩,e⟩
  obtain ⟨j0,hj0⟩:=hex
  obtain ⟨j,h1,h2⟩:=hmin j0 ⟨j0,sL _,hj0⟩
  refine ⟨j, ?_,h1,h2⟩
  rw [<-h.len]
  exact Nat.lt_of_not_le fun e=>h2 (zC8 e)
 obtain ⟨s,hs⟩:=vI (lm l j) oO
 obtain ⟨m,hm⟩:=hs
 obtain ⟨htz,hs32⟩:=zQF ht (s:=s) (x:=2*m+1) (by rw [h.len];exact hjn) hjz hm oO
 refine ⟨j,s,htz,by omega,hjn, ?_⟩
 have hb:=y7 ht j
 have hle:=h.le;have hcap:=h.cap
 have HJZ:=hid hjz;have HM:=hid hm;have HB:=hid hb
 obtain ⟨d,hd⟩: ∃d:Nat->Nat,d=fun i=>2^(s - i)*(2*m+1):=⟨_,rfl⟩
 have hd0:d 0=lm l j:=by rw [hd,hm];rfl
 have hds:d s % 2=1:=by rw [hd];simp
 have hdi: ∀i,i<s->d i % 2=0/\d i / 2=d (i+1):=fun i hi=>by
  rw [hd]
  show 2^(s - i)*(2*m+1) % 2=0/\2^(s - i)*(2*m+1) / 2=2^(s - (i+1))*(2*m+1)
  rw [show s - i=(s - (i+1))+1 from by omega,Nat.pow_succ',tN]
  omega
 have hdl: ∀i,d i<=d 0:=fun i=>by
  rw [hd]
  exact tA _ (tB oO oO)
 have HD0:=hid hd0;have HDS:=hid hds;have HDI:=hid hdi;have HDL:=hid hdl
 clear hd hd0 hds hdi hdl
 have HL:Hid (∀i,lm l i<4294967296):=hid fun i=>y7 ht i
 clear hjz hm htz hb h0
 go_enter func99,ntmps99
 go_wp2
 go_loopw [3,4] (fun t i wr=> ∃k:Nat,k<=j/\i= .int .i64 k/\t= .int .i64 ((32*k:Nat):Int)/\wr=w) (fun _ i _=>j - (intOf i).toNat)
 case atStart=>exact ⟨0,sM _,rfl,rfl,rfl⟩
 case round=>
  obtain ⟨k,hk,rfl,rfl,rfl⟩:=hrel
  obtain ⟨b,o,rfl,hc⟩:=h.cells k oO
  by_cases hkj:k<j
  ·have hz:=HJZ.out k hkj
   rw [hz] at hc
   clear hz
   go_wp2
   go_roundw
   case rel=>exact ⟨k+1,by omega,by go_num,by go_num,trivial⟩
   case measure=>simp [intOf];omega
  ·obtain rfl:k=j:=by omega
   have hlk:=HL.out k
   obtain ⟨x,hx⟩: ∃x,lm l k=x:=⟨_,rfl⟩
   rw [hx] at hc hj0 hlk
   have HX:=hid hx
   clear hx
   have e1:((32*k:Nat):Int).tdiv 32=(k:Int):=by rw [tO oO];omega
   have e2:(((32*k:Nat):Int) / 32)=(k:Int):=by omega
   have hx2:((x:Int)==0)=false:=by simpa using hj0
   go_wp2
   go_loopw [3,5] (fun t y wr2=> ∃i:Nat,i<=s/\t= .int .i64 ((32*k+i:Nat):Int)/\y= .int .u32 (d i:Nat)/\wr2=wr) (fun t _ _=>32*k+s - (intOf t).toNat)
   case atStart=>exact ⟨0,sM _,rfl,by rw [HD0.out,HX.out],rfl⟩
   case round=>
    obtain ⟨i,hi,rfl,rfl,rfl⟩:=hrel
    have hdx:=HDL.out i
    rw [HD0.out,HX.out] at hdx
    by_cases his:i<s
    ·obtain ⟨q1,q2⟩:=HDI.out i his
     obtain ⟨y,hy⟩: ∃y,d i=y:=⟨_,rfl⟩
     rw [hy] at q1 q2 hdx ⊢
     have HY:=hid q2
     clear q2 hy
     go_wp2
     go_roundw
     case rel=>exact ⟨i+1,by omega,by go_num,by rw [<-HY.out];go_num,trivial⟩
     case measure=>simp [intOf];omega
    ·obtain rfl:i=s:=by omega
     have q1:=HDS.out
     obtain ⟨y,hy⟩: ∃y,d i=y:=⟨_,rfl⟩
     rw [hy] at q1 hdx ⊢
     clear hy
     go_wp2
     go_ret
     exact ⟨rfl,rfl⟩
theorem zNT {W:Wg} (nq:Nat):Below W.heap.size W (W.drewN nq):=⟨(sH W.heap.size W).os,(sH W.heap.size W).tape,(sH W.heap.size W).output,(sH W.heap.size W).size,(sH W.heap.size W).block⟩
theorem zQZ {W:Wg} {m:Nat} {v v':Wh} {a b:Nat} (h:LV W m v a) (h':LV W m v' b) (hm:m<=100000):Calls prog 62 #[v,v'] W (zMa W (a*b)):=by
 obtain ⟨A,n,c,l,rfl,h1,h2,h3,rfl⟩:=h
 obtain ⟨A',n',c',l',rfl,h1',h2',h3',rfl⟩:=h'
 exact (zIv A n c l A' n' c' l' W h1 h1' h2 h2' oO oO).mono fun _ _=>q7.v
theorem zFE {W:Wg} {m:Nat} {v:Wh} {a:Nat} (h:LV W m v a) (hm:m<=100000):Calls prog 36 #[v] W (zMa W a):=by
 obtain ⟨A,n,c,l,rfl,h1,h2,h3,rfl⟩:=h
 exact (jB A n c l W h1 h2 oO).mono fun _ _=>q7.v
theorem qV.open {W:Wg} {v:Wh} {x:Nat} (h:qV W v x): ∃A n c,v= .slice A n c/\(x=0->n=0)/\(0<x->0<n)/\n<=c/\c<=9223372036854775807/\qV W (.slice A n c) x:=by
 obtain ⟨A,n,c,l,rfl,h1,h2⟩:=h
 have h3:=h1.zero_iff;have h4:=h1.pos_iff
 rw [h2.len] at h3 h4
 exact ⟨A,n,c,rfl,h3.1,h4.1,h2.le,h2.cap,⟨A,n,c,l,rfl,h1,h2⟩⟩
end Go.Proofs.Wd

namespace Lb
set_option maxHeartbeats 2000000
theorem zOA {x k:Nat} (h:TZ x k):x / 2^k % 2=1/\x / 2^k<=x/\0<x / 2^k:=by
 have:=h.part.2
 exact ⟨this,sN _ _,Nat.pos_of_ne_zero fun e=>by rw [e] at this;simp at this⟩
def Bin (G x y:Nat):Prop:=0<y/\(x=0->y=G)/\ ∀i j,TZ x i->TZ y j->Nat.gcd (x / 2^i) (y / 2^j)=G
theorem Bin.start {a b i j:Nat} (hi:TZ a i) (hj:TZ b j):Bin (Nat.gcd (a / 2^i) (b / 2^j)) a b:=
 ⟨hj.pos,fun e=>by have:=hi.pos;omega,fun i' j' h1 h2=>by rw [h1.unique hi,h2.unique hj]⟩
theorem Bin.turn {G x y:Nat} (hx:x % 2=1) (hy:y % 2=1) (hg:Nat.gcd x y=G) (hle:y<=x):Bin G (x - y) y:=by
 refine ⟨by omega,fun e=> ?_,fun i j h1 h2=> ?_⟩
 ·have:x=y:=by omega
  rw [<-hg,this,Nat.gcd_self]
 ·have hj:j=0:=h2.unique (wY hy)
  rw [hj,Nat.pow_zero,Nat.div_one,Nat.gcd_comm,vC hy h1,Nat.gcd_comm,zGc hle,hg]
end Lb
namespace Go.Proofs.Wd
open Tryz
open Go.RowKit Lb
theorem zKx {W:Wg} {m:Nat} {A:Wj Addr} {n c:Nat} {x q t:Nat} (h:qV W (.slice A n c) x) (hx:x<BB^m) (hm:m<=2000) (htt:t<=31) (hq:q<n):Calls prog 100 #[.slice A n c, .int .i64 ((32*q+t:Nat):Int)] W (zMa W (x / 2^(32*q+t))):=by
 obtain ⟨A1,n1,c1,l1,e1,h1,h2⟩:=h
 cases e1
 have hn:n<=m:=zG8 h1 h2 hx
 have:=zKy A n c l1 q t W h2 h1.lt htt oO oO oO
 rw [h1.val] at this
 exact this.mono fun _ _=>q7.v
theorem zSm {W:Wg} {m:Nat} {A:Wj Addr} {n c:Nat} {x q t:Nat} (h:LV W m (.slice A n c) x) (hm:m<=2000) (htt:t<=31) (hq:q<=2000):Calls prog 103 #[.slice A n c, .int .i64 ((32*q+t:Nat):Int)] W (zMa W (x*2^(32*q+t))):=by
 obtain ⟨A1,n1,c1,l1,e1,h1,h2,h3,rfl⟩:=h
 cases e1
 exact (zKl A n c l1 q t W h1 h2 htt oO oO).mono fun _ _=>q7.v
def zTo (w:Wg) (x:Nat):Ending->Wg->Prop:=fun e w'=> ∃v,e= .returned (.tuple #[v, .int .i64 0])/\qV w' v x/\Below w.heap.size w w'
theorem zOj {W:Wg} {m:Nat} {v v':Wh} {a b:Nat} (h:LV W m v a) (h':LV W m v' b) (hm:m<=2000) (hab:b<=a):Calls prog 102 #[v,v'] W (zTo W (a - b)):=by
 obtain ⟨A,n,c,l,rfl,h1,h2,h3,rfl⟩:=h
 obtain ⟨A',n',c',l',rfl,h1',h2',h3',rfl⟩:=h'
 refine (zFF A n c l A' n' c' l' W h1 h1' h2 h2' hab oO).mono ?_
 rintro e w' ⟨A1,n1,c1,l1,rfl,i1,r1,hb⟩
 exact ⟨_,rfl,⟨A1,n1,c1,l1,rfl,i1,r1⟩,hb⟩
theorem zIb {W:Wg} {m:Nat} {A:Wj Addr} {n c:Nat} {x:Nat} (h:qV W (.slice A n c) x) (hx:x<BB^m) (hm:m<=2000) (h0:0<x):
  ∃q t:Nat,TZ x (32*q+t)/\t<=31/\q<n/\n<=m/\Calls prog 99 #[.slice A n c] W fun e w'=>e= .returned (.int .i64 ((32*q+t:Nat):Int))/\w'=W:=by
 obtain ⟨A1,n1,c1,l1,e1,h1,h2⟩:=h
 cases e1
 have hn:n<=m:=zG8 h1 h2 hx
 obtain ⟨q,t,k1,k2,k3,k4⟩:=zMr A n c l1 W h2 h1.lt (by rw [h1.val];exact h0) oO
 rw [h1.val] at k1
 exact ⟨q,t,k1,k2,k3,hn,k4⟩
theorem qV.rdv {W:Wg} {v:Wh} {x:Nat} (h:qV W v x):rdv W v=x:=by
 obtain ⟨A1,n1,c1,l1,rfl,h1,h2⟩:=h
 exact h2.rdv h1
def RgI (w:Wg) (m G:Nat) (u v:Wh) (W:Wg):Prop:= ∃A n c A' n' c' x y,u= .slice A n c/\v= .slice A' n' c'/\qV W (.slice A n c) x/\qV W (.slice A' n' c') y/\x<BB^m/\y<BB^m/\Bin G x y/\Below w.heap.size w W
theorem zPD {W:Wg} {m:Nat} {v v':Wh} {a b:Nat} (h:LV W m v a) (h':LV W m v' b) (hm:m<=2000):Calls prog 80 #[v,v'] W (zMa W (Nat.gcd a b)):=by
 have hla:=h.bound;have hlb:=h'.bound
 obtain ⟨A0,n0,c0,rfl,-,k1,k2,h⟩:=h.open
 obtain ⟨B0,m0,d0,rfl,-,k3,k4,h'⟩:=h'.open
 go_enter func80,ntmps80
 go_wp2_with fail
 refine (zFE h oO).mono ?_
 rintro e w1 ⟨va,rfl,ha,b1⟩
 obtain ⟨A,n,c,rfl,za,pa,ia,ja,ha⟩:=ha.open
 go_wp2_with fail
 refine (zFE (h'.below b1) oO).mono ?_
 rintro e w2 ⟨vb,rfl,hb,b2⟩
 obtain ⟨A',n',c',rfl,zb,pb,ib,jb,hb⟩:=hb.open
 have b02:=b1.trans (b2.mono b1.size)
 have ha2:=ha.below b2
 clear h h' ha b1 b2 k1 k2 k3 k4
 by_cases h0:a=0∨b=0
 ·have hg:Nat.gcd a b=a+b:=by
   rcases h0 with e|e
   ·rw [e];simp
   ·rw [e];simp
  have h00:n=0∨(0<n/\n'=0):=by
   rcases sV n with e|e
   ·exact .inl e
   ·refine .inr ⟨e,zb (h0.resolve_left fun e'=> ?_)⟩
    have:=za e';omega
  have HG:=hid hg
  clear za pa zb pb h0 hg
  have ad:=zPs (ha2.lv hla) (hb.lv hlb) oO 28
  have bS:Below w2.heap.size w2 (w2.alloc (.cells #[.slice A n c, .slice A' n' c'] 28)):=(sH _ w2).alloc (sL _) _
  have HLA:=hid hla;have HLB:=hid hlb
  clear hla hlb
  rcases h00 with rfl|⟨e1,rfl⟩
  all_goals
   go_wp2_with fail
   refine ad.mono ?_
   rintro e w4 ⟨vs,rfl,hs,b4⟩
   go_wp2_with fail
   go_ret
   exact ⟨vs,rfl,by rw [HG.out];exact hs,b02.trans ((bS.trans (b4.mono bS.size)).mono b02.size)⟩
 ·have hn0:0<n:=pa oO
  have hn0':0<n':=pb oO
  have hnb:((n:Int)==0)=false:=by simp;omega
  have hnb':((n':Int)==0)=false:=by simp;omega
  obtain ⟨q,t,hz,ht,hq,hnm,htw⟩:=zIb ha2 hla hm oO
  obtain ⟨q',t',hz',ht',hq',hnm',htw'⟩:=zIb hb hlb hm oO
  have hgcd:=hz.gcd hz'
  have hbin:=Bin.start hz hz'
  have hG0:Nat.gcd (a / 2^(32*q+t)) (b / 2^(32*q'+t'))<BB^m:=zOJ (sG (sN _ _) hla) (sG (sN _ _) hlb)
  obtain ⟨G,hG⟩: ∃G,Nat.gcd (a / 2^(32*q+t)) (b / 2^(32*q'+t'))=G:=⟨_,rfl⟩
  rw [hG] at hgcd hbin hG0
  obtain ⟨p,s,hs,hps,hpq⟩: ∃p s:Nat,s<=31/\p<=2000/\min (32*q+t) (32*q'+t')=32*p+s:=by
   rcases Nat.le_total (32*q+t) (32*q'+t') with e|e
   ·exact ⟨q,t,ht,by omega,by omega⟩
   ·exact ⟨q',t',ht',by omega,by omega⟩
  rw [hpq] at hgcd
  have hmin:min ((32*q+t:Nat):Int) ((32*q'+t':Nat):Int)=((32*p+s:Nat):Int):=by omega
  have HGC:=hid hgcd;have HBI:=hid hbin;have HG0:=hid hG0
  obtain ⟨k,hk⟩: ∃k,32*q+t=k:=⟨_,rfl⟩
  obtain ⟨k',hk'⟩: ∃k,32*q'+t'=k:=⟨_,rfl⟩
  rw [hk] at htw hmin
  rw [hk'] at htw' hmin
  obtain ⟨K,hK⟩: ∃K,32*p+s=K:=⟨_,rfl⟩
  rw [hK] at hmin
  have HK:=hid hK
  have hK2:K<=64500:=by omega
  have hk2:k<=64500:=by omega
  have hk2':k'<=64500:=by omega
  have HLA:=hid hla;have HLB:=hid hlb
  clear hgcd hbin hG0 hz hz' hG hpq hk hk' hK za pa zb pb hq hq' ht ht' hnm hnm' h0 hla hlb
  go_wp2_with fail
  refine htw.mono ?_
  rintro e w3 ⟨rfl,rfl⟩
  go_wp2_with fail
  refine htw'.mono ?_
  rintro e w3 ⟨rfl,rfl⟩
  go_wp2
  go_loopw [0,1] (RgI W m G) (fun u v wr=>rdv wr u+rdv wr v)
  case atStart=>exact ⟨A,n,c,A',n',c',a,b,rfl,rfl,ha2,hb,HLA.out,HLB.out,HBI.out,b02⟩
  case round=>
   clear ha2 hb b02 hn0 hn0' hnb hnb' htw htw' ia ja ib jb hmin
   obtain ⟨A1,n1,c1,A2,n2,c2,x,y,rfl,rfl,hx,hy,hxl,hyl,hbn,hB⟩:=hrel
   obtain ⟨_,_,_,e1,zx,px,ix,jx,_⟩:=hx.open
   cases e1
   obtain ⟨_,_,_,e1,zy,py,iy,jy,_⟩:=hy.open
   cases e1
   have hy0:=hbn.1
   have HBN:=hid hbn
   have HXL:=hid hxl;have HYL:=hid hyl
   rcases sV n1 with h0|h0
   ·have hx0:x=0:=by
     rcases sV x with e|e
     ·exact e
     ·have:=px e;omega
    have hyG:=hbn.2.1 hx0
    have HYG:=hid hyG
    have hup:=zSm (q:=p) (t:=s) (hy.lv hyl) hm hs hps
    rw [HK.out] at hup
    subst h0
    clear hbn hxl hyl hx0 hyG zx px zy py
    go_wp2_with fail
    refine hup.mono ?_
    rintro e w5 ⟨v5,rfl,hv5,hb5⟩
    go_wp2_with fail
    go_ret
    exact ⟨v5,rfl,by rw [HGC.out,HK.out, <-HYG.out,Nat.mul_comm];exact hv5,hB.trans (hb5.mono hB.size)⟩
   ·have hx0:0<x:=Nat.pos_of_ne_zero fun e=>by have:=zx e;omega
    obtain ⟨q1,t1,z1,ht1,hq1,hnm1,htw1⟩:=zIb hx hxl hm hx0
    have hd1:=zKx hx hxl hm ht1 hq1
    obtain ⟨o1,o2,o3⟩:=zOA z1
    obtain ⟨k1,hk1⟩: ∃k,32*q1+t1=k:=⟨_,rfl⟩
    have hk1l:k1<=64500:=by omega
    rw [hk1] at htw1 hd1 z1 o1 o2 o3
    have Z1:=hid z1
    obtain ⟨X,hX⟩: ∃X,x / 2^k1=X:=⟨_,rfl⟩
    have HX:=hid hX
    rw [hX] at hd1 o1 o2 o3
    clear z1 hX hk1 ht1 hq1 hnm1 hbn zx px zy py
    have HO1:=hid o1
    have hrx:=hx.rdv;have hry:=hy.rdv
    have HRX:=hid hrx;have HRY:=hid hry
    clear hrx hry o1
    go_wp2_with fail
    refine htw1.mono ?_
    rintro e w5 ⟨rfl,rfl⟩
    go_wp2_with fail
    refine hd1.mono ?_
    rintro e w6 ⟨v6,rfl,h6,b6⟩
    obtain ⟨A6,n6,c6,rfl,z6,p6,i6,j6,h6⟩:=h6.open
    have hy6:=hy.below b6
    obtain ⟨q2,t2,z2,ht2,hq2,hnm2,htw2⟩:=zIb hy6 hyl hm hy0
    have hd2:=zKx hy6 hyl hm ht2 hq2
    obtain ⟨o4,o5,o6⟩:=zOA z2
    obtain ⟨k2,hk2⟩: ∃k,32*q2+t2=k:=⟨_,rfl⟩
    have hk2l:k2<=64500:=by omega
    rw [hk2] at htw2 hd2 z2 o4 o5 o6
    have Z2:=hid z2
    obtain ⟨Y,hY⟩: ∃Y,y / 2^k2=Y:=⟨_,rfl⟩
    have HY:=hid hY
    rw [hY] at hd2 o4 o5 o6
    clear z2 hY hk2 ht2 hq2 hnm2 htw1 hd1 z6 p6
    have HO4:=hid o4
    clear o4
    go_wp2_with fail
    refine htw2.mono ?_
    rintro e w7 ⟨rfl,rfl⟩
    go_wp2_with fail
    refine hd2.mono ?_
    rintro e w8 ⟨v8,rfl,h8,b8⟩
    obtain ⟨A8,n8,c8,rfl,z8,p8,i8,j8,h8⟩:=h8.open
    have h68:=h6.below b8
    have b68:=b6.trans (b8.mono b6.size)
    have hB8:=hB.trans (b68.mono hB.size)
    have hXl:X<BB^m:=sG o2 HXL.out
    have hYl:Y<BB^m:=sG o5 HYL.out
    have hXY:Nat.gcd X Y=G:=by rw [<-HX.out, <-HY.out];exact HBN.out.2.2 _ _ Z1.out Z2.out
    have HXY:=hid hXY
    obtain ⟨cz,hcz⟩: ∃cz,zAj X Y=cz:=⟨_,rfl⟩
    have hc1:=zQ1 (h68.lv hXl) (h8.lv hYl)
    have hcl:cz<0↔X<Y:=by
     rw [<-hcz]
     unfold zAj
     split
     ·exact ⟨fun _=>by assumption,fun _=>by omega⟩
     ·split
      ·exact ⟨fun h=>by omega,fun h=>by omega⟩
      ·exact ⟨fun h=>by omega,fun h=>by omega⟩
    rw [hcz] at hc1
    clear htw2 hd2 z8 p8 h6 hy6 hx hy hXY hcz hxl hyl
    have HXl:=hid hXl;have HYl:=hid hYl
    clear hXl hYl
    rcases Nat.lt_or_ge X Y with hlt|hge
    ·have hcz:cz<0:=hcl.2 hlt
     have hsb:=zOj (h8.lv HYl.out) (h68.lv HXl.out) hm (Nat.le_of_lt hlt)
     have hbt:=Bin.turn (G:=G) HO4.out HO1.out (by rw [Nat.gcd_comm];exact HXY.out) (Nat.le_of_lt hlt)
     have HBT:=hid hbt
     clear hbt hcl
     go_wp2_with fail
     refine hc1.mono ?_
     rintro e w9 ⟨rfl,rfl⟩
     go_wp2_with fail
     refine hsb.mono ?_
     rintro e w10 ⟨v10,rfl,h10,b10⟩
     obtain ⟨A10,n10,c10,rfl,z10,p10,i10,j10,h10⟩:=h10.open
     clear z10 p10
     go_wp2_with fail
     refine ⟨⟨A10,n10,c10,A6,n6,c6,Y - X,X,rfl,rfl,h10,h68.below b10,sG (Nat.sub_le _ _) HYl.out,HXl.out,HBT.out,hB8.trans (b10.mono hB8.size)⟩, ?_⟩
     show rdv _ _+rdv _ _<rdv _ _+rdv _ _
     rw [h10.rdv,(h68.below b10).rdv,HRX.out,HRY.out]
     omega
    ·have hcz: ¬cz<0:=fun e=>by have:=hcl.1 e;omega
     have hsb:=zOj (h68.lv HXl.out) (h8.lv HYl.out) hm hge
     have hbt:=Bin.turn (G:=G) HO1.out HO4.out HXY.out hge
     have HBT:=hid hbt
     clear hbt hcl
     go_wp2_with fail
     refine hc1.mono ?_
     rintro e w9 ⟨rfl,rfl⟩
     go_wp2_with fail
     refine hsb.mono ?_
     rintro e w10 ⟨v10,rfl,h10,b10⟩
     obtain ⟨A10,n10,c10,rfl,z10,p10,i10,j10,h10⟩:=h10.open
     clear z10 p10
     go_wp2_with fail
     refine ⟨⟨A10,n10,c10,A8,n8,c8,X - Y,Y,rfl,rfl,h10,h8.below b10,sG (Nat.sub_le _ _) HXl.out,HYl.out,HBT.out,hB8.trans (b10.mono hB8.size)⟩, ?_⟩
     show rdv _ _+rdv _ _<rdv _ _+rdv _ _
     rw [h10.rdv,(h8.below b10).rdv,HRX.out,HRY.out]
     omega
end Go.Proofs.Wd

namespace Go.Proofs.Wd
open Tryz
set_option maxRecDepth 100000
open Go.RowKit Lb
theorem zN9 {W:Wg} {m:Nat} {v:Wh} {x:Nat} (h:LV W m v x) (hm:m<=100000):Calls prog 86 #[v] W (zMa W x):=by
 obtain ⟨A,n,c,l,rfl,h1,h2,h3,rfl⟩:=h
 exact (qF A n c l W h1 h2 oO).mono fun _ _=>q7.v
theorem Tab.bls {W w:Wg} {b:Nat} {cs:List Wh} {te:Wi} (hT:Tab W) (hb:W.heap[b]?=some (.cells cs.toArray te (0,0))) (h0: ∃s,cs[0]?=some (.bool s)) (hg:BlS (fun k=>k=b) W w):Tab w:=fun j hj=>by
 have h1:=hT j hj
 have hne:(0:Nat)≠b:=fun e=>by
  have h2:=hT 0 dA
  obtain ⟨s,hs⟩:=h0
  unfold World.cell? at h2
  rw [show ((⟨0,0,none⟩:Addr).block)=b from e,hb] at h2
  simp [hs] at h2
 exact (sW (a:=⟨0,j,none⟩) (hg.block _ (zV h1) hne)).trans h1
theorem zKM {m:Nat} {k:Int} {d:Nat} {cs:List Wh} {W:Wg} (h:QVp m k d (.agg cs.toArray) W): ∃s,cs[0]?=some (.bool s):=by
 obtain ⟨u,h1,s,rfl⟩:=zQ6 cs W h
 exact ⟨s,h1⟩
theorem zC1 {m:Nat} {k:Int} {d:Nat} {cs:List Wh} {W:Wg} (h:QVp m k d (.agg cs.toArray) W):cs.all yA=true:=by
 have:=(zGP (v:= .agg cs.toArray) h).2
 simpa [Value.cells] using this
theorem zFx {W:Wg} {v:Wh} {x:Nat} (h:qV W v x):Calls prog 55 #[v] W (Ret W (fNV (x:Int)).tS):=by
 refine qH [(q9 x).tS] func55 rfl kH ⟨h,trivial⟩ fun a s=> ?_
 refine sC ?_
 refine zC 0 [] hmix s kH
  zE fun a w1 s=> ?_
 refine qJ (CU.len 2) (cs:= [.bool false, .slice none 0 0]) kH rfl s kH (fun W=>rfl) rfl fun b2 a w s=> ?_
 refine zB rfl ?_
 refine sC ?_
 refine zC 2 ((3, .Z (q9 x))::(4, .u (fNV (x:Int))):: []) hmix s kH
  (oc zA<|oc (zEE (fun u W (hu:qV W u x)=>zL0 hu))<|zE) fun a w2 s=> ?_
 refine yY (CU.agg (fNV (x:Int))) ((fNV (x:Int)).tS) rfl s kH rfl rfl rfl iiz iiz zFZ fun a w s=> ?_
 refine zB rfl ?_
 refine sE ?_
 exact wP s (CU.agg (fNV (x:Int))) rfl kH rfl rfl (zOC _) (fun cs W h=>h)
theorem zPl {W:Wg} (z:Int) (hz: -9223372036854775808<=z/\z<=9223372036854775807):Calls prog 32 #[.int .i64 z] W (Ret W (fQN (z:Rat)).tS):=by
 refine qH [(fI z).tS] func32 rfl kH ⟨rfl,trivial⟩ fun a s=> ?_
 refine sC ?_
 refine zC 0 [] hmix s kH
  zE fun a w1 s=> ?_
 refine qJ (CU.len 3) (cs:=zR3) kH rfl s kH (fun W=>rfl) rfl fun b2 a w s=> ?_
 refine zB rfl ?_
 refine sC ?_
 refine zC 4 ((3, .Z (uI z))::(4, .Z (fNV z))::(5, .Z (q9 1))::(6, .u (fQN (z:Rat))):: []) hmix s kH
  (oc zA<|oc (zM zF zS0 (fun u0 W hb (h0:u0= .int .i64 z)=>by subst h0;exact zTK z hz))<|oc (zC3 (fun u W (hu:u= .int .u32 1)=>zOf hu))<|oc (zAo (fun u v W (hu:NV W u z) (hv:qV W v 1)=>zI9 (q:=(z:Rat)) hu hv))<|zE) fun a w2 s=> ?_
 refine yY (CU.agg (fQN (z:Rat))) ((fQN (z:Rat)).tS) rfl s kH rfl rfl rfl iiz iiz qP fun a w s=> ?_
 refine zB rfl ?_
 refine sE ?_
 exact wP s (CU.agg (fQN (z:Rat))) rfl kH rfl rfl (jH _) (fun cs W h=>h)
theorem zPm {W:Wg} {b m:Nat} {k:Int} {d:Nat} {cs:List Wh} (hh:W.heap[b]?=some (.cells cs.toArray 91 (0,0))) (hc:QVp m k d (.agg cs.toArray) W) (hm:m<=2000) (hd:d=0):Calls prog 70 #[pO b 0] W (zMi W b 91 (CU.agg (fQN ((0:Int):Rat))) (uB false).tS):=by
 have hz:true=decide (d=0):=(tE hd).symm
 refine zHE b [(0,UF.eq (pO b 0))] [⟨0,91,CU.agg (fQV m k d),b,false⟩] func70 rfl kH (fun q hq=>by simp at hq;subst hq;exact ⟨by simp,rfl⟩) ⟨⟨cs,rfl, .inr (.inr rfl),hh,hc,zC1 hc,fun y hy=>by cases hy⟩,trivial⟩ (fun x hx=>by simp at hx;subst hx;simp) fun a s=> ?_
 refine sC ?_
 refine zC 1 ((2, .u (uB false)):: []) hmix s kH
  (oc zG<|zE) fun a w1 s=> ?_
 refine zB rfl ?_
 refine sC ?_
 refine sC ?_
 refine zC 8 ((3, .s (wH b (cg (fQV m k d))))::(4, .Y (fQV m k d))::(5, .X (fQV m k d) 0)::(6, .X (fQV m k d) 2)::(7, .Z (fLV m d))::(8, .Z (q9 d))::(9, .s (zQC d))::(10, .u (uB true)):: []) hmix s kH
  (oc zA<|oc (zA7 (C:=cg (fQV m k d)))<|oc (zW (C:=cg (fQV m k d)) 0 kH)<|oc (qR (C:=cg (fQV m k d)) 0 2 kH)<|oc (yW (C:=cg (fQV m k d)) (k:=2) kH (h:=zKL))<|oc (zM zF zRs (fun u0 W hb (h0:LV W m u0 d)=>zN9 h0 oO))<|oc (zFV kH iiz)<|oc (zFX hz)<|zE) fun a w2 s=> ?_
 refine zB rfl ?_
 refine StS.cond s true iiz (fun e=> ?_) (fun e=>by cases e)
 refine sC ?_
 refine zC 4 ((11, .Z (UF.eq (pO b 0)))::(12, .u (fQN ((0:Int):Rat)))::(13, .Z (UF.eq (pO b 0)))::(14, .u (UF.eq (pO b 0))):: []) hmix s kH
  (oc (zA (fun _ _ _ h=>h.1))<|oc (zM zF zNH (fun u0 W hb (h0:u0= .int .i64 0)=>by subst h0;exact zPl 0 dA))<|oc (zBo (a:=⟨b,0,none⟩) iiz)<|oc (zBa (b:=b) (o:=0) 0 kH iiz)<|zE) fun a w3 s=> ?_
 refine zCq (c:=0) (o:=0) (kk:=3) (CU.agg (fQN ((0:Int):Rat))) ((fQN ((0:Int):Rat)).tS) rfl s kH rfl rfl iiz iiz zMz fun a w s=> ?_
 refine zB rfl ?_
 refine sC ?_
 replace s:=s.drop [2]
 refine zC 1 ((2, .u (uB false)):: []) hmix s kH
  (oc zG<|zE) fun a w4 s=> ?_
 refine zB rfl ?_
 refine sE ?_
 exact vF s (c:=0) (C:=CU.agg (fQN ((0:Int):Rat))) rfl rfl rfl rfl iiz
theorem zPn {W:Wg} {b m:Nat} {k:Int} {d:Nat} {cs:List Wh} (hh:W.heap[b]?=some (.cells cs.toArray 91 (0,0))) (hc:QVp m k d (.agg cs.toArray) W) (hm:m<=2000) (hd0:0<d) (hT:Tab W):Calls prog 70 #[pO b 0] W (zMi W b 91 (CU.agg (fQN (mkRat k d))) (uB true).tS):=by
 have hz:false=decide (d=0):=(sX oO).symm
 have bk:k.natAbs<BB^m:=by obtain ⟨_,_,_,_,h1,_⟩:=hc;exact h1.bound
 have hred: ∀W u0 u1,Tab W->LV W m u0 k.natAbs->LV W m u1 d->Calls prog 88 #[u0,u1] W (Ret W (wI (q9 (k.natAbs / Nat.gcd k.natAbs d)).tS (q9 (d / Nat.gcd k.natAbs d)).tS)):=fun W u0 u1 hT h0 h1=>(zMQ h0 h1 hm hT).mono fun e w' ⟨v,v',e1,h1,h2,hb⟩=>⟨_,e1,⟨v,v',rfl,h1,h2⟩,hb⟩
 refine zHE b [(0,UF.eq (pO b 0))] [⟨0,91,CU.agg (fQV m k d),b,false⟩] func70 rfl kH (fun q hq=>by simp at hq;subst hq;exact ⟨by simp,rfl⟩) ⟨⟨cs,rfl, .inr (.inr rfl),hh,hc,zC1 hc,fun y hy=>by cases hy⟩,trivial⟩ (fun x hx=>by simp at hx;subst hx;simp) fun a s=> ?_
 refine sC ?_
 refine zC 1 ((2, .u (uB false)):: []) hmix s kH
  (oc zG<|zE) fun a w1 s=> ?_
 refine zB rfl ?_
 refine sC ?_
 refine sC ?_
 refine zC 8 ((3, .s (wH b (cg (fQV m k d))))::(4, .Y (fQV m k d))::(5, .X (fQV m k d) 0)::(6, .X (fQV m k d) 2)::(7, .Z (fLV m d))::(8, .Z (q9 d))::(9, .s (zQC d))::(10, .u (uB false)):: []) hmix s kH
  (oc zA<|oc (zA7 (C:=cg (fQV m k d)))<|oc (zW (C:=cg (fQV m k d)) 0 kH)<|oc (qR (C:=cg (fQV m k d)) 0 2 kH)<|oc (yW (C:=cg (fQV m k d)) (k:=2) kH (h:=zKL))<|oc (zM zF zRs (fun u0 W hb (h0:LV W m u0 d)=>zN9 h0 oO))<|oc (zFV kH iiz)<|oc (zFX hz)<|zE) fun a w2 s=> ?_
 refine zB rfl ?_
 refine StS.cond s false iiz (fun e=>by cases e) (fun e=> ?_)
 refine sI ?_
 refine sC ?_
 refine zC 10 ((15, .Z (UF.eq (pO b 0)))::(16, .s (wH b (cg (fQV m k d))))::(17, .Y (fQV m k d))::(18, .X (fQV m k d) 0)::(19, .X (fQV m k d) 0)::(20, .Z (fUV m k))::(21, .u (fNV k))::(22, .Z (UF.eq (pO b 0)))::(23, .Z (UF.eq (pO b 0)))::(24, .u (UF.eq (pO b 0))):: []) hmix s kH
  (oc (zA (fun _ _ _ h=>h.1))<|oc zA<|oc (zA7 (C:=cg (fQV m k d)))<|oc (zW (C:=cg (fQV m k d)) 0 kH)<|oc (qR (C:=cg (fQV m k d)) 0 0 kH)<|oc (zAI (C:=cg (fQV m k d)) (k:=0) 2 kH (h:=zOs))<|oc (zM zF zSQ (fun u0 W hb (h0:UV W m u0 k)=>zRe h0 oO))<|oc (zBo (a:=⟨b,0,none⟩) iiz)<|oc (zBa (b:=b) (o:=0) 0 kH iiz)<|oc (zBa (b:=b) (o:=0) 0 kH iiz)<|zE) fun a w3 s=> ?_
 refine zCq (c:=0) (o:=0) (kk:=2) (CU.agg (fQM m k d)) ((fNV k).tS) rfl s kH rfl rfl iiz iiz zPb fun a w s=> ?_
 refine zB rfl ?_
 refine sC ?_
 refine zAb [0,1,2,8] 15 ((26, .u (UF.eq (pO b 0)))::(27, .u (UF.eq (pO b 0)))::(28, .s (wH b (cg (fQM m k d))))::(29, .Y (fQM m k d))::(30, .X (fQM m k d) 0)::(31, .X (fQM m k d) 0)::(32, .X (fQM m k d) 1)::(33, .Z (q9 (k.natAbs)))::(34, .s (wH b (cg (fQM m k d))))::(35, .Y (fQM m k d))::(36, .X (fQM m k d) 0)::(37, .X (fQM m k d) 2)::(38, .Z (fLV m d))::(39, .Z (zCR (q9 (k.natAbs / Nat.gcd k.natAbs d)) (q9 (d / Nat.gcd k.natAbs d))))::(25, .u (zCR (q9 (k.natAbs / Nat.gcd k.natAbs d)) (q9 (d / Nat.gcd k.natAbs d)))):: []) hmix s kH
  (oc (zA (fun _ _ _ h=>h.1))<|oc (zA (fun _ _ _ h=>h.1))<|oc zA<|oc (zA7 (C:=cg (fQM m k d)))<|oc (zW (C:=cg (fQM m k d)) 0 kH)<|oc (qR (C:=cg (fQM m k d)) 0 0 kH)<|oc (qR (C:=cg (fQM m k d)) 0 1 kH)<|oc (yW (C:=cg (fQM m k d)) (k:=1) kH (h:=zRa))<|oc zA<|oc (zA7 (C:=cg (fQM m k d)))<|oc (zW (C:=cg (fQM m k d)) 0 kH)<|oc (qR (C:=cg (fQM m k d)) 0 2 kH)<|oc (yW (C:=cg (fQM m k d)) (k:=2) kH (h:=zQ9))<|oc (yB zF zSP (fun u0 u1 W hb (h0:qV W u0 (k.natAbs)) (h1:LV W m u1 d)=>hred W u0 u1 (hT.bls hh (zKM hc) (s.gr.trans hb)) (qV.lv h0 bk) h1))<|oc zA<|zE) fun Q' hQ a w4 s=> ?_
 refine zCr (q9 (k.natAbs / Nat.gcd k.natAbs d)) rfl s kH (zAK (A:=(q9 (k.natAbs / Nat.gcd k.natAbs d)).tS) (B:=(q9 (d / Nat.gcd k.natAbs d)).tS) iiz) kH fun a w s=> ?_
 refine zCr (q9 (d / Nat.gcd k.natAbs d)) rfl s kH (zAJ (A:=(q9 (k.natAbs / Nat.gcd k.natAbs d)).tS) (B:=(q9 (d / Nat.gcd k.natAbs d)).tS) iiz) kH fun a w s=> ?_
 refine zCr (UF.eq (pO b 0)) rfl s kH (zBo (a:=⟨b,0,none⟩) iiz) kH fun a w s=> ?_
 refine zCr (UF.eq (pO b 0)) rfl s kH (zBa (b:=b) (o:=0) 0 kH iiz) kH fun a w s=> ?_
 refine zCr (UF.eq (pO b 0)) rfl s kH (zBa (b:=b) (o:=0) 0 kH iiz) kH fun a w s=> ?_
 refine zCr (UF.eq (pO b 1)) rfl s kH (zBa (b:=b) (o:=0) 1 kH iiz) kH fun a w s=> ?_
 refine zCq (c:=0) (o:=1) (kk:=1) (CU.agg (fQA m (decide (k<0)) (k.natAbs / Nat.gcd k.natAbs d) d)) ((q9 (k.natAbs / Nat.gcd k.natAbs d)).tS) rfl s kH rfl rfl iiz iiz zQL fun a w s=> ?_
 refine zCr (UF.eq (pO b 0)) rfl s kH (zBo (a:=⟨b,0,none⟩) iiz) kH fun a w s=> ?_
 refine zCr (UF.eq (pO b 0)) rfl s kH (zBa (b:=b) (o:=0) 0 kH iiz) kH fun a w s=> ?_
 refine zCr (UF.eq (pO b 2)) rfl s kH (zBa (b:=b) (o:=0) 2 kH iiz) kH fun a w s=> ?_
 refine zCq (c:=0) (o:=2) (kk:=1) (CU.agg (fQN (mkRat k d))) ((q9 (d / Nat.gcd k.natAbs d)).tS) rfl s kH rfl rfl iiz iiz (zQK (zC6 k d hd0).symm (zC5 k d hd0).symm (zCd k d hd0).symm) fun a w s=> ?_
 refine zB rfl (hQ _ _ ?_)
 refine sC ?_
 replace s:=s.drop [2]
 refine zC 1 ((2, .u (uB true)):: []) hmix s kH
  (oc zG<|zE) fun a w5 s=> ?_
 refine zB rfl ?_
 refine sE ?_
 exact vF s (c:=0) (C:=CU.agg (fQN (mkRat k d))) rfl rfl rfl rfl iiz
theorem zGI {W:Wg} {b m:Nat} {k:Int} {d:Nat} {cs:List Wh} (hh:W.heap[b]?=some (.cells cs.toArray 91 (0,0))) (hc:QVp m k d (.agg cs.toArray) W) (hm:m<=2000) (hT:Tab W):Calls prog 70 #[pO b 0] W (zMi W b 91 (CU.agg (fQN (mkRat k d))) (uB (decide (0<d))).tS):=by
 rcases sV d with h|h
 ·have:=zPm hh hc hm h
  rw [h,Rat.mkRat_zero,sX oO]
  exact this
 ·rw [tE h]
  exact zPn hh hc hm h hT
end Go.Proofs.Wd

namespace Go.Proofs.Wd
open Tryz
set_option maxRecDepth 100000
open Go.RowKit Lb
theorem zSn {W:Wg} {m:Nat} {v:Wh} {k:Int} {d:Nat} (h:QVp m k d v W) (hm:m<=2000) (hT:Tab W):Calls prog 52 #[v] W (Ret W (wK W 91 (CU.agg (fQN (mkRat k d))))):=by
 refine qH [(fQV m k d).tS] func52 rfl kH ⟨h,trivial⟩ fun a s=> ?_
 refine sC ?_
 refine zC 0 [] hmix s kH
  zE fun a w1 s=> ?_
 refine zA8 (CU.agg (fQV m k d)) rfl s kH (fun v W h=>zGP h) fun b1 a w s=> ?_
 refine qN (UF.eq (.pointer none)) rfl s kH iiz fun a w s=> ?_
 refine zB rfl ?_
 refine sC ?_
 refine zC 2 ((4, .Z (fQV m k d))::(5, .u (fQV m k d)):: []) hmix s kH
  (oc (yP (f:=fQV m k d) 3 kH (hz:=zOt _ _ _))<|oc (zEE (fun u W (hu:QVp m k d u W)=>zRO hu))<|zE) fun a w2 s=> ?_
 refine zA8 (CU.agg (fQV m k d)) rfl s kH (fun v W h=>zGP h) fun b6 a w s=> ?_
 refine zSe rfl s kH fun a w s=> ?_
 refine zB rfl ?_
 refine sC ?_
 refine zC 1 ((7, .u (UF.eq (pO b6 0))):: []) hmix s kH
  (oc (zA (fun _ _ _ h=>h.1))<|zE) fun a w3 s=> ?_
 refine zIc (c:=3) (CU.agg (fQN (mkRat k d))) (UF.any) rfl zF zRv s kH rfl rfl iiz (fun cs h1 h2=> ?_) fun a w s=> ?_
 ·exact (zGI h1 h2 hm (hT.below s.gr.below)).mono fun e w' ⟨v,g1,_,g2⟩=>⟨v,g1,trivial,g2⟩
 refine zB rfl ?_
 refine sC ?_
 replace s:=s.drop [2]
 refine zC 2 ((9, .s (wH b6 (cg (fQN (mkRat k d)))))::(2, .u (UF.eq (pO b6 0))):: []) hmix s kH
  (oc zA<|oc (zG (fun _ _ _ h=>h.1))<|zE) fun a w4 s=> ?_
 refine zB rfl ?_
 refine sE ?_
 exact vK s (t:=2) (c:=3) rfl rfl rfl iiz
theorem zNh {W:Wg} {b b' m m':Nat} {q q':Rat} {cs cs':List Wh} (hh:W.heap[b]?=some (.cells cs.toArray 91 (0,0))) (hc:QNp q (.agg cs.toArray) W) (hh':W.heap[b']?=some (.cells cs'.toArray 91 (0,0))) (hc':QNp q' (.agg cs'.toArray) W) (hne:b'≠b) (hq:QB q m) (hq':QB q' m') (hm:m+m'+1<=2000) (hT:Tab W):Calls prog 57 #[pO b 0,pO b' 0] W (zMi W b 91 (CU.agg (fQN (q+q'))) SF.any):=by
 have bk:Bd (((q).num*((q').den:Int))+((q').num*((q).den:Int))) (m+m'+1):=hq.num_add hq'
 rw [Rat.add_def']
 refine zHE b [(0,UF.eq (pO b 0)),(1,UF.eq (pO b' 0))] [⟨0,91,CU.agg (fQN q),b,false⟩,⟨1,91,CU.agg (fQN q'),b',true⟩] func57 rfl kH (fun x hx=>by simp at hx;rcases hx with rfl|rfl<;>exact ⟨by simp,rfl⟩) ⟨⟨cs,rfl, .inr (.inr rfl),hh,hc,zC1 (zM6 hc hq),fun y hy=>by simp at hy;subst hy;exact .inl hne⟩,⟨cs',rfl, .inl rfl,hh',hc',zC1 (zM6 hc' hq'),fun y hy=>by cases hy⟩,trivial⟩ (fun x hx=>by simp at hx;rcases hx with rfl|rfl<;>simp) fun a s=> ?_
 refine sC ?_
 refine zAb [0,1,6,14,19] 32 ((4, .Z (UF.eq (pO b 0)))::(5, .s (wH b (cg (fQN q))))::(6, .Y (fQN q))::(7, .X (fQN q) 0)::(8, .X (fQN q) 0)::(9, .Z (fNV ((q).num)))::(10, .s (wH b' (cg (fQN q'))))::(11, .Y (fQN q'))::(12, .X (fQN q') 0)::(13, .X (fQN q') 2)::(14, .Z (q9 ((q').den)))::(15, .Z (fNV ((q').den:Int)))::(16, .s (zMg (m+m') [(q).num,((q').den:Int)]))::(17, .Z (fNV ((q).num*((q').den:Int))))::(18, .s (wH b' (cg (fQN q'))))::(19, .Y (fQN q'))::(20, .X (fQN q') 0)::(21, .X (fQN q') 0)::(22, .Z (fNV ((q').num)))::(23, .s (wH b (cg (fQN q))))::(24, .Y (fQN q))::(25, .X (fQN q) 0)::(26, .X (fQN q) 2)::(27, .Z (q9 ((q).den)))::(28, .Z (fNV ((q).den:Int)))::(29, .s (zMg (m+m') [(q').num,((q).den:Int)]))::(30, .Z (fNV ((q').num*((q).den:Int))))::(31, .s (zMg (m+m') [((q).num*((q').den:Int)),((q').num*((q).den:Int))]))::(32, .u (fNV (((q).num*((q').den:Int))+((q').num*((q).den:Int)))))::(33, .Z (UF.eq (pO b 0)))::(34, .Z (UF.eq (pO b 0)))::(35, .u (UF.eq (pO b 0))):: []) hmix s kH
  (oc (zA (fun _ _ _ h=>h.1))<|oc zA<|oc (zA7 (C:=cg (fQN q)))<|oc (zW (C:=cg (fQN q)) 0 kH)<|oc (qR (C:=cg (fQN q)) 0 0 kH)<|oc (zAI (C:=cg (fQN q)) (k:=0) 2 kH (h:=zB8))<|oc zA<|oc (zA7 (C:=cg (fQN q')))<|oc (zW (C:=cg (fQN q')) 0 kH)<|oc (qR (C:=cg (fQN q')) 0 2 kH)<|oc (yW (C:=cg (fQN q')) (k:=2) kH (h:=zBJ))<|oc (zM zF zNC (fun u0 W hb (h0:qV W u0 ((q').den))=>zFx h0))<|oc (qD (fun u v W (hu:NV W u ((q).num)) (hv:NV W v ((q').den:Int))=>zBC (NV.uv' hu (Bd.mono (hq).1 (m':=(m+m')) (by first|omega|decide))) (NV.uv' hv (Bd.mono (zAB hq'.2) (m':=(m+m')) (by first|omega|decide)))))<|oc (zM zF zND (fun u0 W hb (h0:ISV W (m+m') u0 [(q).num,((q').den:Int)])=>zNj (k:=((q).num*((q').den:Int))) h0 (by show (m+m')*2+(m+m')+1<=40000;omega) (by simp) (by simp)))<|oc zA<|oc (zA7 (C:=cg (fQN q')))<|oc (zW (C:=cg (fQN q')) 0 kH)<|oc (qR (C:=cg (fQN q')) 0 0 kH)<|oc (zAI (C:=cg (fQN q')) (k:=0) 2 kH (h:=zB8))<|oc zA<|oc (zA7 (C:=cg (fQN q)))<|oc (zW (C:=cg (fQN q)) 0 kH)<|oc (qR (C:=cg (fQN q)) 0 2 kH)<|oc (yW (C:=cg (fQN q)) (k:=2) kH (h:=zBJ))<|oc (zM zF zNC (fun u0 W hb (h0:qV W u0 ((q).den))=>zFx h0))<|oc (qD (fun u v W (hu:NV W u ((q').num)) (hv:NV W v ((q).den:Int))=>zBC (NV.uv' hu (Bd.mono (hq').1 (m':=(m+m')) (by first|omega|decide))) (NV.uv' hv (Bd.mono (zAB hq.2) (m':=(m+m')) (by first|omega|decide)))))<|oc (zM zF zND (fun u0 W hb (h0:ISV W (m+m') u0 [(q').num,((q).den:Int)])=>zNj (k:=((q').num*((q).den:Int))) h0 (by show (m+m')*2+(m+m')+1<=40000;omega) (by simp) (by simp)))<|oc (qD (fun u v W (hu:NV W u ((q).num*((q').den:Int))) (hv:NV W v ((q').num*((q).den:Int)))=>zBC (NV.uv' hu (Bd.mono (Bd.mul (hq).1 (zAB hq'.2)) oO)) (NV.uv' hv (Bd.mono (Bd.mul (hq').1 (zAB hq.2)) oO))))<|oc (zM zF zSU (fun u0 W hb (h0:ISV W (m+m') u0 [((q).num*((q').den:Int)),((q').num*((q).den:Int))])=>zTl (k:=(((q).num*((q').den:Int))+((q').num*((q).den:Int)))) h0 oO (by simp) (by simp)))<|oc (zBo (a:=⟨b,0,none⟩) iiz)<|oc (zBa (b:=b) (o:=0) 0 kH iiz)<|oc (zBa (b:=b) (o:=0) 0 kH iiz)<|zE) fun Q' hQ a w1 s=> ?_
 refine zCq (c:=0) (o:=0) (kk:=2) (CU.agg (fQK (((q).num*((q').den:Int))+((q').num*((q).den:Int))) ((q).den))) ((fNV (((q).num*((q').den:Int))+((q').num*((q).den:Int)))).tS) rfl s kH rfl rfl iiz iiz (zPc (k0:=q.num) (d:=q.den)) fun a w s=> ?_
 refine zB rfl (hQ _ _ ?_)
 refine sC ?_
 refine zAb [0,1,6] 15 ((36, .Z (UF.eq (pO b 0)))::(37, .s (wH b (cg (fQK (((q).num*((q').den:Int))+((q').num*((q).den:Int))) ((q).den)))))::(38, .Y (fQK (((q).num*((q').den:Int))+((q').num*((q).den:Int))) ((q).den)))::(39, .X (fQK (((q).num*((q').den:Int))+((q').num*((q).den:Int))) ((q).den)) 0)::(40, .X (fQK (((q).num*((q').den:Int))+((q').num*((q).den:Int))) ((q).den)) 2)::(41, .Z (q9 ((q).den)))::(42, .s (wH b' (cg (fQN q'))))::(43, .Y (fQN q'))::(44, .X (fQN q') 0)::(45, .X (fQN q') 2)::(46, .Z (q9 ((q').den)))::(47, .u (q9 (((q).den)*((q').den))))::(48, .Z (UF.eq (pO b 0)))::(49, .Z (UF.eq (pO b 0)))::(50, .u (UF.eq (pO b 2))):: []) hmix s kH
  (oc (zA (fun _ _ _ h=>h.1))<|oc zA<|oc (zA7 (C:=cg (fQK (((q).num*((q').den:Int))+((q').num*((q).den:Int))) ((q).den))))<|oc (zW (C:=cg (fQK (((q).num*((q').den:Int))+((q').num*((q).den:Int))) ((q).den))) 0 kH)<|oc (qR (C:=cg (fQK (((q).num*((q').den:Int))+((q').num*((q).den:Int))) ((q).den))) 0 2 kH)<|oc (yW (C:=cg (fQK (((q).num*((q').den:Int))+((q').num*((q).den:Int))) ((q).den))) (k:=2) kH (h:=zRb))<|oc zA<|oc (zA7 (C:=cg (fQN q')))<|oc (zW (C:=cg (fQN q')) 0 kH)<|oc (qR (C:=cg (fQN q')) 0 2 kH)<|oc (yW (C:=cg (fQN q')) (k:=2) kH (h:=zBJ))<|oc (yB zF zST (fun u0 u1 W hb (h0:qV W u0 ((q).den)) (h1:qV W u1 ((q').den))=>zSu (LV.mono (qV.lv h0 hq.2) (m':=(m+m')) oO) (LV.mono (qV.lv h1 hq'.2) (m':=(m+m')) oO) oO))<|oc (zBo (a:=⟨b,0,none⟩) iiz)<|oc (zBa (b:=b) (o:=0) 0 kH iiz)<|oc (zBa (b:=b) (o:=0) 2 kH iiz)<|zE) fun Q' hQ a w2 s=> ?_
 refine zCq (c:=0) (o:=2) (kk:=1) (CU.agg (fQK (((q).num*((q').den:Int))+((q').num*((q).den:Int))) (((q).den)*((q').den)))) ((q9 (((q).den)*((q').den))).tS) rfl s kH rfl rfl iiz iiz zPd fun a w s=> ?_
 refine zB rfl (hQ _ _ ?_)
 refine zC 1 ((51, .u (UF.eq (pO b 0))):: []) hmix s kH
  (oc (zA (fun _ _ _ h=>h.1))<|zE) fun a w3 s=> ?_
 refine zIc (c:=0) (CU.agg (fQN (mkRat (((q).num*((q').den:Int))+((q').num*((q).den:Int))) ((q).den*(q').den)))) (UF.any) rfl zF zRv s kH rfl rfl iiz (fun cs h1 h2=> ?_) fun a w s=> ?_
 ·exact (zGI (m:=m+m'+1) h1 (zSt h2 bk (sJ (hq.den_mul hq') (tB yU oO))) oO (hT.bls hh (zKM (zM6 hc hq)) s.gr)).mono fun e w' ⟨v,g1,_,g2⟩=>⟨v,g1,trivial,g2⟩
 refine zB rfl ?_
 exact vJ s (c:=0) (C:=CU.agg (fQN (mkRat (((q).num*((q').den:Int))+((q').num*((q).den:Int))) ((q).den*(q').den)))) rfl rfl rfl rfl (fun _=>trivial)
end Go.Proofs.Wd

namespace Go.Proofs.Wd
open Tryz
set_option maxRecDepth 100000
open Go.RowKit Lb
theorem zKs {W:Wg} {m:Nat} {v:Wh} {q:Rat} (h:RVp m q v W) (hm:m<=2000) (hT:Tab W):Calls prog 52 #[v] W (Ret W (wK W 91 (CU.agg (fQN q)))):=by
 obtain ⟨k,d,h1,rfl⟩:=h
 exact zSn h1 hm hT
theorem zPu {W:Wg} {m:Nat} {v:Wh} {q:Rat} (h:RVp m q v W) (hm:m<=2000) (hm0:0<m) (hT:Tab W):Calls prog 49 #[v] W (Ret W (fQN q).tS):=by
 have hq:QB q m:=h.qb hm0
 refine qH [(fRV m q).tS] func49 rfl kH ⟨h,trivial⟩ fun a s=> ?_
 refine sC ?_
 refine zC 0 [] hmix s kH
  zE fun a w1 s=> ?_
 refine zA8 (CU.agg (fRV m q)) rfl s kH (fun v W h=>zDD h) fun b1 a w s=> ?_
 refine qJ (CU.len 3) (cs:=zR3) kH rfl s kH (fun W=>rfl) rfl fun b2 a w s=> ?_
 refine zB rfl ?_
 refine sC ?_
 refine zC 5 ((3, .Z (fRV m q))::(4, .s (wK w 91 (CU.agg (fQN q))))::(5, .Y (fQN q))::(6, .X (fQN q) 0)::(7, .u (fQN q)):: []) hmix s kH
  (oc (yP (f:=fRV m q) 3 kH (hz:=zBe _ _))<|oc (zM zF zNE (fun u0 W hb (h0:RVp m q u0 W)=>(zKs h0 oO (hT.below (s.up hb))).mono (wG (zCv hb.size))))<|oc (zA7 (C:=cg (fQN q)) zFl)<|oc (zW (C:=cg (fQN q)) 0 kH)<|oc (zAI (C:=cg (fQN q)) (k:=0) 3 kH (h:=zM5))<|zE) fun a w2 s=> ?_
 refine yY (CU.agg (fQN q)) ((fQN q).tS) rfl s kH rfl rfl rfl iiz iiz qP fun a w s=> ?_
 refine zB rfl ?_
 refine sE ?_
 exact wP s (CU.agg (fQN q)) rfl kH rfl rfl (jH _) (fun cs W h=>h)
theorem zPt {W:Wg} {m:Nat} {v:Wh} {q:Rat} (h:RVp m q v W) (hm:m<=2000) (hm0:0<m) (hT:Tab W):Calls prog 48 #[v] W (Ret W (fI q.num.sign).tS):=by
 have hq:QB q m:=h.qb hm0
 refine qH [(fRV m q).tS] func48 rfl kH ⟨h,trivial⟩ fun a s=> ?_
 refine sC ?_
 refine zC 0 [] hmix s kH
  zE fun a w1 s=> ?_
 refine zA8 (CU.agg (fRV m q)) rfl s kH (fun v W h=>zDD h) fun b1 a w s=> ?_
 refine qN (uI 0) rfl s kH iiz fun a w s=> ?_
 refine zB rfl ?_
 refine sC ?_
 replace s:=s.drop [2]
 refine zC 8 ((3, .Z (fRV m q))::(4, .s (wK w 91 (CU.agg (fQN q))))::(5, .Y (fQN q))::(6, .X (fQN q) 0)::(7, .X (fQN q) 0)::(8, .Z (fNV ((q).num)))::(9, .Z (uI (q.num.sign)))::(2, .u (uI (q.num.sign))):: []) hmix s kH
  (oc (yP (f:=fRV m q) 3 kH (hz:=zBe _ _))<|oc (zM zF zNE (fun u0 W hb (h0:RVp m q u0 W)=>(zKs h0 oO (hT.below (s.up hb))).mono (wG (zCv hb.size))))<|oc (zA7 (C:=cg (fQN q)) zFl)<|oc (zW (C:=cg (fQN q)) 0 kH)<|oc (qR (C:=cg (fQN q)) 0 0 kH)<|oc (zAI (C:=cg (fQN q)) (k:=0) 2 kH (h:=zB8))<|oc (zM zF zSW (fun u0 W hb (h0:NV W u0 ((q).num))=>zGj (zQS (NV.uv' h0 (hq).1) oO)))<|oc zG<|zE) fun a w2 s=> ?_
 refine zB rfl ?_
 refine sE ?_
 exact wF s (t:=2) rfl iiz
theorem zOp {W:Wg} {m:Nat} {v v':Wh} {q q':Rat} (h:RVp m q v W) (h':RVp m q' v' W) (hm:m<=2000) (hm0:0<m) (hT:Tab W):Calls prog 33 #[v,v'] W (Ret W (fI (qsg q q')).tS):=by
 have hq:QB q m:=h.qb hm0
 have hq':QB q' m:=h'.qb hm0
 refine qH [(fRV m q).tS,(fRV m q').tS] func33 rfl kH ⟨h,h',trivial⟩ fun a s=> ?_
 refine sC ?_
 refine zC 0 [] hmix s kH
  zE fun a w1 s=> ?_
 refine zA8 (CU.agg (fRV m q)) rfl s kH (fun v W h=>zDD h) fun b2 a w s=> ?_
 refine zA8 (CU.agg (fRV m q')) rfl s kH (fun v W h=>zDD h) fun b3 a w s=> ?_
 refine qN (uI 0) rfl s kH iiz fun a w s=> ?_
 refine zB rfl ?_
 refine sC ?_
 have so:=s.old;have sg:=s.gr
 refine qU 6 ((7, .Z (fRV m q))::(8, .s (wK w 91 (CU.agg (fQN q))))::(9, .Z (fRV m q'))::(10, .s (wK w 91 (CU.agg (fQN q'))))::(5, .s (wK w 91 (CU.agg (fQN q))))::(6, .s (wK w 91 (CU.agg (fQN q')))):: []) hmix s kH
  (oc (yP (f:=fRV m q) 3 kH (hz:=zBe _ _))<|oc (zM zF zNE (fun u0 W hb (h0:RVp m q u0 W)=>(zKs h0 oO (hT.below (s.up hb))).mono (wG (zCv hb.size))))<|oc (yP (f:=fRV m q') 3 kH (hz:=zBe _ _))<|oc (zM zF zNE (fun u0 W hb (h0:RVp m q' u0 W)=>(zKs h0 oO (hT.below (s.up hb))).mono (wG (zCv hb.size))))<|oc zG<|oc zG<|zE) fun a w2 s hr=> ?_
 obtain ⟨b5,_,s⟩:=s.adopt true 5 (hr (_,_) mz4) sg (fun y hy=> .inl (so y hy))
 obtain ⟨b6,_,s⟩:=s.adopt true 6 (hr (_,_) mz5) sg (fun y hy=>by rcases tF.1 hy with rfl|hy;exact .inr ⟨rfl,rfl⟩;exact .inl (so y hy))
 refine zB rfl ?_
 refine sC ?_
 replace s:=s.drop [4]
 refine zC 28 ((11, .s (wH b5 (cg (fQN q))))::(12, .Y (fQN q))::(13, .X (fQN q) 0)::(14, .X (fQN q) 0)::(15, .Z (fNV ((q).num)))::(16, .s (wH b6 (cg (fQN q'))))::(17, .Y (fQN q'))::(18, .X (fQN q') 0)::(19, .X (fQN q') 2)::(20, .Z (q9 ((q').den)))::(21, .Z (fNV ((q').den:Int)))::(22, .s (zMg (m+m) [(q).num,((q').den:Int)]))::(23, .Z (fNV ((q).num*((q').den:Int))))::(24, .s (wH b6 (cg (fQN q'))))::(25, .Y (fQN q'))::(26, .X (fQN q') 0)::(27, .X (fQN q') 0)::(28, .Z (fNV ((q').num)))::(29, .s (wH b5 (cg (fQN q))))::(30, .Y (fQN q))::(31, .X (fQN q) 0)::(32, .X (fQN q) 2)::(33, .Z (q9 ((q).den)))::(34, .Z (fNV ((q).den:Int)))::(35, .s (zMg (m+m) [(q').num,((q).den:Int)]))::(36, .Z (fNV ((q').num*((q).den:Int))))::(37, .Z (uI (qsg q q')))::(4, .u (uI (qsg q q'))):: []) hmix s kH
  (oc zA<|oc (zA7 (C:=cg (fQN q)))<|oc (zW (C:=cg (fQN q)) 0 kH)<|oc (qR (C:=cg (fQN q)) 0 0 kH)<|oc (zAI (C:=cg (fQN q)) (k:=0) 2 kH (h:=zB8))<|oc zA<|oc (zA7 (C:=cg (fQN q')))<|oc (zW (C:=cg (fQN q')) 0 kH)<|oc (qR (C:=cg (fQN q')) 0 2 kH)<|oc (yW (C:=cg (fQN q')) (k:=2) kH (h:=zBJ))<|oc (zM zF zNC (fun u0 W hb (h0:qV W u0 ((q').den))=>zFx h0))<|oc (qD (fun u v W (hu:NV W u ((q).num)) (hv:NV W v ((q').den:Int))=>zBC (NV.uv' hu (Bd.mono (hq).1 (m':=(m+m)) (by first|omega|decide))) (NV.uv' hv (Bd.mono (zAB hq'.2) (m':=(m+m)) (by first|omega|decide)))))<|oc (zM zF zND (fun u0 W hb (h0:ISV W (m+m) u0 [(q).num,((q').den:Int)])=>zNj (k:=((q).num*((q').den:Int))) h0 (by show (m+m)*2+(m+m)+1<=40000;omega) (by simp) (by simp)))<|oc zA<|oc (zA7 (C:=cg (fQN q')))<|oc (zW (C:=cg (fQN q')) 0 kH)<|oc (qR (C:=cg (fQN q')) 0 0 kH)<|oc (zAI (C:=cg (fQN q')) (k:=0) 2 kH (h:=zB8))<|oc zA<|oc (zA7 (C:=cg (fQN q)))<|oc (zW (C:=cg (fQN q)) 0 kH)<|oc (qR (C:=cg (fQN q)) 0 2 kH)<|oc (yW (C:=cg (fQN q)) (k:=2) kH (h:=zBJ))<|oc (zM zF zNC (fun u0 W hb (h0:qV W u0 ((q).den))=>zFx h0))<|oc (qD (fun u v W (hu:NV W u ((q').num)) (hv:NV W v ((q).den:Int))=>zBC (NV.uv' hu (Bd.mono (hq').1 (m':=(m+m)) (by first|omega|decide))) (NV.uv' hv (Bd.mono (zAB hq.2) (m':=(m+m)) (by first|omega|decide)))))<|oc (zM zF zND (fun u0 W hb (h0:ISV W (m+m) u0 [(q').num,((q).den:Int)])=>zNj (k:=((q').num*((q).den:Int))) h0 (by show (m+m)*2+(m+m)+1<=40000;omega) (by simp) (by simp)))<|oc (yB zF zSZ (fun u0 u1 W hb (h0:NV W u0 ((q).num*((q').den:Int))) (h1:NV W u1 ((q').num*((q).den:Int)))=>zGj (zTh (NV.uv' h0 (Bd.mul (hq).1 (zAB hq'.2))) (NV.uv' h1 (Bd.mul (hq').1 (zAB hq.2))) oO)))<|oc zG<|zE) fun a w3 s=> ?_
 refine zB rfl ?_
 refine sE ?_
 exact wF s (t:=4) rfl iiz
end Go.Proofs.Wd

namespace Go.Proofs.Wd
open Tryz
set_option maxRecDepth 100000
set_option maxHeartbeats 1000000
open Go.RowKit Lb
attribute [local go_sem] Oper.semAt_some yX z4
structure QRd (m:Nat) (w:World) (A:Option Addr) (n:Nat) (qs:List Rat):Prop where
 len:qs.length=n
 cells: ∀i,i<n-> ∃b o c0 c1 c2 q,A=some ⟨b,o,none⟩/\w.cell? ⟨b,o+i*3,none⟩=some c0/\w.cell? ⟨b,o+i*3+1,none⟩=some c1/\w.cell? ⟨b,o+i*3+2,none⟩=some c2/\qs[i]?=some q/\RVp m q (.agg #[c0,c1,c2]) w
theorem RVp.keep {m:Nat} {q:Rat} {v:Wh} {w w':Wg} (h:RVp m q v w) (hk: ∀p:Addr,p.block<w.heap.size->w'.cell? p=w.cell? p):RVp m q v w':=by
 obtain ⟨k,d,⟨b,s,t,e,⟨sg,A,n,c,l,e1,h1,h2⟩,A',n',c',l',e2,h1',h2'⟩,h3⟩:=h
 exact ⟨k,d,⟨b,s,t,e,⟨sg,A,n,c,l,e1,h1.keep hk,h2⟩,A',n',c',l',e2,h1'.keep hk,h2'⟩,h3⟩
theorem QRd.keep {m:Nat} {w w':Wg} {A:Wj Addr} {n:Nat} {qs:List Rat} (h:QRd m w A n qs) (hk: ∀p:Addr,p.block<w.heap.size->w'.cell? p=w.cell? p):QRd m w' A n qs:=
 ⟨h.len,fun i hi=>by
  obtain ⟨b,o,c0,c1,c2,q,e,g0,g1,g2,h1,h2⟩:=h.cells i hi
  exact ⟨b,o,c0,c1,c2,q,e,(hk _ (tP w _ g0)).trans g0,(hk _ (tP w _ g1)).trans g1,(hk _ (tP w _ g2)).trans g2,h1,h2.keep hk⟩⟩
theorem QRd.below {m:Nat} {w w':Wg} {A:Wj Addr} {n:Nat} {qs:List Rat} (h:QRd m w A n qs) (hb:Below w.heap.size w w'):QRd m w' A n qs:=h.keep fun _ hp=>hb.cell hp
theorem RVp.below {m:Nat} {q:Rat} {v:Wh} {w w':Wg} (h:RVp m q v w) (hb:Below w.heap.size w w'):RVp m q v w':=h.keep fun _ hp=>hb.cell hp
def qAt (qs:List Rat) (k:Nat):Rat:=(qs[k]?).getD 0
def zQy (W:Wg) (B:Nat) (q:Rat):Prop:= ∃cs:List Wh,W.heap[B]?=some (.cells cs.toArray 91 (0,0))/\QNp q (.agg cs.toArray) W
theorem QNp.keepU {q:Rat} {v:Wh} {w w':Wg} (h:QNp q v w) (hk:yL w w'):QNp q v w':=(fQN q).us _ _ _ h hk
def zTU (N0:Nat) (qs:List Rat) (k:Nat) (xs:Array Wh) (W:Wg):Prop:= ∃B,xs=#[pO B 0]/\N0<=B/\zQy W B (qAt qs k)
theorem zM8 (A:Wj Addr) (n c:Nat) (w:Wg):
  Calls prog 56 #[.slice A n c] w fun e w'=>e= .returned (.func (.func 75) #[] #[pO w.heap.size 0])/\w'=w.alloc (.cells #[.slice A n c] 23):=by
 go_enter func56,ntmps56
 go_wp2
 go_ret
 exact ⟨rfl,rfl⟩
theorem zSo {W:Wg} {m:Nat} {c0 c1 c2:Wh} {q:Rat} (h:RVp m q (.agg #[c0,c1,c2]) W) (hm:m<=2000) (hT:Tab W):Calls prog 52 #[.agg #[c0,c1,c2]] W fun e w'=> ∃B,e= .returned (pO B 0)/\W.heap.size<=B/\zQy w' B q/\Below W.heap.size W w':=
 (zKs h hm hT).mono fun _ _ ⟨_,e1,⟨B,cs,e2,h1,h2,h3,_⟩,hb⟩=>⟨B,by rw [e1,e2],h1,⟨cs,h2,h3⟩,hb⟩
theorem zJu (m:Nat) (hm:m<=2000) (A:Wj Addr) (n c:Nat) (qs:List Rat) (b1:Nat) (w w0:Wg) (h:QRd m w A n qs) (hT:Tab w) (hw0:Below w.heap.size w w0) (hn:n<=c) (hc:c<=9223372036854775807)
  (hc1:w0.cell? ⟨b1,0,none⟩=some (.slice A n c)) {S:Nat->Prop} (hS: ∀b,S b->b<w0.heap.size) (_hS1:S b1) (hSA: ∀b,b<w.heap.size->S b):
  zNZ prog 75 #[pO b1 0] (zTU w0.heap.size qs) n (zE8 S) Mk (fun _=>True) w0:=by
 intro lp J W hW hJ hY h0
 have hl1:=zV hc1
 have hw1:=(hW.cell (p:=⟨b1,0,none⟩) hl1).trans hc1
 refine zBj func75 rfl ?_
 simp only [ntmps75,zE1,List.length_cons,List.length_nil,Nat.reduceAdd,Nat.reduceSub,Array.replicate_succ,Array.replicate_zero,List.push_toArray,List.append_toArray,List.nil_append,List.cons_append]
 gi_wp2
 gi_loopw [7] (fun i wr=> ∃k:Nat,k<=n/\i= .int .i64 k/\J k wr/\yO S w0 wr/\w0.heap.size<=wr.heap.size) (fun i _=>n - (intOf i).toNat)
 case atStart=>exact ⟨0,sM _,rfl,h0,yO.of_below hW hS,hW.size⟩
 case round=>
  obtain ⟨k,hk,rfl,hj,hb,hz⟩:=hrel
  by_cases hkn:k<n
  ·have hkeep: ∀p:Addr,p.block<w.heap.size->wr.cell? p=w.cell? p:=fun p hp=>(hb.cell (hSA _ hp)).trans (hw0.cell hp)
   obtain ⟨b,o,c0,c1,c2,q,rfl,p0,p1,p2,hi,hr⟩:=(h.keep (w':=wr) hkeep).cells k hkn
   have hTr:Tab wr:=fun j hj=>(hkeep ⟨0,j,none⟩ (zV (hT j hj))).trans (hT j hj)
   have hid1:qAt qs k=q:=by simp [qAt,hi]
   have hjk:=hJ k wr
   have hHI:=hid hi
   clear hi
   obtain ⟨sg,A1,n1,d1,A2,n2,d2,rfl,rfl,rfl⟩: ∃sg A1 n1 d1 A2 n2 d2,c0= .bool sg/\c1= .slice A1 n1 d1/\c2= .slice A2 n2 d2:=by
    obtain ⟨k',d',hq,_⟩:=hr
    obtain ⟨sg,A1,n1,d1,A2,n2,d2,e⟩:=zDr hq
    have:=congrArg Array.toList (zAk e)
    simp at this
    exact ⟨sg,A1,n1,d1,A2,n2,d2,this.1,this.2.1,this.2.2⟩
   gi_wp2_with (first|(gi_at_call 52;refine tG (callsIn_wide.2 (zSo (hr.below (jQ _ _)) hm (hTr.below (jQ _ _)))) ?_;rintro e w2 ⟨B2,rfl,hB2,hn2,hb2⟩;have hmk:Mk wr w2:=((sH _ wr).alloc lr _).trans (hb2.mono (by simp));obtain ⟨fn,tmps,assign,body,hy,hR⟩:=hY k w2 #[pO B2 0] hkn (hjk _ hj hmk) ⟨B2,rfl,sD hz (sD (by simp) hB2),by rw [hid1];exact hn2⟩)|(refine hR.mono ?_;rintro e W3 ⟨rfl,hJ3,hk3⟩))
   refine ⟨⟨k+1,by omega,rfl,hJ3,(hb.trans (yO.of_below hmk fun b hb=>sJ (hS b hb) hz)).trans hk3.1,sD hz (sD hmk.size hk3.2)⟩, ?_⟩
   simp [intOf]
   omega
  ·obtain rfl:k=n:=by omega
   gi_wp2
   go_end0
   exact ⟨⟨_,rfl⟩,hj,trivial⟩
def zCS (qs:List Rat):Nat->Rat
 |0=>0
 |k+1=>zCS qs k+qAt qs k
def zRS (w:Wg) (B0 P:Nat) (f:Nat->Rat) (k:Nat) (W:Wg):Prop:=
 zQy W B0 (f k)/\Boxed W P 87 (pO B0 0)/\qW W w.heap.size 32 #[.bool false, .slice none 0 0, .slice none 0 0]/\Below w.heap.size w W/\P+2<=W.heap.size/\w.heap.size<B0
theorem zQy.abide {W W':Wg} {B C:Nat} {q:Rat} {row:Wj Nat} (h:zQy W B q) (hg:W.grownBy W' row) (hr: ∀r,row=some r->C<=r/\ ∃o,W.heap[r]?=some o/\o.isCells=false):zQy W' B q:=by
 obtain ⟨cs,h1,h2⟩:=h
 have hk:yL W W':=fun p x hp=>zFs hp hg hr
 refine ⟨cs,(hg.block _ (sF.1 h1).1 fun e=> ?_).trans h1,h2.keepU hk⟩
 obtain ⟨_,o,ho,hc⟩:=hr _ e.symm
 rw [h1] at ho
 cases ho
 cases hc
theorem zGC (w:Wg) (B0 P:Nat) (f:Nat->Rat) {C:Nat} (hC:w.heap.size<=C):OwnFrom C (zRS w B0 P f):=by
 rintro k W W' row ⟨h1,h2,h3,h4,h5,h6⟩ hg hr
 exact ⟨h1.abide hg hr,y8 h2 hg hr,h3.abide hg hr,j7 h4 hg lr hC hr,sD h5 hg.size,h6⟩
theorem zMT (m M:Nat) (A:Wj Addr) (n c:Nat) (qs:List Rat) (w:Wg) (h:QRd m w A n qs) (hn:n<=c) (hc:c<=9223372036854775807) (hm:m<=2000) (hm0:0<m) (hM:M+m+1<=2000) (hp: ∀k,k<=n->QB (zCS qs k) M) (hT:Tab w):
  Calls prog 34 #[.slice A n c] w (Ret w (fQN (zCS qs n)).tS):=by
 refine qY func34 rfl ?_
 simp only [ntmps34,zE1,List.length_cons,List.length_nil,Nat.reduceAdd,Nat.reduceSub,Array.replicate_succ,Array.replicate_zero,List.push_toArray,List.append_toArray,List.nil_append,List.cons_append]
 go_wp2_with (first|(go_at_call 32;refine (zPl 0 dA).mono ?_;rintro e w1 ⟨v1,rfl,hv1,hb1⟩;obtain ⟨A1,n1,c1,A2,n2,c2,rfl⟩:=zBF hv1)|(go_at_call 56;refine (zM8 A n c _).mono ?_;rintro e w3 ⟨rfl,rfl⟩))
 have hv2:QNp 0 (.agg #[.bool false, .slice A1 n1 c1, .slice A2 n2 c2]) w1:=hv1
 obtain ⟨W0,hW0⟩: ∃W0,(((w1.alloc (.cells #[.bool false, .slice A1 n1 c1, .slice A2 n2 c2] 91)).alloc (.cells #[pO w1.heap.size 0] 87)).alloc (.cells #[.slice A n c] 23))=W0:=⟨_,rfl⟩
 have hsz:W0.heap.size=w1.heap.size+3:=by rw [<-hW0];simp
 have hbw1:Below w.heap.size w w1:=((sH _ w).alloc lr _).trans (hb1.mono (by simp))
 have hsz1:w.heap.size<w1.heap.size:=sJ (by simp) hb1.size
 have hb01:Below w1.heap.size w1 W0:=by rw [<-hW0];exact (((sH _ w1).alloc lr _).alloc (by simp) _).alloc (by simp;omega) _
 have hB1:Below w.heap.size w W0:=hbw1.trans (hb01.mono hbw1.size)
 have x0:zQy W0 w1.heap.size 0:=⟨[_,_,_],(by rw [<-hW0];exact ((qW.new w1 _ #[.bool false, .slice A1 n1 c1, .slice A2 n2 c2]).alloc _).alloc _),hv2.keepU (zK hb01)⟩
 have x1:Boxed W0 (w1.heap.size+1) 87 (pO w1.heap.size 0):=by rw [<-hW0];exact (zAR _ _ _ (by simp)).alloc _
 have x2:Boxed W0 (w1.heap.size+1+1) 23 (.slice A n c):=by rw [<-hW0];exact zAR _ _ _ (by simp)
 have x3:qW W0 w.heap.size 32 #[.bool false, .slice none 0 0, .slice none 0 0]:=(qW.kept (qW.kept (qW.new w _ _) hb1) hb01)
 rw [hW0]
 clear hW0
 have hSb: ∀b,(b<w.heap.size∨b=w1.heap.size+1+1)->b<W0.heap.size:=fun b hb=>by have:=hbw1.size;omega
 refine zB3 (gf:=75) rfl (enters_of func75 kH rfl) (zJu m hm A n c qs (w1.heap.size+1+1) w W0 h hT hB1 hn hc x2.cell (S:=fun b=>b<w.heap.size∨b=w1.heap.size+1+1) hSb (.inr rfl) (fun b hb=> .inl hb)) ?hE ?hps zE8.trans (zHT hSb)
  (zRS w w1.heap.size (w1.heap.size+1) (zCS qs)) (zGC w _ _ _ hB1.size) (zBY (zGC w _ _ _ lr)) wR (fun _ _ _ _ _ _ _ _=>trivial) ⟨x0,x1,x3,hB1,by omega,hsz1⟩
  (fun _ xs=>{ tmps:=#[.slice A n c,undef,pO w.heap.size 0, .pointer (some ⟨w1.heap.size+1,0,none⟩),xs.getD 0 undef, .agg #[.bool false, .slice A1 n1 c1, .slice A2 n2 c2], .agg #[.bool false, .slice A1 n1 c1, .slice A2 n2 c2],pO w1.heap.size 0, .slice A n c, .func (.func 75) #[] #[.pointer (some ⟨w1.heap.size+1+1,0,none⟩)],xs.getD 0 undef,undef,undef,undef,undef,undef,undef,undef],defers:= [] }) ?assign ?body ?done
 case hE=>
  rintro k xs W l o o' ⟨B,rfl,h1,h2⟩ ho hc
  exact ⟨B,rfl,h1,h2.abide (C:=0) (grownBy_putObj' W l o') (fun r e=>by cases e;exact ⟨sM _,o,ho,hc⟩)⟩
 case hps=>
  rintro k xs W ⟨B,rfl,_⟩
  rfl
 case assign=>
  rintro lp k xs W K ⟨B,rfl,h1,h2⟩ hK
  gi_wp2
  exact hK
 case body=>
  rintro lp k xs W hk ⟨h1,h2,h3,h4,h5,h6⟩ ⟨B,rfl,hB,hnb⟩
  have hc2:=h2.cell
  have hne:B≠w1.heap.size:=by omega
  have hbd:=hp k (Nat.le_of_lt hk)
  have hbd2:QB (qAt qs k) m:=by
   obtain ⟨_,_,_,_,_,q,_,_,_,_,e,hr⟩:=h.cells k hk
   rw [show qAt qs k=q from by simp [qAt,e]]
   exact hr.qb hm0
  have hTW:Tab W:=hT.below h4
  gi_wp2_with (gi_at_call 57;refine tG (callsIn_wide.2 (by
   obtain ⟨cs,g1,g2⟩:=h1
   obtain ⟨cs',g1',g2'⟩:=hnb
   exact zNh g1 g2 g1' g2' hne hbd hbd2 oO hTW)) ?_;rintro e w3 ⟨u,rfl,_,hg3,cs3,hh3,hc3,_⟩)
  refine ⟨(KeepsOthers.of_grownBy hg3 (fun j o e ho=>by cases e;obtain ⟨cs,g1,_⟩:=h1;rw [g1] at ho;cases ho;rfl)).from _,⟨(yO.refl _ _).grown hg3 (fun b hb=>⟨by have:=h4.size;rcases hb with hb|hb<;>omega,fun e=>by have:=sS e;omega⟩),hg3.size⟩,⟨cs3,hh3,hc3⟩,h2.kept hg3 (fun e=>by have:=sS e;omega),(hg3.block _ h3.lt (fun e=>by have:=sS e;omega)).trans h3,zA1 h4 hg3 h4.size oO,sD h5 hg3.size,h6⟩
 case done=>
  rintro D W hD ⟨h1,h2,h3,h4,h5,h6⟩ _ hd
  obtain ⟨cs,hh,hq⟩:=h1
  obtain ⟨A3,n3,c3,A4,n4,c4,ecs⟩:=zBF hq
  have ecs:=congrArg Array.toList (zAk ecs)
  simp at ecs
  subst ecs
  obtain ⟨g0,g1,g2⟩:W.cell? ⟨w1.heap.size,0,none⟩=some (.bool (decide ((zCS qs n).num<0)))/\W.cell? ⟨w1.heap.size,0+1,none⟩=some (.slice A3 n3 c3)/\W.cell? ⟨w1.heap.size,0+2,none⟩=some (.slice A4 n4 c4):=⟨jW hh 0 _ rfl,jW hh 1 _ rfl,jW hh 2 _ rfl⟩
  simp only [Nat.zero_add] at g1 g2
  have hc2:=h2.cell
  have q0:W.cell? ⟨w.heap.size,0,none⟩=some (.bool false):=h3.cell 0
  have q1:W.cell? ⟨w.heap.size,1,none⟩=some (.slice none 0 0):=h3.cell 1
  have q2:W.cell? ⟨w.heap.size,2,none⟩=some (.slice none 0 0):=h3.cell 2
  have q3:=h3.frozen 0;have q4:=h3.frozen 1;have q5:=h3.frozen 2
  go_wp2
  have hb5:qW (((W.setCell ⟨w.heap.size,0,none⟩ (.bool (decide ((zCS qs n).num<0)))).setCell ⟨w.heap.size,1,none⟩ (.slice A3 n3 c3)).setCell ⟨w.heap.size,2,none⟩ (.slice A4 n4 c4)) w.heap.size 32 #[.bool (decide ((zCS qs n).num<0)), .slice A3 n3 c3, .slice A4 n4 c4]:=((h3.set 0 _).set 1 _).set 2 _
  have hM2:Marks w.heap.size (((W.setCell ⟨w.heap.size,0,none⟩ (.bool (decide ((zCS qs n).num<0)))).setCell ⟨w.heap.size,1,none⟩ (.slice A3 n3 c3)).setCell ⟨w.heap.size,2,none⟩ (.slice A4 n4 c4)) [mark D] [D]:=((Marks.nil w.heap.size W).more (D:=D) (by simp) (by have:=hB1.size;omega) hd).others (((zF9 _ _ _).trans (zF9 _ _ _)).trans (zF9 _ _ _))
  have hrow: ∀(W':Wg) (i:Nat) (v u:Wh),W'.cell? ⟨w.heap.size,i,none⟩=some u->yA u=true->yL W' (W'.setCell ⟨w.heap.size,i,none⟩ v):=fun W' i v u hu hn p x hp=>(World.cell?_setCell_other _ _ _ _ (fun e=>by rw [<-e] at hp;rw [hu] at hp;cases hp;cases hn)).trans hp
  have hk3:yL W (((W.setCell ⟨w.heap.size,0,none⟩ (.bool (decide ((zCS qs n).num<0)))).setCell ⟨w.heap.size,1,none⟩ (.slice A3 n3 c3)).setCell ⟨w.heap.size,2,none⟩ (.slice A4 n4 c4)):=((hrow _ _ _ _ q0 rfl).trans (hrow _ _ _ _ ((h3.set 0 _).cell 1) rfl)).trans (hrow _ _ _ _ (((h3.set 0 _).set 1 _).cell 2) rfl)
  have hq3:=hq.keepU hk3
  have hb3:Below w.heap.size w (((W.setCell ⟨w.heap.size,0,none⟩ (.bool (decide ((zCS qs n).num<0)))).setCell ⟨w.heap.size,1,none⟩ (.slice A3 n3 c3)).setCell ⟨w.heap.size,2,none⟩ (.slice A4 n4 c4)):=((h4.setCell lr _).setCell lr _).setCell lr _
  generalize ((W.setCell ⟨w.heap.size,0,none⟩ (.bool (decide ((zCS qs n).num<0)))).setCell ⟨w.heap.size,1,none⟩ (.slice A3 n3 c3)).setCell ⟨w.heap.size,2,none⟩ (.slice A4 n4 c4)=W9 at*
  refine y2 _ (v:= .agg #[.bool (decide ((zCS qs n).num<0)), .slice A3 n3 c3, .slice A4 n4 c4]) (fun w' ho'=> ?_) [D] _ _ hM2 (Oth.refl _ _) ?_
  ·have h7:=hb5.oth ho'
   have:=zFD (P:=prog) (w:=w') (t:=32) (k:=3) kH (vs:= [.bool (decide ((zCS qs n).num<0)), .slice A3 n3 c3, .slice A4 n4 c4]) rfl h7
   simp [results,results34,asAddr,this]
  ·intro w' ho
   exact ⟨_,rfl,hq3.keepU (fun p x hp=>(ho.cell p).trans hp),j5 hb3 ho lr⟩
def fQS (m:Nat) (qs:List Rat):SF:=⟨fun v W=> ∃A c,v= .slice A qs.length c/\qs.length<=c/\c<=9223372036854775807/\QRd m W A qs.length qs,fun _ _ _ ⟨A,c,h1,h2,h3,h4⟩ hb=>⟨A,c,h1,h2,h3,h4.below hb⟩⟩
theorem zOi (s s':Bool) (A A' D D':Wj Addr) (n n' c c' i i' j j':Nat):zS prog 23 2 [(0, .agg #[.bool s, .slice A n c, .slice D i j]),(1, .agg #[.bool s', .slice A' n' c', .slice D' i' j'])]=some (32,#[.bool s, .slice A n c, .slice D i j, .bool s', .slice A' n' c', .slice D' i' j']):=by kernel_rfl
theorem zKa {u v:Wh} {W:Wg} {m:Nat} {p q:Rat} (hu:RVp m p u W) (hv:RVp m q v W): ∃e cs,zS prog 23 2 [(0,u),(1,v)]=some (e,cs)/\(fQS m [p,q]).p (.slice (some ⟨W.heap.size,0,none⟩) 2 2) (W.alloc (.cells cs e)):=by
 obtain ⟨k,d,h1,h2⟩:=id hu
 obtain ⟨k',d',h1',h2'⟩:=id hv
 obtain ⟨s,A,n,c,D,i,j,rfl⟩:=zDr h1
 obtain ⟨s',A',n',c',D',i',j',rfl⟩:=zDr h1'
 refine ⟨_,_,zOi s s' A A' D D' n n' c c' i i' j j',some ⟨W.heap.size,0,none⟩,2,rfl,sL _,by decide,rfl,fun x hx=> ?_⟩
 have hb:=jQ W (.cells #[.bool s, .slice A n c, .slice D i j, .bool s', .slice A' n' c', .slice D' i' j'] 32)
 rcases (by simp at hx;omega:x=0∨x=1) with rfl|rfl
 ·exact ⟨_,0,_,_,_,p,rfl,zCe W _ _ 0 _ rfl,zCe W _ _ 1 _ rfl,zCe W _ _ 2 _ rfl,rfl,hu.below hb⟩
 ·exact ⟨_,0,_,_,_,q,rfl,zCe W _ _ 3 _ rfl,zCe W _ _ 4 _ rfl,zCe W _ _ 5 _ rfl,rfl,hv.below hb⟩
theorem zQ2 {W:Wg} {m:Nat} {v:Wh} {qs:List Rat} (M:Nat) (h:(fQS m qs).p v W) (hm0:0<m) (hM:M+m+1<=2000) (hp: ∀k,k<=qs.length->QB (zCS qs k) M) (hT:Tab W):Calls prog 34 #[v] W (Ret W (fQN (zCS qs qs.length)).tS):=by
 obtain ⟨A,c,rfl,h1,h2,h3⟩:=h
 exact zMT m M A qs.length c qs W h3 h1 h2 oO hm0 hM hp hT
theorem QB.zero {m:Nat} (hm:0<m):QB 0 m:=⟨Nat.pow_pos yU,zKZ hm⟩
theorem zPF (p q:Rat):zCS [p,q] 2=p+q:=by
 show (0+p)+q=_
 rw [Rat.zero_add]
theorem zKB {W:Wg} {m:Nat} {v:Wh} {p q:Rat} (h:(fQS m [p,q]).p v W) (hp:QB p m) (hq:QB q m) (hm:3*m+2<=2000) (hT:Tab W):Calls prog 34 #[v] W (Ret W (fQN (p+q)).tS):=by
 have:=zQ2 (m+m+1) h hp.pos oO (fun k hk=>by
  rcases (by simp at hk;omega:k=0∨k=1∨k=2) with rfl|rfl|rfl
  ·exact QB.zero oO
  ·show QB (0+p) _
   rw [Rat.zero_add]
   exact hp.mono oO
  ·rw [zPF]
   exact hp.add hq) hT
 rw [show ([p,q]:List Rat).length=2 from rfl,zPF] at this
 exact this
end Go.Proofs.Wd

namespace Go.Proofs.Wd
open Tryz
set_option maxRecDepth 100000
open Go.RowKit Lb
theorem zMY {W:Wg} {v v':Wh} {k:Int} (h:NV W v k) (h':NV W v' k):Calls prog 44 #[v,v'] W (Ret W (fB true).tS):=by
 obtain ⟨A,n,c,l,rfl,h1,h2⟩:=h
 obtain ⟨A',n',c',l',rfl,h1',h2'⟩:=h'
 refine (zJp _ A n c l _ A' n' c' l' W h2 h2').mono fun e w' ⟨e1,hb⟩=>⟨_,e1, ?_,hb⟩
 rw [h1.inj h1']
 simp [fB,UF.eq,UF.mk']
theorem zM2 {W:Wg} {v v':Wh} {x:Nat} (h:qV W v x) (h':qV W v' x):Calls prog 45 #[v,v'] W (Ret W (fB true).tS):=by
 obtain ⟨A,n,c,l,rfl,h1,h2⟩:=h
 obtain ⟨A',n',c',l',rfl,h1',h2'⟩:=h'
 refine (zGG A n c l A' n' c' l' W h2 h2').mono fun e w' ⟨e1,nq,hw⟩=>⟨_,e1, ?_, ?_⟩
 ·rw [h1.inj h1']
  simp [fB,UF.eq,UF.mk']
 ·subst hw
  exact zNT nq
def UVx (n:Nat) (k:Int) (v:Wh) (w:Wg):Prop:= ∃s A c l,v= .agg #[.bool s, .slice A n c]/\Rd w A n c l/\Lt l/\iv s l=k
def LVx (n x:Nat) (v:Wh) (w:Wg):Prop:= ∃A c l,v= .slice A n c/\Rd w A n c l/\Lt l/\val l=x
def QXp (n n':Nat) (k:Int) (d:Nat) (v:Wh) (w:Wg):Prop:= ∃b s t,v= .agg #[b,s,t]/\UVx n k (.agg #[b,s]) w/\LVx n' d t w
def fQX (n n':Nat) (k:Int) (d:Nat):UF:= .mk' (QXp n n' k d) fun _ _ _ ⟨b,s,t,e,⟨sg,A,c,l,e1,h1,h2⟩,A',c',l',e2,h1',h2'⟩ u=>⟨b,s,t,e,⟨sg,A,c,l,e1,h1.keepU u,h2⟩,A',c',l',e2,h1'.keepU u,h2'⟩
theorem zSr {n n' m:Nat} {k:Int} {d:Nat} {v:Wh} {W:Wg} (h:QXp n n' k d v W) (h1:n<=m) (h2:n'<=m):QVp m k d v W:=by
 obtain ⟨b,s,t,e,⟨sg,A,c,l,e1,g1,g2,g3⟩,A',c',l',e2,g1',g2',g3'⟩:=h
 exact ⟨b,s,t,e,⟨sg,A,n,c,l,e1,g1,g2,h1,g3⟩,A',n',c',l',e2,g1',g2',h2,g3'⟩
theorem zKK (n n':Nat) (k:Int) (d:Nat): ∀cs:List Wh, ∀W,(fQX n n' k d).p (.agg cs.toArray) W->cs.length=3:=fun cs W ⟨b,s,t,e,_⟩=>by rw [zAq e];rfl
theorem zMU {W:Wg} {v v':Wh} {q:Rat} (h:QNp q v W) (h':QNp q v' W):Calls prog 21 #[v,v'] W (Ret W (fB true).tS):=by
 refine qH [(fQN q).tS,(fQN q).tS] func21 rfl kH ⟨h,h',trivial⟩ fun a s=> ?_
 refine sC ?_
 refine zC 0 [] hmix s kH
  zE fun a w1 s=> ?_
 refine zA8 (CU.agg (fQN q)) rfl s kH (fun v W h=>zIC h) fun b2 a w s=> ?_
 refine zA8 (CU.agg (fQN q)) rfl s kH (fun v W h=>zIC h) fun b3 a w s=> ?_
 refine qN (uB false) rfl s kH iiz fun a w s=> ?_
 refine zB rfl ?_
 refine sC ?_
 replace s:=s.drop [4]
 refine zC 13 ((5, .X (fQN q) 0)::(6, .Z (fNV ((q).num)))::(7, .X (fQN q) 0)::(8, .Z (fNV ((q).num)))::(9, .Z (uB true))::(10, .Z (uB true))::(11, .X (fQN q) 2)::(12, .Z (q9 ((q).den)))::(13, .X (fQN q) 2)::(14, .Z (q9 ((q).den)))::(15, .Z (uB true))::(16, .Z (uB true))::(4, .u (uB true)):: []) hmix s kH
  (oc (zW (C:=cg (fQN q)) 0 kH)<|oc (zAI (C:=cg (fQN q)) (k:=0) 2 kH (h:=zB8))<|oc (zW (C:=cg (fQN q)) 0 kH)<|oc (zAI (C:=cg (fQN q)) (k:=0) 2 kH (h:=zB8))<|oc (yB zF zS6 (fun u0 u1 W hb (h0:NV W u0 ((q).num)) (h1:NV W u1 ((q).num))=>zMY h0 h1))<|oc zA<|oc (zD 10 true kH iiz (fun _=>zW (C:=cg (fQN q)) 2 kH) arf)<|oc (zD 10 true kH iiz (fun _=>yW (C:=cg (fQN q)) (k:=2) kH (h:=zBJ)) arf)<|oc (zD 10 true kH iiz (fun _=>zW (C:=cg (fQN q)) 2 kH) arf)<|oc (zD 10 true kH iiz (fun _=>yW (C:=cg (fQN q)) (k:=2) kH (h:=zBJ)) arf)<|oc (zD 10 true kH iiz (fun _=>yB zF zS5 (fun u0 u1 W hb (h0:qV W u0 ((q).den)) (h1:qV W u1 ((q).den))=>zM2 h0 h1)) arf)<|oc (yE true iiz (fun _ _ _ h=>h) (fun e=>by cases e))<|oc zG<|zE) fun a w2 s=> ?_
 refine zB rfl ?_
 refine sE ?_
 exact wF s (t:=4) rfl iiz
structure QX where
 n:Nat
 n':Nat
 k:Int
 d:Nat
abbrev wD (x:QX):CU:=CU.agg (fQX x.n x.n' x.k x.d)
def zSs (L:List QX) (k:Nat):Nat:=((L.take k).map fun x=>min (x.n+x.n') 1000).sum
def gq (L:List QX):Bool:=decide (((L.map wD).length:Int)>60)||decide (((zSs L (min (L.map wD).length 61):Nat):Int)>40)
theorem wrap64 (u:Int) (r:Nat) (h:u=r) (hr:r<9223372036854775808):IntKind.i64.wrap u=r:=by
 subst h
 rw [IntKind.wrap_i64]
 omega
theorem zQ3 {W:Wg} {u:Wh} (k:Int) (hu:u= .int .i64 k) (h: -9223372036854775808<=k/\k<=9223372036854775807):Calls prog 47 #[u] W (zGp W k):=by
 subst hu
 exact zQ4 k h
end Go.Proofs.Wd

namespace Go.Proofs.Wd
open Tryz
set_option maxRecDepth 100000
open Go.RowKit Lb
def zLG:Nat:=10000
theorem zRl {x:Nat} (h:x<18446744073709551616) (m:Nat) (hm:2<=m):x<BB^m:=sJ h (sD (show 18446744073709551616<=BB^2 by decide) (tB yU hm))
theorem zGO {W:Wg} {m:Nat} {v:Wh} {x:Nat} (h:LV W m v x) (hm:m<=100000):Calls prog 78 #[v] W (Ret W (zCR (UF.eq (.int .u64 ((zJ x:Nat):Int))) (fB (yK x))).tS):=by
 obtain ⟨A,n,c,l,rfl,h1,h2,h3,rfl⟩:=h
 refine (zJk A n c l W h1 h2 oO).mono ?_
 rintro e w' ⟨rfl,hb⟩
 exact ⟨_,rfl,⟨_,_,rfl,rfl,rfl⟩,hb⟩
theorem zOq {W:Wg} {v:Wh} (x:Nat) (hx:x<18446744073709551616) (hv:v= .int .u64 (x:Int)):Calls prog 63 #[v] W (Ret W (q9 x).tS):=by
 subst hv
 exact (zHG x hx W).mono fun _ _ h=>q7.v h
theorem zAy (x:Nat):zJ x<18446744073709551616:=by unfold zJ;split<;>omega
theorem zHN {F:Fence} {m:Nat} {P:Wl} {w0:Wg} {ops:Array Oper} {G:Nat->SF} {d:Tmp} {ty:Wi} {pos:String} {aft:Array Edge} {t:Wi} {x y:Wk} {t':Wi} (k:IntKind) (u v r:Int) (hx: ∀q W,(fct G x).p q W->q= .int k u) (hy: ∀q W,(fct G y).p q W->q= .int k v) (hv:v≠0) (hr:k.wrap (u.tdiv v)=r) (hd: ∀W,(G d).p (.int k r) W:=by exact fun _=>rfl):qB F m P w0 ops G ⟨some d, .binOp .quo t x y t',ty,pos,aft,none⟩:=
 zDI (.int k u) (.int k v) (.int k r) hx hy (fun W=>by simp [eqGuard]) (fun W=>by simp [binOp,Op.intDiv,hv,hr]) hd
theorem zQD (u:Int) (r:Nat) (h:u=r) (hr:r<18446744073709551616):IntKind.u64.wrap u=r:=by
 subst h
 rw [IntKind.wrap_u64]
 omega
theorem zIH {W:Wg} {v:Wh} {x:Nat} (h:qV W v x):Calls prog 41 #[v] W (Ret W (fNV (x:Int)).tS):=by
 refine qH [(q9 x).tS] func41 rfl kH ⟨h,trivial⟩ fun a s=> ?_
 refine sC ?_
 refine zC 0 [] hmix s kH
  zE fun a w1 s=> ?_
 refine qJ (CU.len 2) (cs:= [.bool false, .slice none 0 0]) kH rfl s kH (fun W=>rfl) rfl fun b2 a w s=> ?_
 refine zB rfl ?_
 refine sC ?_
 refine zC 2 ((3, .Z (q9 x))::(4, .u (fNV (x:Int))):: []) hmix s kH
  (oc zA<|oc (zEE (fun u W (hu:qV W u x)=>zL0 hu))<|zE) fun a w2 s=> ?_
 refine yY (CU.agg (fNV (x:Int))) ((fNV (x:Int)).tS) rfl s kH rfl rfl rfl iiz iiz zFZ fun a w s=> ?_
 refine zB rfl ?_
 refine sE ?_
 exact wP s (CU.agg (fNV (x:Int))) rfl kH rfl rfl (zOC _) (fun cs W h=>h)
theorem zIz {W:Wg} {v:Wh} (z:Int) (hv:v= .int .i64 z) (hz: -9223372036854775808<=z/\z<=9223372036854775807):Calls prog 26 #[v] W (Ret W (fQN (z:Rat)).tS):=by
 refine qH [(fI z).tS] func26 rfl kH ⟨hv,trivial⟩ fun a s=> ?_
 refine sC ?_
 refine zC 0 [] hmix s kH
  zE fun a w1 s=> ?_
 refine qJ (CU.len 3) (cs:=zR3) kH rfl s kH (fun W=>rfl) rfl fun b2 a w s=> ?_
 refine zB rfl ?_
 refine sC ?_
 refine zC 4 ((3, .Z (uI z))::(4, .Z (fNV z))::(5, .Z (q9 1))::(6, .u (fQN (z:Rat))):: []) hmix s kH
  (oc zA<|oc (zM zF zS4 (fun u0 W hb (h0:u0= .int .i64 z)=>zQ3 z h0 hz))<|oc (zC3 (fun u W (hu:u= .int .u32 1)=>zOf hu))<|oc (zAo (fun u v W (hu:NV W u z) (hv:qV W v 1)=>zI9 (q:=(z:Rat)) hu hv))<|zE) fun a w2 s=> ?_
 refine yY (CU.agg (fQN (z:Rat))) ((fQN (z:Rat)).tS) rfl s kH rfl rfl rfl iiz iiz qP fun a w s=> ?_
 refine zB rfl ?_
 refine sE ?_
 exact wP s (CU.agg (fQN (z:Rat))) rfl kH rfl rfl (jH _) (fun cs W h=>h)
theorem zDJ (k:Int) (d:Nat) (h:0<d):(if decide (k<0) then -((k.natAbs / Nat.gcd k.natAbs d:Nat):Int) else ((k.natAbs / Nat.gcd k.natAbs d:Nat):Int))=(mkRat k d).num:=by
 have h1:=zC5 k d h
 have h2:=zC6 k d h
 rw [<-h1, <-h2]
 by_cases hs:(mkRat k d).num<0
 ·rw [tE hs,if_pos rfl]
  omega
 ·rw [sX hs,if_neg dA]
  omega
theorem zPw {W:Wg} {m:Nat} {v v':Wh} {k:Int} {d:Nat} (h:UV W m v k) (h':LV W m v' d) (hm:m<=2000) (hd:d=0):Calls prog 59 #[v,v'] W (Ret W (zCR (fQN (mkRat k d)) (fI 30)).tS):=by
 have bk:k.natAbs<BB^m:=h.bound
 have hz:true=decide (d=0):=(tE hd).symm
 have hq0:mkRat k d=((0:Int):Rat):=by rw [hd,Rat.mkRat_zero];rfl
 refine qH [(fUV m k).tS,(fLV m d).tS] func59 rfl kH ⟨h,h',trivial⟩ fun a s=> ?_
 refine sC ?_
 refine zC 0 [] hmix s kH
  zE fun a w1 s=> ?_
 refine zA8 (CU.agg (fUV m k)) rfl s kH (fun v W h=>zN6 h) fun b2 a w s=> ?_
 refine qJ (CU.len 3) (cs:=zR3) kH rfl s kH (fun W=>rfl) rfl fun b4 a w s=> ?_
 refine qN (uI 0) rfl s kH iiz fun a w s=> ?_
 refine zB rfl ?_
 refine sC ?_
 refine sC ?_
 refine zC 4 ((18, .Z (fLV m d))::(19, .Z (q9 d))::(20, .s (zQC d))::(21, .u (uB true)):: []) hmix s kH
  (oc zA<|oc (zM zF zRy (fun u0 W hb (h0:LV W m u0 d)=>(zFE h0 oO)))<|oc (zFV kH iiz)<|oc (zFX hz)<|zE) fun a w2 s=> ?_
 refine zB rfl ?_
 refine StS.cond s true iiz (fun e=> ?_) (fun e=>by cases e)
 refine sC ?_
 replace s:=s.drop [5]
 refine zC 1 ((22, .u (fQN ((0:Int):Rat))):: []) hmix s kH
  (oc (zM zF zNI (fun u0 W hb (h0:u0= .int .i64 0)=>zIz 0 h0 dA))<|zE) fun a w3 s=> ?_
 refine yY (CU.agg (fQN ((0:Int):Rat))) ((fQN ((0:Int):Rat)).tS) rfl s kH rfl rfl rfl iiz iiz qP fun a w s=> ?_
 refine qN (uI 30) rfl s kH iiz fun a w s=> ?_
 refine zB rfl ?_
 refine sE ?_
 exact vD s (CU.agg (fQN ((0:Int):Rat))) rfl kH rfl rfl (jH _) (fun cs v W h1 h2=>⟨_,_,rfl,by rw [hq0];exact h1,h2⟩)
theorem zPx {W:Wg} {m:Nat} {v v':Wh} {k:Int} {d:Nat} (h:UV W m v k) (h':LV W m v' d) (hm:m<=2000) (hd0:0<d):Calls prog 59 #[v,v'] W (Ret W (zCR (fQN (mkRat k d)) (fI 0)).tS):=by
 have bk:k.natAbs<BB^m:=h.bound
 have hz:false=decide (d=0):=(sX oO).symm
 have hdiv: ∀W u0 u1 x,LV W m u0 x->qV W u1 (Nat.gcd k.natAbs d)->Calls prog 81 #[u0,u1] W (Ret W (zLH (q9 (x / (Nat.gcd k.natAbs d))) (q9 (x % (Nat.gcd k.natAbs d))) (fI 0)).tS):=fun W u0 u1 x h1 h2=>by
  refine (zQ0 h1 (qV.lv (m:=m) h2 (sG (Nat.gcd_le_right _ hd0) h'.bound)) oO (zT6 _ hd0)).mono ?_
  rintro e w' ⟨v1,v2,rfl,h3,h4,hb⟩
  exact ⟨_,rfl,⟨v1,v2,_,rfl,h3,h4,rfl⟩,hb⟩
 refine qH [(fUV m k).tS,(fLV m d).tS] func59 rfl kH ⟨h,h',trivial⟩ fun a s=> ?_
 refine sC ?_
 refine zC 0 [] hmix s kH
  zE fun a w1 s=> ?_
 refine zA8 (CU.agg (fUV m k)) rfl s kH (fun v W h=>zN6 h) fun b2 a w s=> ?_
 refine qJ (CU.len 3) (cs:=zR3) kH rfl s kH (fun W=>rfl) rfl fun b4 a w s=> ?_
 refine qN (uI 0) rfl s kH iiz fun a w s=> ?_
 refine zB rfl ?_
 refine sC ?_
 refine sC ?_
 refine zC 4 ((18, .Z (fLV m d))::(19, .Z (q9 d))::(20, .s (zQC d))::(21, .u (uB false)):: []) hmix s kH
  (oc zA<|oc (zM zF zRy (fun u0 W hb (h0:LV W m u0 d)=>(zFE h0 oO)))<|oc (zFV kH iiz)<|oc (zFX hz)<|zE) fun a w2 s=> ?_
 refine zB rfl ?_
 refine StS.cond s false iiz (fun e=>by cases e) (fun e=> ?_)
 refine sI ?_
 refine sC ?_
 refine zC 2 ((23, .Z (fUV m k))::(24, .u (fNV k)):: []) hmix s kH
  (oc (yP (f:=fUV m k) 2 kH (hz:=zN5 _ _))<|oc (zM zF zQl (fun u0 W hb (h0:UV W m u0 k)=>zFL h0 oO))<|zE) fun a w3 s=> ?_
 refine yY (CU.agg (fNV k)) ((fNV k).tS) rfl s kH rfl rfl rfl (zN5 _ _) iiz zFZ fun a w s=> ?_
 refine zB rfl ?_
 refine sC ?_
 refine zC 8 ((26, .X (fNV k) 1)::(27, .Z (q9 ((k).natAbs)))::(28, .Z (zCR (UF.eq (.int .u64 ((zJ ((k).natAbs):Nat):Int))) (uB (yK ((k).natAbs)))))::(25, .Z (zCR (UF.eq (.int .u64 ((zJ ((k).natAbs):Nat):Int))) (uB (yK ((k).natAbs)))))::(29, .Z (UF.eq (.int .u64 ((zJ ((k).natAbs):Nat):Int))))::(30, .Z (uB (yK ((k).natAbs))))::(6, .u (UF.eq (.int .u64 ((zJ ((k).natAbs):Nat):Int))))::(7, .u (uB (yK ((k).natAbs)))):: []) hmix s kH
  (oc (zW (C:=cg (fNV k)) 1 kH)<|oc (yW (C:=cg (fNV k)) (k:=1) kH (h:=zIQ))<|oc (zM zF zRu (fun u0 W hb (h0:qV W u0 ((k).natAbs))=>zGO (qV.lv (m:=m) h0 bk) oO))<|oc zA<|oc (zAK (A:=(UF.eq (.int .u64 ((zJ ((k).natAbs):Nat):Int))).tS) (B:=(uB (yK ((k).natAbs))).tS) iiz)<|oc (zAJ (A:=(UF.eq (.int .u64 ((zJ ((k).natAbs):Nat):Int))).tS) (B:=(uB (yK ((k).natAbs))).tS) iiz)<|oc zG<|oc zG<|zE) fun a w4 s=> ?_
 refine zB rfl ?_
 refine sC ?_
 refine zC 7 ((32, .Z (fLV m d))::(33, .Z (zCR (UF.eq (.int .u64 ((zJ d:Nat):Int))) (uB (yK d))))::(31, .Z (zCR (UF.eq (.int .u64 ((zJ d:Nat):Int))) (uB (yK d))))::(34, .Z (UF.eq (.int .u64 ((zJ d:Nat):Int))))::(35, .Z (uB (yK d)))::(8, .u (UF.eq (.int .u64 ((zJ d:Nat):Int))))::(9, .u (uB (yK d))):: []) hmix s kH
  (oc zA<|oc (zM zF zRu (fun u0 W hb (h0:LV W m u0 d)=>zGO h0 oO))<|oc zA<|oc (zAK (A:=(UF.eq (.int .u64 ((zJ d:Nat):Int))).tS) (B:=(uB (yK d)).tS) iiz)<|oc (zAJ (A:=(UF.eq (.int .u64 ((zJ d:Nat):Int))).tS) (B:=(uB (yK d)).tS) iiz)<|oc zG<|oc zG<|zE) fun a w5 s=> ?_
 refine zB rfl ?_
 refine sC ?_
 refine sC ?_
 refine zC 4 ((36, .Z (uB (yK ((k).natAbs))))::(37, .Z (uB (yK ((k).natAbs))))::(38, .s (SF.imp ((yK ((k).natAbs))=true) ((uB (yK d)).tS)))::(39, .u (uB ((yK ((k).natAbs))&&(yK d)))):: []) hmix s kH
  (oc zA<|oc zA<|oc (zD 37 (yK ((k).natAbs)) kH iiz (fun e=>zL [] ((uB (yK d)).tS) fnz (fun _ _ h _=>h) kH zA) (fun e W h=>absurd h e))<|oc (yE (yK ((k).natAbs)) iiz (fun e v W h=>zCs (zI e h) e) (fun e v W h=>zBK h e))<|zE) fun a w6 s=> ?_
 refine zB rfl ?_
 refine StS.cond s ((yK ((k).natAbs))&&(yK d)) iiz (fun e=> ?_) (fun e=> ?_)
 ·rw [tQ] at e
  have hs1:zJ k.natAbs=k.natAbs:=by have:=e.1;unfold yK at this;unfold zJ;rw [if_pos (sQ this)]
  have hs2:zJ d=d:=by have:=e.2;unfold yK at this;unfold zJ;rw [if_pos (sQ this)]
  have hg0:((Nat.gcd (zJ k.natAbs) (zJ d):Nat):Int)≠0:=by rw [hs1,hs2];have:=zT6 k.natAbs hd0;omega
  have hden:(mkRat k d).den=zJ d / (Nat.gcd (zJ k.natAbs) (zJ d)):=by rw [hs1,hs2];exact zCd k d hd0
  have hlt: ∀x,x<18446744073709551616->x<BB^zLG:=fun x hx=>zRl hx _ dA
  have hnum: ∀W u,UV W zLG u (if decide (k<0) then -(((zJ k.natAbs / (Nat.gcd (zJ k.natAbs) (zJ d))):Nat):Int) else (((zJ k.natAbs / (Nat.gcd (zJ k.natAbs) (zJ d))):Nat):Int))->Calls prog 58 #[u] W (zGp W (mkRat k d).num):=fun W u hu=>by
   have:=zFL hu dA
   rw [hs1,hs2,zDJ k d hd0] at this
   exact this
  refine sC ?_
  refine zC 4 ((40, .Z (UF.eq (.int .u64 ((zJ ((k).natAbs):Nat):Int))))::(41, .Z (UF.eq (.int .u64 ((zJ d:Nat):Int))))::(42, .Z (UF.eq (.int .u64 ((Nat.gcd (zJ k.natAbs) (zJ d):Nat):Int))))::(10, .u (UF.eq (.int .u64 ((Nat.gcd (zJ k.natAbs) (zJ d):Nat):Int)))):: []) hmix s kH
   (oc zA<|oc zA<|oc (yB zF zSS (fun u0 u1 W hb (h0:u0= .int .u64 ((zJ ((k).natAbs):Nat):Int)) (h1:u1= .int .u64 ((zJ d:Nat):Int))=>zKD _ _ h0 h1 (zAy _) (zAy _)))<|oc zG<|zE) fun a w7 s=> ?_
  refine zB rfl ?_
  refine sC ?_
  replace s:=s.drop [5]
  refine zAb [2,3,8,9] 13 ((43, .X (fNV k) 0)::(44, .Z (uB (decide (k<0))))::(45, .Z (UF.eq (.int .u64 ((zJ ((k).natAbs):Nat):Int))))::(46, .Z (UF.eq (.int .u64 ((Nat.gcd (zJ k.natAbs) (zJ d):Nat):Int))))::(47, .Z (UF.eq (.int .u64 ((zJ k.natAbs / (Nat.gcd (zJ k.natAbs) (zJ d)):Nat):Int))))::(48, .Z (q9 (zJ k.natAbs / (Nat.gcd (zJ k.natAbs) (zJ d)))))::(49, .Z (fUV zLG (if decide (k<0) then -((zJ k.natAbs / (Nat.gcd (zJ k.natAbs) (zJ d)):Nat):Int) else ((zJ k.natAbs / (Nat.gcd (zJ k.natAbs) (zJ d)):Nat):Int))))::(50, .Z (fNV ((mkRat k d).num)))::(51, .Z (UF.eq (.int .u64 ((zJ d:Nat):Int))))::(52, .Z (UF.eq (.int .u64 ((Nat.gcd (zJ k.natAbs) (zJ d):Nat):Int))))::(53, .Z (UF.eq (.int .u64 ((zJ d / (Nat.gcd (zJ k.natAbs) (zJ d)):Nat):Int))))::(54, .Z (q9 (zJ d / (Nat.gcd (zJ k.natAbs) (zJ d)))))::(55, .u (fQN (mkRat k d))):: []) hmix s kH
   (oc (zW (C:=cg (fNV k)) 0 kH)<|oc (yW (C:=cg (fNV k)) (k:=0) kH (h:=zOB))<|oc zA<|oc zA<|oc (zHN .u64 ((zJ ((k).natAbs):Nat):Int) ((Nat.gcd (zJ k.natAbs) (zJ d):Nat):Int) ((zJ k.natAbs / (Nat.gcd (zJ k.natAbs) (zJ d)):Nat):Int) iiz iiz hg0 (zQD _ _ (by rw [tO oO,Int.natCast_ediv]) (sG (sN _ _) (zAy _))))<|oc (zM zF zRw (fun u0 W hb (h0:u0= .int .u64 ((zJ k.natAbs / (Nat.gcd (zJ k.natAbs) (zJ d)):Nat):Int))=>zOq _ (sG (sN _ _) (zAy _)) h0))<|oc (zAo (fun u v W (hu:u= .bool (decide (k<0))) (hv:qV W v (zJ k.natAbs / (Nat.gcd (zJ k.natAbs) (zJ d))))=>zRP hu hv (hlt _ (by first|exact sG (sN _ _) (zAy _)|exact hk64|exact sG (sN _ _) (sJ bk (tB yU (sD hm dA)))))))<|oc (zM zF zQl (fun u0 W hb (h0:UV W zLG u0 (if decide (k<0) then -((zJ k.natAbs / (Nat.gcd (zJ k.natAbs) (zJ d)):Nat):Int) else ((zJ k.natAbs / (Nat.gcd (zJ k.natAbs) (zJ d)):Nat):Int)))=>hnum W u0 (h0:UV W zLG u0 _)))<|oc zA<|oc zA<|oc (zHN .u64 ((zJ d:Nat):Int) ((Nat.gcd (zJ k.natAbs) (zJ d):Nat):Int) ((zJ d / (Nat.gcd (zJ k.natAbs) (zJ d)):Nat):Int) iiz iiz hg0 (zQD _ _ (by rw [tO oO,Int.natCast_ediv]) (sG (sN _ _) (zAy _))))<|oc (zM zF zRw (fun u0 W hb (h0:u0= .int .u64 ((zJ d / (Nat.gcd (zJ k.natAbs) (zJ d)):Nat):Int))=>zOq _ (sG (sN _ _) (zAy _)) h0))<|oc (zAo (fun u v W (hu:NV W u ((mkRat k d).num)) (hv:qV W v (zJ d / (Nat.gcd (zJ k.natAbs) (zJ d))))=>zI9 (q:=mkRat k d) hu (by first|exact hv|(rw [hden];exact hv))))<|zE) fun Q' hQ a w8 s=> ?_
  refine yY (CU.agg (fQN (mkRat k d))) ((fQN (mkRat k d)).tS) rfl s kH rfl rfl rfl iiz iiz qP fun a w s=> ?_
  refine qN (uI 0) rfl s kH iiz fun a w s=> ?_
  refine zB rfl (hQ _ _ ?_)
  refine sE ?_
  exact vD s (CU.agg (fQN (mkRat k d))) rfl kH rfl rfl (jH _) (fun cs v W h1 h2=>⟨_,_,rfl,h1,h2⟩)
 ·have hlt: ∀x,x<BB^zLG->x<BB^zLG:=fun x hx=>hx
  have hden:(mkRat k d).den=d / (Nat.gcd k.natAbs d):=zCd k d hd0
  have hnum: ∀W u,UV W zLG u (if decide (k<0) then -((((k).natAbs / (Nat.gcd k.natAbs d)):Nat):Int) else ((((k).natAbs / (Nat.gcd k.natAbs d)):Nat):Int))->Calls prog 58 #[u] W (zGp W (mkRat k d).num):=fun W u hu=>by
   have:=zFL hu dA
   rw [zDJ k d hd0] at this
   exact this
  refine sI ?_
  refine sC ?_
  refine zC 5 ((56, .X (fNV k) 1)::(57, .Z (q9 ((k).natAbs)))::(58, .Z (fLV m d))::(59, .Z (q9 (Nat.gcd k.natAbs d)))::(11, .u (q9 (Nat.gcd k.natAbs d))):: []) hmix s kH
   (oc (zW (C:=cg (fNV k)) 1 kH)<|oc (yW (C:=cg (fNV k)) (k:=1) kH (h:=zIQ))<|oc zA<|oc (yB zF zSR (fun u0 u1 W hb (h0:qV W u0 ((k).natAbs)) (h1:LV W m u1 d)=>zPD (qV.lv (m:=m) h0 bk) h1 oO))<|oc zG<|zE) fun a w9 s=> ?_
  refine zB rfl ?_
  refine sC ?_
  refine zC 11 ((61, .X (fNV k) 1)::(62, .Z (q9 ((k).natAbs)))::(63, .Z (q9 (Nat.gcd k.natAbs d)))::(64, .Z (zLH (q9 (((k).natAbs) / (Nat.gcd k.natAbs d))) (q9 (((k).natAbs) % (Nat.gcd k.natAbs d))) (uI 0)))::(60, .Z (zLH (q9 (((k).natAbs) / (Nat.gcd k.natAbs d))) (q9 (((k).natAbs) % (Nat.gcd k.natAbs d))) (uI 0)))::(65, .Z (q9 (((k).natAbs) / (Nat.gcd k.natAbs d))))::(66, .Z (q9 (((k).natAbs) % (Nat.gcd k.natAbs d))))::(67, .Z (uI 0))::(12, .u (q9 (((k).natAbs) / (Nat.gcd k.natAbs d))))::(13, .Z (q9 (((k).natAbs) % (Nat.gcd k.natAbs d))))::(14, .Z (uI 0)):: []) hmix s kH
   (oc (zW (C:=cg (fNV k)) 1 kH)<|oc (yW (C:=cg (fNV k)) (k:=1) kH (h:=zIQ))<|oc zA<|oc (yB zF zRt (fun u0 u1 W hb (h0:qV W u0 ((k).natAbs)) (h1:qV W u1 (Nat.gcd k.natAbs d))=>hdiv W u0 u1 _ (qV.lv (m:=m) h0 bk) h1))<|oc zA<|oc (zD5 (A:=(q9 (((k).natAbs) / (Nat.gcd k.natAbs d))).tS) (B:=(q9 (((k).natAbs) % (Nat.gcd k.natAbs d))).tS) (C:=(uI 0).tS) iiz)<|oc (zD4 (A:=(q9 (((k).natAbs) / (Nat.gcd k.natAbs d))).tS) (B:=(q9 (((k).natAbs) % (Nat.gcd k.natAbs d))).tS) (C:=(uI 0).tS) iiz)<|oc (zD3 (A:=(q9 (((k).natAbs) / (Nat.gcd k.natAbs d))).tS) (B:=(q9 (((k).natAbs) % (Nat.gcd k.natAbs d))).tS) (C:=(uI 0).tS) iiz)<|oc zG<|oc zG<|oc zG<|zE) fun a w10 s=> ?_
  refine zB rfl ?_
  refine sC ?_
  refine zC 10 ((69, .Z (fLV m d))::(70, .Z (q9 (Nat.gcd k.natAbs d)))::(71, .Z (zLH (q9 (d / (Nat.gcd k.natAbs d))) (q9 (d % (Nat.gcd k.natAbs d))) (uI 0)))::(68, .Z (zLH (q9 (d / (Nat.gcd k.natAbs d))) (q9 (d % (Nat.gcd k.natAbs d))) (uI 0)))::(72, .Z (q9 (d / (Nat.gcd k.natAbs d))))::(73, .Z (q9 (d % (Nat.gcd k.natAbs d))))::(74, .Z (uI 0))::(15, .u (q9 (d / (Nat.gcd k.natAbs d))))::(16, .Z (q9 (d % (Nat.gcd k.natAbs d))))::(17, .Z (uI 0)):: []) hmix s kH
   (oc zA<|oc zA<|oc (yB zF zRt (fun u0 u1 W hb (h0:LV W m u0 d) (h1:qV W u1 (Nat.gcd k.natAbs d))=>hdiv W u0 u1 _ h0 h1))<|oc zA<|oc (zD5 (A:=(q9 (d / (Nat.gcd k.natAbs d))).tS) (B:=(q9 (d % (Nat.gcd k.natAbs d))).tS) (C:=(uI 0).tS) iiz)<|oc (zD4 (A:=(q9 (d / (Nat.gcd k.natAbs d))).tS) (B:=(q9 (d % (Nat.gcd k.natAbs d))).tS) (C:=(uI 0).tS) iiz)<|oc (zD3 (A:=(q9 (d / (Nat.gcd k.natAbs d))).tS) (B:=(q9 (d % (Nat.gcd k.natAbs d))).tS) (C:=(uI 0).tS) iiz)<|oc zG<|oc zG<|oc zG<|zE) fun a w11 s=> ?_
  refine zB rfl ?_
  refine sC ?_
  replace s:=s.drop [5]
  refine zC 7 ((75, .X (fNV k) 0)::(76, .Z (uB (decide (k<0))))::(77, .Z (q9 (((k).natAbs) / (Nat.gcd k.natAbs d))))::(78, .Z (fUV zLG (if decide (k<0) then -((((k).natAbs) / (Nat.gcd k.natAbs d):Nat):Int) else ((((k).natAbs) / (Nat.gcd k.natAbs d):Nat):Int))))::(79, .Z (fNV ((mkRat k d).num)))::(80, .Z (q9 (d / (Nat.gcd k.natAbs d))))::(81, .u (fQN (mkRat k d))):: []) hmix s kH
   (oc (zW (C:=cg (fNV k)) 0 kH)<|oc (yW (C:=cg (fNV k)) (k:=0) kH (h:=zOB))<|oc zA<|oc (zAo (fun u v W (hu:u= .bool (decide (k<0))) (hv:qV W v (((k).natAbs) / (Nat.gcd k.natAbs d)))=>zRP hu hv (hlt _ (by first|exact sG (sN _ _) (zAy _)|exact hk64|exact sG (sN _ _) (sJ bk (tB yU (sD hm dA)))))))<|oc (zM zF zQl (fun u0 W hb (h0:UV W zLG u0 (if decide (k<0) then -((((k).natAbs) / (Nat.gcd k.natAbs d):Nat):Int) else ((((k).natAbs) / (Nat.gcd k.natAbs d):Nat):Int)))=>hnum W u0 (h0:UV W zLG u0 _)))<|oc zA<|oc (zAo (fun u v W (hu:NV W u ((mkRat k d).num)) (hv:qV W v (d / (Nat.gcd k.natAbs d)))=>zI9 (q:=mkRat k d) hu (by first|exact hv|(rw [hden];exact hv))))<|zE) fun a w12 s=> ?_
  refine yY (CU.agg (fQN (mkRat k d))) ((fQN (mkRat k d)).tS) rfl s kH rfl rfl rfl iiz iiz qP fun a w s=> ?_
  refine qN (uI 0) rfl s kH iiz fun a w s=> ?_
  refine zB rfl ?_
  refine sE ?_
  exact vD s (CU.agg (fQN (mkRat k d))) rfl kH rfl rfl (jH _) (fun cs v W h1 h2=>⟨_,_,rfl,h1,h2⟩)
theorem zKE {W:Wg} {m:Nat} {v v':Wh} {k:Int} {d:Nat} (h:UV W m v k) (h':LV W m v' d) (hm:m<=2000):Calls prog 59 #[v,v'] W (Ret W (zCR (fQN (mkRat k d)) (fI (if d=0 then 30 else 0))).tS):=by
 by_cases hd:d=0
 ·rw [if_pos hd]
  exact zPw h h' hm hd
 ·rw [if_neg hd]
  exact zPx h h' hm oO
end Go.Proofs.Wd

namespace Go.Proofs.Wd
open Tryz
set_option maxRecDepth 100000
open Go.RowKit Lb
theorem zMV {W:Wg} {m:Nat} {v:Wh} {k:Int} {d:Nat} (h:QVp m k d v W) (hm:m<=2000):Calls prog 38 #[v] W (Ret W (fQN (mkRat k d)).tS):=by
 refine qH [(fQV m k d).tS] func38 rfl kH ⟨h,trivial⟩ fun a s=> ?_
 refine sC ?_
 refine zC 0 [] hmix s kH
  zE fun a w1 s=> ?_
 refine zA8 (CU.agg (fQV m k d)) rfl s kH (fun v W h=>zGP h) fun b1 a w s=> ?_
 refine qJ (CU.len 3) (cs:=zR3) kH rfl s kH (fun W=>rfl) rfl fun b2 a w s=> ?_
 refine zB rfl ?_
 refine sC ?_
 refine zC 8 ((6, .X (fQV m k d) 0)::(7, .Z (fUV m k))::(8, .X (fQV m k d) 2)::(9, .Z (fLV m d))::(10, .Z (zCR (fQN (mkRat k d)) (uI (if d=0 then 30 else 0))))::(5, .Z (zCR (fQN (mkRat k d)) (uI (if d=0 then 30 else 0))))::(11, .u (fQN (mkRat k d)))::(12, .u (uI (if d=0 then 30 else 0))):: []) hmix s kH
  (oc (zW (C:=cg (fQV m k d)) 0 kH)<|oc (zAI (C:=cg (fQV m k d)) (k:=0) 2 kH (h:=zOs))<|oc (zW (C:=cg (fQV m k d)) 2 kH)<|oc (yW (C:=cg (fQV m k d)) (k:=2) kH (h:=zKL))<|oc (yB zF zRx (fun u0 u1 W hb (h0:UV W m u0 k) (h1:LV W m u1 d)=>zKE h0 h1 hm))<|oc zA<|oc (zAK (A:=(fQN (mkRat k d)).tS) (B:=(uI (if d=0 then 30 else 0)).tS) iiz)<|oc (zAJ (A:=(fQN (mkRat k d)).tS) (B:=(uI (if d=0 then 30 else 0)).tS) iiz)<|zE) fun a w2 s=> ?_
 refine qJ (CU.len 3) (cs:=zR3) kH rfl s kH (fun W=>rfl) rfl fun b3 a w s=> ?_
 refine yY (CU.agg (fQN (mkRat k d))) ((fQN (mkRat k d)).tS) rfl s kH rfl rfl rfl iiz iiz qP fun a w s=> ?_
 refine qN (uI (if d=0 then 30 else 0)) rfl s kH iiz fun a w s=> ?_
 refine zB rfl ?_
 refine sC ?_
 refine zC 1 ((13, .u (fQN (mkRat k d))):: []) hmix s kH
  (oc (yP (f:=fQN (mkRat k d)) 3 kH (hz:=jH _))<|zE) fun a w3 s=> ?_
 refine yY (CU.agg (fQN (mkRat k d))) ((fQN (mkRat k d)).tS) rfl s kH rfl rfl rfl iiz iiz qP fun a w s=> ?_
 refine zB rfl ?_
 refine sE ?_
 exact wP s (CU.agg (fQN (mkRat k d))) rfl kH rfl rfl (jH _) (fun cs W h=>h)
theorem zFK {W:Wg} {m:Nat} {v:Wh} {q:Rat} (h:RVp m q v W) (hm:m<=2000):Calls prog 38 #[v] W (Ret W (fQN q).tS):=by
 obtain ⟨k,d,h1,rfl⟩:=h
 exact zMV h1 hm
theorem zPv {W:Wg} {m:Nat} {u v:Wh} {p q:Rat} (h:QNp p u W) (h':QNp q v W) (hp:QB p m) (hq:QB q m) (hm:m<=990):Calls prog 42 #[u,v] W (Ret W (fQN (p+q)).tS):=by
 have hnew: ∀W u0 u1,NV W u0 (((p).num*((q).den:Int))+((q).num*((p).den:Int)))->qV W u1 ((p).den*(q).den)->Calls prog 59 #[u0,u1] W (Ret W (zCR (fQN (p+q)) UF.any).tS):=fun W u0 u1 h0 h1=>by
  have:=zKE (m:=m+m+1) (h0.uv' (hp.num_add hq)) (h1.lv (sJ (hp.den_mul hq) (tB yU oO))) oO
  rw [<-Rat.add_def' p q] at this
  exact this.mono fun e w' ⟨v,e1,⟨x,y,e2,h2,_⟩,hb⟩=>⟨v,e1,⟨x,y,e2,h2,trivial⟩,hb⟩
 refine qH [(fQN p).tS,(fQN q).tS] func42 rfl kH ⟨h,h',trivial⟩ fun a s=> ?_
 refine sC ?_
 refine zC 0 [] hmix s kH
  zE fun a w1 s=> ?_
 refine zA8 (CU.agg (fQN p)) rfl s kH (fun v W h=>zIC h) fun b2 a w s=> ?_
 refine zA8 (CU.agg (fQN q)) rfl s kH (fun v W h=>zIC h) fun b3 a w s=> ?_
 refine qJ (CU.len 3) (cs:=zR3) kH rfl s kH (fun W=>rfl) rfl fun b4 a w s=> ?_
 refine zB rfl ?_
 refine sC ?_
 have so:=s.old;have sg:=s.gr
 refine zCK [24] [⟨25,5,32, [.bool false, .slice none 0 0, .slice none 0 0],wK w 32 (CU.len 3)⟩] 26 ((8, .X (fQN p) 0)::(9, .Z (fNV ((p).num)))::(10, .X (fQN q) 2)::(11, .Z (q9 ((q).den)))::(12, .Z (fNV ((q).den:Int)))::(13, .s (zMg (m+m) [(p).num,((q).den:Int)]))::(14, .Z (fNV ((p).num*((q).den:Int))))::(15, .X (fQN q) 0)::(16, .Z (fNV ((q).num)))::(17, .X (fQN p) 2)::(18, .Z (q9 ((p).den)))::(19, .Z (fNV ((p).den:Int)))::(20, .s (zMg (m+m) [(q).num,((p).den:Int)]))::(21, .Z (fNV ((q).num*((p).den:Int))))::(22, .s (zMg (m+m) [((p).num*((q).den:Int)),((q).num*((p).den:Int))]))::(23, .Z (fNV (((p).num*((q).den:Int))+((q).num*((p).den:Int)))))::(24, .X (fQN p) 2)::(25, .Z (q9 ((p).den)))::(26, .X (fQN q) 2)::(27, .Z (q9 ((q).den)))::(28, .Z (q9 ((p).den*(q).den)))::(29, .Z (zCR (fQN (p+q)) (UF.any)))::(7, .Z (zCR (fQN (p+q)) (UF.any)))::(30, .u (fQN (p+q)))::(5, .s (wK w 32 (CU.len 3))):: []) hmix s (fmz ⟨⟨by show 25<26;decide, .tail _ (.tail _ (.tail _ (.tail _ (.tail _ (.tail _ (.tail _ (.tail _ (.tail _ zGn)))))))),⟨_,_,_,rfl⟩,by kernel_rfl,zKX (fun _=>rfl) rfl⟩,fnz⟩) kH
  (oc (zW (C:=cg (fQN p)) 0 kH)<|oc (zAI (C:=cg (fQN p)) (k:=0) 2 kH (h:=zB8))<|oc (zW (C:=cg (fQN q)) 2 kH)<|oc (yW (C:=cg (fQN q)) (k:=2) kH (h:=zBJ))<|oc (zM zF zNF (fun u0 W hb (h0:qV W u0 ((q).den))=>zIH h0))<|oc (qD (fun u v W (hu:NV W u ((p).num)) (hv:NV W v ((q).den:Int))=>zBC (NV.uv' hu (Bd.mono (hp).1 (m':=(m+m)) (by first|omega|decide))) (NV.uv' hv (Bd.mono (zAB hq.2) (m':=(m+m)) (by first|omega|decide)))))<|oc (zM zF zNG (fun u0 W hb (h0:ISV W (m+m) u0 [(p).num,((q).den:Int)])=>zFM h0 (by show (m+m)*2+(m+m)+1<=40000;omega) (by simp) (by simp)))<|oc (zW (C:=cg (fQN q)) 0 kH)<|oc (zAI (C:=cg (fQN q)) (k:=0) 2 kH (h:=zB8))<|oc (zW (C:=cg (fQN p)) 2 kH)<|oc (yW (C:=cg (fQN p)) (k:=2) kH (h:=zBJ))<|oc (zM zF zNF (fun u0 W hb (h0:qV W u0 ((p).den))=>zIH h0))<|oc (qD (fun u v W (hu:NV W u ((q).num)) (hv:NV W v ((p).den:Int))=>zBC (NV.uv' hu (Bd.mono (hq).1 (m':=(m+m)) (by first|omega|decide))) (NV.uv' hv (Bd.mono (zAB hp.2) (m':=(m+m)) (by first|omega|decide)))))<|oc (zM zF zNG (fun u0 W hb (h0:ISV W (m+m) u0 [(q).num,((p).den:Int)])=>zFM h0 (by show (m+m)*2+(m+m)+1<=40000;omega) (by simp) (by simp)))<|oc (qD (fun u v W (hu:NV W u ((p).num*((q).den:Int))) (hv:NV W v ((q).num*((p).den:Int)))=>zBC (NV.uv' hu (Bd.mul (hp).1 (zAB hq.2))) (NV.uv' hv (Bd.mul (hq).1 (zAB hp.2)))))<|oc (zM zF zSY (fun u0 W hb (h0:ISV W (m+m) u0 [((p).num*((q).den:Int)),((q).num*((p).den:Int))])=>zPB h0 oO (by simp) (by simp)))<|oc (zW (C:=cg (fQN p)) 2 kH)<|oc (yW (C:=cg (fQN p)) (k:=2) kH (h:=zBJ))<|oc (zW (C:=cg (fQN q)) 2 kH)<|oc (yW (C:=cg (fQN q)) (k:=2) kH (h:=zBJ))<|oc (yB zF zSX (fun u0 u1 W hb (h0:qV W u0 ((p).den)) (h1:qV W u1 ((q).den))=>zQZ (qV.lv (m:=m) h0 hp.2) (qV.lv (m:=m) h1 hq.2) oO))<|oc (yB zF zRx (fun u0 u1 W hb (h0:NV W u0 (((p).num*((q).den:Int))+((q).num*((p).den:Int)))) (h1:qV W u1 ((p).den*(q).den))=>hnew W u0 u1 h0 h1))<|oc zA<|oc (zAK (A:=(fQN (p+q)).tS) (B:=(UF.any).tS) iiz)<|oc (zAJ (A:=(fQN (p+q)).tS) (B:=(UF.any).tS) iiz)<|oc (zIO (cs:=zR3) kH (zKX (fun _=>rfl) rfl))<|zE) fun Q' hQ a w2 s hr hd=> ?_
 obtain ⟨b5,_,e5,s⟩:=s.adoptA false 5 (hr (_,_) (.tail _ (.tail _ (.tail _ (.tail _ (.tail _ (.tail _ (.tail _ (.tail _ (.tail _ zGn)))))))))) sg (fun y hy=> .inl (so y hy))
 refine yY (CU.agg (fQN (p+q))) ((fQN (p+q)).tS) rfl s kH rfl rfl rfl iiz iiz qP fun a w s=> ?_
 refine qN UF.any rfl s kH (fun _ _ _=>trivial) fun a w s=> ?_
 refine zB rfl (hQ _ _ ?_)
 refine sC ?_
 refine zC 1 ((32, .u (fQN (p+q))):: []) hmix s kH
  (oc (yP (f:=fQN (p+q)) 3 kH (hz:=jH _))<|zE) fun a w3 s=> ?_
 refine yY (CU.agg (fQN (p+q))) ((fQN (p+q)).tS) rfl s kH rfl rfl rfl iiz iiz qP fun a w s=> ?_
 refine zB rfl ?_
 refine sE ?_
 exact wP s (CU.agg (fQN (p+q))) rfl kH rfl rfl (jH _) (fun cs W h=>h)
theorem zKF {W:Wg} {m:Nat} {u v:Wh} {p q:Rat} (h:RVp m p u W) (h':RVp m q v W) (hm:m<=990) (hm0:0<m):Calls prog 13 #[u,v] W (Ret W (fI (qsg p q)).tS):=by
 have hp:QB p m:=h.qb hm0
 have hq:QB q m:=h'.qb hm0
 refine qH [(fRV m p).tS,(fRV m q).tS] func13 rfl kH ⟨h,h',trivial⟩ fun a s=> ?_
 refine sC ?_
 refine zC 0 [] hmix s kH
  zE fun a w1 s=> ?_
 refine zA8 (CU.agg (fRV m p)) rfl s kH (fun v W h=>zDD h) fun b2 a w s=> ?_
 refine zA8 (CU.agg (fRV m q)) rfl s kH (fun v W h=>zDD h) fun b3 a w s=> ?_
 refine qN (uI 0) rfl s kH iiz fun a w s=> ?_
 refine zB rfl ?_
 refine sC ?_
 refine zAb [] 4 ((5, .Z (fRV m p))::(6, .u (fQN p))::(7, .Z (fRV m q))::(8, .u (fQN q)):: []) hmix s kH
  (oc (yP (f:=fRV m p) 3 kH (hz:=zBe _ _))<|oc (zM zF zQm (fun u0 W hb (h0:RVp m p u0 W)=>zFK h0 oO))<|oc (yP (f:=fRV m q) 3 kH (hz:=zBe _ _))<|oc (zM zF zQm (fun u0 W hb (h0:RVp m q u0 W)=>zFK h0 oO))<|zE) fun Q' hQ a w2 s=> ?_
 refine yY (CU.agg (fQN p)) ((fQN p).tS) rfl s kH rfl rfl rfl (zBe _ _) iiz qP fun a w s=> ?_
 refine yY (CU.agg (fQN q)) ((fQN q).tS) rfl s kH rfl rfl rfl (zBe _ _) iiz qP fun a w s=> ?_
 refine zB rfl (hQ _ _ ?_)
 refine sC ?_
 replace s:=s.drop [4]
 refine zC 17 ((9, .X (fQN p) 0)::(10, .Z (fNV ((p).num)))::(11, .X (fQN q) 2)::(12, .Z (q9 ((q).den)))::(13, .Z (fNV ((q).den:Int)))::(14, .s (zMg (m+m) [(p).num,((q).den:Int)]))::(15, .Z (fNV ((p).num*((q).den:Int))))::(16, .X (fQN q) 0)::(17, .Z (fNV ((q).num)))::(18, .X (fQN p) 2)::(19, .Z (q9 ((p).den)))::(20, .Z (fNV ((p).den:Int)))::(21, .s (zMg (m+m) [(q).num,((p).den:Int)]))::(22, .Z (fNV ((q).num*((p).den:Int))))::(23, .Z (fNV (((p).num*((q).den:Int)) - ((q).num*((p).den:Int)))))::(24, .Z (uI (qsg p q)))::(4, .u (uI (qsg p q))):: []) hmix s kH
  (oc (zW (C:=cg (fQN p)) 0 kH)<|oc (zAI (C:=cg (fQN p)) (k:=0) 2 kH (h:=zB8))<|oc (zW (C:=cg (fQN q)) 2 kH)<|oc (yW (C:=cg (fQN q)) (k:=2) kH (h:=zBJ))<|oc (zM zF zNF (fun u0 W hb (h0:qV W u0 ((q).den))=>zIH h0))<|oc (qD (fun u v W (hu:NV W u ((p).num)) (hv:NV W v ((q).den:Int))=>zBC (NV.uv' hu (Bd.mono (hp).1 (m':=(m+m)) (by first|omega|decide))) (NV.uv' hv (Bd.mono (zAB hq.2) (m':=(m+m)) (by first|omega|decide)))))<|oc (zM zF zNG (fun u0 W hb (h0:ISV W (m+m) u0 [(p).num,((q).den:Int)])=>zFM h0 (by show (m+m)*2+(m+m)+1<=40000;omega) (by simp) (by simp)))<|oc (zW (C:=cg (fQN q)) 0 kH)<|oc (zAI (C:=cg (fQN q)) (k:=0) 2 kH (h:=zB8))<|oc (zW (C:=cg (fQN p)) 2 kH)<|oc (yW (C:=cg (fQN p)) (k:=2) kH (h:=zBJ))<|oc (zM zF zNF (fun u0 W hb (h0:qV W u0 ((p).den))=>zIH h0))<|oc (qD (fun u v W (hu:NV W u ((q).num)) (hv:NV W v ((p).den:Int))=>zBC (NV.uv' hu (Bd.mono (hq).1 (m':=(m+m)) (by first|omega|decide))) (NV.uv' hv (Bd.mono (zAB hp.2) (m':=(m+m)) (by first|omega|decide)))))<|oc (zM zF zNG (fun u0 W hb (h0:ISV W (m+m) u0 [(q).num,((p).den:Int)])=>zFM h0 (by show (m+m)*2+(m+m)+1<=40000;omega) (by simp) (by simp)))<|oc (yB zF zS9 (fun u0 u1 W hb (h0:NV W u0 ((p).num*((q).den:Int))) (h1:NV W u1 ((q).num*((p).den:Int)))=>zPz (NV.uv' h0 (Bd.mul (hp).1 (zAB hq.2))) (NV.uv' h1 (Bd.mul (hq).1 (zAB hp.2))) oO))<|oc (zM zF zTa (fun u0 W hb (h0:NV W u0 (((p).num*((q).den:Int)) - ((q).num*((p).den:Int))))=>zGj (zMZ (NV.uv' h0 (Bd.sub (Bd.mul (hp).1 (zAB hq.2)) (Bd.mul (hq).1 (zAB hp.2)))) oO)))<|oc zG<|zE) fun a w3 s=> ?_
 refine zB rfl ?_
 refine sE ?_
 exact wF s (t:=4) rfl iiz
theorem zIy {W:Wg} {m:Nat} {u v:Wh} {p q:Rat} (h:RVp m p u W) (h':RVp m q v W) (hm:m<=990) (hm0:0<m):Calls prog 12 #[u,v] W (Ret W (fB (qsg p q==0)).tS):=by
 refine qH [(fRV m p).tS,(fRV m q).tS] func12 rfl kH ⟨h,h',trivial⟩ fun a s=> ?_
 refine sC ?_
 refine zC 0 [] hmix s kH
  zE fun a w1 s=> ?_
 refine zA8 (CU.agg (fRV m p)) rfl s kH (fun v W h=>zDD h) fun b2 a w s=> ?_
 refine zA8 (CU.agg (fRV m q)) rfl s kH (fun v W h=>zDD h) fun b3 a w s=> ?_
 refine qN (uB false) rfl s kH iiz fun a w s=> ?_
 refine zB rfl ?_
 refine sC ?_
 replace s:=s.drop [4]
 refine zC 5 ((5, .Z (fRV m p))::(6, .Z (fRV m q))::(7, .Z (uI (qsg p q)))::(8, .Z (uB ((qsg p q)==0)))::(4, .u (uB ((qsg p q)==0))):: []) hmix s kH
  (oc (yP (f:=fRV m p) 3 kH (hz:=zBe _ _))<|oc (yP (f:=fRV m q) 3 kH (hz:=zBe _ _))<|oc (yB zF zRG (fun u0 u1 W hb (h0:RVp m p u0 W) (h1:RVp m q u1 W)=>zKF h0 h1 hm hm0))<|oc (zP .i64 (qsg p q) 0 ((qsg p q)==0) iiz iiz rfl rfl)<|oc zG<|zE) fun a w2 s=> ?_
 refine zB rfl ?_
 refine sE ?_
 exact wF s (t:=4) rfl iiz
end Go.Proofs.Wd

namespace Go.Proofs.Wd
open Tryz
set_option maxRecDepth 100000
open Go.RowKit Lb
theorem zLb {W:Wg} {b o:Nat} {cs ds:List Wh} (k:Nat) (h:Mem W b o cs) (hd: ∀j u,ds[j]?=some u->cs[k+j]?=some u):Mem W b (o+k) ds:=fun j u hj=>by
 have:=h (k+j) u (hd j u hj)
 rwa [<-Nat.add_assoc] at this
abbrev rvs (m:Nat) (qs:List Rat):List CU:=qs.map fun q=>CU.agg (fRV m q)
theorem zDo {m:Nat} {qs:List Rat} {k:Nat} (h:k<qs.length):(rvs m qs)[k]?=some (CU.agg (fRV m (qAt qs k))):=by
 rw [List.getElem?_map,tH h]
 simp [qAt,h]
theorem zPO {qs:List Rat} {k:Nat} (h:k<qs.length):qAt qs k∈qs:=by
 simp [qAt,h]
theorem zIo {m:Nat} {q:Rat} {v:Wh} {W:Wg} (h:RVp m q v W): ∃s A n c D i j,v= .agg #[.bool s, .slice A n c, .slice D i j]:=by
 obtain ⟨k,d,h1,_⟩:=h
 exact zDr h1
theorem zOd {u v:Wh} {W:Wg} {m:Nat} {p q:Rat} (hu:RVp m p u W) (hv:RVp m q v W): ∃e cs,zS prog 23 2 [(0,u),(1,v)]=some (e,cs)/\(SF.row 3 (rvs m [p,q])).p (.slice (some ⟨W.heap.size,0,none⟩) 2 2) (W.alloc (.cells cs e)):=by
 obtain ⟨s,A,n,c,D,i,j,rfl⟩:=zIo hu
 obtain ⟨s',A',n',c',D',i',j',rfl⟩:=zIo hv
 refine ⟨_,_,zOi s s' A A' D D' n n' c c' i i' j j',some ⟨W.heap.size,0,none⟩,2,rfl,sL _,by decide,fun e=>(by cases e),fun x C hx=> ?_⟩
 have hb:=jQ W (.cells #[.bool s, .slice A n c, .slice D i j, .bool s', .slice A' n' c', .slice D' i' j'] 32)
 have hm:=zCe W #[.bool s, .slice A n c, .slice D i j, .bool s', .slice A' n' c', .slice D' i' j'] 32
 rcases (by have:=(List.getElem?_eq_some_iff.1 hx).1;simp at this;omega:x=0∨x=1) with rfl|rfl
 ·obtain rfl:CU.agg (fRV m p)=C:=by simpa using hx
  exact ⟨W.heap.size,0, [.bool s, .slice A n c, .slice D i j],rfl,zLb 0 hm (fun j u hj=>by match j with|0=>exact hj|1=>exact hj|2=>exact hj|j+3=>simp at hj),(fRV m p).tS.st _ _ _ hu hb⟩
 ·obtain rfl:CU.agg (fRV m q)=C:=by simpa using hx
  exact ⟨W.heap.size,0, [.bool s', .slice A' n' c', .slice D' i' j'],rfl,zLb 3 hm (fun j u hj=>by match j with|0=>exact hj|1=>exact hj|2=>exact hj|j+3=>simp at hj),(fRV m q).tS.st _ _ _ hv hb⟩
theorem zPy {W:Wg} {m:Nat} {v:Wh} {qs:List Rat} (M:Nat) (h:(SF.row 3 (rvs m qs)).p v W) (_hm0:0<m) (hmM:m<=M) (hM:M<=990) (hl:qs.length<=1000000) (hq: ∀q,q∈qs->QB q m) (hp: ∀k,k<qs.length->QB (zCS qs k) M):Calls prog 15 #[v] W (Ret W (fQN (zCS qs qs.length)).tS):=by
 refine qH [SF.row 3 (rvs m qs)] func15 rfl kH ⟨h,trivial⟩ fun a s=> ?_
 refine sC ?_
 refine zC 0 [] hmix s kH
  zE fun a w1 s=> ?_
 refine qJ (CU.len 3) (cs:=zR3) kH rfl s kH (fun W=>rfl) rfl fun b2 a w s=> ?_
 refine zB rfl ?_
 refine sC ?_
 refine zC 1 ((5, .u (fQN ((0:Int):Rat))):: []) hmix s kH
  (oc (zM zF zNI (fun u0 W hb (h0:u0= .int .i64 0)=>zIz 0 h0 dA))<|zE) fun a w2 s=> ?_
 refine qJ (CU.len 3) (cs:=zR3) kH rfl s kH (fun W=>rfl) rfl fun b3 a w s=> ?_
 refine yY (CU.agg (fQN ((0:Int):Rat))) ((fQN ((0:Int):Rat)).tS) rfl s kH rfl rfl rfl iiz iiz qP fun a w s=> ?_
 refine zB rfl ?_
 refine sC ?_
 refine sC ?_
 refine zC 1 ((4, .u (uI 0)):: []) hmix s kH
  (oc zG<|zE) fun a w3 s=> ?_
 refine zB rfl ?_
 refine sO ?_
 refine zJ5 3 (fun p=>CU.agg (fQN (zCS qs p))) (fun p=>p<=qs.length) (fun p=> [(0, .o (SF.row 3 (rvs m qs))),(4, .u (fI ((p:Nat):Int)))]) (fun p=>qs.length - p) (0:Nat) (sM _) (s.keepK _ (fmz ⟨mz2,fmz ⟨.head _,fnz⟩⟩)) rfl fun p a w hx s=> ?_
 refine sC ?_
 refine sC ?_
 refine zC 4 ((6, .Z (fI (p:Int)))::(7, .s (SF.row 3 (rvs m qs)))::(8, .Z (uI ((rvs m qs).length:Int)))::(9, .u (uB (decide ((p:Int)<((rvs m qs).length:Int))))):: []) hmix s kH
  (oc zA<|oc zA<|oc (zCa (z:=3) (Cs:=rvs m qs) kH iiz (fun _=>rfl))<|oc (zP .i64 (p:Int) ((rvs m qs).length:Int) (decide ((p:Int)<((rvs m qs).length:Int))) iiz iiz rfl rfl)<|zE) fun a w4 s=> ?_
 refine zB rfl ?_
 refine StS.cond s (decide ((p:Int)<((rvs m qs).length:Int))) iiz (fun e=> ?_) (fun e=> ?_)
 ·have hk1:p+1<=qs.length:=by have:=sQ e;rw [tR] at this;omega
  have hx2:=zDo (m:=m) (k:=p) hk1
  have hqp:=hq _ (zPO (k:=p) hk1)
  refine sI ?_
  refine sC ?_
  refine sO ?_
  refine zAb [1,2] 7 ((12, .Z (fQN (zCS qs p)))::(13, .s (SF.row 3 (rvs m qs)))::(14, .Z (fI (p:Int)))::(15, .Y (fRV m (qAt qs p)))::(16, .Z (fRV m (qAt qs p)))::(17, .Z (fQN (qAt qs p)))::(18, .u (fQN (zCS qs p+qAt qs p))):: []) hmix s kH
   (oc (yP (f:=fQN (zCS qs p)) 3 kH (hz:=jH _))<|oc zA<|oc zA<|oc (zCt (z:=3) (Cs:=rvs m qs) (i:=p) (C:=CU.agg (fRV m (qAt qs p))) kH hx2 iiz iiz)<|oc (yP (f:=fRV m (qAt qs p)) 3 kH (hz:=zBe _ _))<|oc (zM zF zQm (fun u0 W hb (h0:RVp m (qAt qs p) u0 W)=>zFK h0 oO))<|oc (yB zF zS8 (fun u0 u1 W hb (h0:QNp (zCS qs p) u0 W) (h1:QNp (qAt qs p) u1 W)=>zPv h0 h1 (hp p hk1) (hqp.mono oO) oO))<|zE) fun Q' hQ a w5 s=> ?_
  refine yY (CU.agg (fQN (zCS qs p+qAt qs p))) ((fQN (zCS qs p+qAt qs p)).tS) rfl s kH rfl rfl rfl (jH _) iiz qP fun a w s=> ?_
  refine zB rfl (hQ _ _ ?_)
  refine yI 2 ((10, .Z (fI (p:Int)))::(11, .u (fI ((p+1:Nat):Int))):: []) s kH
   (oc zA<|oc (qX .i64 (p:Int) 1 ((p+1:Nat):Int) iiz iiz (wrap64 _ _ oO oO))<|zE) fun a w6 s=> ?_
  replace s:=s.drop [4]
  refine qN (fI ((p+1:Nat):Int)) rfl s kH iiz fun a w s=> ?_
  refine zB rfl ?_
  exact ⟨p+1,hk1,(by show qs.length - (p+1)<qs.length - p;omega),s.keepK _ (fmz ⟨mz4,fmz ⟨.head _,fnz⟩⟩)⟩
 ·have hk1:p=qs.length:=by have:=tS e;rw [tR] at this;omega
  refine sT ?_
  refine sC ?_
  refine zC 1 ((19, .u (fQN (zCS qs p))):: []) hmix s kH
   (oc (yP (f:=fQN (zCS qs p)) 3 kH (hz:=jH _))<|zE) fun a w7 s=> ?_
  refine yY (CU.agg (fQN (zCS qs p))) ((fQN (zCS qs p)).tS) rfl s kH rfl rfl rfl iiz iiz qP fun a w s=> ?_
  refine zB rfl ?_
  refine sE ?_
  exact wP s (CU.agg (fQN (zCS qs p))) rfl kH rfl rfl (jH _) (fun cs W h=>by rw [hk1] at h;exact h)
theorem zIA {W:Wg} {m:Nat} {v:Wh} {p q:Rat} (h:(SF.row 3 (rvs m [p,q])).p v W) (hp:QB p m) (hq:QB q m) (hm:m<=990):Calls prog 15 #[v] W (Ret W (fQN (p+q)).tS):=by
 have:=zPy m h hp.pos lr hm (by simp) (fun x hx=>by simp at hx;rcases hx with rfl|rfl;exact hp;exact hq) (fun k hk=>by
  rcases (by simp at hk;omega:k=0∨k=1) with rfl|rfl
  ·exact QB.zero hp.pos
  ·show QB (0+p) _
   rw [Rat.zero_add]
   exact hp)
 rw [show ([p,q]:List Rat).length=2 from rfl,zPF] at this
 exact this
theorem zA9 {F:Fence} {m:Nat} {P:Wl} {w0:Wg} {ops:Array Oper} {G:Nat->SF} {d:Tmp} {ty:Wi} {pos:String} {aft:Array Edge} {t:Wi} {x y:Wk} {t':Wi} (k:IntKind) (u v r:Int) (hx: ∀q W,(fct G x).p q W->q= .int k u) (hy: ∀q W,(fct G y).p q W->q= .int k v) (hr:k.wrap (u - v)=r) (hd: ∀W,(G d).p (.int k r) W:=by exact fun _=>rfl):qB F m P w0 ops G ⟨some d, .binOp .sub t x y t',ty,pos,aft,none⟩:=
 zDI (.int k u) (.int k v) (.int k r) hx hy (fun W=>by simp [eqGuard]) (fun W=>by simp [binOp,Op.intArith,hr]) hd
theorem Tab.bls2 {W w:Wg} {S:Nat->Prop} (hT:Tab W) (hg:BlS S W w) (hS: ¬S 0):Tab w:=fun j hj=>by
 have h1:=hT j hj
 exact (sW (a:=⟨0,j,none⟩) (hg.block _ (zV h1) hS)).trans h1
/-! ### Frames -/
theorem BlS.comp {S:Nat->Prop} {u v w:Wg} (h:BlS S u v) (k:BlS S v w):BlS S u w:=⟨k.os.trans h.os,k.tape.trans h.tape,k.output.trans h.output,sD h.size k.size,fun q hq hs=>(k.block q (sJ hq h.size) hs).trans (h.block q hq hs)⟩
theorem jZ {S:Nat->Prop} {u w:Wg} (h:Below u.heap.size u w):BlS S u w:=⟨h.os,h.tape,h.output,h.size,fun q hq _=>h.block q hq⟩
theorem BlS.shrink {S S':Nat->Prop} {u w:Wg} (h:BlS S u w) (hs: ∀q,S q->S' q∨u.heap.size<=q):BlS S' u w:=⟨h.os,h.tape,h.output,h.size,fun q hq hn=>h.block q hq fun hh=>by
 rcases hs q hh with e|e
 ·exact hn e
 ·omega⟩
def zHn (w:Wg) (q:Nat):Prop:= ∃(cs:Array Wh) (t:Wi) (z:Nat×Nat),w.heap[q]?=some (.cells cs t z)/\cs.toList.all yA=true
theorem zCh {S:Nat->Prop} {w w':Wg} (hb:BlS S w w') (h: ∀q,S q->zHn w q):yL w w':=fun q u hq=>by
 have hlt:=tP w _ hq
 by_cases e:S q.block
 ·exfalso
  obtain ⟨cs,t,z,h3,h5⟩:=h _ e
  have:=zFt h3 h5 rfl hq
  cases this
 ·exact (sW (hb.block _ hlt e)).trans hq
theorem zBO {S:Nat->Prop} {w w':Wg} (hT:Tab w) (hb:BlS S w w') (hS: ¬S 0):Tab w':=hT.bls2 hb hS
/-! ### Rows -/
def jG (w:Wg) (g:Nat) (e:Wi) (z cap:Nat) (Cs:List CU):Prop:=
 ∃cur:Array Wh,w.heap[g]?=some (.cells cur e (0,0))/\Cs.length<=cap/\cap<=maxLen/\cur.size=cap*z/\cur.toList.all yA=true/\ ∀(i:Nat) (C:CU),Cs[i]?=some C->C.p ((cur.toList.drop (i*z)).take z) w
theorem jG.toN {w:Wg} {g:Nat} {e:Wi} {z cap:Nat} {Cs:List CU} (h:jG w g e z cap Cs) {base:Nat} (hb:base<=g) {n:Nat} (hn:n=Cs.length):y9 w base e z (.slice (some ⟨g,0,none⟩) n cap) Cs:=by
 subst hn
 obtain ⟨cur,h1,h2,h3,h4,h5,h6⟩:=h
 exact .inr ⟨g,cap,cur,rfl,hb,h1,h2,h3,h4,h5,h6⟩
theorem jG.row {w:Wg} {g:Nat} {e:Wi} {z cap:Nat} {Cs:List CU} (h:jG w g e z cap Cs) {n:Nat} (hn:n=Cs.length):(SF.row z Cs).p (.slice (some ⟨g,0,none⟩) n cap) w:=(h.toN (sM _) hn).row
theorem jG.take {w:Wg} {g:Nat} {e:Wi} {z cap:Nat} {Cs:List CU} (h:jG w g e z cap Cs) (i:Nat):jG w g e z cap (Cs.take i):=by
 obtain ⟨cur,h1,h2,h3,h4,h5,h6⟩:=h
 refine ⟨cur,h1,by rw [tT];omega,h3,h4,h5,fun j C hj=> ?_⟩
 rw [tU] at hj
 split at hj
 ·exact h6 j C hj
 ·cases hj
theorem zDF {w:Wg} {base:Nat} {e:Wi} {z:Nat} {v:Wh} {Cs:List CU} (h:y9 w base e z v Cs) (h0:0<Cs.length): ∃g cap,v= .slice (some ⟨g,0,none⟩) Cs.length cap/\base<=g/\jG w g e z cap Cs:=by
 rcases h with ⟨_,rfl⟩|⟨g,cap,cur,rfl,hb,h1,h2,h3,h4,h5,h6⟩
 ·simp at h0
 ·exact ⟨g,cap,rfl,hb,cur,h1,h2,h3,h4,h5,h6⟩
theorem jG.keep {w w':Wg} {g:Nat} {e:Wi} {z cap:Nat} {Cs:List CU} (h:jG w g e z cap Cs) (hb:w'.heap[g]?=w.heap[g]?) (hk:yL w w'):jG w' g e z cap Cs:=by
 obtain ⟨cur,h1,h2,h3,h4,h5,h6⟩:=h
 exact ⟨cur,hb.trans h1,h2,h3,h4,h5,fun i C hi=>C.us _ _ _ (h6 i C hi) hk⟩
theorem jG.at {w:Wg} {g:Nat} {e:Wi} {z cap:Nat} {Cs:List CU} (h:jG w g e z cap Cs): ∃cur:Array Wh,w.heap[g]?=some (.cells cur e (0,0)):=⟨h.choose,h.choose_spec.1⟩
theorem jG.lt {w:Wg} {g:Nat} {e:Wi} {z cap:Nat} {Cs:List CU} (h:jG w g e z cap Cs):g<w.heap.size:=(sF.1 h.at.choose_spec).1
theorem jG.plain {w:Wg} {g:Nat} {e:Wi} {z cap:Nat} {Cs:List CU} (h:jG w g e z cap Cs):zHn w g:=by
 obtain ⟨cur,h1,_,_,_,h5,_⟩:=h
 exact ⟨cur,e,(0,0),h1,h5⟩
theorem jG.below {w w':Wg} {g:Nat} {e:Wi} {z cap:Nat} {Cs:List CU} (h:jG w g e z cap Cs) (hb:Below w.heap.size w w'):jG w' g e z cap Cs:=h.keep (hb.block g h.lt) (zK hb)
theorem jG.cap {w:Wg} {g:Nat} {e:Wi} {z cap:Nat} {Cs:List CU} (h:jG w g e z cap Cs):Cs.length<=cap:=by obtain ⟨_,_,h2,_⟩:=h;exact h2
theorem z9 {w:Wg} {b c:Nat} {cs cs':Array Wh} {e e':Wi} {z z':Nat×Nat} (h:w.heap[b]?=some (.cells cs e z)) (h':w.heap[c]?=some (.cells cs' e' z')) (hne:e≠e'):b≠c:=fun k=>by
 subst k
 rw [h] at h'
 injection h' with h'
 injection h' with _ h'
 exact hne h'
theorem zJg {cs vs:List Wh} {o:Nat} (h:o+vs.length<=cs.length):(jR cs o vs).length=cs.length:=by
 unfold jR
 simp only [zTX,tT,List.length_drop]
 omega
theorem zFc {cs vs:List Wh} {o:Nat} (h:o+vs.length<=cs.length) (k:Nat):(jR cs o vs)[k]?=if o<=k/\k<o+vs.length then vs[k - o]? else cs[k]?:=by
 have ht:(cs.take o).length=o:=by rw [tT];omega
 unfold jR
 rw [List.append_assoc]
 by_cases h1:k<o
 ·rw [zT7 oO,List.getElem?_take_of_lt h1,if_neg oO]
 ·rw [zT8 oO,ht]
  by_cases h2:k<o+vs.length
  ·rw [zT7 oO,if_pos ⟨by omega,h2⟩]
  ·rw [zT8 oO,tI,if_neg oO]
   congr 1
   omega
theorem zHJ {cs vs:List Wh} {z i j n:Nat} (hl:vs.length=z) (hc:cs.length=n*z) (hi:i<n):((jR cs (i*z) vs).drop (j*z)).take z=if j=i then vs else (cs.drop (j*z)).take z:=by
 have hfit:i*z+vs.length<=cs.length:=by
  rw [hl,hc, <-tJ]
  exact tA _ hi
 refine List.ext_getElem? fun q=> ?_
 rw [tU]
 by_cases e:j=i
 ·subst e
  rw [if_pos rfl]
  split
  ·rename_i hq
   rw [tI,zFc hfit,if_pos oO]
   congr 1
   omega
  ·rename_i hq
   rw [List.getElem?_eq_none oO]
 ·rw [if_neg e,tU]
  split
  ·rename_i hq
   rw [tI,tI,zFc hfit,if_neg]
   rintro ⟨h1,h2⟩
   rcases Nat.lt_or_gt_of_ne e with h|h
   ·have:=tA z (show j+1<=i from h)
    rw [tJ] at this
    omega
   ·have:=tA z (show i+1<=j from h)
    rw [tJ] at this
    omega
  ·rfl
theorem jG.put {P:Wl} {w:Wg} {g:Nat} {e:Wi} {z cap i:Nat} {Cs:List CU} (h:jG w g e z cap Cs) (hi:i<Cs.length) {t:Wi} (hsz:zFr P t=some z) {u:Wh} {C:CU} (hu:u.cells.size=z/\(∀x,x∈u.cells.toList->x.oneCell'=true)/\u.cells.toList.all yA=true/\C.p u.cells.toList w):
  ∃w',(storeVar t ⟨g,i*z,none⟩ u).run P w= .ok () w'/\BlS (fun q=>q=g) w w'/\yL w w'/\jG w' g e z cap (Cs.set i C):=by
 obtain ⟨cur,h1,h2,h3,h4,h5,h6⟩:=id h
 obtain ⟨u1,u2,u3,u4⟩:=hu
 have hcl:cur.toList.length=cap*z:=h4
 have hul:u.cells.toList.length=z:=u1
 have hic:i<cap:=sJ hi h2
 have hfit:i*z+u.cells.toList.length<=cur.toList.length:=by
  rw [hul,hcl, <-tJ]
  exact tA _ hic
 have hst:=zAH (P:=P) (b:=g) (t:=e) u.cells.toList (i*z) cur.toList w (by simpa using h1) hfit u2
 have hoff:=zBB (b:=g) u.cells.toList (i*z) 0
 rw [Nat.add_zero] at hoff
 have hgr:=zDa w g (jR cur.toList (i*z) u.cells.toList).toArray
 have hbl:BlS (fun q=>q=g) w (w.setRow g (jR cur.toList (i*z) u.cells.toList).toArray):=(BlS.refl _ w).grown hgr (.inr rfl)
 have hk:=zCh hbl fun q hq=>by rw [hq];exact h.plain
 refine ⟨_, ?_,hbl,hk,_,setRow_heap w g cur _ e _ h1,by rw [List.length_set];exact h2,h3, ?_, ?_,fun j D hj=> ?_⟩
 ·unfold zFr at hsz
  cases hin:P.info? t with
  |none=>rw [hin] at hsz;cases hsz
  |some ii=>
   rw [hin] at hsz
   simp only [tV,zTY] at hsz
   simp [storeVar,sizeOf,typeInfo,hin,hsz,u1,hoff,hst]
 ·rw [zE1,zJg hfit]
  exact h4
 ·rw [List.toList_toArray]
  unfold jR
  have hsub: ∀x,x∈cur.toList->yA x=true:=sK.1 h5
  exact zH4 (sK.2 fun x hx=>hsub x (List.mem_of_mem_take hx)) u3 (sK.2 fun x hx=>hsub x (List.mem_of_mem_drop hx))
 ·rw [List.toList_toArray,zHJ hul hcl hic]
  rw [List.getElem?_set] at hj
  by_cases e:i=j
  ·rw [if_pos e,if_pos oO] at hj
   cases hj
   rw [if_pos e.symm]
   exact C.us _ _ _ u4 hk
  ·rw [if_neg e] at hj
   rw [if_neg (Ne.symm e)]
   exact D.us _ _ _ (h6 j D hj) hk
theorem zPj {P:Wl} {w:Wg} {t e:Wi} {z n:Nat} {zs:List Wh} {C:CU} (happ:zE7 P t=some (e,z,true)) (hzs:zeroCells P e=some zs) (hn:n<=1000000) (hC: ∀W,C.p zs W) {x y:Wh} (hx:x= .int .i64 (n:Int)) (hy:y= .int .i64 (n:Int)):
  ∃w',(Instr.makeSlice t x y).run P w= .ok (.slice (some ⟨w.heap.size,0,none⟩) n n) w'/\Below w.heap.size w w'/\jG w' w.heap.size e z n (List.replicate n C):=by
 subst hx hy
 obtain ⟨ht,i,zv,hi,hz,hs,hby0,hzvs,hzn,hz0⟩:=zCB happ
 have ez:zs=zv.cells.toList:=by
  unfold zeroCells at hzs
  rw [hi] at hzs
  simp only [Option.bind_some,hz,tV,zTY] at hzs
  exact hzs.symm
 subst ez
 have hr:=run_make (P:=P) w t e i zv ht hi hz .i64 .i64 (n:Int) (n:Int) oO (Int.le_refl _) (by
  have:i.bytes*n<=1000*1000000:=Nat.mul_le_mul hby0 hn
  have h2:(i.bytes:Int)*(n:Int)=((i.bytes*n:Nat):Int):=by rw [Int.natCast_mul]
  rw [h2];omega) oO
 simp only [Int.toNat_natCast] at hr
 refine ⟨_,hr,jQ _ _,_,tW w _,by simp,by unfold maxLen;omega,by rw [size_madeCells,hs], ?_,fun j D hj=> ?_⟩
 ·refine sK.2 fun u hu=> ?_
  simp only [madeCells,Array.toList_map,List.mem_map,Array.toList_range,sR] at hu
  obtain ⟨q,_,rfl⟩:=hu
  have hlt:q % zv.cells.size<zv.cells.size:=Nat.mod_lt _ (by rw [hzvs];exact hz0)
  have:zv.cells[q % zv.cells.size]!∈zv.cells.toList:=by
   rw [getElem!_pos zv.cells _ hlt]
   exact Array.getElem_mem_toList hlt
  exact sK.1 hzn _ this
 ·rw [List.getElem?_replicate] at hj
  split at hj<;>cases hj
  rename_i hjn
  have e1:(((madeCells zv.cells (n*i.size)).toList.drop (j*z)).take z)=zv.cells.toList:=by
   have hzl:zv.cells.toList.length=z:=hzvs
   refine List.ext_getElem? fun q=> ?_
   rw [tU]
   split
   ·rename_i hq
    rw [tI]
    have hlt:j*z+q<n*i.size:=by
     rw [hs]
     have:=tA z (show j+1<=n from hjn)
     rw [tJ] at this
     omega
    have hmod:(j*z+q) % zv.cells.size=q:=by rw [hzvs,Nat.add_comm,Nat.add_mul_mod_self_right,Nat.mod_eq_of_lt hq]
    simp only [madeCells,Array.toList_map,Array.toList_range,List.getElem?_map,List.getElem?_range hlt,tV,hmod]
    rw [getElem!_pos zv.cells q oO,tH oO]
    simp
   ·rw [List.getElem?_eq_none oO]
  rw [e1]
  exact hC _
section
variable {S:Nat->Prop} {F:Fence} {m:Nat} {P:Wl} {Q:Exit->Act->Wg->Prop} {w0:Wg} {K:List (Nat×KF)} {B:List Bx} {n:Nat} {ds:List Deferred} {a:Act} {w:Wg} {ops:Array Oper}
theorem StS.anewB (h:StS S w0 K B n [] a w) (hu:(K.all fun q=>zJM q.2)=true) (hB:(B.all fun x=>x.r)=true):St w K B n [] a w:=
 ⟨BlS.refl _ _,h.size,h.nd,fun q hq=>by
  obtain ⟨f,ef⟩:=zBN hu q hq
  have h1:=h.sl q hq
  rw [ef] at h1 ⊢
  exact h1,wW B (fun x hx=>by simpa using sK.1 hB x hx) h.bx,⟨[],Marks.nil _ _⟩, .inl (zBN hu)⟩
theorem StS.jump {T:Nat->Prop} {w':Wg} (h:StS S w0 K B n [] a w) (hu:(K.all fun q=>zJM q.2)=true) (hBr:(B.all fun x=>x.r)=true) (hb:BlS T w w') (hk:yL w w') (hB: ∀x,x∈B-> ¬T x.b):St w' K B n [] a w':=
 ⟨BlS.refl _ _,h.size,h.nd,fun q hq=>by
  obtain ⟨f,ef⟩:=zBN hu q hq
  have h1:=h.sl q hq
  rw [ef] at h1 ⊢
  exact f.us _ _ _ h1 hk,wW B (fun x hx=>by simpa using sK.1 hBr x hx) (wT hk B (fun x hx=>by
   obtain ⟨_,_,_,h3,_⟩:=h.bx.mem x hx
   exact hb.block _ (sF.1 h3).1 (hB x hx)) h.bx),⟨[],Marks.nil _ _⟩, .inl (zBN hu)⟩
theorem zCC {k g i cap z:Nat} {e:Wi} {Cs:List CU} {t:Wi} {x y:Wk} {ty:Wi} {pos:String} {aft:Array Edge} (C:CU) (ho:ops[k]?=some ⟨none, .store t x y,ty,pos,aft,none⟩) (h:StS S w0 K B n [] a w) (hu:(K.all fun q=>zJM q.2)=true) (hBr:(B.all fun x=>x.r)=true)
  (hr:jG w g e z cap Cs) (hi:i<Cs.length) (hsz:zFr P t=some z) (hx:a.eval x= .pointer (some ⟨g,i*z,none⟩)) (hy:(a.eval y).cells.size=z/\(∀u,u∈(a.eval y).cells.toList->u.oneCell'=true)/\(a.eval y).cells.toList.all yA=true/\C.p (a.eval y).cells.toList w) (hB: ∀q,q∈B-> ¬q.b=g)
  (fin: ∀w',BlS (fun q=>q=g) w w'->yL w w'->jG w' g e z cap (Cs.set i C)->St w' K B n [] a w'->zBt F m P ops Q (k+1) a w'):zBt F m P ops Q k a w:=by
 obtain ⟨w',hrun,g1,g2,g3⟩:=hr.put (P:=P) hi hsz hy
 have hrun2:(execOp a.eval ⟨none, .store t x y,ty,pos,aft,none⟩).run P w= .ok .skip w':=by simp [execOp,Instr.storeAt,Instr.sureAddr,hx,hrun]
 refine zAF ho rfl ⟨fun f hf=>(by cases hf), ?_⟩
 rw [tK _ _ _ (fun _ e=>by cases e),hrun2]
 exact fin w' g1 g2 g3 (h.jump hu hBr g1 g2 hB)
theorem zEi {k d:Nat} {x y:Wk} {t ty:Wi} {pos:String} {aft:Array Edge} {e:Wi} {z base:Nat} {v:Wh} {Cs:List CU} (Ds:List CU) (h:StS S w0 K B n [] a w) (hr:y9 w base e z v Cs) (hbase:base<=w.heap.size)
  (ho:ops[k]?=some ⟨some d, .call ⟨.builtin .append,#[x,y],#[t,t]⟩,ty,pos,aft,none⟩) (happ:zE7 P t=some (e,z,true)) (hf:zAp K B n d=true) (hu:(K.all fun q=>zJM q.2)=true) (hBr:(B.all fun x=>x.r)=true)
  (hx:a.eval x=v) (hy:(SF.row z Ds).p (a.eval y) w) (hD: ∀C,C∈Ds->CU.ok z C) (hsz:Cs.length+Ds.length<=140000000000) (hB: ∀q,q∈B-> ¬v.ownBlock=some q.b)
  (fin: ∀v' a' w',y9 w' base e z v' (Cs++Ds)->BlS (fun q=>v.ownBlock=some q) w w'->yL w w'->(v'.ownBlock=v.ownBlock∨v'.ownBlock=some w.heap.size)->St w' ((d, .u (UF.eq v'))::K) B n [] a' w'->zBt F m P ops Q (k+1) a' w'):zBt F m P ops Q k a w:=by
 obtain ⟨v',w',hrun,g1,g2,g3⟩:=zKp (P:=P) (ty:=ty) happ hr hy hD hsz hbase
 have hrun2:(execOp a.eval ⟨some d, .call ⟨.builtin .append,#[x,y],#[t,t]⟩,ty,pos,aft,none⟩).run P w= .ok (.value v') w':=by
  simp only [execOp,resolve,invoke,builtin,tX,Sem.run_pure,zTZ,sP,List.map_cons,List.map_nil,hx,hrun]
 refine zAF ho rfl ⟨fun f hf=>(by
  unfold Oper.about at hf
  simp [resolve,go_sem] at hf), ?_⟩
 rw [tK _ _ _ (fun _ e=>by cases e),hrun2]
 have hbl:BlS (fun q=>v.ownBlock=some q) w w':=⟨g2.os,g2.tape,g2.output,g2.size,fun q hq hn=>g2.block q hq fun e=>hn e.symm⟩
 have hk:yL w w':=hr.keepU g2
 exact fin v' _ w' g1 hbl hk g3 ((h.jump hu hBr hbl hk hB).set hf (sH _ _) rfl)
theorem zO9 {k d nn:Nat} {x y:Wk} {t ty:Wi} {pos:String} {aft:Array Edge} {e:Wi} {z:Nat} {zs:List Wh} (C:CU) (h:StS S w0 K B n [] a w) (ho:ops[k]?=some ⟨some d, .makeSlice t x y,ty,pos,aft,none⟩) (happ:zE7 P t=some (e,z,true)) (hzs:zeroCells P e=some zs) (hf:zAp K B n d=true) (hu:(K.all fun q=>zJM q.2)=true) (hBr:(B.all fun x=>x.r)=true)
  (hn:nn<=1000000) (hC: ∀W,C.p zs W) (hx:a.eval x= .int .i64 (nn:Int)) (hy:a.eval y= .int .i64 (nn:Int))
  (fin: ∀g a' w',g=w.heap.size->Below w.heap.size w w'->jG w' g e z nn (List.replicate nn C)->St w' ((d, .u (UF.eq (.slice (some ⟨g,0,none⟩) nn nn)))::K) B n [] a' w'->zBt F m P ops Q (k+1) a' w'):zBt F m P ops Q k a w:=by
 obtain ⟨w',hrun,g1,g2⟩:=zPj (P:=P) (w:=w) happ hzs hn hC hx hy
 refine zAF ho rfl (zBy (fun _ e=>by cases e) (fun _ e=>by cases e) (W':=w') (v:= .slice (some ⟨w.heap.size,0,none⟩) nn nn) (by simp [execOp,hrun]) ?_)
 exact fin _ _ w' rfl g1 g2 ((h.jump (T:=fun _=>False) hu hBr (jZ g1) (zK g1) (fun _ _ k=>k)).set hf (sH _ _) rfl)
def zMh (T:Nat->Prop) (W:Wg) (g:UF) (R:Wg->Prop):Ending->Wg->Prop:=fun e W'=> ∃v,e= .returned v/\g.p v W'/\R W'/\BlS T W W'
theorem zEh {k d:Nat} {f:FuncId} {xs:Array Wk} {args:Array Wh} {ats:Array Wi} {ty:Wi} {pos:String} {aft:Array Edge} {R:Wg->Prop} {T:Nat->Prop} {g:UF} (hF:zHl F m P) (he:Enters P f) (h:StS S w0 K B n [] a w) (ho:ops[k]?=some ⟨some d, .call ⟨.value (.func f),xs,ats⟩,ty,pos,aft,none⟩)
  (hf:zAp K B n d=true) (hu:(K.all fun q=>zJM q.2)=true) (hBr:(B.all fun x=>x.r)=true) (hT: ∀q,T q->zHn w q) (hB: ∀q,q∈B-> ¬T q.b) (hargs:xs.map a.eval=args) (hc:Calls P f args w (zMh T w g R))
  (fin: ∀a' w',R w'->BlS T w w'->yL w w'->St w' ((d, .u g)::K) B n [] a' w'->zBt F m P ops Q (k+1) a' w'):zBt F m P ops Q k a w:=by
 subst hargs
 refine zAF ho rfl ⟨fun g _=>hF.1 g, ?_⟩
 rw [tK _ _ _ (fun _ e=>by cases e),execOp_call_go,he]
 simp only [zT0]
 refine ⟨hF.2.1,tG (hF.2.2 _ _ _ _ (by simpa using hc)) fun e W' hh=> ?_⟩
 obtain ⟨v,rfl,hv,hR,hb⟩:=hh
 have hk:=zCh hb hT
 exact fin _ W' hR hb hk ((h.jump hu hBr hb hk hB).set hf (sH _ _) hv)
end
/-! ### Methods behind interfaces -/
def zC7 (P:Wl) (t:Wi) (name:String):Wj (FuncId×Bool×Wi):=match P.info? t with
 | some i=>match i.methods.find? (·.name==name) with
  |some mt=>match mt.path.toList,mt.func,P.underlying t with
   | [],some (f,p),some (.pointer e)=>some (f,p,e)
   |_,_,_=>none
  |none=>none
 |none=>none
theorem zEG {P:Wl} {t:Wi} {name:String} {f:FuncId} {p:Bool} {e:Wi} (h:zC7 P t name=some (f,p,e)):P.underlying t=some (.pointer e)/\ ∃i mt,P.info? t=some i/\i.methods.find? (·.name==name)=some mt/\mt.path=#[]/\mt.func=some (f,p):=by
 unfold zC7 at h
 split at h<;>try cases h
 rename_i i hi
 split at h<;>try cases h
 rename_i mt hm
 split at h<;>try cases h
 rename_i h1 h2 h3
 exact ⟨h3,i,mt,hi,hm,by simpa using h1,h2⟩
theorem zGE {P:Wl} {t:Wi} {name:String} {f:FuncId} {e:Wi} (h:zC7 P t name=some (f,true,e)) (ad:Addr) (w:Wg):(method (P.types.size+Made.depth) t (.pointer (some ad)) name).run P w= .ok (f, .pointer (some ad)) w:=by
 obtain ⟨h1,i,mt,hi,hm,hp,hf⟩:=zEG h
 obtain ⟨k,hk⟩: ∃k,P.types.size+Made.depth=k+1:=⟨P.types.size+99,rfl⟩
 rw [hk]
 unfold method
 simp [typeInfo,hi,hm,hp,hf,follow,receiverAt,tL h1,Place.get]
theorem zEp {P:Wl} {t:Wi} {name:String} {f:FuncId} {e:Wi} (h:zC7 P t name=some (f,false,e)) {ad:Addr} {w:Wg} {v:Wh} (hl:(loadVar e ad).run P w= .ok v w):(method (P.types.size+Made.depth) t (.pointer (some ad)) name).run P w= .ok (f,v) w:=by
 obtain ⟨h1,i,mt,hi,hm,hp,hf⟩:=zEG h
 obtain ⟨k,hk⟩: ∃k,P.types.size+Made.depth=k+1:=⟨P.types.size+99,rfl⟩
 rw [hk]
 have hw: ∀s s':String,(Builtin.ssaWrapNilChk_ #[t] t #[.pointer (some ad),strVal s,strVal s']).run P w= .ok (.pointer (some ad)) w:=fun _ _=>rfl
 unfold method
 simp [typeInfo,hi,hm,hp,hf,follow,receiverAt,tL h1,Place.get,hw,asAddr,hl]
theorem zDe {P:Wl} {a:Act} {d:Wj Tmp} {r:Wk} {name:String} {xs:Array Wk} {ats:Array Wi} {ty:Wi} {pos:String} {aft:Array Edge} {gd:Wj (Nat×Bool)} {w:Wg} {tt:Wi} {pv rv:Wh} {f:FuncId} (hr:a.eval r= .iface tt pv) (hm:(method (P.types.size+Made.depth) tt pv name).run P w= .ok (f,rv) w) (he:Enters P f):
  (execOp a.eval ⟨d, .call ⟨.invoke r name,xs,ats⟩,ty,pos,aft,gd⟩).run P w= .ok (.enter f (#[rv]++xs.map a.eval)) w:=by
 have e1:(#[Value.iface tt pv]++xs.map a.eval).extract 1 (#[Value.iface tt pv]++xs.map a.eval).size=xs.map a.eval:=by
  refine Array.ext (by simp) fun i h1 h2=> ?_
  simp
 simp only [execOp,resolve,hr,tX,Sem.run_pure,zTZ,invoke]
 have e2:(#[Value.iface tt pv]++xs.map a.eval)[0]?=some (.iface tt pv):=by rw [zT9 (by simp)];rfl
 rw [e2]
 simp only [e1,callMethod,tX,run_program,zTZ,hm]
 exact he _ _
section
variable {S:Nat->Prop} {F:Fence} {m:Nat} {P:Wl} {Q:Exit->Act->Wg->Prop} {w0:Wg} {K:List (Nat×KF)} {B:List Bx} {n:Nat} {a:Act} {w:Wg} {ops:Array Oper}
theorem zJ3 {k d:Nat} {f:FuncId} {r:Wk} {name:String} {xs:Array Wk} {args:Array Wh} {ats:Array Wi} {ty:Wi} {pos:String} {aft:Array Edge} {R:Wg->Prop} {T:Nat->Prop} {g:UF} {tt:Wi} {pv rv:Wh} (hF:zHl F m P) (he:Enters P f) (h:StS S w0 K B n [] a w) (ho:ops[k]?=some ⟨some d, .call ⟨.invoke r name,xs,ats⟩,ty,pos,aft,none⟩)
  (hr:a.eval r= .iface tt pv) (hm:(method (P.types.size+Made.depth) tt pv name).run P w= .ok (f,rv) w) (hf:zAp K B n d=true) (hu:(K.all fun q=>zJM q.2)=true) (hBr:(B.all fun x=>x.r)=true) (hT: ∀q,T q->zHn w q) (hB: ∀q,q∈B-> ¬T q.b) (hargs:xs.map a.eval=args) (hc:Calls P f (#[rv]++args) w (zMh T w g R))
  (fin: ∀a' w',R w'->BlS T w w'->yL w w'->St w' ((d, .u g)::K) B n [] a' w'->zBt F m P ops Q (k+1) a' w'):zBt F m P ops Q k a w:=by
 subst hargs
 refine zAF ho rfl ⟨fun g _=>hF.1 g, ?_⟩
 rw [tK _ _ _ (fun _ e=>by cases e),zDe hr hm he]
 simp only [zT0]
 refine ⟨hF.2.1,tG (hF.2.2 _ _ _ _ hc) fun e W' hh=> ?_⟩
 obtain ⟨v,rfl,hv,hR,hb⟩:=hh
 have hk:=zCh hb hT
 exact fin _ W' hR hb hk ((h.jump hu hBr hb hk hB).set hf (sH _ _) hv)
theorem zOz {G:Nat->SF} {d:Tmp} {r:Wk} {name:String} {xs:Array Wk} {ats:Array Wi} {ty:Wi} {pos:String} {aft:Array Edge} {f:FuncId} (hF:zHl F m P) (he:Enters P f)
  (h: ∀(b:Act) (W:Wg),Below w0.heap.size w0 W->(∀x,x∈r::xs.toList->(fct G x).p (b.eval x) W)-> ∃tt pv rv,b.eval r= .iface tt pv/\(method (P.types.size+Made.depth) tt pv name).run P W= .ok (f,rv) W/\Calls P f (#[rv]++xs.map b.eval) W (Ret W (G d))):
  qB F m P w0 ops G ⟨some d, .call ⟨.invoke r name,xs,ats⟩,ty,pos,aft,none⟩:=by
 intro b W K Q hb hr hK
 obtain ⟨tt,pv,rv,h1,h2,h3⟩:=h b W hb fun x hx=>y6 hr (x:=x) (by
  simp only [Op.operands,Call.operands,Array.toList_append,List.mem_append]
  rcases tF.1 hx with rfl|hx
  ·exact .inl (by simp)
  ·exact .inr hx)
 refine ⟨fun g _=>hF.1 g, ?_⟩
 rw [tK _ _ _ (fun _ e=>by cases e),zDe h1 h2 he]
 simp only [zT0]
 refine ⟨hF.2.1,tG (hF.2.2 _ _ _ _ h3) fun e W' he=> ?_⟩
 obtain ⟨v,rfl,hv,hb'⟩:=he
 exact hK v W' (fun d' e=>by cases e;exact hv) hb'
theorem zIJ {G:Nat->SF} {d:Tmp} {x:Wk} {t ty:Wi} {pos:String} {aft:Array Edge} (ht: ∃u,P.underlying t=some u/\(∀ms,u≠ .interface ms)) (h: ∀v W,(fct G x).p v W->(G d).p (.iface t v) W):qB F m P w0 ops G ⟨some d, .makeInterface t x,ty,pos,aft,none⟩:=
 qQ (fun _ e=>by cases e) (fun _ e=>by cases e) fun b W hb hh=>by
  obtain ⟨u,hu,hn⟩:=ht
  have h1:=h _ _ (hh x (by simp [Op.operands]))
  refine ⟨.iface t (b.eval x), ?_,h1⟩
  cases u<;>first
   |exact absurd rfl (hn _)
   |simp [execOp,Instr.makeInterface,tL hu]
theorem zFj {G:Nat->SF} {d:Tmp} {x:Wk} {xt t ty:Wi} {pos:String} {aft:Array Edge} (ht: ∃u,P.underlying t=some u/\(∀ms,u≠ .interface ms)) (h: ∀v W,(fct G x).p v W-> ∃u,v= .iface t u/\(G d).p u W):qB F m P w0 ops G ⟨some d, .typeAssert x xt t false,ty,pos,aft,none⟩:=
 qQ (fun _ e=>by cases e) (fun _ e=>by cases e) fun b W hb hh=>by
  obtain ⟨u,hu,hn⟩:=ht
  obtain ⟨v,e,h1⟩:=h _ _ (hh x (by simp [Op.operands]))
  refine ⟨v, ?_,h1⟩
  cases u<;>first
   |exact absurd rfl (hn _)
   |simp [execOp,Instr.typeAssert,tL hu,e]
theorem zAm {G:Nat->SF} {d:Tmp} {x y:Wk} {t:Wi} {ty:Wi} {pos:String} {aft:Array Edge} {z g nn cap i:Nat} (hz:zA2 P t=some z) (hi:i<nn) (hx: ∀v W,(fct G x).p v W->v= .slice (some ⟨g,0,none⟩) nn cap) (hy: ∀v W,(fct G y).p v W->v= .int .i64 (i:Int)) (hd: ∀W,(G d).p (.pointer (some ⟨g,i*z,none⟩)) W:=by exact fun _=>rfl):qB F m P w0 ops G ⟨some d, .indexAddr t x y,ty,pos,aft,none⟩:=
 qQ (fun _ e=>by cases e) (fun _ e=>by cases e) fun b W hb hh=>by
  have e:=hx _ _ (hh x (by simp [Op.operands]))
  have e2:=hy _ _ (hh y (by simp [Op.operands]))
  unfold zA2 at hz
  split at hz<;>try cases hz
  rename_i e' hu
  cases hin:P.info? e' with
  |none=>rw [hin] at hz;cases hz
  |some ie=>
   rw [hin] at hz
   simp only [tV,zTY] at hz
   have hel:P.elem t=e':=by simp [Program.elem,hu]
   refine ⟨.pointer (some ⟨g,i*z,none⟩), ?_,hd _⟩
   have hb1:(0:Int)<=(i:Int)/\(i:Int)<(nn:Nat):=by omega
   simp only [execOp,e,e2]
   rw [tX,run_indexAt_slice _ _ _ _ _ _ _ (by rw [hel];exact hu),if_pos hb1,hel]
   simp [sizeOf,typeInfo,hin,hz,Addr.add_lit]
theorem zFi {G:Nat->SF} {d:Tmp} {x:Wk} {t ty:Wi} {pos:String} {aft:Array Edge} {b:Nat} {te:Wi} {v:Wh} (hk:zBX P t=true) (hb':w0.heap[b]?=some (.cells #[v] te (0,0))) (hx: ∀u W,(fct G x).p u W->u= pO b 0) (hd: ∀W,Below w0.heap.size w0 W->(G d).p v W:=by exact fun _ _=>rfl):qB F m P w0 ops G ⟨some d, .load t x,ty,pos,aft,none⟩:=
 qQ (fun _ e=>by cases e) (fun _ e=>by cases e) fun a W hb hh=>by
  have e:=hx _ _ (hh x (by simp [Op.operands]))
  have hm:=jW (cs:= [v]) ((hb.block b (sF.1 hb').1).trans hb')
  exact ⟨v,by simp [execOp,Instr.loadAt,e,Instr.sureAddr,qT hk hm (u:=v) rfl],hd W hb⟩
theorem zPR {G:Nat->SF} {d:Tmp} {ty:Wi} {pos:String} {aft:Array Edge} {t:Wi} {x y:Wk} {t':Wi} (k:IntKind) (u v r:Int) (hx: ∀q W,(fct G x).p q W->q= .int k u) (hy: ∀q W,(fct G y).p q W->q= .int k v) (hr:k.wrap (u*v)=r) (hd: ∀W,(G d).p (.int k r) W:=by exact fun _=>rfl):qB F m P w0 ops G ⟨some d, .binOp .mul t x y t',ty,pos,aft,none⟩:=
 zDI (.int k u) (.int k v) (.int k r) hx hy (fun W=>by simp [eqGuard]) (fun W=>by simp [binOp,Op.intArith,hr]) hd
end
def zTk:Nat->List UF->List (Nat×KF)
 |_, []=> []
 |k,f::l=>(k, .u f)::zTk (k+1) l
def zQz (w:Wg):List UF->List Wh->Prop
 | [],_=>True
 |f::l,v::vs=>f.p v w/\zQz w l vs
 |_::_, []=>False
theorem zEX {w:Wg}: ∀(l:List UF) (vs:List Wh) (k:Nat),zQz w l vs-> ∀q,q∈zTk k l-> ∃f,q.2= .u f/\k<=q.1/\q.1 - k<vs.length/\f.p (vs.getD (q.1 - k) undef) w
 | [],_,_,_,q,h=>by cases h
 |f::l, [],_,h,_,_=>h.elim
 | f::l,v::vs,k,h,q,hq=>by
  rcases tF.1 hq with rfl|hq
  ·exact ⟨f,rfl,sL _,by simp,by simpa using h.1⟩
  ·obtain ⟨f',h1,h2,h3,h4⟩:=zEX l vs (k+1) h.2 q hq
   refine ⟨f',h1,by omega,by simp;omega, ?_⟩
   have e:q.1 - k=q.1 - (k+1)+1:=by omega
   rw [e]
   exact h4
theorem zBQ {P:Wl} {w:Wg} {f:FuncId} {fn:Func} {c:Code} {args:Array Wh} {R:Ending->Wg->Prop} (l:List UF)
  (hf:P.funcs[f]?=some fn) (hb:fn.body=some c) (hn:Nat.ble args.size fn.ntmps=true) (hA:zQz w l args.toList)
  (h: ∀a,St w (zTk 0 l) [] fn.ntmps [] a w->c.wpIn Fence.wide 0 P (bodyPost P fn R) a w):Calls P f args w R:=by
 have hn:=Nat.le_of_ble_eq_true hn
 refine zBj hf hb (h _ ⟨BlS.refl _ _,by simp;omega,rfl,fun q hq=> ?_,trivial,⟨[],Marks.nil _ _⟩, .inl fun q hq=> ?_⟩)
 ·obtain ⟨f,e,_,h2,h3⟩:=zEX l _ 0 hA q hq
  rw [e]
  show f.p ((args++Array.replicate (fn.ntmps - args.size) undef).getD q.1 undef) w
  rw [Nat.sub_zero,Array.length_toList] at h2
  rw [Nat.sub_zero] at h3
  have:(args++Array.replicate (fn.ntmps - args.size) undef).getD q.1 undef=args.toList.getD q.1 undef:=by
   rw [tC,zT9 h2,tY,zT1]
  rw [this]
  exact h3
 ·obtain ⟨f,e,_⟩:=zEX l _ 0 hA q hq
  exact ⟨f,e⟩
section
variable {S:Nat->Prop} {P:Wl} {w0:Wg} {K:List (Nat×KF)} {B:List Bx} {n:Nat} {a:Act} {w:Wg}
theorem StS.retT1 (h:StS S w0 K B n [] a w) {fn:Func} {t:Nat} {g:UF} {R:Ending->Wg->Prop} (hr:fn.results=#[.tmp t]) (hm:(t,KF.u g)∈K) (hR: ∀v,g.p v w->R (.returned v) w):bodyPost P fn R .ret a w:=
 ⟨h.nd,a.tmps.getD t undef,by simp [results,hr],hR _ (h.sl _ hm)⟩
theorem StS.retN0 (h:StS S w0 K B n [] a w) {fn:Func} {R:Ending->Wg->Prop} (hr:fn.results=#[]) (hR:R (.returned (.tuple #[])) w):bodyPost P fn R .normal a w:=
 ⟨h.nd, .tuple #[],by simp [results,hr],hR⟩
end
/-! ### One who waits: five cells -/
def WTp (x:Wt) (v:Wh) (w:Wg):Prop:= ∃s A n c A' n' c',v= .agg #[.bool s, .slice A n c, .slice A' n' c', .int .i64 (x.s:Int), .int .i64 (x.n:Int)]/\QNp x.c (.agg #[.bool s, .slice A n c, .slice A' n' c']) w
def fWt (x:Wt):UF:= .mk' (WTp x) fun _ _ _ ⟨s,A,n,c,A',n',c',e,h⟩ u=>⟨s,A,n,c,A',n',c',e,(fQN x.c).us _ _ _ h u⟩
theorem zHh {cs:List Wh} {a b c d e:Wh} (h:Value.agg cs.toArray= .agg #[a,b,c,d,e]):cs= [a,b,c,d,e]:=by
 have:=congrArg Array.toList (zAk h)
 simpa using this
theorem zI7 {cs:List Wh} {a b c d:Wh} (h:Value.agg cs.toArray= .agg #[a,b,c,d]):cs= [a,b,c,d]:=by
 have:=congrArg Array.toList (zAk h)
 simpa using this
theorem zEc (x:Wt): ∀cs:List Wh, ∀W,(fWt x).p (.agg cs.toArray) W->cs.length=5:=fun cs W ⟨_,_,_,_,_,_,_,e,_⟩=>by rw [zHh e];rfl
theorem zFw {x:Wt} (cs:List Wh) (W:Wg) (h:(CU.agg (fWt x)).p cs W):0+3<=cs.length/\QNp x.c (.agg ((cs.drop 0).take 3).toArray) W:=by
 obtain ⟨_,_,_,_,_,_,_,e,h1⟩:=h
 rw [zHh e]
 exact ⟨by simp,h1⟩
theorem zCm {x:Wt} (cs:List Wh) (W:Wg) (h:(CU.agg (fWt x)).p cs W): ∃u,cs[3]?=some u/\u= .int .i64 (x.s:Int):=by
 obtain ⟨_,_,_,_,_,_,_,e,_⟩:=h
 rw [zHh e]
 exact ⟨_,rfl,rfl⟩
theorem zDk {x:Wt} (cs:List Wh) (W:Wg) (h:(CU.agg (fWt x)).p cs W): ∃u,cs[4]?=some u/\u= .int .i64 (x.n:Int):=by
 obtain ⟨_,_,_,_,_,_,_,e,_⟩:=h
 rw [zHh e]
 exact ⟨_,rfl,rfl⟩
theorem zN1 {x:Wt} {v:Wh} {W:Wg} (h:(fWt x).p v W):(CU.agg (fWt x)).p v.cells.toList W/\v.cells.toList.all yA=true:=by
 obtain ⟨s,A,n,c,A',n',c',rfl,h1⟩:=h
 exact ⟨⟨s,A,n,c,A',n',c',rfl,h1⟩,rfl⟩
theorem zGg {s:Bool} {A A':Wj Addr} {n c n' c':Nat} {z z':Int} (u:Wh) (hu:u∈ [Value.bool s, .slice A n c, .slice A' n' c', .int .i64 z, .int .i64 z']):u.oneCell'=true:=by
 simp only [tF,List.not_mem_nil,or_false] at hu
 rcases hu with rfl|rfl|rfl|rfl|rfl<;>rfl
theorem zFv {x:Wt} (v:Wh) (W:Wg) (h:(fWt x).p v W): ∃vs:List Wh,v= .agg vs.toArray/\vs.length=5/\(∀u,u∈vs->u.oneCell'=true)/\vs.all yA=true/\(CU.agg (fWt x)).p vs W:=by
 obtain ⟨s,A,n,c,A',n',c',rfl,h1⟩:=h
 exact ⟨_,rfl,rfl,zGg,rfl,s,A,n,c,A',n',c',rfl,h1⟩
theorem zN0 {x:Wt} {v:Wh} {W:Wg} (h:(fWt x).p v W):v.cells.size=5/\(∀u,u∈v.cells.toList->u.oneCell'=true)/\v.cells.toList.all yA=true/\(CU.agg (fWt x)).p v.cells.toList W:=by
 obtain ⟨s,A,n,c,A',n',c',rfl,h1⟩:=h
 exact ⟨rfl,zGg,rfl,s,A,n,c,A',n',c',rfl,h1⟩
theorem zR8 (x:Wt):CU.ok 5 (CU.agg (fWt x)):=fun cs W ⟨s,A,n,c,A',n',c',e,_⟩=>by
 rw [zHh e]
 exact ⟨rfl,rfl,zGg⟩
theorem bWt (s:Bool) (A A':Wj Addr) (n n' c c':Nat) (z z':Int):prog.built 86 [(0, .agg #[.bool s, .slice A n c, .slice A' n' c']),(1, .int .i64 z),(2, .int .i64 z')]=some #[.bool s, .slice A n c, .slice A' n' c', .int .i64 z, .int .i64 z']:=by kernel_rfl
theorem zTB {x:Wt} {u v q:Wh} {W:Wg} (hu:QNp x.c u W) (hv:v= .int .i64 (x.s:Int)) (hq:q= .int .i64 (x.n:Int)): ∃cells,prog.built 86 [(0,u),(1,v),(2,q)]=some cells/\(fWt x).p (.agg cells) W:=by
 subst hv hq
 obtain ⟨A,n,c,A',n',c',rfl⟩:=zBF hu
 exact ⟨_,bWt _ _ _ _ _ _ _ _ _,_,A,n,c,A',n',c',rfl,hu⟩
theorem zQT (s:Bool) (A A':Wj Addr) (n n' c c':Nat) (z z':Int):zS prog 108 1 [(0, .agg #[.bool s, .slice A n c, .slice A' n' c', .int .i64 z, .int .i64 z'])]=some (86,#[.bool s, .slice A n c, .slice A' n' c', .int .i64 z, .int .i64 z']):=by kernel_rfl
theorem zQN {x:Wt} {u:Wh} {W:Wg} (hu:(fWt x).p u W): ∃e cs,zS prog 108 1 [(0,u)]=some (e,cs)/\(SF.row 5 [CU.agg (fWt x)]).p (.slice (some ⟨W.heap.size,0,none⟩) 1 1) (W.alloc (.cells cs e)):=by
 obtain ⟨s,A,n,c,A',n',c',rfl,h1⟩:=hu
 refine ⟨_,_,zQT _ _ _ _ _ _ _ _ _,_,1,rfl,sL _,by decide,(fun e=>by cases e),fun i C hi=> ?_⟩
 cases i with
 |zero=>
  obtain rfl:CU.agg (fWt x)=C:=by simpa using hi
  exact ⟨_,0,_,rfl,zCe W _ _,s,A,n,c,A',n',c',rfl,(fQN x.c).us _ _ _ h1 (zK (jQ W _))⟩
 |succ i=>simp at hi
theorem zQM {x:Wt} {u:Wh} {W:Wg} (hu:(fWt x).p u W): ∃e cs,zS prog 108 1 [(0,u)]=some (e,cs)/\e=86/\jG (W.alloc (.cells cs e)) W.heap.size 86 5 1 [CU.agg (fWt x)]:=by
 obtain ⟨s,A,n,c,A',n',c',rfl,h1⟩:=hu
 refine ⟨_,_,zQT _ _ _ _ _ _ _ _ _,rfl,_,tW W _,sL _,by decide,rfl,rfl,fun i C hi=> ?_⟩
 cases i with
 |zero=>
  obtain rfl:CU.agg (fWt x)=C:=by simpa using hi
  exact ⟨s,A,n,c,A',n',c',rfl,(fQN x.c).us _ _ _ h1 (zK (jQ W _))⟩
 |succ i=>simp at hi
abbrev wts (L:List Wt):List CU:=L.map fun x=>CU.agg (fWt x)
theorem zEb {L:List Wt} {i:Nat} (h:i<L.length):(wts L)[i]?=some (CU.agg (fWt (L.getD i wz))):=by
 simp [wts,h]
theorem zOP {L:List Wt} {i j:Nat}:((wts L).set i (CU.agg (fWt (L.getD j wz)))).set j (CU.agg (fWt (L.getD i wz)))=wts (zCD wz L i j):=by
 unfold wts zCD
 rw [tM,tM]
/-! ### A road: four cells -/
def ROp (r:Nat×Rat) (v:Wh) (w:Wg):Prop:= ∃s A n c A' n' c',v= .agg #[.int .i64 (r.1:Int), .bool s, .slice A n c, .slice A' n' c']/\QNp r.2 (.agg #[.bool s, .slice A n c, .slice A' n' c']) w
def fRo (r:Nat×Rat):UF:= .mk' (ROp r) fun _ _ _ ⟨s,A,n,c,A',n',c',e,h⟩ u=>⟨s,A,n,c,A',n',c',e,(fQN r.2).us _ _ _ h u⟩
theorem zKt (x:Nat×Rat): ∀cs:List Wh, ∀W,(fRo x).p (.agg cs.toArray) W->cs.length=4:=fun cs W ⟨_,_,_,_,_,_,_,e,_⟩=>by rw [zI7 e];rfl
theorem zFH {x:Nat×Rat} (cs:List Wh) (W:Wg) (h:(CU.agg (fRo x)).p cs W): ∃u,cs[0]?=some u/\u= .int .i64 (x.1:Int):=by
 obtain ⟨_,_,_,_,_,_,_,e,_⟩:=h
 rw [zI7 e]
 exact ⟨_,rfl,rfl⟩
theorem zOl {x:Nat×Rat} (cs:List Wh) (W:Wg) (h:(CU.agg (fRo x)).p cs W):1+3<=cs.length/\QNp x.2 (.agg ((cs.drop 1).take 3).toArray) W:=by
 obtain ⟨_,_,_,_,_,_,_,e,h1⟩:=h
 rw [zI7 e]
 exact ⟨by simp,h1⟩
theorem zI1 {s:Bool} {A A':Wj Addr} {n c n' c':Nat} {z:Int} (u:Wh) (hu:u∈ [Value.int .i64 z, .bool s, .slice A n c, .slice A' n' c']):u.oneCell'=true:=by
 simp only [tF,List.not_mem_nil,or_false] at hu
 rcases hu with rfl|rfl|rfl|rfl<;>rfl
theorem zFI {x:Nat×Rat} (v:Wh) (W:Wg) (h:(fRo x).p v W): ∃vs:List Wh,v= .agg vs.toArray/\vs.length=4/\(∀u,u∈vs->u.oneCell'=true)/\vs.all yA=true/\(CU.agg (fRo x)).p vs W:=by
 obtain ⟨s,A,n,c,A',n',c',rfl,h1⟩:=h
 exact ⟨_,rfl,rfl,zI1,rfl,s,A,n,c,A',n',c',rfl,h1⟩
theorem zQY (x:Nat×Rat):CU.ok 4 (CU.agg (fRo x)):=fun cs W ⟨s,A,n,c,A',n',c',e,_⟩=>by
 rw [zI7 e]
 exact ⟨rfl,rfl,zI1⟩
theorem bRo (s:Bool) (A A':Wj Addr) (n n' c c':Nat) (z:Int):prog.built 67 [(0, .int .i64 z),(1, .agg #[.bool s, .slice A n c, .slice A' n' c'])]=some #[.int .i64 z, .bool s, .slice A n c, .slice A' n' c']:=by kernel_rfl
theorem zTC {x:Nat×Rat} {u v:Wh} {W:Wg} (hu:u= .int .i64 (x.1:Int)) (hv:QNp x.2 v W): ∃cells,prog.built 67 [(0,u),(1,v)]=some cells/\(fRo x).p (.agg cells) W:=by
 subst hu
 obtain ⟨A,n,c,A',n',c',rfl⟩:=zBF hv
 exact ⟨_,bRo _ _ _ _ _ _ _ _,_,A,n,c,A',n',c',rfl,hv⟩
theorem zSf (s:Bool) (A A':Wj Addr) (n n' c c':Nat) (z:Int):zS prog 65 1 [(0, .agg #[.int .i64 z, .bool s, .slice A n c, .slice A' n' c'])]=some (67,#[.int .i64 z, .bool s, .slice A n c, .slice A' n' c']):=by kernel_rfl
abbrev ros (l:List (Nat×Rat)):List CU:=l.map fun x=>CU.agg (fRo x)
theorem zHF {l:List (Nat×Rat)} {i:Nat} (h:i<l.length):(ros l)[i]?=some (CU.agg (fRo (l.getD i (0,0)))):=by
 simp [ros,h]
/-! ### y5 that are turned; rows cut off -/
theorem zBR {w:Wg} {b:Nat} {e:Wi} {v:Wh} (h:w.heap[b]?=some (.cells #[v] e (0,0))) (hv:yA v=true):jG w b e 1 1 [wB [v]]:=
 ⟨#[v],h,sL _,by decide,rfl,by simp [hv],fun i C hi=>by
  cases i with
  |zero=>
   obtain rfl:wB [v]=C:=by simpa using hi
   rfl
  |succ i=>simp at hi⟩
theorem zCz {w:Wg} {b:Nat} {e:Wi} {v:Wh} (h:jG w b e 1 1 [wB [v]]):w.heap[b]?=some (.cells #[v] e (0,0)):=by
 obtain ⟨cur,h1,_,_,h4,_,h6⟩:=h
 have h7:(cur.toList.drop (0*1)).take 1= [v]:=h6 0 _ rfl
 have hl:cur.toList.length=1:=by simpa using h4
 have e:cur.toList= [v]:=by
  rw [Nat.zero_mul,List.drop_zero,List.take_of_length_le oO] at h7
  exact h7
 have e2:cur=#[v]:=by rw [<-Array.toArray_toList (xs:=cur),e]
 rw [h1,e2]
section
variable {F:Fence} {m:Nat} {P:Wl} {w0:Wg} {ops:Array Oper} {G:Nat->SF} {d:Tmp} {ty:Wi} {pos:String} {aft:Array Edge}
theorem zPh {t e':Wi} {ie:TypeInfo} (hu:P.underlying t=some (.slice e')) (hie:P.info? e'=some ie) (A:Wj Addr) (n c k:Nat) (hk:k<=c) (w:Wg):(Instr.sliceAt t (.slice A n c) none (some (.int .i64 (k:Int))) none).run P w= .ok (.slice A k c) w:=by
 simp [Instr.sliceAt,Instr.slice,Instr.sliceBounds,tL hu,sizeOf,typeInfo,hie,go_sem,hk]
theorem zOy {x hi:Wk} {t:Wi} {g n c k z:Nat} (hsz:zA2 P t=some z) (hk:k<=c) (hx: ∀v W,(fct G x).p v W->v= .slice (some ⟨g,0,none⟩) n c) (hh: ∀v W,(fct G hi).p v W->v= .int .i64 (k:Int)) (hd: ∀W,(G d).p (.slice (some ⟨g,0,none⟩) k c) W:=by exact fun _=>rfl):qB F m P w0 ops G ⟨some d, .slice t x none (some hi) none,ty,pos,aft,none⟩:=
 qQ (fun _ e=>by cases e) (fun _ e=>by cases e) fun b W hb hp=>by
  have e:=hx _ _ (hp x (by simp [Op.operands]))
  have e2:=hh _ _ (hp hi (by simp [Op.operands]))
  unfold zA2 at hsz
  split at hsz<;>try cases hsz
  rename_i e' hu
  obtain ⟨ie,hie,_⟩:=Option.map_eq_some_iff.1 hsz
  exact ⟨.slice (some ⟨g,0,none⟩) k c,by simp [execOp,e,e2,zPh hu hie _ n c k hk],hd _⟩
end
/-! ### The queue in memory -/
structure QM (w:World) (b g cap:Nat) (L:List Wt):Prop where
 bx:w.heap[b]?=some (.cells #[.slice (some ⟨g,0,none⟩) L.length cap] 108 (0,0))
 rw:jG w g 86 5 cap (wts L)
 bl:0<b
 gl:0<g
theorem QM.below {w w':Wg} {b g cap:Nat} {L:List Wt} (h:QM w b g cap L) (hb:Below w.heap.size w w'):QM w' b g cap L:=⟨(hb.block b (sF.1 h.bx).1).trans h.bx,h.rw.below hb,h.bl,h.gl⟩
theorem QM.ne {w:Wg} {b g cap:Nat} {L:List Wt} (h:QM w b g cap L):b≠g:=z9 h.bx h.rw.at.choose_spec dA
theorem QM.bpl {w:Wg} {b g cap:Nat} {L:List Wt} (h:QM w b g cap L):zHn w b:=⟨_,_,_,h.bx,rfl⟩
theorem QM.row {w:Wg} {b g cap:Nat} {L:List Wt} (h:QM w b g cap L):(SF.row 5 (wts L)).p (.slice (some ⟨g,0,none⟩) L.length cap) w:=h.rw.row (by simp)
theorem QM.ld {w:Wg} {b g cap:Nat} {L:List Wt} (h:QM w b g cap L):(loadVar 108 ⟨b,0,none⟩).run prog w= .ok (.slice (some ⟨g,0,none⟩) L.length cap) w:=qT kH (jW (cs:= [_]) h.bx) rfl
theorem QM.turn {w w':Wg} {b g cap:Nat} {L L':List Wt} (h:QM w b g cap L) (hb:BlS (fun q=>q=g) w w') (hl:L'.length=L.length) (hr:jG w' g 86 5 cap (wts L')):QM w' b g cap L':=
 ⟨by rw [hl];exact (hb.block b (sF.1 h.bx).1 h.ne).trans h.bx,hr,h.bl,h.gl⟩
abbrev qI (b:Nat):Wh:= .iface 106 (pO b 0)
end Go.Proofs.Wd

namespace Go.Proofs.Wd
open Tryz
set_option maxRecDepth 100000
set_option maxHeartbeats 1000000
open Go.RowKit Lb
theorem zPH (p q:Rat):(qsg p q<0)=(p<q):=by
 have h1:=@zOu p q
 have h2:=@zEy p q
 have h3:=@zOv p q
 have h4:=zKN p q
 exact propext ⟨fun h=>h1.1 oO,fun h=>by rw [h1.2 h];decide⟩
theorem zSb {x y:Wt} (h:((qsg (x).c (y).c) !=0)=true):decide (qsg (x).c (y).c<0)=Wt.lt x y:=by
 have h1:x.c≠y.c:=fun e=>by rw [zEy.2 e] at h;simp at h
 unfold Wt.lt
 rw [if_neg h1]
 simp only [zPH]
theorem zSa {x y:Wt} (h:((qsg (x).c (y).c) !=0)=false) (k:((x.s:Int) !=(y.s:Int))=true):decide ((x.s:Int)<(y.s:Int))=Wt.lt x y:=by
 have h1:x.c=y.c:=zEy.1 (by simpa using h)
 have h2:x.s≠y.s:=fun e=>by rw [e] at k;simp at k
 unfold Wt.lt
 rw [if_pos h1,if_neg h2]
 exact decide_eq_decide.2 oO
theorem zR9 {x y:Wt} (h:((qsg (x).c (y).c) !=0)=false) (k:((x.s:Int) !=(y.s:Int))=false):decide ((x.n:Int)<(y.n:Int))=Wt.lt x y:=by
  have h1:x.c=y.c:=zEy.1 (by simpa using h)
  have h2 : x.s = y.s := by have:(x.s:Int)=(y.s:Int):=by simpa using k
                            omega
  unfold Wt.lt
  rw [if_pos h1,if_pos h2]
  exact decide_eq_decide.2 oO
theorem zOS {W:Wg} {u v:Wh} {x y:Wt} (h0:(fWt x).p u W) (h1:(fWt y).p v W) (hx:QB x.c 1) (hy:QB y.c 1) (hT:Tab W):Calls prog 154 #[u,v] W (Ret W (fB (Wt.lt x y)).tS):=by
 refine qH [(fWt x).tS,(fWt y).tS] func154 rfl kH ⟨h0,h1,trivial⟩ fun a s=> ?_
 refine sC ?_
 refine zC 0 [] hmix s kH
  zE fun a w1 s=> ?_
 refine zA8 (CU.agg (fWt x)) rfl s kH (fun v W h=>zN1 h) fun b2 a w s=> ?_
 refine zA8 (CU.agg (fWt y)) rfl s kH (fun v W h=>zN1 h) fun b3 a w s=> ?_
 refine qN (uB false) rfl s kH iiz fun a w s=> ?_
 refine zB rfl ?_
 refine sC ?_
 refine sC ?_
 refine zC 6 ((6, .X (fWt x) 0)::(7, .Z (fQN ((x).c)))::(8, .X (fWt y) 0)::(9, .Z (fQN ((y).c)))::(10, .Z (uI (qsg ((x).c) ((y).c))))::(5, .u (uI (qsg ((x).c) ((y).c)))):: []) hmix s kH
  (oc (zW (C:=cg (fWt x)) 0 kH)<|oc (zAI (C:=cg (fWt x)) (k:=0) 3 kH (h:=zFw))<|oc (zW (C:=cg (fWt y)) 0 kH)<|oc (zAI (C:=cg (fWt y)) (k:=0) 3 kH (h:=zFw))<|oc (yB zF zRA (fun u0 u1 W hb (h0:QNp ((x).c) u0 W) (h1:QNp ((y).c) u1 W)=>zOp (m:=1) (wJ h0 hx) (wJ h1 hy) dA dA (hT.below (s.up hb))))<|oc zG<|zE) fun a w2 s=> ?_
 refine zB rfl ?_
 refine sC ?_
 refine zC 2 ((11, .Z (uI (qsg ((x).c) ((y).c))))::(12, .u (uB ((qsg ((x).c) ((y).c)) !=0))):: []) hmix s kH
  (oc zA<|oc (zP .i64 (qsg ((x).c) ((y).c)) 0 ((qsg ((x).c) ((y).c)) !=0) iiz iiz rfl rfl)<|zE) fun a w3 s=> ?_
 refine zB rfl ?_
 refine StS.cond s ((qsg ((x).c) ((y).c)) !=0) iiz (fun e=> ?_) (fun e=> ?_)
 ·have e1:=e
  refine sC ?_
  replace s:=s.drop [4]
  refine zC 3 ((13, .Z (uI (qsg ((x).c) ((y).c))))::(14, .Z (uB (decide ((qsg ((x).c) ((y).c))<0))))::(4, .u (uB (decide ((qsg ((x).c) ((y).c))<0)))):: []) hmix s kH
   (oc zA<|oc (zP .i64 (qsg ((x).c) ((y).c)) 0 (decide ((qsg ((x).c) ((y).c))<0)) iiz iiz rfl rfl)<|oc zG<|zE) fun a w4 s=> ?_
  refine zB rfl ?_
  refine sE ?_
  exact wF s (t:=4) rfl (fun v W h=>by rw [<-zSb e1];exact h)
 ·have e1:=e
  refine sI ?_
  refine sC ?_
  refine sC ?_
  refine zC 5 ((15, .X (fWt x) 3)::(16, .Z (uI (((x).s:Nat):Int)))::(17, .X (fWt y) 3)::(18, .Z (uI (((y).s:Nat):Int)))::(19, .u (uB ((((x).s:Nat):Int) !=(((y).s:Nat):Int)))):: []) hmix s kH
   (oc (zW (C:=cg (fWt x)) 3 kH)<|oc (yW (C:=cg (fWt x)) (k:=3) kH (h:=zCm))<|oc (zW (C:=cg (fWt y)) 3 kH)<|oc (yW (C:=cg (fWt y)) (k:=3) kH (h:=zCm))<|oc (zP .i64 (((x).s:Nat):Int) (((y).s:Nat):Int) ((((x).s:Nat):Int) !=(((y).s:Nat):Int)) iiz iiz rfl rfl)<|zE) fun a w5 s=> ?_
  refine zB rfl ?_
  refine StS.cond s ((((x).s:Nat):Int) !=(((y).s:Nat):Int)) iiz (fun e=> ?_) (fun e=> ?_)
  ·refine sC ?_
   replace s:=s.drop [4]
   refine zC 6 ((20, .X (fWt x) 3)::(21, .Z (uI (((x).s:Nat):Int)))::(22, .X (fWt y) 3)::(23, .Z (uI (((y).s:Nat):Int)))::(24, .Z (uB (decide ((((x).s:Nat):Int)<(((y).s:Nat):Int)))))::(4, .u (uB (decide ((((x).s:Nat):Int)<(((y).s:Nat):Int))))):: []) hmix s kH
    (oc (zW (C:=cg (fWt x)) 3 kH)<|oc (yW (C:=cg (fWt x)) (k:=3) kH (h:=zCm))<|oc (zW (C:=cg (fWt y)) 3 kH)<|oc (yW (C:=cg (fWt y)) (k:=3) kH (h:=zCm))<|oc (zP .i64 (((x).s:Nat):Int) (((y).s:Nat):Int) (decide ((((x).s:Nat):Int)<(((y).s:Nat):Int))) iiz iiz rfl rfl)<|oc zG<|zE) fun a w6 s=> ?_
   refine zB rfl ?_
   refine sE ?_
   exact wF s (t:=4) rfl (fun v W h=>by rw [<-zSa e1 e];exact h)
  ·refine sI ?_
   refine sC ?_
   replace s:=s.drop [4]
   refine zC 6 ((25, .X (fWt x) 4)::(26, .Z (uI (((x).n:Nat):Int)))::(27, .X (fWt y) 4)::(28, .Z (uI (((y).n:Nat):Int)))::(29, .Z (uB (decide ((((x).n:Nat):Int)<(((y).n:Nat):Int)))))::(4, .u (uB (decide ((((x).n:Nat):Int)<(((y).n:Nat):Int))))):: []) hmix s kH
    (oc (zW (C:=cg (fWt x)) 4 kH)<|oc (yW (C:=cg (fWt x)) (k:=4) kH (h:=zDk))<|oc (zW (C:=cg (fWt y)) 4 kH)<|oc (yW (C:=cg (fWt y)) (k:=4) kH (h:=zDk))<|oc (zP .i64 (((x).n:Nat):Int) (((y).n:Nat):Int) (decide ((((x).n:Nat):Int)<(((y).n:Nat):Int))) iiz iiz rfl rfl)<|oc zG<|zE) fun a w7 s=> ?_
   refine zB rfl ?_
   refine sE ?_
   exact wF s (t:=4) rfl (fun v W h=>by rw [<-zR9 e1 e];exact h)
theorem zPN {W:Wg} {l u v:Wh} {L:List Wt} {i j:Nat} (hl:(SF.row 5 (wts L)).p l W) (hu:u= .int .i64 (i:Int)) (hv:v= .int .i64 (j:Int)) (hi:i<L.length) (hj:j<L.length) (hx:QB (L.getD i wz).c 1) (hy:QB (L.getD j wz).c 1) (hT:Tab W):Calls prog 155 #[l,u,v] W (Ret W (fB (Wt.lt (L.getD i wz) (L.getD j wz))).tS):=by
 refine qH [(UF.eq l).tS,(uI (i:Int)).tS,(uI (j:Int)).tS] func155 rfl kH ⟨rfl,hu,hv,trivial⟩ fun a s=> ?_
 refine sC ?_
 refine zC 1 ((6, .u (uB false)):: []) hmix s kH
  (oc zG<|zE) fun a w1 s=> ?_
 refine zB rfl ?_
 refine sC ?_
 replace s:=s.drop [6]
 refine zC 10 ((7, .Z (UF.eq l))::(8, .Z (uI (i:Int)))::(9, .Y (fWt (L.getD i wz)))::(10, .Z (fWt (L.getD i wz)))::(11, .Z (UF.eq l))::(12, .Z (uI (j:Int)))::(13, .Y (fWt (L.getD j wz)))::(14, .Z (fWt (L.getD j wz)))::(15, .Z (uB (Wt.lt (L.getD i wz) (L.getD j wz))))::(6, .u (uB (Wt.lt (L.getD i wz) (L.getD j wz)))):: []) hmix s kH
  (oc zA<|oc zA<|oc (zT (z:=5) (Cs:=wts L) (i:=i) (C:=CU.agg (fWt (L.getD i wz))) kH (zEb hi) (fun v W hb h=>(yT hl h (s.up hb))) iiz)<|oc (yP (f:=fWt (L.getD i wz)) 5 kH (hz:=zEc _))<|oc zA<|oc zA<|oc (zT (z:=5) (Cs:=wts L) (i:=j) (C:=CU.agg (fWt (L.getD j wz))) kH (zEb hj) (fun v W hb h=>(yT hl h (s.up hb))) iiz)<|oc (yP (f:=fWt (L.getD j wz)) 5 kH (hz:=zEc _))<|oc (yB zF zRE (fun u0 u1 W hb (h0:(fWt (L.getD i wz)).p u0 W) (h1:(fWt (L.getD j wz)).p u1 W)=>zOS h0 h1 hx hy (hT.below (s.up hb))))<|oc zG<|zE) fun a w2 s=> ?_
 refine zB rfl ?_
 refine sE ?_
 exact wF s (t:=6) rfl (fun v W h=>h)
theorem zOw {W:Wg} {l:Wh} {L:List Wt} (hl:(SF.row 5 (wts L)).p l W):Calls prog 66 #[l] W (Ret W (uI (L.length:Int)).tS):=by
 refine qH [(UF.eq l).tS] func66 rfl kH ⟨rfl,trivial⟩ fun a s=> ?_
 refine sC ?_
 refine zC 1 ((2, .u (uI 0)):: []) hmix s kH
  (oc zG<|zE) fun a w1 s=> ?_
 refine zB rfl ?_
 refine sC ?_
 replace s:=s.drop [2]
 refine zC 3 ((3, .Z (UF.eq l))::(4, .Z (uI ((wts L).length:Int)))::(2, .u (uI ((wts L).length:Int))):: []) hmix s kH
  (oc zA<|oc (qK (z:=5) (Cs:=wts L) kH (fun v W hb h=>(yT hl h (s.up hb))) (fun _=>rfl))<|oc zG<|zE) fun a w2 s=> ?_
 refine zB rfl ?_
 refine sE ?_
 exact wF s (t:=2) rfl (fun v W h=>by rw [show v=_ from h];show _=Value.int .i64 (L.length:Int);simp)
end Go.Proofs.Wd

namespace Go.Proofs.Wd
open Tryz
set_option maxRecDepth 100000
set_option maxHeartbeats 1000000
open Go.RowKit Lb
theorem zPE {W:Wg} {g cap:Nat} {u v:Wh} {L:List Wt} {i j:Nat} (hR:jG W g 86 5 cap (wts L)) (hu:u= .int .i64 (i:Int)) (hv:v= .int .i64 (j:Int)) (hi:i<L.length) (hj:j<L.length):Calls prog 158 #[.slice (some ⟨g,0,none⟩) L.length cap,u,v] W (zMh (fun q=>q=g) W UF.any fun W'=>jG W' g 86 5 cap (wts (zCD wz L i j))):=by
 have hl:(SF.row 5 (wts L)).p (.slice (some ⟨g,0,none⟩) L.length cap) W:=hR.row (by simp)
 have hF:BlS (fun q=>q=g) W W:=BlS.refl _ _
 refine zBQ [UF.eq (.slice (some ⟨g,0,none⟩) L.length cap),uI (i:Int),uI (j:Int)] func158 rfl kH ⟨rfl,hu,hv,trivial⟩ fun a s=> ?_
 replace s:St W [(0, .u (UF.eq (.slice (some ⟨g,0,none⟩) L.length cap))),(1, .u (uI (i:Int))),(2, .u (uI (j:Int)))] [] f158.ntmps [] a W:=s
 refine zAb [0,1,2,3,4,5,8,9] 12 ((6, .u (UF.eq (.slice (some ⟨g,0,none⟩) L.length cap)))::(7, .u (uI (i:Int)))::(8, .u (UF.eq (.slice (some ⟨g,0,none⟩) L.length cap)))::(9, .u (uI (j:Int)))::(10, .Z (UF.eq (.slice (some ⟨g,0,none⟩) L.length cap)))::(11, .Z (uI (j:Int)))::(12, .Y (fWt (L.getD j wz)))::(13, .u (fWt (L.getD j wz)))::(14, .Z (UF.eq (.slice (some ⟨g,0,none⟩) L.length cap)))::(15, .Z (uI (i:Int)))::(16, .Y (fWt (L.getD i wz)))::(17, .u (fWt (L.getD i wz))):: []) hmix s kH
  (oc zA<|oc zA<|oc zA<|oc zA<|oc zA<|oc zA<|oc (zT (z:=5) (Cs:=wts L) (i:=j) (C:=CU.agg (fWt (L.getD j wz))) kH (zEb hj) (fun v W hb h=>(by rw [show v=(Value.slice (some ⟨g,0,none⟩) L.length cap) from h];exact (SF.row 5 (wts L)).st _ _ _ hl (s.up hb))) iiz)<|oc (yP (f:=fWt (L.getD j wz)) 5 kH (hz:=zEc _))<|oc zA<|oc zA<|oc (zT (z:=5) (Cs:=wts L) (i:=i) (C:=CU.agg (fWt (L.getD i wz))) kH (zEb hi) (fun v W hb h=>(by rw [show v=(Value.slice (some ⟨g,0,none⟩) L.length cap) from h];exact (SF.row 5 (wts L)).st _ _ _ hl (s.up hb))) iiz)<|oc (yP (f:=fWt (L.getD i wz)) 5 kH (hz:=zEc _))<|zE) fun Q' hQ a w1 s=> ?_
 refine zCr (UF.eq (.pointer (some ⟨g,i*5,none⟩))) rfl s kH (zAm (z:=5) (g:=g) (nn:=L.length) (cap:=cap) (i:=i) kH hi iiz iiz) kH fun a w s=> ?_
 have hb:=s.below
 replace hR:=hR.below hb
 replace hF:=hF.trans hb
 refine zCC (g:=g) (i:=i) (cap:=cap) (z:=5) (e:=86) (CU.agg (fWt (L.getD j wz))) rfl s rfl rfl hR (by simpa using hi) kH (s.fct (.tmp 18)) (zN0 (s.fct (.tmp 13))) (fun q hq=>by cases hq) fun w hF1 hk1 hR s=> ?_
 replace hF:=hF.comp hF1
 refine zCr (UF.eq (.pointer (some ⟨g,j*5,none⟩))) rfl s kH (zAm (z:=5) (g:=g) (nn:=L.length) (cap:=cap) (i:=j) kH hj iiz iiz) kH fun a w s=> ?_
 have hb:=s.below
 replace hR:=hR.below hb
 replace hF:=hF.trans hb
 refine zCC (g:=g) (i:=j) (cap:=cap) (z:=5) (e:=86) (CU.agg (fWt (L.getD i wz))) rfl s rfl rfl hR (by simpa using hj) kH (s.fct (.tmp 19)) (zN0 (s.fct (.tmp 17))) (fun q hq=>by cases hq) fun w hF1 hk1 hR s=> ?_
 replace hF:=hF.comp hF1
 refine zB rfl (hQ _ _ ?_)
 have hb:=s.below
 replace hR:=hR.below hb
 replace hF:=hF.trans hb
 replace s:=s.anewB rfl rfl
 exact s.retN0 rfl ⟨_,rfl,trivial,by rw [<-zOP];exact hR,hF⟩
def fIW (x:Wt):UF:= .mk' (fun v w=> ∃u,v= .iface 86 u/\(fWt x).p u w) fun _ _ _ ⟨u,e,h⟩ k=>⟨u,e,(fWt x).us _ _ _ h k⟩
theorem zMk (L:List Wt) (x:Wt):wts (L++ [x])=wts L++ [CU.agg (fWt x)]:=by unfold wts;rw [List.map_append];rfl
theorem zPK {W:Wg} {b g cap:Nat} {u:Wh} {L:List Wt} {x:Wt} (hM:QM W b g cap L) (hx:(fIW x).p u W) (hn:L.length<=1000000):Calls prog 157 #[pO b 0,u] W (zMh (fun q=>q=b∨q=g) W UF.any fun W'=> ∃g' cap',(g'=g∨W.heap.size<=g')/\QM W' b g' cap' (L++ [x])):=by
 have hF:BlS (fun q=>q=b∨q=g) W W:=BlS.refl _ _
 refine zBQ [UF.eq (pO b 0),fIW x] func157 rfl kH ⟨rfl,hx,trivial⟩ fun a s=> ?_
 replace s:St W [(0, .u (UF.eq (pO b 0))),(1, .u (fIW x))] [] f157.ntmps [] a W:=s
 refine zCK [0] [] 7 ((4, .u (UF.eq (pO b 0)))::(5, .Z (UF.eq (pO b 0)))::(6, .Z (UF.eq (pO b 0)))::(7, .u (UF.eq (.slice (some ⟨g,0,none⟩) L.length cap)))::(8, .Z (fIW x))::(9, .Z (fWt x))::(10, .s (SF.row 5 [CU.agg (fWt x)])):: []) hmix s fnz kH
  (oc zA<|oc zA<|oc (zBo (a:=⟨b,0,none⟩) iiz)<|oc (zFi (b:=b) (v:=(.slice (some ⟨g,0,none⟩) L.length cap)) kH hM.bx iiz)<|oc zA<|oc (zFj ⟨_,underlying86,fun _ e=>by cases e⟩ (fun v W h=>h))<|oc (zC3 (fun u W (hu:(fWt x).p u W)=>zQN hu))<|zE) fun Q' hQ a w1 s hr hd=> ?_
 have hb:=s.below
 replace hM:=hM.below hb
 replace hF:=hF.trans hb
 refine zEi (base:=0) (z:=5) (e:=86) (v:=(.slice (some ⟨g,0,none⟩) L.length cap)) [CU.agg (fWt x)] s (hM.rw.toN (sM _) (by simp)) (sM _) rfl kH kH rfl rfl (s.fct (.tmp 7)) (hr (_,_) mz6) (fun C hC=>by obtain rfl:=sY.1 hC;exact zR8 x) (by simp;omega) (fun q hq=>by cases hq) fun v' a w2 hN hF1 hk1 hO s=> ?_
 obtain ⟨g',cap',rfl,-,hR'⟩:=zDF hN (by simp)
 have hg':g'=g∨g'=_:=hO.imp (fun e=>sS e) (fun e=>sS e)
 have hbb:=(hF1.block b (sF.1 hM.bx).1 (fun e=>hM.ne (sS e).symm)).trans hM.bx
 have hbg:b≠g':=z9 hbb hR'.at.choose_spec dA
 have hgt:0<g':=by rcases hg' with e|e;(rw [e];exact hM.gl);(rw [e];exact Nat.lt_trans hM.bl (sF.1 hM.bx).1)
 have hgs:g'=g∨W.heap.size<=g':=hg'.imp_right fun e=>by rw [e];exact hF.size
 have hbl:=hM.bl
 replace hF:=hF.comp (hF1.sub (S':=fun q=>q=b∨q=g) fun q hq=> .inr (sS hq).symm)
 clear hM
 refine zCr (UF.eq (pO b 0)) rfl s kH (zBo (a:=⟨b,0,none⟩) iiz) kH fun a w s=> ?_
 have hb:=s.below
 replace hbb:=(hb.block b (sF.1 hbb).1).trans hbb
 replace hR':=hR'.below hb
 replace hF:=hF.trans hb
 refine zCC (g:=b) (i:=0) (cap:=1) (z:=1) (e:=108) (wB [(.slice (some ⟨g',0,none⟩) (wts L++ [CU.agg (fWt x)]).length cap')]) rfl s rfl rfl (zBR hbb rfl) (by simp) kH (s.fct (.tmp 12)) (by rw [show a.eval (.tmp 11)=(.slice (some ⟨g',0,none⟩) (wts L++ [CU.agg (fWt x)]).length cap') from s.fct (.tmp 11)];exact ⟨rfl,fun u hu=>by obtain rfl:=sY.1 hu;rfl,rfl,rfl⟩) (fun q hq=>by cases hq) fun w hF1 hk1 hB1 s=> ?_
 replace hbb:=zCz hB1
 replace hR':=hR'.keep (hF1.block g' hR'.lt (Ne.symm hbg)) hk1
 replace hF:=hF.comp (hF1.sub (S':=fun q=>q=b∨q=g) fun q hq=> .inl hq)
 refine zB rfl (hQ _ _ ?_)
 have hb:=s.below
 replace hbb:=(hb.block b (sF.1 hbb).1).trans hbb
 replace hR':=hR'.below hb
 replace hF:=hF.trans hb
 replace s:=s.anewB rfl rfl
 exact s.retN0 rfl ⟨_,rfl,trivial,⟨g',cap',hgs,⟨by rw [hbb];simp,by rw [zMk];exact hR',hbl,hgt⟩⟩,hF⟩
theorem zMj (L:List Wt) (k:Nat):wts (L.take k)=(wts L).take k:=by unfold wts;rw [List.map_take]
theorem zQ7 {W:Wg} {b g cap:Nat} {L:List Wt} (hM:QM W b g cap L) (h0:0<L.length) (hn:L.length<=1000000):Calls prog 156 #[pO b 0] W (zMh (fun q=>q=b) W (fIW (L.getD (L.length - 1) wz)) fun W'=>QM W' b g cap (L.take (L.length - 1))):=by
 have hF:BlS (fun q=>q=b) W W:=BlS.refl _ _
 have hl:=hM.row
 have hn1:L.length - 1<L.length:=by omega
 have hcap:L.length - 1<=cap:=by have:=hM.rw.cap;simp at this;omega
 refine zBQ [UF.eq (pO b 0)] func156 rfl kH ⟨rfl,trivial⟩ fun a s=> ?_
 replace s:St W [(0, .u (UF.eq (pO b 0)))] [] f156.ntmps [] a W:=s
 refine sC ?_
 refine zC 1 [] hmix s kH
  (oc (zG (fun _ _ _ _=>trivial))<|zE) fun a w1 s=> ?_
 refine zB rfl ?_
 have hb:=s.below
 replace hM:=hM.below hb
 replace hl:=(SF.row 5 (wts L)).st _ _ _ hl hb
 replace hF:=hF.trans hb
 replace s:=s.anewB rfl rfl
 refine sC ?_
 refine zC 4 ((5, .Z (UF.eq (pO b 0)))::(6, .Z (UF.eq (pO b 0)))::(7, .Z (UF.eq (.slice (some ⟨g,0,none⟩) L.length cap)))::(3, .u (UF.eq (.slice (some ⟨g,0,none⟩) L.length cap))):: []) hmix s kH
  (oc zA<|oc (zBo (a:=⟨b,0,none⟩) iiz)<|oc (zFi (b:=b) (v:=(.slice (some ⟨g,0,none⟩) L.length cap)) kH hM.bx iiz)<|oc zG<|zE) fun a w2 s=> ?_
 refine zB rfl ?_
 have hb:=s.below
 replace hM:=hM.below hb
 replace hl:=(SF.row 5 (wts L)).st _ _ _ hl hb
 replace hF:=hF.trans hb
 replace s:=s.anewB rfl rfl
 refine sC ?_
 refine zC 6 ((8, .Z (UF.eq (.slice (some ⟨g,0,none⟩) L.length cap)))::(9, .Z (UF.eq (.slice (some ⟨g,0,none⟩) L.length cap)))::(10, .Z (uI (L.length:Int)))::(11, .Z (uI ((L.length - 1:Nat):Int)))::(12, .Y (fWt (L.getD (L.length - 1) wz)))::(13, .u (fWt (L.getD (L.length - 1) wz))):: []) hmix s kH
  (oc zA<|oc zA<|oc (jV kH (fun v W h=>⟨_,_,_,h,rfl⟩))<|oc (zA9 .i64 (L.length:Int) 1 ((L.length - 1:Nat):Int) iiz iiz (wrap64 _ _ oO oO))<|oc (zT (z:=5) (Cs:=wts L) (i:=(L.length - 1)) (C:=CU.agg (fWt (L.getD (L.length - 1) wz))) kH (zEb hn1) (fun v W hb h=>(by rw [show v=(Value.slice (some ⟨g,0,none⟩) L.length cap) from h];exact (SF.row 5 (wts L)).st _ _ _ hl (s.up hb))) iiz)<|oc (yP (f:=fWt (L.getD (L.length - 1) wz)) 5 kH (hz:=zEc _))<|zE) fun a w3 s=> ?_
 refine qJ (CU.len 5) (cs:= [.bool false, .slice none 0 0, .slice none 0 0, .int .i64 0, .int .i64 0]) kH rfl s kH (fun W=>rfl) rfl fun b4 a w s=> ?_
 refine yY (CU.agg (fWt (L.getD (L.length - 1) wz))) ((fWt (L.getD (L.length - 1) wz)).tS) rfl s kH rfl rfl rfl iiz iiz zFv fun a w s=> ?_
 refine zB rfl ?_
 have hb:=s.below
 replace hM:=hM.below hb
 replace hl:=(SF.row 5 (wts L)).st _ _ _ hl hb
 replace hF:=hF.trans hb
 replace s:StS _ _ _ [⟨4,86,CU.agg (fWt (L.getD (L.length - 1) wz)),b4,true⟩] _ _ _ _:=s.freeze
 replace s:=s.anewB rfl rfl
 refine sC ?_
 refine zC 7 ((14, .Z (UF.eq (pO b 0)))::(15, .Z (UF.eq (.slice (some ⟨g,0,none⟩) L.length cap)))::(16, .Z (UF.eq (.slice (some ⟨g,0,none⟩) L.length cap)))::(17, .Z (uI (L.length:Int)))::(18, .Z (uI ((L.length - 1:Nat):Int)))::(19, .u (UF.eq (.slice (some ⟨g,0,none⟩) (L.length - 1) cap)))::(20, .u (UF.eq (pO b 0))):: []) hmix s kH
  (oc zA<|oc zA<|oc zA<|oc (jV kH (fun v W h=>⟨_,_,_,h,rfl⟩))<|oc (zA9 .i64 (L.length:Int) 1 ((L.length - 1:Nat):Int) iiz iiz (wrap64 _ _ oO oO))<|oc (zOy (g:=g) (n:=L.length) (c:=cap) (k:=L.length - 1) (z:=5) kH hcap iiz iiz)<|oc (zBo (a:=⟨b,0,none⟩) iiz)<|zE) fun a w4 s=> ?_
 have hb:=s.below
 replace hM:=hM.below hb
 replace hl:=(SF.row 5 (wts L)).st _ _ _ hl hb
 replace hF:=hF.trans hb
 obtain ⟨cs4,hc4,-,-⟩:=s.boxAt (c:=4) rfl
 have hne4:=z9 hc4 hM.bx (show (86:Wi)≠108 by decide)
 refine zCC (g:=b) (i:=0) (cap:=1) (z:=1) (e:=108) (wB [(.slice (some ⟨g,0,none⟩) (L.length - 1) cap)]) rfl s rfl rfl (zBR hM.bx rfl) (by simp) kH (s.fct (.tmp 20)) (by rw [show a.eval (.tmp 19)=(.slice (some ⟨g,0,none⟩) (L.length - 1) cap) from s.fct (.tmp 19)];exact ⟨rfl,fun u hu=>by obtain rfl:=sY.1 hu;rfl,rfl,rfl⟩) (fun q hq=>by obtain rfl:=sY.1 hq;exact hne4) fun w hF1 hk1 hB1 s=> ?_
 have hR1:=(hM.rw.keep (hF1.block g hM.rw.lt hM.ne.symm) hk1).take (L.length - 1)
 replace hM:QM w b g cap (L.take (L.length - 1)):=⟨by rw [zCz hB1];simp,by rw [zMj];exact hR1,hM.bl,hM.gl⟩
 replace hF:=hF.comp hF1
 clear hl
 refine zB rfl ?_
 have hb:=s.below
 replace hM:=hM.below hb
 replace hF:=hF.trans hb
 replace s:StS _ _ _ [⟨4,86,CU.agg (fWt (L.getD (L.length - 1) wz)),b4,true⟩] _ _ _ _:=s.freeze
 replace s:=s.anewB rfl rfl
 refine sC ?_
 refine zC 3 ((21, .Z (fWt (L.getD (L.length - 1) wz)))::(22, .Z (fIW (L.getD (L.length - 1) wz)))::(2, .u (fIW (L.getD (L.length - 1) wz))):: []) hmix s kH
  (oc (yP (f:=fWt (L.getD (L.length - 1) wz)) 5 kH (hz:=zEc _))<|oc (zIJ ⟨_,underlying86,fun _ e=>by cases e⟩ (fun v W h=>⟨v,rfl,h⟩))<|oc zG<|zE) fun a w5 s=> ?_
 refine zB rfl ?_
 have hb:=s.below
 replace hM:=hM.below hb
 replace hF:=hF.trans hb
 replace s:StS _ _ _ [⟨4,86,CU.agg (fWt (L.getD (L.length - 1) wz)),b4,true⟩] _ _ _ _:=s.freeze
 replace s:=s.anewB rfl rfl
 refine sE ?_
 exact s.retT1 rfl (.head _) fun v hv=>⟨v,rfl,hv,hM,hF⟩
end Go.Proofs.Wd

namespace Go.Proofs.Wd
open Tryz
set_option maxRecDepth 100000
set_option maxHeartbeats 1000000
open Go.RowKit Lb
theorem zRj:zC7 prog 106 "Less" =some (155,false,108):=by kernel_rfl
theorem zRh:zC7 prog 106 "Swap" =some (158,false,108):=by kernel_rfl
theorem zSx:zC7 prog 106 "Len" =some (66,false,108):=by kernel_rfl
theorem zRi:zC7 prog 106 "Push" =some (157,true,108):=by kernel_rfl
theorem zSw:zC7 prog 106 "Pop" =some (156,true,108):=by kernel_rfl
section
variable {S:Nat->Prop} {F:Fence} {m:Nat} {Q:Exit->Act->Wg->Prop} {w0:Wg} {K:List (Nat×KF)} {B:List Bx} {n:Nat} {a:Act} {w:Wg} {ops:Array Oper} {G:Nat->SF} {d:Tmp} {ty:Wi} {pos:String} {aft:Array Edge} {b g cap:Nat} {L:List Wt}
theorem zD2 {r x y:Wk} {ats:Array Wi} {i j:Nat} (hF:zHl F m prog) (hM:QM w0 b g cap L) (hi:i<L.length) (hj:j<L.length) (hL: ∀x,x∈L->QB x.c 1) (hT:Tab w0) (hr: ∀v W,(fct G r).p v W->v=qI b) (hx: ∀v W,(fct G x).p v W->v= .int .i64 (i:Int)) (hy: ∀v W,(fct G y).p v W->v= .int .i64 (j:Int)) (hd: ∀W,(G d).p (.bool (Wt.lt (L.getD i wz) (L.getD j wz))) W:=by exact fun _=>rfl):qB F m prog w0 ops G ⟨some d, .call ⟨.invoke r "Less",#[x,y],ats⟩,ty,pos,aft,none⟩:=
 zOz hF (enters_of func155 kH rfl) fun a W hb hh=>by
  have e1:=hr _ _ (hh r (.head _))
  have e2:=hx _ _ (hh x (by simp))
  have e3:=hy _ _ (hh y (by simp))
  have hM':=hM.below hb
  have gq: ∀k,k<L.length->QB (L.getD k wz).c 1:=fun k hk=>hL _ (by rw [tY,tH hk];exact zT2 hk)
  refine ⟨_,_, .slice (some ⟨g,0,none⟩) L.length cap,e1,zEp zRj hM'.ld, ?_⟩
  have e4:(#[Value.slice (some ⟨g,0,none⟩) L.length cap]++#[x,y].map a.eval)=#[Value.slice (some ⟨g,0,none⟩) L.length cap,a.eval x,a.eval y]:=by rw [sP];simp
  rw [e4]
  exact (zPN hM'.row e2 e3 hi hj (gq i hi) (gq j hj) (hT.below hb)).mono (wG fun v W h=>by rw [show v=_ from h];exact hd W)
theorem zK0 {r:Wk} {ats:Array Wi} (hF:zHl F m prog) (hM:QM w0 b g cap L) (hr: ∀v W,(fct G r).p v W->v=qI b) (hd: ∀W,(G d).p (.int .i64 (L.length:Int)) W:=by exact fun _=>rfl):qB F m prog w0 ops G ⟨some d, .call ⟨.invoke r "Len",#[],ats⟩,ty,pos,aft,none⟩:=
 zOz hF (enters_of func66 kH rfl) fun a W hb hh=>by
  have e1:=hr _ _ (hh r (.head _))
  have hM':=hM.below hb
  refine ⟨_,_, .slice (some ⟨g,0,none⟩) L.length cap,e1,zEp zSx hM'.ld, ?_⟩
  have e4:(#[Value.slice (some ⟨g,0,none⟩) L.length cap]++(#[]:Array Wk).map a.eval)=#[Value.slice (some ⟨g,0,none⟩) L.length cap]:=by rw [sP];simp
  rw [e4]
  exact (zOw hM'.row).mono (wG fun v W h=>by rw [show v=_ from h];exact hd W)
theorem zFz {k:Nat} {r x y:Wk} {ats:Array Wi} {i j:Nat} (hF:zHl F m prog) (h:StS S w0 K B n [] a w) (hM:QM w b g cap L) (hi:i<L.length) (hj:j<L.length) (ho:ops[k]?=some ⟨some d, .call ⟨.invoke r "Swap",#[x,y],ats⟩,ty,pos,aft,none⟩) (hr:a.eval r=qI b) (hx:a.eval x= .int .i64 (i:Int)) (hy:a.eval y= .int .i64 (j:Int))
  (hf:zAp K B n d=true) (hu:(K.all fun q=>zJM q.2)=true) (hBr:(B.all fun x=>x.r)=true) (hB: ∀q,q∈B-> ¬q.b=g)
  (fin: ∀a' w',QM w' b g cap (zCD wz L i j)->BlS (fun q=>q=g) w w'->St w' ((d, .u UF.any)::K) B n [] a' w'->zBt F m prog ops Q (k+1) a' w'):zBt F m prog ops Q k a w:=
 zJ3 (T:=fun q=>q=g) (args:=#[.int .i64 (i:Int), .int .i64 (j:Int)]) hF (enters_of func158 kH rfl) h ho hr (zEp zRh hM.ld) hf hu hBr (fun q hq=>by rw [hq];exact hM.rw.plain) hB (by rw [sP];simp [hx,hy]) (zPE hM.rw rfl rfl hi hj) fun a' w' hR hb _ s=>fin a' w' (hM.turn hb (qG _ _ _) hR) hb s
end
theorem zAE (z:Int) (h: -9223372036854775808<=z) (h':z<=9223372036854775807):IntKind.i64.wrap z=z:=by rw [IntKind.wrap_i64];omega
theorem zPQ (j:Nat) (h:j<=1000000000):IntKind.i64.wrap (((j:Int) - 1).tdiv 2)=(((j - 1) / 2:Nat):Int):=by
 have e:((j:Int) - 1).tdiv 2=(((j - 1) / 2:Nat):Int):=by
  rcases sV j with rfl|hj
  ·rfl
  ·rw [show (j:Int) - 1=((j - 1:Nat):Int) by omega,tO oO]
   omega
 rw [e]
 exact zAE _ oO oO
theorem zOZ {l:List Wt} {j:Nat} {bq:Bool} (hbq:((((j - 1) / 2:Nat):Int)==(j:Int))=bq) (e:(bq|| !(Wt.lt (l.getD j wz) (l.getD ((j - 1) / 2) wz)))=true):upH wz Wt.lt j l=l:=by
 rw [upH]
 by_cases h0:j=0
 ·rw [if_pos h0]
 ·rw [if_neg h0]
  have:bq=false:=by rw [<-hbq];exact beq_eq_false_iff_ne.2 oO
  rw [this,zT3] at e
  rw [if_neg (by simpa using e)]
theorem zSd {l:List Wt} {j:Nat} {bq:Bool} (hbq:((((j - 1) / 2:Nat):Int)==(j:Int))=bq) (e:(bq|| !(Wt.lt (l.getD j wz) (l.getD ((j - 1) / 2) wz)))=false):upH wz Wt.lt ((j - 1) / 2) (zCD wz l ((j - 1) / 2) j)=upH wz Wt.lt j l:=by
 rw [Bool.or_eq_false_iff] at e
 have h0:j≠0:=fun h=>by
  subst h
  rw [<-hbq] at e
  exact absurd e.1 dA
 conv=>rhs;rw [upH]
 rw [if_neg h0,if_pos (by simpa using e.2)]
theorem zSD {W:Wg} {b g cap:Nat} {u v:Wh} {L:List Wt} {j:Nat} (hM:QM W b g cap L) (hu:u=qI b) (hv:v= .int .i64 (j:Int)) (hj:j<L.length) (hn:L.length<=100000) (hL: ∀x,x∈L->QB x.c 1) (hT:Tab W):Calls prog 85 #[u,v] W (zMh (fun q=>q=g) W UF.any fun W'=>QM W' b g cap (upH wz Wt.lt j L)):=by
 have hF:BlS (fun q=>q=g) W W:=BlS.refl _ _
 refine zBQ [UF.eq (qI b),uI (j:Int)] func85 rfl kH ⟨hu,hv,trivial⟩ fun a s=> ?_
 replace s:St W [(0, .u (UF.eq (qI b))),(1, .u (uI (j:Int)))] [] f85.ntmps [] a W:=s
 refine sO ?_
 refine yM (fun (x:Nat×List Wt) a w=>x.1<x.2.length/\x.2.length=L.length/\(∀y,y∈x.2->QB y.c 1)/\upH wz Wt.lt x.1 x.2=upH wz Wt.lt j L/\QM w b g cap x.2/\Tab w/\BlS (fun q=>q=g) W w/\St w [(0, .u (UF.eq (qI b))),(1, .u (uI (x.1:Int)))] [] f85.ntmps [] a w) (fun x=>x.1) (j,L) ⟨hj,rfl,hL,rfl,hM,hT,hF,s⟩ fun x a w hx=> ?_
 obtain ⟨hj,hl,hL,he,hM,hT,hF,s⟩:=hx
 have hp:((x.1 - 1) / 2)<x.2.length:=by omega
 refine sO ?_
 refine sC ?_
 refine zC 4 ((5, .Z (uI (x.1:Int)))::(6, .Z (uI ((x.1:Int) - 1)))::(7, .Z (uI ((((x.1 - 1) / 2):Nat):Int)))::(4, .u (uI ((((x.1 - 1) / 2):Nat):Int))):: []) hmix s kH
  (oc zA<|oc (zA9 .i64 (x.1:Int) 1 ((x.1:Int) - 1) iiz iiz (zAE _ oO oO))<|oc (zHN .i64 ((x.1:Int) - 1) 2 ((((x.1 - 1) / 2):Nat):Int) iiz iiz dA (zPQ _ oO))<|oc zG<|zE) fun a w1 s=> ?_
 refine zB rfl ?_
 have hb:=s.below
 replace hM:=hM.below hb
 replace hT:=hT.below hb
 replace hF:=hF.trans hb
 replace s:=s.anewB rfl rfl
 refine sC ?_
 refine sC ?_
 obtain ⟨bq,hbq⟩: ∃bq:Bool,(((((x.1 - 1) / 2):Nat):Int)==(x.1:Int))=bq:=⟨_,rfl⟩
 refine zC 10 ((8, .Z (uI ((((x.1 - 1) / 2):Nat):Int)))::(9, .Z (uI (x.1:Int)))::(10, .Z (uB bq))::(11, .Z (uB bq))::(12, .s (SF.imp ((bq)=false) ((UF.eq (qI b)).tS)))::(13, .s (SF.imp ((bq)=false) ((uI (x.1:Int)).tS)))::(14, .s (SF.imp ((bq)=false) ((uI ((((x.1 - 1) / 2):Nat):Int)).tS)))::(15, .s (SF.imp ((bq)=false) ((uB (Wt.lt (x.2.getD (x.1) wz) (x.2.getD ((x.1 - 1) / 2) wz))).tS)))::(16, .s (SF.imp ((bq)=false) ((uB (!(Wt.lt (x.2.getD (x.1) wz) (x.2.getD ((x.1 - 1) / 2) wz)))).tS)))::(17, .u (uB (bq||(!(Wt.lt (x.2.getD (x.1) wz) (x.2.getD ((x.1 - 1) / 2) wz)))))):: []) hmix s kH
  (oc zA<|oc zA<|oc (zP .i64 ((((x.1 - 1) / 2):Nat):Int) (x.1:Int) bq iiz iiz hbq rfl)<|oc zA<|oc (zD 11 bq kH iiz (fun e=>zL [] ((UF.eq (qI b)).tS) fnz (fun _ _ h _=>h) kH zA) (fun e W h=>absurd h e))<|oc (zD 11 bq kH iiz (fun e=>zL [] ((uI (x.1:Int)).tS) fnz (fun _ _ h _=>h) kH zA) (fun e W h=>absurd h e))<|oc (zD 11 bq kH iiz (fun e=>zL [] ((uI ((((x.1 - 1) / 2):Nat):Int)).tS) fnz (fun _ _ h _=>h) kH zA) (fun e W h=>absurd h e))<|oc (zD 11 bq kH iiz (fun e=>zL [(12,(UF.eq (qI b)).tS),(13,(uI (x.1:Int)).tS),(14,(uI ((((x.1 - 1) / 2):Nat):Int)).tS)] ((uB (Wt.lt (x.2.getD (x.1) wz) (x.2.getD ((x.1 - 1) / 2) wz))).tS) (fmz ⟨fun v W h=>zI (c:=(bq)=false) (f:=(UF.eq (qI b)).tS) e h,fmz ⟨fun v W h=>zI (c:=(bq)=false) (f:=(uI (x.1:Int)).tS) e h,fmz ⟨fun v W h=>zI (c:=(bq)=false) (f:=(uI ((((x.1 - 1) / 2):Nat):Int)).tS) e h,fnz⟩⟩⟩) (fun _ _ h _=>h) kH (zD2 (i:=x.1) (j:=((x.1 - 1) / 2)) zF hM hj hp hL hT iiz iiz iiz)) (fun e W h=>absurd h e))<|oc (zD 11 bq kH iiz (fun e=>zL [(15,(uB (Wt.lt (x.2.getD (x.1) wz) (x.2.getD ((x.1 - 1) / 2) wz))).tS)] ((uB (!(Wt.lt (x.2.getD (x.1) wz) (x.2.getD ((x.1 - 1) / 2) wz)))).tS) (fmz ⟨fun v W h=>zI (c:=(bq)=false) (f:=(uB (Wt.lt (x.2.getD (x.1) wz) (x.2.getD ((x.1 - 1) / 2) wz))).tS) e h,fnz⟩) (fun _ _ h _=>h) kH (zAT (Wt.lt (x.2.getD (x.1) wz) (x.2.getD ((x.1 - 1) / 2) wz)) iiz (fun _=>rfl))) (fun e W h=>absurd h e))<|oc (yE bq iiz (fun e v W h=>zAV h e) (fun e v W h=>zAe (zI e h) e))<|zE) fun a w2 s=> ?_
 refine zB rfl ?_
 have hb:=s.below
 replace hM:=hM.below hb
 replace hT:=hT.below hb
 replace hF:=hF.trans hb
 replace s:=s.anewB rfl rfl
 refine StS.cond s (bq||(!(Wt.lt (x.2.getD (x.1) wz) (x.2.getD ((x.1 - 1) / 2) wz)))) iiz (fun e=> ?_) (fun e=> ?_)
 ·refine sT ?_
  exact s.retN0 rfl ⟨_,rfl,trivial,by rw [<-he,zOZ hbq e];exact hM,hF⟩
 ·refine sI ?_
  refine sC ?_
  refine zC 3 ((18, .u (UF.eq (qI b)))::(19, .u (uI ((((x.1 - 1) / 2):Nat):Int)))::(20, .u (uI (x.1:Int))):: []) hmix s kH
   (oc zA<|oc zA<|oc zA<|zE) fun a w3 s=> ?_
  have hb:=s.below
  replace hM:=hM.below hb
  replace hT:=hT.below hb
  replace hF:=hF.trans hb
  refine zFz (i:=((x.1 - 1) / 2)) (j:=x.1) zF s hM hp hj rfl (s.fct (.tmp 18)) (s.fct (.tmp 19)) (s.fct (.tmp 20)) kH rfl rfl (fun q hq=>by cases hq) fun a w hM1 hF1 s=> ?_
  replace hT:=zBO hT hF1 (fun e=>sU _ (by have:=hM.gl;rw [<-e] at this;exact this))
  replace hM:=hM1
  replace hF:=hF.comp hF1
  refine zB rfl ?_
  have hb:=s.below
  replace hM:=hM.below hb
  replace hT:=hT.below hb
  replace hF:=hF.trans hb
  replace s:=s.anewB rfl rfl
  replace s:=s.drop [1]
  refine zC 2 ((22, .Z (uI ((((x.1 - 1) / 2):Nat):Int)))::(1, .u (uI ((((x.1 - 1) / 2):Nat):Int))):: []) hmix s kH
   (oc zA<|oc zG<|zE) fun a w4 s=> ?_
  refine zB rfl ?_
  have hb:=s.below
  replace hM:=hM.below hb
  replace hT:=hT.below hb
  replace hF:=hF.trans hb
  replace s:=s.anewB rfl rfl
  exact ⟨(((x.1 - 1) / 2),zCD wz x.2 ((x.1 - 1) / 2) x.1),(by show ((x.1 - 1) / 2)<x.1;have:=(Bool.or_eq_false_iff.1 e).1;rw [<-hbq] at this;have h6:=beq_eq_false_iff_ne.1 this;omega),(by show ((x.1 - 1) / 2)<_;rw [qG];exact hp),(by show (zCD wz x.2 _ _).length=_;rw [qG];exact hl),(fun y hy=>hL y ((zBl hp hj).mem_iff.1 hy)),(by rw [<-he];exact zSd hbq e),hM,hT,hF,s.keepK _ (fmz ⟨mz7,fmz ⟨.head _,fnz⟩⟩)⟩
end Go.Proofs.Wd

namespace Go.Proofs.Wd
open Tryz
set_option maxRecDepth 100000
set_option maxHeartbeats 1000000
open Go.RowKit Lb
theorem zNM {l:List Wt} {i n:Nat} {b1:Bool} (h:decide (((2*i+1:Nat):Int)≥(n:Int))=b1) (e:(b1||false)=true):zAZ wz Wt.lt i n l=l:=by
 have:b1=true:=by simpa using e
 rw [this] at h
 have:=sQ h
 rw [zAZ,if_neg oO]
theorem zQp {i n:Nat} {b1:Bool} (h:decide (((2*i+1:Nat):Int)≥(n:Int))=b1) (e:(b1||false)=false):2*i+1<n:=by
 have:b1=false:=by simpa using e
 rw [this] at h
 have:=tS h
 omega
theorem zSz {l:List Wt} {i n:Nat} (e:(decide (((2*i+2:Nat):Int)<(n:Int))&&Wt.lt (l.getD (2*i+2) wz) (l.getD (2*i+1) wz))=true):kid wz Wt.lt l i n=2*i+2:=by
 rw [tQ] at e
 have:=sQ e.1
 unfold kid
 rw [if_pos ⟨by omega,e.2⟩]
theorem zSA {l:List Wt} {i n:Nat} (e:(decide (((2*i+2:Nat):Int)<(n:Int))&&Wt.lt (l.getD (2*i+2) wz) (l.getD (2*i+1) wz))=false):kid wz Wt.lt l i n=2*i+1:=by
 unfold kid
 rw [if_neg]
 rintro ⟨h1,h2⟩
 rw [h2,Bool.and_true,decide_eq_false_iff_not] at e
 omega
theorem zHf {l:List Wt} {i n c:Nat} (hc:kid wz Wt.lt l i n=c) (e:(!(Wt.lt (l.getD c wz) (l.getD i wz)))=true):zAZ wz Wt.lt i n l=l:=by
 rw [zAZ,hc]
 split
 ·rw [if_neg (by simpa using e)]
 ·rfl
theorem zLR {l:List Wt} {i n c:Nat} (hin:2*i+1<n) (hc:kid wz Wt.lt l i n=c) (e:(!(Wt.lt (l.getD c wz) (l.getD i wz)))=false):zAZ wz Wt.lt c n (zCD wz l i c)=zAZ wz Wt.lt i n l:=by
 conv=>rhs;rw [zAZ,hc]
 rw [if_pos hin,if_pos (by simpa using e)]
theorem BlS.ext {S:Nat->Prop} {u v w:Wg} {g':Nat} (h:BlS S u v) (k:BlS (fun q=>q=g') v w) (hg:S g'∨u.heap.size<=g'):BlS S u w:=
 ((h.sub (S':=fun q=>S q∨u.heap.size<=q) fun q hq=> .inl hq).comp (k.sub fun q hq=>by rw [hq];exact hg)).shrink fun q hq=>hq
theorem zQe {W:Wg} {b g cap:Nat} {u v v':Wh} {L:List Wt} {i0 n:Nat} (hM:QM W b g cap L) (hu:u=qI b) (hv:v= .int .i64 (i0:Int)) (hv':v'= .int .i64 (n:Int)) (hi0:i0<L.length) (hnl:n<=L.length) (hn:L.length<=100000) (hL: ∀x,x∈L->QB x.c 1) (hT:Tab W):Calls prog 84 #[u,v,v'] W (zMh (fun q=>q=g) W UF.any fun W'=>QM W' b g cap (zAZ wz Wt.lt i0 n L)):=by
 have hF:BlS (fun q=>q=g) W W:=BlS.refl _ _
 refine zBQ [UF.eq (qI b),uI (i0:Int),uI (n:Int)] func84 rfl kH ⟨hu,hv,hv',trivial⟩ fun a s=> ?_
 replace s:St W [(0, .u (UF.eq (qI b))),(1, .u (uI (i0:Int))),(2, .u (uI (n:Int)))] [] f84.ntmps [] a W:=s
 refine sC ?_
 refine zC 1 ((6, .u (uB false)):: []) hmix s kH
  (oc zG<|zE) fun a w1 s=> ?_
 refine zB rfl ?_
 have hb:=s.below
 replace hM:=hM.below hb
 replace hT:=hT.below hb
 replace hF:=hF.trans hb
 replace s:=s.anewB rfl rfl
 refine sC ?_
 refine zC 2 ((11, .Z (uI (i0:Int)))::(7, .u (uI (i0:Int))):: []) hmix s kH
  (oc zA<|oc zG<|zE) fun a w2 s=> ?_
 refine zB rfl ?_
 have hb:=s.below
 replace hM:=hM.below hb
 replace hT:=hT.below hb
 replace hF:=hF.trans hb
 replace s:=s.anewB rfl rfl
 refine sC ?_
 refine sO ?_
 refine yM (fun (x:Nat×List Wt) a w=>x.1<x.2.length/\x.2.length=L.length/\(∀y,y∈x.2->QB y.c 1)/\zAZ wz Wt.lt x.1 n x.2=zAZ wz Wt.lt i0 n L/\QM w b g cap x.2/\Tab w/\BlS (fun q=>q=g) W w/\St w [(0, .u (UF.eq (qI b))),(1, .u (uI (i0:Int))),(2, .u (uI (n:Int))),(7, .u (uI (x.1:Int)))] [] f84.ntmps [] a w) (fun x=>n - x.1) (i0,L) ⟨hi0,rfl,hL,rfl,hM,hT,hF,s.keepK _ (fmz ⟨mz2,fmz ⟨mz3,fmz ⟨mz4,fmz ⟨.head _,fnz⟩⟩⟩⟩)⟩ fun x a w hx=> ?_
 obtain ⟨hj,hl,hL,he,hM,hT,hF,s⟩:=hx
 refine sO ?_
 refine sC ?_
 refine zC 4 ((12, .Z (uI (x.1:Int)))::(13, .Z (uI ((2*x.1:Nat):Int)))::(14, .Z (uI ((2*x.1+1:Nat):Int)))::(8, .u (uI ((2*x.1+1:Nat):Int))):: []) hmix s kH
  (oc zA<|oc (zPR .i64 2 (x.1:Int) ((2*x.1:Nat):Int) iiz iiz (by first|exact zAE _ oO oO|(rw [zAE _ oO oO];omega)))<|oc (qX .i64 ((2*x.1:Nat):Int) 1 ((2*x.1+1:Nat):Int) iiz iiz (by first|exact zAE _ oO oO|(rw [zAE _ oO oO];omega)))<|oc zG<|zE) fun a w3 s=> ?_
 refine zB rfl ?_
 have hb:=s.below
 replace hM:=hM.below hb
 replace hT:=hT.below hb
 replace hF:=hF.trans hb
 replace s:=s.anewB rfl rfl
 refine sC ?_
 refine sC ?_
 obtain ⟨b1,hb1⟩: ∃b1:Bool,decide (((2*x.1+1:Nat):Int)≥(n:Int))=b1:=⟨_,rfl⟩
 refine zC 7 ((15, .Z (uI ((2*x.1+1:Nat):Int)))::(16, .Z (uI (n:Int)))::(17, .Z (uB b1))::(18, .Z (uB b1))::(19, .s (SF.imp ((b1)=false) ((uI ((2*x.1+1:Nat):Int)).tS)))::(20, .s (SF.imp ((b1)=false) ((uB false).tS)))::(21, .u (uB (b1||false))):: []) hmix s kH
  (oc zA<|oc zA<|oc (zP .i64 ((2*x.1+1:Nat):Int) (n:Int) b1 iiz iiz hb1 rfl)<|oc zA<|oc (zD 18 b1 kH iiz (fun e=>zL [] ((uI ((2*x.1+1:Nat):Int)).tS) fnz (fun _ _ h _=>h) kH zA) (fun e W h=>absurd h e))<|oc (zD 18 b1 kH iiz (fun e=>zL [(19,(uI ((2*x.1+1:Nat):Int)).tS)] ((uB false).tS) (fmz ⟨fun v W h=>zI (c:=(b1)=false) (f:=(uI ((2*x.1+1:Nat):Int)).tS) e h,fnz⟩) (fun _ _ h _=>h) kH (zP .i64 ((2*x.1+1:Nat):Int) 0 false iiz iiz (sX oO) rfl)) (fun e W h=>absurd h e))<|oc (yE b1 iiz (fun e v W h=>zAV h e) (fun e v W h=>zAe (zI e h) e))<|zE) fun a w4 s=> ?_
 refine zB rfl ?_
 have hb:=s.below
 replace hM:=hM.below hb
 replace hT:=hT.below hb
 replace hF:=hF.trans hb
 replace s:=s.anewB rfl rfl
 refine StS.cond s (b1||false) iiz (fun e=> ?_) (fun e=> ?_)
 ·refine sT ?_
  refine sC ?_
  refine zC 4 ((45, .Z (uI (x.1:Int)))::(46, .Z (uI (i0:Int)))::(47, .Z (uB (decide ((x.1:Int)>(i0:Int)))))::(6, .u (uB (decide ((x.1:Int)>(i0:Int))))):: []) hmix s kH
   (oc zA<|oc zA<|oc (zP .i64 (x.1:Int) (i0:Int) (decide ((x.1:Int)>(i0:Int))) iiz iiz rfl rfl)<|oc zG<|zE) fun a w5 s=> ?_
  refine zB rfl ?_
  have hb:=s.below
  replace hM:=hM.below hb
  replace hT:=hT.below hb
  replace hF:=hF.trans hb
  replace s:=s.anewB rfl rfl
  refine sE ?_
  exact s.retT1 rfl (.head _) fun v hv=>⟨v,rfl,trivial,by rw [<-he,zNM hb1 e];exact hM,hF⟩
 ·have hin:=zQp hb1 e
  refine sI ?_
  refine sC ?_
  refine zC 2 ((22, .Z (uI ((2*x.1+1:Nat):Int)))::(9, .u (uI ((2*x.1+1:Nat):Int))):: []) hmix s kH
   (oc zA<|oc zG<|zE) fun a w6 s=> ?_
  refine zB rfl ?_
  have hb:=s.below
  replace hM:=hM.below hb
  replace hT:=hT.below hb
  replace hF:=hF.trans hb
  replace s:=s.anewB rfl rfl
  refine sC ?_
  refine sC ?_
  refine zC 3 ((23, .Z (uI ((2*x.1+1:Nat):Int)))::(24, .Z (uI ((2*x.1+2:Nat):Int)))::(10, .u (uI ((2*x.1+2:Nat):Int))):: []) hmix s kH
   (oc zA<|oc (qX .i64 ((2*x.1+1:Nat):Int) 1 ((2*x.1+2:Nat):Int) iiz iiz (by first|exact zAE _ oO oO|(rw [zAE _ oO oO];omega)))<|oc zG<|zE) fun a w7 s=> ?_
  refine zB rfl ?_
  have hb:=s.below
  replace hM:=hM.below hb
  replace hT:=hT.below hb
  replace hF:=hF.trans hb
  replace s:=s.anewB rfl rfl
  refine sC ?_
  refine zC 9 ((25, .Z (uI ((2*x.1+2:Nat):Int)))::(26, .Z (uI (n:Int)))::(27, .Z (uB (decide (((2*x.1+2:Nat):Int)<(n:Int)))))::(28, .Z (uB (decide (((2*x.1+2:Nat):Int)<(n:Int)))))::(29, .s (SF.imp ((decide (((2*x.1+2:Nat):Int)<(n:Int)))=true) ((UF.eq (qI b)).tS)))::(30, .s (SF.imp ((decide (((2*x.1+2:Nat):Int)<(n:Int)))=true) ((uI ((2*x.1+2:Nat):Int)).tS)))::(31, .s (SF.imp ((decide (((2*x.1+2:Nat):Int)<(n:Int)))=true) ((uI ((2*x.1+1:Nat):Int)).tS)))::(32, .s (SF.imp ((decide (((2*x.1+2:Nat):Int)<(n:Int)))=true) ((uB (Wt.lt (x.2.getD (2*x.1+2) wz) (x.2.getD (2*x.1+1) wz))).tS)))::(33, .u (uB ((decide (((2*x.1+2:Nat):Int)<(n:Int)))&&(Wt.lt (x.2.getD (2*x.1+2) wz) (x.2.getD (2*x.1+1) wz))))):: []) hmix s kH
   (oc zA<|oc zA<|oc (zP .i64 ((2*x.1+2:Nat):Int) (n:Int) (decide (((2*x.1+2:Nat):Int)<(n:Int))) iiz iiz rfl rfl)<|oc zA<|oc (zD 28 (decide (((2*x.1+2:Nat):Int)<(n:Int))) kH iiz (fun e=>zL [] ((UF.eq (qI b)).tS) fnz (fun _ _ h _=>h) kH zA) (fun e W h=>absurd h e))<|oc (zD 28 (decide (((2*x.1+2:Nat):Int)<(n:Int))) kH iiz (fun e=>zL [] ((uI ((2*x.1+2:Nat):Int)).tS) fnz (fun _ _ h _=>h) kH zA) (fun e W h=>absurd h e))<|oc (zD 28 (decide (((2*x.1+2:Nat):Int)<(n:Int))) kH iiz (fun e=>zL [] ((uI ((2*x.1+1:Nat):Int)).tS) fnz (fun _ _ h _=>h) kH zA) (fun e W h=>absurd h e))<|oc (zD 28 (decide (((2*x.1+2:Nat):Int)<(n:Int))) kH iiz (fun e=>zL [(29,(UF.eq (qI b)).tS),(30,(uI ((2*x.1+2:Nat):Int)).tS),(31,(uI ((2*x.1+1:Nat):Int)).tS)] ((uB (Wt.lt (x.2.getD (2*x.1+2) wz) (x.2.getD (2*x.1+1) wz))).tS) (fmz ⟨fun v W h=>zI (c:=(decide (((2*x.1+2:Nat):Int)<(n:Int)))=true) (f:=(UF.eq (qI b)).tS) e h,fmz ⟨fun v W h=>zI (c:=(decide (((2*x.1+2:Nat):Int)<(n:Int)))=true) (f:=(uI ((2*x.1+2:Nat):Int)).tS) e h,fmz ⟨fun v W h=>zI (c:=(decide (((2*x.1+2:Nat):Int)<(n:Int)))=true) (f:=(uI ((2*x.1+1:Nat):Int)).tS) e h,fnz⟩⟩⟩) (fun _ _ h _=>h) kH (zD2 (i:=2*x.1+2) (j:=2*x.1+1) zF hM (by have:=sQ e;omega) oO hL hT iiz iiz iiz)) (fun e W h=>absurd h e))<|oc (yE (decide (((2*x.1+2:Nat):Int)<(n:Int))) iiz (fun e v W h=>zCs (zI e h) e) (fun e v W h=>zBK h e))<|zE) fun a w8 s=> ?_
  refine zB rfl ?_
  have hb:=s.below
  replace hM:=hM.below hb
  replace hT:=hT.below hb
  replace hF:=hF.trans hb
  replace s:=s.anewB rfl rfl
  refine StS.cond s ((decide (((2*x.1+2:Nat):Int)<(n:Int)))&&(Wt.lt (x.2.getD (2*x.1+2) wz) (x.2.getD (2*x.1+1) wz))) iiz (fun e=> ?_) (fun e=> ?_)
  ·have hkc:=zSz e
   have hc2:2*x.1+2<n:=by rw [tQ] at e;have:=sQ e.1;omega
   replace s:=s.drop [9]
   refine zC 2 ((34, .Z (uI ((2*x.1+2:Nat):Int)))::(9, .u (uI ((2*x.1+2:Nat):Int))):: []) hmix s kH
    (oc zA<|oc zG<|zE) fun a w9 s=> ?_
   refine zB rfl ?_
   have hb:=s.below
   replace hM:=hM.below hb
   replace hT:=hT.below hb
   replace hF:=hF.trans hb
   replace s:=s.anewB rfl rfl
   refine sC ?_
   refine sC ?_
   refine zC 5 ((35, .Z (UF.eq (qI b)))::(36, .Z (uI ((2*x.1+2:Nat):Int)))::(37, .Z (uI (x.1:Int)))::(38, .Z (uB (Wt.lt (x.2.getD (2*x.1+2) wz) (x.2.getD (x.1) wz))))::(39, .u (uB (!(Wt.lt (x.2.getD (2*x.1+2) wz) (x.2.getD (x.1) wz))))):: []) hmix s kH
    (oc zA<|oc zA<|oc zA<|oc (zD2 (i:=2*x.1+2) (j:=x.1) zF hM oO oO hL hT iiz iiz iiz)<|oc (zAT (Wt.lt (x.2.getD (2*x.1+2) wz) (x.2.getD (x.1) wz)) iiz (fun _=>rfl))<|zE) fun a w10 s=> ?_
   refine zB rfl ?_
   have hb:=s.below
   replace hM:=hM.below hb
   replace hT:=hT.below hb
   replace hF:=hF.trans hb
   replace s:=s.anewB rfl rfl
   refine StS.cond s (!(Wt.lt (x.2.getD (2*x.1+2) wz) (x.2.getD (x.1) wz))) iiz (fun e=> ?_) (fun e=> ?_)
   ·have e39:=e
    refine sT ?_
    refine sC ?_
    refine zC 4 ((45, .Z (uI (x.1:Int)))::(46, .Z (uI (i0:Int)))::(47, .Z (uB (decide ((x.1:Int)>(i0:Int)))))::(6, .u (uB (decide ((x.1:Int)>(i0:Int))))):: []) hmix s kH
     (oc zA<|oc zA<|oc (zP .i64 (x.1:Int) (i0:Int) (decide ((x.1:Int)>(i0:Int))) iiz iiz rfl rfl)<|oc zG<|zE) fun a w11 s=> ?_
    refine zB rfl ?_
    have hb:=s.below
    replace hM:=hM.below hb
    replace hT:=hT.below hb
    replace hF:=hF.trans hb
    replace s:=s.anewB rfl rfl
    refine sE ?_
    exact s.retT1 rfl (.head _) fun v hv=>⟨v,rfl,trivial,by rw [<-he,zHf hkc e39];exact hM,hF⟩
   ·have e39:=e
    refine sI ?_
    refine sC ?_
    refine zC 3 ((40, .u (UF.eq (qI b)))::(41, .u (uI (x.1:Int)))::(42, .u (uI ((2*x.1+2:Nat):Int))):: []) hmix s kH
     (oc zA<|oc zA<|oc zA<|zE) fun a w12 s=> ?_
    have hb:=s.below
    replace hM:=hM.below hb
    replace hT:=hT.below hb
    replace hF:=hF.trans hb
    refine zFz (i:=x.1) (j:=2*x.1+2) zF s hM oO oO rfl (s.fct (.tmp 40)) (s.fct (.tmp 41)) (s.fct (.tmp 42)) kH rfl rfl (fun q hq=>by cases hq) fun a w hM1 hF1 s=> ?_
    replace hT:=zBO hT hF1 (fun e=>sU _ (by have:=hM.gl;rw [<-e] at this;exact this))
    replace hM:=hM1
    replace hF:=hF.comp hF1
    refine zB rfl ?_
    have hb:=s.below
    replace hM:=hM.below hb
    replace hT:=hT.below hb
    replace hF:=hF.trans hb
    replace s:=s.anewB rfl rfl
    replace s:=s.drop [7]
    refine zC 2 ((44, .Z (uI ((2*x.1+2:Nat):Int)))::(7, .u (uI ((2*x.1+2:Nat):Int))):: []) hmix s kH
     (oc zA<|oc zG<|zE) fun a w13 s=> ?_
    refine zB rfl ?_
    have hb:=s.below
    replace hM:=hM.below hb
    replace hT:=hT.below hb
    replace hF:=hF.trans hb
    replace s:=s.anewB rfl rfl
    exact ⟨(2*x.1+2,zCD wz x.2 x.1 (2*x.1+2)),(by show n - (2*x.1+2)<n - x.1;omega),(by show 2*x.1+2<_;rw [qG];omega),(by show (zCD wz x.2 _ _).length=_;rw [qG];exact hl),(fun y hy=>hL y ((zBl oO oO).mem_iff.1 hy)),(by rw [<-he];exact zLR hin hkc e39),hM,hT,hF,s.keepK _ (fmz ⟨zF2,fmz ⟨zG1,fmz ⟨zK4,fmz ⟨.head _,fnz⟩⟩⟩⟩)⟩
  ·have hkc:=zSA e
   have hc2:2*x.1+1<n:=hin
   refine sI ?_
   refine sC ?_
   refine sC ?_
   refine zC 5 ((35, .Z (UF.eq (qI b)))::(36, .Z (uI ((2*x.1+1:Nat):Int)))::(37, .Z (uI (x.1:Int)))::(38, .Z (uB (Wt.lt (x.2.getD (2*x.1+1) wz) (x.2.getD (x.1) wz))))::(39, .u (uB (!(Wt.lt (x.2.getD (2*x.1+1) wz) (x.2.getD (x.1) wz))))):: []) hmix s kH
    (oc zA<|oc zA<|oc zA<|oc (zD2 (i:=2*x.1+1) (j:=x.1) zF hM oO oO hL hT iiz iiz iiz)<|oc (zAT (Wt.lt (x.2.getD (2*x.1+1) wz) (x.2.getD (x.1) wz)) iiz (fun _=>rfl))<|zE) fun a w14 s=> ?_
   refine zB rfl ?_
   have hb:=s.below
   replace hM:=hM.below hb
   replace hT:=hT.below hb
   replace hF:=hF.trans hb
   replace s:=s.anewB rfl rfl
   refine StS.cond s (!(Wt.lt (x.2.getD (2*x.1+1) wz) (x.2.getD (x.1) wz))) iiz (fun e=> ?_) (fun e=> ?_)
   ·have e39:=e
    refine sT ?_
    refine sC ?_
    refine zC 4 ((45, .Z (uI (x.1:Int)))::(46, .Z (uI (i0:Int)))::(47, .Z (uB (decide ((x.1:Int)>(i0:Int)))))::(6, .u (uB (decide ((x.1:Int)>(i0:Int))))):: []) hmix s kH
     (oc zA<|oc zA<|oc (zP .i64 (x.1:Int) (i0:Int) (decide ((x.1:Int)>(i0:Int))) iiz iiz rfl rfl)<|oc zG<|zE) fun a w15 s=> ?_
    refine zB rfl ?_
    have hb:=s.below
    replace hM:=hM.below hb
    replace hT:=hT.below hb
    replace hF:=hF.trans hb
    replace s:=s.anewB rfl rfl
    refine sE ?_
    exact s.retT1 rfl (.head _) fun v hv=>⟨v,rfl,trivial,by rw [<-he,zHf hkc e39];exact hM,hF⟩
   ·have e39:=e
    refine sI ?_
    refine sC ?_
    refine zC 3 ((40, .u (UF.eq (qI b)))::(41, .u (uI (x.1:Int)))::(42, .u (uI ((2*x.1+1:Nat):Int))):: []) hmix s kH
     (oc zA<|oc zA<|oc zA<|zE) fun a w16 s=> ?_
    have hb:=s.below
    replace hM:=hM.below hb
    replace hT:=hT.below hb
    replace hF:=hF.trans hb
    refine zFz (i:=x.1) (j:=2*x.1+1) zF s hM oO oO rfl (s.fct (.tmp 40)) (s.fct (.tmp 41)) (s.fct (.tmp 42)) kH rfl rfl (fun q hq=>by cases hq) fun a w hM1 hF1 s=> ?_
    replace hT:=zBO hT hF1 (fun e=>sU _ (by have:=hM.gl;rw [<-e] at this;exact this))
    replace hM:=hM1
    replace hF:=hF.comp hF1
    refine zB rfl ?_
    have hb:=s.below
    replace hM:=hM.below hb
    replace hT:=hT.below hb
    replace hF:=hF.trans hb
    replace s:=s.anewB rfl rfl
    replace s:=s.drop [7]
    refine zC 2 ((44, .Z (uI ((2*x.1+1:Nat):Int)))::(7, .u (uI ((2*x.1+1:Nat):Int))):: []) hmix s kH
     (oc zA<|oc zG<|zE) fun a w17 s=> ?_
    refine zB rfl ?_
    have hb:=s.below
    replace hM:=hM.below hb
    replace hT:=hT.below hb
    replace hF:=hF.trans hb
    replace s:=s.anewB rfl rfl
    exact ⟨(2*x.1+1,zCD wz x.2 x.1 (2*x.1+1)),(by show n - (2*x.1+1)<n - x.1;omega),(by show 2*x.1+1<_;rw [qG];omega),(by show (zCD wz x.2 _ _).length=_;rw [qG];exact hl),(fun y hy=>hL y ((zBl oO oO).mem_iff.1 hy)),(by rw [<-he];exact zLR hin hkc e39),hM,hT,hF,s.keepK _ (fmz ⟨zF2,fmz ⟨zG1,fmz ⟨zK4,fmz ⟨.head _,fnz⟩⟩⟩⟩)⟩
theorem zQc {W:Wg} {b g cap:Nat} {u v:Wh} {L:List Wt} {x:Wt} (hM:QM W b g cap L) (hu:u=qI b) (hv:(fIW x).p v W) (hn:L.length<=90000) (hL: ∀x,x∈L->QB x.c 1) (hqx:QB x.c 1) (hT:Tab W):Calls prog 68 #[u,v] W (zMh (fun q=>q=b∨q=g) W UF.any fun W'=> ∃g' cap',(g'=g∨W.heap.size<=g')/\QM W' b g' cap' (zDP wz Wt.lt L x)):=by
 have hF:BlS (fun q=>q=b∨q=g) W W:=BlS.refl _ _
 refine zBQ [UF.eq (qI b),fIW x] func68 rfl kH ⟨hu,hv,trivial⟩ fun a s=> ?_
 replace s:St W [(0, .u (UF.eq (qI b))),(1, .u (fIW x))] [] f68.ntmps [] a W:=s
 refine sC ?_
 refine zC 2 ((4, .u (UF.eq (qI b)))::(5, .u (fIW x)):: []) hmix s kH
  (oc zA<|oc zA<|zE) fun a w1 s=> ?_
 have hszW:W.heap.size<=_:=(hF.trans s.below).size
 have hb:=s.below
 replace hM:=hM.below hb
 replace hT:=hT.below hb
 replace hF:=hF.trans hb
 refine zJ3 (T:=fun q=>q=b∨q=g) (args:=#[a.eval (.tmp 5)]) zF (enters_of func157 kH rfl) s rfl (s.fct (.tmp 4)) (zGE zRi _ _) kH rfl rfl (fun q hq=>by rcases hq with rfl|rfl;(exact hM.bpl);(exact hM.rw.plain)) (fun q hq=>by cases hq) (by rw [sP];simp) (zPK hM (s.fct (.tmp 5)) oO) fun a w hR hF1 hk1 s=> ?_
 replace hT:=zBO hT hF1 (fun e=>by rcases e with e|e;(have:=hM.bl;rw [<-e] at this;exact sU _ this);(have:=hM.gl;rw [<-e] at this;exact sU _ this))
 replace hF:=hF.comp hF1
 obtain ⟨g',cap',hg,hM⟩:=hR
 replace hg:g'=g∨W.heap.size<=g':=hg.imp_right fun h=>sD hszW h
 refine zB rfl ?_
 have hb:=s.below
 replace hM:=hM.below hb
 replace hT:=hT.below hb
 replace hF:=hF.trans hb
 replace s:=s.anewB rfl rfl
 have hL': ∀y,y∈L++ [x]->QB y.c 1:=fun y hy=>by rcases List.mem_append.1 hy with h|h;(exact hL y h);(obtain rfl:=sY.1 h;exact hqx)
 refine zC 4 ((7, .u (UF.eq (qI b)))::(8, .Z (UF.eq (qI b)))::(9, .Z (uI ((L++ [x]).length:Int)))::(10, .u (uI (L.length:Int))):: []) hmix s kH
  (oc zA<|oc zA<|oc (zK0 zF hM iiz)<|oc (zA9 .i64 ((L++ [x]).length:Int) 1 (L.length:Int) iiz iiz (by rw [zTX,List.length_singleton,zAE _ oO oO];omega))<|zE) fun a w2 s=> ?_
 have hb:=s.below
 replace hM:=hM.below hb
 replace hT:=hT.below hb
 replace hF:=hF.trans hb
 refine zEh (T:=fun q=>q=g') (args:=#[qI b, .int .i64 (L.length:Int)]) zF (enters_of func85 kH rfl) s rfl kH rfl rfl (fun q hq=>by rw [hq];exact hM.rw.plain) (fun q hq=>by cases hq) (by rw [sP];simp [show a.eval (.tmp 7)=qI b from s.fct (.tmp 7),show a.eval (.tmp 10)= .int .i64 (L.length:Int) from s.fct (.tmp 10)]) (zSD hM rfl rfl (by simp) (by simp;omega) hL' hT) fun a w hM1 hF1 hk1 s=> ?_
 replace hM:=hM1
 replace hF:=hF.ext hF1 (hg.imp_left .inr)
 refine zB rfl ?_
 have hb:=s.below
 replace hM:=hM.below hb
 replace hF:=hF.trans hb
 replace s:=s.anewB rfl rfl
 exact s.retN0 rfl ⟨_,rfl,trivial,⟨g',cap',hg,hM⟩,hF⟩
theorem zRq {W:Wg} {b g cap:Nat} {u:Wh} {L:List Wt} (hM:QM W b g cap L) (hu:u=qI b) (h0:0<L.length) (hn:L.length<=100000) (hL: ∀x,x∈L->QB x.c 1) (hT:Tab W):Calls prog 67 #[u] W (zMh (fun q=>q=b∨q=g) W (fIW (L.getD 0 wz)) fun W'=>QM W' b g cap (zDQ wz Wt.lt L)):=by
 have hF:BlS (fun q=>q=b∨q=g) W W:=BlS.refl _ _
 refine zBQ [UF.eq (qI b)] func67 rfl kH ⟨hu,trivial⟩ fun a s=> ?_
 replace s:St W [(0, .u (UF.eq (qI b)))] [] f67.ntmps [] a W:=s
 refine sC ?_
 refine zC 1 [] hmix s kH
  (oc (zG (fun _ _ _ _=>trivial))<|zE) fun a w1 s=> ?_
 refine zB rfl ?_
 have hb:=s.below
 replace hM:=hM.below hb
 replace hT:=hT.below hb
 replace hF:=hF.trans hb
 replace s:=s.anewB rfl rfl
 refine sC ?_
 refine zC 4 ((4, .Z (UF.eq (qI b)))::(5, .Z (uI (L.length:Int)))::(6, .Z (uI ((L.length - 1:Nat):Int)))::(3, .u (uI ((L.length - 1:Nat):Int))):: []) hmix s kH
  (oc zA<|oc (zK0 zF hM iiz)<|oc (zA9 .i64 (L.length:Int) 1 ((L.length - 1:Nat):Int) iiz iiz (wrap64 _ _ oO oO))<|oc zG<|zE) fun a w2 s=> ?_
 refine zB rfl ?_
 have hb:=s.below
 replace hM:=hM.below hb
 replace hT:=hT.below hb
 replace hF:=hF.trans hb
 replace s:=s.anewB rfl rfl
 refine sC ?_
 refine zC 2 ((7, .u (UF.eq (qI b)))::(8, .u (uI ((L.length - 1:Nat):Int))):: []) hmix s kH
  (oc zA<|oc zA<|zE) fun a w3 s=> ?_
 have hb:=s.below
 replace hM:=hM.below hb
 replace hT:=hT.below hb
 replace hF:=hF.trans hb
 refine zFz (i:=0) (j:=L.length - 1) zF s hM h0 oO rfl (s.fct (.tmp 7)) rfl (s.fct (.tmp 8)) kH rfl rfl (fun q hq=>by cases hq) fun a w hM1 hF1 s=> ?_
 replace hT:=zBO hT hF1 (fun e=>sU _ (by have:=hM.gl;rw [<-e] at this;exact this))
 replace hM:=hM1
 replace hF:=hF.comp (hF1.sub fun q hq=> .inr hq)
 replace hL: ∀y,y∈zCD wz L 0 (L.length - 1)->QB y.c 1:=fun y hy=>hL y ((zBl h0 oO).mem_iff.1 hy)
 have hl1:(zCD wz L 0 (L.length - 1)).length=L.length:=qG _ _ _
 refine zB rfl ?_
 have hb:=s.below
 replace hM:=hM.below hb
 replace hT:=hT.below hb
 replace hF:=hF.trans hb
 replace s:=s.anewB rfl rfl
 refine sC ?_
 refine zC 2 ((10, .u (UF.eq (qI b)))::(11, .u (uI ((L.length - 1:Nat):Int))):: []) hmix s kH
  (oc zA<|oc zA<|zE) fun a w4 s=> ?_
 have hb:=s.below
 replace hM:=hM.below hb
 replace hT:=hT.below hb
 replace hF:=hF.trans hb
 refine zEh (T:=fun q=>q=g) (args:=#[qI b, .int .i64 ((0:Nat):Int), .int .i64 ((L.length - 1:Nat):Int)]) zF (enters_of func84 kH rfl) s rfl kH rfl rfl (fun q hq=>by rw [hq];exact hM.rw.plain) (fun q hq=>by cases hq) (by rw [sP];simp [show a.eval (.tmp 10)=qI b from s.fct (.tmp 10),show a.eval (.tmp 11)= .int .i64 ((L.length - 1:Nat):Int) from s.fct (.tmp 11)];rfl) (zQe hM rfl rfl rfl oO oO oO hL hT) fun a w hM1 hF1 hk1 s=> ?_
 replace hT:=zBO hT hF1 (fun e=>sU _ (by have:=hM.gl;rw [<-e] at this;exact this))
 replace hM:=hM1
 replace hF:=hF.comp (hF1.sub fun q hq=> .inr hq)
 have hl2:(zAZ wz Wt.lt 0 (L.length - 1) (zCD wz L 0 (L.length - 1))).length=L.length:=by rw [zGh];exact hl1
 refine zB rfl ?_
 have hb:=s.below
 replace hM:=hM.below hb
 replace hT:=hT.below hb
 replace hF:=hF.trans hb
 replace s:=s.anewB rfl rfl
 refine sC ?_
 refine zC 1 ((13, .u (UF.eq (qI b))):: []) hmix s kH
  (oc zA<|zE) fun a w5 s=> ?_
 have hb:=s.below
 replace hM:=hM.below hb
 replace hT:=hT.below hb
 replace hF:=hF.trans hb
 refine zJ3 (T:=fun q=>q=b) (args:=#[]) zF (enters_of func156 kH rfl) s rfl (s.fct (.tmp 13)) (zGE zSw _ _) kH rfl rfl (fun q hq=>by rw [hq];exact hM.bpl) (fun q hq=>by cases hq) (by rw [sP];simp) (zQ7 hM oO oO) fun a w hM1 hF1 hk1 s=> ?_
 replace hM:=hM1
 rw [hl2] at hM s
 rw [zIF h0] at s
 replace hF:=hF.comp (hF1.sub fun q hq=> .inl hq)
 clear hT
 refine qN (fIW (L.getD 0 wz)) rfl s kH iiz fun a w s=> ?_
 refine zB rfl ?_
 have hb:=s.below
 replace hM:=hM.below hb
 replace hF:=hF.trans hb
 replace s:=s.anewB rfl rfl
 refine sE ?_
 exact s.retT1 rfl (.head _) fun v hv=>⟨v,rfl,hv,hM,hF⟩
theorem jF {v:Wh} (cs:List Wh) (W:Wg) (h:(wB [v]).p cs W): ∃u,cs[0]?=some u/\u=v:=by
 obtain rfl:cs= [v]:=h
 exact ⟨_,rfl,rfl⟩
theorem zAX {v u:Wh} {W:Wg} (h:u=v) (h1:v.cells=#[v]) (h2:v.oneCell'=true) (h3:yA v=true):u.cells.size=1/\(∀x,x∈u.cells.toList->x.oneCell'=true)/\u.cells.toList.all yA=true/\(wB [v]).p u.cells.toList W:=by
 subst h
 rw [h1]
 exact ⟨rfl,fun x hx=>by obtain rfl:=sY.1 hx;exact h2,by simp [h3],rfl⟩
theorem zLu {v:Wh} (h2:v.oneCell'=true) (h3:yA v=true):CU.ok 1 (wB [v]):=fun cs W h=>by
 obtain rfl:cs= [v]:=h
 exact ⟨rfl,by simp [h3],fun u hu=>by obtain rfl:=sY.1 hu;exact h2⟩
abbrev bls (l:List Bool):List CU:=l.map fun b=>wB [.bool b]
abbrev ins (l:List Int):List CU:=l.map fun z=>wB [.int .i64 z]
abbrev sls (l:List Wh):List CU:=l.map fun v=>wB [v]
theorem zLZ {l:List Bool} {i:Nat} (h:i<l.length):(bls l)[i]?=some (wB [.bool (l.getD i false)]):=by simp [bls,h]
theorem zAY {l:List Int} {i:Nat} (h:i<l.length):(ins l)[i]?=some (wB [.int .i64 (l.getD i 0)]):=by simp [ins,h]
theorem zEm {l:List Wh} {i:Nat} (h:i<l.length):(sls l)[i]?=some (wB [l.getD i (.slice none 0 0)]):=by simp [sls,h]
theorem zQu (l:List Bool) (i:Nat) (b:Bool):(bls l).set i (wB [.bool b])=bls (l.set i b):=by unfold bls;rw [tM]
theorem zDx (l:List Int) (i:Nat) (b:Int):(ins l).set i (wB [.int .i64 b])=ins (l.set i b):=by unfold ins;rw [tM]
theorem zJ8 (l:List Wh) (i:Nat) (b:Wh):(sls l).set i (wB [b])=sls (l.set i b):=by unfold sls;rw [tM]
/-! ### A graph: a row of rows of roads -/
def zE5 (gg:Nat) (vs:List Wh) (q:Nat):Prop:=q=gg∨ ∃i,i<vs.length/\(vs.getD i (.slice none 0 0)).ownBlock=some q
structure GM (w:World) (gg cap:Nat) (vs:List Value) (G:List (List (Nat×Rat))):Prop where
 ln:vs.length=G.length
 rw:jG w gg 65 1 cap (sls vs)
 gl:0<gg
 rows: ∀i,i<G.length->y9 w (0+1) 67 4 (vs.getD i (.slice none 0 0)) (ros (G.getD i []))
theorem qO {w:Wg} {base z:Nat} {e:Wi} {v:Wh} {Cs:List CU} (h:y9 w base e z v Cs) {g:Nat} (hg:v.ownBlock=some g):base<=g/\ ∃cur:Array Wh,w.heap[g]?=some (.cells cur e (0,0))/\cur.toList.all yA=true:=by
 rcases h with ⟨rfl,_⟩|⟨g',cap,cur,rfl,hb,h1,_,_,_,h2,_⟩
 ·simp [Value.ownBlock] at hg
 ·simp [Value.ownBlock] at hg
  subst hg
  exact ⟨hb,cur,h1,h2⟩
theorem GM.ty {w:Wg} {gg cap:Nat} {vs:List Wh} {G:List (List (Nat×Rat))} (h:GM w gg cap vs G) {q:Nat} (hq:zE5 gg vs q):0<q/\ ∃(cs:Array Wh) (t:Wi),w.heap[q]?=some (.cells cs t (0,0))/\cs.toList.all yA=true/\(t=65∨t=67):=by
 rcases hq with rfl|⟨i,hi,hq⟩
 ·obtain ⟨cur,h1,_,_,_,h2,_⟩:=h.rw
  exact ⟨h.gl,cur,_,h1,h2, .inl rfl⟩
 ·obtain ⟨h0,cur,h1,h2⟩:=qO (h.rows i (by rw [<-h.ln];exact hi)) hq
  exact ⟨h0,cur,_,h1,h2, .inr rfl⟩
theorem GM.lt {w:Wg} {gg cap:Nat} {vs:List Wh} {G:List (List (Nat×Rat))} (h:GM w gg cap vs G) {q:Nat} (hq:zE5 gg vs q):q<w.heap.size:=by
 obtain ⟨_,cs,t,h1,_⟩:=h.ty hq
 exact (sF.1 h1).1
theorem GM.keep {w w':Wg} {gg cap:Nat} {vs:List Wh} {G:List (List (Nat×Rat))} (h:GM w gg cap vs G) (hb: ∀q,zE5 gg vs q->w'.heap[q]?=w.heap[q]?) (hk:yL w w'):GM w' gg cap vs G:=
 ⟨h.ln,h.rw.keep (hb gg (.inl rfl)) hk,h.gl,fun i hi=>(h.rows i hi).keep (fun k hk=>hb k (.inr ⟨i,by rw [h.ln];exact hi,hk⟩)) hk⟩
theorem GM.below {w w':Wg} {gg cap:Nat} {vs:List Wh} {G:List (List (Nat×Rat))} (h:GM w gg cap vs G) (hb:Below w.heap.size w w'):GM w' gg cap vs G:=h.keep (fun q hq=>hb.block q (h.lt hq)) (zK hb)
theorem GM.row {w:Wg} {gg cap:Nat} {vs:List Wh} {G:List (List (Nat×Rat))} (h:GM w gg cap vs G) {n:Nat} (hn:n=G.length):(SF.row 1 (sls vs)).p (.slice (some ⟨gg,0,none⟩) n cap) w:=h.rw.row (by rw [hn, <-h.ln];simp)
theorem GM.at {w:Wg} {gg cap:Nat} {vs:List Wh} {G:List (List (Nat×Rat))} (h:GM w gg cap vs G) {i:Nat} (hi:i<G.length):(SF.row 4 (ros (G.getD i []))).p (vs.getD i (.slice none 0 0)) w:=(h.rows i hi).row
theorem GM.no {w:Wg} {gg cap:Nat} {vs:List Wh} {G:List (List (Nat×Rat))} (h:GM w gg cap vs G) {q:Nat} (hq:zE5 gg vs q) {b:Nat} {cs:Array Wh} {t:Wi} {z:Nat×Nat} (hb:w.heap[b]?=some (.cells cs t z)) (h1:t≠65) (h2:t≠67):q≠b:=by
 obtain ⟨_,cs',t',h3,_,h4⟩:=h.ty hq
 refine z9 h3 hb fun e=> ?_
 rcases h4 with rfl|rfl
 ·exact h1 e.symm
 ·exact h2 e.symm
abbrev qE (G:List (List (Nat×Rat))):Adj:=fun n=>G.getD n []
/-! ### Worlds in which blocks have turned -/
theorem zF7 {T:Nat->Prop} {w w':Wg} {N:Nat} (hb:BlS T w w') (hT: ∀q,T q->N<=q/\zHn w q) (hN:N<=w.heap.size):Itr N w w':=
 ⟨hb.os,hb.tape,hb.output,hb.size,fun k hk=>hb.block k (sJ hk hN) fun h=>by have:=(hT k h).1;omega,
  fun k o ho hc=>(hb.block k (sF.1 ho).1 fun h=>by
   obtain ⟨_,cs,t,z,h1,_⟩:=hT k h
   rw [h1] at ho
   cases ho
   cases hc).trans ho,zCh hb fun q hq=>(hT q hq).2⟩
theorem yG {w w':Wg} {N:Nat} (hb:Below w.heap.size w w') (hN:N<=w.heap.size):Itr N w w':=zF7 (T:=fun _=>False) (jZ hb) (fun _ h=>h.elim) hN
theorem jG.rnd {N:Nat} {C:Nat->Prop} {w w':Wg} {g:Nat} {e:Wi} {z cap:Nat} {Cs:List CU} (h:jG w g e z cap Cs) (hr:Rnd N C w w') (hC: ¬C g):jG w' g e z cap Cs:=
 h.keep (by obtain ⟨cur,h1⟩:=h.at;rw [h1];exact hr.cells _ _ h1 rfl hC) hr.keep
theorem QM.keep {w w':Wg} {b g cap:Nat} {L:List Wt} (h:QM w b g cap L) (h1:w'.heap[b]?=w.heap[b]?) (h2:w'.heap[g]?=w.heap[g]?) (hk:yL w w'):QM w' b g cap L:=⟨h1.trans h.bx,h.rw.keep h2 hk,h.bl,h.gl⟩
theorem QM.rnd {N:Nat} {C:Nat->Prop} {w w':Wg} {b g cap:Nat} {L:List Wt} (h:QM w b g cap L) (hr:Rnd N C w w') (hb: ¬C b) (hg: ¬C g):QM w' b g cap L:=⟨hr.cells _ _ h.bx rfl hb,h.rw.rnd hr hg,h.bl,h.gl⟩
theorem zFa {w:Wg} (hT:Tab w):0<w.heap.size:=zV (hT 0 dA)
theorem zMu {w w':Wg} (hT:Tab w) (h:w'.heap[0]?=w.heap[0]?):Tab w':=fun j hj=>(sW (a:=⟨0,j,none⟩) h).trans (hT j hj)
end Go.Proofs.Wd

namespace Go.Proofs.Wd
open Tryz
set_option maxRecDepth 100000
set_option maxHeartbeats 1000000
open Go.RowKit Lb
theorem zK2 {F:Fence} {m:Nat} {P:Wl} {w0:Wg} {ops:Array Oper} {G:Nat->SF} {d:Tmp} {ty:Wi} {pos:String} {aft:Array Edge} {t:Wi} {i j k:Nat} {x y z:Wk} (h: ∀u v q W,(fct G x).p u W->(fct G y).p v W->(fct G z).p q W-> ∃cells,P.built t [(i,u),(j,v),(k,q)]=some cells/\(G d).p (.agg cells) W):qB F m P w0 ops G ⟨some d, .build t #[(i,x),(j,y),(k,z)],ty,pos,aft,none⟩:=
 zFY fun b W hb hh=>by
  obtain ⟨cells,h1,h2⟩:=h _ _ _ W (hh x (by simp)) (hh y (by simp)) (hh z (by simp))
  exact ⟨cells,by simpa using h1,h2⟩
theorem zDG {done:List Bool} {c:Wt} {rs:List (Nat×Rat)} {L:List Wt} {k:Nat} (hk:k<rs.length):jE done c (rs.take (k+1)) L=if done.getD (rs.getD k (0,0)).1 false=true then jE done c (rs.take k) L else zDP wz Wt.lt (jE done c (rs.take k) L) ⟨c.c+(rs.getD k (0,0)).2,c.s+1,(rs.getD k (0,0)).1⟩:=by
 have e:rs.getD k (0,0)=rs[k]:=by simp [hk]
 rw [List.take_succ_eq_append_getElem hk,e]
 unfold jE
 rw [List.foldl_append]
 rfl
theorem DI.few {E:Adj} {N a:Nat} {out:List Wt} {done:List Bool} {L:List Wt} {f:Nat} (h:DI E N a out done L f):L.length<=f/\out.length<=N:=by
 have h1:=h.fu
 have h2:=zHZ done
 rw [<-h.ct,h.dl] at h2
 omega
theorem DI.inner {E:Adj} {N a:Nat} {out:List Wt} {done:List Bool} {L:List Wt} {f:Nat} (h:DI E N a out done L f) (h0:0<L.length) {c:Wt} (ec:L.getD 0 wz=c) (hd:done.getD c.n false=false) {k:Nat}:
  (jE (done.set c.n true) c ((E c.n).take k) (zDQ wz Wt.lt L)).length<=f/\ ∀x,x∈jE (done.set c.n true) c ((E c.n).take k) (zDQ wz Wt.lt L)->Rch E a x.n x.c x.s/\x.s<=N+1:=by
 have hfew:=h.few
 have hpp:=zFP (d:=wz) (lt:=Wt.lt) h0
 rw [ec] at hpp
 have hcL:c∈L:=hpp.mem_iff.1 (.head _)
 obtain ⟨hcn,hcr,hcs⟩:=h.rc c hcL
 have hlt:c.n<done.length:=by rw [h.dl];exact hcn
 have hps:=zD0 (E:=E) hlt hd N
 rw [if_pos hcn] at hps
 have h1:=(zDH (done.set c.n true) c ((E c.n).take k) _ (zFR zGr h0 h.hp)).2
 rw [zFQ,tT] at h1
 have h2:=h.fu
 refine ⟨by omega,fun x hx=> ?_⟩
 rcases (zEz _ _ _ _ _).1 hx with hx|⟨r,hr,_,rfl⟩
 ·obtain ⟨_,g2,g3⟩:=h.rc x (hpp.mem_iff.1 (.tail _ hx))
  exact ⟨g2,by omega⟩
 ·exact ⟨.cons hcr (List.mem_of_mem_take hr),by show c.s+1<=_;omega⟩
theorem DI.deg {E:Adj} {N a n:Nat} {out:List Wt} {done:List Bool} {L:List Wt} {f:Nat} (h:DI E N a out done L f) (hn:n<N) (hd:done.getD n false=false):(E n).length<=f:=by
 have hps:=zD0 (E:=E) (show n<done.length by rw [h.dl];exact hn) hd N
 rw [if_pos hn] at hps
 have:=h.fu
 omega
def zQo (b1 b2 gg:Nat) (vs:List Wh) (q:Nat):Prop:=q=b1∨q=b2∨zE5 gg vs q∨q=0
structure SE (b1 b2 gg cap N a:Nat) (vs:List Value) (G:List (List (Nat×Rat))) (w:World):Prop where
 w1:w.heap[b1]?=some (.cells #[.slice (some ⟨gg,0,none⟩) N cap] 61 (0,0))
 w2:w.heap[b2]?=some (.cells #[.int .i64 (a:Int)] 3 (0,0))
 g:GM w gg cap vs G
 t:Tab w
theorem SE.lt {b1 b2 gg cap N a:Nat} {vs:List Wh} {G:List (List (Nat×Rat))} {w:Wg} (h:SE b1 b2 gg cap N a vs G w) {q:Nat} (hq:zQo b1 b2 gg vs q):q<w.heap.size:=by
 rcases hq with rfl|rfl|hq|rfl
 ·exact (sF.1 h.w1).1
 ·exact (sF.1 h.w2).1
 ·exact h.g.lt hq
 ·exact zFa h.t
theorem SE.same {b1 b2 gg cap N a:Nat} {vs:List Wh} {G:List (List (Nat×Rat))} {w w':Wg} (h:SE b1 b2 gg cap N a vs G w) (hs: ∀q,zQo b1 b2 gg vs q->w'.heap[q]?=w.heap[q]?) (hk:yL w w'):SE b1 b2 gg cap N a vs G w':=
 ⟨(hs b1 (.inl rfl)).trans h.w1,(hs b2 (.inr (.inl rfl))).trans h.w2,h.g.keep (fun q hq=>hs q (.inr (.inr (.inl hq)))) hk,zMu h.t (hs _ (.inr (.inr (.inr rfl))))⟩
theorem SE.below {b1 b2 gg cap N a:Nat} {vs:List Wh} {G:List (List (Nat×Rat))} {w w':Wg} (h:SE b1 b2 gg cap N a vs G w) (hb:Below w.heap.size w w'):SE b1 b2 gg cap N a vs G w':=h.same (fun q hq=>hb.block q (h.lt hq)) (zK hb)
theorem SE.bls {b1 b2 gg cap N a:Nat} {vs:List Wh} {G:List (List (Nat×Rat))} {w w':Wg} {T:Nat->Prop} {M:Nat} (h:SE b1 b2 gg cap N a vs G w) (hb:BlS T w w') (hk:yL w w') (hM: ∀q,zQo b1 b2 gg vs q->q<M) (hT: ∀q,T q->M<=q):SE b1 b2 gg cap N a vs G w':=h.same (fun q hq=>hb.block q (h.lt hq) fun ht=>by have:=hM q hq;have:=hT q ht;omega) hk
theorem SE.rnd {b1 b2 gg cap N a:Nat} {vs:List Wh} {G:List (List (Nat×Rat))} {w w':Wg} {C:Nat->Prop} {M:Nat} (h:SE b1 b2 gg cap N a vs G w) (hr:Rnd M C w w') (hM: ∀q,zQo b1 b2 gg vs q->q<M/\ ¬C q):SE b1 b2 gg cap N a vs G w':=h.same (fun q hq=>hr.low q (hM q hq).1 (hM q hq).2) hr.keep
theorem zIu {W:Wg} {u:Wh} (h:u= .int .i64 0):Calls prog 32 #[u] W (Ret W (fQN 0).tS):=by subst h;exact zPl 0 dA
theorem jU {F:Fence} {m:Nat} {P:Wl} {w0:Wg} {ops:Array Oper} {G:Nat->SF} {d:Tmp} {ty:Wi} {pos:String} {aft:Array Edge} {t:Wi} {x:Wk} (h: ∀u W,Below w0.heap.size w0 W->(fct G x).p u W-> ∃e cs,zS P t 1 [(0,u)]=some (e,cs)/\(G d).p (.slice (some ⟨W.heap.size,0,none⟩) 1 1) (W.alloc (.cells cs e))):qB F m P w0 ops G ⟨some d, .buildSlice t 1 #[(0,x)],ty,pos,aft,none⟩:=
 zBU fun b W hb hh=>by
  obtain ⟨e,cs,h1,h2⟩:=h _ W hb (hh x (by simp))
  exact ⟨e,cs,by simpa using h1,h2⟩
theorem zSK (f:Wk->Wh) (x:Wk):(Array.map f #[x]).getD 0 undef=f x:=by simp [tC]
structure SX where
 done:List Bool
 L:List Wt
 out:List Wt
 f:Nat
 g:Nat
 cp:Nat
theorem zJi {w_:Wg} {b1 b2 gg cap N a_:Nat} {vs:List Wh} {G:List (List (Nat×Rat))} {C:Nat->Prop} (hW1:w_.heap[b1]?=some (.cells #[.slice (some ⟨gg,0,none⟩) N cap] 61 (0,0))) (hW2:w_.heap[b2]?=some (.cells #[.int .i64 (a_:Int)] 3 (0,0))) (hG:GM w_ gg cap vs G) (hN:N=G.length) (ha:a_<N) (hNs:N<=100000) (hGk:Gok (qE G) N) (hrb: ∀n,n<N-> ∀r,r∈qE G n->QB r.2 1) (hcb: ∀n c s,Rch (qE G) a_ n c s->s<=N+1->QB c 1) (hpd:1+zJx (qE G) (List.replicate N false) N<=80000) (hT:Tab w_) (hCl: ∀q,C q->q<w_.heap.size) (hCE: ∀q,zQo b1 b2 gg vs q-> ¬C q):
  ItC prog 65 #[pO b1 0,pO b2 0] (fun k=> [fWt ((stl (qE G) N a_).getD k wz)]) (stl (qE G) N a_).length False C w_:=by
 intro l J Z W hwW hbW hkW hJs hZs hend hround hJ
 have hE0:SE b1 b2 gg cap N a_ vs G w_:=⟨hW1,hW2,hG,hT⟩
 have hEC: ∀q,zQo b1 b2 gg vs q->q<w_.heap.size/\ ¬C q:=fun q hq=>⟨hE0.lt hq,hCE q hq⟩
 have hEl: ∀q,zQo b1 b2 gg vs q->q<W.heap.size:=fun q hq=>sJ (hE0.lt hq) hwW
 have hE:SE b1 b2 gg cap N a_ vs G W:=hE0.below hbW
 have hsz:W.heap.size<=W.heap.size:=sL _
 refine zBQ [UF.eq (.func (.yield l) #[] #[]),UF.eq (pO b1 0),UF.eq (pO b2 0)] func65 rfl kH ⟨rfl,rfl,rfl,trivial⟩ fun a s=> ?_
 replace s:St W [(0, .u (UF.eq (.func (.yield l) #[] #[]))),(1, .u (UF.eq (pO b1 0))),(2, .u (UF.eq (pO b2 0)))] [] f65.ntmps [] a W:=s
 refine (wpIn_wide (n:=0)).2 (wp_scope_straight ((wpIn_wide (n:=0)).1 ?_))
 refine sC ?_
 refine zC 2 ((9, .Z (UF.eq (.slice (some ⟨gg,0,none⟩) N cap)))::(10, .u (uI (N:Int))):: []) hmix s kH
  (oc (zFi (b:=b1) (v:=(.slice (some ⟨gg,0,none⟩) N cap)) kH hE.w1 iiz)<|oc (jV kH (fun v W h=>⟨_,_,_,h,rfl⟩))<|zE) fun a w1 s=> ?_
 have hb:=s.below
 replace hE:=hE.below hb
 replace hJ:=hJs _ _ _ hJ (yG hb hsz)
 replace hsz:=sD hsz hb.size
 refine zO9 (nn:=N) (z:=1) (e:=4) (zs:= [.bool false]) (wB [.bool false]) s rfl kH kH kH rfl rfl oO (fun W=>rfl) (s.fct (.tmp 10)) (s.fct (.tmp 10)) fun gd a w egd hb hD s=> ?_
 have hgd:W.heap.size<=gd:=by rw [egd];exact hsz
 replace hE:=hE.below hb
 replace hJ:=hJs _ _ _ hJ (yG hb hsz)
 replace hsz:=sD hsz hb.size
 replace hD:jG w gd 4 1 N (bls (List.replicate N false)):=by unfold bls;rw [List.map_replicate];exact hD
 refine qN (UF.eq (.slice (some ⟨gd,0,none⟩) N N)) rfl s kH iiz fun a w s=> ?_
 refine zB rfl ?_
 have hb:=s.below
 replace hE:=hE.below hb
 replace hJ:=hJs _ _ _ hJ (yG hb hsz)
 replace hsz:=sD hsz hb.size
 replace hD:=hD.below hb
 replace s:=s.anewB rfl rfl
 refine sC ?_
 refine zCK [] [] 4 ((12, .Z (fQN 0))::(13, .Z (uI (a_:Int)))::(14, .Z (fWt (⟨0,0,a_⟩)))::(15, .s (wE w 86 5 [CU.agg (fWt ⟨0,0,a_⟩)])):: []) hmix s fnz kH
  (oc (zM zF zNH (fun u0 W hb (h0:u0= .int .i64 0)=>zIu h0))<|oc (zFi (b:=b2) (v:= .int .i64 (a_:Int)) kH hE.w2 iiz)<|oc (zK2 (fun u v q W (hu:QNp 0 u W) (hv:v= .int .i64 0) (hq:q= .int .i64 (a_:Int))=>zTB (x:=⟨0,0,a_⟩) hu hv hq))<|oc (jU (fun u W hb (hu:(fWt ⟨0,0,a_⟩).p u W)=>by obtain ⟨e,cs,h1,h2,h3⟩:=zQM hu;exact ⟨e,cs,h1,h3.toN hb.size rfl⟩))<|zE) fun Q' hQ a w2 s hr hd=> ?_
 obtain ⟨v15,e15⟩: ∃v,a.tmps.getD 15 undef=v:=⟨_,rfl⟩
 have hN15:=(hr (_,_) mz3)
 rw [show a.tmps.getD _ undef=v15 from e15] at hN15
 obtain ⟨g,cp,rfl,hg0,hR0⟩:=zDF hN15 (by simp)
 have hg:W.heap.size<=g:=sD hsz hg0
 replace s:=s.learn 15 _ e15
 have hb:=s.below
 replace hE:=hE.below hb
 replace hJ:=hJs _ _ _ hJ (yG hb hsz)
 replace hsz:=sD hsz hb.size
 replace hD:=hD.below hb
 replace s:=s.anewB rfl rfl
 refine zA8 (wB [.slice (some ⟨g,0,none⟩) 1 cp]) rfl s kH (fun v W h=>by rw [show v=_ from h];exact ⟨rfl,rfl⟩) fun b5 a w2 s=> ?_
 refine qN (UF.eq (pO b5 0)) rfl s kH (fun _ _ h=>h.1) fun a w2 s=> ?_
 refine zB rfl (hQ _ _ ?_)
 have hb50:=s.inB_new (q:=b5) ⟨_, .head _,rfl,rfl⟩
 obtain ⟨cs5,hc5,hcs5,-⟩:=s.boxAt (c:=16) rfl
 obtain rfl:cs5= [.slice (some ⟨g,0,none⟩) 1 cp]:=hcs5
 replace s:=s.popB
 have hb5:W.heap.size<=b5:=sD hsz hb50
 have hb:=s.below
 replace hE:=hE.below hb
 replace hJ:=hJs _ _ _ hJ (yG hb hsz)
 replace hsz:=sD hsz hb.size
 replace hD:=hD.below hb
 replace hR0:=hR0.below hb
 have htl:=hEl _ (.inr (.inr (.inr rfl)))
 have hM:QM _ b5 g cp [⟨0,0,a_⟩]:=⟨hc5,hR0,by omega,by omega⟩
 replace s:=s.anewB rfl rfl
 refine sC ?_
 refine wpIn_label ?_
 refine sO ?_
 refine yM (fun (x:SX) a w=>DI (qE G) N a_ x.out x.done x.L x.f/\x.out++dij (qE G) x.f x.done x.L=(stl (qE G) N a_)/\x.f<=80000/\W.heap.size<=x.g/\W.heap.size<=w.heap.size/\SE b1 b2 gg cap N a_ vs G w/\jG w gd 4 1 N (bls x.done)/\QM w b5 x.g x.cp x.L/\J x.out.length w/\St w [(0, .u (UF.eq (.func (.yield l) #[] #[]))),(1, .u (UF.eq (pO b1 0))),(4, .u (UF.eq (.slice (some ⟨gd,0,none⟩) N N))),(5, .u (UF.eq (pO b5 0)))] [] f65.ntmps [] a w) (fun x=>x.f) ⟨List.replicate N false, [⟨0,0,a_⟩], [],1+zJx (qE G) (List.replicate N false) N,g,cp⟩ ⟨DI.begin _ ha,rfl,hpd,hg,hsz,hE,hD,hM,hJ,s.keepK _ (fmz ⟨mz5,fmz ⟨mz6,fmz ⟨mz2,fmz ⟨.head _,fnz⟩⟩⟩⟩)⟩ fun x a w hx=> ?_
 obtain ⟨hI,hws,hf8,hg,hsz,hE,hD,hM,hJ,s⟩:=hx
 have hL: ∀y,y∈x.L->QB y.c 1:=fun y hy=>hcb _ _ _ (hI.rc y hy).2.1 (by have:=(hI.rc y hy).2.2;have:=hI.few.2;omega)
 have hLf:=hI.few.1
 refine sC ?_
 refine sC ?_
 have hql:=hM.row
 refine zC 5 ((17, .Z (UF.eq (pO b5 0)))::(18, .Z (UF.eq (pO b5 0)))::(19, .Z (UF.eq (.slice (some ⟨x.g,0,none⟩) x.L.length x.cp)))::(20, .Z (uI (x.L.length:Int)))::(21, .u (uB (decide ((x.L.length:Int)>0)))):: []) hmix s kH
  (oc zA<|oc (zBo (a:=⟨b5,0,none⟩) iiz)<|oc (zFi (b:=b5) (v:=(.slice (some ⟨x.g,0,none⟩) x.L.length x.cp)) kH hM.bx iiz)<|oc (zM zF zSV (fun u0 W hb (h0:u0=(.slice (some ⟨x.g,0,none⟩) x.L.length x.cp))=>zOw (by rw [show u0=(Value.slice (some ⟨x.g,0,none⟩) x.L.length x.cp) from h0];exact (SF.row 5 (wts x.L)).st _ _ _ hql (s.up hb))))<|oc (zP .i64 (x.L.length:Int) 0 (decide ((x.L.length:Int)>0)) iiz iiz rfl rfl)<|zE) fun a w3 s=> ?_
 refine zB rfl ?_
 have hb:=s.below
 replace hE:=hE.below hb
 replace hJ:=hJs _ _ _ hJ (yG hb hsz)
 replace hsz:=sD hsz hb.size
 replace hD:=hD.below hb
 replace hM:=hM.below hb
 replace s:=s.anewB rfl rfl
 refine StS.cond s (decide ((x.L.length:Int)>0)) iiz (fun e=> ?_) (fun e=> ?_)
 ·have h0:0<x.L.length:=by have:=sQ e;omega
  obtain ⟨c,ec⟩: ∃c,x.L.getD 0 wz=c:=⟨_,rfl⟩
  have hcL:c∈x.L:=by rw [<-ec,tY,tH h0];exact zT2 h0
  obtain ⟨hcn,hcr,hcs⟩:=hI.rc c hcL
  have hqc:QB c.c 1:=hL c hcL
  have hfw:=hI.few.2
  have hcd:c.n<x.done.length:=by rw [hI.dl];exact hcn
  refine sI ?_
  refine sO ?_
  refine sC ?_
  refine zC 2 ((22, .Z (UF.eq (pO b5 0)))::(23, .u (UF.eq (qI b5))):: []) hmix s kH
   (oc zA<|oc (zIJ ⟨_,underlying106,fun _ e=>by cases e⟩ (fun v W h=>by rw [show v=_ from h];rfl))<|zE) fun a w4 s=> ?_
  have hb:=s.below
  replace hE:=hE.below hb
  replace hJ:=hJs _ _ _ hJ (yG hb hsz)
  replace hsz:=sD hsz hb.size
  replace hD:=hD.below hb
  replace hM:=hM.below hb
  have hdb:gd≠b5:=z9 hD.at.choose_spec hM.bx dA
  have hdg:gd≠x.g:=z9 hD.at.choose_spec hM.rw.at.choose_spec dA
  refine zEh (T:=fun q=>q=b5∨q=x.g) (args:=#[qI b5]) zF (enters_of func67 kH rfl) s rfl kH rfl rfl (fun q hq=>by rcases hq with rfl|rfl;(exact hM.bpl);(exact hM.rw.plain)) (fun q hq=>by cases hq) (by rw [sP];simp [show a.eval (.tmp 23)=qI b5 from s.fct (.tmp 23)]) (zRq hM rfl h0 oO hL hE.t) fun a w hM1 hF1 hk1 s=> ?_
  replace hE:=hE.bls hF1 hk1 hEl (fun q hq=>(by rcases hq with rfl|rfl;(exact hb5);(exact hg)))
  replace hJ:=hJs _ _ _ hJ (zF7 hF1 (fun q hq=>⟨(by rcases hq with rfl|rfl;(exact hb5);(exact hg)),(by rcases hq with rfl|rfl;(exact hM.bpl);(exact hM.rw.plain))⟩) hsz)
  replace hsz:=sD hsz hF1.size
  replace hD:=hD.keep (hF1.block gd hD.lt (fun h=>by rcases h with h|h;(exact hdb h);(exact hdg h))) hk1
  replace hM:=hM1
  rw [ec] at s
  refine zCr (fWt c) rfl s kH (zFj ⟨_,underlying86,fun _ e=>by cases e⟩ (fun v W h=>h)) kH fun a w s=> ?_
  refine qJ (CU.len 5) (cs:= [.bool false, .slice none 0 0, .slice none 0 0, .int .i64 0, .int .i64 0]) kH rfl s kH (fun W=>rfl) rfl fun b6 a w s=> ?_
  refine yY (CU.agg (fWt c)) ((fWt c).tS) rfl s kH rfl rfl rfl iiz iiz zFv fun a w s=> ?_
  refine zB rfl ?_
  have hn6:=s.inB_new (q:=b6) ⟨_, .head _,rfl,rfl⟩
  have hn6d:b6≠gd:=by have:=hD.lt;omega
  have hn6b:b6≠b5:=by have:=(sF.1 hM.bx).1;omega
  have hn6g:b6≠x.g:=by have:=hM.rw.lt;omega
  have hn6W:W.heap.size<=b6:=sD hsz hn6
  have hb:=s.below
  replace hE:=hE.below hb
  replace hJ:=hJs _ _ _ hJ (yG hb hsz)
  replace hsz:=sD hsz hb.size
  replace hD:=hD.below hb
  replace hM:=hM.below hb
  replace s:StS _ _ _ [⟨6,86,CU.agg (fWt c),b6,true⟩] _ _ _ _:=s.freeze
  replace s:=s.anewB rfl rfl
  refine sC ?_
  refine sC ?_
  have hdl:(SF.row 1 (bls x.done)).p (.slice (some ⟨gd,0,none⟩) N N) _:=hD.row (by simp [hI.dl])
  refine zC 5 ((26, .Z (UF.eq (.slice (some ⟨gd,0,none⟩) N N)))::(27, .X (fWt c) 4)::(28, .Z (uI (((c).n:Nat):Int)))::(29, .s (wC (wB [.bool (x.done.getD c.n false)]).cf))::(30, .u (uB (x.done.getD c.n false))):: []) hmix s kH
   (oc zA<|oc (zW (C:=cg (fWt c)) 4 kH)<|oc (yW (C:=cg (fWt c)) (k:=4) kH (h:=zDk))<|oc (zT (z:=1) (Cs:=bls x.done) (i:=c.n) (C:=wB [.bool (x.done.getD c.n false)]) kH (zLZ hcd) (fun v W hb h=>(by rw [show v=(Value.slice (some ⟨gd,0,none⟩) N N) from h];exact (SF.row 1 (bls x.done)).st _ _ _ hdl (s.up hb))) iiz)<|oc (yR (C:=(wB [.bool (x.done.getD c.n false)]).cf) kH iiz jF)<|zE) fun a w5 s=> ?_
  refine zB rfl ?_
  have hb:=s.below
  replace hE:=hE.below hb
  replace hJ:=hJs _ _ _ hJ (yG hb hsz)
  replace hsz:=sD hsz hb.size
  replace hD:=hD.below hb
  replace hM:=hM.below hb
  replace s:=s.anewB rfl rfl
  refine StS.cond s (x.done.getD c.n false) iiz (fun e=> ?_) (fun e=> ?_)
  ·obtain ⟨f',ef,hI',hdj⟩:=hI.skip h0 (by rw [ec];exact e)
   refine sT ?_
   replace s:=s.popB
   exact ⟨⟨x.done,zDQ wz Wt.lt x.L,x.out,f',x.g,x.cp⟩,(by show f'<x.f;omega),hI',(by rw [<-hws,hdj]),(by show f'<=_;omega),hg,hsz,hE,hD,hM,hJ,s.keepK _ (fmz ⟨mz5,fmz ⟨mz6,fmz ⟨mz7,fmz ⟨mz8,fnz⟩⟩⟩⟩)⟩
  ·obtain ⟨f',ef,-,-,-,hI',hdij⟩:=hI.settle hGk ha h0 ec e
   have hd:=e
   have hdeg:=hI.deg hcn hd
   refine sI ?_
   refine sC ?_
   refine zC 3 ((31, .u (UF.eq (.slice (some ⟨gd,0,none⟩) N N)))::(32, .X (fWt c) 4)::(33, .u (uI (((c).n:Nat):Int))):: []) hmix s kH
    (oc zA<|oc (zW (C:=cg (fWt c)) 4 kH)<|oc (yW (C:=cg (fWt c)) (k:=4) kH (h:=zDk))<|zE) fun a w6 s=> ?_
   refine zCr (UF.eq (.pointer (some ⟨gd,c.n*1,none⟩))) rfl s kH (zAm (z:=1) (g:=gd) (nn:=N) (cap:=N) (i:=c.n) kH hcn iiz iiz) kH fun a w s=> ?_
   have hb:=s.below
   replace hE:=hE.below hb
   replace hJ:=hJs _ _ _ hJ (yG hb hsz)
   replace hsz:=sD hsz hb.size
   replace hD:=hD.below hb
   replace hM:=hM.below hb
   have hdb:b5≠gd:=(z9 hD.at.choose_spec hM.bx dA).symm
   have hdg:x.g≠gd:=(z9 hD.at.choose_spec hM.rw.at.choose_spec dA).symm
   refine zCC (g:=gd) (i:=c.n) (cap:=N) (z:=1) (e:=4) (wB [.bool true]) rfl s rfl rfl hD (by simpa using hcd) kH (s.fct (.tmp 34)) (zAX rfl rfl rfl rfl) (fmz ⟨hn6d,fnz⟩) fun w hF1 hk1 hD1 s=> ?_
   replace hE:=hE.bls hF1 hk1 hEl (fun q hq=>(by rw [hq];exact hgd))
   replace hJ:=hJs _ _ _ hJ (zF7 hF1 (fun q hq=>⟨(by rw [hq];exact hgd),(by rw [hq];exact hD.plain)⟩) hsz)
   replace hsz:=sD hsz hF1.size
   replace hM:=hM.keep (hF1.block b5 (sF.1 hM.bx).1 hdb) (hF1.block x.g hM.rw.lt hdg) hk1
   replace hD:=hD1
   rw [zQu] at hD
   refine zB rfl ?_
   have hb:=s.below
   replace hE:=hE.below hb
   replace hJ:=hJs _ _ _ hJ (yG hb hsz)
   replace hsz:=sD hsz hb.size
   replace hD:=hD.below hb
   replace hM:=hM.below hb
   replace s:=s.anewB rfl rfl
   refine sC ?_
   refine sC ?_
   refine zC 2 ((35, .u (UF.eq (.func (.yield l) #[] #[])))::(36, .u (fWt c)):: []) hmix s kH
    (oc zA<|oc (yP (f:=fWt c) 5 kH (hz:=zEc _))<|zE) fun a w7 s=> ?_
   have hb:=s.below
   replace hE:=hE.below hb
   replace hJ:=hJs _ _ _ hJ (yG hb hsz)
   replace hsz:=sD hsz hb.size
   replace hD:=hD.below hb
   replace hM:=hM.below hb
   have hlt:x.out.length<(stl (qE G) N a_).length:=by rw [<-hws,hdij];simp
   have hev:(stl (qE G) N a_).getD x.out.length wz=c:=by rw [<-hws,hdij];simp
   refine zO8 rfl s iiz kH (zBN kH) (fmz ⟨fun hc=>by have:b6<_:=hCl _ hc;omega,fnz⟩) (hround x.out.length _ _ hlt hJ ⟨by simp,fun j f hj=> ?_⟩) fun a w bv hr hbv s=> ?_
   ·match j,hj with
    |0,hj=>obtain rfl:=sS hj;rw [zSK,hev];exact s.at.sl 36
   replace hE:=hE.rnd hr hEC
   replace hD:=hD.rnd hr (fun hc=>by have:=hCl _ hc;omega)
   replace hM:=hM.rnd hr (fun hc=>by have:=hCl _ hc;omega) (fun hc=>by have:=hCl _ hc;omega)
   replace hsz:=sD hsz hr.size
   have hJZ:(bv=true->J (x.out.length+1) w)/\(bv=false->Z w):=⟨fun e=>by rcases hbv with ⟨_,h⟩|⟨e2,_⟩;(exact h);(rw [e] at e2;cases e2),fun e=>by rcases hbv with ⟨e2,_⟩|⟨_,h⟩;(rw [e] at e2;cases e2);(exact h)⟩
   clear hJ
   replace s:=s.anewB rfl rfl
   refine zCr (uB (!bv)) rfl s kH (zAT bv iiz (fun _=>rfl)) kH fun a w s=> ?_
   refine zB rfl ?_
   have hb:=s.below
   replace hE:=hE.below hb
   replace hJZ:(bv=true->J (x.out.length+1) _)/\(bv=false->Z _):=⟨fun e=>hJs _ _ _ (hJZ.1 e) (yG hb hsz),fun e=>hZs _ _ (hJZ.2 e) (yG hb hsz)⟩
   replace hsz:=sD hsz hb.size
   replace hD:=hD.below hb
   replace hM:=hM.below hb
   replace s:=s.anewB rfl rfl
   refine StS.cond s (!bv) iiz (fun e=> ?_) (fun e=> ?_)
   ·have hZ:=hJZ.2 (by simpa using e)
    refine sE ?_
    exact ⟨s.nd, .tuple #[],by simp [results,results65],⟨_,rfl⟩, .inr hZ⟩
   ·have hJ:=hJZ.1 (by simpa using e)
    clear hJZ
    refine sI ?_
    refine sC ?_
    have hgl:=hE.g.row hN
    have hcv:c.n<vs.length:=by rw [hE.g.ln, <-hN];exact hcn
    have hrl:=hE.g.at (i:=c.n) (by rw [<-hN];exact hcn)
    refine zC 7 ((39, .Z (UF.eq (.slice (some ⟨gg,0,none⟩) N cap)))::(40, .X (fWt c) 4)::(41, .Z (uI (((c).n:Nat):Int)))::(42, .s (wC (wB [(vs.getD c.n (.slice none 0 0))]).cf))::(43, .u (UF.eq (vs.getD c.n (.slice none 0 0))))::(44, .u (uI ((ros (qE G c.n)).length:Int)))::(45, .u (uI 0)):: []) hmix s kH
     (oc (zFi (b:=b1) (v:=(.slice (some ⟨gg,0,none⟩) N cap)) kH hE.w1 iiz)<|oc (zW (C:=cg (fWt c)) 4 kH)<|oc (yW (C:=cg (fWt c)) (k:=4) kH (h:=zDk))<|oc (zT (z:=1) (Cs:=sls vs) (i:=c.n) (C:=wB [(vs.getD c.n (.slice none 0 0))]) kH (zEm hcv) (fun v W hb h=>(by rw [show v=(Value.slice (some ⟨gg,0,none⟩) N cap) from h];exact (SF.row 1 (sls vs)).st _ _ _ hgl (s.up hb))) iiz)<|oc (yR (C:=(wB [(vs.getD c.n (.slice none 0 0))]).cf) kH iiz jF)<|oc (qK (z:=4) (Cs:=ros (qE G c.n)) kH (fun v W hb h=>(by rw [show v=(vs.getD c.n (.slice none 0 0)) from h];exact (SF.row 4 (ros (qE G c.n))).st _ _ _ hrl (s.up hb))) (fun _=>rfl))<|oc zA<|zE) fun a w8 s=> ?_
    refine zB rfl ?_
    have hb:=s.below
    replace hE:=hE.below hb
    replace hJ:=hJs _ _ _ hJ (yG hb hsz)
    replace hsz:=sD hsz hb.size
    replace hD:=hD.below hb
    replace hM:=hM.below hb
    replace s:=s.anewB rfl rfl
    refine sO ?_
    refine yM (fun (y:Nat×Nat×Nat) a w=>y.1<=(qE G c.n).length/\W.heap.size<=y.2.1/\b6≠y.2.1/\W.heap.size<=w.heap.size/\SE b1 b2 gg cap N a_ vs G w/\jG w gd 4 1 N (bls (x.done.set c.n true))/\QM w b5 y.2.1 y.2.2 (jE (x.done.set c.n true) c ((qE G c.n).take y.1) (zDQ wz Wt.lt x.L))/\J (x.out.length+1) w/\St w [(0, .u (UF.eq (.func (.yield l) #[] #[]))),(1, .u (UF.eq (pO b1 0))),(4, .u (UF.eq (.slice (some ⟨gd,0,none⟩) N N))),(5, .u (UF.eq (pO b5 0))),(43, .u (UF.eq (vs.getD c.n (.slice none 0 0)))),(44, .u (uI ((ros (qE G c.n)).length:Int))),(45, .u (uI (y.1:Int)))] [⟨6,86,CU.agg (fWt c),b6,true⟩] f65.ntmps [] a w) (fun y=>(qE G c.n).length - y.1) (0,x.g,x.cp) ⟨sM _,hg,hn6g,hsz,hE,hD,hM,hJ,s.keepK _ (fmz ⟨zGn,fmz ⟨.tail _ zGn,fmz ⟨.tail _ (.tail _ zGn),fmz ⟨.tail _ (.tail _ (.tail _ zGn)),fmz ⟨.head _,fmz ⟨mz1,fmz ⟨mz2,fnz⟩⟩⟩⟩⟩⟩⟩)⟩ fun y a w hx=> ?_
    clear hM hD hE hJ hsz hg hn6g
    obtain ⟨hk,hg,hn6g,hsz,hE,hD,hM,hJ,s⟩:=hx
    have hin:=hI.inner h0 ec hd (k:=y.1)
    refine sC ?_
    refine zC 1 ((46, .u (uB (decide ((y.1:Int)<((ros (qE G c.n)).length:Int))))):: []) hmix s kH
     (oc (zP .i64 (y.1:Int) ((ros (qE G c.n)).length:Int) (decide ((y.1:Int)<((ros (qE G c.n)).length:Int))) iiz iiz rfl rfl)<|zE) fun a w9 s=> ?_
    refine zB rfl ?_
    have hb:=s.below
    replace hE:=hE.below hb
    replace hJ:=hJs _ _ _ hJ (yG hb hsz)
    replace hsz:=sD hsz hb.size
    replace hD:=hD.below hb
    replace hM:=hM.below hb
    replace s:=s.anewB rfl rfl
    refine sC ?_
    refine StS.cond s (decide ((y.1:Int)<((ros (qE G c.n)).length:Int))) iiz (fun e=> ?_) (fun e=> ?_)
    ·have hkl:y.1<(qE G c.n).length:=by have h7:=sQ e;simp only [tR] at h7;omega
     have hrm:((qE G c.n).getD y.1 (0,0))∈qE G c.n:=by rw [tY,tH hkl];exact zT2 hkl
     have hrn:((qE G c.n).getD y.1 (0,0)).1<(x.done.set c.n true).length:=by rw [List.length_set,hI.dl];exact (hGk _ hcn _ hrm).1
     have hqr:QB ((qE G c.n).getD y.1 (0,0)).2 1:=hrb _ hcn _ hrm
     refine sI ?_
     refine sC ?_
     refine sO ?_
     refine sC ?_
     have hrl:=hE.g.at (i:=c.n) (by rw [<-hN];exact hcn)
     refine zC 2 ((47, .Y (fRo ((qE G c.n).getD y.1 (0,0))))::(48, .u (fRo ((qE G c.n).getD y.1 (0,0)))):: []) hmix s kH
      (oc (zT (z:=4) (Cs:=ros (qE G c.n)) (i:=y.1) (C:=CU.agg (fRo ((qE G c.n).getD y.1 (0,0)))) kH (zHF hkl) (fun v W hb h=>(by rw [show v=(vs.getD c.n (.slice none 0 0)) from h];exact (SF.row 4 (ros (qE G c.n))).st _ _ _ hrl (s.up hb))) iiz)<|oc (yP (f:=fRo ((qE G c.n).getD y.1 (0,0))) 4 kH (hz:=zKt _))<|zE) fun a w10 s=> ?_
     refine qJ (CU.len 4) (cs:= [.int .i64 0, .bool false, .slice none 0 0, .slice none 0 0]) kH rfl s kH (fun W=>rfl) rfl fun b8 a w s=> ?_
     refine yY (CU.agg (fRo ((qE G c.n).getD y.1 (0,0)))) ((fRo ((qE G c.n).getD y.1 (0,0))).tS) rfl s kH rfl rfl rfl iiz iiz zFI fun a w s=> ?_
     refine zB rfl ?_
     have hn8:=s.inB_new (q:=b8) ⟨_, .head _,rfl,rfl⟩
     have hn8b:b8≠b5:=by have:=(sF.1 hM.bx).1;omega
     have hn8g:b8≠y.2.1:=by have:=hM.rw.lt;omega
     have hb:=s.below
     replace hE:=hE.below hb
     replace hJ:=hJs _ _ _ hJ (yG hb hsz)
     replace hsz:=sD hsz hb.size
     replace hD:=hD.below hb
     replace hM:=hM.below hb
     replace s:StS _ _ _ [⟨8,67,CU.agg (fRo ((qE G c.n).getD y.1 (0,0))),b8,true⟩,⟨6,86,CU.agg (fWt c),b6,true⟩] _ _ _ _:=s.freeze
     replace s:=s.anewB rfl rfl
     refine sC ?_
     have hdl:(SF.row 1 (bls (x.done.set c.n true))).p (.slice (some ⟨gd,0,none⟩) N N) _:=hD.row (by simp [hI.dl])
     refine zC 6 ((49, .Z (UF.eq (.slice (some ⟨gd,0,none⟩) N N)))::(50, .X (fRo ((qE G c.n).getD y.1 (0,0))) 0)::(51, .Z (uI ((((qE G c.n).getD y.1 (0,0)).1:Nat):Int)))::(52, .s (wC (wB [.bool ((x.done.set c.n true).getD ((qE G c.n).getD y.1 (0,0)).1 false)]).cf))::(53, .Z (uB ((x.done.set c.n true).getD ((qE G c.n).getD y.1 (0,0)).1 false)))::(54, .u (uB (!((x.done.set c.n true).getD ((qE G c.n).getD y.1 (0,0)).1 false)))):: []) hmix s kH
      (oc zA<|oc (zW (C:=cg (fRo ((qE G c.n).getD y.1 (0,0)))) 0 kH)<|oc (yW (C:=cg (fRo ((qE G c.n).getD y.1 (0,0)))) (k:=0) kH (h:=zFH))<|oc (zT (z:=1) (Cs:=bls (x.done.set c.n true)) (i:=((qE G c.n).getD y.1 (0,0)).1) (C:=wB [.bool ((x.done.set c.n true).getD ((qE G c.n).getD y.1 (0,0)).1 false)]) kH (zLZ hrn) (fun v W hb h=>(by rw [show v=(Value.slice (some ⟨gd,0,none⟩) N N) from h];exact (SF.row 1 (bls (x.done.set c.n true))).st _ _ _ hdl (s.up hb))) iiz)<|oc (yR (C:=(wB [.bool ((x.done.set c.n true).getD ((qE G c.n).getD y.1 (0,0)).1 false)]).cf) kH iiz jF)<|oc (zAT ((x.done.set c.n true).getD ((qE G c.n).getD y.1 (0,0)).1 false) iiz (fun _=>rfl))<|zE) fun a w11 s=> ?_
     refine zB rfl ?_
     have hb:=s.below
     replace hE:=hE.below hb
     replace hJ:=hJs _ _ _ hJ (yG hb hsz)
     replace hsz:=sD hsz hb.size
     replace hD:=hD.below hb
     replace hM:=hM.below hb
     replace s:=s.anewB rfl rfl
     refine StS.cond s (!((x.done.set c.n true).getD ((qE G c.n).getD y.1 (0,0)).1 false)) iiz (fun e=> ?_) (fun e=> ?_)
     ·have e54:=e
      refine zAb [0] 15 ((55, .Z (UF.eq (pO b5 0)))::(56, .u (UF.eq (qI b5)))::(57, .X (fWt c) 0)::(58, .Z (fQN ((c).c)))::(59, .X (fRo ((qE G c.n).getD y.1 (0,0))) 1)::(60, .Z (fQN (((qE G c.n).getD y.1 (0,0)).2)))::(61, .s (fQS 1 [c.c,((qE G c.n).getD y.1 (0,0)).2]))::(62, .Z (fQN (c.c+((qE G c.n).getD y.1 (0,0)).2)))::(63, .X (fWt c) 3)::(64, .Z (uI (((c).s:Nat):Int)))::(65, .Z (uI ((c.s+1:Nat):Int)))::(66, .X (fRo ((qE G c.n).getD y.1 (0,0))) 0)::(67, .Z (uI ((((qE G c.n).getD y.1 (0,0)).1:Nat):Int)))::(68, .Z (fWt (⟨c.c+((qE G c.n).getD y.1 (0,0)).2,c.s+1,((qE G c.n).getD y.1 (0,0)).1⟩)))::(69, .u (fIW ⟨c.c+((qE G c.n).getD y.1 (0,0)).2,c.s+1,((qE G c.n).getD y.1 (0,0)).1⟩)):: []) hmix s kH
       (oc zA<|oc (zIJ ⟨_,underlying106,fun _ e=>by cases e⟩ (fun v W h=>by rw [show v=_ from h];rfl))<|oc (zW (C:=cg (fWt c)) 0 kH)<|oc (zAI (C:=cg (fWt c)) (k:=0) 3 kH (h:=zFw))<|oc (zW (C:=cg (fRo ((qE G c.n).getD y.1 (0,0)))) 1 kH)<|oc (zAI (C:=cg (fRo ((qE G c.n).getD y.1 (0,0)))) (k:=1) 3 kH (h:=zOl))<|oc (qD (fun u v W (hu:QNp ((c).c) u W) (hv:QNp (((qE G c.n).getD y.1 (0,0)).2) v W)=>zKa (m:=1) (wJ hu hqc) (wJ hv hqr)))<|oc (zM zF zRz (fun u0 W hb (h0:(fQS 1 [c.c,((qE G c.n).getD y.1 (0,0)).2]).p u0 W)=>zKB (m:=1) (p:=c.c) (q:=((qE G c.n).getD y.1 (0,0)).2) h0 hqc hqr dA (hE.t.below (s.up hb))))<|oc (zW (C:=cg (fWt c)) 3 kH)<|oc (yW (C:=cg (fWt c)) (k:=3) kH (h:=zCm))<|oc (qX .i64 (((c).s:Nat):Int) 1 ((c.s+1:Nat):Int) iiz iiz (wrap64 _ _ oO oO))<|oc (zW (C:=cg (fRo ((qE G c.n).getD y.1 (0,0)))) 0 kH)<|oc (yW (C:=cg (fRo ((qE G c.n).getD y.1 (0,0)))) (k:=0) kH (h:=zFH))<|oc (zK2 (fun u v q W (hu:QNp (c.c+((qE G c.n).getD y.1 (0,0)).2) u W) (hv:v= .int .i64 ((c.s+1:Nat):Int)) (hq:q= .int .i64 ((((qE G c.n).getD y.1 (0,0)).1:Nat):Int))=>zTB (x:=⟨c.c+((qE G c.n).getD y.1 (0,0)).2,c.s+1,((qE G c.n).getD y.1 (0,0)).1⟩) hu hv hq))<|oc (zIJ ⟨_,underlying86,fun _ e=>by cases e⟩ (fun v W h=>⟨v,rfl,h⟩))<|zE) fun Q' hQ a w12 s=> ?_
      have hb:=s.below
      replace hE:=hE.below hb
      replace hJ:=hJs _ _ _ hJ (yG hb hsz)
      replace hsz:=sD hsz hb.size
      replace hD:=hD.below hb
      replace hM:=hM.below hb
      have hdb:gd≠b5:=z9 hD.at.choose_spec hM.bx dA
      have hdg:gd≠y.2.1:=z9 hD.at.choose_spec hM.rw.at.choose_spec dA
      have h6w:b6<_:=(sF.1 (s.boxAt (c:=6) rfl).choose_spec.1).1
      have hqx:QB (c.c+((qE G c.n).getD y.1 (0,0)).2) 1:=hcb _ _ _ (.cons hcr hrm) (by have:=hI.few.2;omega)
      refine zEh (T:=fun q=>q=b5∨q=y.2.1) (args:=#[qI b5,a.eval (.tmp 69)]) zF (enters_of func68 kH rfl) s rfl kH rfl rfl (fun q hq=>by rcases hq with rfl|rfl;(exact hM.bpl);(exact hM.rw.plain)) (fmz ⟨fun h=>by rcases h with h|h;(exact hn8b h);(exact hn8g h),fmz ⟨fun h=>by rcases h with h|h;(exact hn6b h);(exact hn6g h),fnz⟩⟩) (by rw [sP];show #[a.eval (.tmp 56),a.eval (.tmp 69)]=_;rw [show a.eval (.tmp 56)=qI b5 from s.fct (.tmp 56)]) (zQc (x:=⟨c.c+((qE G c.n).getD y.1 (0,0)).2,c.s+1,((qE G c.n).getD y.1 (0,0)).1⟩) hM rfl (s.fct (.tmp 69)) (by have:=hin.1;omega) (fun z hz=>hcb _ _ _ (hin.2 z hz).1 (hin.2 z hz).2) hqx hE.t) fun a w hM1 hF1 hk1 s=> ?_
      obtain ⟨g',cp',hg',hM1⟩:=hM1
      replace hn6g:b6≠g':=by rcases hg' with e|e;(rw [e];exact hn6g);omega
      replace hE:=hE.bls hF1 hk1 hEl (fun q hq=>(by rcases hq with rfl|rfl;(exact hb5);(exact hg)))
      replace hJ:=hJs _ _ _ hJ (zF7 hF1 (fun q hq=>⟨(by rcases hq with rfl|rfl;(exact hb5);(exact hg)),(by rcases hq with rfl|rfl;(exact hM.bpl);(exact hM.rw.plain))⟩) hsz)
      replace hsz:=sD hsz hF1.size
      replace hg:W.heap.size<=g':=by rcases hg' with e|e;(rw [e];exact hg);(have:=hF1.size;omega)
      replace hD:=hD.keep (hF1.block gd hD.lt (fun h=>by rcases h with h|h;(exact hdb h);(exact hdg h))) hk1
      replace hM:=hM1
      refine zB rfl (hQ _ _ ?_)
      have hb:=s.below
      replace hE:=hE.below hb
      replace hJ:=hJs _ _ _ hJ (yG hb hsz)
      replace hsz:=sD hsz hb.size
      replace hD:=hD.below hb
      replace hM:=hM.below hb
      replace s:=s.anewB rfl rfl
      have hrl2:True:=trivial
      refine yI 1 ((71, .u (uI ((y.1+1:Nat):Int))):: []) s kH
       (oc (qX .i64 (y.1:Int) 1 ((y.1+1:Nat):Int) iiz iiz (wrap64 _ _ oO oO))<|zE) fun a w13 s=> ?_
      replace s:=s.drop [45]
      refine zCr (uI ((y.1+1:Nat):Int)) rfl s kH zA kH fun a w s=> ?_
      refine zB rfl ?_
      have hb:=s.below
      replace hE:=hE.below hb
      replace hJ:=hJs _ _ _ hJ (yG hb hsz)
      replace hsz:=sD hsz hb.size
      replace hD:=hD.below hb
      replace hM:=hM.below hb
      replace s:=s.anewB rfl rfl
      replace s:=s.popB
      exact ⟨(y.1+1,g',cp'),(by show (qE G c.n).length - (y.1+1)<(qE G c.n).length - y.1;omega),hkl,hg,hn6g,hsz,hE,hD,(by rw [zDG hkl,if_neg (by simpa using e54)];exact hM),hJ,s.keepK _ (fmz ⟨mz8,fmz ⟨mz9,fmz ⟨zGo,fmz ⟨zF2,fmz ⟨zG1,fmz ⟨zK4,fmz ⟨.head _,fnz⟩⟩⟩⟩⟩⟩⟩)⟩
     ·have e54:=e
      refine sI ?_
      have hrl2:True:=trivial
      refine yI 1 ((71, .u (uI ((y.1+1:Nat):Int))):: []) s kH
       (oc (qX .i64 (y.1:Int) 1 ((y.1+1:Nat):Int) iiz iiz (wrap64 _ _ oO oO))<|zE) fun a w14 s=> ?_
      replace s:=s.drop [45]
      refine zCr (uI ((y.1+1:Nat):Int)) rfl s kH zA kH fun a w s=> ?_
      refine zB rfl ?_
      have hb:=s.below
      replace hE:=hE.below hb
      replace hJ:=hJs _ _ _ hJ (yG hb hsz)
      replace hsz:=sD hsz hb.size
      replace hD:=hD.below hb
      replace hM:=hM.below hb
      replace s:=s.anewB rfl rfl
      replace s:=s.popB
      exact ⟨(y.1+1,y.2.1,y.2.2),(by show (qE G c.n).length - (y.1+1)<(qE G c.n).length - y.1;omega),hkl,hg,hn6g,hsz,hE,hD,(by rw [zDG hkl,if_pos (by simpa using e54)];exact hM),hJ,s.keepK _ (fmz ⟨mz5,fmz ⟨mz6,fmz ⟨mz7,fmz ⟨mz8,fmz ⟨mz9,fmz ⟨zGo,fmz ⟨.head _,fnz⟩⟩⟩⟩⟩⟩⟩)⟩
    ·have e46:=e
     refine sT ?_
     replace s:=s.popB
     have hky:y.1=(qE G c.n).length:=by have h7:=tS e46;simp only [tR] at h7;omega
     rw [hky,List.take_length] at hM
     exact ⟨⟨(x.done.set c.n true),jE (x.done.set c.n true) c (qE G c.n) (zDQ wz Wt.lt x.L),x.out++ [c],f',y.2.1,y.2.2⟩,(by show f'<x.f;omega),hI',(by rw [<-hws,hdij];simp),(by show f'<=_;omega),hg,hsz,hE,hD,hM,(by show J (x.out++ [c]).length _;rw [zTX];exact hJ),s.keepK _ (fmz ⟨mz1,fmz ⟨mz2,fmz ⟨mz3,fmz ⟨mz4,fnz⟩⟩⟩⟩)⟩
 ·have h00:x.L.length=0:=by have:=tS e;omega
  refine sT ?_
  exact ⟨s.nd, .tuple #[],by simp [results,results65],⟨_,rfl⟩, .inl (by rw [<-hws,zI2 h00,List.append_nil];exact hJ)⟩
structure Low (N:Nat) (W W':World):Prop where
 size:W.heap.size<=W'.heap.size
 low: ∀k:Nat,k<N->W'.heap[k]?=W.heap[k]?
 keep:yL W W'
theorem Low.of_itr {N:Nat} {W W':Wg} (h:Itr N W W'):Low N W W':=⟨h.size,h.low,h.keep⟩
theorem Low.of_below {N:Nat} {W W':Wg} (h:Below W.heap.size W W') (hN:N<=W.heap.size):Low N W W':=⟨h.size,fun k hk=>h.block k (sJ hk hN),zK h⟩
theorem Low.trans {N:Nat} {U V W:Wg} (h:Low N U V) (k:Low N V W):Low N U W:=⟨sD h.size k.size,fun q hq=>(k.low q hq).trans (h.low q hq),h.keep.trans k.keep⟩
section
variable {S:Nat->Prop} {P:Wl} {Q:Exit->Act->Wg->Prop} {w0:Wg} {K:List (Nat×KF)} {B:List Bx} {n:Nat} {ds:List Deferred} {a:Act} {w:Wg}
theorem StS.hop {T:Nat->Prop} {W W':Wg} (h:StS S w0 K B n ds a W) (hb:BlS T W W') (hk:yL W W') (h0: ∀q,T q->w0.heap.size<=q) (hB: ∀x,x∈B-> ¬T x.b) (hD: ∀Ds,Marks w0.heap.size W ds Ds-> ∀D,D∈Ds-> ¬T D):StS S w0 K B n ds a W':=by
 refine ⟨⟨hb.os.trans h.gr.os,hb.tape.trans h.gr.tape,hb.output.trans h.gr.output,sD h.gr.size hb.size,fun k hk' hs=>(hb.block k (sJ hk' h.gr.size) fun ht=>by have:=h0 k ht;omega).trans (h.gr.block k hk' hs)⟩,
  h.size,h.nd,fun q hq=>KF.us (h.sl q hq) hk,wT hk B (fun x hx=>by
   obtain ⟨_,_,_,h3,_⟩:=h.bx.mem x hx
   exact hb.block _ (sF.1 h3).1 (hB x hx)) h.bx, ?_,h.so⟩
 obtain ⟨Ds,hm⟩:=h.mks
 exact ⟨Ds,hm.eq,hm.nodup,fun D hd=>⟨(hm.at_ D hd).1,(hb.block D (hm.lt D hd) (hD Ds hm D hd)).trans (hm.at_ D hd).2⟩⟩
theorem zJ6 {g:Wk} {ps:Array Tmp} {assign body:Code} {gf:Nat} {lb:Array Wh} {Ef:Nat->List UF} {N:Nat} {T:Nat->Prop} {X:Nat->Wg->Prop}
  (Kr:Nat->List (Nat×KF)) (h:StS S w0 K B n ds a w) (hBr:(B.all fun x=>x.r)=true)
  (hg: ∀v W,(Wd.fct (zAD K B) g).p v W->v= .func (.func gf) #[] lb) (eg: ∀args w,(callFunc gf args).run P w= .ok (.enter gf args) w)
  (hT: ∀q,T q->w0.heap.size<=q/\q<w.heap.size) (hBT: ∀x,x∈B-> ¬T x.b) (hit:ItC P gf lb Ef N False T w)
  (hX: ∀k W W',Low w.heap.size W W'->X k W->X k W') (hXp: ∀k W,X k W-> ∀q,T q->zHn W q) (hx0:X 0 w) (hEl: ∀k,(Ef k).length=ps.size)
  (hKr: ∀k q,q∈Kr k->(q∈K/\zJM q.2=true/\ps.toList.contains q.1=false)∨ ∃(j:Nat) (f:UF),ps[j]?=some q.1/\(Ef k)[j]?=some f/\q.2= .u f)
  (hps:zAL ps.toList=true) (hpl:(ps.toList.all fun p=>Nat.blt p n)=true) (hpB:(B.all fun x=> !ps.toList.contains x.t)=true)
  (rounds: ∀l k W a',k<N->X k W->w.heap.size<=W.heap.size->St W (Kr k) B n [] a' W->
   assign.wpIn (Fence.wide.inRound l) 0 P (Exit.then (fun a1 W1=>Below W.heap.size W W1/\ ∀W2,W2.heap.size=W1.heap.size->X k W2->
    (∀K1 B1,(K1.all fun q=>zJM q.2)=true->(B1.all fun x=>x.r)=true->St W K1 B1 n [] a1 W1->St W2 K1 B1 n [] a1 W2)->
    body.wpIn (Fence.wide.inRound l) 0 P (Exit.then (fun _ W3=>BlS T W2 W3/\X (k+1) W3) (fun _ _ _=>False)) a1 W2) (fun _ _ _=>False)) a' W)
  (done: ∀D W,X N W->StS S w0 K B n (mark D::ds) { a with defers:=mark D::a.defers } W->Q .normal { a with defers:=mark D::a.defers } W):
  (Code.rangeFunc g ps assign body).wpIn Fence.wide 0 P Q a w:=by
 refine wpIn_rangeFunc ?_
 intro fn hfn
 show ∃l mark w₁ d w₁' f args w₂,(Instr.enterLoop fn a.tmps ps assign body none).run P w=_/\_
 obtain ⟨rec,hrec⟩: ∃rec:LoopState->Wj Code->Loop,rec=fun st pe=>{ state:=st,pending:=pe,fn,tmps:=a.tmps,params:=ps,assign,body,defers:=w.heap.size }:=⟨_,rfl⟩
 obtain ⟨W1,hW1⟩: ∃W1,(w.alloc (.deferred (some []))).alloc (.loop (rec .ready none))=W1:=⟨_,rfl⟩
 have hL1:W1.heap[w.heap.size+1]?=some (.loop (rec .ready none)):=by
  rw [<-hW1];have:=tW (w.alloc (.deferred (some []))) (.loop (rec .ready none));rwa [World.size_alloc] at this
 have hK1:W1.heap[w.heap.size]?=some (.deferred (some [])):=by
  rw [<-hW1];exact (Below.heap_alloc _ _ _ (by simp)).trans (tW w _)
 have hb1:Below w.heap.size w W1:=by
  rw [<-hW1];exact ((sH _ w).alloc lr _).alloc (by simp) _
 have hz1:W1.heap.size=w.heap.size+2:=by rw [<-hW1];simp
 have hgv:a.eval g= .func (.func gf) #[] lb:=hg _ _ (h.fct g)
 have hold:=h.old
 have hw0:=h.gr.size
 have hi1:Itr w.heap.size w W1:=yG hb1 lr
 have hs1:=h.itr hi1 hw0 hold
 have hDl: ∀{W:Wg} {o:Obj},W.heap[w.heap.size+1]?=some o->(∃r,o= .loop r)-> ∀Ds,Marks w0.heap.size W ds Ds->w.heap.size+1 ∉ Ds:=fun {W o} ho hr Ds hm hh=>by
  obtain ⟨r,rfl⟩:=hr
  rw [(hm.at_ _ hh).2] at ho
  cases ho
 have hDs: ∀{W:Wg} Ds,Marks w0.heap.size W ds Ds-> ∀D,D∈Ds->D<w.heap.size:=fun {W} Ds hm D hd=>by
  obtain ⟨Ds',hm'⟩:=h.mks
  have:Ds=Ds':=by
   have e:=hm.eq.symm.trans hm'.eq
   exact zG4 e
  subst this
  exact hm'.lt D hd
 refine ⟨w.heap.size+1, [{ target:= .collected w.heap.size,args:=#[] }],W1,{ target:= .fn (.func gf) lb,args:=#[.func (.yield (w.heap.size+1)) #[] #[]] },W1,gf,
  #[.func (.yield (w.heap.size+1)) #[] #[]]++lb,W1, ?_, ?_, ?_, ?_,fun h=>absurd h (by simp [Fence.wide]), ?_⟩
 ·rw [<-hW1,hrec];exact run_enterLoop_outer _ _ _ _ _
 ·simp only [resolve,hgv]
  simp [go_sem]
 ·intro f' _;trivial
 ·simp [invoke,go_sem,eg]
 ·refine callsIn_wide.2 ((hit (w.heap.size+1)
   (fun k W=>StS S w0 K B n ds a W/\W.heap[w.heap.size+1]?=some (.loop (rec .ready none))/\W.heap[w.heap.size]?=some (.deferred (some []))/\w.heap.size+2<=W.heap.size/\X k W)
   (fun _=>False) W1 oO hb1 (zK hb1)
   (fun k A B' ⟨h1,h3,h4,h5,h6⟩ hi=>by
    have hlow:Itr w.heap.size A B':=⟨hi.os,hi.tape,hi.output,hi.size,fun q hq=>hi.low q oO,hi.oth,hi.keep⟩
    exact ⟨h1.itr hlow hw0 hold,hi.oth _ _ h3 rfl,hi.oth _ _ h4 rfl,sD h5 hi.size,hX _ _ _ (.of_itr hlow) h6⟩)
   (fun _ _ h _=>h) (fun he=>he.elim) ?_ ⟨hs1,hL1,hK1,by omega,hX _ _ _ (.of_itr hi1) hx0⟩).mono ?_)
  ·rintro k W xs hk ⟨hs,hl,hd,hz5,hxk⟩ ⟨hxs,hev⟩
   have hlt:w.heap.size+1<W.heap.size:=(sF.1 hl).1
   have hy:=run_yield (P:=P) (args:=xs) hl (by rw [hrec];exact hxs.trans (hEl k))
   rw [hrec] at hy
   have hxs':xs.size=ps.size:=hxs.trans (hEl k)
   have hzip:(ps.zip xs).foldl (fun t (p,v)=>t.setIfInBounds p v) a.tmps=(ps.toList.zip xs.toList).foldl (fun t (p,v)=>t.setIfInBounds p v) a.tmps:=by
    rw [<-Array.foldl_toList,Array.toList_zip]
   have hzf:(ps.toList.zip xs.toList).map (·.1)=ps.toList:=by
    rw [List.map_fst_zip]
    simp [hxs']
   have hnd:ps.toList.Nodup:=zFk hps
   have hs0:St W (Kr k) B n [] { tmps:=(ps.zip xs).foldl (fun t (p,v)=>t.setIfInBounds p v) a.tmps,defers:= [] } W:=by
    refine ⟨BlS.refl _ _, ?_,rfl,fun q hq=> ?_, ?_,⟨[],Marks.nil _ _⟩, .inr fun _ h=>h⟩
    ·show ((ps.zip xs).foldl (fun t (p,v)=>t.setIfInBounds p v) a.tmps).size=n
     rw [hzip,zEa]
     exact h.size
    ·show q.2.p W (((ps.zip xs).foldl (fun t (p,v)=>t.setIfInBounds p v) a.tmps).getD q.1 undef) W
     rw [hzip]
     rcases hKr k q hq with ⟨h1,h2,h3⟩|⟨j,f,h1,h2,h3⟩
     ·rw [zBv q.1 _ _ (by rw [hzf];intro hc;rw [List.contains_iff_mem.2 hc] at h3;cases h3)]
      have:=hs.sl q h1
      cases hq2:q.2 with
      |u f=>rw [hq2] at this;exact this
      |o f=>rw [hq2] at h2;cases h2
     ·have hj:j<ps.size:=(sF.1 h1).1
      have hjx:j<xs.size:=by omega
      have e1:=hev j f h2
      have e2:xs.getD j undef=xs[j]:=by rw [tC,zT4 hjx];rfl
      have e3:ps[j]=q.1:=(sF.1 h1).2
      rw [zGq _ _ q.1 xs[j] (by rw [hzf];exact hnd) (by
       refine List.mem_iff_getElem?.2 ⟨j, ?_⟩
       rw [List.getElem?_zip_eq_some]
       exact ⟨by rw [zT1];exact h1,by rw [zT1,zT4 hjx]⟩) (by
       have:=sK.1 hpl q.1 (by rw [<-e3];exact Array.mem_toList_iff.2 (Array.getElem_mem hj))
       rw [h.size]
       simpa using this)]
      rw [h3]
      rw [e2] at e1
      exact e1
    ·refine wX B (fun x hx=> .inl (by simpa using sK.1 hBr x hx)) (fun x hx=> ?_) hs.bx
     show ((ps.zip xs).foldl (fun t (p,v)=>t.setIfInBounds p v) a.tmps).getD x.t undef=_
     rw [hzip]
     refine zBv _ _ _ ?_
     rw [hzf]
     intro hc
     have:=sK.1 hpB x hx
     rw [List.contains_iff_mem.2 hc] at this
     cases this
   refine ⟨fn,_,assign,body,hy,roundIn_of_wpIn hfn (Code.wpIn_mono ?_ (rounds (w.heap.size+1) k W _ hk hxk oO hs0))⟩
   intro e a1 Wa hp
   cases e with
   | normal=>
    obtain ⟨hgr,hcont⟩:=hp
    have hla:Wa.heap[w.heap.size+1]?=some (.loop (rec .ready none)):=(hgr.block _ hlt).trans hl
    have hda:Wa.heap[w.heap.size]?=some (.deferred (some [])):=(hgr.block _ oO).trans hd
    have hlta:w.heap.size+1<Wa.heap.size:=(sF.1 hla).1
    refine ⟨_,run_beginRound hla (by rw [hrec]), ?_⟩
    obtain ⟨W2,hW2⟩: ∃W2,Wa.putObj (w.heap.size+1) (.loop { rec .ready none with state:= .busy })=W2:=⟨_,rfl⟩
    rw [hW2]
    have hl2:W2.heap[w.heap.size+1]?=some (.loop { rec .ready none with state:= .busy }):=by rw [<-hW2];exact World.putObj_heap_same hlta
    have hd2:W2.heap[w.heap.size]?=some (.deferred (some [])):=by rw [<-hW2];exact (sZ oO).trans hda
    have hz2:W2.heap.size=Wa.heap.size:=by rw [<-hW2,zT5]
    have hk2:yL Wa W2:=fun q u hq=>by
     by_cases e:q.block=w.heap.size+1
     ·rw [zCy hla rfl e] at hq
      cases hq
     ·rw [<-hW2]
      exact (sW (sZ e)).trans hq
    have ho2: ∀q,q≠w.heap.size+1->W2.heap[q]?=Wa.heap[q]?:=fun q hq=>by rw [<-hW2];exact sZ hq
    have hlow2:Low w.heap.size W W2:=(Low.of_below hgr oO).trans ⟨by omega,fun q hq=>ho2 q oO,hk2⟩
    have hx2:=hX _ _ _ hlow2 hxk
    have hbody:=hcont W2 hz2 hx2 (fun K1 B1 hu1 hB1 hs'=>(hs'.jump (T:=fun q=>q=w.heap.size+1) hu1 hB1 ⟨by rw [<-hW2];rfl,by rw [<-hW2];rfl,by rw [<-hW2];rfl,by omega,fun q _ hq=>ho2 q hq⟩ hk2 (fun x hx e=>by
     obtain ⟨cs,_,_,h3,_⟩:=hs'.bx.mem x hx
     rw [e,hla] at h3
     cases h3)))
    refine Code.wpIn_mono ?_ hbody
    intro e a3 W3 hp3
    cases e with
    | normal=>
     obtain ⟨hT3,hx3⟩:=hp3
     have hTl: ∀q,T q->q≠w.heap.size+1/\q≠w.heap.size:=fun q hq=>by have:=(hT q hq).2;omega
     have hl3:W3.heap[w.heap.size+1]?=some (.loop { rec .ready none with state:= .busy }):=(hT3.block _ oO (fun hh=>(hTl _ hh).1 rfl)).trans hl2
     have hd3:W3.heap[w.heap.size]?=some (.deferred (some [])):=(hT3.block _ oO (fun hh=>(hTl _ hh).2 rfl)).trans hd2
     have hlt3:w.heap.size+1<W3.heap.size:=(sF.1 hl3).1
     have hk3:yL W2 W3:=zCh hT3 (hXp k W2 hx2)
     have hrun:=run_endRound (P:=P) none hl3
     obtain ⟨W4,hW4⟩: ∃W4,W3.putObj (w.heap.size+1) (.loop (rec .ready none))=W4:=⟨_,rfl⟩
     have hrun4:(Instr.endRound (w.heap.size+1) none).run P W3= .ok (.bool true) W4:=by rw [<-hW4,hrun,hrec];rfl
     have ho4: ∀q,q≠w.heap.size+1->W4.heap[q]?=W3.heap[q]?:=fun q hq=>by rw [<-hW4];exact sZ hq
     have hz4:W4.heap.size=W3.heap.size:=by rw [<-hW4,zT5]
     have hk4:yL W3 W4:=fun q u hq=>by
      by_cases e:q.block=w.heap.size+1
      ·rw [zCy hl3 rfl e] at hq
       cases hq
      ·exact (sW (ho4 _ e)).trans hq
     have hz3:=hT3.size
     have hza:=hgr.size
     have hb4:BlS (fun q=>T q∨q=w.heap.size+1) W W4:=by
      refine ⟨?_, ?_, ?_,by omega,fun q hq hn=> ?_⟩
      ·rw [<-hW4];exact hT3.os.trans (by rw [<-hW2];exact hgr.os)
      ·rw [<-hW4];exact hT3.tape.trans (by rw [<-hW2];exact hgr.tape)
      ·rw [<-hW4];exact hT3.output.trans (by rw [<-hW2];exact hgr.output)
      ·have hne:q≠w.heap.size+1:=fun e=>hn (.inr e)
       rw [ho4 q hne,hT3.block q oO (fun hh=>hn (.inl hh)),ho2 q hne]
       exact hgr.block q hq
     have hkW:yL W W4:=((zK hgr).trans hk2).trans (hk3.trans hk4)
     have hx4:=hX _ _ _ (⟨by omega,fun q hq=>ho4 q oO,hk4⟩:Low w.heap.size W3 W4) hx3
     refine ⟨_,W4,hrun4, .inl ⟨rfl,hs.hop hb4 hkW (fun q hq=> ?_) (fun x hx hq=> ?_) (fun Ds hm D hd' hq=> ?_),by rw [<-hW4];exact World.putObj_heap_same hlt3,(ho4 _ oO).trans hd3,by omega,hx4⟩, ?_⟩
     ·rcases hq with hq|hq
      ·exact (hT q hq).1
      ·omega
     ·rcases hq with hq|hq
      ·exact hBT x hx hq
      ·have:=hold x hx;omega
     ·rcases hq with hq|hq
      ·obtain ⟨cs,t,z,h3,_⟩:=hXp k W hxk D hq
       rw [(hm.at_ D hd').2] at h3
       cases h3
      ·subst hq
       exact hDl hl ⟨_,rfl⟩ Ds hm hd'
     ·exact zLy hb4 (fun q hq=>by
       rcases hq with hq|hq
       ·have:=(hT q hq).2;omega
       ·omega) oO (l:=w.heap.size+1) oO hl rfl (fun q hq=>hq) hkW
    |_=>exact hp3.elim
   |_=>exact hp.elim
  ·rintro e W2 ⟨⟨v,rfl⟩,(⟨hs,hl,hd,_,hx⟩|hz)⟩
   ·have hxo: ∀o',X N (W2.putObj (w.heap.size+1) o'):=fun o'=>hX _ _ _ (⟨by rw [zT5];exact sL _,fun q hq=>sZ oO,fun q u hq=>by
     by_cases e:q.block=w.heap.size+1
     ·rw [zCy hl rfl e] at hq
      cases hq
     ·exact (sW (sZ e)).trans hq⟩:Low w.heap.size W2 _) hx
    have hmo: ∀o':Obj,StS S w0 K B n (mark w.heap.size::ds) { a with defers:=mark w.heap.size::a.defers } (W2.putObj (w.heap.size+1) o'):=fun o'=>
     (hs.put (o':=o') hl rfl (hDl hl ⟨_,rfl⟩) (.inr oO)).more hw0 ((sZ oO).trans hd) (fun Ds hm hh=>absurd (hDs Ds hm _ hh) (sU _))
    exact ⟨none,_,by have:=run_endLoop (P:=P) hl (by rw [hrec];simp);rw [hrec] at this;exact this,done _ _ (hxo _) (hmo _)⟩
   ·exact hz.elim
end
section
variable {F:Fence} {m:Nat} {P:Wl} {ops:Array Oper} {Q:Exit->Act->Wg->Prop} {E:Array Bool->Nat->Wh->Wg->Prop} {C:Array Bool->Wg->Prop} {R:Nat->Wg->Wg->Prop} {a0:Act} {k:Nat}
structure FR (ops:Array Oper) (E:Array Bool->Nat->Value->World->Prop) (C:Array Bool->World->Prop) (a0:Act) (k:Nat) (listed:Array Bool) (a:Act) (w:World):Prop where
 cls:C listed w
 size:a.tmps.size=a0.tmps.size
 nd:a.defers=a0.defers
 keep: ∀t,(∀j,j<k->zX ops j≠some t)->a.tmps.getD t undef=a0.tmps.getD t undef
 vals: ∀j,j<k->listed.getD j false=true-> ∀t,zX ops j=some t->E listed j (a.tmps.getD t undef) w
 old: ∀j,j<k->listed.getD j false=false-> ∀t,zX ops j=some t->a.tmps.getD t undef=a0.tmps.getD t undef
theorem zSI (hear:zA3 ops=true) (htl:zCJ ops (Array.replicate ops.size false) k=true) (hk:k<=ops.size) (hap:qS ops=true) (hfr:jP ops a0.tmps.size=true)
  (hC: ∀i (l:Array Bool) w w',i<k->l.size=ops.size->l.getD i false=false->C l w->R i w w'->C (l.setIfInBounds i true) w') (hE: ∀i j (l:Array Bool) v w w',i<k->j<k->i≠j->l.size=ops.size->l.getD i false=false->l.getD j false=true->zCG ops l->(∀o,ops[i]?=some o-> ∀e∈o.after,Region.binds .any e=true->l.getD e.on false=true)->E l j v w->R i w w'->E (l.setIfInBounds i true) j v w')
  (hspec: ∀i o,i<k->ops[i]?=some o-> ∀(listed:Array Bool) a w,FR ops E C a0 k listed a w->listed.getD i false=false->(∀e∈o.after,Region.binds .any e=true->listed.getD e.on false=true)-> ∀Kk:Act->Wg->Prop,(∀v w',E (listed.setIfInBounds i true) i v w'->R i w w'->Kk (a.put o.dst v) w')->wpOpIn F m P ops (qL Q) i Kk a w)
  (hfin: ∀a w,FR ops E C a0 k (lst ops.size (List.range k)) a w->zJL F m P ops (fun _=>True) Q (List.range k) a w):
  ∀(fuel:Nat) (listed:Array Bool) (a:Act) (w:Wg),listed.count false=fuel->listed.size=ops.size->(∀i,k<=i->listed.getD i false=false)->zCG ops listed->FR ops E C a0 k listed a w->jJ F m P .any ops ops.size (fun _=>True) (qL Q) fuel listed a w:=by
 intro fuel
 have hdone: ∀(listed:Array Bool) (a:Act) (w:Wg),listed.size=ops.size->(∀i,k<=i->listed.getD i false=false)->(∀i,i<k->listed.getD i false=true)->FR ops E C a0 k listed a w->jJ F m P .any ops ops.size (fun _=>True) (qL Q) (listed.count false) listed a w:=fun listed a w hs hlate hall hf=>by
  have hl:listed=lst ops.size (List.range k):=zEI hs fun i _=>by
   cases h:inL (List.range k) i with
   |true=>exact hall i (sR.1 (zEO h))
   |false=>
    refine hlate i (Nat.not_lt.1 fun hi=> ?_)
    rw [zFo (sR.2 hi)] at h
    cases h
  rw [hl] at hf ⊢
  exact hfin a w hf
 induction fuel with
 | zero=>
  intro listed a w hc hs hlate hcl hf
  rw [<-hc]
  refine hdone listed a w hs hlate (fun i hi=> ?_) hf
  cases hg:listed.getD i true with
  |true=>
   have hlt:i<listed.size:=by omega
   simp [hlt] at hg ⊢
   exact hg
  |false=>have:=jK hg;omega
 | succ fuel ih=>
  intro listed a w hc hs hlate hcl hf
  by_cases hall: ∀i,i<k->listed.getD i false=true
  ·rw [<-hc]
   exact hdone listed a w hs hlate hall hf
  ·simp only [Classical.not_forall] at hall
   obtain ⟨u,huk,hu⟩:=hall
   have hlt:u<listed.size:=by omega
   have hu':listed.getD u true=false:=by
    simp [hlt] at hu ⊢
    exact hu
   have hsome: ∀i,listed.getD i true=false->Region.ready .any ops listed≠ []:=by
    intro i
    induction i using Nat.strongRecOn with
    | _ i ihi=>
     intro hi hnil
     have hlt:i<listed.size:=by
      rcases Nat.lt_or_ge i listed.size with e|e
      ·exact e
      ·simp [Array.getElem?_eq_none e] at hi
     have ho:ops[i]?=some (ops[i]'(by rw [<-hs];exact hlt)):=zT4 _
     by_cases hall: ∀e∈(ops[i]'(by rw [<-hs];exact hlt)).after,Region.binds .any e=true->listed.getD e.on false=true
     ·have hm:i∈Region.ready .any ops listed:=mem_ready.2 ⟨hi,_,ho,hall⟩
      rw [hnil] at hm
      cases hm
     ·simp only [Classical.not_forall] at hall
      obtain ⟨e,he,hb,hg⟩:=hall
      have hel:=zAP hear ho he hb
      refine ihi e.on hel ?_ hnil
      have hlt2:e.on<listed.size:=by omega
      simp [hlt2] at hg ⊢
      exact hg
   refine ⟨fun hnil=>(hsome u hu' hnil).elim,fun i hi=> ?_⟩
   obtain ⟨hun,o,ho,hall⟩:=mem_ready.1 hi
   have hil:=(sF.1 ho).1
   have hik:i<k:=by
    rcases Nat.lt_or_ge i k with e|e
    ·exact e
    ·exfalso
     have h1:=sK.1 htl i (sR.2 hil)
     rw [sX oO,zT3] at h1
     have h2:=sK.1 h1 u (sR.2 huk)
     have h3:(Array.replicate ops.size false).getD u true=false:=by
      rw [tC,zUa,if_pos oO]
      rfl
     rw [h3,zT3] at h2
     exact hu (zAQ hcl _ u i o ho hall h2)
   have hun':listed.getD i false=false:=by
    have hlt:i<listed.size:=by omega
    simp [hlt] at hun ⊢
    exact hun
   refine hspec i o hik ho listed a w hf hun' hall _ fun v w' hv hR=>⟨.inr trivial, ?_⟩
   refine ih (listed.setIfInBounds i true) (a.put o.dst v) w' ?_ (by simpa using hs) (fun j hj=> ?_) (fun j oj hj hoj e he hbe=> ?_) ⟨hC i _ _ _ hik hs hun' hf.cls hR,by rw [zBP];exact hf.size,by rw [zA0];exact hf.nd,fun t ht=> ?_,fun j hj hjl t ht=> ?_,fun j hj hjl t ht=> ?_⟩
   ·have:=jK hun
    omega
   ·rw [tD false oO]
    exact hlate j hj
   ·by_cases e2:j=i
    ·subst e2
     rw [ho] at hoj
     cases hoj
     have hel:=zAP hear ho he hbe
     rw [tD false oO]
     exact hall e he hbe
    ·rw [tD false (Ne.symm e2)] at hj
     have:=hcl j oj hj hoj e he hbe
     by_cases e3:e.on=i
     ·rw [e3]
      have hlt:i<listed.size:=by omega
      simp [hlt]
     ·rw [tD false (Ne.symm e3)]
      exact this
   ·rw [zBV (fun hd=>ht i hik (by rw [qZ ho];exact hd))]
    exact hf.keep t ht
   ·by_cases e2:j=i
    ·subst e2
     rw [qZ ho] at ht
     have:(a.put o.dst v).tmps.getD t undef=v:=by
      rw [ht]
      exact jC (by rw [hf.size];exact y4 hfr ho ht) v
     rw [this]
     exact hv
    ·rw [tD false (Ne.symm e2)] at hjl
     rw [zBV (fun hd=>by
      obtain ⟨oj,hoj,hdj⟩:=yZ ht
      exact jD hap ho hoj (Ne.symm e2) hd hdj)]
     exact hE i j _ _ _ _ hik hj (Ne.symm e2) hs hun' hjl hcl (fun o' ho'=>by rw [ho] at ho';cases ho';exact hall) (hf.vals j hj hjl t ht) hR
   ·by_cases e2:j=i
    ·subst e2
     have hlt:j<listed.size:=by omega
     rw [tC,Array.getElem?_setIfInBounds_self_of_lt hlt] at hjl
     cases hjl
    ·rw [tD false (Ne.symm e2)] at hjl
     rw [zBV (fun hd=>by
      obtain ⟨oj,hoj,hdj⟩:=yZ ht
      exact jD hap ho hoj (Ne.symm e2) hd hdj)]
     exact hf.old j hj hjl t ht
theorem zFf {n:Nat} {id:Nat} {w:Wg} (E:Array Bool->Nat->Wh->Wg->Prop) (C:Array Bool->Wg->Prop) (R:Nat->Wg->Wg->Prop) (k:Nat) (hmix:P.follows .mixedOrders=true) (hs:a0.tmps.size=n)
  (hchk:(zA3 ops&&zCJ ops (Array.replicate ops.size false) k&&decide (k<=ops.size)&&qS ops&&jP ops n&&(List.range (ops.size - k)).all fun r=>Region.ready .any ops (yF ops.size (k+r))== [k+r])=true)
  (hC: ∀i (l:Array Bool) w w',i<k->l.size=ops.size->l.getD i false=false->C l w->R i w w'->C (l.setIfInBounds i true) w') (hE: ∀i j (l:Array Bool) v w w',i<k->j<k->i≠j->l.size=ops.size->l.getD i false=false->l.getD j false=true->zCG ops l->(∀o,ops[i]?=some o-> ∀e∈o.after,Region.binds .any e=true->l.getD e.on false=true)->E l j v w->R i w w'->E (l.setIfInBounds i true) j v w') (h0: ∀l w',(∀i,l.getD i false=false)->Below w.heap.size w w'->C l w')
  (hspec: ∀i o,i<k->ops[i]?=some o-> ∀(listed:Array Bool) a w,FR ops E C a0 k listed a w->listed.getD i false=false->(∀e∈o.after,Region.binds .any e=true->listed.getD e.on false=true)-> ∀Kk:Act->Wg->Prop,(∀v w',E (listed.setIfInBounds i true) i v w'->R i w w'->Kk (a.put o.dst v) w')->wpOpIn F m P ops (qL Q) i Kk a w)
  (hfin: ∀Q':Exit->Act->Wg->Prop,(∀a w,Q .normal a w->Q' .normal a w)-> ∀a w,C (lst ops.size (List.range k)) w->a.tmps.size=n->a.defers=a0.defers->(∀t,(∀j,j<k->zX ops j≠some t)->a.tmps.getD t undef=a0.tmps.getD t undef)->(∀j,j<k-> ∀t,zX ops j=some t->E (lst ops.size (List.range k)) j (a.tmps.getD t undef) w)->zBt F m P ops Q' k a w):(Code.region id ops true).wpIn F m P Q a0 w:=by
 simp only [tQ,decide_eq_true_eq] at hchk
 obtain ⟨⟨⟨⟨⟨h1,h2⟩,h3⟩,h4⟩,h5⟩,h6⟩:=hchk
 refine zY ops.size (fun _=>True) hmix ?_
 have hd:Below w.heap.size w w.drew:=(sH _ w).drew
 have hr: ∀i d,(Array.replicate ops.size false).getD i d=if i<ops.size then false else d:=fun i d=>by
  rw [tC,zUa]
  split<;>rfl
 refine zSI (E:=E) (C:=C) (R:=R) (a0:=a0) (k:=k) h1 h2 h3 h4 (by rw [hs];exact h5) hC hE hspec (fun a w hf=> ?_) _ _ a0 w.drew (Array.count_replicate_self ..) (by simp) (fun i _=>by rw [hr];split<;>rfl) (fun i o hi=>by rw [hr] at hi;split at hi<;>cases hi) ⟨h0 _ _ (fun i=>by rw [hr];split<;>rfl) hd,rfl,rfl,fun _ _=>rfl,(fun j hj hl=>by rw [hr] at hl;split at hl<;>cases hl),fun _ _ _ _ _=>rfl⟩
 refine zEv (k:=k) (fun r hr=>(by have:=sK.1 h6 r (sR.2 hr);simpa using this)) (ops.size - k) 0 _ a w oO (fun i _=> ?_) (hfin (qL Q) iiz a w hf.cls (by rw [hf.size];exact hs) hf.nd hf.keep fun j hj t ht=>hf.vals j hj (by rw [zAM oO];exact zFo (sR.2 hj)) t ht)
 rw [Nat.add_zero]
 cases e:inL (List.range k) i with
 |true=>exact (tE (sR.1 (zEO e))).symm
 |false=>exact (sX fun hk=>by rw [zFo (sR.2 hk)] at e;cases e).symm
theorem zBk {n:Nat} {id:Nat} {w:Wg} (E:Nat->Wh->Wg->Prop) (C:Array Bool->Wg->Prop) (R:Nat->Wg->Wg->Prop) (k:Nat) (hmix:P.follows .mixedOrders=true) (hs:a0.tmps.size=n)
  (hchk:(zA3 ops&&zCJ ops (Array.replicate ops.size false) k&&decide (k<=ops.size)&&qS ops&&jP ops n&&(List.range (ops.size - k)).all fun r=>Region.ready .any ops (yF ops.size (k+r))== [k+r])=true)
  (hC: ∀i (l:Array Bool) w w',i<k->l.size=ops.size->l.getD i false=false->C l w->R i w w'->C (l.setIfInBounds i true) w') (hE: ∀i j v w w',i<k->j<k->i≠j->E j v w->R i w w'->E j v w') (h0: ∀l w',(∀i,l.getD i false=false)->Below w.heap.size w w'->C l w')
  (hspec: ∀i o,i<k->ops[i]?=some o-> ∀(listed:Array Bool) a w,FR ops (fun _=>E) C a0 k listed a w->listed.getD i false=false->(∀e∈o.after,Region.binds .any e=true->listed.getD e.on false=true)-> ∀Kk:Act->Wg->Prop,(∀v w',E i v w'->R i w w'->Kk (a.put o.dst v) w')->wpOpIn F m P ops (qL Q) i Kk a w)
  (hfin: ∀Q':Exit->Act->Wg->Prop,(∀a w,Q .normal a w->Q' .normal a w)-> ∀a w,C (lst ops.size (List.range k)) w->a.tmps.size=n->a.defers=a0.defers->(∀t,(∀j,j<k->zX ops j≠some t)->a.tmps.getD t undef=a0.tmps.getD t undef)->(∀j,j<k-> ∀t,zX ops j=some t->E j (a.tmps.getD t undef) w)->zBt F m P ops Q' k a w):(Code.region id ops true).wpIn F m P Q a0 w:=
 zFf (fun _=>E) C R k hmix hs hchk hC (fun i j _ v w w' hi hj hij _ _ _ _ _=>hE i j v w w' hi hj hij) h0 hspec hfin
end
end Go.Proofs.Wd
