/- Walks of quot's guess, less, more; The walk of quot's more; Plain fact and what it needs. -/
import Derived.Test.YthegekeodchhiaaGreatDoorMLR9
import Derived.Lib.Mul64
import Derived.Laws.Bits64b
import Derived.BigQuiet
import Derived.Laws.Externs
theorem oI {P:Prop} (h:P:=by omega):P:=h
abbrev hU:=@Nat.le_refl
abbrev hZ:=@Nat.div_eq_of_lt
abbrev lA:=@Go.IntKind.wrap_u64
abbrev lB:=@Nat.mod_eq_of_lt
abbrev lC:=@List.length_set
abbrev lD:=@Nat.pow_succ
abbrev lE:=@Go.Lib.half_mul_le
abbrev WW:=Go.World
namespace Go.Proofs.Wd
open Tryz
set_option maxHeartbeats 1000000
open Go.RowKit Lb
namespace M64
theorem maskN (a:Nat) (ha:a<18446744073709551616):bits .and .u64 (a:Int) 4294967295=((a % 4294967296:Nat):Int):=by
 have h:=bits_and_u64_nat a 4294967295 ha oI
 have e:a&&& 4294967295=a % 4294967296:=Nat.and_two_pow_sub_one_eq_mod a 32
 rw [e] at h
 exact h
theorem divN (a:Nat):(a:Int) / 4294967296=((a / 4294967296:Nat):Int):=by omega
theorem mulN (a b:Nat):(a:Int)*(b:Int)=((a*b:Nat):Int):=(Int.natCast_mul a b).symm
theorem addN (a b:Nat):(a:Int)+(b:Int)=((a+b:Nat):Int):=(Int.natCast_add a b).symm
theorem wrapN (a:Nat) (ha:a<18446744073709551616):IntKind.u64.wrap (a:Int)=(a:Int):=by rw [lA];omega
theorem wrapM (a:Nat):IntKind.u64.wrap (a:Int)=((a % 18446744073709551616:Nat):Int):=by rw [lA];omega
end M64
theorem zMq (x y:Nat) (hx:x<18446744073709551616) (hy:y<18446744073709551616) (w:WW):
  Calls prog 172 #[.int .u64 x, .int .u64 y] w fun e w'=>e= .returned (.tuple #[.int .u64 ((x*y / 18446744073709551616:Nat):Int), .int .u64 ((x*y % 18446744073709551616:Nat):Int)])/\w'=w:=by
 obtain ⟨bd,bt,bw,hhi⟩:=Lib.mul64_hi x y hx hy
 have ba:=lE (a:=x / 4294967296) (b:=y / 4294967296) oI oI
 have bb:=lE (a:=x / 4294967296) (b:=y % 4294967296) oI oI
 have bc:=lE (a:=x % 4294967296) (b:=y / 4294967296) oI oI
 have ba':x / 4294967296*(y / 4294967296)<18446744073709551616:=by omega
 have bb':x / 4294967296*(y % 4294967296)<18446744073709551616:=by omega
 have bc':x % 4294967296*(y / 4294967296)<18446744073709551616:=by omega
 have bh1:x / 4294967296*(y / 4294967296)+(x / 4294967296*(y % 4294967296)+x % 4294967296*(y % 4294967296) / 4294967296) / 4294967296<18446744073709551616:=by omega
 have bh:x / 4294967296*(y / 4294967296)+(x / 4294967296*(y % 4294967296)+x % 4294967296*(y % 4294967296) / 4294967296) / 4294967296+((x / 4294967296*(y % 4294967296)+x % 4294967296*(y % 4294967296) / 4294967296) % 4294967296+x % 4294967296*(y / 4294967296)) / 4294967296<18446744073709551616:=by omega
 go_enter func172,ntmps172
 go_wp2
 simp only [M64.maskN x hx,M64.maskN y hy,M64.divN,M64.mulN,M64.addN,M64.wrapN _ bd,M64.wrapN _ bb',M64.wrapN _ bt,M64.maskN _ bt,M64.wrapN _ bc',M64.wrapN _ bw,M64.wrapN _ ba',M64.wrapN _ bh1,M64.wrapN _ bh,M64.wrapM (x*y)]
 rw [hhi]
 go_ret2
 exact ⟨rfl,rfl⟩
theorem zNl (x y:Nat) (w:WW):(callFunc 173 #[.int .u64 (x:Int), .int .u64 (y:Int), .int .u64 0]).run prog w=
  .ok (.value (.tuple #[.int .u64 (((x+y) % 18446744073709551616:Nat):Int), .int .u64 (((x+y) / 18446744073709551616:Nat):Int)])) w:=by
 rw [run_callFunc_extern func173 (by kernel_rfl) (by kernel_rfl) (by kernel_rfl) (e:=add64Entry) (by kernel_rfl),run_add64 x y 0 oI oI oI oI]
 simp only [Result.andThen]
 congr 5<;>omega
theorem zIB (x t p:Nat) (h:x*t=p) (hp:p<18446744073709551616) (hx:x<4294967296) (ht:t<4294967296) (w:WW):
  Calls prog 172 #[.int .u64 (x:Int), .int .u64 (t:Int)] w fun e w'=>e= .returned (.tuple #[.int .u64 0, .int .u64 (p:Int)])/\w'=w:=by
 have:=zMq x t oI oI w
 rw [h,hZ hp,lB hp] at this
 exact this
theorem zIT (x y s:Nat) (h:x+y=s) (hs:s<18446744073709551616) (w:WW):(callFunc 173 #[.int .u64 (x:Int), .int .u64 (y:Int), .int .u64 0]).run prog w= .ok (.value (.tuple #[.int .u64 (s:Int), .int .u64 0])) w:=by
 have:=zNl x y w
 rw [h,hZ hs,lB hs] at this
 exact this
theorem zIv (x:Nat) (h:x<18446744073709551616):bits .or .u64 0 (x:Int)=(x:Int):=by
 have:=u64_or_nat 0 x oI h
 rwa [Nat.zero_or] at this
def zCG (lr lb:List Nat) (at_ n:Nat):Nat:=min ((lm lr (at_+n)*4294967296+lm lr (at_+n - 1)) / lm lb (n - 1)) 4294967295
def zPl (w:WW) (g:Nat):Ending->WW->Prop:=fun e w'=>e= .returned (.int .u64 (g:Int))/\ ∃nq,w'=w.drewN nq
theorem zMQ (D R rc:Nat) (lr:List Nat) (A:Option Addr) (n c:Nat) (lb:List Nat) (at_:Nat) (w:WW) (h:LongAt w D R rc lr A n c lb) (ht:Lt lr) (ht':Lt lb) (hn:0<n) (hat:at_+n<lr.length) (hv:0<lm lb (n - 1)):
    Calls prog 167 #[.pointer (some ⟨D,0,none⟩), .int .i64 (at_:Int)] w (zPl w (zCG lr lb at_ n)):=by
  have hcap:=h.row.cap
  have hle:=h.by_.le;have hcap':=h.by_.cap
  obtain ⟨⟨c0,c1⟩,_,_⟩:=h.box.facts2
  have r1:=h.row.cell (i:=at_+n) hat
  have r2:=h.row.cell (i:=at_+n - 1) oI
  obtain ⟨b,o,rfl,_,hcb⟩:=h.by_.shape hn
  have r3:=hcb (n - 1) oI
  have x1:=qM ht (at_+n);have x2:=qM ht (at_+n - 1);have x3:=qM ht' (n - 1)
  simp only [BB] at x1 x2 x3
  have e1:((at_:Int)+(n:Int)).toNat=at_+n:=by omega
  have e2:((at_:Int)+(n:Int) - 1).toNat=at_+n - 1:=by omega
  have e3:((n:Int) - 1).toNat=n - 1:=by omega
  obtain ⟨N,hN⟩: ∃N,lr.length=N:=⟨_,rfl⟩
  rw [hN] at c0 hat hcap
  have HG:Hid (zCG lr lb at_ n=min ((lm lr (at_+n)*4294967296+lm lr (at_+n - 1)) / lm lb (n - 1)) 4294967295):=rfl
  obtain ⟨g,hg⟩: ∃g,zCG lr lb at_ n=g:=⟨_,rfl⟩
  rw [hg] at HG ⊢
  clear hg
  obtain ⟨p,hp⟩: ∃p,lm lr (at_+n)=p:=⟨_,rfl⟩
  obtain ⟨q,hq⟩: ∃q,lm lr (at_+n - 1)=q:=⟨_,rfl⟩
  obtain ⟨v,hv1⟩: ∃v,lm lb (n - 1)=v:=⟨_,rfl⟩
  rw [hp,hq,hv1] at HG
  rw [hp] at r1 x1;rw [hq] at r2 x2;rw [hv1] at r3 x3 hv
  clear hp hq hv1
  obtain ⟨t,ht1⟩: ∃t,p*4294967296+q=t:=⟨_,rfl⟩
  have hor:=zEH p q x1 x2
  rw [ht1] at hor HG
  have ht2:t<18446744073709551616:=by omega
  obtain ⟨u,hu⟩: ∃u,t / v=u:=⟨_,rfl⟩
  rw [hu] at HG
  have hdv:(t:Int) / (v:Int)=(u:Int):=by rw [<-hu,Int.natCast_ediv]
  have hu2:u<18446744073709551616:=by rw [<-hu];exact Nat.lt_of_le_of_lt (Nat.div_le_self _ _) ht2
  have hv0: ¬(v:Int)=0:=by omega
  clear hu ht1
  have hgu:=HG.out
  rcases (by omega:(u<4294967295/\g=u)∨(4294967295<=u/\g=4294967295)) with ⟨h9,rfl⟩|⟨h9,rfl⟩
  all_goals
    clear hgu HG
    go_enter func167,ntmps167
    go_wp2
    go_quiet (fail)
    go_wp2
    all_goals
      go_ret
      first | exact ⟨rfl, _, rfl⟩ | (have hu5:u=4294967295:=by omega
                                     subst hu5
                                     exact ⟨rfl,_,rfl⟩)
def zTN (w:WW) (D R rc:Nat) (lr:List Nat) (A:Option Addr) (n c:Nat) (lb:List Nat) (at_ t:Nat) (ov un i:Value) (W:WW):Prop:=
 ∃(k o u:Nat) (l':List Nat),k<=n+1/\i= .int .i64 k/\ov= .int .u64 o/\un= .int .u64 u/\o<4294967296/\u<=1/\(k=n+1->o=0)/\l'.length=lr.length/\Lt l'/\(∀x,x<at_∨at_+k<=x->lm l' x=lm lr x)/\
  win lr at_ k+(o+u)*BB^k=win l' at_ k+t*sm (lm lb) k/\LongAt W D R rc l' A n c lb/\w.grownBy W (some R)
def zNs (w:WW) (D R rc:Nat) (lr:List Nat) (A:Option Addr) (n c:Nat) (lb:List Nat) (at_ t:Nat):Ending->WW->Prop:=fun e w'=> ∃(f:Bool) (l':List Nat),e= .returned (.bool f)/\l'.length=lr.length/\Lt l'/\
 (∀x,x<at_∨at_+(n+1)<=x->lm l' x=lm lr x)/\win lr at_ (n+1)+(if f then 0 else 1)*BB^(n+1)=win l' at_ (n+1)+t*val lb/\LongAt w' D R rc l' A n c lb/\w.grownBy w' (some R)
theorem zOV (D R rc:Nat) (lr:List Nat) (A:Option Addr) (n c:Nat) (lb:List Nat) (at_ t:Nat) (w:WW) (h:LongAt w D R rc lr A n c lb) (ht:Lt lr) (ht':Lt lb) (hn:0<n) (hat:at_+n<lr.length) (htl:t<4294967296):
  Calls prog 168 #[.pointer (some ⟨D,0,none⟩), .int .i64 (at_:Int), .int .u64 (t:Int)] w (zNs w D R rc lr A n c lb at_ t):=by
 have hcap:=h.row.cap
 have hle:=h.by_.le;have hcap':=h.by_.cap
 obtain ⟨⟨c0,c1⟩,_,_⟩:=h.box.facts2
 obtain ⟨N,hN⟩: ∃N,lr.length=N:=⟨_,rfl⟩
 rw [hN] at c0 hat hcap
 have HN:=hid hN
 clear hN
 go_enter func168,ntmps168
 go_wp2
 go_quiet (fail)
 go_wp2
 go_loopw [8,9,32] (zTN w D R rc lr A n c lb at_ t) (fun _ _ i _=>n+1 - (intOf i).toNat)
 case atStart=>exact ⟨0,0,0,lr,Nat.zero_le _,rfl,rfl,rfl,by omega,by omega,by omega,rfl,ht,fun _ _=>rfl,by simp [win,sm],h.grown ⟨rfl,rfl,rfl,hU _,fun _ _ _=>rfl⟩ (h.row.kept rfl) rfl,⟨rfl,rfl,rfl,hU _,fun _ _ _=>rfl⟩⟩
 case round=>
  obtain ⟨k,o,u,l',hk,rfl,rfl,rfl,ho,hu,hz,hl,hlt,hun,heq,hL,hG⟩:=hrel
  have HQ:=hid heq
  have HZ:=hid hz
  have HU:=hid hun
  clear heq hz hun
  obtain ⟨⟨g0,g1⟩,_,_⟩:=hL.box.facts2
  have hlN:l'.length=N:=hl.trans HN.out
  rw [hlN] at g0
  by_cases hkn:k<n+1
  ·have gr:=hL.row.cell (i:=at_+k) oI
   have gf:=hL.row.frozen (at_+k)
   have hold1:lm l' (at_+k)=lm lr (at_+k):=HU.out _ (.inr (hU _))
   have x1:=qM hlt (at_+k);have x2:=qM ht' k
   simp only [BB] at x1 x2
   obtain ⟨old,hold⟩: ∃x,lm l' (at_+k)=x:=⟨_,rfl⟩
   obtain ⟨x,hx⟩: ∃x,lm lb k=x:=⟨_,rfl⟩
   rw [hold] at gr x1 hold1
   rw [hx] at x2
   obtain ⟨p,s,lo,o',z,u',hp,hp2,hs,hs2,hlo,hov,ho2,hlo2,hz1,hu1,hz2,hu2,hm1,hm2,hx0⟩:=zMB x t o old u x2 htl ho x1 hu
   have HP:=hid hp;have HS:=hid hs
   have hmul:=zIB x t p hp hp2 x2 htl
   have hadd:=zIT p o s hs hs2
   have HX:=hid hx;have HO:=hid hold;have HO1:=hid hold1;have HM:=hid (And.intro hm1 hm2);have H0:=hid hx0
   clear hx hold hold1 hm1 hm2 hx0 hp hs
   have hmask:=M64.maskN s hs2
   rw [hlo] at hmask
   have hsh:(s:Int) / 4294967296=(o':Int):=by omega
   have hor:=zIv o' oI
   have hend:zTN w D R rc lr A n c lb at_ t (.int .u64 (o':Int)) (.int .u64 (u':Int)) (.int .i64 ((k:Int)+1)) (wr.setCell ⟨R,at_+k,none⟩ (.int .u32 (z:Int))):=by
    refine ⟨k+1,o',u',l'.set (at_+k) z,by omega,by go_num,rfl,rfl,ho2,hu2,fun e=>H0.out ?_,by rw [lC];exact hl,zCK hlt hz2,fun y hy=> ?_, ?_,hL.grown (qC wr _ _) (hL.row.set _ _) (by rw [lC]),hG.trans (qC wr ⟨R,at_+k,none⟩ _)⟩
    ·rw [<-HX.out]
     exact zDQ (by rw [h.by_.len];omega)
    ·rw [zAU oI,if_neg oI]
     exact HU.out y oI
    ·have e1:lm (l'.set (at_+k) z) (at_+k)=z:=by rw [zAU oI,if_pos rfl]
     rw [zAG,zAG,zEQ,e1, <-HO1.out,lD]
     show _+_*(BB^k*4294967296)=_+t*(sm (lm lb) k+lm lb k*BB^k)
     rw [HX.out]
     exact zMC HQ.out HM.out.1 HM.out.2
   have hy:IntKind.u64.wrap (IntKind.u64.wrap ((old:Int) - (lo:Int)) - (u:Int))=((old:Int) - (lo:Int) - (u:Int)) % 18446744073709551616:=by rw [lA,lA];omega
   have HE:=hid hend
   have HY:=hid hy
   have HZ1:=hid (And.intro hz1 hu1)
   clear hend hy hz1 hu1
   rcases (by omega:k<n∨k=n) with hk2|hk2
   ·obtain ⟨b,off,rfl,hcb⟩:=hL.by_.cells k hk2
    rw [HX.out] at hcb
    go_wp2_with (go_at_call 172;refine (hmul _).mono ?_;rintro e w1 ⟨rfl,rfl⟩)
    rw [HY.out,HZ1.out.1,HZ1.out.2]
    exact ⟨HE.out,by simp [intOf];omega⟩
   ·subst hk2
    have hx3:=HX.out
    rw [zDQ (by rw [h.by_.len];exact hU _)] at hx3
    subst hx3
    go_wp2_with (go_at_call 172;refine (hmul _).mono ?_;rintro e w1 ⟨rfl,rfl⟩)
    rw [HY.out,HZ1.out.1,HZ1.out.2]
    exact ⟨HE.out,by simp [intOf]⟩
  ·obtain rfl:k=n+1:=by omega
   have ho0:=HZ.out rfl
   subst ho0
   have hv:sm (lm lb) (n+1)=val lb:=zA5 (by rw [h.by_.len];omega)
   have hq:=HQ.out
   rw [hv] at hq
   have hr: ∀f:Bool,(if f=true then 0 else 1)=u->zNs w D R rc lr A n c lb at_ t (.returned (.bool f)) wr:=fun f hf=>
    ⟨f,l',rfl,hl,hlt,HU.out,by rw [hf, <-hq,Nat.zero_add],hL,hG⟩
   have HR:=hid hr
   clear hq hr hv
   go_wp2
   rcases (by omega:u=0∨u=1) with rfl|rfl
   ·go_ret
    exact HR.out true rfl
   ·go_ret
    exact HR.out false rfl
end Go.Proofs.Wd

namespace Go.Proofs.Wd
open Tryz
set_option maxHeartbeats 1000000
open Go.RowKit Lb
def zTL (w:WW) (D R rc:Nat) (lr:List Nat) (A:Option Addr) (n c:Nat) (lb:List Nat) (at_:Nat) (ov i:Value) (W:WW):Prop:=
 ∃(k o:Nat) (l':List Nat),k<=n+1/\i= .int .i64 k/\ov= .int .u64 o/\o<=1/\l'.length=lr.length/\Lt l'/\(∀x,x<at_∨at_+k<=x->lm l' x=lm lr x)/\
  win l' at_ k+o*BB^k=win lr at_ k+sm (lm lb) k/\LongAt W D R rc l' A n c lb/\w.grownBy W (some R)
def zNr (w:WW) (D R rc:Nat) (lr:List Nat) (A:Option Addr) (n c:Nat) (lb:List Nat) (at_:Nat):Ending->WW->Prop:=fun e w'=> ∃(f:Bool) (l':List Nat),e= .returned (.bool f)/\l'.length=lr.length/\Lt l'/\
 (∀x,x<at_∨at_+(n+1)<=x->lm l' x=lm lr x)/\win l' at_ (n+1)+(if f then 1 else 0)*BB^(n+1)=win lr at_ (n+1)+val lb/\LongAt w' D R rc l' A n c lb/\w.grownBy w' (some R)
theorem zOM (D R rc:Nat) (lr:List Nat) (A:Option Addr) (n c:Nat) (lb:List Nat) (at_:Nat) (w:WW) (h:LongAt w D R rc lr A n c lb) (ht:Lt lr) (ht':Lt lb) (hn:0<n) (hat:at_+n<lr.length):
  Calls prog 169 #[.pointer (some ⟨D,0,none⟩), .int .i64 (at_:Int)] w (zNr w D R rc lr A n c lb at_):=by
 have hcap:=h.row.cap
 have hle:=h.by_.le;have hcap':=h.by_.cap
 obtain ⟨⟨c0,c1⟩,_,_⟩:=h.box.facts2
 obtain ⟨N,hN⟩: ∃N,lr.length=N:=⟨_,rfl⟩
 rw [hN] at c0 hat hcap
 have HN:=hid hN
 clear hN
 go_enter func169,ntmps169
 go_wp2
 go_loopw [5,13] (zTL w D R rc lr A n c lb at_) (fun _ i _=>n+1 - (intOf i).toNat)
 case atStart=>exact ⟨0,0,lr,Nat.zero_le _,rfl,rfl,by omega,rfl,ht,fun _ _=>rfl,by simp [win,sm],h,⟨rfl,rfl,rfl,hU _,fun _ _ _=>rfl⟩⟩
 case round=>
  obtain ⟨k,o,l',hk,rfl,rfl,ho,hl,hlt,hun,heq,hL,hG⟩:=hrel
  have HQ:=hid heq
  have HU:=hid hun
  clear heq hun
  obtain ⟨⟨g0,g1⟩,_,_⟩:=hL.box.facts2
  have hlN:l'.length=N:=hl.trans HN.out
  rw [hlN] at g0
  by_cases hkn:k<n+1
  ·have gr:=hL.row.cell (i:=at_+k) oI
   have gf:=hL.row.frozen (at_+k)
   have hold1:lm l' (at_+k)=lm lr (at_+k):=HU.out _ (.inr (hU _))
   have x1:=qM hlt (at_+k);have x2:=qM ht' k
   simp only [BB] at x1 x2
   obtain ⟨old,hold⟩: ∃x,lm l' (at_+k)=x:=⟨_,rfl⟩
   obtain ⟨x,hx⟩: ∃x,lm lb k=x:=⟨_,rfl⟩
   rw [hold] at gr x1 hold1
   rw [hx] at x2
   obtain ⟨s,z,o',hs,hs2,hz1,ho1,hz2,ho2,hm⟩:=zMs o x old ho x2 x1
   have hs3:(o:Int)+(x:Int)+(old:Int)=(s:Int):=by omega
   have HX:=hid hx;have HO:=hid hold;have HO1:=hid hold1;have HM:=hid hm
   clear hx hold hold1 hm hs
   have hend:zTL w D R rc lr A n c lb at_ (.int .u64 (o':Int)) (.int .i64 ((k:Int)+1)) (wr.setCell ⟨R,at_+k,none⟩ (.int .u32 (z:Int))):=by
    refine ⟨k+1,o',l'.set (at_+k) z,by omega,by go_num,rfl,ho2,by rw [lC];exact hl,zCK hlt hz2,fun y hy=> ?_, ?_,hL.grown (qC wr _ _) (hL.row.set _ _) (by rw [lC]),hG.trans (qC wr ⟨R,at_+k,none⟩ _)⟩
    ·rw [zAU oI,if_neg oI]
     exact HU.out y oI
    ·have e1:lm (l'.set (at_+k) z) (at_+k)=z:=by rw [zAU oI,if_pos rfl]
     rw [zAG,zAG,zEQ,e1, <-HO1.out,lD]
     show _+_*(BB^k*4294967296)=_+(sm (lm lb) k+lm lb k*BB^k)
     rw [HX.out]
     exact zMt HQ.out HM.out
   have HE:=hid hend
   clear hend
   rcases (by omega:k<n∨k=n) with hk2|hk2
   ·obtain ⟨b,off,rfl,hcb⟩:=hL.by_.cells k hk2
    rw [HX.out] at hcb
    go_wp2
    go_roundw
    case rel=>exact HE.out
    case measure=>simp [intOf];omega
   ·subst hk2
    have hx3:=HX.out
    rw [zDQ (by rw [h.by_.len];exact hU _)] at hx3
    subst hx3
    rw [Int.natCast_zero,Int.add_zero] at hs3
    go_wp2
    go_roundw
    case rel=>exact HE.out
    case measure=>simp [intOf]
  ·obtain rfl:k=n+1:=by omega
   have hv:sm (lm lb) (n+1)=val lb:=zA5 (by rw [h.by_.len];omega)
   have hq:=HQ.out
   rw [hv] at hq
   have hr: ∀f:Bool,(if f=true then 1 else 0)=o->zNr w D R rc lr A n c lb at_ (.returned (.bool f)) wr:=fun f hf=>
    ⟨f,l',rfl,hl,hlt,HU.out,by rw [hf,hq],hL,hG⟩
   have HR:=hid hr
   clear hq hr hv
   go_wp2
   rcases (by omega:o=0∨o=1) with rfl|rfl
   ·go_ret
    exact HR.out false rfl
   ·go_ret
    exact HR.out true rfl
end Go.Proofs.Wd

namespace Go.Proofs.Wd
open Tryz
open Lb
theorem zRu {l:List Nat} {n i:Nat} (h:val l<BB^n) (hi:n<=i):lm l i=0:=by
 rcases Nat.eq_zero_or_pos (lm l i) with h0|h0
 ·exact h0
 ·exfalso
  have hil:i<l.length:=by
   rcases Nat.lt_or_ge i l.length with e|e
   ·exact e
   ·rw [zDQ e] at h0;omega
  have e1:sm (lm l) (i+1)<=val l:=zIf oI
  have e2:sm (lm l) (i+1)=sm (lm l) i+lm l i*BB^i:=rfl
  have e3:BB^n<=BB^i:=Nat.pow_le_pow_right y4 hi
  have e4:1*BB^i<=lm l i*BB^i:=Nat.mul_le_mul_right _ h0
  omega
theorem zGV (x A V:Nat) (hV:0<V) (hx:x<BB):(x+BB*(A % V)) / V=(x+BB*A) / V % BB/\(x+BB*(A % V)) % V=(x+BB*A) % V/\x+BB*(A % V)<V*BB:=by
 have h1:=zHI (x:=x) (Nat.div_add_mod A V).symm
 have hm:=Nat.mod_lt A hV
 have hlt:x+BB*(A % V)<V*BB:=by
  have:BB*(A % V)+BB<=BB*V:=by
   rw [<-Nat.mul_succ]
   exact Nat.mul_le_mul_left _ hm
  rw [Nat.mul_comm V]
  omega
 have hq:(x+BB*(A % V)) / V<BB:=Nat.div_lt_of_lt_mul hlt
 have hr:=Nat.mod_lt (x+BB*(A % V)) hV
 refine ⟨?_, ?_,hlt⟩
 ·rw [h1,Nat.mul_add_div hV,hZ hr,Nat.add_zero,Nat.add_mul_mod_self_left,lB hq]
 ·rw [h1,Nat.mul_add_mod,Nat.mod_mod]
def dig (l0 lb:List Nat) (p:Nat):Nat:=val (l0.drop p) / val lb % BB
structure Left (l0 lb lr:List Nat) (j:Nat):Prop where
 len:lr.length=l0.length
 lt:Lt lr
 low: ∀x,x<j->lm lr x=lm l0 x
 top:val (lr.drop j)=val (l0.drop j) % val lb
theorem Left.wins {l0 lb lr:List Nat} {p n:Nat} (h:Left l0 lb lr (p+1)) (h0:Lt l0) (hb:Lt lb) (hn:lb.length=n) (hp:p+n<l0.length) (hV:0<val lb):
  win lr p (n+1)=lm l0 p+BB*(val (l0.drop (p+1)) % val lb)/\win lr p (n+1)<val lb*BB/\val lb*BB<=BB^(n+1)/\win lr p (n+1) / val lb=dig l0 lb p/\win lr p (n+1) % val lb=val (l0.drop p) % val lb/\ ∀x,p+(n+1)<=x->lm lr x=0:=by
 have hpl:p<lr.length:=by rw [h.len];omega
 have e1:val (lr.drop p)=lm l0 p+BB*(val (l0.drop (p+1)) % val lb):=by rw [zBm hpl,h.top,h.low p oI]
 obtain ⟨s1,s2,s3⟩:=zGV (lm l0 p) (val (l0.drop (p+1))) (val lb) hV (qM h0 p)
 have e2:val lb*BB<=BB^(n+1):=by
  rw [lD]
  exact Nat.mul_le_mul_right _ (Nat.le_of_lt (by rw [<-hn];exact qT hb))
 have e3:val (lr.drop p)<BB^(n+1):=by rw [e1];omega
 have e4:win lr p (n+1)=val (lr.drop p):=by rw [<-zIV,zH9 e3]
 have e5:val (l0.drop p)=lm l0 p+BB*val (l0.drop (p+1)):=zBm oI
 refine ⟨e4.trans e1,by rw [e4,e1];exact s3,e2, ?_, ?_,fun x hx=> ?_⟩
 ·unfold dig
  rw [e4,e1,s1,e5]
 ·rw [e4,e1,s2,e5]
 ·have:=zRu (i:=x - p) e3 oI
  rw [zDf] at this
  rwa [show p+(x - p)=x from by omega] at this
theorem Left.next {l0 lb lr lr':List Nat} {p n:Nat} (h:Left l0 lb lr (p+1)) (h0:Lt l0) (hb:Lt lb) (hn:lb.length=n) (hp:p+n<l0.length) (hV:0<val lb)
  (hl:lr'.length=lr.length) (ht:Lt lr') (ho: ∀x,x<p∨p+(n+1)<=x->lm lr' x=lm lr x) (hw:win lr' p (n+1)=win lr p (n+1) % val lb):Left l0 lb lr' p:=by
 obtain ⟨w1,w2,w3,w4,w5,w6⟩:=h.wins h0 hb hn hp hV
 refine ⟨hl.trans h.len,ht,fun x hx=>(ho x (.inl hx)).trans (h.low x oI), ?_⟩
 rw [<-w5, <-hw]
 have e1:val (lr'.drop p)=sm (lm (lr'.drop p)) (n+1):=by
  refine zC2 (by rw [List.length_drop,hl,h.len];omega) fun i hi _=> ?_
  rw [zDf,ho _ (.inr oI)]
  exact w6 _ oI
 rw [e1,zIV]
theorem Left.start {l0 lb:List Nat} {m:Nat} (h0:Lt l0) (h:val (l0.drop m)<val lb):Left l0 lb l0 m:=⟨rfl,h0,fun _ _=>rfl,(lB h).symm⟩
theorem zO2 {lr lb:List Nat} {p n:Nat} (ht:Lt lr) (hn:lb.length=n) (hn0:0<n) (hv:0<lm lb (n - 1)) (hw:win lr p (n+1)<val lb*BB):win lr p (n+1) / val lb<=zCG lr lb p n/\zCG lr lb p n<=4294967295:=by
 refine ⟨?_,Nat.min_le_right _ _⟩
 unfold zCG
 refine Nat.le_min.2 ⟨?_,zMP (by unfold BB at hw;exact hw)⟩
 obtain ⟨k,rfl⟩: ∃k,n=k+1:=⟨n - 1,by omega⟩
 refine zKK (Q:=BB^k) hv ?_ ?_
 ·rw [zAG,zAG]
  have h1:=zPo ht p k
  have e1:p+(k+1) - 1=p+k:=by omega
  rw [e1,lD,Nat.add_mul,Nat.add_mul,Nat.one_mul,Nat.mul_assoc (lm lr (p+(k+1))) 4294967296]
  have e2:4294967296*BB^k=BB^k*BB:=by rw [Nat.mul_comm];rfl
  rw [e2]
  omega
 ·have e1:val lb=sm (lm lb) (k+1):=by unfold val;rw [hn]
  rw [e1,Nat.add_sub_cancel]
  exact Nat.le_add_left _ _
theorem zPe {l0 lb lq:List Nat} {m:Nat} (hV:0<val lb) (h0:Lt l0) (hm:m<=l0.length) (h:val (l0.drop m)<val lb) (hl:lq.length=m) (hd: ∀p,p<m->lm lq p=dig l0 lb p):val lq=val l0 / val lb:=by
 have key: ∀j,j<=m->val (lq.drop (m - j))=val (l0.drop (m - j)) / val lb:=by
  intro j
  induction j with
  |zero=>
   intro _
   rw [Nat.sub_zero,hZ h,List.drop_eq_nil_of_le oI]
   rfl
  |succ j ih=>
   intro hj
   have ih:=ih oI
   have e:m - j=m - (j+1)+1:=by omega
   rw [e] at ih
   obtain ⟨p,hp⟩: ∃p,m - (j+1)=p:=⟨_,rfl⟩
   rw [hp] at ih ⊢
   rw [zBm (l:=lq) (k:=p) oI,ih,hd p oI]
   unfold dig
   have e5:val (l0.drop p)=lm l0 p+BB*val (l0.drop (p+1)):=zBm oI
   have s:=zGV (lm l0 p) (val (l0.drop (p+1))) (val lb) hV (qM h0 p)
   have h1:=zHI (x:=lm l0 p) (Nat.div_add_mod (val (l0.drop (p+1))) (val lb)).symm
   have hr:=Nat.mod_lt (lm l0 p+BB*(val (l0.drop (p+1)) % val lb)) hV
   rw [e5, <-s.1]
   rw [h1,Nat.mul_add_div hV,hZ hr]
   rfl
 have:=key m (hU _)
 rwa [Nat.sub_self,List.drop_zero,List.drop_zero] at this
end Go.Proofs.Wd
