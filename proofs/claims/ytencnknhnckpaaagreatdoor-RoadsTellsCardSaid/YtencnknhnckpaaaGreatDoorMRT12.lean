/- Walks of quot's guess, less, more; The walk of quot's more; Plain fact and what it needs. -/
import Derived.Test.YtencnknhnckpaaaGreatDoorMRT9
import Derived.Lib.Mul64
abbrev nO:=@Nat.div_le_self
abbrev nP:=@List.drop_eq_nil_of_le
namespace Go.Proofs.Wd
open Tryz
set_option maxHeartbeats 1000000
open Go.RowKit Lb
namespace M64
theorem maskN(a:Nat)(I:a<18446744073709551616):bits .and .u64 (a:Int) 4294967295=((a%4294967296:Nat):Int):=by
 have h:=bits_and_u64_nat a 4294967295 I oA
 have e:a&&& 4294967295=a%4294967296:=Nat.and_two_pow_sub_one_eq_mod a 32
 rw[e]at h
 exact h
theorem divN(a:Nat):(a:Int)/4294967296=((a/4294967296:Nat):Int):=oA
theorem mulN(a b:Nat):(a:Int)*(b:Int)=((a*b:Nat):Int):=(nB a b).symm
theorem addN(a b:Nat):(a:Int)+(b:Int)=((a+b:Nat):Int):=(Int.natCast_add a b).symm
theorem wrapN(a:Nat)(ha:a<18446744073709551616):IntKind.u64.wrap (a:Int)=(a:Int):=by rw[mK];omega
theorem wrapM(a:Nat):IntKind.u64.wrap (a:Int)=((a%18446744073709551616:Nat):Int):=by rw[mK];omega
end M64
theorem zLK(x y:Nat)(hx:x<18446744073709551616)(hy:y<18446744073709551616)(w:WB):
  Calls prog 136 #[.int .u64 x,.int .u64 y] w fun e w'=>e=.returned (.tuple #[.int .u64 ((x*y/18446744073709551616:Nat):Int),.int .u64 ((x*y%18446744073709551616:Nat):Int)])/\w'=w:=by
 obtain⟨bd,bt,bw,hhi⟩:=Lib.mul64_hi x y hx hy
 have ba:=Lib.half_mul_le (a:=x/4294967296) (b:=y/4294967296) oA oA
 have bb:=Lib.half_mul_le (a:=x/4294967296) (b:=y%4294967296) oA oA
 have bc:=Lib.half_mul_le (a:=x%4294967296) (b:=y/4294967296) oA oA
 have ba':x/4294967296*(y/4294967296)<18446744073709551616:=oA
 have bb':x/4294967296*(y%4294967296)<18446744073709551616:=oA
 have bc':x%4294967296*(y/4294967296)<18446744073709551616:=oA
 have bh1:x/4294967296*(y/4294967296)+(x/4294967296*(y%4294967296)+x%4294967296*(y%4294967296)/4294967296)/4294967296<18446744073709551616:=oA
 have bh:x/4294967296*(y/4294967296)+(x/4294967296*(y%4294967296)+x%4294967296*(y%4294967296)/4294967296)/4294967296+((x/4294967296*(y%4294967296)+x%4294967296*(y%4294967296)/4294967296)%4294967296+x%4294967296*(y/4294967296))/4294967296<18446744073709551616:=oA
 go_enter func136,ntmps136
 go_wp2
 simp only[M64.maskN x hx,M64.maskN y hy,M64.divN,M64.mulN,M64.addN,M64.wrapN _ bd,M64.wrapN _ bb',M64.wrapN _ bt,M64.maskN _ bt,M64.wrapN _ bc',M64.wrapN _ bw,M64.wrapN _ ba',M64.wrapN _ bh1,M64.wrapN _ bh,M64.wrapM (x*y)]
 rw[hhi]
 go_ret2
 exact⟨rfl,rfl⟩
theorem zMJ(x y:Nat)(w:WB):(callFunc 137 #[.int .u64 (x:Int),.int .u64 (y:Int),.int .u64 0]).run prog w=
  .ok (.value (.tuple #[.int .u64 (((x+y)%18446744073709551616:Nat):Int),.int .u64 (((x+y)/18446744073709551616:Nat):Int)])) w:=by
 rw[run_callFunc_extern func137 rZ rZ rZ (e:=add64Entry) rZ,run_add64 x y 0 oA oA oA oA]
 simp only[Result.andThen]
 congr 5<;>omega
theorem zIn(x t p:Nat)(h:x*t=p)(hp:p<18446744073709551616)(hx:x<4294967296)(ht:t<4294967296)(w:WB):
  Calls prog 136 #[.int .u64 (x:Int),.int .u64 (t:Int)] w fun e w'=>e=.returned (.tuple #[.int .u64 0,.int .u64 (p:Int)])/\w'=w:=by
 have:=zLK x t oA oA w
 rw[h,uP hp,uU hp]at this
 exact this
theorem zIF(x y s:Nat)(h:x+y=s)(I:s<18446744073709551616)(w:WB):(callFunc 137 #[.int .u64 (x:Int),.int .u64 (y:Int),.int .u64 0]).run prog w=.ok (.value (.tuple #[.int .u64 (s:Int),.int .u64 0])) w:=by
 have:=zMJ x y w
 rw[h,uP I,uU I]at this
 exact this
theorem zIj(x:Nat)(h:x<18446744073709551616):bits .or .u64 0 (x:Int)=(x:Int):=by
 have:=fF 0 x oA h
 rwa [Nat.zero_or]at this
def zCu(lr lb:List Nat)(at_ n:Nat):Nat:=min ((lm lr (at_+n)*4294967296+lm lr (at_+n-1))/lm lb (n-1)) 4294967295
def zOI(w:WB)(g:Nat):Ending->WB->Prop:=fun e w'=>e=.returned (.int .u64 (g:Int))/\∃nq,w'=w.drewN nq
theorem zMd(D R rc:Nat)(lr:List Nat)(A:Option Addr)(n c:Nat)(lb:List Nat)(at_:Nat)(w:WB)(h:LongAt w D R rc lr A n c lb)(ht:Lt lr)(ht':Lt lb)(hn:0<n)(hat:at_+n<lr.length)(hv:0<lm lb (n-1)):
    Calls prog 132 #[.pointer (some ⟨D,0,none⟩),.int .i64 (at_:Int)] w (zOI w (zCu lr lb at_ n)):=by
  have hcap:=h.row.cap
  have hle:=h.by_.le;have hcap':=h.by_.cap
  obtain⟨⟨c0,c1⟩,_,_⟩:=h.box.facts2
  have r1:=h.row.cell (i:=at_+n) hat
  have r2:=h.row.cell (i:=at_+n-1) oA
  obtain⟨b,o,rfl,_,hcb⟩:=h.by_.shape hn
  have r3:=hcb (n-1) oA
  have x1:=qK ht (at_+n);have x2:=qK ht (at_+n-1);have x3:=qK ht' (n-1)
  simp only[BB]at x1 x2 x3
  have e1:((at_:Int)+(n:Int)).toNat=at_+n:=oA
  have e2:((at_:Int)+(n:Int)-1).toNat=at_+n-1:=oA
  have e3:((n:Int)-1).toNat=n-1:=oA
  obtain⟨N,hN⟩:∃N,lr.length=N:=⟨_,rfl⟩
  rw[hN]at c0 hat hcap
  have HG:Hid (zCu lr lb at_ n=min ((lm lr (at_+n)*4294967296+lm lr (at_+n-1))/lm lb (n-1)) 4294967295):=rfl
  obtain⟨g,hg⟩:∃g,zCu lr lb at_ n=g:=⟨_,rfl⟩
  rw[hg]at HG ⊢
  clear hg
  obtain⟨p,hp⟩:∃p,lm lr (at_+n)=p:=⟨_,rfl⟩
  obtain⟨q,hq⟩:∃q,lm lr (at_+n-1)=q:=⟨_,rfl⟩
  obtain⟨v,hv1⟩:∃v,lm lb (n-1)=v:=⟨_,rfl⟩
  rw[hp,hq,hv1]at HG
  rw[hp]at r1 x1;rw[hq]at r2 x2;rw[hv1]at r3 x3 hv
  clear hp hq hv1
  obtain⟨t,ht1⟩:∃t,p*4294967296+q=t:=⟨_,rfl⟩
  have hor:=zEn p q x1 x2
  rw[ht1]at hor HG
  have ht2:t<18446744073709551616:=oA
  obtain⟨u,hu⟩:∃u,t/v=u:=⟨_,rfl⟩
  rw[hu]at HG
  have hdv:(t:Int)/(v:Int)=(u:Int):=by rw[<-hu,nD]
  have hu2:u<18446744073709551616:=by rw[<-hu];exact mC (nO _ _) ht2
  have hv0: ¬(v:Int)=0:=oA
  clear hu ht1
  have hgu:=HG.out
  rcases(oA:(u<4294967295/\g=u)∨(4294967295<=u/\g=4294967295))with⟨h9,rfl⟩|⟨h9,rfl⟩
  all_goals
    clear hgu HG
    go_enter func132,ntmps132
    go_wp2
    go_quiet (fail)
    go_wp2
    all_goals
      go_ret
      first | exact ⟨rfl, _, rfl⟩ | (have hu5:u=4294967295:=by omega
                                     subst hu5
                                     exact⟨rfl,_,rfl⟩)
def zSB(w:WB)(D R rc:Nat)(lr:List Nat)(A:Option Addr)(n c:Nat)(lb:List Nat)(at_ t:Nat)(ov un i:Value)(W:WB):Prop:=
 ∃(k o u:Nat) (l':List Nat),k<=n+1/\i=.int .i64 k/\ov=.int .u64 o/\un=.int .u64 u/\o<4294967296/\u<=1/\(k=n+1->o=0)/\l'.length=lr.length/\Lt l'/\(∀x,x<at_∨at_+k<=x->lm l' x=lm lr x)/\
  win lr at_ k+(o+u)*BB^k=win l' at_ k+t*sm (lm lb) k/\LongAt W D R rc l' A n c lb/\w.grownBy W (some R)
def zMP(w:WB)(D R rc:Nat)(lr:List Nat)(A:Option Addr)(n c:Nat)(lb:List Nat)(at_ t:Nat):Ending->WB->Prop:=fun e w'=>∃(f:Bool) (l':List Nat),e=.returned (.bool f)/\l'.length=lr.length/\Lt l'/\
 (∀x,x<at_∨at_+(n+1)<=x->lm l' x=lm lr x)/\win lr at_ (n+1)+(if f then 0 else 1)*BB^(n+1)=win l' at_ (n+1)+t*val lb/\LongAt w' D R rc l' A n c lb/\w.grownBy w' (some R)
theorem zN7(D R rc:Nat)(lr:List Nat)(A:Option Addr)(n c:Nat)(lb:List Nat)(at_ t:Nat)(w:WB)(h:LongAt w D R rc lr A n c lb)(ht:Lt lr)(ht':Lt lb)(hn:0<n)(hat:at_+n<lr.length)(htl:t<4294967296):
  Calls prog 133 #[.pointer (some ⟨D,0,none⟩),.int .i64 (at_:Int),.int .u64 (t:Int)] w (zMP w D R rc lr A n c lb at_ t):=by
 have hcap:=h.row.cap
 have hle:=h.by_.le;have hcap':=h.by_.cap
 obtain⟨⟨c0,c1⟩,_,_⟩:=h.box.facts2
 obtain⟨N,hN⟩:∃N,lr.length=N:=⟨_,rfl⟩
 rw[hN]at c0 hat hcap
 have HN:=hid hN
 clear hN
 go_enter func133,ntmps133
 go_wp2
 go_quiet (fail)
 go_wp2
 go_loopw [8,9,32] (zSB w D R rc lr A n c lb at_ t) (fun _ _ i _=>n+1-(intOf i).toNat)
 case atStart=>exact⟨0,0,0,lr,vS _,rfl,rfl,rfl,oA,oA,oA,rfl,ht,fun _ _=>rfl,by simp[win,sm],h.grown ⟨rfl,rfl,rfl,vR _,fun _ _ _=>rfl⟩ (h.row.kept rfl) rfl,⟨rfl,rfl,rfl,vR _,fun _ _ _=>rfl⟩⟩
 case round=>
  obtain⟨k,o,u,l',hk,rfl,rfl,rfl,ho,hu,hz,hl,hlt,hun,heq,hL,hG⟩:=hrel
  have HQ:=hid heq
  have HZ:=hid hz
  have HU:=hid hun
  clear heq hz hun
  obtain⟨⟨g0,g1⟩,_,_⟩:=hL.box.facts2
  have hlN:l'.length=N:=hl.trans HN.out
  rw[hlN]at g0
  by_cases hkn:k<n+1
  .have gr:=hL.row.cell (i:=at_+k) oA
   have gf:=hL.row.frozen (at_+k)
   have hold1:lm l' (at_+k)=lm lr (at_+k):=HU.out _ (.inr (vR _))
   have x1:=qK hlt (at_+k);have x2:=qK ht' k
   simp only[BB]at x1 x2
   obtain⟨old,hold⟩:∃x,lm l' (at_+k)=x:=⟨_,rfl⟩
   obtain⟨x,hx⟩:∃x,lm lb k=x:=⟨_,rfl⟩
   rw[hold]at gr x1 hold1
   rw[hx]at x2
   obtain⟨p,s,lo,o',z,u',hp,hp2,hs,hs2,hlo,hov,ho2,hlo2,hz1,hu1,hz2,hu2,hm1,hm2,hx0⟩:=zLU x t o old u x2 htl ho x1 hu
   have HP:=hid hp;have HS:=hid hs
   have hmul:=zIn x t p hp hp2 x2 htl
   have hadd:=zIF p o s hs hs2
   have HX:=hid hx;have HO:=hid hold;have HO1:=hid hold1;have HM:=hid (And.intro hm1 hm2);have H0:=hid hx0
   clear hx hold hold1 hm1 hm2 hx0 hp hs
   have hmask:=M64.maskN s hs2
   rw[hlo]at hmask
   have hsh:(s:Int)/4294967296=(o':Int):=oA
   have hor:=zIj o' oA
   have hend:zSB w D R rc lr A n c lb at_ t (.int .u64 (o':Int)) (.int .u64 (u':Int)) (.int .i64 ((k:Int)+1)) (wr.setCell ⟨R,at_+k,none⟩ (.int .u32 (z:Int))):=by
    refine⟨k+1,o',u',l'.set (at_+k) z,oA,sE,rfl,rfl,ho2,hu2,fun e=>H0.out ?_,by rw[uC];exact hl,zCw hlt hz2,fun y hy=>?_,?_,hL.grown (y6 wr _ _) (hL.row.set _ _) (by rw[uC]),hG.trans (y6 wr ⟨R,at_+k,none⟩ _)⟩
    .rw[<-HX.out]
     exact zDk (by rw[h.by_.len];omega)
    .rw[zAK oA,if_neg oA]
     exact HU.out y oA
    .have e1:lm (l'.set (at_+k) z) (at_+k)=z:=by rw[zAK oA,if_pos rfl]
     rw[zAy,zAy,zEx,e1,<-HO1.out,vY]
     show _+_*(BB^k*4294967296)=_+t*(sm (lm lb) k+lm lb k*BB^k)
     rw[HX.out]
     exact zLV HQ.out HM.out.1 HM.out.2
   have hy:IntKind.u64.wrap (IntKind.u64.wrap ((old:Int)-(lo:Int))-(u:Int))=((old:Int)-(lo:Int)-(u:Int))%18446744073709551616:=by rw[mK,mK];omega
   have HE:=hid hend
   have HY:=hid hy
   have HZ1:=hid (And.intro hz1 hu1)
   clear hend hy hz1 hu1
   rcases(oA:k<n∨k=n)with hk2|hk2
   .obtain⟨b,off,rfl,hcb⟩:=hL.by_.cells k hk2
    rw[HX.out]at hcb
    go_wp2_with (go_at_call 136;refine(hmul _).mono ?_;rintro e w1 ⟨rfl,rfl⟩)
    rw[HY.out,HZ1.out.1,HZ1.out.2]
    exact⟨HE.out,by simp[intOf];omega⟩
   .subst hk2
    have hx3:=HX.out
    rw[zDk (by rw[h.by_.len];exact vR _)]at hx3
    subst hx3
    go_wp2_with (go_at_call 136;refine(hmul _).mono ?_;rintro e w1 ⟨rfl,rfl⟩)
    rw[HY.out,HZ1.out.1,HZ1.out.2]
    exact⟨HE.out,by simp[intOf]⟩
  .obtain rfl:k=n+1:=oA
   have ho0:=HZ.out rfl
   subst ho0
   have hv:sm (lm lb) (n+1)=val lb:=zAY (by rw[h.by_.len];omega)
   have hq:=HQ.out
   rw[hv]at hq
   have hr:∀f:Bool,(if f=true then 0 else 1)=u->zMP w D R rc lr A n c lb at_ t (.returned (.bool f)) wr:=fun f hf=>
    ⟨f,l',rfl,hl,hlt,HU.out,by rw[hf,<-hq,uK],hL,hG⟩
   have HR:=hid hr
   clear hq hr hv
   go_wp2
   rcases(oA:u=0∨u=1)with rfl|rfl
   .go_ret
    exact HR.out true rfl
   .go_ret
    exact HR.out false rfl
end Go.Proofs.Wd

namespace Go.Proofs.Wd
open Tryz
variable {m n p:Nat}{l0 lb:List Nat}
set_option maxHeartbeats 1000000
open Go.RowKit Lb
def zSz(w:WB)(D R rc:Nat)(lr:List Nat)(A:Option Addr)(n c:Nat)(lb:List Nat)(at_:Nat)(ov i:Value)(W:WB):Prop:=
 ∃(k o:Nat) (l':List Nat),k<=n+1/\i=.int .i64 k/\ov=.int .u64 o/\o<=1/\l'.length=lr.length/\Lt l'/\(∀x,x<at_∨at_+k<=x->lm l' x=lm lr x)/\
  win l' at_ k+o*BB^k=win lr at_ k+sm (lm lb) k/\LongAt W D R rc l' A n c lb/\w.grownBy W (some R)
def zMO(w:WB)(D R rc:Nat)(lr:List Nat)(A:Option Addr)(n c:Nat)(lb:List Nat)(at_:Nat):Ending->WB->Prop:=fun e w'=>∃(f:Bool) (l':List Nat),e=.returned (.bool f)/\l'.length=lr.length/\Lt l'/\
 (∀x,x<at_∨at_+(n+1)<=x->lm l' x=lm lr x)/\win l' at_ (n+1)+(if f then 1 else 0)*BB^(n+1)=win lr at_ (n+1)+val lb/\LongAt w' D R rc l' A n c lb/\w.grownBy w' (some R)
theorem zN1(D R rc:Nat)(lr:List Nat)(A:Option Addr)(n c:Nat)(lb:List Nat)(at_:Nat)(w:WB)(h:LongAt w D R rc lr A n c lb)(ht:Lt lr)(ht':Lt lb)(hn:0<n)(hat:at_+n<lr.length):
  Calls prog 134 #[.pointer (some ⟨D,0,none⟩),.int .i64 (at_:Int)] w (zMO w D R rc lr A n c lb at_):=by
 have hcap:=h.row.cap
 have hle:=h.by_.le;have hcap':=h.by_.cap
 obtain⟨⟨c0,c1⟩,_,_⟩:=h.box.facts2
 obtain⟨N,hN⟩:∃N,lr.length=N:=⟨_,rfl⟩
 rw[hN]at c0 hat hcap
 have HN:=hid hN
 clear hN
 go_enter func134,ntmps134
 go_wp2
 go_loopw [5,13] (zSz w D R rc lr A n c lb at_) (fun _ i _=>n+1-(intOf i).toNat)
 case atStart=>exact⟨0,0,lr,vS _,rfl,rfl,oA,rfl,ht,fun _ _=>rfl,by simp[win,sm],h,⟨rfl,rfl,rfl,vR _,fun _ _ _=>rfl⟩⟩
 case round=>
  obtain⟨k,o,l',hk,rfl,rfl,ho,hl,hlt,hun,heq,hL,hG⟩:=hrel
  have HQ:=hid heq
  have HU:=hid hun
  clear heq hun
  obtain⟨⟨g0,g1⟩,_,_⟩:=hL.box.facts2
  have hlN:l'.length=N:=hl.trans HN.out
  rw[hlN]at g0
  by_cases hkn:k<n+1
  .have gr:=hL.row.cell (i:=at_+k) oA
   have gf:=hL.row.frozen (at_+k)
   have hold1:lm l' (at_+k)=lm lr (at_+k):=HU.out _ (.inr (vR _))
   have x1:=qK hlt (at_+k);have x2:=qK ht' k
   simp only[BB]at x1 x2
   obtain⟨old,hold⟩:∃x,lm l' (at_+k)=x:=⟨_,rfl⟩
   obtain⟨x,hx⟩:∃x,lm lb k=x:=⟨_,rfl⟩
   rw[hold]at gr x1 hold1
   rw[hx]at x2
   obtain⟨s,z,o',hs,hs2,hz1,ho1,hz2,ho2,hm⟩:=zLM o x old ho x2 x1
   have hs3:(o:Int)+(x:Int)+(old:Int)=(s:Int):=oA
   have HX:=hid hx;have HO:=hid hold;have HO1:=hid hold1;have HM:=hid hm
   clear hx hold hold1 hm hs
   have hend:zSz w D R rc lr A n c lb at_ (.int .u64 (o':Int)) (.int .i64 ((k:Int)+1)) (wr.setCell ⟨R,at_+k,none⟩ (.int .u32 (z:Int))):=by
    refine⟨k+1,o',l'.set (at_+k) z,oA,sE,rfl,ho2,by rw[uC];exact hl,zCw hlt hz2,fun y hy=>?_,?_,hL.grown (y6 wr _ _) (hL.row.set _ _) (by rw[uC]),hG.trans (y6 wr ⟨R,at_+k,none⟩ _)⟩
    .rw[zAK oA,if_neg oA]
     exact HU.out y oA
    .have e1:lm (l'.set (at_+k) z) (at_+k)=z:=by rw[zAK oA,if_pos rfl]
     rw[zAy,zAy,zEx,e1,<-HO1.out,vY]
     show _+_*(BB^k*4294967296)=_+(sm (lm lb) k+lm lb k*BB^k)
     rw[HX.out]
     exact zLN HQ.out HM.out
   have HE:=hid hend
   clear hend
   rcases(oA:k<n∨k=n)with hk2|hk2
   .obtain⟨b,off,rfl,hcb⟩:=hL.by_.cells k hk2
    rw[HX.out]at hcb
    go_wp2
    go_roundw
    case rel=>exact HE.out
    case measure=>simp[intOf];omega
   .subst hk2
    have hx3:=HX.out
    rw[zDk (by rw[h.by_.len];exact vR _)]at hx3
    subst hx3
    rw[Int.natCast_zero,Int.add_zero]at hs3
    go_wp2
    go_roundw
    case rel=>exact HE.out
    case measure=>simp[intOf]
  .obtain rfl:k=n+1:=oA
   have hv:sm (lm lb) (n+1)=val lb:=zAY (by rw[h.by_.len];omega)
   have hq:=HQ.out
   rw[hv]at hq
   have hr:∀f:Bool,(if f=true then 1 else 0)=o->zMO w D R rc lr A n c lb at_ (.returned (.bool f)) wr:=fun f hf=>
    ⟨f,l',rfl,hl,hlt,HU.out,by rw[hf,hq],hL,hG⟩
   have HR:=hid hr
   clear hq hr hv
   go_wp2
   rcases(oA:o=0∨o=1)with rfl|rfl
   .go_ret
    exact HR.out false rfl
   .go_ret
    exact HR.out true rfl
theorem zQB{l:List Nat}{i:Nat}(h:val l<BB^n)(J:n<=i):lm l i=0:=by
 rcases uJ (lm l i)with I|I
 .exact I
 .exfalso
  have hil:i<l.length:=by
   rcases xZ i l.length with e|e
   .exact e
   .rw[zDk e]at I;omega
  have e1:sm (lm l) (i+1)<=val l:=zH8 oA
  have e2:sm (lm l) (i+1)=sm (lm l) i+lm l i*BB^i:=rfl
  have e3:BB^n<=BB^i:=vZ qA J
  have e4:1*BB^i<=lm l i*BB^i:=uE _ I
  omega
theorem zGV(x A V:Nat)(I:0<V)(hx:x<BB):(x+BB*(A%V))/V=(x+BB*A)/V%BB/\(x+BB*(A%V))%V=(x+BB*A)%V/\x+BB*(A%V)<V*BB:=by
 have J:=zHy (x:=x) (gC A V).symm
 have hm:=uH A I
 have h:x+BB*(A%V)<V*BB:=by
  have:BB*(A%V)+BB<=BB*V:=by
   rw[<-Nat.mul_succ]
   exact uR _ hm
  rw[vT V]
  omega
 have hq:(x+BB*(A%V))/V<BB:=gK h
 have O:=uH (x+BB*(A%V)) I
 refine⟨?_,?_,h⟩
 .rw[J,gM I,uP O,uM,gT,uU hq]
 .rw[J,xD,Nat.mod_mod]
def dig(l0 lb:List Nat)(p:Nat):Nat:=val (l0.drop p)/val lb%BB
structure Left(l0 lb lr:List Nat)(j:Nat):Prop where
 len:lr.length=l0.length
 lt:Lt lr
 low:∀x,x<j->lm lr x=lm l0 x
 top:val (lr.drop j)=val (l0.drop j)%val lb
theorem Left.wins{lr:List Nat}(h:Left l0 lb lr (p+1))(h0:Lt l0)(hb:Lt lb)(hn:lb.length=n)(hp:p+n<l0.length)(hV:0<val lb):
  win lr p (n+1)=lm l0 p+BB*(val (l0.drop (p+1))%val lb)/\win lr p (n+1)<val lb*BB/\val lb*BB<=BB^(n+1)/\win lr p (n+1)/val lb=dig l0 lb p/\win lr p (n+1)%val lb=val (l0.drop p)%val lb/\∀x,p+(n+1)<=x->lm lr x=0:=by
 have O:p<lr.length:=by rw[h.len];omega
 have I:val (lr.drop p)=lm l0 p+BB*(val (l0.drop (p+1))%val lb):=by rw[zBm O,h.top,h.low p oA]
 obtain⟨s1,s2,s3⟩:=zGV (lm l0 p) (val (l0.drop (p+1))) (val lb) hV (qK h0 p)
 have e2:val lb*BB<=BB^(n+1):=by
  rw[vY]
  exact uE _ (mI (by rw[<-hn];exact qO hb))
 have e3:val (lr.drop p)<BB^(n+1):=by rw[I];omega
 have J:win lr p (n+1)=val (lr.drop p):=by rw[<-zIH,zH0 e3]
 have e5:val (l0.drop p)=lm l0 p+BB*val (l0.drop (p+1)):=zBm oA
 refine⟨J.trans I,by rw[J,I];exact s3,e2,?_,?_,fun x hx=>?_⟩
 .unfold dig
  rw[J,I,s1,e5]
 .rw[J,I,s2,e5]
 .have:=zQB (i:=x-p) e3 oA
  rw[zC2]at this
  rwa [show p+(x-p)=x from oA]at this
theorem Left.next{lr I:List Nat}(h:Left l0 lb lr (p+1))(h0:Lt l0)(hb:Lt lb)(hn:lb.length=n)(hp:p+n<l0.length)(hV:0<val lb)
  (O:I.length=lr.length)(ht:Lt I)(J:∀x,x<p∨p+(n+1)<=x->lm I x=lm lr x)(hw:win I p (n+1)=win lr p (n+1)%val lb):Left l0 lb I p:=by
 obtain⟨w1,w2,w3,w4,w5,w6⟩:=h.wins h0 hb hn hp hV
 refine⟨O.trans h.len,ht,fun x hx=>(J x (.inl hx)).trans (h.low x oA),?_⟩
 rw[<-w5,<-hw]
 have e1:val (I.drop p)=sm (lm (I.drop p)) (n+1):=by
  refine zCR (by rw[uS,O,h.len];omega) fun i hi _=>?_
  rw[zC2,J _ (.inr oA)]
  exact w6 _ oA
 rw[e1,zIH]
theorem Left.start(h0:Lt l0)(h:val (l0.drop m)<val lb):Left l0 lb l0 m:=⟨rfl,h0,fun _ _=>rfl,(uU h).symm⟩
theorem zOb{lr:List Nat}(ht:Lt lr)(O:lb.length=n)(hn0:0<n)(J:0<lm lb (n-1))(I:win lr p (n+1)<val lb*BB):win lr p (n+1)/val lb<=zCu lr lb p n/\zCu lr lb p n<=4294967295:=by
 refine⟨?_,Nat.min_le_right _ _⟩
 unfold zCu
 refine Nat.le_min.2 ⟨?_,zMc (by unfold BB at I;exact I)⟩
 obtain⟨k,rfl⟩:∃k,n=k+1:=⟨n-1,oA⟩
 refine zKq (Q:=BB^k) J ?_ ?_
 .rw[zAy,zAy]
  have h1:=zOO ht p k
  have h:p+(k+1)-1=p+k:=oA
  rw[h,vY,vU,vU,uY,vV (lm lr (p+(k+1))) 4294967296]
  have e2:4294967296*BB^k=BB^k*BB:=by rw[vT];rfl
  rw[e2]
  omega
 .have h:val lb=sm (lm lb) (k+1):=by unfold val;rw[O]
  rw[h,gG]
  exact Nat.le_add_left _ _
theorem zOy{I:List Nat}(hV:0<val lb)(h0:Lt l0)(hm:m<=l0.length)(h:val (l0.drop m)<val lb)(hl:I.length=m)(hd:∀p,p<m->lm I p=dig l0 lb p):val I=val l0/val lb:=by
 have O:∀j,j<=m->val (I.drop (m-j))=val (l0.drop (m-j))/val lb:=by
  intro j
  induction j with
  |zero=>
   intro _
   rw[nJ,uP h,nP oA]
   rfl
  |succ j J=>
   intro hj
   have J:=J oA
   have e:m-j=m-(j+1)+1:=oA
   rw[e]at J
   obtain⟨p,hp⟩:∃p,m-(j+1)=p:=⟨_,rfl⟩
   rw[hp]at J ⊢
   rw[zBm (l:=I) (k:=p) oA,J,hd p oA]
   unfold dig
   have e5:val (l0.drop p)=lm l0 p+BB*val (l0.drop (p+1)):=zBm oA
   have s:=zGV (lm l0 p) (val (l0.drop (p+1))) (val lb) hV (qK h0 p)
   have h1:=zHy (x:=lm l0 p) (gC (val (l0.drop (p+1))) (val lb)).symm
   have hr:=uH (lm l0 p+BB*(val (l0.drop (p+1))%val lb)) hV
   rw[e5,<-s.1]
   rw[h1,gM hV,uP hr]
   rfl
 have:=O m (vR _)
 rwa [nF,mH,mH]at this
end Go.Proofs.Wd
