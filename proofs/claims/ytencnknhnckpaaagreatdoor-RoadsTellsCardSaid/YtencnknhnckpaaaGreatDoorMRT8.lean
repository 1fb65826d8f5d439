/- Walks of math/bits' TrailingZeros64 and of gcd's word and what it needs. -/
import Derived.Test.YtencnknhnckpaaaGreatDoorMRT4
import Derived.Lib.TrailingZeros
abbrev lU:=@Nat.lt_of_le_of_lt
abbrev lV:=@Nat.div_le_self
abbrev lW:=@Go.IntKind.wrap_u64
abbrev lX:=@Int.natCast_ediv
abbrev lY:=@Nat.gcd_zero_right
abbrev lZ:=@Nat.gcd_le_left
abbrev mA:=@Int.natCast_pow
namespace Go.Proofs.Wd
open Tryz
set_option maxHeartbeats 1000000
open Go.RowKit Lb
def Tab(w:World):Prop:=∀j,j<64->w.cell? ⟨0,j,none⟩=some (.int .u8 (Lib.deBruijn64tab.getD j 0:Nat))
theorem Tab.below{w w':World}(h:Tab w)(I:Below w.heap.size w w'):Tab w':=fun j hj=>(I.cell (p:=⟨0,j,none⟩) (zU (h j hj))).trans (h j hj)
theorem zRh(x a:Nat)(J:x<18446744073709551616)(hx0:x≠0)(h:x&&& (18446744073709551616-x)=a):
  IntKind.u64.wrap (bits BinOp.and IntKind.u64 (x:Int) (IntKind.u64.wrap (-(x:Int)))*285870213051353865)/288230376151711744=((a*285870213051353865%18446744073709551616/288230376151711744:Nat):Int):=by
 have I:IntKind.u64.wrap (-(x:Int))=((18446744073709551616-x:Nat):Int):=by rw[lW];omega
 rw[I,bits_and_u64_nat x _ J oA,h,lW]
 omega
theorem zSj{x:Nat}(h0:0<x)(h:x<18446744073709551616):TZ x (Lib.ctz 64 x):=by
 unfold Lib.ctz
 rw[if_neg oA]
 obtain⟨m,I,_⟩:=Lib.ctzFrom_spec 64 x h0 (by simpa using h)
 exact⟨m,I⟩
theorem zPG(x k idx:Nat)(w:World)(hx0:((x:Int)==0)=false)
  (key:IntKind.u64.wrap (bits BinOp.and IntKind.u64 (x:Int) (IntKind.u64.wrap (-(x:Int)))*285870213051353865)/288230376151711744=(idx:Int))
  (hi:idx<64)(hk:k<64)(hcell:w.cell? ⟨0,idx,none⟩=some (.int .u8 k)):
  Calls prog 121 #[.int .u64 x] w fun e w'=>e=.returned (.int .i64 k)/\w=w':=by
 go_enter func121,ntmps121
 go_wp2_with (simp only[key])
 go_ret
 exact⟨rfl,rfl⟩
theorem zIM(x:Nat)(h0:0<x)(O:x<18446744073709551616)(w:World)(hT:Tab w):
  ∃k,TZ x k/\k<64/\Calls prog 121 #[.int .u64 x] w fun e w'=>e=.returned (.int .i64 (k:Nat))/\w=w':=by
 obtain⟨J,hk⟩:=Lib.lowest_bit 64 x oA O
 obtain⟨hi,I⟩:=Lib.deBruijn64_at _ hk
 have h:=hT _ hi
 rw[I]at h
 exact⟨_,zSj h0 O,hk,zPG x _ _ w sB (zRh x _ O oA J) hi hk h⟩
theorem zKE(a b:Nat)(ha:a<18446744073709551616)(hb:b<18446744073709551616)(w:World)(hz:a=0∨b=0):
  Calls prog 114 #[.int .u64 a,.int .u64 b] w fun e w'=>e=.returned (.int .u64 (Nat.gcd a b:Nat))/\w=w':=by
 have hor:=fF a b oA oA
 rcases hz with rfl|rfl
 .have e1:0|||b=b:=Nat.zero_or b
  rw[e1]at hor
  have HOR:=hid hor
  clear hor e1
  rw[Nat.gcd_zero_left]
  go_enter func114,ntmps114
  go_wp2
  go_step3
  go_wp2
  rw[fD]
  go_ret
  exact⟨vX (fun z=>Ending.returned (.int .u64 z)) HOR.out,rfl⟩
 .have e1:a|||0=a:=Nat.or_zero a
  rw[e1]at hor
  have HOR:=hid hor
  clear hor e1
  rw[lY]
  by_cases h0:a=0
  .subst h0
   go_enter func114,ntmps114
   go_wp2
   go_step3
   go_wp2
   rw[fD]
   go_ret
   exact⟨vX (fun z=>Ending.returned (.int .u64 z)) HOR.out,rfl⟩
  .have h0':((a:Int)==0)=false:=sB
   go_enter func114,ntmps114
   go_wp2
   go_step3
   go_wp2
   rw[fD]
   go_ret
   exact⟨vX (fun z=>Ending.returned (.int .u64 z)) HOR.out,rfl⟩
def zQ9(G:Nat)(x y:Value):Prop:=∃a b:Nat,x=.int .u64 a/\y=.int .u64 b/\a<18446744073709551616/\b<18446744073709551616/\a%2=1/\Nat.gcd a b=G
theorem zM0(a b:Nat)(ha:a<18446744073709551616)(hb:b<18446744073709551616)(ha0:0<a)(hb0:0<b)(w:World)(hT:Tab w):
  Calls prog 114 #[.int .u64 a,.int .u64 b] w fun e w'=>e=.returned (.int .u64 (Nat.gcd a b:Nat))/\w=w':=by
 have hor:=fF a b oA oA
 have holt:a|||b<18446744073709551616:=Nat.or_lt_two_pow (n:=64) ha hb
 obtain⟨i,hi,hi64,hci⟩:=zIM a ha0 ha w hT
 obtain⟨j,hj,hj64,hcj⟩:=zIM b hb0 hb w hT
 obtain⟨k,hk,hk64,hck⟩:=zIM (a|||b) (by have:=(hi.or hj).pos;exact this) holt w hT
 obtain rfl:k=min i j:=hk.unique (hi.or hj)
 have hg:=hi.gcd hj
 have hodd:=hi.part.2
 obtain⟨o,ho⟩:∃o,a|||b=o:=⟨_,rfl⟩
 obtain⟨a1,ha1⟩:∃x,a/2^i=x:=⟨_,rfl⟩
 obtain⟨k,hkk⟩:∃x,min i j=x:=⟨_,rfl⟩
 have hgo:=vE hodd hj
 have hle:Nat.gcd a b<18446744073709551616:=lU (lZ b ha0) ha
 rw[ha1]at hg hodd hgo
 rw[hgo]at hg
 rw[ho]at hor hck
 rw[hkk]at hck hg hk64
 obtain⟨G,hG⟩:∃G,Nat.gcd a1 b=G:=⟨_,rfl⟩
 have hshr:(a:Int)/2^i=(a1:Int):=by
  rw[<-ha1,lX,mA]
  rfl
 have ha1b:a1<18446744073709551616:=by rw[<-ha1];exact lU (lV _ _) ha
 rw[hG]at hg
 have HG:=hid hG;have HGG:=hid hg;have HO:=hid hodd
 have a0':((a:Int)==0)=false:=sB
 have b0':((b:Int)==0)=false:=sB
 clear hG hg hodd hgo ha1 hkk ho hi hj hk hcj
 go_enter func114,ntmps114
 go_wp2
 go_step3
 go_wp2_with (first|(go_at_call 121;first|((with_reducible refine hck.mono ?_);rintro e w1 ⟨rfl,rfl⟩)|((with_reducible refine hci.mono ?_);rintro e w1 ⟨rfl,rfl⟩)))
 go_step3
 go_wp2
 go_loop [0,1] (zQ9 G) (fun x y=>(intOf x+intOf y).toNat)
 case atStart=>exact⟨a1,b,rfl,rfl,ha1b,hb,HO.out,HG.out⟩
 case round=>
  obtain⟨x,y,rfl,rfl,hx,hy,hxo,hgxy⟩:=hrel
  have HXO:=hid hxo;have HXY:=hid hgxy
  clear hxo hgxy
  rcases uJ y with rfl|hy0
  .have hx2:x=G:=by have:=HXY.out;rwa [lY]at this
   subst hx2
   have hshl:IntKind.u64.wrap ((x:Int)*2^k)=((Nat.gcd a b:Nat):Int):=by
    have e1:(x:Int)*2^k=((Nat.gcd a b:Nat):Int):=by
     rw[HGG.out,Int.natCast_mul,mA,Int.mul_comm]
     rfl
    rw[e1,lW]
    omega
   have HSL:=hid hshl
   clear hshl
   go_wp2
   rw[HSL.out]
   go_ret
   exact⟨rfl,rfl⟩
  .obtain⟨j,hj,hj64,hcj⟩:=zIM y hy0 hy w hT
   have hgo:=vE HXO.out hj
   have hyo:=hj.part.2
   have hyle:y/2^j<=y:=lV _ _
   obtain⟨y1,hy1⟩:∃z,y/2^j=z:=⟨_,rfl⟩
   have hshr:(y:Int)/2^j=(y1:Int):=by
    rw[<-hy1,lX,mA]
    rfl
   rw[hy1]at hgo hyo hyle
   have HGO:=hid (hgo.trans HXY.out);have HYO:=hid hyo
   have hx0:0<x:=by have:=HXO.out;omega
   clear hgo hyo hy1 hj
   rcases xZ y1 x with hlt|hge
   .have e1:(x:Int)-(y1:Int)=((x-y1:Nat):Int):=oA
    have hr:zQ9 G (.int .u64 (y1:Nat)) (.int .u64 ((x:Int)-(y1:Int))):=⟨y1,x-y1,rfl,by rw[e1],oA,oA,HYO.out,by rw[uQ,zGC oA];exact HGO.out⟩
    have HR:=hid hr
    have hm:((y1:Int)+((x:Int)-(y1:Int))).toNat<((x:Int)+(y:Int)).toNat:=oA
    clear hr e1
    go_wp2_with (go_at_call 121;refine hcj.mono ?_;rintro e w1 ⟨rfl,rfl⟩)
    exact⟨HR.out,by simp[intOf];omega⟩
   .have e1:(y1:Int)-(x:Int)=((y1-x:Nat):Int):=oA
    have hr:zQ9 G (.int .u64 (x:Nat)) (.int .u64 ((y1:Int)-(x:Int))):=⟨x,y1-x,rfl,by rw[e1],oA,oA,HXO.out,by rw[uQ,zGC oA,uQ];exact HGO.out⟩
    have HR:=hid hr
    have hm:((x:Int)+((y1:Int)-(x:Int))).toNat<((x:Int)+(y:Int)).toNat:=oA
    clear hr e1
    go_wp2_with (go_at_call 121;refine hcj.mono ?_;rintro e w1 ⟨rfl,rfl⟩)
    exact⟨HR.out,by simp[intOf];omega⟩
end Go.Proofs.Wd
