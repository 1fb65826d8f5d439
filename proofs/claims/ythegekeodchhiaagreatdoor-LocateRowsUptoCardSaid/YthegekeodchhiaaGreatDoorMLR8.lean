/- Walks of math/bits' TrailingZeros64 and of gcd's word and what it needs. -/
import Derived.Test.YthegekeodchhiaaGreatDoorProg
import Derived.Test.YthegekeodchhiaaGreatDoorMLR4
import Derived.Test.YthegekeodchhiaaGreatDoorMLR1
import Derived.Lib.TrailingZeros
import Derived.Laws.Bits64b
theorem oF {P:Prop} (h:P:=by omega):P:=h
abbrev eF:=@Go.IntKind.wrap_u64
abbrev eH:=@Go.Exit.noGoto_ret
abbrev eI:=@Int.natCast_pow
namespace Go.Proofs.Wd
open Tryz
set_option maxHeartbeats 1000000
open Go.RowKit Lb
def Tab (w:World):Prop:= ∀j,j<64->w.cell? ⟨0,j,none⟩=some (.int .u8 (Lib.deBruijn64tab.getD j 0:Nat))
theorem Tab.below {w w':World} (h:Tab w) (hb:Below w.heap.size w w'):Tab w':=fun j hj=>(hb.cell (p:=⟨0,j,none⟩) (z7 (h j hj))).trans (h j hj)
theorem zR2 (x a:Nat) (hx:x<18446744073709551616) (hx0:x≠0) (hlow:x&&& (18446744073709551616 - x)=a):
  IntKind.u64.wrap (bits BinOp.and IntKind.u64 (x:Int) (IntKind.u64.wrap (-(x:Int)))*285870213051353865) / 288230376151711744=((a*285870213051353865 % 18446744073709551616 / 288230376151711744:Nat):Int):=by
 have e1:IntKind.u64.wrap (-(x:Int))=((18446744073709551616 - x:Nat):Int):=by rw [eF];omega
 rw [e1,bits_and_u64_nat x _ hx oF,hlow,eF]
 omega
theorem zTt {x:Nat} (h0:0<x) (h:x<18446744073709551616):TZ x (Lib.ctz 64 x):=by
 unfold Lib.ctz
 rw [if_neg oF]
 obtain ⟨m,hm,_⟩:=Lib.ctzFrom_spec 64 x h0 (by simpa using h)
 exact ⟨m,hm⟩
theorem zQn (x k idx:Nat) (w:World) (hx0:((x:Int)==0)=false)
  (key:IntKind.u64.wrap (bits BinOp.and IntKind.u64 (x:Int) (IntKind.u64.wrap (-(x:Int)))*285870213051353865) / 288230376151711744=(idx:Int))
  (hi:idx<64) (hk:k<64) (hcell:w.cell? ⟨0,idx,none⟩=some (.int .u8 k)):
  Calls prog 148 #[.int .u64 x] w fun e w'=>e= .returned (.int .i64 k)/\w=w':=by
 go_enter func148,ntmps148
 go_wp2_with (simp only [key])
 go_ret
 exact ⟨rfl,rfl⟩
theorem zI0 (x:Nat) (h0:0<x) (hx:x<18446744073709551616) (w:World) (hT:Tab w):
  ∃k,TZ x k/\k<64/\Calls prog 148 #[.int .u64 x] w fun e w'=>e= .returned (.int .i64 (k:Nat))/\w=w':=by
 obtain ⟨hlow,hk⟩:=Lib.lowest_bit 64 x oF hx
 obtain ⟨hi,htab⟩:=Lib.deBruijn64_at _ hk
 have hcell:=hT _ hi
 rw [htab] at hcell
 exact ⟨_,zTt h0 hx,hk,zQn x _ _ w (by simp;omega) (zR2 x _ hx oF hlow) hi hk hcell⟩
theorem zK3 (a b:Nat) (ha:a<18446744073709551616) (hb:b<18446744073709551616) (w:World) (hz:a=0∨b=0):
  Calls prog 134 #[.int .u64 a, .int .u64 b] w fun e w'=>e= .returned (.int .u64 (Nat.gcd a b:Nat))/\w=w':=by
 have hor:=u64_or_nat a b oF oF
 rcases hz with rfl|rfl
 ·have e1:0|||b=b:=Nat.zero_or b
  rw [e1] at hor
  have HOR:=hid hor
  clear hor e1
  rw [Nat.gcd_zero_left]
  go_enter func134,ntmps134
  go_wp2
  go_step3
  go_wp2
  rw [eH]
  go_ret
  exact ⟨congrArg (fun z=>Ending.returned (.int .u64 z)) HOR.out,rfl⟩
 ·have e1:a|||0=a:=Nat.or_zero a
  rw [e1] at hor
  have HOR:=hid hor
  clear hor e1
  rw [Nat.gcd_zero_right]
  by_cases h0:a=0
  ·subst h0
   go_enter func134,ntmps134
   go_wp2
   go_step3
   go_wp2
   rw [eH]
   go_ret
   exact ⟨congrArg (fun z=>Ending.returned (.int .u64 z)) HOR.out,rfl⟩
  ·have h0':((a:Int)==0)=false:=by simp;omega
   go_enter func134,ntmps134
   go_wp2
   go_step3
   go_wp2
   rw [eH]
   go_ret
   exact ⟨congrArg (fun z=>Ending.returned (.int .u64 z)) HOR.out,rfl⟩
def zRP (G:Nat) (x y:Value):Prop:= ∃a b:Nat,x= .int .u64 a/\y= .int .u64 b/\a<18446744073709551616/\b<18446744073709551616/\a % 2=1/\Nat.gcd a b=G
theorem zNA (a b:Nat) (ha:a<18446744073709551616) (hb:b<18446744073709551616) (ha0:0<a) (hb0:0<b) (w:World) (hT:Tab w):
  Calls prog 134 #[.int .u64 a, .int .u64 b] w fun e w'=>e= .returned (.int .u64 (Nat.gcd a b:Nat))/\w=w':=by
 have hor:=u64_or_nat a b oF oF
 have holt:a|||b<18446744073709551616:=Nat.or_lt_two_pow (n:=64) ha hb
 obtain ⟨i,hi,hi64,hci⟩:=zI0 a ha0 ha w hT
 obtain ⟨j,hj,hj64,hcj⟩:=zI0 b hb0 hb w hT
 obtain ⟨k,hk,hk64,hck⟩:=zI0 (a|||b) (by have:=(hi.or hj).pos;exact this) holt w hT
 obtain rfl:k=min i j:=hk.unique (hi.or hj)
 have hg:=hi.gcd hj
 have hodd:=hi.part.2
 obtain ⟨o,ho⟩: ∃o,a|||b=o:=⟨_,rfl⟩
 obtain ⟨a1,ha1⟩: ∃x,a / 2^i=x:=⟨_,rfl⟩
 obtain ⟨k,hkk⟩: ∃x,min i j=x:=⟨_,rfl⟩
 have hgo:=vE hodd hj
 have hle:Nat.gcd a b<18446744073709551616:=Nat.lt_of_le_of_lt (Nat.gcd_le_left b ha0) ha
 rw [ha1] at hg hodd hgo
 rw [hgo] at hg
 rw [ho] at hor hck
 rw [hkk] at hck hg hk64
 obtain ⟨G,hG⟩: ∃G,Nat.gcd a1 b=G:=⟨_,rfl⟩
 have hshr:(a:Int) / 2^i=(a1:Int):=by
  rw [<-ha1,Int.natCast_ediv,eI]
  rfl
 have ha1b:a1<18446744073709551616:=by rw [<-ha1];exact Nat.lt_of_le_of_lt (Nat.div_le_self _ _) ha
 rw [hG] at hg
 have HG:=hid hG;have HGG:=hid hg;have HO:=hid hodd
 have a0':((a:Int)==0)=false:=by simp;omega
 have b0':((b:Int)==0)=false:=by simp;omega
 clear hG hg hodd hgo ha1 hkk ho hi hj hk hcj
 go_enter func134,ntmps134
 go_wp2
 go_step3
 go_wp2_with (first|(go_at_call 148;first|((with_reducible refine hck.mono ?_);rintro e w1 ⟨rfl,rfl⟩)|((with_reducible refine hci.mono ?_);rintro e w1 ⟨rfl,rfl⟩)))
 go_step3
 go_wp2
 go_loop [0,1] (zRP G) (fun x y=>(intOf x+intOf y).toNat)
 case atStart=>exact ⟨a1,b,rfl,rfl,ha1b,hb,HO.out,HG.out⟩
 case round=>
  obtain ⟨x,y,rfl,rfl,hx,hy,hxo,hgxy⟩:=hrel
  have HXO:=hid hxo;have HXY:=hid hgxy
  clear hxo hgxy
  rcases Nat.eq_zero_or_pos y with rfl|hy0
  ·have hx2:x=G:=by have:=HXY.out;rwa [Nat.gcd_zero_right] at this
   subst hx2
   have hshl:IntKind.u64.wrap ((x:Int)*2^k)=((Nat.gcd a b:Nat):Int):=by
    have e1:(x:Int)*2^k=((Nat.gcd a b:Nat):Int):=by
     rw [HGG.out,Int.natCast_mul,eI,Int.mul_comm]
     rfl
    rw [e1,eF]
    omega
   have HSL:=hid hshl
   clear hshl
   go_wp2
   rw [HSL.out]
   go_ret
   exact ⟨rfl,rfl⟩
  ·obtain ⟨j,hj,hj64,hcj⟩:=zI0 y hy0 hy w hT
   have hgo:=vE HXO.out hj
   have hyo:=hj.part.2
   have hyle:y / 2^j<=y:=Nat.div_le_self _ _
   obtain ⟨y1,hy1⟩: ∃z,y / 2^j=z:=⟨_,rfl⟩
   have hshr:(y:Int) / 2^j=(y1:Int):=by
    rw [<-hy1,Int.natCast_ediv,eI]
    rfl
   rw [hy1] at hgo hyo hyle
   have HGO:=hid (hgo.trans HXY.out);have HYO:=hid hyo
   have hx0:0<x:=by have:=HXO.out;omega
   clear hgo hyo hy1 hj
   rcases Nat.lt_or_ge y1 x with hlt|hge
   ·have e1:(x:Int) - (y1:Int)=((x - y1:Nat):Int):=by omega
    have hr:zRP G (.int .u64 (y1:Nat)) (.int .u64 ((x:Int) - (y1:Int))):=⟨y1,x - y1,rfl,by rw [e1],by omega,by omega,HYO.out,by rw [Nat.gcd_comm,zGB oF];exact HGO.out⟩
    have HR:=hid hr
    have hm:((y1:Int)+((x:Int) - (y1:Int))).toNat<((x:Int)+(y:Int)).toNat:=by omega
    clear hr e1
    go_wp2_with (go_at_call 148;refine hcj.mono ?_;rintro e w1 ⟨rfl,rfl⟩)
    exact ⟨HR.out,by simp [intOf];omega⟩
   ·have e1:(y1:Int) - (x:Int)=((y1 - x:Nat):Int):=by omega
    have hr:zRP G (.int .u64 (x:Nat)) (.int .u64 ((y1:Int) - (x:Int))):=⟨x,y1 - x,rfl,by rw [e1],by omega,by omega,HXO.out,by rw [Nat.gcd_comm,zGB oF,Nat.gcd_comm];exact HGO.out⟩
    have HR:=hid hr
    have hm:((x:Int)+((y1:Int) - (x:Int))).toNat<((x:Int)+(y:Int)).toNat:=by omega
    clear hr e1
    go_wp2_with (go_at_call 148;refine hcj.mono ?_;rintro e w1 ⟨rfl,rfl⟩)
    exact ⟨HR.out,by simp [intOf];omega⟩
end Go.Proofs.Wd
