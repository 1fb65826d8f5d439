/- Walks of math/bits' Len32, LeadingZeros32, Mul32 and of prod's count and what it needs. -/
import Derived.Test.YthegekeodchhiaaGreatDoorMLR12
import Derived.Lib.Strings
import Derived.Lib.Slices
import Derived.Lib.Small
import Derived.Lib.Walk
import Derived.Lib.BitFns
import Derived.Lib.ItoaNum
theorem oK {P:Prop} (h:P:=by omega):P:=h
namespace Go.Proofs.Wd
open Tryz
set_option maxRecDepth 100000
set_option maxHeartbeats 4000000
open Go.RowKit Lb
theorem zMD (x:Int) (w:World) (h0:0<=x) (h1:x<=4294967295):
  Calls prog 163 #[.int .u32 x] w fun e w'=>e= .returned (.int .i64 (Lib.bitLen x.toNat))/\w'=w:=by
 have u9:prog.underlying 9=some .string:=underlying9
 have key: ∀(y:Int) (k:Nat),0<=y->y<=255->Lib.bitLen x.toNat=k+Lib.bitLen y.toNat->k<=24->wrap64 ((k:Int)+wrap64 (Lib.len8 y))=(Lib.bitLen x.toNat:Int)/\(k:Int)+Lib.len8 y=(Lib.bitLen x.toNat:Int)/\0<=Lib.len8 y/\Lib.len8 y<=8:=by
  intro y k y0 y1 hk hk2
  have e:=Lib.len8_of y y0 y1
  have l:=Lib.bitLen_le8' y y0 y1
  rw [e,hk]
  unfold wrap64
  omega
 rcases (by omega:x<=255∨(256<=x/\x<=65535)∨(65536<=x/\x<=16777215)∨16777216<=x) with h2|⟨h2,h3⟩|⟨h2,h3⟩|h2
 ·obtain ⟨k1,k2,k3,k4⟩:=key x 0 h0 h2 oK oK
  have hx:x % 256=x:=by omega
  go_enter func163,ntmps163
  go_wp2
  go_ret
  have k5:Lib.len8 x=(Lib.bitLen x.toNat:Int):=by omega
  exact ⟨by rw [<-k5];rfl,rfl⟩
 ·obtain ⟨k1,k2,k3,k4⟩:=key (x / 256) 8 oK oK (by rw [Lib.bitLen_shift8 x.toNat oK oK];congr 2;omega) oK
  have hx:x / 256 % 256=x / 256:=by omega
  have hx0:0<=x / 256:=by omega
  have hx1:x / 256<=255:=by omega
  go_enter func163,ntmps163
  go_wp2
  go_ret
  exact ⟨by rw [<-k2];rfl,rfl⟩
 ·obtain ⟨k1,k2,k3,k4⟩:=key (x / 65536) 16 oK oK (by rw [Lib.bitLen_shift16 x.toNat oK oK];congr 2;omega) oK
  have hx:x / 65536 % 256=x / 65536:=by omega
  have hx0:0<=x / 65536:=by omega
  have hx1:x / 65536<=255:=by omega
  go_enter func163,ntmps163
  go_wp2
  go_ret
  exact ⟨by rw [<-k2];rfl,rfl⟩
 ·obtain ⟨k1,k2,k3,k4⟩:=key (x / 65536 / 256) 24 oK oK (by rw [Lib.bitLen_shift24 x.toNat oK oK];congr 2;omega) oK
  have hx:x / 65536 / 256 % 256=x / 65536 / 256:=by omega
  have hx0:0<=x / 65536 / 256:=by omega
  have hx1:x / 65536 / 256<=255:=by omega
  have hx2:256<=x / 65536:=by omega
  go_enter func163,ntmps163
  go_wp2
  go_ret
  exact ⟨by rw [<-k2];rfl,rfl⟩
theorem zK1 (x:Nat) (h0:0<x) (h1:x<4294967296): ∃up:Nat,up<=31/\x*2^up<4294967296/\ ∀w:World,Calls prog 151 #[.int .u32 (x:Int)] w fun e w'=>e= .returned (.int .i64 (up:Int))/\w'=w:=by
 have hl:=Lib.bitLen_le x 32 oK (by simpa using h1)
 obtain ⟨hb1,_,hb2⟩:=Lib.bitLenAux_bounds 64 x oK oK
 have hb1:1<=Lib.bitLen x:=hb1
 have hb2:x<2^Lib.bitLen x:=hb2
 refine ⟨32 - Lib.bitLen x,by omega, ?_,fun w=> ?_⟩
 ·have e:2^Lib.bitLen x*2^(32 - Lib.bitLen x)=4294967296:=by
   rw [<-Nat.pow_add,show Lib.bitLen x+(32 - Lib.bitLen x)=32 from by omega]
  rw [<-e]
  exact Nat.mul_lt_mul_of_pos_right hb2 (Nat.two_pow_pos _)
 ·have hc:=zMD x w oK oK
  rw [Int.toNat_natCast] at hc
  obtain ⟨k,hk⟩: ∃k,Lib.bitLen x=k:=⟨_,rfl⟩
  rw [hk] at hl hb1 hc ⊢
  clear hk hb2
  have e8:(32:Int) - (k:Int)=((32 - k:Nat):Int):=by omega
  go_enter func151,ntmps151
  go_wp2_with (go_at_call 163;refine hc.mono ?_;rintro e w' ⟨rfl,rfl⟩)
  go_ret
  refine ⟨?_,rfl⟩
  rw [<-e8]
  rfl
theorem zMr (n s p hi lo:Nat) (hn:n<4294967296) (hs:s<4294967296) (hp:n*s=p) (hp2:p<18446744073709551616) (hhi:p / 4294967296=hi) (hlo:p % 4294967296=lo) (w:World):
  Calls prog 165 #[.int .u32 (n:Int), .int .u32 (s:Int)] w fun e w'=>e= .returned (.tuple #[.int .u32 (hi:Int), .int .u32 (lo:Int)])/\w'=w:=by
 have h1:(n:Int)*(s:Int)=(p:Int):=by rw [<-hp,Int.natCast_mul]
 have h2:(p:Int) / 4294967296=(hi:Int):=by omega
 have h3:(p:Int) % 4294967296=(lo:Int):=by omega
 have h4:(hi:Int) % 4294967296=(hi:Int):=by omega
 clear hp hhi hlo
 go_enter func165,ntmps165
 go_wp2
 go_ret2
 refine ⟨?_,rfl⟩
 rw [<-h3]
 rfl
theorem zHS (k m:Nat) (h:k<=m) (hm:m<=65536) (w:World):Calls prog 164 #[.int .i64 (k:Int), .int .i64 (m:Int)] w fun e w'=>e= .returned (.int .i64 (k:Int))/\w'=w:=by
 have e:max (min (k:Int) (m:Int)) 0=(k:Int):=by omega
 go_enter func164,ntmps164
 go_wp2
 go_ret
 first|exact ⟨rfl,rfl⟩|(refine ⟨?_,rfl⟩;rw [<-e];rfl)|go_show
end Go.Proofs.Wd
