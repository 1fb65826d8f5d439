/- Walks of prod's Up and Down; The walk of prod's Down; Walks of straitr and what it needs. -/
import Derived.Test.YthegekeodchhiaaGreatDoorMLR15
import Derived.Test.YthegekeodchhiaaGreatDoorMLR14
import Derived.Test.YthegekeodchhiaaGreatDoorMLR3
import Derived.Test.YthegekeodchhiaaGreatDoorMLR9
import Derived.Test.YthegekeodchhiaaGreatDoorMLR1
import Derived.Test.YthegekeodchhiaaGreatDoorMLR7
theorem kE {P:Prop} (h:P:=by kernel_rfl):P:=h
theorem oL {P:Prop} (h:P:=by omega):P:=h
abbrev mJ:=@Nat.le_refl
abbrev mK:=@Nat.mul_comm
abbrev mL:=@Nat.add_mul
abbrev mM:=@Nat.mul_assoc
abbrev mN:=@Go.RowKit.Below.refl
abbrev mO:=@Nat.two_pow_pos
abbrev mP:=@Nat.pow_add
abbrev mQ:=@Int.natCast_pow
abbrev mR:=@Nat.mod_lt
abbrev mS:=@Nat.zero_le
abbrev mT:=@Nat.lt_of_le_of_lt
abbrev mU:=@Nat.pow_succ
abbrev mV:=@Int.tdiv_eq_ediv_of_nonneg
abbrev mW:=@Int.tmod_eq_emod_of_nonneg
abbrev mX:=@Nat.add_zero
abbrev mY:=@Nat.pow_le_pow_right
abbrev mZ:=@Nat.mul_le_mul_right
abbrev nA:=@Nat.div_lt_of_lt_mul
abbrev nB:=@Int.natCast_nonneg
abbrev nC:=@Nat.div_add_mod
abbrev nD:=@List.length_set
abbrev nE:=@Nat.div_eq_of_lt
abbrev nF:=@Nat.mul_lt_mul_of_pos_right
abbrev nG:=@Nat.two_pow_add_eq_or_of_lt
abbrev WY:=Go.World
abbrev WZ:=Option
namespace Go.Proofs.Wd
open Tryz
set_option maxRecDepth 100000
set_option maxHeartbeats 1000000
open Go.RowKit Lb
theorem zLt (k:Nat) (h:k<=17592186044416) (w:WY):
  (Instr.makeSlice 23 (.int .i64 0) (.int .i64 (k:Int))).run prog w= .ok (.slice (some ⟨w.heap.size,0,none⟩) 0 k) (w.alloc (.cells (madeCells #[.int .u32 0] k) 73)):=by
 obtain ⟨i,hi,hz,hs,hb⟩:=info_parts yZ
 have hr:=run_make (P:=prog) w 23 73 i (.int .u32 0) yJ hi hz .i64 .i64 0 k oL oL (by rw [hb];omega) oL
 simp only [Int.toNat_natCast,hs,Nat.mul_one] at hr
 exact hr
theorem zMf (k:Nat) (h:k<=17592186044416) (w:WY):yG (w.alloc (.cells (madeCells #[.int .u32 0] k) 73)) w.heap.size 73 (.slice (some ⟨w.heap.size,0,none⟩) 0 k) []:=
 ⟨rfl, .inr ⟨w.heap.size,k,_,rfl,mJ _,heap_alloc_new w _,mS _,by unfold maxLen;omega,by simp [madeCells],rfl⟩⟩
def zKk (w:WY) (v:Nat) (e:Ending) (w':WY):Prop:= ∃A n c l,e= .returned (.slice A n c)/\Is l v/\yG w' w.heap.size 73 (.slice A n c) l/\Below w.heap.size w w'
theorem yG.base {w:WY} {B B':Nat} {e:TypeId} {v:Value} {l:List Nat} (h:yG w B e v l) (hb:B'<=B):yG w B' e v l:=by
 obtain ⟨h1,h2⟩:=h
 refine ⟨h1, ?_⟩
 rcases h2 with h2|⟨g,cap,cur,h3,h4,h5⟩
 ·exact .inl h2
 ·exact .inr ⟨g,cap,cur,h3,by omega,h5⟩
theorem zDW (A:WZ Addr) (n c:Nat) (l:List Nat) (w:WY) (h:Rd w A n c l) (hl:n<=1099511627776):
  Calls prog 115 #[.slice A n c] w fun e w'=> ∃A' c',e= .returned (.slice A' n c')/\yG w' w.heap.size 73 (.slice A' n c') l/\Below w.heap.size w w':=by
 have hq:=fun (wx:WY) (a:WZ Addr) (l c:Nat)=>Lib.run_eql_slice_nil (P:=prog) wx 23 73 a l c 0 0 yJ
 cases A with
 |none=>
  obtain ⟨rfl,rfl,rfl⟩:=h.empty
  go_enter func115,ntmps115
  go_wp2
  go_ret
  exact ⟨none,0,rfl,wU _ _ _,mN _ _⟩
 |some ad=>
  have hown:yG (w.alloc (.cells #[] 73)) w.heap.size 73 (.slice (some ⟨w.heap.size,0,none⟩) 0 0) []:=World.ownsRow_made (base:=w.heap.size) (e:=73) (size:=1) w #[] 0 (mJ _) (by unfold maxLen;omega) rfl
  have hlen:=h.len
  go_enter func115,ntmps115
  go_wp2_with (at_builtin;refine zX rfl _ _ 23 73 rfl yJ yZ w.heap.size _ [] rfl hown (some ad) n c l rfl (h.alloc _) (by simp;omega) (by simp) ?_;intro v1 w1 hown1 hg1 hat1;obtain ⟨A1,c1,rfl⟩:=hown1.form)
  go_ret
  rw [List.nil_append] at hown1
  have hb:=yG.grown ((mN w.heap.size w).alloc (mJ _) _) hown hg1 (mJ _) (by simp)
  rw [hlen] at hown1
  exact ⟨A1,c1,rfl,hown1,hb⟩
theorem zNJ (A:WZ Addr) (n c:Nat) (l:List Nat) (w:WY) (h:Rd w A n c l) (ht:Lt l) (hl:n<=1099511627776):
  Calls prog 90 #[.slice A n c] w (zKk w (val l)):=by
 have hle:=h.le;have hcap:=h.cap;have hlen:=h.len
 go_enter func90,ntmps90
 go_wp2
 go_loop [3] (fun x=> ∃k:Nat,k<=n/\x= .int .i64 k/\(∀i,k<=i->i<l.length->lm l i=0)) (fun x=>(intOf x).toNat)
 case atStart=>exact ⟨n,mJ _,rfl,fun i h1 h2=>by omega⟩
 case round=>
  obtain ⟨k,hk,rfl,hz⟩:=hrel
  have HZ:=hid hz
  clear hz
  by_cases h0:0<k
  ·obtain ⟨b,o,rfl,hc⟩:=h.cells (k - 1) oL
   have e1:((k:Int) - 1).toNat=k - 1:=by omega
   by_cases hx:lm l (k - 1)=0
   ·go_wp2
    go_round
    case rel=>exact ⟨k - 1,by omega,by congr 1;omega,fun i h1 h2=>by
     by_cases e:i=k - 1
     ·subst e;exact hx
     ·exact HZ.out i oL h2⟩
    case measure=>simp [intOf];omega
   ·have hx2:((lm l (k - 1):Int)==0)=false:=by simpa using hx
    have HX:=hid hx
    clear hx
    go_wp2_with (go_at_call 115;refine (zDW _ k k (l.take k) _ (h.take oL (mJ _) oL) oL).mono ?_;rintro e w1 ⟨A1,c1,rfl,hr1,hb1⟩)
    go_ret
    exact ⟨A1,k,c1,l.take k,rfl,⟨zBF ht _,zBS l k oL HZ.out (.inr HX.out),jK oL HZ.out⟩,hr1,hb1⟩
  ·obtain rfl:k=0:=by omega
   cases A with
   |none=>
    obtain ⟨rfl,rfl,rfl⟩:=h.empty
    go_wp2_with (go_at_call 115;refine (zDW _ 0 0 [] _ (wL _) oL).mono ?_;rintro e w1 ⟨A1,c1,rfl,hr1,hb1⟩)
    go_ret
    exact ⟨A1,0,c1, [],rfl,Is.nil,hr1,hb1⟩
   |some ad=>
    go_wp2_with (go_at_call 115;refine (zDW _ 0 0 (l.take 0) _ (h.take oL (mJ _) oL) oL).mono ?_;rintro e w1 ⟨A1,c1,rfl,hr1,hb1⟩)
    go_ret
    exact ⟨A1,0,c1,l.take 0,rfl,⟨zBF ht _,zBS l 0 oL HZ.out (.inl rfl),jK oL HZ.out⟩,hr1,hb1⟩
def UpI (w:WY) (l:List Nat) (n s:Nat) (v o i:Value) (W:WY):Prop:=
 ∃(j u:Nat) (A:WZ Addr) (c:Nat) (lo:List Nat),j<=n/\i= .int .i64 j/\o= .int .u32 u/\v= .slice A j c/\u<s/\yG W w.heap.size 73 (.slice A j c) lo/\lo.length=j/\Lt lo/\
  val lo+u*BB^j=s*sm (lm l) j/\Below w.heap.size w W
theorem zLd (n s u:Nat) (k:Nat) (hk:k<=31) (hs:2^k=s) (hn:n<4294967296) (hu:u<s):
  ∃p hi lo z:Nat,n*s=p/\p<18446744073709551616/\p / 4294967296=hi/\p % 4294967296=lo/\hi<s/\lo<4294967296/\bits .or .u32 (lo:Int) (u:Int)=(z:Int)/\z<4294967296/\n*s+u=z+hi*4294967296:=by
 have hs32:s*2^(32 - k)=4294967296:=by
  rw [<-hs, <-mP,show k+(32 - k)=32 from by omega]
 have hs0:0<s:=by rw [<-hs];exact mO _
 have hsl:s<4294967296:=by
  have:2<=2^(32 - k):=by
   calc 2=2^1:=rfl
    _<=2^(32 - k):=mY oL oL
  have:=Nat.mul_le_mul_left s this
  omega
 have hp:n*s<4294967296*s:=nF hn hs0
 have hp2:4294967296*s<=4294967296*4294967296:=Nat.mul_le_mul_left _ oL
 obtain ⟨q,hq⟩: ∃q,n*s % 4294967296=q*s:=by
  refine ⟨n % 2^(32 - k), ?_⟩
  rw [<-hs32,mK s,Nat.mul_mod_mul_right]
 have hor:n*s % 4294967296|||u=n*s % 4294967296+u:=by
  rw [hq, <-hs,mK]
  exact (nG (by rw [hs];exact hu) q).symm
 have hlt:n*s % 4294967296+u<4294967296:=by
  have h1:n*s % 4294967296<4294967296:=by omega
  rw [hq] at h1 ⊢
  rw [<-hs32,mK q] at h1
  have h2:q<2^(32 - k):=Nat.lt_of_mul_lt_mul_left h1
  have h3:(q+1)*s<=2^(32 - k)*s:=mZ _ h2
  rw [mL,Nat.one_mul,mK (2^(32 - k)),hs32] at h3
  omega
 refine ⟨n*s,n*s / 4294967296,n*s % 4294967296,n*s % 4294967296+u,rfl,by omega,rfl,rfl,nA (by rw [mK] at hp ⊢;exact hp),by omega, ?_,hlt,by omega⟩
 rw [u32_or_nat _ _ oL oL,hor]
theorem zPq (A:WZ Addr) (n c:Nat) (l:List Nat) (k:Nat) (w:WY) (h:Rd w A n c l) (ht:Lt l) (hk:k<=31) (hn:n<=100000):
  Calls prog 152 #[.slice A n c, .int .i64 (k:Int)] w (zKk w (val l*2^k)):=by
 have hle:=h.le;have hcap:=h.cap
 have HN:=hid h.len
 have hmk: ∀wx:WY,(Instr.makeSlice 23 (.int .i64 0) (.int .i64 ((n:Int)+1))).run prog wx= .ok (.slice (some ⟨wx.heap.size,0,none⟩) 0 (n+1)) (wx.alloc (.cells (madeCells #[.int .u32 0] (n+1)) 73)):=fun wx=>zLt (n+1) oL wx
 have hk1:(k:Int) / 32=0:=by omega
 have hk2:(k:Int) % 32=(k:Int):=by omega
 have hk3:(k:Int).tdiv 32=0:=by rw [mV oL];exact hk1
 have hk4:(k:Int).tmod 32=(k:Int):=by rw [mW oL];exact hk2
 obtain ⟨s,hs⟩: ∃s,2^k=s:=⟨_,rfl⟩
 rw [hs]
 have hsl:s<4294967296:=by rw [<-hs];exact mT (mY oL hk) (by decide)
 have hpow:(2:Int)^k % 4294967296=(s:Int):=by
  rw [<-hs,mQ]
  have:((2^k:Nat):Int)<4294967296:=by rw [hs];omega
  rw [mQ] at this
  have h0:=nB (2^k)
  rw [mQ] at h0
  exact Int.emod_eq_of_lt h0 this
 go_enter func152,ntmps152
 go_wp2_with (go_at_call 164;refine (zHS k 65536 oL oL _).mono ?_;rintro e w1 ⟨rfl,hw1⟩;rw [hw1];clear hw1 w1)
 go_loopw [5,6,24] (UpI w l n s) (fun _ _ i _=>n - (intOf i).toNat)
 case atStart=>exact ⟨0,0,_,_, [],mS _,rfl,rfl,rfl,by rw [<-hs];exact mO _,zMf (n+1) oL w,rfl,zCi,by simp [sm],(mN _ w).alloc (mJ _) _⟩
 case round=>
  obtain ⟨j,u,Ao,co,lo,hj,rfl,rfl,rfl,hu,hown,hlo,hlt,heq,hB⟩:=hrel
  have HQ:=hid heq
  clear heq
  have hr:=h.below hB
  by_cases hjn:j<n
  ·obtain ⟨b,o,rfl,hcb⟩:=hr.cells j hjn
   have x1:=qM ht j
   simp only [BB] at x1
   obtain ⟨x,hx⟩: ∃x,lm l j=x:=⟨_,rfl⟩
   rw [hx] at x1 hcb
   obtain ⟨p,hi,lw,z,hp,hp2,hhi,hlw,hhs,hlw2,hor,hz,hst⟩:=zLd x s u k hk hs x1 hu
   have hmul:=zMr x s p hi lw x1 hsl hp hp2 hhi hlw
   have HX:=hid hx;have HST:=hid hst
   clear hx hst hp hhi hlw
   have hs1:lo.length+ [z].length<=17592186044416:=by simp;omega
   have hl1:(lo++ [z]).length=j+1:=by simp;omega
   go_wp2_with (first|(go_at_call 165;refine (hmul _).mono ?_;rintro e w2 ⟨rfl,rfl⟩)|(at_builtin;refine zX rfl _ _ 23 73 rfl yJ yZ w.heap.size _ lo rfl (yG.alloc hown _) _ 1 1 [z] rfl (Rd.one _ z 73) hs1 (qE hB.size _) ?_;intro v1 w3 hown1 hg1 hat1;obtain ⟨A1,c1,rfl⟩:=hown1.form' hl1))
   go_roundw
   case rel=>exact ⟨j+1,hi,A1,c1,lo++ [z],by omega,by go_num,rfl,rfl,hhs,hown1,hl1,zBh hlt hz,by rw [zAH,hlo];simp only [sm,mU];rw [HX.out];exact zQm HQ.out HST.out,yG.grown (hB.alloc hB.size _) (yG.alloc hown _) hg1 (mJ _) (qE hB.size _)⟩
   case measure=>simp [intOf];omega
  ·obtain rfl:j=n:=by omega
   have hs1:lo.length+ [u].length<=17592186044416:=by simp;omega
   have hl1:(lo++ [u]).length=j+1:=by simp;omega
   have hl2:Lt (lo++ [u]):=zBh hlt (by unfold BB;omega)
   have hk9:j+1<=1099511627776:=by omega
   go_wp2_with (first|(at_builtin;refine zX rfl _ _ 23 73 rfl yJ yZ w.heap.size _ lo rfl (yG.alloc hown _) _ 1 1 [u] rfl (Rd.one _ u 73) hs1 (qE hB.size _) ?_;intro v1 w3 hown1 hg1 hat1;obtain ⟨A1,c1,rfl⟩:=hown1.form' hl1)|(go_at_call 90;refine (zNJ _ _ _ _ _ hown1.rd hl2 hk9).mono ?_;rintro e w2 ⟨A2,n2,c2,l2,rfl,hi2,hr2,hb2⟩))
   go_ret
   have e1:=zA5 (l:=l) (n:=j) (by have:=HN.out;omega)
   have hv:val (lo++ [u])=val l*s:=by rw [zAH,hlo,HQ.out,e1,mK]
   rw [hv] at hi2
   have hB1:=yG.grown (hB.alloc hB.size _) (yG.alloc hown _) hg1 (mJ _) (qE hB.size _)
   exact ⟨A2,n2,c2,l2,rfl,hi2,hr2.base hB1.size,hB1.trans (hb2.mono hB1.size)⟩
end Go.Proofs.Wd

namespace Go.Proofs.Wd
open Tryz
set_option maxRecDepth 100000
set_option maxHeartbeats 1000000
open Go.RowKit Lb
attribute [local go_sem] Oper.semAt_some qF yI
def zTP (w:WY) (R cc:Nat) (l:List Nat) (n s:Nat) (i:Value) (W:WY):Prop:=
 ∃(j:Nat) (l':List Nat),j<=n/\i= .int .i64 j/\Row W R cc l'/\l'.length=n/\Lt l'/\(∀x,j<=x->lm l' x=lm l x)/\
  sm (lm l) j+lm l j % s*BB^j=s*sm (lm l') j+lm l 0 % s/\Below w.heap.size w W
theorem zM8 (x y s k:Nat) (hk:k<=31) (hs:2^k=s) (hx:x<4294967296):
  ∃f sh z:Nat,x / s=f/\y*2^(32 - k) % 4294967296=sh/\f<4294967296/\sh<4294967296/\bits .or .u32 (f:Int) (sh:Int)=(z:Int)/\z<4294967296/\s*z=(x - x % s)+4294967296*(y % s)/\(y % s=0->f=z):=by
 have hs32:s*2^(32 - k)=4294967296:=by
  rw [<-hs, <-mP,show k+(32 - k)=32 from by omega]
 have hs0:0<s:=by rw [<-hs];exact mO _
 obtain ⟨T,hT⟩: ∃T,2^(32 - k)=T:=⟨_,rfl⟩
 rw [hT] at hs32
 have hsh:y*T % 4294967296=y % s*T:=by rw [<-hs32,Nat.mul_mod_mul_right]
 have hf:x / s<T:=nA (by rw [hs32];exact hx)
 have hsl:y % s*T<4294967296:=by
  rw [<-hs32]
  exact nF (mR _ hs0) (by rw [<-hT];exact mO _)
 have hor:y % s*T|||x / s=y % s*T+x / s:=by
  rw [<-hT] at hf ⊢
  rw [mK]
  exact (nG hf _).symm
 have hz:y % s*T+x / s<4294967296:=by
  have h1:(y % s+1)*T<=s*T:=mZ _ (mR _ hs0)
  rw [hs32,mL,Nat.one_mul] at h1
  obtain ⟨f,hf1⟩: ∃f,x / s=f:=⟨_,rfl⟩
  rw [hf1] at hf ⊢
  omega
 refine ⟨x / s,y*2^(32 - k) % 4294967296,y % s*T+x / s,rfl,rfl,mT (Nat.div_le_self _ _) hx,by omega, ?_,hz, ?_,fun e=>by rw [e,Nat.zero_mul,Nat.zero_add]⟩
 ·rw [hT,hsh,u32_or_nat _ _ (mT (Nat.div_le_self _ _) hx) hsl,Nat.or_comm,hor]
 ·rw [Nat.mul_add,Nat.mul_left_comm,hs32,mK (y % s)]
  have:=nC x s
  omega
theorem zPc (A:WZ Addr) (n c:Nat) (l:List Nat) (k:Nat) (w:WY) (h:Rd w A n c l) (ht:Lt l) (hk:k<=31) (hn:n<=100000):
  Calls prog 154 #[.slice A n c, .int .i64 (k:Int)] w (jH w (val l / 2^k)):=by
 have hmix:prog.follows .mixedOrders=true:=by kernel_rfl
 have hle:=h.le;have hcap:=h.cap
 have HN:=hid h.len
 have hk1:(k:Int) / 32=0:=by omega
 have hk2:(k:Int) % 32=(k:Int):=by omega
 have hk3:(k:Int).tdiv 32=0:=by rw [mV oL];exact hk1
 have hk4:(k:Int).tmod 32=(k:Int):=by rw [mW oL];exact hk2
 have hcount: ∀w1:WY,Calls prog 164 #[.int .i64 (k:Int), .int .i64 65536] w1 fun e w'=>e= .returned (.int .i64 (k:Int))/\w'=w1:=fun w1=>zHS k 65536 oL oL w1
 rcases Nat.eq_zero_or_pos n with rfl|hn0
 ·obtain rfl:l= []:=List.eq_nil_of_length_eq_zero h.len
  go_enter func154,ntmps154
  go_wp2
  go_step3
  go_wp2_with (go_at_call 164;go_must (refine (hcount _).mono ?_;rintro e w1 ⟨rfl,hw1⟩;rw [hw1];clear hw1 w1))
  rw [Exit.noGoto_ret]
  go_ret
  exact ⟨none,0,0, [],rfl,by show Is [] (0 / 2^k);rw [Nat.zero_div];exact Is.nil,wL w,mN _ _⟩
 ·obtain ⟨b,o,rfl,_,_⟩:=h.shape hn0
  have hclone:=zDW (some ⟨b,o,none⟩) n c l w h oL
  obtain ⟨s,hs⟩: ∃s,2^k=s:=⟨_,rfl⟩
  rw [hs]
  go_enter func154,ntmps154
  go_wp2
  go_step3
  go_wp2_with (first|(go_at_call 164;go_must (refine (hcount _).mono ?_;rintro e w1 ⟨rfl,hw1⟩;rw [hw1];clear hw1 w1))|(go_at_call 115;go_must (refine hclone.mono ?_;rintro e w1 ⟨A1,c1,rfl,ho1,hb1⟩;obtain ⟨R,rfl,_,hR,hrow⟩:=Row.of_own ho1 (by rw [h.len];exact hn0))))
  go_step3
  go_wp2
  go_loopw [21] (zTP w R c1 l n s) (fun i _=>n - (intOf i).toNat)
  case atStart=>exact ⟨0,l,mS _,rfl,hrow,HN.out,ht,fun _ _=>rfl,by simp [sm],hb1⟩
  case round=>
   obtain ⟨j,l',hj,rfl,hr,hl,hlt,hun,heq,hB⟩:=hrel
   have HQ:=hid heq
   have HU:=hid hun
   clear heq hun
   by_cases hjn:j<n
   ·have hrc:=hr.cap
    have gr:=hr.cell (i:=j) oL
    have gf:=hr.frozen j
    have hx0:lm l' j=lm l j:=HU.out _ (mJ _)
    have x1:=qM ht j
    simp only [BB] at x1
    obtain ⟨x,hx⟩: ∃x,lm l j=x:=⟨_,rfl⟩
    obtain ⟨y,hy⟩: ∃y,lm l (j+1)=y:=⟨_,rfl⟩
    rw [hx0,hx] at gr
    rw [hx] at x1
    obtain ⟨f,sh,z,hf,hsh,hf2,hsh2,hor,hz,hst,hfz⟩:=zM8 x y s k hk hs x1
    have hdv:(x:Int) / 2^k=(f:Int):=by
     rw [<-hf, <-hs,Int.natCast_ediv,mQ]
     rfl
    have HX:=hid hx;have HY:=hid hy;have HST:=hid hst;have HFZ:=hid hfz;have HSH:=hid hsh
    clear hx hx0 hy hst hf hfz hsh
    have key: ∀(W:WY) (v:Nat),v<4294967296->v=z->Row W R c1 (l'.set j v)->Below w.heap.size w W->zTP w R c1 l n s (.int .i64 ((j:Int)+1)) W:=by
     intro W v hv hvz hr2 hb2
     subst hvz
     refine ⟨j+1,l'.set j v,by omega,by go_num,hr2,by rw [nD];exact hl,zCK hlt hz,fun y hy=> ?_, ?_,hb2⟩
     ·rw [zAU oL,if_neg oL]
      exact HU.out y oL
     ·have e1:sm (lm (l'.set j v)) (j+1)=sm (lm l') j+v*BB^j:=by
       show sm (lm (l'.set j v)) j+lm (l'.set j v) j*BB^j=_
       rw [zAU oL,if_pos rfl]
       congr 1
       exact zAJ fun i hi=>by rw [zAU oL,if_neg oL]
      rw [e1,HY.out,mU]
      show sm (lm l) j+lm l j*BB^j+_*(BB^j*4294967296)=_
      rw [HX.out]
      have hq:=HQ.out
      rw [HX.out] at hq
      exact zM9 hq HST.out
    have HK:=hid key
    clear key
    rcases (by omega:n<=j+1∨(j+1<n/\k=0)∨(j+1<n/\0<k)) with h9|⟨h9,h10⟩|⟨h9,h10⟩
    ·have hy0:=HY.out
     rw [zDQ (by have:=HN.out;omega)] at hy0
     have hfz:=HFZ.out (by rw [<-hy0];exact Nat.zero_mod s)
     have hk9:=HK.out _ f hf2 hfz (hr.set j f) (hB.setCell (p:=⟨R,j,none⟩) hR _)
     have HK9:=hid hk9
     clear hy0 hfz hk9
     go_wp2
     exact ⟨HK9.out,by simp [intOf];omega⟩
    ·have hk0:((k:Int)==0)=true:=by simp [h10]
     have hfz:=HFZ.out (by rw [<-hs,h10];exact Nat.mod_one y)
     have hk9:=HK.out _ f hf2 hfz (hr.set j f) (hB.setCell (p:=⟨R,j,none⟩) hR _)
     have HK9:=hid hk9
     clear hfz hk9 h10
     go_wp2
     exact ⟨HK9.out,by simp [intOf];omega⟩
    ·have hr9:=hr.set j f
     have hk9:=HK.out ((wr.setCell ⟨R,j,none⟩ (.int .u32 (f:Int))).setCell ⟨R,j,none⟩ (.int .u32 (z:Int))).drew z hz rfl (by have:=hr9.set j z;rw [List.set_set] at this;exact this.kept rfl) ((hB.setCell (p:=⟨R,j,none⟩) hR _).setCell (p:=⟨R,j,none⟩) hR _).drew
     have HK9:=hid hk9
     clear hk9
     have hk0:((k:Int)==0)=false:=by simp only [beq_eq_false_iff_ne,ne_eq];omega
     have hjl:(j:Int)+1<(l.length:Int):=by have:=HN.out;omega
     have hwr:IntKind.i64.wrap ((j:Int)+1)=(j:Int)+1:=by rw [IntKind.wrap_i64];omega
     have hjt:((j:Int)+1).toNat=j+1:=by omega
     obtain ⟨m,hm⟩: ∃m,32 - k=m:=⟨_,rfl⟩
     have e2:(32:Int) - (k:Int)=(m:Int):=by omega
     have e3:IntKind.i64.wrap (m:Int)=(m:Int):=by rw [IntKind.wrap_i64];omega
     have hshl:(y:Int)*2^m % 4294967296=(sh:Int):=by
      rw [<-HSH.out,hm,Int.natCast_emod,Int.natCast_mul,mQ]
      rfl
     have hm32:m<=32:=by omega
     clear hm
     have d1:(wr.setCell ⟨R,j,none⟩ (.int .u32 (f:Int))).drew.cell? ⟨R,j,none⟩=some (.int .u32 (f:Int)):=by
      have:=hr9.cell (i:=j) (by rw [nD];omega)
      rwa [zAU oL,if_pos rfl] at this
     have d2:(wr.setCell ⟨R,j,none⟩ (.int .u32 (f:Int))).drew.cell? ⟨R,j+1,none⟩=some (.int .u32 (y:Int)):=by
      have:=hr9.cell (i:=j+1) (by rw [nD];omega)
      rw [zAU oL,if_neg oL,HU.out _ oL,HY.out] at this
      exact this
     have d3:(wr.setCell ⟨R,j,none⟩ (.int .u32 (f:Int))).drew.frozen? ⟨R,j,none⟩=false:=hr9.frozen j
     go_wp2
     refine (wpIn_wide (n:=0)).1 ?_
     refine yH 15 (fun W=>W.cell? ⟨R,j,none⟩=some (.int .u32 (f:Int))/\W.cell? ⟨R,j+1,none⟩=some (.int .u32 (y:Int))) hmix ?_
     have d4:=And.intro d1 d2
     refine zW (i:=0) (v:= ?vv1) kE kE rfl kE kE kE (fun _ _ _ h=>h) d4 ⟨.inl ⟨rfl, ?yy1⟩,fun _=>rfl⟩ ?_
     case yy1=>
      rintro wx ⟨q1,q2⟩
      go_simp
      first|done|rfl
     refine zW (i:=1) (v:= ?vv2) kE kE rfl kE kE kE (fun _ _ _ h=>h) d4 ⟨.inl ⟨rfl, ?yy2⟩,fun _=>rfl⟩ ?_
     case yy2=>
      rintro wx ⟨q1,q2⟩
      go_simp
      first|done|rfl
     refine zW (i:=2) (v:= ?vv3) kE kE rfl kE kE kE (fun _ _ _ h=>h) d4 ⟨.inl ⟨rfl, ?yy3⟩,fun _=>rfl⟩ ?_
     case yy3=>
      rintro wx ⟨q1,q2⟩
      go_simp
      first|done|rfl
     refine zW (i:=3) (v:= ?vv4) kE kE rfl kE kE kE (fun _ _ _ h=>h) d4 ⟨.inl ⟨rfl, ?yy4⟩,fun _=>rfl⟩ ?_
     case yy4=>
      rintro wx ⟨q1,q2⟩
      go_simp
      first|done|rfl
     refine zW (i:=4) (v:= ?vv5) kE kE rfl kE kE kE (fun _ _ _ h=>h) d4 ⟨.inl ⟨rfl, ?yy5⟩,fun _=>rfl⟩ ?_
     case yy5=>
      rintro wx ⟨q1,q2⟩
      go_simp
      first|done|rfl
     refine zW (i:=5) (v:= ?vv6) kE kE rfl kE kE kE (fun _ _ _ h=>h) d4 ⟨.inl ⟨rfl, ?yy6⟩,fun _=>rfl⟩ ?_
     case yy6=>
      rintro wx ⟨q1,q2⟩
      go_simp
      first|done|rfl
     refine zW (i:=6) (v:= ?vv7) kE kE rfl kE kE kE (fun _ _ _ h=>h) d4 ⟨.inl ⟨rfl, ?yy7⟩,fun _=>rfl⟩ ?_
     case yy7=>
      rintro wx ⟨q1,q2⟩
      go_simp
      first|done|rfl
     refine zW (i:=7) (v:= ?vv8) kE kE rfl kE kE kE (fun _ _ _ h=>h) d4 ⟨.inl ⟨rfl, ?yy8⟩,fun _=>rfl⟩ ?_
     case yy8=>
      rintro wx ⟨q1,q2⟩
      go_simp
      first|done|rfl
     refine zW (i:=8) (v:= ?vv9) kE kE rfl kE kE kE (fun _ _ _ h=>h) d4 ⟨.inl ⟨rfl, ?yy9⟩,fun _=>rfl⟩ ?_
     case yy9=>
      rintro wx ⟨q1,q2⟩
      go_simp
      first|done|rfl
     refine zW (i:=9) (v:= ?vv10) kE kE rfl kE kE kE (fun _ _ _ h=>h) d4 ⟨.inl ⟨rfl, ?yy10⟩,fun _=>rfl⟩ ?_
     case yy10=>
      rintro wx ⟨q1,q2⟩
      go_simp
      first|done|rfl
     refine zW (i:=10) (v:= ?vv11) kE kE rfl kE kE kE (fun _ _ _ h=>h) d4 ⟨.inl ⟨rfl, ?yy11⟩,fun _=>rfl⟩ ?_
     case yy11=>
      rintro wx ⟨q1,q2⟩
      go_simp
      first|done|rfl
     refine zW (i:=11) (v:= ?vv12) kE kE rfl kE kE kE (fun _ _ _ h=>h) d4 ⟨.inl ⟨rfl, ?yy12⟩,fun _=>rfl⟩ ?_
     case yy12=>
      rintro wx ⟨q1,q2⟩
      go_simp
      first|done|rfl
     refine zW (i:=12) (v:= ?vv13) kE kE rfl kE kE kE (fun _ _ _ h=>h) d4 ⟨.inl ⟨rfl, ?yy13⟩,fun _=>rfl⟩ ?_
     case yy13=>
      rintro wx ⟨q1,q2⟩
      go_simp
      first|done|rfl
     refine zW (i:=13) (v:= ?vv14) kE kE rfl kE kE kE (fun _ _ _ h=>h) d4 ⟨.inl ⟨rfl, ?yy14⟩,fun _=>rfl⟩ ?_
     case yy14=>
      rintro wx ⟨q1,q2⟩
      go_simp
      first|done|rfl
     refine zW (i:=14) (v:= ?vv15) kE kE rfl kE kE kE (fun _ _ _ h=>h) d4 ⟨.inl ⟨rfl, ?yy15⟩,fun _=>rfl⟩ ?_
     case yy15=>
      rintro wx ⟨q1,q2⟩
      go_simp
      first|done|rfl
     refine zAx (i:=15) kE rfl (fun K hK=> ?_)
     go_simp
     refine hK _ _ (.inl rfl) ?_
     clear hK K
     refine zCj kE ?_
     go_wp2
     rw [hshl,hor]
     exact ⟨HK9.out,by simp [intOf];omega⟩
   ·obtain rfl:j=n:=by omega
    have hfin:val l'=val l / s:=by
     have e1:sm (lm l) j=val l:=by have:=HN.out;unfold val;rw [this]
     have e2:sm (lm l') j=val l':=by unfold val;rw [hl]
     have e3:lm l j=0:=zDQ (by have:=HN.out;omega)
     have hq:=HQ.out
     rw [e1,e2,e3,Nat.zero_mod,Nat.zero_mul,mX] at hq
     have hs0:0<s:=by rw [<-hs];exact mO _
     rw [hq,Nat.mul_add_div hs0,nE (mR _ hs0),mX]
    have hrd:Rd wr (some ⟨R,0,none⟩) l.length c1 l':=by have:=hr.rd;rwa [hl, <-HN.out] at this
    have htr:=qY (some ⟨R,0,none⟩) l.length c1 l' wr hrd hlt (by rw [HN.out];omega)
    rw [hfin] at htr
    clear hfin
    go_wp2_with (go_at_call 90;(with_reducible refine htr.mono ?_);rintro e w2 ⟨A2,n2,c2,l2,rfl,hi2,hr2,hb2⟩)
    rw [Exit.noGoto_ret]
    go_ret
    exact ⟨A2,n2,c2,l2,rfl,hi2,hr2,hB.trans (hb2.mono hB.size)⟩
end Go.Proofs.Wd

namespace Go.Proofs.Wd
open Tryz
set_option maxRecDepth 100000
set_option maxHeartbeats 1000000
open Go.RowKit Lb
theorem zFI (k most:Int) (h0:0<=k) (h1:k<=most) (w:WY):Calls prog 113 #[.int .i64 k, .int .i64 most] w fun e w'=>e= .returned (.int .i64 k)/\w=w':=by
 have hmax:max k 0=k:=by omega
 have hmin:min k most=k:=by omega
 go_enter func113,ntmps113
 go_wp2
 go_ret
 exact ⟨rfl,rfl⟩
theorem zKA (m:Nat) (h:m<=17592186044416) (w:WY):yG (w.alloc (.cells (madeCells #[.int .u32 0] m) 73)) w.heap.size 73 (.slice (some ⟨w.heap.size,0,none⟩) m m) (List.replicate m 0):=by
 have hm:madeCells #[.int .u32 0] m=(zBi (List.replicate m 0)).toArray:=by
  apply Array.ext'
  simp [madeCells,zBi,Nat.mod_one,List.map_const']
 rw [hm]
 unfold yG
 rw [List.length_replicate]
 exact ⟨by simp [zBi], .inr ⟨w.heap.size,m,_,rfl,mJ _,heap_alloc_new w _,mJ _,by unfold maxLen;omega,by simp [zBi],by simp [zBi,List.take_of_length_le]⟩⟩
def zVH (w:WY) (l:List Nat) (n s q:Nat) (v o i:Value) (W:WY):Prop:=
 ∃(j u:Nat) (A:WZ Addr) (c:Nat) (lo:List Nat),j<=n/\i= .int .i64 j/\o= .int .u32 u/\v= .slice A (q+j) c/\u<s/\yG W w.heap.size 73 (.slice A (q+j) c) lo/\lo.length=q+j/\Lt lo/\
  val lo+u*BB^(q+j)=s*sm (lm l) j*BB^q/\Below w.heap.size w W
theorem zNY {s X u B P Q z hi x:Nat} (h1:X+u*(Q*P)=s*B*Q) (h2:x*s+u=z+hi*4294967296):X+z*(Q*P)+hi*(Q*P*4294967296)=s*(B+x*P)*Q:=by
 have e1:(x*s+u)*(Q*P)=(z+hi*4294967296)*(Q*P):=by rw [h2]
 have e2:s*(B+x*P)*Q=s*B*Q+x*s*(Q*P):=by
  rw [Nat.mul_add,mL]
  congr 1
  rw [mK x s,mM,mM,mM,mK P Q]
 rw [e2, <-h1]
 have e3:hi*(Q*P*4294967296)=hi*4294967296*(Q*P):=by rw [mK (Q*P),mM]
 rw [mL,mL] at e1
 omega
theorem zIh (A:WZ Addr) (n c:Nat) (l:List Nat) (q t:Nat) (w:WY) (h:Rd w A n c l) (ht:Lt l) (htt:t<=31) (hq:32*q+t<=65536) (hn:n<=100000):
  Calls prog 89 #[.slice A n c, .int .i64 ((32*q+t:Nat):Int)] w (jH w (val l*2^(32*q+t))):=by
 have hle:=h.le;have hcap:=h.cap
 have HN:=hid h.len
 have hpw:2^(32*q+t)=BB^q*2^t:=by rw [mP, <-zEp]
 obtain ⟨k,hk⟩: ∃k,32*q+t=k:=⟨_,rfl⟩
 rw [hk] at hpw hq ⊢
 have hk1:(k:Int) / 32=(q:Int):=by omega
 have hk2:(k:Int) % 32=(t:Int):=by omega
 have hk3:(k:Int).tdiv 32=(q:Int):=by rw [mV oL];exact hk1
 have hk4:(k:Int).tmod 32=(t:Int):=by rw [mW oL];exact hk2
 have hq2:q<=2048:=by omega
 have hmk: ∀wx:WY,(Instr.makeSlice 23 (.int .i64 (q:Int)) (.int .i64 (q:Int))).run prog wx= .ok (.slice (some ⟨wx.heap.size,0,none⟩) q q) (wx.alloc (.cells (madeCells #[.int .u32 0] q) 73)):=fun wx=>by
  have:=zA7 q oL wx
  exact this
 obtain ⟨s,hs⟩: ∃s,2^t=s:=⟨_,rfl⟩
 rw [hs] at hpw
 rw [hpw]
 have hsl:s<4294967296:=by rw [<-hs];exact mT (mY oL htt) (by decide)
 clear hpw hk
 go_enter func89,ntmps89
 go_wp2_with (go_at_call 113;refine (zFI k 65536 oL oL _).mono ?_;rintro e w1 ⟨rfl,rfl⟩)
 go_loopw [5,6,7] (zVH w l n s q) (fun _ _ i _=>n - (intOf i).toNat)
 case atStart=>exact ⟨0,0,_,_,List.replicate q 0,mS _,rfl,rfl,rfl,by rw [<-hs];exact mO _,zKA q oL w,by simp,jX _,by rw [zAp];simp [sm],(mN _ w).alloc (mJ _) _⟩
 case round=>
  obtain ⟨j,u,Ao,co,lo,hj,rfl,rfl,rfl,hu,hown,hlo,hlt,heq,hB⟩:=hrel
  have HQ:=hid heq
  have HLO:=hid hlo
  clear heq hlo
  have hr:=h.below hB
  by_cases hjn:j<n
  ·obtain ⟨b,o,rfl,hcb⟩:=hr.cells j hjn
   have x1:=qM ht j
   simp only [BB] at x1
   obtain ⟨x,hx⟩: ∃x,lm l j=x:=⟨_,rfl⟩
   rw [hx] at x1 hcb
   obtain ⟨p,hi,lw,z,hp,hp2,hhi,hlw,hhs,hlw2,hor,hz,hst⟩:=zLd x s u t htt hs x1 hu
   have hshl:IntKind.u64.wrap ((x:Int)*2^t)=(p:Int):=by
    have e1:(x:Int)*2^t=(p:Int):=by
     rw [<-hp, <-hs,Int.natCast_mul,mQ]
     rfl
    rw [e1,IntKind.wrap_u64]
    omega
   have hp3:(p:Int) / 4294967296=(hi:Int):=by omega
   have hp4:(p:Int) % 4294967296=(lw:Int):=by omega
   have hp5:(hi:Int) % 4294967296=(hi:Int):=by omega
   have HX:=hid hx;have HST:=hid hst
   clear hx hst hp hhi hlw
   have hs1:lo.length+ [z].length<=17592186044416:=by have:=HLO.out;simp;omega
   have hl1:(lo++ [z]).length=q+(j+1):=by have:=HLO.out;simp;omega
   go_wp2_with (at_builtin;refine zX rfl _ _ 23 73 rfl yJ yZ w.heap.size _ lo rfl (yG.alloc hown _) _ 1 1 [z] rfl (Rd.one _ z 73) hs1 (qE hB.size _) ?_;intro v1 w3 hown1 hg1 hat1;obtain ⟨A1,c1,rfl⟩:=hown1.form' hl1)
   go_roundw
   case rel=>exact ⟨j+1,hi,A1,c1,lo++ [z],by omega,by go_num,rfl,rfl,hhs,hown1,hl1,zBh hlt hz,by rw [zAH,HLO.out];simp only [sm,mU, <-Nat.add_assoc];rw [HX.out,mP];exact zNY (by rw [<-mP];exact HQ.out) HST.out,yG.grown (hB.alloc hB.size _) (yG.alloc hown _) hg1 (mJ _) (qE hB.size _)⟩
   case measure=>simp [intOf];omega
  ·obtain rfl:j=n:=by omega
   have hs1:lo.length+ [u].length<=17592186044416:=by have:=HLO.out;simp;omega
   have hl1:(lo++ [u]).length=q+j+1:=by have:=HLO.out;simp;omega
   have hl2:Lt (lo++ [u]):=zBh hlt (by unfold BB;omega)
   have hk9:q+j+1<=1099511627776:=by omega
   go_wp2_with (first|(at_builtin;refine zX rfl _ _ 23 73 rfl yJ yZ w.heap.size _ lo rfl (yG.alloc hown _) _ 1 1 [u] rfl (Rd.one _ u 73) hs1 (qE hB.size _) ?_;intro v1 w3 hown1 hg1 hat1;obtain ⟨A1,c1,rfl⟩:=hown1.form' hl1)|(go_at_call 54;refine (jL _ _ _ _ _ hown1.rd hl2 hk9).mono ?_;rintro e w2 ⟨A2,n2,c2,l2,rfl,hi2,hr2,hb2⟩))
   go_ret
   have e1:=zA5 (l:=l) (n:=j) (by have:=HN.out;omega)
   have hv:val (lo++ [u])=val l*(BB^q*s):=by rw [zAH,HLO.out,HQ.out,e1,mK s,mM,mK s]
   rw [hv] at hi2
   have hB1:=yG.grown (hB.alloc hB.size _) (yG.alloc hown _) hg1 (mJ _) (qE hB.size _)
   exact ⟨A2,n2,c2,l2,rfl,hi2,hr2,hB1.trans (hb2.mono hB1.size)⟩
def zQa (w:WY) (l:List Nat) (n q s:Nat) (v i:Value) (W:WY):Prop:=
 ∃(j:Nat) (A:WZ Addr) (c:Nat) (lo:List Nat),q+j<=n/\i= .int .i64 ((q+j:Nat):Int)/\v= .slice A j c/\yG W w.heap.size 73 (.slice A j c) lo/\lo.length=j/\Lt lo/\
  val lo*s+lm l q % s=sm (fun x=>lm l (q+x)) j+lm l (q+j) % s*BB^j/\Below w.heap.size w W
theorem zKr (x y s t:Nat) (ht:t<=31) (hs:2^t=s) (hx:x<4294967296) (hy:y<4294967296):
  ∃m z:Nat,x+y*4294967296=m/\m<18446744073709551616/\bits .or .u64 (x:Int) ((y:Int)*4294967296)=(m:Int)/\m / s % 4294967296=z/\z<4294967296/\z*s+x % s=x+y % s*4294967296:=by
 have hor:=zEH y x hy hx
 have hcomm:bits .or .u64 (x:Int) ((y:Int)*4294967296)=bits .or .u64 ((y:Int)*4294967296) (x:Int):=by
  have e:=u64_or_nat x (y*4294967296) oL oL
  have e2:=u64_or_nat (y*4294967296) x oL oL
  rw [Nat.or_comm] at e2
  rw [show ((y:Int)*4294967296)=((y*4294967296:Nat):Int) from by omega,e,e2]
 have hs32:s*2^(32 - t)=4294967296:=by
  rw [<-hs, <-mP,show t+(32 - t)=32 from by omega]
 have hs0:0<s:=by rw [<-hs];exact mO _
 obtain ⟨g,hg⟩: ∃g,2^(32 - t)=g:=⟨_,rfl⟩
 rw [hg] at hs32
 refine ⟨_,_,rfl,by omega,by rw [hcomm,hor];omega,rfl,mR _ oL, ?_⟩
 have e1:(x+y*4294967296) / s=x / s+y*g:=by
  rw [<-hs32,show y*(s*g)=s*(y*g) from by rw [Nat.mul_left_comm],Nat.add_mul_div_left _ _ hs0]
 have hxs:x / s<g:=nA (by rw [hs32];exact hx)
 have e2:(x / s+y*g) % 4294967296=x / s+y % s*g:=by
  have e3:y*g=y % s*g+4294967296*(y / s):=by
   have:=nC y s
   calc y*g=(s*(y / s)+y % s)*g:=by rw [this]
    _=y % s*g+4294967296*(y / s):=by rw [mL,Nat.add_comm, <-hs32];congr 1;rw [mM,mM,mK g]
  rw [e3, <-Nat.add_assoc,Nat.add_mul_mod_self_left,Nat.mod_eq_of_lt]
  have h1:y % s<s:=mR _ hs0
  have h2:(y % s+1)*g<=s*g:=mZ _ h1
  rw [hs32,mL] at h2
  omega
 rw [e1,e2,mL]
 have e4:=nC x s
 have e5:y % s*g*s=y % s*4294967296:=by rw [mM,mK g,hs32]
 rw [e5,mK (x / s)]
 omega
theorem zKs {Z s r S x y z P:Nat} (h1:Z*s+r=S+x % s*P) (h2:z*s+x % s=x+y % s*4294967296):(Z+z*P)*s+r=S+x*P+y % s*(P*4294967296):=by
 have e1:(z*s+x % s)*P=(x+y % s*4294967296)*P:=by rw [h2]
 rw [mL,mL] at e1
 have e2:(Z+z*P)*s=Z*s+z*s*P:=by rw [mL,Nat.mul_right_comm]
 have e3:y % s*(P*4294967296)=y % s*4294967296*P:=by rw [mK P,mM]
 omega
theorem zLF (A:WZ Addr) (n c:Nat) (l:List Nat) (q t:Nat) (w:WY) (h:Rd w A n c l) (ht:Lt l) (htt:t<=31) (hq:32*q+t<=65536) (hn:n<=100000) (hqn:q<=n):
  Calls prog 86 #[.slice A n c, .int .i64 ((32*q+t:Nat):Int)] w (jH w (val l / 2^(32*q+t))):=by
 have hle:=h.le;have hcap:=h.cap
 have HN:=hid h.len
 have hpw:2^(32*q+t)=BB^q*2^t:=by rw [mP, <-zEp]
 obtain ⟨k,hk⟩: ∃k,32*q+t=k:=⟨_,rfl⟩
 rw [hk] at hpw hq ⊢
 have hk1:(k:Int) / 32=(q:Int):=by omega
 have hk2:(k:Int) % 32=(t:Int):=by omega
 have hk3:(k:Int).tdiv 32=(q:Int):=by rw [mV oL];exact hk1
 have hk4:(k:Int).tmod 32=(t:Int):=by rw [mW oL];exact hk2
 have hq2:q<=2048:=by omega
 obtain ⟨s,hs⟩: ∃s,2^t=s:=⟨_,rfl⟩
 rw [hs] at hpw
 rw [hpw]
 have HS0:Hid (0<s):=hid (by rw [<-hs];exact mO _)
 have HS:=hid hs
 clear hpw hk hs
 have hown0:yG w w.heap.size 73 (.slice none 0 0) []:=wU w _ _
 go_enter func86,ntmps86
 go_wp2_with (go_at_call 113;refine (zFI k 65536 oL oL _).mono ?_;rintro e w1 ⟨rfl,rfl⟩)
 go_loopw [5,6] (zQa w l n q s) (fun _ i _=>n - (intOf i).toNat)
 case atStart=>exact ⟨0,none,0, [],by omega,by simp,rfl,hown0,rfl,zCi,by simp [sm],mN _ _⟩
 case round=>
  obtain ⟨j,Ao,co,lo,hj,rfl,rfl,hown,hlo,hlt,heq,hB⟩:=hrel
  have HQ:=hid heq
  have HLO:=hid hlo
  clear heq hlo
  have hr:=h.below hB
  obtain ⟨p,hp⟩: ∃p,q+j=p:=⟨_,rfl⟩
  rw [hp] at hj ⊢
  have HP':=hid hp
  clear hp
  by_cases hjn:p<n
  ·obtain ⟨b,o,rfl,hcb⟩:=hr.cells p hjn
   have x1:=qM ht p
   have y1:=qM ht (p+1)
   simp only [BB] at x1 y1
   obtain ⟨x,hx⟩: ∃x,lm l p=x:=⟨_,rfl⟩
   obtain ⟨y,hy⟩: ∃y,lm l (p+1)=y:=⟨_,rfl⟩
   rw [hx] at x1 hcb
   rw [hy] at y1
   obtain ⟨m,z,hm,hm2,hor,hz,hz2,hst⟩:=zKr x y s t htt HS.out x1 y1
   have hshr:(m:Int) / 2^t % 4294967296=(z:Int):=by
    rw [<-hz,Int.natCast_emod,Int.natCast_ediv, <-HS.out,mQ]
    rfl
   have HX:=hid hx;have HY:=hid hy;have HST:=hid hst;have HSH:=hid hshr;have HP:=HP';have HM:=hid hm
   clear hx hy hst hz hshr hm
   have hs1:lo.length+ [z].length<=17592186044416:=by have:=HLO.out;have:=HP.out;simp;omega
   have hl1:(lo++ [z]).length=j+1:=by have:=HLO.out;simp;omega
   have hrel2: ∀(W3:WY) (A1:WZ Addr) (c1:Nat),yG W3 w.heap.size 73 (.slice A1 (j+1) c1) (lo++ [z])->Below w.heap.size w W3->zQa w l n q s (.slice A1 (j+1) c1) (.int .i64 ((p:Int)+1)) W3:=by
    intro W3 A1 c1 h1 h2
    refine ⟨j+1,A1,c1,lo++ [z],by have:=HP.out;omega,by have:=HP.out;congr 1;omega,rfl,h1,hl1,zBh hlt hz2, ?_,h2⟩
    rw [zAH,HLO.out]
    simp only [sm]
    have e1:q+(j+1)=p+1:=by have:=HP.out;omega
    rw [e1,HP.out,HX.out,HY.out,mU]
    have hq0:=HQ.out
    rw [HP.out,HX.out] at hq0
    exact zKs hq0 HST.out
   have HR:=hid hrel2
   clear hrel2
   by_cases hj1:p+1<n
   ·obtain ⟨b2,o2,e2,hcb2⟩:=hr.cells (p+1) hj1
    cases e2
    rw [HY.out] at hcb2
    have hpt:((p:Int)+1).toNat=p+1:=by omega
    have hpw2:IntKind.u64.wrap ((y:Int)*4294967296)=(y:Int)*4294967296:=by rw [IntKind.wrap_u64];omega
    have hshr:=HSH.out
    go_wp2_with (at_builtin;refine zX rfl _ _ 23 73 rfl yJ yZ w.heap.size _ lo rfl (yG.alloc hown _) _ 1 1 [z] rfl (Rd.one _ z 73) hs1 (qE hB.size _) ?_;intro v1 w3 hown1 hg1 hat1;obtain ⟨A1,c1,rfl⟩:=hown1.form' hl1)
    have hB1:=yG.grown (hB.alloc hB.size _) (yG.alloc hown _) hg1 (mJ _) (qE hB.size _)
    exact ⟨HR.out w3 A1 c1 hown1 hB1,by simp [intOf];omega⟩
   ·have hy0:y=0:=by rw [<-HY.out];exact zDQ (by have:=HN.out;omega)
    have hmx:m=x:=by have:=HM.out;omega
    subst hmx
    have hshr:=HSH.out
    clear hor
    go_wp2_with (at_builtin;refine zX rfl _ _ 23 73 rfl yJ yZ w.heap.size _ lo rfl (yG.alloc hown _) _ 1 1 [z] rfl (Rd.one _ z 73) hs1 (qE hB.size _) ?_;intro v1 w3 hown1 hg1 hat1;obtain ⟨A1,c1,rfl⟩:=hown1.form' hl1)
    have hB1:=yG.grown (hB.alloc hB.size _) (yG.alloc hown _) hg1 (mJ _) (qE hB.size _)
    exact ⟨HR.out w3 A1 c1 hown1 hB1,by simp [intOf];omega⟩
  ·obtain rfl:p=n:=by omega
   have hl0:lm l p=0:=zDQ (by have:=HN.out;omega)
   have hq0:=HQ.out
   have hsm:sm (fun x=>lm l (q+x)) j=val l / BB^q:=by
    have e1:=jY l q (by have:=HN.out;omega)
    have e2:=qT (zBF ht q)
    rw [List.length_take,Nat.min_eq_left (by have:=HN.out;omega)] at e2
    have e3:val (l.drop q)=sm (fun x=>lm l (q+x)) j:=by
     unfold val
     rw [List.length_drop,HN.out,show p - q=j from by have:=HP'.out;omega]
     exact zAJ fun i _=>zDf
    rw [<-e3,e1,Nat.add_mul_div_left _ _ (zB1 q),nE e2,Nat.zero_add]
   rw [HP'.out,hl0,Nat.zero_mod,Nat.zero_mul,mX,hsm] at hq0
   have hrs:lm l q % s<s:=mR _ HS0.out
   have hv:val lo=val l / (BB^q*s):=by
    rw [<-Nat.div_div_eq_div_mul, <-hq0,mK,Nat.mul_add_div HS0.out,nE hrs,mX]
   have htr:=jL _ _ _ lo wr hown.rd hlt (by have:=HP'.out;omega)
   rw [hv] at htr
   clear hq0 hsm hv hrs hl0
   go_wp2_with (go_at_call 54;refine htr.mono ?_;rintro e w2 ⟨A2,n2,c2,l2,rfl,hi2,hr2,hb2⟩)
   go_ret
   exact ⟨A2,n2,c2,l2,rfl,hi2,hr2,hB.trans (hb2.mono hB.size)⟩
end Go.Proofs.Wd

namespace Go.Proofs.Wd
open Tryz
set_option maxRecDepth 100000
set_option maxHeartbeats 1000000
open Go.RowKit Lb
theorem zLu (A:WZ Addr) (n c:Nat) (l:List Nat) (w:WY) (h:Rd w A n c l) (ht:Lt l) (hl:n<=1099511627776):
  Calls prog 54 #[.slice A n c] w (zKk w (val l)):=by
 have hle:=h.le;have hcap:=h.cap;have hlen:=h.len
 have hown:yG (w.alloc (.cells #[] 73)) w.heap.size 73 (.slice (some ⟨w.heap.size,0,none⟩) 0 0) []:=World.ownsRow_made (base:=w.heap.size) (e:=73) (size:=1) w #[] 0 (mJ _) (by unfold maxLen;omega) rfl
 have hbs:w.heap.size<=(w.alloc (.cells #[] 73)).heap.size:=by simp
 go_enter func54,ntmps54
 go_wp2
 go_loop [3] (fun x=> ∃k:Nat,k<=n/\x= .int .i64 k/\(∀i,k<=i->i<l.length->lm l i=0)) (fun x=>(intOf x).toNat)
 case atStart=>exact ⟨n,mJ _,rfl,fun i h1 h2=>by omega⟩
 case round=>
  obtain ⟨k,hk,rfl,hz⟩:=hrel
  have HZ:=hid hz
  clear hz
  have hfin: ∀w1 A1 c1,yG w1 w.heap.size 73 (.slice A1 k c1) ([]++l.take k)->(k=0∨lm l (k - 1)≠0)->(w.alloc (.cells #[] 73)).grownBy w1 (Value.ownBlock (.slice (some ⟨w.heap.size,0,none⟩) 0 0))->zKk w (val l) (.returned (.slice A1 k c1)) w1:=by
   intro w1 A1 c1 h1 h2 h3
   rw [List.nil_append] at h1
   exact ⟨A1,k,c1,l.take k,rfl,⟨zBF ht _,zBS l k oL HZ.out h2,jK oL HZ.out⟩,h1,yG.grown ((mN w.heap.size w).alloc (mJ _) _) hown h3 (mJ _) hbs⟩
  have HF:=hid hfin
  clear hfin
  have hs1:([]:List Nat).length+(l.take k).length<=17592186044416:=by simp;omega
  have hl1:([]++l.take k).length=k:=by simp;omega
  by_cases h0:0<k
  ·obtain ⟨b,o,rfl,hc⟩:=h.cells (k - 1) oL
   have e1:((k:Int) - 1).toNat=k - 1:=by omega
   by_cases hx:lm l (k - 1)=0
   ·go_wp2
    go_round
    case rel=>exact ⟨k - 1,by omega,by congr 1;omega,fun i h1 h2=>by
     by_cases e:i=k - 1
     ·subst e;exact hx
     ·exact HZ.out i oL h2⟩
    case measure=>simp [intOf];omega
   ·have hx2:((lm l (k - 1):Int)==0)=false:=by simpa using hx
    have HX:=hid hx
    clear hx
    have hr1:Rd (w.alloc (.cells #[] 73)) (some ⟨b,o,none⟩) k c (l.take k):=(h.take hk oL (mJ _)).alloc _
    go_wp2_with (at_builtin;go_must (refine zX rfl _ _ 23 73 rfl yJ yZ w.heap.size _ [] rfl hown _ k c (l.take k) rfl hr1 hs1 hbs ?_;intro v1 w1 hown1 hg1 hat1;obtain ⟨A1,c1,rfl⟩:=hown1.form' hl1))
    go_ret
    exact HF.out w1 A1 c1 hown1 (.inr HX.out) hg1
  ·obtain rfl:k=0:=by omega
   cases A with
   |none=>
    obtain ⟨rfl,rfl,rfl⟩:=h.empty
    go_wp2_with (at_builtin;go_must (refine zX rfl _ _ 23 73 rfl yJ yZ w.heap.size _ [] rfl hown _ 0 0 [] rfl (wL _) hs1 hbs ?_;intro v1 w1 hown1 hg1 hat1;obtain ⟨A1,c1,rfl⟩:=hown1.form' hl1))
    go_ret
    exact HF.out w1 A1 c1 hown1 (.inl (by simp)) hg1
   |some ad=>
    have hr1:Rd (w.alloc (.cells #[] 73)) (some ad) 0 c (l.take 0):=(h.take hk oL (mJ _)).alloc _
    go_wp2_with (at_builtin;go_must (refine zX rfl _ _ 23 73 rfl yJ yZ w.heap.size _ [] rfl hown _ 0 c (l.take 0) rfl hr1 hs1 hbs ?_;intro v1 w1 hown1 hg1 hat1;obtain ⟨A1,c1,rfl⟩:=hown1.form' hl1))
    go_ret
    exact HF.out w1 A1 c1 hown1 (.inl (by simp)) hg1
theorem zJj (A:WZ Addr) (n c:Nat) (l:List Nat) (A':WZ Addr) (n' c':Nat) (l':List Nat) (w:WY) (h:Rd w A n c l) (h':Rd w A' n' c' l') (ht:Lt l) (ht':Lt l') (hge:val l'<=val l) (hn:n<=137438953472):
  Calls prog 88 #[.slice A n c, .slice A' n' c'] w fun e w'=> ∃A1 n1 c1 l1,e= .returned (.tuple #[.slice A1 n1 c1, .int .i64 0])/\Is l1 (val l - val l')/\yG w' w.heap.size 73 (.slice A1 n1 c1) l1/\Below w.heap.size w w':=by
 have hle:=h.le;have hcap:=h.cap;have hle':=h'.le;have hcap':=h'.cap
 have hcmp:decide (zAy (val l) (val l')<0)=false:=by
  unfold zAy
  rw [if_neg oL]
  split<;>simp
 have HN:Hid (l.length=n/\sm (lm l') n=val l'):=hid ⟨h.len,zH9 (mT hge (by have:=qT ht;rwa [h.len] at this))⟩
 have HG:=hid hge
 clear hge
 go_enter func88,ntmps88
 go_wp2_with (go_at_call 87;refine (zEC A n c l A' n' c' l' _ h h' ht ht').mono ?_;rintro e w1 ⟨rfl,rfl⟩)
 go_loopw [6,7,8] (zTI w l l' n) (fun _ _ i _=>n - (intOf i).toNat)
 case atStart=>exact ⟨0,0,none,0, [],mS _,rfl,rfl,rfl,by omega,wU _ _ _,rfl,zCi,by simp [sm],mN _ _⟩
 case round=>
  obtain ⟨k,u,Ao,co,lo,hk,rfl,rfl,rfl,hu1,hown,hlk,hlt,heq,hB⟩:=hrel
  have HQ:=hid heq
  clear heq
  have hr:=h.below hB;have hr':=h'.below hB
  have x1:=qM ht k;have x2:=qM ht' k
  simp only [BB] at x1 x2
  by_cases h0:k<n
  ·obtain ⟨d,z,t,u',hd,hz,htt,hu',hz1,hu1',hd1,ht1,hstep⟩:=zG6 (lm l k) (lm l' k) u x1 x2 hu1
   have HS:=hid hstep
   clear hstep
   have hs1:lo.length+ [z].length<=17592186044416:=by simp;omega
   have hl1:(lo++ [z]).length=k+1:=by simp;omega
   go_wp2_with (first|(go_at_call 114;first|((with_reducible refine (zAe A _ c l _ _ hr ht (nB k)).mono ?_);rintro e w1 ⟨rfl,rfl⟩)|((with_reducible refine (zAe A' _ c' l' _ _ hr' ht' (nB k)).mono ?_);rintro e w1 ⟨rfl,rfl⟩))|(at_builtin;refine zX rfl _ _ 23 73 rfl yJ yZ w.heap.size _ lo rfl (yG.alloc hown _) _ 1 1 [z] rfl (Rd.one _ z 73) hs1 (qE hB.size _) ?_;intro v1 w1 hown1 hg1 hat1;obtain ⟨A1,c1,rfl⟩:=hown1.form' hl1))
   go_roundw
   case rel=>exact ⟨k+1,u',A1,c1,lo++ [z],by omega,by go_num,rfl,rfl,hu1',hown1,hl1,zBh hlt hz1,by rw [zAH,hlk];simp only [sm,mU];exact zF3 HQ.out HS.out,yG.grown (hB.alloc hB.size _) (yG.alloc hown _) hg1 (mJ _) (qE hB.size _)⟩
   case measure=>simp [intOf];omega
  ·obtain rfl:k=n:=by omega
   have hk1:k<=1099511627776:=by omega
   go_wp2_with (go_at_call 54;refine (zLu _ _ _ _ _ hown.rd hlt hk1).mono ?_;rintro e w2 ⟨A2,n2,c2,l2,rfl,hi2,hr2,hb2⟩)
   go_ret2
   have e1:=zA5 (l:=l) (n:=k) (by have:=HN.out;omega)
   have e2:=HN.out.2
   have e3:=qT hlt
   have e4:=HQ.out
   have e5:=HG.out
   rw [hlk] at e3
   rw [e1,e2] at e4
   have hu0:u=0:=by
    rcases Nat.lt_or_ge 0 u with h0|h0
    ·have:u=1:=by omega
     subst this
     omega
    ·omega
   subst hu0
   have hv2:val lo=val l - val l':=by omega
   rw [hv2] at hi2
   exact ⟨A2,n2,c2,l2,rfl,hi2,hr2.base hB.size,hB.trans (hb2.mono hB.size)⟩
theorem zHz {w:WY} {base:Nat} {e:TypeId} {A:WZ Addr} {n c:Nat} {l:List Nat} (h:yG w base e (.slice A n c) l): ∀b o,A=some ⟨b,o,none⟩->base<=b:=by
 intro b o hA
 subst hA
 rcases h.2 with ⟨hv,_⟩|⟨g,cap,cur,hv,hg,_⟩
 ·cases hv
 ·injection hv with h1 h2 h3
  injection h1 with h1
  injection h1 with h1 _
  omega
end Go.Proofs.Wd
