/- Walks of package nat: limb, Clone, Trim, Of, Small, Cmp and what it needs. -/
import Derived.Test.YtihcepanbejfpaaGreatDoorProg
import Derived.Test.YtihcepanbejfpaaGreatDoorMEW3
abbrev lH:=@decide_eq_true
abbrev lI:=@List.nil_append
abbrev lJ:=@Go.Exit.noGoto_ret
abbrev lK:=@Int.eq_ofNat_of_zero_le
abbrev lL:=@Go.u64_or_nat
abbrev lM:=@Go.World.ownsRow_made
abbrev lN:=@Int.toNat_natCast
abbrev lO:=@Nat.two_pow_add_eq_or_of_lt
theorem fJ{P:Prop}(h:P:=by kernel_rfl):P:=h
theorem fR{P:Prop}(h:P:=by go_num):P:=h
namespace Go.Proofs.Wd
open Tryz
variable {l m:List Nat}{N a b k:Nat}
set_option maxHeartbeats 400000
open Go.RowKit Lb
theorem zUz(A:Option Addr)(n c:Nat)(l:List Nat)(i:Nat)(w:World)(h:Rd w A n c l)(hi:i<n):
  Calls prog 155 #[.slice A n c,.int .i64 i] w fun e w'=>e=.returned (.int .u32 (lm l i))/\w=w':=by
 obtain⟨b,o,rfl,hc⟩:=h.cells i hi
 have hle:=h.le;have hcap:=h.cap
 go_enter func155,ntmps155
 go_wp2
 go_ret
 exact⟨rfl,rfl⟩
theorem zRn(A:Option Addr)(n c:Nat)(i:Nat)(w:World)(hi:n<=i):
  Calls prog 155 #[.slice A n c,.int .i64 i] w fun e w'=>e=.returned (.int .u32 0)/\w=w':=by
 go_enter func155,ntmps155
 go_wp2
 go_ret
 exact⟨rfl,rfl⟩
theorem zBg(A:Option Addr)(n c:Nat)(l:List Nat)(i:Int)(w:World)(h:Rd w A n c l)(h0:0<=i):
  Calls prog 155 #[.slice A n c,.int .i64 i] w fun e w'=>e=.returned (.int .u32 (lm l i.toNat))/\w=w':=by
 obtain⟨k,rfl⟩:=lK h0
 rw[lN]
 by_cases hi:k<n
 .exact zUz A n c l k w h hi
 .rw[zEw (by have:=h.len;omega)];exact zRn A n c k w oA
theorem yX:(prog.info? 69).map (fun i=>(i.zero,i.size,i.bytes))=some (some (.int .u32 0),1,4):=fJ
theorem yH:prog.underlying 24=some (.slice 69):=underlying24
theorem zGy(A:Option Addr)(n c:Nat)(l:List Nat)(w:World)(h:Rd w A n c l)(hl:n<=1099511627776):
  Calls prog 143 #[.slice A n c] w fun e w'=>∃A' c',e=.returned (.slice A' n c')/\Rd w' A' n c' l/\Below w.heap.size w w':=by
 have hq:=fun(wx:World) (a:Option Addr) (l c:Nat)=>Lib.run_eql_slice_nil (P:=prog) wx 24 69 a l c 0 0 yH
 cases A with
 |none=>
  obtain⟨rfl,rfl,rfl⟩:=h.empty
  go_enter func143,ntmps143
  go_wp2
  go_ret
  exact⟨none,0,rfl,wM w,xG _ _⟩
 |some ad=>
  have hown:yE (w.alloc (.cells #[] 69)) w.heap.size 69 (.slice (some ⟨w.heap.size,0,none⟩) 0 0) []:=lM (base:=w.heap.size) (e:=69) (size:=1) w #[] 0 (vQ _) (by unfold maxLen;omega) rfl
  have hlen:=h.len
  go_enter func143,ntmps143
  go_wp2_with (at_builtin;refine zU rfl _ _ 24 69 rfl yH yX w.heap.size _ [] rfl hown (some ad) n c l rfl (h.alloc _) fM fG ?_;intro v1 w1 hown1 hg1 hat1;obtain⟨A1,c1,rfl⟩:=hown1.form)
  go_ret
  rw[lI]at hown1
  have hb:=yE.grown ((xG w.heap.size w).alloc (vQ _) _) hown hg1 (vQ _) fG
  rw[hlen]at hown1
  exact⟨A1,c1,rfl,hown1.rd,hb⟩
theorem qX(A:Option Addr)(n c:Nat)(l:List Nat)(w:World)(h:Rd w A n c l)(ht:Lt l)(hl:n<=1099511627776):
  Calls prog 124 #[.slice A n c] w (jH w (val l)):=by
 have hle:=h.le;have hcap:=h.cap;have hlen:=h.len
 go_enter func124,ntmps124
 go_wp2
 go_loop [3] (fun x=>∃k:Nat,k<=n/\x=.int .i64 k/\(∀i,k<=i->i<l.length->lm l i=0)) (fun x=>(intOf x).toNat)
 case atStart=>exact⟨n,vQ _,rfl,fun i h1 h2=>oA⟩
 case round=>
  obtain⟨k,hk,rfl,hz⟩:=hrel
  have HZ:=hid hz
  clear hz
  by_cases h0:0<k
  .obtain⟨b,o,rfl,hc⟩:=h.cells (k-1) oA
   have e1:((k:Int)-1).toNat=k-1:=oA
   by_cases hx:lm l (k-1)=0
   .go_wp2
    go_round
    case rel=>exact⟨k-1,oA,by congr 1;omega,fun i h1 h2=>by
     by_cases e:i=k-1
     .subst e;exact hx
     .exact HZ.out i oA h2⟩
    case measure=>simp[intOf];omega
   .have hx2:((lm l (k-1):Int)==0)=false:=by simpa using hx
    have HX:=hid hx
    clear hx
    go_wp2_with (go_at_call 143;refine(zGy _ k k (l.take k) _ (h.take oA (vQ _) oA) oA).mono ?_;rintro e w1 ⟨A1,c1,rfl,hr1,hb1⟩)
    go_ret
    exact⟨A1,k,c1,l.take k,rfl,⟨zCa ht _,zCu l k oA HZ.out (.inr HX.out),jI oA HZ.out⟩,hr1,hb1⟩
  .obtain rfl:k=0:=oA
   cases A with
   |none=>
    obtain⟨rfl,rfl,rfl⟩:=h.empty
    go_wp2_with (go_at_call 143;refine(zGy _ 0 0 [] _ (wM _) oA).mono ?_;rintro e w1 ⟨A1,c1,rfl,hr1,hb1⟩)
    go_ret
    exact⟨A1,0,c1, [],rfl,Is.nil,hr1,hb1⟩
   |some ad=>
    go_wp2_with (go_at_call 143;refine(zGy _ 0 0 (l.take 0) _ (h.take oA (vQ _) oA) oA).mono ?_;rintro e w1 ⟨A1,c1,rfl,hr1,hb1⟩)
    go_ret
    exact⟨A1,0,c1,l.take 0,rfl,⟨zCa ht _,zCu l 0 oA HZ.out (.inl rfl),jI oA HZ.out⟩,hr1,hb1⟩
theorem zMY(a b:Nat):val [a,b]=a+b*4294967296:=by
 show sm (lm [a,b]) 2=_
 simp[sm,lm,BB]
theorem zLx(x:Nat)(hx:x<18446744073709551616)(w:World):
  Calls prog 100 #[.int .u64 x] w (jH w x):=by
 have hr:=Rd.new w [x%4294967296,x/4294967296] 69 #[.int .u32 ((x:Int)%4294967296),.int .u32 ((x:Int)/4294967296)] (by simp[zBQ]) fG
 have hlt:Lt [x%4294967296,x/4294967296]:=by
  intro y hy
  simp at hy
  rcases hy with rfl|rfl<;>unfold BB<;>omega
 have hv:val [x%4294967296,x/4294967296]=x:=by rw[zMY];omega
 go_enter func100,ntmps100
 go_wp2_with (go_at_call 124;refine(qX _ 2 2 _ _ hr hlt oA).mono ?_;rintro e w1 ⟨A1,n1,c1,l1,rfl,hi1,hr1,hb1⟩)
 go_ret
 rw[hv]at hi1
 exact⟨A1,n1,c1,l1,rfl,hi1,hr1,((xG _ w).alloc (vQ _) _).trans (hb1.mono fG)⟩
theorem zNj(ht:Lt l)(h:∀i,2<=i->i<l.length->lm l i=0):val l=lm l 1*4294967296+lm l 0/\val l<18446744073709551616:=by
 have e:val l=sm (lm l) 2:=by
  by_cases h2:2<=l.length
  .exact zDJ h2 (fun i I h2=>h i I h2)
  .exact(zBk oA).symm
 have J:=qQ ht 0
 have I:=qQ ht 1
 simp only[sm,BB]at e J I
 omega
theorem zQi(I:2<=k)(hl:k<l.length)(h:lm l k≠0):18446744073709551616<=val l:=by
 have e:sm (lm l) (k+1)<=val l:=zJZ oA
 have e2:sm (lm l) (k+1)=sm (lm l) k+lm l k*BB^k:=rfl
 have e3:BB^2<=BB^k:=vZ qC I
 have e4:1*BB^k<=lm l k*BB^k:=uF _ oA
 have e5:BB^2=18446744073709551616:=fH
 omega
theorem zFz(a b:Nat)(ha:a<4294967296)(hb:b<4294967296):bits .or .u64 ((a:Int)*4294967296) (b:Int)=((a*4294967296+b:Nat):Int):=by
 have e:=lL (a*4294967296) b oA oA
 have I:=lO (i:=32) (oA:b<2^32) a
 rw[show(2:Nat)^32=4294967296 from fH,vT]at I
 rw[show((a:Int)*4294967296)=((a*4294967296:Nat):Int)from oA,e,I]
def zJ(v:Nat):Nat:=if v<18446744073709551616 then v else 0
def yZ(v:Nat):Bool:=decide (v<18446744073709551616)
theorem zIL(A:Option Addr)(n c:Nat)(l:List Nat)(w:World)(h:Rd w A n c l)(ht:Lt l):
  Calls prog 156 #[.slice A n c] w fun e w'=>e=.returned (.tuple #[.int .u64 (zJ (val l):Nat),.bool (yZ (val l))])/\w=w':=by
 have hle:=h.le;have hcap:=h.cap;have hlen:=h.len
 have hb0:=qQ ht 0
 have hb1:=qQ ht 1
 simp only[BB]at hb0 hb1
 go_enter func156,ntmps156
 go_wp2
 go_loop [8] (fun x=>∃k:Nat,k<=n/\x=.int .i64 k/\(∀i,2<=i->i<k->lm l i=0)) (fun x=>n-(intOf x).toNat)
 case atStart=>exact⟨0,vS _,rfl,fun i h1 h2=>oA⟩
 case round=>
  obtain⟨k,hk,rfl,hz⟩:=hrel
  have HZ:=hid hz
  clear hz
  by_cases h0:k<n
  .obtain⟨b,o,rfl,hc⟩:=h.cells k oA
   by_cases h1:1<k
   .by_cases hx:lm l k=0
    .go_wp2
     go_round
     case rel=>exact⟨k+1,oA,fR,fun i h1 h2=>by
      by_cases e:i=k
      .subst e;exact hx
      .exact HZ.out i oA oA⟩
     case measure=>simp[intOf];omega
    .have hx2:((lm l k:Int) !=0)=true:=by simpa using hx
     have HX:=hid hx
     clear hx
     go_wp2
     go_ret2
     have:=zQi (l:=l) oA oA HX.out
     refine⟨?_,rfl⟩
     rw[show zJ (val l)=0 from if_neg oA,show yZ (val l)=false from xZ oA]
     rfl
   .go_wp2
    go_round
    case rel=>exact⟨k+1,oA,fR,fun i h1 h2=>oA⟩
    case measure=>simp[intOf];omega
  .obtain rfl:k=n:=oA
   go_wp2_with (go_at_call 155;refine(zBg _ _ _ l _ _ h oA).mono ?_;rintro e w1 ⟨rfl,rfl⟩)
   have hs:=zNj ht (fun i h1 h2=>HZ.out i h1 oA)
   have ho:=zFz (lm l 1) (lm l 0) hb1 hb0
   go_ret2
   refine⟨?_,rfl⟩
   rw[show zJ (val l)=val l from if_pos hs.2,show yZ (val l)=true from lH hs.2,hs.1,<-ho]
   rfl
def zAN(a b:Nat):Int:=if a<b then -1 else if b<a then 1 else 0
theorem zIs(h:a<b):zAN a b= -1:=if_pos h
theorem zLW(h:b<a):zAN a b=1:=by unfold zAN;rw[if_neg oA,if_pos h]
theorem zLX(h:a=b):zAN a b=0:=by unfold zAN;rw[if_neg oA,if_neg oA]
theorem zFq(I:Lt l)(h1:l.length<=N)(h2:m.length<=N)(hk:0<k)(hkN:k<=N)(J:∀j,k<=j->j<N->lm l j=lm m j)(h:lm l (k-1)<lm m (k-1)):val l<val m:=by
 rw[<-zBk h1,<-zBk h2]
 exact zTy (k:=k-1) oA (fun i _=>qQ I i) (fun i a b=>J i oA b) h
theorem zKI(h1:l.length<=N)(h2:m.length<=N)(I:∀j,0<=j->j<N->lm l j=lm m j):val l=val m:=by
 rw[<-zBk h1,<-zBk h2]
 exact zAZ (fun i hi=>I i oA hi)
theorem zGx(A:Option Addr)(n c:Nat)(l:List Nat)(A':Option Addr)(n' c':Nat)(l':List Nat)(w:World)(h:Rd w A n c l)(h':Rd w A' n' c' l')(ht:Lt l)(ht':Lt l'):
  Calls prog 152 #[.slice A n c,.slice A' n' c'] w fun e w'=>e=.returned (.int .i64 (zAN (val l) (val l')))/\w=w':=by
 have hle:=h.le;have hcap:=h.cap;have hle':=h'.le;have hcap':=h'.cap
 have HN:Hid (l.length=n/\l'.length=n'):=⟨h.len,h'.len⟩
 by_cases hnn:n<n'
 all_goals
  go_enter func152,ntmps152
  go_wp2
  go_step3
  go_wp2
  go_step3
  go_wp2
  go_loop [4,5] (fun r x=>r=.int .i64 0/\∃k:Nat,k<=9223372036854775807/\x=.int .i64 ((k:Int)-1)/\Hid (∃N,l.length<=N/\l'.length<=N/\k<=N/\∀j,k<=j->j<N->lm l j=lm l' j)) (fun _ x=>(intOf x+1).toNat)
  case atStart=>first|exact⟨rfl,n',oA,rfl,hid ⟨n',by have:=HN.out;omega,by have:=HN.out;omega,vQ _,fun j h1 h2=>oA⟩⟩|exact⟨rfl,n,oA,rfl,hid ⟨n,by have:=HN.out;omega,by have:=HN.out;omega,vQ _,fun j h1 h2=>oA⟩⟩
  case round=>
   obtain⟨rfl,k,hk,rfl,HK⟩:=hrel
   by_cases h0:0<k
   .have e1:((k:Int)-1).toNat=k-1:=oA
    by_cases h1:lm l (k-1)<lm l' (k-1)
    .have HV:Hid (zAN (val l) (val l')= -1):=by
      obtain⟨N,a1,a2,a3,a4⟩:=HK.out
      exact zIs (zFq ht a1 a2 h0 a3 a4 h1)
     go_wp2_with (go_at_call 155;first|((with_reducible refine(zBg A n c l _ _ h oA).mono ?_);rintro e w1 ⟨rfl,rfl⟩)|((with_reducible refine(zBg A' n' c' l' _ _ h' oA).mono ?_);rintro e w1 ⟨rfl,rfl⟩))
     rw[lJ]
     go_ret
     exact⟨by rw[HV.out];rfl,rfl⟩
    .by_cases h2:lm l' (k-1)<lm l (k-1)
     .have HV:Hid (zAN (val l) (val l')=1):=by
       obtain⟨N,a1,a2,a3,a4⟩:=HK.out
       exact zLW (zFq ht' a2 a1 h0 a3 (fun j b1 b2=>(a4 j b1 b2).symm) h2)
      go_wp2_with (go_at_call 155;first|((with_reducible refine(zBg A n c l _ _ h oA).mono ?_);rintro e w1 ⟨rfl,rfl⟩)|((with_reducible refine(zBg A' n' c' l' _ _ h' oA).mono ?_);rintro e w1 ⟨rfl,rfl⟩))
      rw[lJ]
      go_ret
      exact⟨by rw[HV.out];rfl,rfl⟩
     .go_wp2_with (go_at_call 155;first|((with_reducible refine(zBg A n c l _ _ h oA).mono ?_);rintro e w1 ⟨rfl,rfl⟩)|((with_reducible refine(zBg A' n' c' l' _ _ h' oA).mono ?_);rintro e w1 ⟨rfl,rfl⟩))
      go_round
      case rel=>exact⟨rfl,k-1,oA,by congr 1;omega,by
       obtain⟨N,a1,a2,a3,a4⟩:=HK.out
       exact hid ⟨N,a1,a2,oA,fun j b1 b2=>by
        by_cases e:j=k-1
        .subst e;omega
        .exact a4 j oA b2⟩⟩
      case measure=>simp[intOf];omega
   .obtain rfl:k=0:=oA
    have HV:Hid (zAN (val l) (val l')=0):=by
     obtain⟨N,a1,a2,a3,a4⟩:=HK.out
     exact zLX (zKI a1 a2 a4)
    go_wp2
    go_ret
    exact⟨by rw[HV.out];rfl,rfl⟩
end Go.Proofs.Wd
