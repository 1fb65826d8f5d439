/- Walks of package nat: limb, Clone, Trim, Of, Small, Cmp and what it needs. -/
import Derived.Test.YtencnknhnckpaaaGreatDoorProg
import Derived.Test.YtencnknhnckpaaaGreatDoorMRT3
abbrev eY:=@decide_eq_true
abbrev eZ:=@List.nil_append
abbrev fC:=@Int.toNat_natCast
abbrev fD:=@Go.Exit.noGoto_ret
abbrev fE:=@Int.eq_ofNat_of_zero_le
abbrev fF:=@Go.u64_or_nat
abbrev fH:=@Go.World.ownsRow_made
abbrev fJ:=@Nat.two_pow_add_eq_or_of_lt
theorem rZ{P:Prop}(h:P:=by kernel_rfl):P:=h
theorem sE{P:Prop}(h:P:=by go_num):P:=h
namespace Go.Proofs.Wd
open Tryz
variable {l m:List Nat}{N a b k:Nat}
set_option maxHeartbeats 400000
open Go.RowKit Lb
theorem zQC(A:Option Addr)(n c:Nat)(l:List Nat)(i:Nat)(w:World)(h:Rd w A n c l)(hi:i<n):
  Calls prog 120 #[.slice A n c,.int .i64 i] w fun e w'=>e=.returned (.int .u32 (lm l i))/\w=w':=by
 obtain⟨b,o,rfl,hc⟩:=h.cells i hi
 have hle:=h.le;have hcap:=h.cap
 go_enter func120,ntmps120
 go_wp2
 go_ret
 exact⟨rfl,rfl⟩
theorem zN6(A:Option Addr)(n c:Nat)(i:Nat)(w:World)(hi:n<=i):
  Calls prog 120 #[.slice A n c,.int .i64 i] w fun e w'=>e=.returned (.int .u32 0)/\w=w':=by
 go_enter func120,ntmps120
 go_wp2
 go_ret
 exact⟨rfl,rfl⟩
theorem zAU(A:Option Addr)(n c:Nat)(l:List Nat)(i:Int)(w:World)(h:Rd w A n c l)(h0:0<=i):
  Calls prog 120 #[.slice A n c,.int .i64 i] w fun e w'=>e=.returned (.int .u32 (lm l i.toNat))/\w=w':=by
 obtain⟨k,rfl⟩:=fE h0
 rw[fC]
 by_cases hi:k<n
 .exact zQC A n c l k w h hi
 .rw[zDk (by have:=h.len;omega)];exact zN6 A n c k w oA
theorem yS:(prog.info? 81).map (fun i=>(i.zero,i.size,i.bytes))=some (some (.int .u32 0),1,4):=rZ
theorem yB:prog.underlying 28=some (.slice 81):=underlying28
theorem zFh(A:Option Addr)(n c:Nat)(l:List Nat)(w:World)(h:Rd w A n c l)(hl:n<=1099511627776):
  Calls prog 104 #[.slice A n c] w fun e w'=>∃A' c',e=.returned (.slice A' n c')/\Rd w' A' n c' l/\Below w.heap.size w w':=by
 have hq:=fun(wx:World) (a:Option Addr) (l c:Nat)=>Lib.run_eql_slice_nil (P:=prog) wx 28 81 a l c 0 0 yB
 cases A with
 |none=>
  obtain⟨rfl,rfl,rfl⟩:=h.empty
  go_enter func104,ntmps104
  go_wp2
  go_ret
  exact⟨none,0,rfl,wM w,xF _ _⟩
 |some ad=>
  have hown:z7 (w.alloc (.cells #[] 81)) w.heap.size 81 (.slice (some ⟨w.heap.size,0,none⟩) 0 0) []:=fH (base:=w.heap.size) (e:=81) (size:=1) w #[] 0 (vR _) (by unfold maxLen;omega) rfl
  have hlen:=h.len
  go_enter func104,ntmps104
  go_wp2_with (at_builtin;refine zS rfl _ _ 28 81 rfl yB yS w.heap.size _ [] rfl hown (some ad) n c l rfl (h.alloc _) sB eN ?_;intro v1 w1 hown1 hg1 hat1;obtain⟨A1,c1,rfl⟩:=hown1.form)
  go_ret
  rw[eZ]at hown1
  have hb:=z7.grown ((xF w.heap.size w).alloc (vR _) _) hown hg1 (vR _) eN
  rw[hlen]at hown1
  exact⟨A1,c1,rfl,hown1.rd,hb⟩
theorem qT(A:Option Addr)(n c:Nat)(l:List Nat)(w:World)(h:Rd w A n c l)(ht:Lt l)(hl:n<=1099511627776):
  Calls prog 86 #[.slice A n c] w (jH w (val l)):=by
 have hle:=h.le;have hcap:=h.cap;have hlen:=h.len
 go_enter func86,ntmps86
 go_wp2
 go_loop [3] (fun x=>∃k:Nat,k<=n/\x=.int .i64 k/\(∀i,k<=i->i<l.length->lm l i=0)) (fun x=>(intOf x).toNat)
 case atStart=>exact⟨n,vR _,rfl,fun i h1 h2=>oA⟩
 case round=>
  obtain⟨k,hk,rfl,hz⟩:=hrel
  have HZ:=hid hz
  clear hz
  by_cases h0:0<k
  .obtain⟨b,o,rfl,hc⟩:=h.cells (k-1) oA
   have e1:((k:Int)-1).toNat=k-1:=oA
   by_cases hx:lm l (k-1)=0
   .go_wp2
    go_round
    case rel=>exact⟨k-1,oA,by congr 1;omega,fun i h1 h2=>by
     by_cases e:i=k-1
     .subst e;exact hx
     .exact HZ.out i oA h2⟩
    case measure=>simp[intOf];omega
   .have hx2:((lm l (k-1):Int)==0)=false:=by simpa using hx
    have HX:=hid hx
    clear hx
    go_wp2_with (go_at_call 104;refine(zFh _ k k (l.take k) _ (h.take oA (vR _) oA) oA).mono ?_;rintro e w1 ⟨A1,c1,rfl,hr1,hb1⟩)
    go_ret
    exact⟨A1,k,c1,l.take k,rfl,⟨zBC ht _,zBQ l k oA HZ.out (.inr HX.out),jJ oA HZ.out⟩,hr1,hb1⟩
  .obtain rfl:k=0:=oA
   cases A with
   |none=>
    obtain⟨rfl,rfl,rfl⟩:=h.empty
    go_wp2_with (go_at_call 104;refine(zFh _ 0 0 [] _ (wM _) oA).mono ?_;rintro e w1 ⟨A1,c1,rfl,hr1,hb1⟩)
    go_ret
    exact⟨A1,0,c1, [],rfl,Is.nil,hr1,hb1⟩
   |some ad=>
    go_wp2_with (go_at_call 104;refine(zFh _ 0 0 (l.take 0) _ (h.take oA (vR _) oA) oA).mono ?_;rintro e w1 ⟨A1,c1,rfl,hr1,hb1⟩)
    go_ret
    exact⟨A1,0,c1,l.take 0,rfl,⟨zBC ht _,zBQ l 0 oA HZ.out (.inl rfl),jJ oA HZ.out⟩,hr1,hb1⟩
theorem zKN(a b:Nat):val [a,b]=a+b*4294967296:=by
 show sm (lm [a,b]) 2=_
 simp[sm,lm,BB]
theorem zJs(x:Nat)(hx:x<18446744073709551616)(w:World):
  Calls prog 69 #[.int .u64 x] w (jH w x):=by
 have hr:=Rd.new w [x%4294967296,x/4294967296] 81 #[.int .u32 ((x:Int)%4294967296),.int .u32 ((x:Int)/4294967296)] (by simp[zBl]) eN
 have hlt:Lt [x%4294967296,x/4294967296]:=by
  intro y hy
  simp at hy
  rcases hy with rfl|rfl<;>unfold BB<;>omega
 have hv:val [x%4294967296,x/4294967296]=x:=by rw[zKN];omega
 go_enter func69,ntmps69
 go_wp2_with (go_at_call 86;refine(qT _ 2 2 _ _ hr hlt oA).mono ?_;rintro e w1 ⟨A1,n1,c1,l1,rfl,hi1,hr1,hb1⟩)
 go_ret
 rw[hv]at hi1
 exact⟨A1,n1,c1,l1,rfl,hi1,hr1,((xF _ w).alloc (vR _) _).trans (hb1.mono eN)⟩
theorem zKW(O:Lt l)(h:∀i,2<=i->i<l.length->lm l i=0):val l=lm l 1*4294967296+lm l 0/\val l<18446744073709551616:=by
 have e:val l=sm (lm l) 2:=by
  by_cases J:2<=l.length
  .exact zCR J (fun i I J=>h i I J)
  .exact(zAY oA).symm
 have h0:=qK O 0
 have I:=qK O 1
 simp only[sm,BB]at e h0 I
 omega
theorem zNj(I:2<=k)(hl:k<l.length)(h:lm l k≠0):18446744073709551616<=val l:=by
 have e:sm (lm l) (k+1)<=val l:=zH8 oA
 have e2:sm (lm l) (k+1)=sm (lm l) k+lm l k*BB^k:=rfl
 have e3:BB^2<=BB^k:=vZ qA I
 have e4:1*BB^k<=lm l k*BB^k:=uE _ oA
 have e5:BB^2=18446744073709551616:=rY
 omega
theorem zEn(a b:Nat)(ha:a<4294967296)(hb:b<4294967296):bits .or .u64 ((a:Int)*4294967296) (b:Int)=((a*4294967296+b:Nat):Int):=by
 have e:=fF (a*4294967296) b oA oA
 have h:=fJ (i:=32) (oA:b<2^32) a
 rw[show(2:Nat)^32=4294967296 from rY,vT]at h
 rw[show((a:Int)*4294967296)=((a*4294967296:Nat):Int)from oA,e,h]
def zM(v:Nat):Nat:=if v<18446744073709551616 then v else 0
def yW(v:Nat):Bool:=decide (v<18446744073709551616)
theorem zGZ(A:Option Addr)(n c:Nat)(l:List Nat)(w:World)(h:Rd w A n c l)(ht:Lt l):
  Calls prog 113 #[.slice A n c] w fun e w'=>e=.returned (.tuple #[.int .u64 (zM (val l):Nat),.bool (yW (val l))])/\w=w':=by
 have hle:=h.le;have hcap:=h.cap;have hlen:=h.len
 have hb0:=qK ht 0
 have hb1:=qK ht 1
 simp only[BB]at hb0 hb1
 go_enter func113,ntmps113
 go_wp2
 go_loop [8] (fun x=>∃k:Nat,k<=n/\x=.int .i64 k/\(∀i,2<=i->i<k->lm l i=0)) (fun x=>n-(intOf x).toNat)
 case atStart=>exact⟨0,vS _,rfl,fun i h1 h2=>oA⟩
 case round=>
  obtain⟨k,hk,rfl,hz⟩:=hrel
  have HZ:=hid hz
  clear hz
  by_cases h0:k<n
  .obtain⟨b,o,rfl,hc⟩:=h.cells k oA
   by_cases h1:1<k
   .by_cases hx:lm l k=0
    .go_wp2
     go_round
     case rel=>exact⟨k+1,oA,sE,fun i h1 h2=>by
      by_cases e:i=k
      .subst e;exact hx
      .exact HZ.out i oA oA⟩
     case measure=>simp[intOf];omega
    .have hx2:((lm l k:Int) !=0)=true:=by simpa using hx
     have HX:=hid hx
     clear hx
     go_wp2
     go_ret2
     have:=zNj (l:=l) oA oA HX.out
     refine⟨?_,rfl⟩
     rw[show zM (val l)=0 from if_neg oA,show yW (val l)=false from bD oA]
     rfl
   .go_wp2
    go_round
    case rel=>exact⟨k+1,oA,sE,fun i h1 h2=>oA⟩
    case measure=>simp[intOf];omega
  .obtain rfl:k=n:=oA
   go_wp2_with (go_at_call 120;refine(zAU _ _ _ l _ _ h oA).mono ?_;rintro e w1 ⟨rfl,rfl⟩)
   have hs:=zKW ht (fun i h1 h2=>HZ.out i h1 oA)
   have ho:=zEn (lm l 1) (lm l 0) hb1 hb0
   go_ret2
   refine⟨?_,rfl⟩
   rw[show zM (val l)=val l from if_pos hs.2,show yW (val l)=true from eY hs.2,hs.1,<-ho]
   rfl
def zAs(a b:Nat):Int:=if a<b then -1 else if b<a then 1 else 0
theorem zGI(h:a<b):zAs a b= -1:=if_pos h
theorem zJK(h:b<a):zAs a b=1:=by unfold zAs;rw[if_neg oA,if_pos h]
theorem zJL(h:a=b):zAs a b=0:=by unfold zAs;rw[if_neg oA,if_neg oA]
theorem zEc(J:Lt l)(h1:l.length<=N)(h2:m.length<=N)(hk:0<k)(hkN:k<=N)(I:∀j,k<=j->j<N->lm l j=lm m j)(h:lm l (k-1)<lm m (k-1)):val l<val m:=by
 rw[<-zAY h1,<-zAY h2]
 exact zPO (k:=k-1) oA (fun i _=>qK J i) (fun i a b=>I i oA b) h
theorem zIK(h1:l.length<=N)(h2:m.length<=N)(I:∀j,0<=j->j<N->lm l j=lm m j):val l=val m:=by
 rw[<-zAY h1,<-zAY h2]
 exact zAB (fun i h=>I i oA h)
theorem zFg(A:Option Addr)(n c:Nat)(l:List Nat)(A':Option Addr)(n' c':Nat)(l':List Nat)(w:World)(h:Rd w A n c l)(h':Rd w A' n' c' l')(ht:Lt l)(ht':Lt l'):
  Calls prog 117 #[.slice A n c,.slice A' n' c'] w fun e w'=>e=.returned (.int .i64 (zAs (val l) (val l')))/\w=w':=by
 have hle:=h.le;have hcap:=h.cap;have hle':=h'.le;have hcap':=h'.cap
 have HN:Hid (l.length=n/\l'.length=n'):=⟨h.len,h'.len⟩
 by_cases hnn:n<n'
 all_goals
  go_enter func117,ntmps117
  go_wp2
  go_step3
  go_wp2
  go_step3
  go_wp2
  go_loop [4,5] (fun r x=>r=.int .i64 0/\∃k:Nat,k<=9223372036854775807/\x=.int .i64 ((k:Int)-1)/\Hid (∃N,l.length<=N/\l'.length<=N/\k<=N/\∀j,k<=j->j<N->lm l j=lm l' j)) (fun _ x=>(intOf x+1).toNat)
  case atStart=>first|exact⟨rfl,n',oA,rfl,hid ⟨n',by have:=HN.out;omega,by have:=HN.out;omega,vR _,fun j h1 h2=>oA⟩⟩|exact⟨rfl,n,oA,rfl,hid ⟨n,by have:=HN.out;omega,by have:=HN.out;omega,vR _,fun j h1 h2=>oA⟩⟩
  case round=>
   obtain⟨rfl,k,hk,rfl,HK⟩:=hrel
   by_cases h0:0<k
   .have e1:((k:Int)-1).toNat=k-1:=oA
    by_cases h1:lm l (k-1)<lm l' (k-1)
    .have HV:Hid (zAs (val l) (val l')= -1):=by
      obtain⟨N,a1,a2,a3,a4⟩:=HK.out
      exact zGI (zEc ht a1 a2 h0 a3 a4 h1)
     go_wp2_with (go_at_call 120;first|((with_reducible refine(zAU A n c l _ _ h oA).mono ?_);rintro e w1 ⟨rfl,rfl⟩)|((with_reducible refine(zAU A' n' c' l' _ _ h' oA).mono ?_);rintro e w1 ⟨rfl,rfl⟩))
     rw[fD]
     go_ret
     exact⟨by rw[HV.out];rfl,rfl⟩
    .by_cases h2:lm l' (k-1)<lm l (k-1)
     .have HV:Hid (zAs (val l) (val l')=1):=by
       obtain⟨N,a1,a2,a3,a4⟩:=HK.out
       exact zJK (zEc ht' a2 a1 h0 a3 (fun j b1 b2=>(a4 j b1 b2).symm) h2)
      go_wp2_with (go_at_call 120;first|((with_reducible refine(zAU A n c l _ _ h oA).mono ?_);rintro e w1 ⟨rfl,rfl⟩)|((with_reducible refine(zAU A' n' c' l' _ _ h' oA).mono ?_);rintro e w1 ⟨rfl,rfl⟩))
      rw[fD]
      go_ret
      exact⟨by rw[HV.out];rfl,rfl⟩
     .go_wp2_with (go_at_call 120;first|((with_reducible refine(zAU A n c l _ _ h oA).mono ?_);rintro e w1 ⟨rfl,rfl⟩)|((with_reducible refine(zAU A' n' c' l' _ _ h' oA).mono ?_);rintro e w1 ⟨rfl,rfl⟩))
      go_round
      case rel=>exact⟨rfl,k-1,oA,by congr 1;omega,by
       obtain⟨N,a1,a2,a3,a4⟩:=HK.out
       exact hid ⟨N,a1,a2,oA,fun j b1 b2=>by
        by_cases e:j=k-1
        .subst e;omega
        .exact a4 j oA b2⟩⟩
      case measure=>simp[intOf];omega
   .obtain rfl:k=0:=oA
    have HV:Hid (zAs (val l) (val l')=0):=by
     obtain⟨N,a1,a2,a3,a4⟩:=HK.out
     exact zJL (zIK a1 a2 a4)
    go_wp2
    go_ret
    exact⟨by rw[HV.out];rfl,rfl⟩
end Go.Proofs.Wd
