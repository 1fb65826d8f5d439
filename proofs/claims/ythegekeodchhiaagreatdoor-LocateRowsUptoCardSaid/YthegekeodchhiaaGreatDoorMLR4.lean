/- Walks of package nat: limb, Clone, Trim, Of, Small, Cmp and what it needs. -/
import Derived.Test.YthegekeodchhiaaGreatDoorProg
import Derived.Test.YthegekeodchhiaaGreatDoorMLR3
theorem oC {P:Prop} (h:P:=by omega):P:=h
abbrev xH:=@Nat.le_refl
namespace Go.Proofs.Wd
open Tryz
set_option maxHeartbeats 400000
open Go.RowKit Lb
theorem zRv (A:Option Addr) (n c:Nat) (l:List Nat) (i:Nat) (w:World) (h:Rd w A n c l) (hi:i<n):
  Calls prog 147 #[.slice A n c, .int .i64 i] w fun e w'=>e= .returned (.int .u32 (lm l i))/\w=w':=by
 obtain ⟨b,o,rfl,hc⟩:=h.cells i hi
 have hle:=h.le;have hcap:=h.cap
 go_enter func147,ntmps147
 go_wp2
 go_ret
 exact ⟨rfl,rfl⟩
theorem zOT (A:Option Addr) (n c:Nat) (i:Nat) (w:World) (hi:n<=i):
  Calls prog 147 #[.slice A n c, .int .i64 i] w fun e w'=>e= .returned (.int .u32 0)/\w=w':=by
 go_enter func147,ntmps147
 go_wp2
 go_ret
 exact ⟨rfl,rfl⟩
theorem zA2 (A:Option Addr) (n c:Nat) (l:List Nat) (i:Int) (w:World) (h:Rd w A n c l) (h0:0<=i):
  Calls prog 147 #[.slice A n c, .int .i64 i] w fun e w'=>e= .returned (.int .u32 (lm l i.toNat))/\w=w':=by
 obtain ⟨k,rfl⟩:=Int.eq_ofNat_of_zero_le h0
 rw [Int.toNat_natCast]
 by_cases hi:k<n
 ·exact zRv A n c l k w h hi
 ·rw [zDQ (by have:=h.len;omega)];exact zOT A n c k w oC
theorem yZ:(prog.info? 73).map (fun i=>(i.zero,i.size,i.bytes))=some (some (.int .u32 0),1,4):=by kernel_rfl
theorem yJ:prog.underlying 23=some (.slice 73):=underlying23
theorem zFp (A:Option Addr) (n c:Nat) (l:List Nat) (w:World) (h:Rd w A n c l) (hl:n<=1099511627776):
  Calls prog 115 #[.slice A n c] w fun e w'=> ∃A' c',e= .returned (.slice A' n c')/\Rd w' A' n c' l/\Below w.heap.size w w':=by
 have hq:=fun (wx:World) (a:Option Addr) (l c:Nat)=>Lib.run_eql_slice_nil (P:=prog) wx 23 73 a l c 0 0 yJ
 cases A with
 |none=>
  obtain ⟨rfl,rfl,rfl⟩:=h.empty
  go_enter func115,ntmps115
  go_wp2
  go_ret
  exact ⟨none,0,rfl,wL w,Below.refl _ _⟩
 |some ad=>
  have hown:yG (w.alloc (.cells #[] 73)) w.heap.size 73 (.slice (some ⟨w.heap.size,0,none⟩) 0 0) []:=World.ownsRow_made (base:=w.heap.size) (e:=73) (size:=1) w #[] 0 (xH _) (by unfold maxLen;omega) rfl
  have hlen:=h.len
  go_enter func115,ntmps115
  go_wp2_with (at_builtin;refine zX rfl _ _ 23 73 rfl yJ yZ w.heap.size _ [] rfl hown (some ad) n c l rfl (h.alloc _) (by simp;omega) (by simp) ?_;intro v1 w1 hown1 hg1 hat1;obtain ⟨A1,c1,rfl⟩:=hown1.form)
  go_ret
  rw [List.nil_append] at hown1
  have hb:=yG.grown ((Below.refl w.heap.size w).alloc (xH _) _) hown hg1 (xH _) (by simp)
  rw [hlen] at hown1
  exact ⟨A1,c1,rfl,hown1.rd,hb⟩
theorem qY (A:Option Addr) (n c:Nat) (l:List Nat) (w:World) (h:Rd w A n c l) (ht:Lt l) (hl:n<=1099511627776):
  Calls prog 90 #[.slice A n c] w (jH w (val l)):=by
 have hle:=h.le;have hcap:=h.cap;have hlen:=h.len
 go_enter func90,ntmps90
 go_wp2
 go_loop [3] (fun x=> ∃k:Nat,k<=n/\x= .int .i64 k/\(∀i,k<=i->i<l.length->lm l i=0)) (fun x=>(intOf x).toNat)
 case atStart=>exact ⟨n,xH _,rfl,fun i h1 h2=>by omega⟩
 case round=>
  obtain ⟨k,hk,rfl,hz⟩:=hrel
  have HZ:=hid hz
  clear hz
  by_cases h0:0<k
  ·obtain ⟨b,o,rfl,hc⟩:=h.cells (k - 1) oC
   have e1:((k:Int) - 1).toNat=k - 1:=by omega
   by_cases hx:lm l (k - 1)=0
   ·go_wp2
    go_round
    case rel=>exact ⟨k - 1,by omega,by congr 1;omega,fun i h1 h2=>by
     by_cases e:i=k - 1
     ·subst e;exact hx
     ·exact HZ.out i oC h2⟩
    case measure=>simp [intOf];omega
   ·have hx2:((lm l (k - 1):Int)==0)=false:=by simpa using hx
    have HX:=hid hx
    clear hx
    go_wp2_with (go_at_call 115;refine (zFp _ k k (l.take k) _ (h.take oC (xH _) oC) oC).mono ?_;rintro e w1 ⟨A1,c1,rfl,hr1,hb1⟩)
    go_ret
    exact ⟨A1,k,c1,l.take k,rfl,⟨zBF ht _,zBS l k oC HZ.out (.inr HX.out),jK oC HZ.out⟩,hr1,hb1⟩
  ·obtain rfl:k=0:=by omega
   cases A with
   |none=>
    obtain ⟨rfl,rfl,rfl⟩:=h.empty
    go_wp2_with (go_at_call 115;refine (zFp _ 0 0 [] _ (wL _) oC).mono ?_;rintro e w1 ⟨A1,c1,rfl,hr1,hb1⟩)
    go_ret
    exact ⟨A1,0,c1, [],rfl,Is.nil,hr1,hb1⟩
   |some ad=>
    go_wp2_with (go_at_call 115;refine (zFp _ 0 0 (l.take 0) _ (h.take oC (xH _) oC) oC).mono ?_;rintro e w1 ⟨A1,c1,rfl,hr1,hb1⟩)
    go_ret
    exact ⟨A1,0,c1,l.take 0,rfl,⟨zBF ht _,zBS l 0 oC HZ.out (.inl rfl),jK oC HZ.out⟩,hr1,hb1⟩
theorem zK8 (a b:Nat):val [a,b]=a+b*4294967296:=by
 show sm (lm [a,b]) 2=_
 simp [sm,lm,BB]
theorem zJG (x:Nat) (hx:x<18446744073709551616) (w:World):
  Calls prog 98 #[.int .u64 x] w (jH w x):=by
 have hr:=Rd.new w [x % 4294967296,x / 4294967296] 73 #[.int .u32 ((x:Int) % 4294967296), .int .u32 ((x:Int) / 4294967296)] (by simp [zBi]) (by simp)
 have hlt:Lt [x % 4294967296,x / 4294967296]:=by
  intro y hy
  simp at hy
  rcases hy with rfl|rfl<;>unfold BB<;>omega
 have hv:val [x % 4294967296,x / 4294967296]=x:=by rw [zK8];omega
 go_enter func98,ntmps98
 go_wp2_with (go_at_call 90;refine (qY _ 2 2 _ _ hr hlt oC).mono ?_;rintro e w1 ⟨A1,n1,c1,l1,rfl,hi1,hr1,hb1⟩)
 go_ret
 rw [hv] at hi1
 exact ⟨A1,n1,c1,l1,rfl,hi1,hr1,((Below.refl _ w).alloc (xH _) _).trans (hb1.mono (by simp))⟩
theorem zLj {l:List Nat} (ht:Lt l) (h: ∀i,2<=i->i<l.length->lm l i=0):val l=lm l 1*4294967296+lm l 0/\val l<18446744073709551616:=by
 have e:val l=sm (lm l) 2:=by
  by_cases h2:2<=l.length
  ·exact zC2 h2 (fun i h1 h2=>h i h1 h2)
  ·exact (zA5 oC).symm
 have h0:=qM ht 0
 have h1:=qM ht 1
 simp only [sm,BB] at e h0 h1
 omega
theorem zNV {l:List Nat} {k:Nat} (hk:2<=k) (hl:k<l.length) (h:lm l k≠0):18446744073709551616<=val l:=by
 have e:sm (lm l) (k+1)<=val l:=zIf oC
 have e2:sm (lm l) (k+1)=sm (lm l) k+lm l k*BB^k:=rfl
 have e3:BB^2<=BB^k:=Nat.pow_le_pow_right y4 hk
 have e4:1*BB^k<=lm l k*BB^k:=Nat.mul_le_mul_right _ oC
 have e5:BB^2=18446744073709551616:=by decide
 omega
theorem zEH (a b:Nat) (ha:a<4294967296) (hb:b<4294967296):bits .or .u64 ((a:Int)*4294967296) (b:Int)=((a*4294967296+b:Nat):Int):=by
 have e:=u64_or_nat (a*4294967296) b oC oC
 have e2:=Nat.two_pow_add_eq_or_of_lt (i:=32) (by omega:b<2^32) a
 rw [show (2:Nat)^32=4294967296 from by decide,Nat.mul_comm] at e2
 rw [show ((a:Int)*4294967296)=((a*4294967296:Nat):Int) from by omega,e,e2]
def zP (v:Nat):Nat:=if v<18446744073709551616 then v else 0
def y5 (v:Nat):Bool:=decide (v<18446744073709551616)
theorem zGZ (A:Option Addr) (n c:Nat) (l:List Nat) (w:World) (h:Rd w A n c l) (ht:Lt l):
  Calls prog 133 #[.slice A n c] w fun e w'=>e= .returned (.tuple #[.int .u64 (zP (val l):Nat), .bool (y5 (val l))])/\w=w':=by
 have hle:=h.le;have hcap:=h.cap;have hlen:=h.len
 have hb0:=qM ht 0
 have hb1:=qM ht 1
 simp only [BB] at hb0 hb1
 go_enter func133,ntmps133
 go_wp2
 go_loop [8] (fun x=> ∃k:Nat,k<=n/\x= .int .i64 k/\(∀i,2<=i->i<k->lm l i=0)) (fun x=>n - (intOf x).toNat)
 case atStart=>exact ⟨0,Nat.zero_le _,rfl,fun i h1 h2=>by omega⟩
 case round=>
  obtain ⟨k,hk,rfl,hz⟩:=hrel
  have HZ:=hid hz
  clear hz
  by_cases h0:k<n
  ·obtain ⟨b,o,rfl,hc⟩:=h.cells k oC
   by_cases h1:1<k
   ·by_cases hx:lm l k=0
    ·go_wp2
     go_round
     case rel=>exact ⟨k+1,by omega,by go_num,fun i h1 h2=>by
      by_cases e:i=k
      ·subst e;exact hx
      ·exact HZ.out i oC oC⟩
     case measure=>simp [intOf];omega
    ·have hx2:((lm l k:Int) !=0)=true:=by simpa using hx
     have HX:=hid hx
     clear hx
     go_wp2
     go_ret2
     have:=zNV (l:=l) oC oC HX.out
     refine ⟨?_,rfl⟩
     rw [show zP (val l)=0 from if_neg oC,show y5 (val l)=false from decide_eq_false oC]
     rfl
   ·go_wp2
    go_round
    case rel=>exact ⟨k+1,by omega,by go_num,fun i h1 h2=>by omega⟩
    case measure=>simp [intOf];omega
  ·obtain rfl:k=n:=by omega
   go_wp2_with (go_at_call 147;refine (zA2 _ _ _ l _ _ h oC).mono ?_;rintro e w1 ⟨rfl,rfl⟩)
   have hs:=zLj ht (fun i h1 h2=>HZ.out i h1 oC)
   have ho:=zEH (lm l 1) (lm l 0) hb1 hb0
   go_ret2
   refine ⟨?_,rfl⟩
   rw [show zP (val l)=val l from if_pos hs.2,show y5 (val l)=true from decide_eq_true hs.2,hs.1, <-ho]
   rfl
def zAy (a b:Nat):Int:=if a<b then -1 else if b<a then 1 else 0
theorem zGH {a b:Nat} (h:a<b):zAy a b= -1:=if_pos h
theorem zJ4 {a b:Nat} (h:b<a):zAy a b=1:=by unfold zAy;rw [if_neg oC,if_pos h]
theorem zJ5 {a b:Nat} (h:a=b):zAy a b=0:=by unfold zAy;rw [if_neg oC,if_neg oC]
theorem zEy {l m:List Nat} {N k:Nat} (hl:Lt l) (h1:l.length<=N) (h2:m.length<=N) (hk:0<k) (hkN:k<=N) (he: ∀j,k<=j->j<N->lm l j=lm m j) (h:lm l (k - 1)<lm m (k - 1)):val l<val m:=by
 rw [<-zA5 h1, <-zA5 h2]
 exact zQu (k:=k - 1) oC (fun i _=>qM hl i) (fun i a b=>he i oC b) h
theorem zIW {l m:List Nat} {N:Nat} (h1:l.length<=N) (h2:m.length<=N) (he: ∀j,0<=j->j<N->lm l j=lm m j):val l=val m:=by
 rw [<-zA5 h1, <-zA5 h2]
 exact zAJ (fun i hi=>he i oC hi)
theorem zFo (A:Option Addr) (n c:Nat) (l:List Nat) (A':Option Addr) (n' c':Nat) (l':List Nat) (w:World) (h:Rd w A n c l) (h':Rd w A' n' c' l') (ht:Lt l) (ht':Lt l'):
  Calls prog 149 #[.slice A n c, .slice A' n' c'] w fun e w'=>e= .returned (.int .i64 (zAy (val l) (val l')))/\w=w':=by
 have hle:=h.le;have hcap:=h.cap;have hle':=h'.le;have hcap':=h'.cap
 have HN:Hid (l.length=n/\l'.length=n'):=⟨h.len,h'.len⟩
 by_cases hnn:n<n'
 all_goals
  go_enter func149,ntmps149
  go_wp2
  go_step3
  go_wp2
  go_step3
  go_wp2
  go_loop [4,5] (fun r x=>r= .int .i64 0/\ ∃k:Nat,k<=9223372036854775807/\x= .int .i64 ((k:Int) - 1)/\Hid (∃N,l.length<=N/\l'.length<=N/\k<=N/\ ∀j,k<=j->j<N->lm l j=lm l' j)) (fun _ x=>(intOf x+1).toNat)
  case atStart=>first|exact ⟨rfl,n',by omega,rfl,hid ⟨n',by have:=HN.out;omega,by have:=HN.out;omega,xH _,fun j h1 h2=>by omega⟩⟩|exact ⟨rfl,n,by omega,rfl,hid ⟨n,by have:=HN.out;omega,by have:=HN.out;omega,xH _,fun j h1 h2=>by omega⟩⟩
  case round=>
   obtain ⟨rfl,k,hk,rfl,HK⟩:=hrel
   by_cases h0:0<k
   ·have e1:((k:Int) - 1).toNat=k - 1:=by omega
    by_cases h1:lm l (k - 1)<lm l' (k - 1)
    ·have HV:Hid (zAy (val l) (val l')= -1):=by
      obtain ⟨N,a1,a2,a3,a4⟩:=HK.out
      exact zGH (zEy ht a1 a2 h0 a3 a4 h1)
     go_wp2_with (go_at_call 147;first|((with_reducible refine (zA2 A n c l _ _ h oC).mono ?_);rintro e w1 ⟨rfl,rfl⟩)|((with_reducible refine (zA2 A' n' c' l' _ _ h' oC).mono ?_);rintro e w1 ⟨rfl,rfl⟩))
     rw [Exit.noGoto_ret]
     go_ret
     exact ⟨by rw [HV.out];rfl,rfl⟩
    ·by_cases h2:lm l' (k - 1)<lm l (k - 1)
     ·have HV:Hid (zAy (val l) (val l')=1):=by
       obtain ⟨N,a1,a2,a3,a4⟩:=HK.out
       exact zJ4 (zEy ht' a2 a1 h0 a3 (fun j b1 b2=>(a4 j b1 b2).symm) h2)
      go_wp2_with (go_at_call 147;first|((with_reducible refine (zA2 A n c l _ _ h oC).mono ?_);rintro e w1 ⟨rfl,rfl⟩)|((with_reducible refine (zA2 A' n' c' l' _ _ h' oC).mono ?_);rintro e w1 ⟨rfl,rfl⟩))
      rw [Exit.noGoto_ret]
      go_ret
      exact ⟨by rw [HV.out];rfl,rfl⟩
     ·go_wp2_with (go_at_call 147;first|((with_reducible refine (zA2 A n c l _ _ h oC).mono ?_);rintro e w1 ⟨rfl,rfl⟩)|((with_reducible refine (zA2 A' n' c' l' _ _ h' oC).mono ?_);rintro e w1 ⟨rfl,rfl⟩))
      go_round
      case rel=>exact ⟨rfl,k - 1,by omega,by congr 1;omega,by
       obtain ⟨N,a1,a2,a3,a4⟩:=HK.out
       exact hid ⟨N,a1,a2,by omega,fun j b1 b2=>by
        by_cases e:j=k - 1
        ·subst e;omega
        ·exact a4 j oC b2⟩⟩
      case measure=>simp [intOf];omega
   ·obtain rfl:k=0:=by omega
    have HV:Hid (zAy (val l) (val l')=0):=by
     obtain ⟨N,a1,a2,a3,a4⟩:=HK.out
     exact zJ5 (zIW a1 a2 a4)
    go_wp2
    go_ret
    exact ⟨by rw [HV.out];rfl,rfl⟩
end Go.Proofs.Wd
