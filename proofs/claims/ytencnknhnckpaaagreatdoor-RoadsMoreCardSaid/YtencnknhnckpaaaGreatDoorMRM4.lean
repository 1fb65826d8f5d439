/- Walks of package nat: limb, Clone, Trim, Of, Small, Cmp and what it needs. -/
import Derived.Test.YtencnknhnckpaaaGreatDoorProg
import Derived.Test.YtencnknhnckpaaaGreatDoorMRM3
theorem oC {P:Prop} (h:P:=by omega):P:=h
abbrev gY:=@Nat.le_refl
namespace Go.Proofs.Wd
open Tryz
set_option maxHeartbeats 400000
open Go.RowKit Lb
theorem zP3 (A:Option Addr) (n c:Nat) (l:List Nat) (i:Nat) (w:World) (h:Rd w A n c l) (hi:i<n):
  Calls prog 120 #[.slice A n c, .int .i64 i] w fun e w'=>e= .returned (.int .u32 (lm l i))/\w=w':=by
 obtain ⟨b,o,rfl,hc⟩:=h.cells i hi
 have hle:=h.le;have hcap:=h.cap
 go_enter func120,ntmps120
 go_wp2
 go_ret
 exact ⟨rfl,rfl⟩
theorem zNq (A:Option Addr) (n c:Nat) (i:Nat) (w:World) (hi:n<=i):
  Calls prog 120 #[.slice A n c, .int .i64 i] w fun e w'=>e= .returned (.int .u32 0)/\w=w':=by
 go_enter func120,ntmps120
 go_wp2
 go_ret
 exact ⟨rfl,rfl⟩
theorem zAN (A:Option Addr) (n c:Nat) (l:List Nat) (i:Int) (w:World) (h:Rd w A n c l) (h0:0<=i):
  Calls prog 120 #[.slice A n c, .int .i64 i] w fun e w'=>e= .returned (.int .u32 (lm l i.toNat))/\w=w':=by
 obtain ⟨k,rfl⟩:=Int.eq_ofNat_of_zero_le h0
 rw [Int.toNat_natCast]
 by_cases hi:k<n
 ·exact zP3 A n c l k w h hi
 ·rw [zC8 (by have:=h.len;omega)];exact zNq A n c k w oC
theorem yJ:(prog.info? 81).map (fun i=>(i.zero,i.size,i.bytes))=some (some (.int .u32 0),1,4):=by kernel_rfl
theorem z7:prog.underlying 28=some (.slice 81):=underlying28
theorem zEV (A:Option Addr) (n c:Nat) (l:List Nat) (w:World) (h:Rd w A n c l) (hl:n<=1099511627776):
  Calls prog 104 #[.slice A n c] w fun e w'=> ∃A' c',e= .returned (.slice A' n c')/\Rd w' A' n c' l/\Below w.heap.size w w':=by
 have hq:=fun (wx:World) (a:Option Addr) (l c:Nat)=>Lib.run_eql_slice_nil (P:=prog) wx 28 81 a l c 0 0 z7
 cases A with
 |none=>
  obtain ⟨rfl,rfl,rfl⟩:=h.empty
  go_enter func104,ntmps104
  go_wp2
  go_ret
  exact ⟨none,0,rfl,wL w,Below.refl _ _⟩
 |some ad=>
  have hown:zZ (w.alloc (.cells #[] 81)) w.heap.size 81 (.slice (some ⟨w.heap.size,0,none⟩) 0 0) []:=World.ownsRow_made (base:=w.heap.size) (e:=81) (size:=1) w #[] 0 (gY _) (by unfold maxLen;omega) rfl
  have hlen:=h.len
  go_enter func104,ntmps104
  go_wp2_with (at_builtin;refine zQ rfl _ _ 28 81 rfl z7 yJ w.heap.size _ [] rfl hown (some ad) n c l rfl (h.alloc _) (by simp;omega) (by simp) ?_;intro v1 w1 hown1 hg1 hat1;obtain ⟨A1,c1,rfl⟩:=hown1.form)
  go_ret
  rw [List.nil_append] at hown1
  have hb:=zZ.grown ((Below.refl w.heap.size w).alloc (gY _) _) hown hg1 (gY _) (by simp)
  rw [hlen] at hown1
  exact ⟨A1,c1,rfl,hown1.rd,hb⟩
theorem qF (A:Option Addr) (n c:Nat) (l:List Nat) (w:World) (h:Rd w A n c l) (ht:Lt l) (hl:n<=1099511627776):
  Calls prog 86 #[.slice A n c] w (q7 w (val l)):=by
 have hle:=h.le;have hcap:=h.cap;have hlen:=h.len
 go_enter func86,ntmps86
 go_wp2
 go_loop [3] (fun x=> ∃k:Nat,k<=n/\x= .int .i64 k/\(∀i,k<=i->i<l.length->lm l i=0)) (fun x=>(intOf x).toNat)
 case atStart=>exact ⟨n,gY _,rfl,fun i h1 h2=>by omega⟩
 case round=>
  obtain ⟨k,hk,rfl,hz⟩:=hrel
  have HZ:=hid hz
  clear hz
  by_cases h0:0<k
  ·obtain ⟨b,o,rfl,hc⟩:=h.cells (k - 1) oC
   have e1:((k:Int) - 1).toNat=k - 1:=by omega
   by_cases hx:lm l (k - 1)=0
   ·go_wp2
    go_round
    case rel=>exact ⟨k - 1,by omega,by congr 1;omega,fun i h1 h2=>by
     by_cases e:i=k - 1
     ·subst e;exact hx
     ·exact HZ.out i oC h2⟩
    case measure=>simp [intOf];omega
   ·have hx2:((lm l (k - 1):Int)==0)=false:=by simpa using hx
    have HX:=hid hx
    clear hx
    go_wp2_with (go_at_call 104;refine (zEV _ k k (l.take k) _ (h.take oC (gY _) oC) oC).mono ?_;rintro e w1 ⟨A1,c1,rfl,hr1,hb1⟩)
    go_ret
    exact ⟨A1,k,c1,l.take k,rfl,⟨zBu ht _,zBI l k oC HZ.out (.inr HX.out),q8 oC HZ.out⟩,hr1,hb1⟩
  ·obtain rfl:k=0:=by omega
   cases A with
   |none=>
    obtain ⟨rfl,rfl,rfl⟩:=h.empty
    go_wp2_with (go_at_call 104;refine (zEV _ 0 0 [] _ (wL _) oC).mono ?_;rintro e w1 ⟨A1,c1,rfl,hr1,hb1⟩)
    go_ret
    exact ⟨A1,0,c1, [],rfl,Is.nil,hr1,hb1⟩
   |some ad=>
    go_wp2_with (go_at_call 104;refine (zEV _ 0 0 (l.take 0) _ (h.take oC (gY _) oC) oC).mono ?_;rintro e w1 ⟨A1,c1,rfl,hr1,hb1⟩)
    go_ret
    exact ⟨A1,0,c1,l.take 0,rfl,⟨zBu ht _,zBI l 0 oC HZ.out (.inl rfl),q8 oC HZ.out⟩,hr1,hb1⟩
theorem zJX (a b:Nat):val [a,b]=a+b*4294967296:=by
 show sm (lm [a,b]) 2=_
 simp [sm,lm,BB]
theorem zIP (x:Nat) (hx:x<18446744073709551616) (w:World):
  Calls prog 69 #[.int .u64 x] w (q7 w x):=by
 have hr:=Rd.new w [x % 4294967296,x / 4294967296] 81 #[.int .u32 ((x:Int) % 4294967296), .int .u32 ((x:Int) / 4294967296)] (by simp [zBd]) (by simp)
 have hlt:Lt [x % 4294967296,x / 4294967296]:=by
  intro y hy
  simp at hy
  rcases hy with rfl|rfl<;>unfold BB<;>omega
 have hv:val [x % 4294967296,x / 4294967296]=x:=by rw [zJX];omega
 go_enter func69,ntmps69
 go_wp2_with (go_at_call 86;refine (qF _ 2 2 _ _ hr hlt oC).mono ?_;rintro e w1 ⟨A1,n1,c1,l1,rfl,hi1,hr1,hb1⟩)
 go_ret
 rw [hv] at hi1
 exact ⟨A1,n1,c1,l1,rfl,hi1,hr1,((Below.refl _ w).alloc (gY _) _).trans (hb1.mono (by simp))⟩
theorem zJ7 {l:List Nat} (ht:Lt l) (h: ∀i,2<=i->i<l.length->lm l i=0):val l=lm l 1*4294967296+lm l 0/\val l<18446744073709551616:=by
 have e:val l=sm (lm l) 2:=by
  by_cases h2:2<=l.length
  ·exact zCE h2 (fun i h1 h2=>h i h1 h2)
  ·exact (zAS oC).symm
 have h0:=y7 ht 0
 have h1:=y7 ht 1
 simp only [sm,BB] at e h0 h1
 omega
theorem zMD {l:List Nat} {k:Nat} (hk:2<=k) (hl:k<l.length) (h:lm l k≠0):18446744073709551616<=val l:=by
 have e:sm (lm l) (k+1)<=val l:=zHC oC
 have e2:sm (lm l) (k+1)=sm (lm l) k+lm l k*BB^k:=rfl
 have e3:BB^2<=BB^k:=Nat.pow_le_pow_right yU hk
 have e4:1*BB^k<=lm l k*BB^k:=Nat.mul_le_mul_right _ oC
 have e5:BB^2=18446744073709551616:=by decide
 omega
theorem zD1 (a b:Nat) (ha:a<4294967296) (hb:b<4294967296):bits .or .u64 ((a:Int)*4294967296) (b:Int)=((a*4294967296+b:Nat):Int):=by
 have e:=u64_or_nat (a*4294967296) b oC oC
 have e2:=Nat.two_pow_add_eq_or_of_lt (i:=32) (by omega:b<2^32) a
 rw [show (2:Nat)^32=4294967296 from by decide,Nat.mul_comm] at e2
 rw [show ((a:Int)*4294967296)=((a*4294967296:Nat):Int) from by omega,e,e2]
def zJ (v:Nat):Nat:=if v<18446744073709551616 then v else 0
def yK (v:Nat):Bool:=decide (v<18446744073709551616)
theorem zGA (A:Option Addr) (n c:Nat) (l:List Nat) (w:World) (h:Rd w A n c l) (ht:Lt l):
  Calls prog 113 #[.slice A n c] w fun e w'=>e= .returned (.tuple #[.int .u64 (zJ (val l):Nat), .bool (yK (val l))])/\w=w':=by
 have hle:=h.le;have hcap:=h.cap;have hlen:=h.len
 have hb0:=y7 ht 0
 have hb1:=y7 ht 1
 simp only [BB] at hb0 hb1
 go_enter func113,ntmps113
 go_wp2
 go_loop [8] (fun x=> ∃k:Nat,k<=n/\x= .int .i64 k/\(∀i,2<=i->i<k->lm l i=0)) (fun x=>n - (intOf x).toNat)
 case atStart=>exact ⟨0,Nat.zero_le _,rfl,fun i h1 h2=>by omega⟩
 case round=>
  obtain ⟨k,hk,rfl,hz⟩:=hrel
  have HZ:=hid hz
  clear hz
  by_cases h0:k<n
  ·obtain ⟨b,o,rfl,hc⟩:=h.cells k oC
   by_cases h1:1<k
   ·by_cases hx:lm l k=0
    ·go_wp2
     go_round
     case rel=>exact ⟨k+1,by omega,by go_num,fun i h1 h2=>by
      by_cases e:i=k
      ·subst e;exact hx
      ·exact HZ.out i oC oC⟩
     case measure=>simp [intOf];omega
    ·have hx2:((lm l k:Int) !=0)=true:=by simpa using hx
     have HX:=hid hx
     clear hx
     go_wp2
     go_ret2
     have:=zMD (l:=l) oC oC HX.out
     refine ⟨?_,rfl⟩
     rw [show zJ (val l)=0 from if_neg oC,show yK (val l)=false from decide_eq_false oC]
     rfl
   ·go_wp2
    go_round
    case rel=>exact ⟨k+1,by omega,by go_num,fun i h1 h2=>by omega⟩
    case measure=>simp [intOf];omega
  ·obtain rfl:k=n:=by omega
   go_wp2_with (go_at_call 120;refine (zAN _ _ _ l _ _ h oC).mono ?_;rintro e w1 ⟨rfl,rfl⟩)
   have hs:=zJ7 ht (fun i h1 h2=>HZ.out i h1 oC)
   have ho:=zD1 (lm l 1) (lm l 0) hb1 hb0
   go_ret2
   refine ⟨?_,rfl⟩
   rw [show zJ (val l)=val l from if_pos hs.2,show yK (val l)=true from decide_eq_true hs.2,hs.1, <-ho]
   rfl
def zAj (a b:Nat):Int:=if a<b then -1 else if b<a then 1 else 0
theorem zGi {a b:Nat} (h:a<b):zAj a b= -1:=if_pos h
theorem zI5 {a b:Nat} (h:b<a):zAj a b=1:=by unfold zAj;rw [if_neg oC,if_pos h]
theorem zI6 {a b:Nat} (h:a=b):zAj a b=0:=by unfold zAj;rw [if_neg oC,if_neg oC]
theorem zDT {l m:List Nat} {N k:Nat} (hl:Lt l) (h1:l.length<=N) (h2:m.length<=N) (hk:0<k) (hkN:k<=N) (he: ∀j,k<=j->j<N->lm l j=lm m j) (h:lm l (k - 1)<lm m (k - 1)):val l<val m:=by
 rw [<-zAS h1, <-zAS h2]
 exact zPe (k:=k - 1) oC (fun i _=>y7 hl i) (fun i a b=>he i oC b) h
theorem zH8 {l m:List Nat} {N:Nat} (h1:l.length<=N) (h2:m.length<=N) (he: ∀j,0<=j->j<N->lm l j=lm m j):val l=val m:=by
 rw [<-zAS h1, <-zAS h2]
 exact zAv (fun i hi=>he i oC hi)
theorem zEU (A:Option Addr) (n c:Nat) (l:List Nat) (A':Option Addr) (n' c':Nat) (l':List Nat) (w:World) (h:Rd w A n c l) (h':Rd w A' n' c' l') (ht:Lt l) (ht':Lt l'):
  Calls prog 117 #[.slice A n c, .slice A' n' c'] w fun e w'=>e= .returned (.int .i64 (zAj (val l) (val l')))/\w=w':=by
 have hle:=h.le;have hcap:=h.cap;have hle':=h'.le;have hcap':=h'.cap
 have HN:Hid (l.length=n/\l'.length=n'):=⟨h.len,h'.len⟩
 by_cases hnn:n<n'
 all_goals
  go_enter func117,ntmps117
  go_wp2
  go_step3
  go_wp2
  go_step3
  go_wp2
  go_loop [4,5] (fun r x=>r= .int .i64 0/\ ∃k:Nat,k<=9223372036854775807/\x= .int .i64 ((k:Int) - 1)/\Hid (∃N,l.length<=N/\l'.length<=N/\k<=N/\ ∀j,k<=j->j<N->lm l j=lm l' j)) (fun _ x=>(intOf x+1).toNat)
  case atStart=>first|exact ⟨rfl,n',by omega,rfl,hid ⟨n',by have:=HN.out;omega,by have:=HN.out;omega,gY _,fun j h1 h2=>by omega⟩⟩|exact ⟨rfl,n,by omega,rfl,hid ⟨n,by have:=HN.out;omega,by have:=HN.out;omega,gY _,fun j h1 h2=>by omega⟩⟩
  case round=>
   obtain ⟨rfl,k,hk,rfl,HK⟩:=hrel
   by_cases h0:0<k
   ·have e1:((k:Int) - 1).toNat=k - 1:=by omega
    by_cases h1:lm l (k - 1)<lm l' (k - 1)
    ·have HV:Hid (zAj (val l) (val l')= -1):=by
      obtain ⟨N,a1,a2,a3,a4⟩:=HK.out
      exact zGi (zDT ht a1 a2 h0 a3 a4 h1)
     go_wp2_with (go_at_call 120;first|((with_reducible refine (zAN A n c l _ _ h oC).mono ?_);rintro e w1 ⟨rfl,rfl⟩)|((with_reducible refine (zAN A' n' c' l' _ _ h' oC).mono ?_);rintro e w1 ⟨rfl,rfl⟩))
     rw [Exit.noGoto_ret]
     go_ret
     exact ⟨by rw [HV.out];rfl,rfl⟩
    ·by_cases h2:lm l' (k - 1)<lm l (k - 1)
     ·have HV:Hid (zAj (val l) (val l')=1):=by
       obtain ⟨N,a1,a2,a3,a4⟩:=HK.out
       exact zI5 (zDT ht' a2 a1 h0 a3 (fun j b1 b2=>(a4 j b1 b2).symm) h2)
      go_wp2_with (go_at_call 120;first|((with_reducible refine (zAN A n c l _ _ h oC).mono ?_);rintro e w1 ⟨rfl,rfl⟩)|((with_reducible refine (zAN A' n' c' l' _ _ h' oC).mono ?_);rintro e w1 ⟨rfl,rfl⟩))
      rw [Exit.noGoto_ret]
      go_ret
      exact ⟨by rw [HV.out];rfl,rfl⟩
     ·go_wp2_with (go_at_call 120;first|((with_reducible refine (zAN A n c l _ _ h oC).mono ?_);rintro e w1 ⟨rfl,rfl⟩)|((with_reducible refine (zAN A' n' c' l' _ _ h' oC).mono ?_);rintro e w1 ⟨rfl,rfl⟩))
      go_round
      case rel=>exact ⟨rfl,k - 1,by omega,by congr 1;omega,by
       obtain ⟨N,a1,a2,a3,a4⟩:=HK.out
       exact hid ⟨N,a1,a2,by omega,fun j b1 b2=>by
        by_cases e:j=k - 1
        ·subst e;omega
        ·exact a4 j oC b2⟩⟩
      case measure=>simp [intOf];omega
   ·obtain rfl:k=0:=by omega
    have HV:Hid (zAj (val l) (val l')=0):=by
     obtain ⟨N,a1,a2,a3,a4⟩:=HK.out
     exact zI6 (zH8 a1 a2 a4)
    go_wp2
    go_ret
    exact ⟨by rw [HV.out];rfl,rfl⟩
end Go.Proofs.Wd
