/- append(x, make(.., k)...) onto a row of limbs of the call's own; appen and what it needs. -/
import Derived.Test.YthegekeodchhiaaGreatDoorMLR16
import Derived.Lib.AppendZeros
import Derived.Test.YthegekeodchhiaaGreatDoorMLR3
import Derived.Test.YthegekeodchhiaaGreatDoorMLR9
import Derived.Test.YthegekeodchhiaaGreatDoorMLR7
theorem kF {P:Prop} (h:P:=by kernel_rfl):P:=h
theorem oM {P:Prop} (h:P:=by omega):P:=h
abbrev nH:=@Nat.le_refl
abbrev nI:=@Go.RowKit.Below.refl
abbrev nJ:=@Nat.pow_succ
abbrev nK:=@List.length_append
abbrev nL:=@Nat.lt_of_lt_of_le
abbrev nM:=@Nat.le_trans
abbrev nN:=@Go.run_underlying
abbrev nO:=@List.length_replicate
abbrev nP:=@Nat.two_pow_pos
abbrev nQ:=@Nat.lt_or_ge
abbrev nR:=@Nat.pow_le_pow_right
abbrev nS:=@Nat.lt_of_le_of_lt
abbrev nT:=@Nat.mul_comm
abbrev nU:=@Go.IntKind.wrap_i64
abbrev nV:=@Nat.add_zero
abbrev nW:=@Nat.mul_le_mul_left
abbrev nX:=@Nat.mul_le_mul_right
abbrev nY:=@Go.RowKit.Below.heap_setCell
abbrev nZ:=@Go.World.cell?_of_block
abbrev pA:=@List.size_toArray
abbrev pB:=@Nat.lt_of_mul_lt_mul_left
abbrev pC:=@Go.World.size_alloc
abbrev pD:=@List.length_set
abbrev pE:=@Int.natCast_pow
abbrev pF:=@Nat.mul_lt_mul_of_pos_right
abbrev W6:=Go.World
namespace Go.Proofs.Wd
open Tryz
set_option maxRecDepth 100000
open Go.RowKit Lb
theorem zK2 (k:Nat):Builtin.zeroCells (Value.int .u32 0).cells k=(zBi (List.replicate k 0)).toArray:=by
 apply Array.ext'
 simp [Builtin.zeroCells,zBi,Value.cells,Nat.mod_one,List.map_const']
theorem zEs (R n cap k:Nat) (l:List Nat) (w:W6) (h:Row w R cap l) (hl:l.length=n) (hn:0<n) (hk:0<k) (hsm:n+k<=100000) (ty:TypeId):
  ∃R' cap' w',(Builtin.append_ #[23,3] ty #[.slice (some ⟨R,0,none⟩) n cap, .int .i64 (k:Int)]).run prog w= .ok (.slice (some ⟨R',0,none⟩) (n+k) cap') w'/\
   Row w' R' cap' (l++List.replicate k 0)/\w.grownBy w' (some R)/\(R'=R∨R'=w.heap.size):=by
 obtain ⟨i,hi,hz,hs,hb⟩:=info_parts yZ
 obtain ⟨cs,h1,h2,h3,h4,h5⟩:=h
 have hw:IntKind.i64.wrap (k:Int)=k:=by rw [nU];omega
 have hneg: ¬((k:Int)<0):=by omega
 have h48i: ¬(281474976710656<(k:Int)*(i.bytes:Int)):=by rw [hb];omega
 have hint:prog.underlying 3=some (.int .i64):=underlying3
 have hk0: ¬(k=0):=by omega
 by_cases hroom:n+k<=cap
 ·have hst:=run_storeCells_at prog R n 73 (zBi (List.replicate k 0)) 0 cs w h1 (by rw [zAI];simp;omega) (zIZ _)
  simp only [nV] at hst
  refine ⟨R,cap,w.setRow R (cs.toList.take n++zBi (List.replicate k 0)++cs.toList.drop (n+(zBi (List.replicate k 0)).length)).toArray, ?_,⟨_,setRow_heap w R cs _ _ _ h1, ?_, ?_,h4, ?_⟩,⟨rfl,rfl,rfl,by simp,fun b _ hb=>setRow_other w R b _ (fun e=>hb (by rw [e]))⟩, .inl rfl⟩
  ·simp [Builtin.append_,nN yJ,nN hint,sizeOf,typeInfo,zeroValue,hi,hz,hs,asInt,asIntOf,hw,hk0,hneg,h48i,hroom,Addr.add_lit,zK2,hst]
  ·simp only [pA,nK,List.length_take,List.length_drop,Array.length_toList,zAI,nO]
   omega
  ·simp;omega
  ·rw [nK,nO,zC7,hl]
   have e1:cs.toList.take n=zBi l:=by rw [<-hl];exact h5
   rw [e1]
   have e2:(zBi l++zBi (List.replicate k 0)).length=n+k:=by rw [nK,zAI,zAI,hl,nO]
   rw [<-e2]
   exact List.take_left
 ·have hfo:=run_firstCells_some (P:=prog) w.drew i.size n ⟨R,0,none⟩ n cap (zBi l) (by rw [zAI,hs,hl];omega) (fun j v hj=>by
   have hlt:j<l.length:=by have:=(List.getElem?_eq_some_iff.1 hj).1;rwa [zAI] at this
   rw [zCN l j hlt] at hj
   injection hj with hj
   subst hj
   rw [Addr.add_lit,Nat.zero_add]
   exact Row.cell (W:=w) ⟨cs,h1,h2,h3,h4,h5⟩ hlt)
  have h63': ¬(9223372036854775807<((n:Int)+(k:Int))):=by omega
  have hfit:=growslice_fits (old:=cap) (need:=n+k) (bytes:=i.bytes) oM (by rw [hb];omega)
  have h48': ¬(281474976710656<Builtin.nextslicecap (n+k) cap*i.bytes):=by omega
  have hge:=grownCap_ge w (n+k) cap 73
  have hcm:grownCap w (n+k) cap 73<=maxLen:=grownCap_le_maxLen w (n+k) cap 73 (by unfold maxLen;omega)
  refine ⟨w.heap.size,grownCap w (n+k) cap 73,w.drew.alloc (.cells ((zBi l).toArray++(zBi (List.replicate k 0)).toArray++Builtin.zeroCells (Value.int .u32 0).cells (grownCap w (n+k) cap 73 - (n+k))) 73), ?_,⟨_,heap_alloc_new w.drew _, ?_, ?_,by unfold maxLen at hcm;omega, ?_⟩,⟨rfl,rfl,rfl,by simp,fun b hb _=>heap_alloc_old w.drew _ (by exact hb)⟩, .inr rfl⟩
  ·simp [Builtin.append_,nN yJ,nN hint,sizeOf,typeInfo,zeroValue,hi,hz,hs,asInt,asIntOf,hw,hk0,hneg,h48i,hroom,h63',h48',Question.forced,newRow,grownCap,zK2]
   rw [hs] at hfo
   simp [hfo]
  ·simp only [Array.size_append,pA,size_zeroCells,zAI,nO,hl]
   have:(Value.int IntKind.u32 0).cells.size=1:=rfl
   rw [this]
   omega
  ·simp;omega
  ·simp only [Array.toList_append,List.append_assoc]
   rw [<-List.append_assoc,zC7]
   have e2:(zBi l++zBi (List.replicate k 0)).length=(l++List.replicate k 0).length:=by rw [nK,zAI,zAI,nK]
   rw [<-e2]
   exact List.take_left
theorem zD3 (R n cap k:Nat) (l:List Nat) (w:W6) (h:Row w R cap l) (hl:l.length=n) (hn:0<n) (hsm:n+k<=100000) (ty:TypeId):
  ∃R' cap' w',(Builtin.append_ #[23,3] ty #[.slice (some ⟨R,0,none⟩) n cap, .int .i64 (k:Int)]).run prog w= .ok (.slice (some ⟨R',0,none⟩) (n+k) cap') w'/\
   Row w' R' cap' (l++List.replicate k 0)/\w.grownBy w' (some R)/\(R'=R∨R'=w.heap.size):=by
 rcases Nat.eq_zero_or_pos k with rfl|hk
 ·have hc:=h.cap
  obtain ⟨i,hi,hz,hs,hb⟩:=info_parts yZ
  have hint:prog.underlying 3=some (.int .i64):=underlying3
  have hroom:n<=cap:=by omega
  have hw:IntKind.i64.wrap 0=0:=rfl
  refine ⟨R,cap,w, ?_,by rw [List.replicate_zero,List.append_nil];exact h,⟨rfl,rfl,rfl,nH _,fun _ _ _=>rfl⟩, .inl rfl⟩
  simp [Builtin.append_,nN yJ,nN hint,sizeOf,typeInfo,hi,asInt,asIntOf,hw,hroom,storeCells]
 ·exact zEs R n cap k l w h hl hn hk hsm ty
section
variable {F:Fence} {n:Nat} {P:Program} {md:Region.Mode} {ops:Array Oper} {Q:Exit->Act->W6->Prop} {C:W6->Prop} {z:Nat}
theorem zIx {i:Nat} {o:Oper} {fuel:Nat} {listed:Array Bool} {a:Act} {w:W6} (hr:Region.ready md ops listed= [i]) (ho:ops[i]?=some o) (hgd:o.guard=none) (s x:Operand) (t tn:TypeId)
  (hop:o.op= .call { callee:= .builtin .append,args:=#[s,x],argTypes:=#[t,tn] }) (vs vx:Value) (hs:a.eval s=vs) (hx:a.eval x=vx) (v':Value) (w':W6)
  (hrun:(Builtin.append_ #[t,tn] o.type #[vs,vx]).run P w= .ok v' w') (hc:C w') (h:zAd F n P md ops z C Q fuel (listed.setIfInBounds i true) (a.put o.dst v') w'):zAd F n P md ops z C Q (fuel+1) listed a w:=by
 refine zAx hr ho fun K hK=> ?_
 have hwt:Region.wanted o (yielded ops a.tmps)=true:=by simp [Region.wanted,hgd]
 rw [if_pos hwt]
 unfold Oper.wpIn
 refine ⟨?_, ?_⟩
 ·simp [Oper.about,hop,resolve,Target.leads,Sem.run_pure]
 ·rw [Oper.semAt_plain F _ _ (by rw [hop];intro c hc';cases hc')]
  simp [execOp,hop,resolve,invoke,builtin,hs,hx,hrun,Result.andThen]
  exact hK _ _ (.inr hc) h
end
end Go.Proofs.Wd

namespace Go.Proofs.Wd
open Tryz
set_option maxRecDepth 100000
set_option maxHeartbeats 2000000
open Go.RowKit Lb
attribute [local go_sem] Oper.semAt_some qF yI
theorem zLe {l:List Nat} {v n:Nat} (hi:Is l v) (hl:l.length=n) (h:BB<=v):1<n:=by
 rcases nQ 1 n with e|e
 ·exact e
 ·exfalso
  have h1:=hi.lt_pow
  rw [hl] at h1
  have h2:=nL h1 (nR y4 e)
  rw [Nat.pow_one] at h2
  omega
theorem zKH {a b:List Nat} {la lb:Nat} {up:Nat} (hup:up<=31) {vA vB:Nat} (ha:Is a vA) (hb:Is b vB) (hla:a.length=la) (hlb:b.length=lb) (h2:0<lb) (htop:lm b (lb - 1)*2^up<4294967296):
  vA*2^up<BB^(la+1)/\vA*2^up<BB^la*2^up/\vB*2^up<BB^lb/\BB^(lb - 1)*2^up<=vB*2^up:=by
 have hA:vA<BB^la:=by rw [<-ha.val, <-hla];exact qT ha.lt
 have hp:0<2^up:=nP _
 have h1:vA*2^up<BB^la*2^up:=pF hA hp
 have hs32:2^up*2^(32 - up)=4294967296:=by rw [<-Nat.pow_add,show up+(32 - up)=32 from by omega]
 have hsl:2^up<=BB:=Nat.le_of_lt (nS (nR oM hup) (by decide))
 refine ⟨?_,h1, ?_, ?_⟩
 ·rw [nJ]
  exact nL h1 (nW _ hsl)
 ·obtain ⟨k,rfl⟩: ∃k,lb=k+1:=⟨lb - 1,by omega⟩
  rw [Nat.add_sub_cancel] at htop
  have e1:vB=sm (lm b) k+lm b k*BB^k:=by rw [<-hb.val];unfold val;rw [hlb];rfl
  have e2:sm (lm b) k<BB^k:=zIg fun i _=>qM hb.lt i
  have e3:lm b k+1<=2^(32 - up):=by
   have:lm b k<2^(32 - up):=by
    rw [<-hs32,nT] at htop
    exact pB htop
   omega
  have e4:vB<(lm b k+1)*BB^k:=by rw [Nat.add_mul,Nat.one_mul];omega
  have e5:(lm b k+1)*BB^k*2^up<=2^(32 - up)*BB^k*2^up:=nX _ (nX _ e3)
  have e6:2^(32 - up)*BB^k*2^up=BB^(k+1):=by
   rw [nT, <-Nat.mul_assoc,hs32,nJ,nT]
   rfl
  rw [<-e6]
  exact nL (pF e4 hp) e5
 ·refine nX _ ?_
  rw [<-hb.val, <-hlb]
  exact zGS hb.tr (by intro e;subst e;simp at hlb;omega)
theorem zOR {l0:List Nat} {m n la vA V p:Nat} (h0:val l0=vA*p) (hl:l0.length=la+1) (hm:m+n=la+1) (hn:0<n) (h1:vA*p<BB^la*p) (h2:BB^(n - 1)*p<=V):val (l0.drop m)<V:=by
 have e1:=jY l0 m oM
 have e2:BB^m*(BB^(n - 1)*p)=BB^la*p:=by
  rw [<-Nat.mul_assoc, <-Nat.pow_add,show m+(n - 1)=la from by omega]
 have e3:BB^m*(BB^(n - 1)*p)<=BB^m*V:=nW _ h2
 have e4:BB^m*val (l0.drop m)<BB^m*V:=by omega
 exact pB e4
theorem zOS {w3:W6} {A2:Option Addr} {n2 c2:Nat} {l2:List Nat} {A3:Option Addr} {n3 c3:Nat} {l3:List Nat} {vA vB:Nat} (hi2:Is l2 vA) (hr2:Rd w3 A2 n2 c2 l2) (hi3:Is l3 vB) (hr3:Rd w3 A3 n3 c3 l3) (h1:BB<=vB) (hge:vB<=vA) {N:Nat} (hA:vA<BB^N) (hN:N<=2000):
  ∃b3 o3 up t3:Nat,A3=some ⟨b3,o3,none⟩/\1<n3/\n3<=n2/\n2<=2000/\n3<=c3/\c3<=9223372036854775807/\lm l3 (n3 - 1)=t3/\w3.cell? ⟨b3,o3+(n3 - 1),none⟩=some (.int .u32 (t3:Int))/\up<=31/\t3*2^up<4294967296/\
   ∀w:W6,Calls prog 151 #[.int .u32 (t3:Int)] w fun e w'=>e= .returned (.int .i64 (up:Int))/\w'=w:=by
 have hn3:=zLe hi3 hr3.len h1
 obtain ⟨b3,o3,rfl,_,hcb⟩:=hr3.shape oM
 have htop:lm l3 (n3 - 1)≠0:=by
  rcases zKj.1 hi3.tr with e|e
  ·have:=hr3.len;rw [e] at this;simp at this;omega
  ·rwa [hr3.len] at e
 have hx:=qM hi3.lt (n3 - 1)
 obtain ⟨up,hup,hup2,hlz⟩:=zK1 (lm l3 (n3 - 1)) oM hx
 refine ⟨b3,o3,up,_,rfl,hn3, ?_, ?_,hr3.le,hr3.cap,rfl,hcb _ oM,hup,hup2,hlz⟩
 ·rw [<-hr3.len, <-hr2.len]
  exact hi3.len (nS hge hi2.lt_pow)
 ·rw [<-hr2.len]
  exact nM (hi2.len hA) hN
def zTM (w:W6) (Q0 m:Nat) (l0 lb:List Nat) (k:Nat) (W:W6):Prop:=
 ∃lq,Arr W Q0 lq/\lq.length=m/\Lt lq/\(∀p,m - k<=p->p<m->lm lq p=dig l0 lb p)/\Boxed W w.heap.size 23 (.slice (some ⟨Q0,0,none⟩) m m)/\Below w.heap.size w W
theorem zL6 (A:Option Addr) (n c:Nat) (l:List Nat) (A':Option Addr) (n' c':Nat) (l':List Nat) (w:W6) (h:Rd w A n c l) (ht:Lt l) (h':Rd w A' n' c' l') (ht':Lt l') (hn:n<=2000) (hn':n'<=2000) (hge:val l'<=val l) (h1:BB<=val l'):
  Calls prog 135 #[.slice A n c, .slice A' n' c'] w (zH2 w (val l) (val l')):=by
 have hmix:prog.follows .mixedOrders=true:=by kernel_rfl
 have hcmp:decide (zAy (val l) (val l')<0)=false:=by
  unfold zAy
  rw [if_neg oM]
  split<;>simp
 refine q6 func135 rfl ?_
 simp only [ntmps135,pA,List.length_cons,List.length_nil,Nat.reduceAdd,Nat.reduceSub,Array.replicate_succ,Array.replicate_zero,List.push_toArray,List.append_toArray,List.nil_append,List.cons_append]
 have hb0:=(nI _ w).alloc (nH _) (.cells #[.slice none 0 0] 23)
 have hx0:=Boxed.new w 23 (.slice none 0 0)
 have hA:val l<BB^n:=by rw [<-h.len];exact qT ht
 go_wp2_with (first|(go_at_call 90;first|((with_reducible refine (qY A n c l _ (h.below hb0) ht oM).mono ?_);rintro e w2 ⟨A2,n2,c2,l2,rfl,hi2,hr2,hb2⟩;have hb3:=hb0.trans (hb2.mono hb0.size);have hx2:=(hb2.block _ hx0.lt).trans hx0)|((with_reducible refine (qY A' n' c' l' _ (h'.below hb3) ht' oM).mono ?_);rintro e w3 ⟨A3,n3,c3,l3,rfl,hi3,hr3,hb4⟩;have hb5:=hb3.trans (hb4.mono hb3.size);have hx3:Boxed w3 w.heap.size 23 (.slice none 0 0):=(hb4.block _ (Boxed.lt hx2)).trans hx2;have hr2':=hr2.below hb4;obtain ⟨b3,o3,up,t3,rfl,hn3,hn32,hn2,hle3,hcap3,ht3,hct3,hup,hup2,hlz⟩:=zOS hi2 hr2' hi3 hr3 h1 hge hA hn;have hz3:((n3:Int) - 1).toNat=n3 - 1:=Int.toNat_sub n3 1;have HT3:=hid ht3;clear ht3))|(go_at_call 149;refine (zFo A2 n2 c2 l2 _ n3 c3 l3 _ (hr2.below hb4) hr3 hi2.lt hi3.lt).mono ?_;rw [hi2.val,hi3.val];rintro e w4 ⟨rfl,rfl⟩;have hu1:=zPq A2 n2 c2 l2 up w3 hr2' hi2.lt hup (nM hn2 (by decide));rw [hi2.val] at hu1)|(go_at_call 151;refine (hlz _).mono ?_;rintro e w4 ⟨rfl,hw4⟩;rw [hw4];clear hw4 w4)|(go_at_call 152;first|((with_reducible refine hu1.mono ?_);rintro e w5 ⟨A5,n5,c5,l5,rfl,hi5,ho5,hb6⟩;have hu2:=zPq _ n3 c3 l3 up w5 (hr3.below hb6) hi3.lt hup (nM (nM hn32 hn2) (by decide));rw [hi3.val] at hu2)|((with_reducible refine hu2.mono ?_);rintro e w6 ⟨A6,n6,c6,l6,rfl,hi6,ho6,hb7⟩)))
 obtain ⟨s1,s2,s3,s4⟩:=zKH hup hi2 hi3 hr2.len hr3.len oM (by rw [HT3.out];exact hup2)
 have hVp:0<val l'*2^up:=Nat.mul_pos (nL y4 h1) (nP _)
 have hAp:0<val l*2^up:=Nat.mul_pos (nL y4 (nM h1 hge)) (nP _)
 obtain ⟨R,rfl,hl5,hR,hrow5⟩:=Row.of_own ho5 (hi5.pos_iff.1 hAp)
 obtain ⟨R6,rfl,hl6,hR6,hrow6⟩:=Row.of_own ho6 (hi6.pos_iff.1 hVp)
 have hn5:n5<=n2+1:=by rw [hl5];exact hi5.len s1
 have hn50:0<n5:=by rw [hl5];exact hi5.pos_iff.1 hAp
 have hn6:n6=n3:=by
  have g1:n6<=n3:=by rw [hl6];exact hi6.len s3
  rcases nQ n6 n3 with e|e
  ·exfalso
   have g2:=hi6.lt_pow
   rw [<-hl6] at g2
   have g3:BB^n6<=BB^(n3 - 1):=nR y4 oM
   have g4:BB^(n3 - 1)*1<=BB^(n3 - 1)*2^up:=nW _ (nP _)
   rw [Nat.mul_one] at g4
   omega
  ·omega
 have hb8:Below w.heap.size w w6:=hb5.trans ((hb6.trans (hb7.mono hb6.size)).mono hb5.size)
 have hrw6:Row w6 R c5 l5:=hrow5.kept (hb7.block _ hrow5.lt)
 have hR5:=hrow5.lt
 have hx6:Boxed w6 w.heap.size 23 (.slice none 0 0):=((hb6.trans (hb7.mono hb6.size)).block _ hx3.lt).trans hx3
 obtain ⟨W7,hW7⟩: ∃W7,w6.alloc (.cells #[.slice (some ⟨R,0,none⟩) n5 c5, .slice (some ⟨R6,0,none⟩) n6 c6] 188)=W7:=⟨_,rfl⟩
 have hD7:W7.heap.size=w6.heap.size+1:=by rw [<-hW7];simp
 have x7:q7 W7 w6.heap.size 188 #[.slice (some ⟨R,0,none⟩) n5 c5, .slice (some ⟨R6,0,none⟩) n6 c6]:=by rw [<-hW7];exact q7.new _ _ _
 have hb9:Below w6.heap.size w6 W7:=by rw [<-hW7];exact (nI _ _).alloc (nH _) _
 have hrw7:Row W7 R c5 l5:=hrw6.kept (hb9.block _ hrw6.lt)
 rw [hW7]
 clear hW7
 obtain ⟨k,hk⟩: ∃k,n2+1 - n5=k:=⟨_,rfl⟩
 have hkw1:IntKind.i64.wrap ((n2:Int)+1)=(n2:Int)+1:=by rw [nU];omega
 have hkw2:IntKind.i64.wrap ((n2:Int)+1 - (n5:Int))=(k:Int):=by rw [nU];omega
 obtain ⟨R8,c8,w8,hrun,hrw8,hg8,hR8⟩:=zD3 R n5 c5 k l5 W7.drew (hrw7.kept rfl) hl5.symm hn50 oM 23
 have x8:q7 w8 w6.heap.size 188 #[.slice (some ⟨R,0,none⟩) n5 c5, .slice (some ⟨R6,0,none⟩) n6 c6]:=(hg8.block _ x7.lt (fun e=>by have:=hrw6.lt;injection e with e;omega)).trans x7
 have HL5:=hid hl5;have HL6:=hid hl6;have HN6:=hid hn6
 clear hl5 hl6 hn6
 refine (wpIn_wide (n:=0)).1 ?_
 refine yH 17 (fun W=>W.cell? ⟨w6.heap.size,0,none⟩=some (.slice (some ⟨R,0,none⟩) n5 c5)) hmix ?_
 have d7:W7.drew.cell? ⟨w6.heap.size,0,none⟩=some (.slice (some ⟨R,0,none⟩) n5 c5):=x7.cell 0
 have d8:w8.cell? ⟨w6.heap.size,0,none⟩=some (.slice (some ⟨R,0,none⟩) n5 c5):=x8.cell 0
 refine zW (i:=0) (v:= ?vv1) kF kF rfl kF kF kF (fun _ _ _ h=>h) d7 ⟨.inl ⟨rfl, ?yy1⟩,fun _=>rfl⟩ ?_
 case yy1=>
  rintro wx q1
  go_simp
  first|done|rfl
 refine zW (i:=1) (v:= ?vv2) kF kF rfl kF kF kF (fun _ _ _ h=>h) d7 ⟨.inl ⟨rfl, ?yy2⟩,fun _=>rfl⟩ ?_
 case yy2=>
  rintro wx q1
  go_simp
  first|done|rfl
 refine zW (i:=2) (v:= ?vv3) kF kF rfl kF kF kF (fun _ _ _ h=>h) d7 ⟨.inl ⟨rfl, ?yy3⟩,fun _=>rfl⟩ ?_
 case yy3=>
  rintro wx q1
  go_simp
  first|done|rfl
 refine zW (i:=3) (v:= ?vv4) kF kF rfl kF kF kF (fun _ _ _ h=>h) d7 ⟨.inl ⟨rfl, ?yy4⟩,fun _=>rfl⟩ ?_
 case yy4=>
  rintro wx q1
  go_simp
  first|done|rfl
 refine zW (i:=4) (v:= ?vv5) kF kF rfl kF kF kF (fun _ _ _ h=>h) d7 ⟨.inl ⟨rfl, ?yy5⟩,fun _=>rfl⟩ ?_
 case yy5=>
  rintro wx q1
  go_simp
  first|done|rfl
 refine zW (i:=5) (v:= ?vv6) kF kF rfl kF kF kF (fun _ _ _ h=>h) d7 ⟨.inl ⟨rfl, ?yy6⟩,fun _=>rfl⟩ ?_
 case yy6=>
  rintro wx q1
  go_simp
  first|done|rfl
 refine zW (i:=6) (v:= ?vv7) kF kF rfl kF kF kF (fun _ _ _ h=>h) d7 ⟨.inl ⟨rfl, ?yy7⟩,fun _=>rfl⟩ ?_
 case yy7=>
  rintro wx q1
  go_simp
  first|done|rfl
 refine zW (i:=7) (v:= ?vv8) kF kF rfl kF kF kF (fun _ _ _ h=>h) d7 ⟨.inl ⟨rfl, ?yy8⟩,fun _=>rfl⟩ ?_
 case yy8=>
  rintro wx q1
  go_simp
  first|done|rfl
 refine zW (i:=8) (v:= ?vv9) kF kF rfl kF kF kF (fun _ _ _ h=>h) d7 ⟨.inl ⟨rfl, ?yy9⟩,fun _=>rfl⟩ ?_
 case yy9=>
  rintro wx q1
  go_simp
  first|done|rfl
 refine zW (i:=9) (v:= ?vv10) kF kF rfl kF kF kF (fun _ _ _ h=>h) d7 ⟨.inl ⟨rfl, ?yy10⟩,fun _=>rfl⟩ ?_
 case yy10=>
  rintro wx q1
  go_simp
  first|done|rfl
 refine zW (i:=10) (v:= ?vv11) kF kF rfl kF kF kF (fun _ _ _ h=>h) d7 ⟨.inl ⟨rfl, ?yy11⟩,fun _=>rfl⟩ ?_
 case yy11=>
  rintro wx q1
  go_simp
  first|done|rfl
 refine zW (i:=11) (v:= ?vv12) kF kF rfl kF kF kF (fun _ _ _ h=>h) d7 ⟨.inl ⟨rfl, ?yy12⟩,fun _=>rfl⟩ ?_
 case yy12=>
  rintro wx q1
  go_simp
  first|done|rfl
 refine zW (i:=12) (v:= ?vv13) kF kF rfl kF kF kF (fun _ _ _ h=>h) d7 ⟨.inl ⟨rfl, ?yy13⟩,fun _=>rfl⟩ ?_
 case yy13=>
  rintro wx q1
  go_simp
  first|done|rfl
 refine zW (i:=13) (v:= ?vv14) kF kF rfl kF kF kF (fun _ _ _ h=>h) d7 ⟨.inl ⟨rfl, ?yy14⟩,fun _=>rfl⟩ ?_
 case yy14=>
  rintro wx q1
  go_simp
  first|done|rfl
 refine zIx (i:=14) kF rfl rfl (.tmp 65) (.tmp 74) 23 3 rfl (.slice (some ⟨R,0,none⟩) n5 c5) (.int .i64 (k:Int)) kF kF (.slice (some ⟨R8,0,none⟩) (n5+k) c8) w8 hrun d8 ?_
 simp only [Act.put]
 go_simp
 refine zAx (i:=15) kF rfl (fun K hK=> ?_)
 go_simp
 refine hK _ _ (.inr d8) ?_
 clear hK K
 refine zAx (i:=16) kF rfl (fun K hK=> ?_)
 go_simp
 refine hK _ _ (.inr d8) ?_
 clear hK K
 have f8:=x8.frozen 0
 refine zAx (i:=17) kF rfl (fun K hK=> ?_)
 go_simp
 refine hK _ _ (.inl rfl) ?_
 clear hK K
 refine zCj kF ?_
 clear hkw1 hkw2
 obtain ⟨W9,hW9⟩: ∃W9,w8.setCell ⟨w6.heap.size,0,none⟩ (.slice (some ⟨R8,0,none⟩) (n5+k) c8)=W9:=⟨_,rfl⟩
 have x9:q7 W9 w6.heap.size 188 #[.slice (some ⟨R8,0,none⟩) (n5+k) c8, .slice (some ⟨R6,0,none⟩) n6 c6]:=by rw [<-hW9];exact x8.set 0 _
 have hRD:R8≠w6.heap.size:=by
  rcases hR8 with e|e
  ·rw [e];have:=hrw6.lt;omega
  ·rw [e];show W7.heap.size≠_;omega
 have hrw9:Row W9 R8 c8 (l5++List.replicate k 0):=by rw [<-hW9];exact hrw8.kept (nY _ _ _ _ hRD)
 have hb10:Below w.heap.size w W9:=by
  have hb7:Below w.heap.size w W7.drew:=(hb8.trans (hb9.mono hb8.size)).drew
  have:=zAO hb7 hg8 hb7.size (nM hb5.size hR)
  rw [<-hW9]
  exact this.setCell (p:=⟨w6.heap.size,0,none⟩) hb8.size _
 have hsz9:W7.heap.size<=W9.heap.size:=by rw [<-hW9, <-zBc];exact hg8.size
 have hk9: ∀b,b<W7.heap.size->b≠R->b≠w6.heap.size->W9.heap[b]?=W7.heap[b]?:=fun b h1 h2 h3=>by
  rw [<-hW9]
  exact (nY _ _ _ _ h3).trans (hg8.block b h1 (fun e=>h2 (by injection e)))
 have hx9:Boxed W9 w.heap.size 23 (.slice none 0 0):=by
  have hl0:=hx6.lt
  have hlR:w.heap.size<R:=nL hx3.lt hR
  exact (hk9 _ oM oM oM).trans ((hb9.block _ hl0).trans hx6)
 have hr9:Rd W9 (some ⟨R6,0,none⟩) n6 c6 l6:=by
  have h6:=hrow6.rd
  rw [<-HL6.out] at h6
  have h7:=h6.below hb9
  refine ⟨h7.len,h7.le,h7.cap,h7.nil,fun i hi=> ?_⟩
  obtain ⟨b,o,e,hc⟩:=h7.cells i hi
  refine ⟨b,o,e,(nZ (hk9 b (z7 hc) ?_ ?_)).trans hc⟩<;>(injection e with e;injection e with e1 e2;have:=hrow6.lt;omega)
 have hL9:LongAt W9 w6.heap.size R8 c8 (l5++List.replicate k 0) (some ⟨R6,0,none⟩) n6 c6 l6:=
  ⟨by have:=x9;rwa [show n5+k=(l5++List.replicate k 0).length from by rw [nK,nO, <-HL5.out]] at this,hrw9,hr9,fun e=>hRD e.symm,fun b o _ e=>by
   injection e with e
   injection e with e1 e2
   have:=hrow6.lt
   rcases hR8 with e3|e3
   ·rw [e3];omega
   ·rw [e3];show b≠W7.heap.size;omega⟩
 rw [hW9]
 clear hW9 x8 f8 d8 d7 hrun
 obtain ⟨m,hm⟩: ∃m,n5+k - n6=m:=⟨_,rfl⟩
 have hmw1:IntKind.i64.wrap ((n5:Int)+(k:Int) - (n6:Int))=(m:Int):=by rw [nU];have:=HN6.out;omega
 have hmk:=fun wx=>zA7 m oM wx
 have hx9f:=hx9.frozen
 go_wp2
 refine (wpIn_wide (n:=0)).1 ?_
 refine yH 12 (fun W=>W.cell? ⟨w6.heap.size,0,none⟩=some (.slice (some ⟨R8,0,none⟩) (n5+k) c8)/\W.cell? ⟨w6.heap.size,1,none⟩=some (.slice (some ⟨R6,0,none⟩) n6 c6)) hmix ?_
 have d9:W9.drew.cell? ⟨w6.heap.size,0,none⟩=some (.slice (some ⟨R8,0,none⟩) (n5+k) c8)/\W9.drew.cell? ⟨w6.heap.size,1,none⟩=some (.slice (some ⟨R6,0,none⟩) n6 c6):=⟨x9.cell 0,x9.cell 1⟩
 refine zW (i:=0) (v:= ?vv15) kF kF rfl kF kF kF (fun _ _ _ h=>h) d9 ⟨.inl ⟨rfl, ?yy15⟩,fun _=>rfl⟩ ?_
 case yy15=>
  rintro wx ⟨q1,q2⟩
  go_simp
  first|done|rfl
 refine zW (i:=1) (v:= ?vv16) kF kF rfl kF kF kF (fun _ _ _ h=>h) d9 ⟨.inl ⟨rfl, ?yy16⟩,fun _=>rfl⟩ ?_
 case yy16=>
  rintro wx ⟨q1,q2⟩
  go_simp
  first|done|rfl
 refine zW (i:=2) (v:= ?vv17) kF kF rfl kF kF kF (fun _ _ _ h=>h) d9 ⟨.inl ⟨rfl, ?yy17⟩,fun _=>rfl⟩ ?_
 case yy17=>
  rintro wx ⟨q1,q2⟩
  go_simp
  first|done|rfl
 refine zW (i:=3) (v:= ?vv18) kF kF rfl kF kF kF (fun _ _ _ h=>h) d9 ⟨.inl ⟨rfl, ?yy18⟩,fun _=>rfl⟩ ?_
 case yy18=>
  rintro wx ⟨q1,q2⟩
  go_simp
  first|done|rfl
 refine zW (i:=4) (v:= ?vv19) kF kF rfl kF kF kF (fun _ _ _ h=>h) d9 ⟨.inl ⟨rfl, ?yy19⟩,fun _=>rfl⟩ ?_
 case yy19=>
  rintro wx ⟨q1,q2⟩
  go_simp
  first|done|rfl
 refine zW (i:=5) (v:= ?vv20) kF kF rfl kF kF kF (fun _ _ _ h=>h) d9 ⟨.inl ⟨rfl, ?yy20⟩,fun _=>rfl⟩ ?_
 case yy20=>
  rintro wx ⟨q1,q2⟩
  go_simp
  first|done|rfl
 refine zW (i:=6) (v:= ?vv21) kF kF rfl kF kF kF (fun _ _ _ h=>h) d9 ⟨.inl ⟨rfl, ?yy21⟩,fun _=>rfl⟩ ?_
 case yy21=>
  rintro wx ⟨q1,q2⟩
  go_simp
  first|done|rfl
 refine zW (i:=7) (v:= ?vv22) kF kF rfl kF kF kF (fun _ _ _ h=>h) d9 ⟨.inl ⟨rfl, ?yy22⟩,fun _=>rfl⟩ ?_
 case yy22=>
  rintro wx ⟨q1,q2⟩
  go_simp
  first|done|rfl
 refine zW (i:=8) (v:= ?vv23) kF kF rfl kF kF kF (fun _ _ _ h=>h) d9 ⟨.inl ⟨rfl, ?yy23⟩,fun _=>rfl⟩ ?_
 case yy23=>
  rintro wx ⟨q1,q2⟩
  go_simp
  first|done|rfl
 refine zW (i:=9) (v:= ?vv24) kF kF rfl kF kF kF (fun _ _ _ h=>h) d9 ⟨.inl ⟨rfl, ?yy24⟩,fun _=>rfl⟩ ?_
 case yy24=>
  rintro wx ⟨q1,q2⟩
  go_simp
  first|done|rfl
 refine zW (i:=10) (v:= ?vv25) kF kF rfl kF kF kF (fun _ _ _ h=>h) d9 ⟨.inl ⟨rfl, ?yy25⟩,fun _=>rfl⟩ ?_
 case yy25=>
  rintro wx ⟨q1,q2⟩
  go_simp
  first|done|rfl
 obtain ⟨WA,hWA⟩: ∃WA,W9.drew.alloc (.cells (madeCells #[.int .u32 0] m) 73)=WA:=⟨_,rfl⟩
 have hbA:Below W9.heap.size W9 WA:=by rw [<-hWA];exact (nI _ W9).drew.alloc (nH _) _
 have hqA:Arr WA W9.heap.size (List.replicate m 0):=by rw [<-hWA];exact Arr.new W9.drew m
 have hxA:Boxed WA w.heap.size 23 (.slice none 0 0):=(hbA.block _ hx9.lt).trans hx9
 have hLA:=hL9.below hbA
 have dA:WA.cell? ⟨w6.heap.size,0,none⟩=some (.slice (some ⟨R8,0,none⟩) (n5+k) c8)/\WA.cell? ⟨w6.heap.size,1,none⟩=some (.slice (some ⟨R6,0,none⟩) n6 c6):=⟨(x9.kept hbA).cell 0,(x9.kept hbA).cell 1⟩
 have fA:=hxA.frozen
 have cA:=hxA.cell
 refine zAx (i:=11) kF rfl (fun K hK=> ?_)
 go_simp
 refine hK _ _ (.inr dA) ?_
 clear hK K
 refine zAx (i:=12) kF rfl (fun K hK=> ?_)
 go_simp
 refine hK _ _ (.inl rfl) ?_
 clear hK K
 refine zCj kF ?_
 clear hmk
 have hxB:Boxed (WA.setCell ⟨w.heap.size,0,none⟩ (.slice (some ⟨W9.heap.size,0,none⟩) m m)) w.heap.size 23 (.slice (some ⟨W9.heap.size,0,none⟩) m m):=hxA.set _
 go_wp2_with (go_at_call 153;refine (zMz _ _).mono ?_;rintro e wd ⟨rfl,hwd⟩)
 have hsB:(WA.setCell ⟨w.heap.size,0,none⟩ (.slice (some ⟨W9.heap.size,0,none⟩) m m)).heap.size=WA.heap.size:=(zBc WA _ _).symm
 have hsA:WA.heap.size=W9.heap.size+1:=by rw [<-hWA,pC];rfl
 have hsd:wd.heap.size=WA.heap.size+1:=by rw [<-hwd];simp
 have hbdc:wd.cell? ⟨WA.heap.size,0,none⟩=some (.pointer (some ⟨w6.heap.size,0,none⟩)):=by
  rw [<-hwd]
  exact (zAt _ _ _ hsB.symm).cell
 have hxC:Boxed wd w.heap.size 23 (.slice (some ⟨W9.heap.size,0,none⟩) m m):=by rw [<-hwd];exact hxB.alloc _
 have hl0:=hx3.lt
 have hw3:w3.heap.size<=w6.heap.size:=(hb6.trans (hb7.mono hb6.size)).size
 have hw9:w6.heap.size<W9.heap.size:=by omega
 have hlR8:R8<W9.heap.size:=hrw9.lt
 have hlR6:R6<w6.heap.size:=hrow6.lt
 have hR86:w3.heap.size<=R8:=by
  rcases hR8 with e|e
  ·omega
  ·rw [e];show _<=W7.heap.size;omega
 have hqC:Arr wd W9.heap.size (List.replicate m 0):=by
  rw [<-hwd]
  exact (hqA.far (p:=⟨w.heap.size,0,none⟩) (by simp;omega) _).alloc _
 obtain ⟨l0,hl0e⟩: ∃l0,l5++List.replicate k 0=l0:=⟨_,rfl⟩
 have hl0v:val l0=val l*2^up:=by rw [<-hl0e,zCM,zAp,Nat.mul_zero,nV,hi5.val]
 have hl0l:l0.length=n2+1:=by rw [<-hl0e,nK,nO, <-HL5.out];omega
 have ht0:Lt l0:=by rw [<-hl0e];exact zH3 hi5.lt (jX k)
 have hmn:m+n6=n2+1:=by have:=HN6.out;omega
 have hn60:0<n6:=by have:=HN6.out;omega
 rw [hl0e] at hLA
 have hLC:LongAt wd w6.heap.size R8 c8 l0 (some ⟨R6,0,none⟩) n6 c6 l6:=by
  rw [<-hwd]
  refine LongAt.below ?_ ((nI _ _).alloc (nH _) _)
  exact ⟨hLA.box.other (p:=⟨w.heap.size,0,none⟩) (by simp;omega) _,hLA.row.kept (nY _ _ _ _ (by simp;omega)),hLA.by_.setBox hxA (fun _=>by simp) _,hLA.ne,hLA.far⟩
 have hBC:Below w.heap.size w wd:=by
  rw [<-hwd]
  have t1:=(hb10.trans (hbA.mono hb10.size)).setCell (p:=⟨w.heap.size,0,none⟩) (nH _) (.slice (some ⟨W9.heap.size,0,none⟩) m m)
  exact t1.alloc t1.size _
 have htop6:0<lm l6 (n6 - 1):=by
  rcases zKj.1 hi6.tr with e|e
  ·have:=HL6.out;rw [e] at this;simp at this;omega
  ·rw [<-HL6.out] at e;omega
 have hV6:0<val l6:=by rw [hi6.val];exact hVp
 have htopm:val (l0.drop m)<val l6:=by
  rw [hi6.val]
  refine zOR hl0v hl0l hmn hn60 s2 ?_
  rw [HN6.out]
  exact s4
 clear hwd hWA hxB hqA hl0e
 have HWA:=hid hsA
 clear hsA hsB hmw1
 have hSb: ∀b,(b<wd.heap.size/\b≠W9.heap.size)->b<wd.heap.size:=fun b hb=>hb.1
 have hwsz:WA.heap.size<wd.heap.size:=by omega
 have hA9:W9.heap.size<WA.heap.size:=by have:=HWA.out;omega
 clear hsd
 have hown: ∀C,w.heap.size<=C->OwnFrom C (zTM w W9.heap.size m l0 l6):=by
  rintro C hC k W W' row ⟨lq,ha,hlq,hltq,hdig,hq,hB⟩ hg hr
  exact ⟨lq,ha.abide hg hr,hlq,hltq,hdig,qP hq hg hr,zAm hB hg (nH _) hC hr⟩
 refine zEw (gf:=166) rfl (enters_of func166 kF rfl)
  (zIG WA.heap.size w6.heap.size R8 c8 l0 (some ⟨R6,0,none⟩) n6 c6 l6 m wd hLC hbdc oM ht0 hi6.lt hn60 htop6 oM htopm hV6 (S:=fun b=>b<wd.heap.size/\b≠W9.heap.size) hSb ⟨hwsz,by omega⟩ ⟨by omega,by omega⟩ ⟨by omega,by omega⟩ (fun b o _ e=>by injection e with e;injection e with e1 e2;omega))
  (fun _=>rfl) y9.trans (zEc hSb) (zTM w W9.heap.size m l0 l6) (hown _ hBC.size) ?hF ?hFb ?hFin ⟨List.replicate m 0,hqC,by simp,jX m,fun p h1 h2=>by omega,hxC,hBC⟩
  (fun k9=>{ tmps:=#[Value.slice A2 n2 c2,Value.slice (some { block:=b3,off:=o3 }) n3 c3,undef,undef,Value.pointer (some { block:=w.heap.size,off:=0 }),Value.slice none 0 0,Value.int IntKind.i64 0,undef,undef,undef,Value.int IntKind.i64 ↑up,Value.pointer (some { block:=w6.heap.size,off:=0 }),Value.int IntKind.i64 (m - 1 - k9:Nat),Value.int IntKind.u32 (dig l0 l6 (m - 1 - k9):Nat),Value.slice A n c,Value.slice A2 n2 c2,Value.slice A' n' c',Value.slice (some { block:=b3,off:=o3 }) n3 c3,Value.bool false,Value.slice (some { block:=b3,off:=o3 }) n3 c3,Value.int IntKind.i64 ↑n3,Value.bool false,Value.bool false,Value.slice A2 n2 c2,Value.slice (some { block:=b3,off:=o3 }) n3 c3,Value.int IntKind.i64 (zAy (val l) (val l')),Value.bool false,undef,Value.bool false,Value.slice (some { block:=b3,off:=o3 }) n3 c3,Value.int IntKind.i64 ↑n3,Value.bool false,undef,undef,undef,undef,undef,undef,undef,undef,undef,undef,undef,undef,undef,undef,Value.slice (some { block:=b3,off:=o3 }) n3 c3,Value.slice (some { block:=b3,off:=o3 }) n3 c3,Value.int IntKind.i64 ↑n3,Value.int IntKind.i64 (↑n3 - 1),Value.pointer (some { block:=b3,off:=o3+(n3 - 1) }),Value.int IntKind.u32 ↑t3,Value.int IntKind.i64 ↑up,Value.slice A2 n2 c2,Value.int IntKind.i64 ↑up,Value.slice (some { block:=R,off:=0 }) n5 c5,Value.slice (some { block:=b3,off:=o3 }) n3 c3,Value.int IntKind.i64 ↑up,Value.slice (some { block:=R6,off:=0 }) n6 c6,Value.agg #[Value.slice (some { block:=R,off:=0 }) n5 c5,Value.slice (some { block:=R6,off:=0 }) n6 c6],Value.pointer (some { block:=w6.heap.size,off:=0 }),Value.pointer (some { block:=w6.heap.size,off:=0 }),Value.pointer (some { block:=w6.heap.size,off:=0 }),Value.pointer (some { block:=w6.heap.size,off:=0 }),Value.pointer (some { block:=w6.heap.size,off:=0 }),Value.slice (some { block:=R,off:=0 }) n5 c5,Value.slice A2 n2 c2,Value.int IntKind.i64 ↑n2,Value.int IntKind.i64 (↑n2+1),Value.pointer (some { block:=w6.heap.size,off:=0 }),Value.pointer (some { block:=w6.heap.size,off:=0 }),Value.pointer (some { block:=w6.heap.size,off:=0 }),Value.slice (some { block:=R,off:=0 }) n5 c5,Value.int IntKind.i64 ↑n5,Value.int IntKind.i64 ↑k,Value.slice (some { block:=R8,off:=0 }) (n5+k) c8,Value.pointer (some { block:=w6.heap.size,off:=0 }),Value.pointer (some { block:=w6.heap.size,off:=0 }),Value.pointer (some { block:=w6.heap.size,off:=0 }),Value.pointer (some { block:=w6.heap.size,off:=0 }),Value.pointer (some { block:=w6.heap.size,off:=0 }),Value.slice (some { block:=R8,off:=0 }) (n5+k) c8,Value.int IntKind.i64 (↑n5+↑k),Value.pointer (some { block:=w6.heap.size,off:=0 }),Value.pointer (some { block:=w6.heap.size,off:=0 }),Value.pointer (some { block:=w6.heap.size,off:=1 }),Value.slice (some { block:=R6,off:=0 }) n6 c6,Value.int IntKind.i64 ↑n6,Value.int IntKind.i64 ↑m,Value.slice (some { block:=W9.heap.size,off:=0 }) m m,Value.pointer (some { block:=w6.heap.size,off:=0 }),Value.func (Fn.func 166) #[] #[Value.pointer (some { block:=WA.heap.size,off:=0 })],Value.int IntKind.i64 (m - 1 - k9:Nat),Value.int IntKind.u32 (dig l0 l6 (m - 1 - k9):Nat),undef,undef,undef,undef,undef,undef,undef,undef,undef,undef,undef,undef,undef],defers:= [] }) ?hassign ?hbody ?hdone
 case hF=>
  rintro k1 W1 W2 ⟨lq,ha,hlq,hltq,hdig,hq,hB⟩ hg
  exact ⟨lq,ha.kept (hg.block _ ha.lt (fun e=>by injection e with e;omega)),hlq,hltq,hdig,(hg.block _ hq.lt (fun e=>by injection e with e;omega)).trans hq,zAO hB hg hB.size oM⟩
 case hFb=>
  intro W1 W2 hg k1 o hk1 ho hc
  exact (hg.block k1 (Array.getElem?_eq_some_iff.1 ho).1 (fun e=>by injection e with e;omega)).trans ho
 case hFin=>
  rintro W l1 o o' hl1 ho hc ⟨lr,hL,hlt,hv⟩
  exact ⟨lr,hL.putObj o' ho hc,hlt,hv⟩
 case hassign=>
  intro lp k1 W K hK
  gi_wp2
  exact hK
 case hbody=>
  rintro lp k1 W hk1 ⟨lq,ha,hlq,hltq,hdig,hq,hB⟩
  obtain ⟨j,hj,hjn⟩: ∃j,m - 1 - k1=j/\j<m/\m - (k1+1)=j/\m - k1=j+1:=⟨m - 1 - k1,rfl,by omega,by omega,by omega⟩
  rw [hj]
  have hcq:=hq.cell;have hfq:=hq.frozen
  have hfj:=ha.frozen j
  have hj0:j<m:=hjn.1
  have hcj:=ha.cell (i:=j) oM
  have HJ:=hid hjn
  clear hj hjn
  gi_wp2
  refine ⟨(KeepsOthers.setCell _ _ _).from _,(y9.refl _ _).setCell (p:=⟨W9.heap.size,j,none⟩) (by simp) _,lq.set j (dig l0 l6 j),ha.set j _,by rw [pD];exact hlq,zCK hltq (Nat.mod_lt _ y4),fun p hp1 hp2=> ?_,zAF hq (p:=⟨W9.heap.size,j,none⟩) (by simp;omega) _,hB.setCell (p:=⟨W9.heap.size,j,none⟩) (by simp;omega) _⟩
  have h9:=HJ.out
  rw [zAU oM]
  by_cases e:j=p
  ·rw [if_pos e,e]
  ·rw [if_neg e]
   exact hdig p oM hp2
 case hdone=>
  rintro D' W hD ⟨lq,ha,hlq,hltq,hdig,hq,hB⟩ ⟨lr,hLr,hltr,hlr,hvr⟩ hd
  have hqv:val lq=val l / val l':=by
   rw [zPe hV6 ht0 oM htopm hlq (fun p hp=>hdig p oM hp),hl0v,hi6.val,Nat.mul_div_mul_right _ _ (nP _)]
  have hrv:val lr=val l % val l'*2^up:=by rw [hvr,hl0v,hi6.val,Nat.mul_mod_mul_right]
  obtain ⟨⟨d0,_⟩,_,_⟩:=hLr.box.facts2
  have hrl:lr.length<=1099511627776:=by omega
  have hcq:=hq.cell
  have t1:=qY (some ⟨W9.heap.size,0,none⟩) m m lq W.drew (ha.rd hlq oM).drew hltq oM
  rw [hqv] at t1
  have hrr:=hLr.row.rd
  obtain ⟨N,hN⟩: ∃N,lr.length=N:=⟨_,rfl⟩
  rw [hN] at d0 hrr hrl
  have hrb:val l % val l'*2^up<BB^(n2+1):=nS (nX _ (Nat.mod_le _ _)) s1
  have hd0:W.drew.cell? ⟨w6.heap.size,0,none⟩=some (.slice (some ⟨R8,0,none⟩) N c8):=d0
  have hfq:=hq.frozen
  go_wp2_with fail
  refine (wpIn_wide (n:=0)).1 ?_
  refine yH 100 (fun W=>W.cell? ⟨w6.heap.size,0,none⟩=some (.slice (some ⟨R8,0,none⟩) N c8)) hmix ?_
  refine zW (i:=2) (v:= ?vv26) kF kF rfl kF kF kF (fun _ _ _ h=>h) hd0 ⟨.inl ⟨rfl, ?yy26⟩,fun _=>rfl⟩ ?_
  case yy26=>
   rintro wx q1
   go_simp
   first|done|rfl
  refine zW (i:=3) (v:= ?vv27) kF kF rfl kF kF kF (fun _ _ _ h=>h) hd0 ⟨.inl ⟨rfl, ?yy27⟩,fun _=>rfl⟩ ?_
  case yy27=>
   rintro wx q1
   go_simp
   first|done|rfl
  refine zW (i:=4) (v:= ?vv28) kF kF rfl kF kF kF (fun _ _ _ h=>h) hd0 ⟨.inl ⟨rfl, ?yy28⟩,fun _=>rfl⟩ ?_
  case yy28=>
   rintro wx q1
   go_simp
   first|done|rfl
  refine zW (i:=5) (v:= ?vv29) kF kF rfl kF kF kF (fun _ _ _ h=>h) hd0 ⟨.inl ⟨rfl, ?yy29⟩,fun _=>rfl⟩ ?_
  case yy29=>
   rintro wx q1
   go_simp
   first|done|rfl
  refine zW (i:=7) (v:= ?vv30) kF kF rfl kF kF kF (fun _ _ _ h=>h) hd0 ⟨.inl ⟨rfl, ?yy30⟩,fun _=>rfl⟩ ?_
  case yy30=>
   rintro wx q1
   go_simp
   first|done|rfl
  refine zAx (i:=0) kF rfl (fun K hK=> ?_)
  go_simp
  refine hK _ _ (.inr hd0) ?_
  clear hK K
  refine zAx (i:=1) kF rfl (fun K hK=> ?_)
  go_simp
  refine CallsIn.mono (callsIn_wide.2 t1) ?_
  rintro e wa ⟨Aa,na,ca,la,rfl,hia,hra,hba⟩
  have bda:wa.cell? ⟨w6.heap.size,0,none⟩=some (.slice (some ⟨R8,0,none⟩) N c8):=(hba.cell (p:=⟨w6.heap.size,0,none⟩) (z7 hd0)).trans hd0
  refine hK _ _ (.inr bda) ?_
  clear hK K
  have hba':Below W.heap.size W wa:=(nI _ W).drew.trans hba
  have t2:=qY (some ⟨R8,0,none⟩) N c8 lr wa (hrr.below hba') hltr hrl
  rw [hrv] at t2
  refine zAx (i:=6) kF rfl (fun K hK=> ?_)
  go_simp
  refine CallsIn.mono (callsIn_wide.2 t2) ?_
  rintro e wb ⟨Ab,nb,cb,lb,rfl,hib,hrb2,hbb⟩
  have bdb:wb.cell? ⟨w6.heap.size,0,none⟩=some (.slice (some ⟨R8,0,none⟩) N c8):=(hbb.cell (p:=⟨w6.heap.size,0,none⟩) (z7 bda)).trans bda
  refine hK _ _ (.inr bdb) ?_
  clear hK K
  have hnb:nb<=n2+1:=by rw [<-hrb2.len];exact hib.len hrb
  have t3:=zPc Ab nb cb lb up wb hrb2 hib.lt hup oM
  rw [hib.val,Nat.mul_div_cancel _ (nP _)] at t3
  refine zAx (i:=8) kF rfl (fun K hK=> ?_)
  go_simp
  refine CallsIn.mono (callsIn_wide.2 t3) ?_
  rintro e wc ⟨Ac,nc,cc,lc,rfl,hic,hrc,hbc⟩
  have bdc:wc.cell? ⟨w6.heap.size,0,none⟩=some (.slice (some ⟨R8,0,none⟩) N c8):=(hbc.cell (p:=⟨w6.heap.size,0,none⟩) (z7 bdb)).trans bdb
  refine hK _ _ (.inr bdc) ?_
  clear hK K
  have hbwc:Below W.heap.size W wc:=hba'.trans ((hbb.trans (hbc.mono hbb.size)).mono hba'.size)
  have hqc:Boxed wc w.heap.size 23 (.slice (some ⟨W9.heap.size,0,none⟩) m m):=(hbwc.block _ hq.lt).trans hq
  have fqc:=hqc.frozen;have cqc:=hqc.cell
  refine zAx (i:=9) kF rfl (fun K hK=> ?_)
  go_simp
  have bdd:(wc.setCell ⟨w.heap.size,0,none⟩ (.slice Aa na ca)).cell? ⟨w6.heap.size,0,none⟩=some (.slice (some ⟨R8,0,none⟩) N c8):=(World.cell?_setCell_other _ _ _ _ (by intro e;injection e with e1 e2;omega)).trans bdc
  refine hK _ _ (.inr bdd) ?_
  clear hK K
  refine zAx (i:=10) kF rfl (fun K hK=> ?_)
  go_simp
  refine hK _ _ (.inr bdd) ?_
  clear hK K
  refine zAx (i:=11) kF rfl (fun K hK=> ?_)
  go_simp
  refine hK _ _ (.inr bdd) ?_
  clear hK K
  refine zCj kF ?_
  go_wp2
  have hqd:Boxed (wc.setCell ⟨w.heap.size,0,none⟩ (.slice Aa na ca)) w.heap.size 23 (.slice Aa na ca):=hqc.set _
  have hM:Marks (w.heap.size) (wc.setCell ⟨w.heap.size,0,none⟩ (.slice Aa na ca)) [mark D'] [D']:=(((Marks.nil w.heap.size W).more (D:=D') (by simp) oM hd).made hbwc).others (KeepsOthers.setCell _ _ _)
  have hbF:Below w.heap.size w (wc.setCell ⟨w.heap.size,0,none⟩ (.slice Aa na ca)):=(hB.trans (hbwc.mono hB.size)).setCell (p:=⟨w.heap.size,0,none⟩) (nH _) _
  have hrF:Rd (wc.setCell ⟨w.heap.size,0,none⟩ (.slice Aa na ca)) Aa na ca la:=(hra.below (hbb.trans (hbc.mono hbb.size))).setBox hqc (fun _=>by simp) _
  have hrG:Rd (wc.setCell ⟨w.heap.size,0,none⟩ (.slice Aa na ca)) Ac nc cc lc:=hrc.setBox hqc (fun _=>by simp) _
  refine qJ _ (v:= .tuple #[.slice Aa na ca, .slice Ac nc cc, .int .i64 0]) (fun w' ho'=> ?_) [D'] _ _ hM (Oth.refl _ _) ?_
  ·have hc4:=(Boxed.oth hqd ho').cell
   simp [results,go_sem,hc4]
  ·intro w' ho
   exact ⟨Aa,na,ca,la,Ac,nc,cc,lc,rfl,hia,hrF.oth ho,hic,hrG.oth ho,zAl hbF ho (nH _)⟩
theorem zJz (a b:Nat) (h0:0<b):zVi a b:=by
 rcases nQ b BB with h1|h1
 ·exact zKx a b h0 h1
 ·intro A n c l A' n' c' l' w h ht h' ht' ha hb hn hn'
  subst ha
  subst hb
  by_cases hlt:val l<val l'
  ·exact zHs A n c l A' n' c' l' w h ht h' ht' hn hn' hlt
  ·exact zL6 A n c l A' n' c' l' w h ht h' ht' hn hn' oM h1
end Go.Proofs.Wd

namespace Go.Proofs.Wd
open Tryz
set_option maxRecDepth 100000
set_option maxHeartbeats 2000000
open Go.RowKit Lb
theorem zIb (x:Nat) (hx:x<4294967296):bits .and .u32 (x:Int) 1=((x % 2:Nat):Int):=by
 have h1:(BitVec.ofInt 32 (x:Int)).toNat=x:=by
  rw [BitVec.ofInt_natCast,BitVec.toNat_ofNat];exact Nat.mod_eq_of_lt oM
 show IntKind.u32.wrap ((BitVec.ofInt 32 (x:Int)&&& BitVec.ofInt 32 1).toNat:Int)=_
 rw [BitVec.toNat_and,h1,show (BitVec.ofInt 32 1).toNat=1 from rfl,Nat.and_one_is_mod,IntKind.wrap_u32]
 omega
theorem zNZ (A:Option Addr) (n c:Nat) (l:List Nat) (x:Nat) (w:W6) (h:Rd w A n c l) (hi:Is l x) (hn:n<=100000):
  Calls prog 89 #[.slice A n c, .int .i64 1] w (jH w (2*x)):=by
 have:=zIh A n c l 0 1 w h hi.lt oM oM hn
 rw [hi.val,show x*2^(32*0+1)=2*x from nT x 2] at this
 exact this
def zPm (w:W6) (Q n a b:Nat) (vr vi:Value) (W:W6):Prop:=
 ∃(i:Nat) (lo:List Nat) (A:Option Addr) (nr c:Nat) (l:List Nat) (r:Nat),vi= .int .i64 ((i:Int) - 1)/\i<=32*n/\vr= .slice A nr c/\Is l r/\Rd W A nr c l/\Arr W Q lo/\lo.length=n/\Lt lo/\DivAt a b i (val lo) r/\Below w.heap.size w W
theorem zLG {W W':W6} {Q:Nat} {lo:List Nat} {A:Option Addr} {n c:Nat} {l:List Nat} (h:Rd W' A n c l) (_hb:Below W.heap.size W W') (_ha:Arr W' Q lo) (i:Nat) (v:Value) (hf: ∀b o,A=some ⟨b,o,none⟩->0<n->b≠Q):Rd (W'.setCell ⟨Q,i,none⟩ v) A n c l:=
 ⟨h.len,h.le,h.cap,h.nil,fun k hk=>by
  obtain ⟨b,o,e,hc⟩:=h.cells k hk
  exact ⟨b,o,e,(nZ (nY W' ⟨Q,i,none⟩ v b (hf b o e oM))).trans hc⟩⟩
theorem zQB {lo:List Nat} {i:Nat} (ht:Lt lo) (hlen:i / 32<lo.length) (hz:val lo % 2^(i+1)=0):
  ∃o z:Nat,lm lo (i / 32)=o/\o<4294967296/\bits .or .u32 (o:Int) ((2^(i % 32):Nat):Int)=(z:Int)/\z<4294967296/\val (lo.set (i / 32) z)=val lo+2^i:=by
 have hb:=qM ht (i / 32)
 have hl:=zOQ ht i hz
 have ht32:i % 32<32:=Nat.mod_lt _ oM
 unfold BB at hb
 obtain ⟨o,ho⟩: ∃o,lm lo (i / 32)=o:=⟨_,rfl⟩
 obtain ⟨t,htt⟩: ∃t,i % 32=t:=⟨_,rfl⟩
 rw [ho] at hb hl
 rw [htt] at hl ht32
 obtain ⟨g,hg⟩:=Nat.dvd_of_mod_eq_zero hl
 have hpos:0<2^t:=Nat.pow_pos oM
 have e32:2^(t+1)*2^(31 - t)=4294967296:=by
  rw [<-Nat.pow_add,show t+1+(31 - t)=32 from by omega]
 have hor:o|||2^t=o+2^t:=by
  rw [hg,Nat.two_pow_add_eq_or_of_lt (i:=t+1) (b:=2^t) (by rw [nJ];omega)]
 have hgl:g<2^(31 - t):=by
  rw [hg, <-e32] at hb
  exact pB hb
 have hlt:o+2^t<4294967296:=by
  have h1:2^(t+1)*(g+1)<=2^(t+1)*2^(31 - t):=nW _ hgl
  rw [e32,Nat.mul_add, <-hg,nJ] at h1
  omega
 have htl:2^t<4294967296:=by omega
 refine ⟨o,o+2^t,ho,hb, ?_,hlt, ?_⟩
 ·rw [htt,u32_or_nat _ _ oM oM,hor]
 ·have hs:=zQk (l:=lo) (j:=i / 32) (v:=o+2^t) hlen
  rw [ho,Nat.add_mul] at hs
  have e:=zE8 i
  rw [htt,nT] at e
  rw [e]
  omega
theorem zB9 {w:W6} {A:Option Addr} {n c:Nat} {l:List Nat} {x k:Nat} (hi:Is l x) (hr:Rd w A n c l) (hx:x<BB^k):n<=k:=by
 rw [<-hr.len];exact hi.len hx
theorem zN9 (A:Option Addr) (n c:Nat) (l:List Nat) (A':Option Addr) (n' c':Nat) (l':List Nat) (w:W6) (h:Rd w A n c l) (h':Rd w A' n' c' l') (ht:Lt l) (ht':Lt l') (hn:n<=10000) (hn':n'<=10000) (h0:0<val l'):
  Calls prog 58 #[.slice A n c, .slice A' n' c'] w (zH2 w (val l) (val l')):=by
 have hle:=h.le;have hcap:=h.cap;have hle':=h'.le;have hcap':=h'.cap
 have HN:=hid h.len;have HN':=hid h'.len
 have v1:=qT ht;have v2:=qT ht'
 rw [h.len] at v1;rw [h'.len] at v2
 have hmk: ∀wx:W6,(Instr.makeSlice 23 (.int .i64 (n:Int)) (.int .i64 (n:Int))).run prog wx= .ok (.slice (some ⟨wx.heap.size,0,none⟩) n n) (wx.alloc (.cells (madeCells #[.int .u32 0] n) 73)):=fun wx=>zA7 n oM wx
 obtain ⟨a,ha⟩: ∃a,val l=a:=⟨_,rfl⟩
 obtain ⟨b,hb⟩: ∃b,val l'=b:=⟨_,rfl⟩
 have htr:=fun (W:W6) (hB:Below w.heap.size w W)=>jL A' n' c' l' W (h'.below hB) ht' oM
 rw [ha] at v1 ⊢
 rw [hb] at v2 h0 ⊢
 simp only [hb] at htr
 have HA:=hid ha;have HB:=hid hb
 clear ha hb
 go_enter func58,ntmps58
 go_wp2_with fail
 refine (htr _ (nI _ _)).mono ?_
 rintro e w1 ⟨A1,n1,c1,l1,rfl,hi1,hr1,hb1⟩
 have hn1:0<n1:=by rw [<-hr1.len];exact hi1.pos_iff.1 h0
 have hn1b:n1<=n':=zB9 hi1 hr1 v2
 go_wp2_with fail
 have bM:Below w.heap.size w (w1.alloc (.cells (madeCells #[.int .u32 0] n) 73)):=hb1.alloc hb1.size _
 have aM:=Arr.new w1 n
 refine (htr _ bM).mono ?_
 rintro e w2 ⟨A2,n2,c2,l2,rfl,hi2,hr2,hb2⟩
 obtain rfl:n2=n1:=by rw [<-hr2.len, <-hr1.len,hi2.inj hi1]
 have hge1:BB^(n2 - 1)<=b:=by
  have:=zGS hi2.tr (by intro e;rw [e] at hi2;have:=hi2.val;simp at this;omega)
  rwa [hr2.len,hi2.val] at this
 obtain ⟨m0,hm0⟩: ∃m0:Nat,max (0:Int) ((n:Int) - (n2:Int)+1)=(m0:Int):=⟨(max (0:Int) ((n:Int) - (n2:Int)+1)).toNat,by omega⟩
 have hm1:m0<=n:=by omega
 have hm2:n - m0<=n2 - 1:=by omega
 have hB2:=bM.trans (hb2.mono bM.size)
 have aM2:Arr w2 w1.heap.size (List.replicate n 0):=aM.kept (hb2.block _ aM.lt)
 have hsl:=fun wx=>zFx A n c m0 hm1 wx
 have hrd:=(h.below hB2).drop hm1
 have hv0:val (l.drop m0)=a / BB^m0:=by
  have e1:=jY l m0 (by have:=HN.out;omega)
  have e2:=qT (zBF ht m0)
  rw [List.length_take,Nat.min_eq_left (by have:=HN.out;omega)] at e2
  rw [<-HA.out,e1,Nat.add_mul_div_left _ _ (zB1 m0),Nat.div_eq_of_lt e2,Nat.zero_add]
 have hvb:a / BB^m0<b:=by
  rw [<-hv0]
  have e1:=qT (zGN ht m0)
  rw [List.length_drop,HN.out] at e1
  exact nL e1 (nM (nR y4 hm2) hge1)
 obtain ⟨Ad,hAd⟩: ∃Ad,(if c=m0 then A else A.map (·.add m0))=Ad:=⟨_,rfl⟩
 rw [hAd] at hrd
 simp only [hAd] at hsl
 have HV0:=hid hv0
 clear hAd hv0 hge1
 have hld:([]:List Nat).length+(l.drop m0).length<=17592186044416:=by have:=HN.out;simp;omega
 have hl1:([]++l.drop m0).length=n - m0:=by have:=HN.out;simp;omega
 have hown:yG (w2.alloc (.cells #[] 73)) w2.heap.size 73 (.slice (some ⟨w2.heap.size,0,none⟩) 0 0) []:=World.ownsRow_made (base:=w2.heap.size) (e:=73) (size:=1) w2 #[] 0 (nH _) (by unfold maxLen;omega) rfl
 have hrd1:=hrd.alloc (.cells #[] 73)
 go_wp2_with (at_builtin;refine zX rfl _ _ 23 73 rfl yJ yZ w2.heap.size _ [] rfl hown _ (n - m0) (c - m0) (l.drop m0) rfl hrd1 hld (by simp) ?_;intro v3 w3 hown3 hg3 hat3;obtain ⟨A3,c3,rfl⟩:=hown3.form' hl1)
 rw [List.nil_append] at hown3
 have hb3:=yG.grown ((nI w2.heap.size w2).alloc (nH _) _) hown hg3 (nH _) (by simp)
 have hB3:=hB2.trans (hb3.mono hB2.size)
 have htr3:=jL A3 (n - m0) c3 (l.drop m0) w3 hown3.rd (zGN ht m0) oM
 rw [HV0.out] at htr3
 refine htr3.mono ?_
 rintro e w4 ⟨A4,n4,c4,l4,rfl,hi4,hr4,hb4⟩
 have hB4:=hB3.trans (hb4.mono hB3.size)
 have d24:=hb3.trans (hb4.mono hb3.size)
 have a4:Arr w4 w1.heap.size (List.replicate n 0):=aM2.kept (d24.block _ aM2.lt)
 have hD0:DivAt a b (32*m0) (val (List.replicate n 0)) (a / BB^m0):=by
  rw [zAp,zEp]
  exact DivAt.start (by rw [<-zEp];exact hvb)
 have HD0:=hid hD0
 have hQ:w.heap.size<=w1.heap.size:=hb1.size
 clear hD0 hmk hsl hown hown3 hg3 hat3 hrd hrd1 htr3 hb3 hb4 hB2 hB3 d24 aM aM2 bM hb1 hb2 hr1 hr2 hi1 hi2 hld hl1 hm2 hvb
 generalize w1.heap.size=Q at*
 go_wp2
 go_loopw [9,10] (zPm w Q n a b) (fun _ i _=>(intOf i+1).toNat)
 case atStart=>exact ⟨32*m0,List.replicate n 0,A4,n4,c4,l4,_,by go_num,by omega,rfl,hi4,hr4,a4,by simp,jX _,HD0.out,hB4⟩
 case round=>
  clear hi4 hr4 a4 hB4 HD0
  obtain ⟨i,lo,Ar,nr,cr,lr,r,rfl,hin,rfl,hir,hrr,haQ,hlo,hlt,hDv,hB⟩:=hrel
  have HDV:=hid hDv;have HLO:=hid hlo
  clear hDv hlo
  rcases Nat.eq_zero_or_pos i with rfl|hi0
  ·have hfin:=HDV.out.done
   have HF:=hid hfin
   clear hfin
   have t1:=jL (some ⟨Q,0,none⟩) n n lo wr (haQ.rd HLO.out oM) hlt oM
   rw [HF.out.1] at t1
   have nrl:nr<=n':=zB9 hir hrr (Nat.lt_trans HDV.out.less v2)
   have t2:=fun (W:W6) (hb:Below wr.heap.size wr W)=>jL Ar nr cr lr W (hrr.below hb) hir.lt oM
   rw [hir.val,HF.out.2] at t2
   go_wp2_with fail
   refine t1.mono ?_
   rintro e w5 ⟨A5,n5,c5,l5,rfl,hi5,hr5,hb5⟩
   go_wp2_with fail
   refine (t2 _ hb5).mono ?_
   rintro e w6 ⟨A6,n6,c6,l6,rfl,hi6,hr6,hb6⟩
   go_wp2_with fail
   go_ret3
   have t3:=hB.trans (hb5.mono hB.size)
   exact ⟨A5,n5,c5,l5,A6,n6,c6,l6,rfl,hi5,hr5.below hb6,hi6,hr6,t3.trans (hb6.mono t3.size)⟩
  ·obtain ⟨j,rfl⟩: ∃j,i=j+1:=⟨i - 1,by omega⟩
   have ej:((j+1:Nat):Int) - 1=(j:Int):=by omega
   rw [ej]
   have hjn:j / 32<n:=by omega
   have hbv:=zRN ht j
   rw [HA.out] at hbv
   have hnx:=HDV.out.next
   have hsb:=zQB (i:=j) hlt (by have:=HLO.out;omega) HDV.out.low
   have hlow:=HDV.out.low
   have hless:=HDV.out.less
   have hr':=h.below hB
   obtain ⟨bb,oo,rfl,hcb⟩:=hr'.cells (j / 32) hjn
   have x1:=qM ht (j / 32)
   simp only [BB] at x1
   obtain ⟨x,hx⟩: ∃x,lm l (j / 32)=x:=⟨_,rfl⟩
   rw [hx] at x1 hcb hbv
   obtain ⟨t,hte⟩: ∃t,j % 32=t:=⟨_,rfl⟩
   have ht32:t<32:=by omega
   obtain ⟨cb,hcbe⟩: ∃cb,a / 2^j % 2=cb:=⟨_,rfl⟩
   have hcb2:cb<2:=by omega
   rw [hte,hcbe] at hbv
   rw [hcbe] at hnx
   rw [hte] at hsb
   obtain ⟨o,z,ho,ho2,hoz,hz2,hvz⟩:=hsb
   have j1:(j:Int).tdiv 32=((j / 32:Nat):Int):=by rw [Int.tdiv_eq_ediv_of_nonneg oM];omega
   have j2:(j:Int) / 32=((j / 32:Nat):Int):=by omega
   have j3:(j:Int).tmod 32=(t:Int):=by rw [Int.tmod_eq_emod_of_nonneg oM];omega
   have j4:(j:Int) % 32=(t:Int):=by omega
   obtain ⟨jq,hjq⟩: ∃jq,j / 32=jq:=⟨_,rfl⟩
   rw [hjq] at j1 j2 hjn hcb ho hvz
   have gq:wr.cell? ⟨Q,jq,none⟩=some (.int .u32 (o:Int)):=by have:=haQ.cell (i:=jq) (by have:=HLO.out;omega);rwa [ho] at this
   have gf:=haQ.frozen jq
   obtain ⟨y,hy⟩: ∃y,x / 2^t=y:=⟨_,rfl⟩
   have hshr:(x:Int) / 2^t=(y:Int):=by
    rw [<-hy,Int.natCast_ediv,pE]
    rfl
   have hyl:y<4294967296:=by rw [<-hy];exact nS (Nat.div_le_self _ _) x1
   rw [hy] at hbv
   have hand:=zIb y hyl
   rw [hbv] at hand
   obtain ⟨pt,hpt⟩: ∃pt,2^t=pt:=⟨_,rfl⟩
   rw [hpt] at hoz
   have hptl:pt<4294967296:=by rw [<-hpt];exact nS (nR oM (show t<=31 by omega)) (by decide)
   have hshl:(2:Int)^t % 4294967296=(pt:Int):=by
    rw [<-hpt,pE]
    have:((2^t:Nat):Int)<4294967296:=by rw [hpt];omega
    rw [pE] at this
    exact Int.emod_eq_of_lt (Int.pow_nonneg oM) this
   have nrl:nr<=n':=zB9 hir hrr (Nat.lt_trans hless v2)
   have HNX:=hid hnx;have HVZ:=hid hvz;have HLOW:=hid hlow
   have hup:=zNZ Ar nr cr lr r wr hrr hir oM
   clear hx hte hcbe ho hjq hy hpt hnx hvz hlow hbv ej HDV
   have hcs:(cb=0∨cb=1):=by omega
   have hfin: ∀(W:W6) (i':Int) (lo':List Nat) (q' r':Nat) (A7:Option Addr) (n7 c7:Nat) (l7:List Nat),i'=(j:Int) - 1->lo'.length=n->Lt lo'->val lo'=q'->DivAt a b j q' r'->Is l7 r'->Rd W A7 n7 c7 l7->Arr W Q lo'->Below w.heap.size w W->zPm w Q n a b (.slice A7 n7 c7) (.int .i64 i') W:=by
    rintro W i' lo' q' r' A7 n7 c7 l7 rfl g1 g2 rfl g4 g5 g6 g7 g8
    exact ⟨j,lo',A7,n7,c7,l7,r',rfl,by omega,rfl,g5,g6,g7,g1,g2,g4,g8⟩
   have HFIN:=hid hfin
   clear hfin
   rcases hcs with rfl|rfl
   ·obtain ⟨k1,k2⟩:=HNX.out
    have K1:=hid k1;have K2:=hid k2
    clear k1 k2 HNX
    have hbq:((0:Nat):Int)=0:=rfl
    rw [hbq] at hand
    clear hbq
    have hup2:2*r<BB^(n'+1):=by rw [nJ];unfold BB at*;omega
    rcases nQ (2*r+0) b with hlt2|hge2
    ·have D1:=hid (K1.out hlt2)
     go_wp2_with fail
     refine hup.mono ?_
     rintro e w5 ⟨A5,n5,c5,l5,rfl,hi5,hr5,hb5⟩
     have n5l:n5<=n'+1:=zB9 hi5 hr5 hup2
     have hcb5:w5.cell? ⟨bb,oo+jq,none⟩=some (.int .u32 (x:Int)):=(hb5.cell (p:=⟨bb,oo+jq,none⟩) (z7 hcb)).trans hcb
     have aQ5:Arr w5 Q lo:=haQ.kept (hb5.block _ haQ.lt)
     have B5:=hB.trans (hb5.mono hB.size)
     have hsu:=zE0 A5 n5 c5 l5 A' n' c' l' w5 hr5 (h'.below B5) hi5.lt ht' (by rw [hi5.val,HB.out];omega)
     go_wp2_with fail
     refine hsu.mono ?_
     rintro e w7 ⟨rfl,rfl⟩
     go_wp2_with fail
     go_roundw
     case rel=>exact HFIN.out _ _ lo _ _ _ _ _ _ (by go_num) HLO.out hlt rfl D1.out hi5 hr5 aQ5 B5
     case measure=>simp [intOf]
    ·have D2:=hid (K2.out hge2)
     go_wp2_with fail
     refine hup.mono ?_
     rintro e w5 ⟨A5,n5,c5,l5,rfl,hi5,hr5,hb5⟩
     have n5l:n5<=n'+1:=zB9 hi5 hr5 hup2
     have hcb5:w5.cell? ⟨bb,oo+jq,none⟩=some (.int .u32 (x:Int)):=(hb5.cell (p:=⟨bb,oo+jq,none⟩) (z7 hcb)).trans hcb
     have aQ5:Arr w5 Q lo:=haQ.kept (hb5.block _ haQ.lt)
     have B5:=hB.trans (hb5.mono hB.size)
     have hsu:=zJj A5 n5 c5 l5 A' n' c' l' w5 hr5 (h'.below B5) hi5.lt ht' (by rw [hi5.val,HB.out];omega) oM
     rw [hi5.val,HB.out] at hsu
     go_wp2_with fail
     refine hsu.mono ?_
     rintro e w7 ⟨A7,n7,c7,l7,rfl,hi7,ho7,hb7⟩
     have hr7:=ho7.rd;have hf7:=zHz ho7
     clear ho7
     have aQ7:Arr w7 Q lo:=aQ5.kept (hb7.block _ aQ5.lt)
     have B7:=B5.trans (hb7.mono B5.size)
     have gq7:w7.cell? ⟨Q,jq,none⟩=some (.int .u32 (o:Int)):=(nZ (show w7.heap[Q]?=wr.heap[Q]? from (show w7.heap[Q]?=_ from aQ7).trans (show wr.heap[Q]?=_ from haQ).symm)).trans gq
     have gf7:=aQ7.frozen jq
     have HEND:Hid (zPm w Q n a b (.slice A7 n7 c7) (.int .i64 ((j:Int) - 1)) (w7.setCell ⟨Q,jq,none⟩ (.int .u32 (z:Int)))):=hid (HFIN.out _ _ (lo.set jq z) _ _ _ _ _ _ rfl (by rw [pD];exact HLO.out) (zCK hlt hz2) HVZ.out D2.out hi7 (zLG hr7 hb7 aQ7 jq _ (fun b o e _=>by have:=hf7 b o e;have:=aQ5.lt;omega)) (aQ7.set jq z) (B7.setCell (p:=⟨Q,jq,none⟩) hQ _))
     go_wp2_with fail
     exact ⟨HEND.out,by simp [intOf]⟩
   ·obtain ⟨k1,k2⟩:=HNX.out
    have K1:=hid k1;have K2:=hid k2
    clear k1 k2 HNX
    have hbq:((1:Nat):Int)=1:=rfl
    rw [hbq] at hand
    clear hbq
    have hup2:2*r<BB^(n'+1):=by rw [nJ];unfold BB at*;omega
    rcases nQ (2*r+1) b with hlt2|hge2
    ·have D1:=hid (K1.out hlt2)
     go_wp2_with fail
     refine hup.mono ?_
     rintro e w5 ⟨A5,n5,c5,l5,rfl,hi5,hr5,hb5⟩
     have n5l:n5<=n'+1:=zB9 hi5 hr5 hup2
     have hcb5:w5.cell? ⟨bb,oo+jq,none⟩=some (.int .u32 (x:Int)):=(hb5.cell (p:=⟨bb,oo+jq,none⟩) (z7 hcb)).trans hcb
     have aQ5:Arr w5 Q lo:=haQ.kept (hb5.block _ haQ.lt)
     have B5:=hB.trans (hb5.mono hB.size)
     have r1:=Rd.one w5 1 73
     have ds:=Rds.two (hr5.alloc (.cells #[.int .u32 1] 73)) hi5.lt oM r1 (fun y hy=>by simp at hy;subst hy;decide) (by decide) 23
     have bS:Below w5.heap.size w5 ((w5.alloc (.cells #[.int .u32 1] 73)).alloc (.cells #[.slice A5 n5 c5, .slice (some ⟨w5.heap.size,0,none⟩) 1 1] 23)):=((nI _ w5).alloc (nH _) _).alloc (by simp) _
     have had:=zED _ 2 2 _ _ ds (by decide)
     simp only [List.map_cons,List.map_nil,List.sum_cons,List.sum_nil,hi5.val,show val [1]=1 from rfl,nV,pC] at had
     go_wp2_with fail
     refine had.mono ?_
     rintro e w6 ⟨A6,n6,c6,l6,rfl,hi6,hr6,hb6⟩
     have b56:=bS.trans (hb6.mono bS.size)
     have n6l:n6<=n'+2:=zB9 hi6 hr6 (by rw [nJ];unfold BB at*;omega)
     have aQ6:Arr w6 Q lo:=aQ5.kept (b56.block _ aQ5.lt)
     have B6:=B5.trans (b56.mono B5.size)
     have hsu:=zE0 A6 n6 c6 l6 A' n' c' l' w6 hr6 (h'.below B6) hi6.lt ht' (by rw [hi6.val,HB.out];omega)
     go_wp2_with fail
     refine hsu.mono ?_
     rintro e w7 ⟨rfl,rfl⟩
     go_wp2_with fail
     go_roundw
     case rel=>exact HFIN.out _ _ lo _ _ _ _ _ _ (by go_num) HLO.out hlt rfl D1.out hi6 hr6 aQ6 B6
     case measure=>simp [intOf]
    ·have D2:=hid (K2.out hge2)
     go_wp2_with fail
     refine hup.mono ?_
     rintro e w5 ⟨A5,n5,c5,l5,rfl,hi5,hr5,hb5⟩
     have n5l:n5<=n'+1:=zB9 hi5 hr5 hup2
     have hcb5:w5.cell? ⟨bb,oo+jq,none⟩=some (.int .u32 (x:Int)):=(hb5.cell (p:=⟨bb,oo+jq,none⟩) (z7 hcb)).trans hcb
     have aQ5:Arr w5 Q lo:=haQ.kept (hb5.block _ haQ.lt)
     have B5:=hB.trans (hb5.mono hB.size)
     have r1:=Rd.one w5 1 73
     have ds:=Rds.two (hr5.alloc (.cells #[.int .u32 1] 73)) hi5.lt oM r1 (fun y hy=>by simp at hy;subst hy;decide) (by decide) 23
     have bS:Below w5.heap.size w5 ((w5.alloc (.cells #[.int .u32 1] 73)).alloc (.cells #[.slice A5 n5 c5, .slice (some ⟨w5.heap.size,0,none⟩) 1 1] 23)):=((nI _ w5).alloc (nH _) _).alloc (by simp) _
     have had:=zED _ 2 2 _ _ ds (by decide)
     simp only [List.map_cons,List.map_nil,List.sum_cons,List.sum_nil,hi5.val,show val [1]=1 from rfl,nV,pC] at had
     go_wp2_with fail
     refine had.mono ?_
     rintro e w6 ⟨A6,n6,c6,l6,rfl,hi6,hr6,hb6⟩
     have b56:=bS.trans (hb6.mono bS.size)
     have n6l:n6<=n'+2:=zB9 hi6 hr6 (by rw [nJ];unfold BB at*;omega)
     have aQ6:Arr w6 Q lo:=aQ5.kept (b56.block _ aQ5.lt)
     have B6:=B5.trans (b56.mono B5.size)
     have hsu:=zJj A6 n6 c6 l6 A' n' c' l' w6 hr6 (h'.below B6) hi6.lt ht' (by rw [hi6.val,HB.out];omega) oM
     rw [hi6.val,HB.out] at hsu
     go_wp2_with fail
     refine hsu.mono ?_
     rintro e w7 ⟨A7,n7,c7,l7,rfl,hi7,ho7,hb7⟩
     have hr7:=ho7.rd;have hf7:=zHz ho7
     clear ho7
     have aQ7:Arr w7 Q lo:=aQ6.kept (hb7.block _ aQ6.lt)
     have B7:=B6.trans (hb7.mono B6.size)
     have gq7:w7.cell? ⟨Q,jq,none⟩=some (.int .u32 (o:Int)):=(nZ (show w7.heap[Q]?=wr.heap[Q]? from (show w7.heap[Q]?=_ from aQ7).trans (show wr.heap[Q]?=_ from haQ).symm)).trans gq
     have gf7:=aQ7.frozen jq
     have HEND:Hid (zPm w Q n a b (.slice A7 n7 c7) (.int .i64 ((j:Int) - 1)) (w7.setCell ⟨Q,jq,none⟩ (.int .u32 (z:Int)))):=hid (HFIN.out _ _ (lo.set jq z) _ _ _ _ _ _ rfl (by rw [pD];exact HLO.out) (zCK hlt hz2) HVZ.out D2.out hi7 (zLG hr7 hb7 aQ7 jq _ (fun b o e _=>by have:=hf7 b o e;have:=aQ6.lt;omega)) (aQ7.set jq z) (B7.setCell (p:=⟨Q,jq,none⟩) hQ _))
     go_wp2_with fail
     exact ⟨HEND.out,by simp [intOf]⟩
attribute [local go_sem] Oper.semAt_some qF yI
end Go.Proofs.Wd
