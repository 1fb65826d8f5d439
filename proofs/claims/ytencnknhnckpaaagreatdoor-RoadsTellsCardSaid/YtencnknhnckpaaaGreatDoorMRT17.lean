/- append(x, make(.., k)...) onto a row of limbs of the call's own; appen and what it needs. -/
import Derived.Test.YtencnknhnckpaaaGreatDoorMRT16
import Derived.Lib.AppendZeros
abbrev pT:=@List.append_assoc
abbrev pU:=@List.append_nil
abbrev pV:=@Array.toList_append
abbrev pW:=@Array.length_toList
namespace Go.Proofs.Wd
open Tryz
variable {c i la n vA:Nat}{w:WB}{l lo:List Nat}{A:Option Addr}
set_option maxRecDepth 100000
open Go.RowKit Lb
theorem zKD(k:Nat):Builtin.zeroCells (Value.int .u32 0).cells k=(zBl (List.replicate k 0)).toArray:=by
 apply Array.ext'
 simp[Builtin.zeroCells,zBl,Value.cells,gO,nM]
theorem zD4(R n cap k:Nat)(l:List Nat)(w:WB)(h:Row w R cap l)(hl:l.length=n)(hn:0<n)(hk:0<k)(hsm:n+k<=100000)(ty:TypeId):
  ∃R' cap' w',(Builtin.append_ #[28,3] ty #[.slice (some ⟨R,0,none⟩) n cap,.int .i64 (k:Int)]).run prog w=.ok (.slice (some ⟨R',0,none⟩) (n+k) cap') w'/\
   Row w' R' cap' (l++List.replicate k 0)/\w.grownBy w' (some R)/\(R'=R∨R'=w.heap.size):=by
 obtain⟨i,hi,hz,hs,hb⟩:=cT yS
 obtain⟨cs,h1,h2,h3,h4,h5⟩:=h
 have hw:IntKind.i64.wrap (k:Int)=k:=by rw[pQ];omega
 have O: ¬((k:Int)<0):=oA
 have J: ¬(281474976710656<(k:Int)*(i.bytes:Int)):=by rw[hb];omega
 have I:prog.underlying 3=some (.int .i64):=underlying3
 have h6: ¬(k=0):=oA
 by_cases hroom:n+k<=cap
 .have h9:=run_storeCells_at prog R n 81 (zBl (List.replicate k 0)) 0 cs w h1 (by rw[zAA];simp;omega) (zIL _)
  simp only[uM]at h9
  refine⟨R,cap,w.setRow R (cs.toList.take n++zBl (List.replicate k 0)++cs.toList.drop (n+(zBl (List.replicate k 0)).length)).toArray,?_,⟨_,setRow_heap w R cs _ _ _ h1,?_,?_,h4,?_⟩,⟨rfl,rfl,rfl,eN,fun b _ hb=>setRow_other w R b _ (fun e=>hb (by rw[e]))⟩,.inl rfl⟩
  .simp[Builtin.append_,bI yB,bI I,sizeOf,typeInfo,zeroValue,hi,hz,hs,asInt,asIntOf,hw,h6,O,J,hroom,xH,zKD,h9]
  .simp only[bN,uD,uG,uS,pW,zAA,mZ]
   omega
  .simp;omega
  .rw[uD,mZ,zCW,hl]
   have e1:cs.toList.take n=zBl l:=by rw[<-hl];exact h5
   rw[e1]
   have e2:(zBl l++zBl (List.replicate k 0)).length=n+k:=by rw[uD,zAA,zAA,hl,mZ]
   rw[<-e2]
   exact List.take_left
 .have h8:=run_firstCells_some (P:=prog) w.drew i.size n ⟨R,0,none⟩ n cap (zBl l) (by rw[zAA,hs,hl];omega) (fun j v hj=>by
   have hc:j<l.length:=by have:=(cD.1 hj).1;rwa [zAA]at this
   rw[zCA l j hc]at hj
   injection hj with hj
   subst hj
   rw[xH,uK]
   exact Row.cell (W:=w) ⟨cs,h1,h2,h3,h4,h5⟩ hc)
  have hd: ¬(9223372036854775807<((n:Int)+(k:Int))):=oA
  have hfit:=growslice_fits (old:=cap) (need:=n+k) (bytes:=i.bytes) oA (by rw[hb];omega)
  have ha: ¬(281474976710656<Builtin.nextslicecap (n+k) cap*i.bytes):=oA
  have hge:=grownCap_ge w (n+k) cap 81
  have hg:grownCap w (n+k) cap 81<=maxLen:=grownCap_le_maxLen w (n+k) cap 81 (by unfold maxLen;omega)
  refine⟨w.heap.size,grownCap w (n+k) cap 81,w.drew.alloc (.cells ((zBl l).toArray++(zBl (List.replicate k 0)).toArray++Builtin.zeroCells (Value.int .u32 0).cells (grownCap w (n+k) cap 81-(n+k))) 81),?_,⟨_,xM w.drew _,?_,?_,by unfold maxLen at hg;omega,?_⟩,⟨rfl,rfl,rfl,eN,fun b hb _=>heap_alloc_old w.drew _ (by exact hb)⟩,.inr rfl⟩
  .simp[Builtin.append_,bI yB,bI I,sizeOf,typeInfo,zeroValue,hi,hz,hs,asInt,asIntOf,hw,h6,O,J,hroom,hd,ha,Question.forced,newRow,grownCap,zKD]
   rw[hs]at h8
   simp[h8]
  .simp only[Array.size_append,bN,size_zeroCells,zAA,mZ,hl]
   have:(Value.int IntKind.u32 0).cells.size=1:=rfl
   rw[this]
   omega
  .simp;omega
  .simp only[pV,pT]
   rw[<-pT,zCW]
   have e2:(zBl l++zBl (List.replicate k 0)).length=(l++List.replicate k 0).length:=by rw[uD,zAA,zAA,uD]
   rw[<-e2]
   exact List.take_left
theorem zDz(R n cap k:Nat)(l:List Nat)(w:WB)(h:Row w R cap l)(hl:l.length=n)(hn:0<n)(O:n+k<=100000)(ty:TypeId):
  ∃R' cap' w',(Builtin.append_ #[28,3] ty #[.slice (some ⟨R,0,none⟩) n cap,.int .i64 (k:Int)]).run prog w=.ok (.slice (some ⟨R',0,none⟩) (n+k) cap') w'/\
   Row w' R' cap' (l++List.replicate k 0)/\w.grownBy w' (some R)/\(R'=R∨R'=w.heap.size):=by
 rcases uJ k with rfl|hk
 .have hc:=h.cap
  obtain⟨i,hi,hz,hs,hb⟩:=cT yS
  have J:prog.underlying 3=some (.int .i64):=underlying3
  have I:n<=cap:=oA
  have hw:IntKind.i64.wrap 0=0:=rfl
  refine⟨R,cap,w,?_,by rw[List.replicate_zero,pU];exact h,⟨rfl,rfl,rfl,vR _,fun _ _ _=>rfl⟩,.inl rfl⟩
  simp[Builtin.append_,bI yB,bI J,sizeOf,typeInfo,hi,asInt,asIntOf,hw,I,storeCells]
 .exact zD4 R n cap k l w h hl hn hk O ty
section
variable {F:Fence}{n:Nat}{P:Program}{md:Region.Mode}{ops:Array Oper}{Q:Exit->Act->WB->Prop}{C:WB->Prop}{z:Nat}
theorem zIl{o:Oper}{fuel:Nat}{listed:Array Bool}{a:Act}(hr:Region.ready md ops listed=[i])(ho:ops[i]?=some o)(h0:o.guard=none)(s x:Operand)(t tn:TypeId)
  (hop:o.op=.call { callee:=.builtin .append,args:=#[s,x],argTypes:=#[t,tn] })(vs vx:Value)(hs:a.eval s=vs)(hx:a.eval x=vx)(v':Value)(w':WB)
  (I:(Builtin.append_ #[t,tn] o.type #[vs,vx]).run P w=.ok v' w')(hc:C w')(h:jP F n P md ops z C Q fuel (listed.setIfInBounds i true) (a.put o.dst v') w'):jP F n P md ops z C Q (fuel+1) listed a w:=by
 refine zAq hr ho fun K hK=>?_
 have J:Region.wanted o (yielded ops a.tmps)=true:=by simp[Region.wanted,h0]
 rw[if_pos J]
 unfold Oper.wpIn
 refine⟨?_,?_⟩
 .simp[Oper.about,hop,resolve,Target.leads,cJ]
 .rw[Oper.semAt_plain F _ _ (by rw[hop];intro c O;cases O)]
  simp[execOp,hop,resolve,invoke,builtin,hs,hx,I,Result.andThen]
  exact hK _ _ (.inr hc) h
end
set_option maxHeartbeats 2000000
attribute [local go_sem] Oper.semAt_some qD yA
theorem zKR{v:Nat}(J:Is l v)(hl:l.length=n)(h:BB<=v):1<n:=by
 rcases xZ 1 n with e|e
 .exact e
 .exfalso
  have I:=J.lt_pow
  rw[hl]at I
  have O:=vW I (vZ qA e)
  rw[mV]at O
  omega
theorem zKl{a b:List Nat}{lb:Nat}{up:Nat}(h3:up<=31){vA O:Nat}(ha:Is a vA)(hb:Is b O)(h5:a.length=la)(J:b.length=lb)(h2:0<lb)(h:lm b (lb-1)*2^up<4294967296):
  vA*2^up<BB^(la+1)/\vA*2^up<BB^la*2^up/\O*2^up<BB^lb/\BB^(lb-1)*2^up<=O*2^up:=by
 have hA:vA<BB^la:=by rw[<-ha.val,<-h5];exact qO ha.lt
 have hp:0<2^up:=nV _
 have h1:vA*2^up<BB^la*2^up:=nW hA hp
 have I:2^up*2^(32-up)=4294967296:=by rw[<-uA,show up+(32-up)=32 from oA]
 have h4:2^up<=BB:=mI (mC (vZ oA h3) rY)
 refine⟨?_,h1,?_,?_⟩
 .rw[vY]
  exact vW h1 (uR _ h4)
 .obtain⟨k,rfl⟩:∃k,lb=k+1:=⟨lb-1,oA⟩
  rw[gG]at h
  have e1:O=sm (lm b) k+lm b k*BB^k:=by rw[<-hb.val];unfold val;rw[J];rfl
  have e2:sm (lm b) k<BB^k:=zH9 fun i _=>qK hb.lt i
  have e3:lm b k+1<=2^(32-up):=by
   have:lm b k<2^(32-up):=by
    rw[<-I,vT]at h
    exact pR h
   omega
  have e4:O<(lm b k+1)*BB^k:=by rw[vU,uY];omega
  have e5:(lm b k+1)*BB^k*2^up<=2^(32-up)*BB^k*2^up:=uE _ (uE _ e3)
  have e6:2^(32-up)*BB^k*2^up=BB^(k+1):=by
   rw[vT,<-vV,I,vY,vT]
   rfl
  rw[<-e6]
  exact vW (nW e4 hp) e5
 .refine uE _ ?_
  rw[<-hb.val,<-J]
  exact zGS hb.tr (by intro e;subst e;simp at J;omega)
theorem zN4{l0:List Nat}{m V p:Nat}(h0:val l0=vA*p)(hl:l0.length=la+1)(hm:m+n=la+1)(hn:0<n)(h1:vA*p<BB^la*p)(h2:BB^(n-1)*p<=V):val (l0.drop m)<V:=by
 have e1:=jV l0 m oA
 have e2:BB^m*(BB^(n-1)*p)=BB^la*p:=by
  rw[<-vV,<-uA,show m+(n-1)=la from oA]
 have e3:BB^m*(BB^(n-1)*p)<=BB^m*V:=uR _ h2
 have h:BB^m*val (l0.drop m)<BB^m*V:=oA
 exact pR h
theorem zN5{w3:WB}{A2:Option Addr}{n2 c2:Nat}{l2:List Nat}{A3:Option Addr}{J c3:Nat}{l3:List Nat}{vB:Nat}(O:Is l2 vA)(h2:Rd w3 A2 n2 c2 l2)(I:Is l3 vB)(h:Rd w3 A3 J c3 l3)(h1:BB<=vB)(h5:vB<=vA){N:Nat}(hA:vA<BB^N)(hN:N<=2000):
  ∃b3 o3 up t3:Nat,A3=some ⟨b3,o3,none⟩/\1<J/\J<=n2/\n2<=2000/\J<=c3/\c3<=9223372036854775807/\lm l3 (J-1)=t3/\w3.cell? ⟨b3,o3+(J-1),none⟩=some (.int .u32 (t3:Int))/\up<=31/\t3*2^up<4294967296/\
   ∀w:WB,Calls prog 123 #[.int .u32 (t3:Int)] w fun e w'=>e=.returned (.int .i64 (up:Int))/\w'=w:=by
 have h9:=zKR I h.len h1
 obtain⟨b3,o3,rfl,_,h7⟩:=h.shape oA
 have htop:lm l3 (J-1)≠0:=by
  rcases zJT.1 I.tr with e|e
  .have:=h.len;rw[e]at this;simp at this;omega
  .rwa [h.len]at e
 have hx:=qK I.lt (J-1)
 obtain⟨up,h3,h0,h8⟩:=zKC (lm l3 (J-1)) oA hx
 refine⟨b3,o3,up,_,rfl,h9,?_,?_,h.le,h.cap,rfl,h7 _ oA,h3,h0,h8⟩
 .rw[<-h.len,<-h2.len]
  exact I.len (mC h5 O.lt_pow)
 .rw[<-h2.len]
  exact xQ (O.len hA) hN
def zSA(w:WB)(Q0 m:Nat)(l0 lb:List Nat)(k:Nat)(W:WB):Prop:=
 ∃lq,Arr W Q0 lq/\lq.length=m/\Lt lq/\(∀p,m-k<=p->p<m->lm lq p=dig l0 lb p)/\Boxed W w.heap.size 28 (.slice (some ⟨Q0,0,none⟩) m m)/\Below w.heap.size w W
theorem zLw(A:Option Addr)(n c:Nat)(l:List Nat)(A':Option Addr)(n' c':Nat)(l':List Nat)(w:WB)(h:Rd w A n c l)(ht:Lt l)(h':Rd w A' n' c' l')(ht':Lt l')(hn:n<=2000)(hn':n'<=2000)(hge:val l'<=val l)(h1:BB<=val l'):
  Calls prog 115 #[.slice A n c,.slice A' n' c'] w (zHU w (val l) (val l')):=by
 have hmix:prog.follows .mixedOrders=true:=rZ
 have hcmp:decide (zAs (val l) (val l')<0)=false:=by
  unfold zAs
  rw[if_neg oA]
  split<;>simp
 refine jD func115 rfl ?_
 simp only[ntmps115,bN,lL,lM,Nat.reduceAdd,Nat.reduceSub,lN,lO,lP,lQ,eZ,lR]
 have hb0:=(xF _ w).alloc (vR _) (.cells #[.slice none 0 0] 28)
 have hx0:=bX w 28 (.slice none 0 0)
 have hA:val l<BB^n:=by rw[<-h.len];exact qO ht
 go_wp2_with (first|(go_at_call 86;first|((with_reducible refine(qT A n c l _ (h.below hb0) ht oA).mono ?_);rintro e w2 ⟨A2,n2,c2,l2,rfl,hi2,hr2,hb2⟩;have hb3:=hb0.trans (hb2.mono hb0.size);have hx2:=(hb2.block _ hx0.lt).trans hx0)|((with_reducible refine(qT A' n' c' l' _ (h'.below hb3) ht' oA).mono ?_);rintro e w3 ⟨A3,n3,c3,l3,rfl,hi3,hr3,hb4⟩;have hb5:=hb3.trans (hb4.mono hb3.size);have hx3:Boxed w3 w.heap.size 28 (.slice none 0 0):=(hb4.block _ (Boxed.lt hx2)).trans hx2;have hr2':=hr2.below hb4;obtain⟨b3,o3,up,t3,rfl,hn3,hn32,hn2,hle3,hcap3,ht3,hct3,hup,hup2,hlz⟩:=zN5 hi2 hr2' hi3 hr3 h1 hge hA hn;have hz3:((n3:Int)-1).toNat=n3-1:=Int.toNat_sub n3 1;have HT3:=hid ht3;clear ht3))|(go_at_call 117;refine(zFg A2 n2 c2 l2 _ n3 c3 l3 _ (hr2.below hb4) hr3 hi2.lt hi3.lt).mono ?_;rw[hi2.val,hi3.val];rintro e w4 ⟨rfl,rfl⟩;have hu1:=zOT A2 n2 c2 l2 up w3 hr2' hi2.lt hup (xQ hn2 rY);rw[hi2.val]at hu1)|(go_at_call 123;refine(hlz _).mono ?_;rintro e w4 ⟨rfl,hw4⟩;rw[hw4];clear hw4 w4)|(go_at_call 124;first|((with_reducible refine hu1.mono ?_);rintro e w5 ⟨A5,n5,c5,l5,rfl,hi5,ho5,hb6⟩;have hu2:=zOT _ n3 c3 l3 up w5 (hr3.below hb6) hi3.lt hup (xQ (xQ hn32 hn2) rY);rw[hi3.val]at hu2)|((with_reducible refine hu2.mono ?_);rintro e w6 ⟨A6,n6,c6,l6,rfl,hi6,ho6,hb7⟩)))
 obtain⟨s1,s2,s3,s4⟩:=zKl hup hi2 hi3 hr2.len hr3.len oA (by rw[HT3.out];exact hup2)
 have hVp:0<val l'*2^up:=Nat.mul_pos (vW qA h1) (nV _)
 have hAp:0<val l*2^up:=Nat.mul_pos (vW qA (xQ h1 hge)) (nV _)
 obtain⟨R,rfl,hl5,hR,hrow5⟩:=Row.of_own ho5 (hi5.pos_iff.1 hAp)
 obtain⟨R6,rfl,hl6,hR6,hrow6⟩:=Row.of_own ho6 (hi6.pos_iff.1 hVp)
 have hn5:n5<=n2+1:=by rw[hl5];exact hi5.len s1
 have hn50:0<n5:=by rw[hl5];exact hi5.pos_iff.1 hAp
 have hn6:n6=n3:=by
  have g1:n6<=n3:=by rw[hl6];exact hi6.len s3
  rcases xZ n6 n3 with e|e
  .exfalso
   have g2:=hi6.lt_pow
   rw[<-hl6]at g2
   have g3:BB^n6<=BB^(n3-1):=vZ qA oA
   have g4:BB^(n3-1)*1<=BB^(n3-1)*2^up:=uR _ (nV _)
   rw[gI]at g4
   omega
  .omega
 have hb8:Below w.heap.size w w6:=hb5.trans ((hb6.trans (hb7.mono hb6.size)).mono hb5.size)
 have hrw6:Row w6 R c5 l5:=hrow5.kept (hb7.block _ hrow5.lt)
 have hR5:=hrow5.lt
 have hx6:Boxed w6 w.heap.size 28 (.slice none 0 0):=((hb6.trans (hb7.mono hb6.size)).block _ hx3.lt).trans hx3
 obtain⟨W7,hW7⟩:∃W7,w6.alloc (.cells #[.slice (some ⟨R,0,none⟩) n5 c5,.slice (some ⟨R6,0,none⟩) n6 c6] 165)=W7:=⟨_,rfl⟩
 have hD7:W7.heap.size=w6.heap.size+1:=by rw[<-hW7];simp
 have x7:jC W7 w6.heap.size 165 #[.slice (some ⟨R,0,none⟩) n5 c5,.slice (some ⟨R6,0,none⟩) n6 c6]:=by rw[<-hW7];exact jC.new _ _ _
 have hb9:Below w6.heap.size w6 W7:=by rw[<-hW7];exact(xF _ _).alloc (vR _) _
 have hrw7:Row W7 R c5 l5:=hrw6.kept (hb9.block _ hrw6.lt)
 rw[hW7]
 clear hW7
 obtain⟨k,hk⟩:∃k,n2+1-n5=k:=⟨_,rfl⟩
 have hkw1:IntKind.i64.wrap ((n2:Int)+1)=(n2:Int)+1:=by rw[pQ];omega
 have hkw2:IntKind.i64.wrap ((n2:Int)+1-(n5:Int))=(k:Int):=by rw[pQ];omega
 obtain⟨R8,c8,w8,hrun,hrw8,hg8,hR8⟩:=zDz R n5 c5 k l5 W7.drew (hrw7.kept rfl) hl5.symm hn50 oA 28
 have x8:jC w8 w6.heap.size 165 #[.slice (some ⟨R,0,none⟩) n5 c5,.slice (some ⟨R6,0,none⟩) n6 c6]:=(hg8.block _ x7.lt (fun e=>by have:=hrw6.lt;injection e with e;omega)).trans x7
 have HL5:=hid hl5;have HL6:=hid hl6;have HN6:=hid hn6
 clear hl5 hl6 hn6
 refine(bJ (n:=0)).1<|zZ 17 (fun W=>W.cell? ⟨w6.heap.size,0,none⟩=some (.slice (some ⟨R,0,none⟩) n5 c5)) hmix ?_
 have d7:W7.drew.cell? ⟨w6.heap.size,0,none⟩=some (.slice (some ⟨R,0,none⟩) n5 c5):=x7.cell 0
 have d8:w8.cell? ⟨w6.heap.size,0,none⟩=some (.slice (some ⟨R,0,none⟩) n5 c5):=x8.cell 0
 refine zQ (i:=0) (v:=?vv1) kA kA rfl kA kA kA (fun _ _ _ h=>h) d7 ⟨.inl ⟨rfl,?yy1⟩,fun _=>rfl⟩ ?_
 case yy1=>
  rintro wx q1
  go_simp
  first|done|rfl
 refine zQ (i:=1) (v:=?vv2) kA kA rfl kA kA kA (fun _ _ _ h=>h) d7 ⟨.inl ⟨rfl,?yy2⟩,fun _=>rfl⟩ ?_
 case yy2=>
  rintro wx q1
  go_simp
  first|done|rfl
 refine zQ (i:=2) (v:=?vv3) kA kA rfl kA kA kA (fun _ _ _ h=>h) d7 ⟨.inl ⟨rfl,?yy3⟩,fun _=>rfl⟩ ?_
 case yy3=>
  rintro wx q1
  go_simp
  first|done|rfl
 refine zQ (i:=3) (v:=?vv4) kA kA rfl kA kA kA (fun _ _ _ h=>h) d7 ⟨.inl ⟨rfl,?yy4⟩,fun _=>rfl⟩ ?_
 case yy4=>
  rintro wx q1
  go_simp
  first|done|rfl
 refine zQ (i:=4) (v:=?vv5) kA kA rfl kA kA kA (fun _ _ _ h=>h) d7 ⟨.inl ⟨rfl,?yy5⟩,fun _=>rfl⟩ ?_
 case yy5=>
  rintro wx q1
  go_simp
  first|done|rfl
 refine zQ (i:=5) (v:=?vv6) kA kA rfl kA kA kA (fun _ _ _ h=>h) d7 ⟨.inl ⟨rfl,?yy6⟩,fun _=>rfl⟩ ?_
 case yy6=>
  rintro wx q1
  go_simp
  first|done|rfl
 refine zQ (i:=6) (v:=?vv7) kA kA rfl kA kA kA (fun _ _ _ h=>h) d7 ⟨.inl ⟨rfl,?yy7⟩,fun _=>rfl⟩ ?_
 case yy7=>
  rintro wx q1
  go_simp
  first|done|rfl
 refine zQ (i:=7) (v:=?vv8) kA kA rfl kA kA kA (fun _ _ _ h=>h) d7 ⟨.inl ⟨rfl,?yy8⟩,fun _=>rfl⟩ ?_
 case yy8=>
  rintro wx q1
  go_simp
  first|done|rfl
 refine zQ (i:=8) (v:=?vv9) kA kA rfl kA kA kA (fun _ _ _ h=>h) d7 ⟨.inl ⟨rfl,?yy9⟩,fun _=>rfl⟩ ?_
 case yy9=>
  rintro wx q1
  go_simp
  first|done|rfl
 refine zQ (i:=9) (v:=?vv10) kA kA rfl kA kA kA (fun _ _ _ h=>h) d7 ⟨.inl ⟨rfl,?yy10⟩,fun _=>rfl⟩ ?_
 case yy10=>
  rintro wx q1
  go_simp
  first|done|rfl
 refine zQ (i:=10) (v:=?vv11) kA kA rfl kA kA kA (fun _ _ _ h=>h) d7 ⟨.inl ⟨rfl,?yy11⟩,fun _=>rfl⟩ ?_
 case yy11=>
  rintro wx q1
  go_simp
  first|done|rfl
 refine zQ (i:=11) (v:=?vv12) kA kA rfl kA kA kA (fun _ _ _ h=>h) d7 ⟨.inl ⟨rfl,?yy12⟩,fun _=>rfl⟩ ?_
 case yy12=>
  rintro wx q1
  go_simp
  first|done|rfl
 refine zQ (i:=12) (v:=?vv13) kA kA rfl kA kA kA (fun _ _ _ h=>h) d7 ⟨.inl ⟨rfl,?yy13⟩,fun _=>rfl⟩ ?_
 case yy13=>
  rintro wx q1
  go_simp
  first|done|rfl
 refine zQ (i:=13) (v:=?vv14) kA kA rfl kA kA kA (fun _ _ _ h=>h) d7 ⟨.inl ⟨rfl,?yy14⟩,fun _=>rfl⟩ ?_
 case yy14=>
  rintro wx q1
  go_simp
  first|done|rfl
 refine zIl (i:=14) kA rfl rfl (.tmp 65) (.tmp 74) 28 3 rfl (.slice (some ⟨R,0,none⟩) n5 c5) (.int .i64 (k:Int)) kA kA (.slice (some ⟨R8,0,none⟩) (n5+k) c8) w8 hrun d8 ?_
 simp only[Act.put]
 go_simp
 refine zAq (i:=15) kA rfl (fun K hK=>?_)
 go_simp
 refine hK _ _ (.inr d8) ?_
 clear hK K
 refine zAq (i:=16) kA rfl (fun K hK=>?_)
 go_simp
 refine hK _ _ (.inr d8) ?_
 clear hK K
 have f8:=x8.frozen 0
 refine zAq (i:=17) kA rfl (fun K hK=>?_)
 go_simp
 refine hK _ _ (.inl rfl) ?_
 clear hK K
 refine zCd kA ?_
 clear hkw1 hkw2
 obtain⟨W9,hW9⟩:∃W9,w8.setCell ⟨w6.heap.size,0,none⟩ (.slice (some ⟨R8,0,none⟩) (n5+k) c8)=W9:=⟨_,rfl⟩
 have x9:jC W9 w6.heap.size 165 #[.slice (some ⟨R8,0,none⟩) (n5+k) c8,.slice (some ⟨R6,0,none⟩) n6 c6]:=by rw[<-hW9];exact x8.set 0 _
 have hRD:R8≠w6.heap.size:=by
  rcases hR8 with e|e
  .rw[e];have:=hrw6.lt;omega
  .rw[e];show W7.heap.size≠_;omega
 have hrw9:Row W9 R8 c8 (l5++List.replicate k 0):=by rw[<-hW9];exact hrw8.kept (cP _ _ _ _ hRD)
 have hb10:Below w.heap.size w W9:=by
  have hb7:Below w.heap.size w W7.drew:=(hb8.trans (hb9.mono hb8.size)).drew
  have:=zA6 hb7 hg8 hb7.size (xQ hb5.size hR)
  rw[<-hW9]
  exact this.setCell (p:=⟨w6.heap.size,0,none⟩) hb8.size _
 have hsz9:W7.heap.size<=W9.heap.size:=by rw[<-hW9,<-zBa];exact hg8.size
 have hk9:∀b,b<W7.heap.size->b≠R->b≠w6.heap.size->W9.heap[b]?=W7.heap[b]?:=fun b h1 h2 h3=>by
  rw[<-hW9]
  exact(cP _ _ _ _ h3).trans (hg8.block b h1 (fun e=>h2 (by injection e)))
 have hx9:Boxed W9 w.heap.size 28 (.slice none 0 0):=by
  have hl0:=hx6.lt
  have hlR:w.heap.size<R:=vW hx3.lt hR
  exact(hk9 _ oA oA oA).trans ((hb9.block _ hl0).trans hx6)
 have hr9:Rd W9 (some ⟨R6,0,none⟩) n6 c6 l6:=by
  have h6:=hrow6.rd
  rw[<-HL6.out]at h6
  have h7:=h6.below hb9
  refine⟨h7.len,h7.le,h7.cap,h7.nil,fun i hi=>?_⟩
  obtain⟨b,o,e,hc⟩:=h7.cells i hi
  refine⟨b,o,e,(bO (hk9 b (zU hc) ?_ ?_)).trans hc⟩<;>(injection e with e;injection e with e1 e2;have:=hrow6.lt;omega)
 have hL9:LongAt W9 w6.heap.size R8 c8 (l5++List.replicate k 0) (some ⟨R6,0,none⟩) n6 c6 l6:=
  ⟨by have:=x9;rwa [show n5+k=(l5++List.replicate k 0).length from by rw[uD,mZ,<-HL5.out]]at this,hrw9,hr9,fun e=>hRD e.symm,fun b o _ e=>by
   injection e with e
   injection e with e1 e2
   have:=hrow6.lt
   rcases hR8 with e3|e3
   .rw[e3];omega
   .rw[e3];show b≠W7.heap.size;omega⟩
 rw[hW9]
 clear hW9 x8 f8 d8 d7 hrun
 obtain⟨m,hm⟩:∃m,n5+k-n6=m:=⟨_,rfl⟩
 have hmw1:IntKind.i64.wrap ((n5:Int)+(k:Int)-(n6:Int))=(m:Int):=by rw[pQ];have:=HN6.out;omega
 have hmk:=fun wx=>zA0 m oA wx
 have hx9f:=hx9.frozen
 go_wp2
 refine(bJ (n:=0)).1<|zZ 12 (fun W=>W.cell? ⟨w6.heap.size,0,none⟩=some (.slice (some ⟨R8,0,none⟩) (n5+k) c8)/\W.cell? ⟨w6.heap.size,1,none⟩=some (.slice (some ⟨R6,0,none⟩) n6 c6)) hmix ?_
 have d9:W9.drew.cell? ⟨w6.heap.size,0,none⟩=some (.slice (some ⟨R8,0,none⟩) (n5+k) c8)/\W9.drew.cell? ⟨w6.heap.size,1,none⟩=some (.slice (some ⟨R6,0,none⟩) n6 c6):=⟨x9.cell 0,x9.cell 1⟩
 refine zQ (i:=0) (v:=?vv15) kA kA rfl kA kA kA (fun _ _ _ h=>h) d9 ⟨.inl ⟨rfl,?yy15⟩,fun _=>rfl⟩ ?_
 case yy15=>
  rintro wx ⟨q1,q2⟩
  go_simp
  first|done|rfl
 refine zQ (i:=1) (v:=?vv16) kA kA rfl kA kA kA (fun _ _ _ h=>h) d9 ⟨.inl ⟨rfl,?yy16⟩,fun _=>rfl⟩ ?_
 case yy16=>
  rintro wx ⟨q1,q2⟩
  go_simp
  first|done|rfl
 refine zQ (i:=2) (v:=?vv17) kA kA rfl kA kA kA (fun _ _ _ h=>h) d9 ⟨.inl ⟨rfl,?yy17⟩,fun _=>rfl⟩ ?_
 case yy17=>
  rintro wx ⟨q1,q2⟩
  go_simp
  first|done|rfl
 refine zQ (i:=3) (v:=?vv18) kA kA rfl kA kA kA (fun _ _ _ h=>h) d9 ⟨.inl ⟨rfl,?yy18⟩,fun _=>rfl⟩ ?_
 case yy18=>
  rintro wx ⟨q1,q2⟩
  go_simp
  first|done|rfl
 refine zQ (i:=4) (v:=?vv19) kA kA rfl kA kA kA (fun _ _ _ h=>h) d9 ⟨.inl ⟨rfl,?yy19⟩,fun _=>rfl⟩ ?_
 case yy19=>
  rintro wx ⟨q1,q2⟩
  go_simp
  first|done|rfl
 refine zQ (i:=5) (v:=?vv20) kA kA rfl kA kA kA (fun _ _ _ h=>h) d9 ⟨.inl ⟨rfl,?yy20⟩,fun _=>rfl⟩ ?_
 case yy20=>
  rintro wx ⟨q1,q2⟩
  go_simp
  first|done|rfl
 refine zQ (i:=6) (v:=?vv21) kA kA rfl kA kA kA (fun _ _ _ h=>h) d9 ⟨.inl ⟨rfl,?yy21⟩,fun _=>rfl⟩ ?_
 case yy21=>
  rintro wx ⟨q1,q2⟩
  go_simp
  first|done|rfl
 refine zQ (i:=7) (v:=?vv22) kA kA rfl kA kA kA (fun _ _ _ h=>h) d9 ⟨.inl ⟨rfl,?yy22⟩,fun _=>rfl⟩ ?_
 case yy22=>
  rintro wx ⟨q1,q2⟩
  go_simp
  first|done|rfl
 refine zQ (i:=8) (v:=?vv23) kA kA rfl kA kA kA (fun _ _ _ h=>h) d9 ⟨.inl ⟨rfl,?yy23⟩,fun _=>rfl⟩ ?_
 case yy23=>
  rintro wx ⟨q1,q2⟩
  go_simp
  first|done|rfl
 refine zQ (i:=9) (v:=?vv24) kA kA rfl kA kA kA (fun _ _ _ h=>h) d9 ⟨.inl ⟨rfl,?yy24⟩,fun _=>rfl⟩ ?_
 case yy24=>
  rintro wx ⟨q1,q2⟩
  go_simp
  first|done|rfl
 refine zQ (i:=10) (v:=?vv25) kA kA rfl kA kA kA (fun _ _ _ h=>h) d9 ⟨.inl ⟨rfl,?yy25⟩,fun _=>rfl⟩ ?_
 case yy25=>
  rintro wx ⟨q1,q2⟩
  go_simp
  first|done|rfl
 obtain⟨WA,hWA⟩:∃WA,W9.drew.alloc (.cells (madeCells #[.int .u32 0] m) 81)=WA:=⟨_,rfl⟩
 have hbA:Below W9.heap.size W9 WA:=by rw[<-hWA];exact(xF _ W9).drew.alloc (vR _) _
 have hqA:Arr WA W9.heap.size (List.replicate m 0):=by rw[<-hWA];exact Arr.new W9.drew m
 have hxA:Boxed WA w.heap.size 28 (.slice none 0 0):=(hbA.block _ hx9.lt).trans hx9
 have hLA:=hL9.below hbA
 have dA:WA.cell? ⟨w6.heap.size,0,none⟩=some (.slice (some ⟨R8,0,none⟩) (n5+k) c8)/\WA.cell? ⟨w6.heap.size,1,none⟩=some (.slice (some ⟨R6,0,none⟩) n6 c6):=⟨(x9.kept hbA).cell 0,(x9.kept hbA).cell 1⟩
 have fA:=hxA.frozen
 have cA:=hxA.cell
 refine zAq (i:=11) kA rfl (fun K hK=>?_)
 go_simp
 refine hK _ _ (.inr dA) ?_
 clear hK K
 refine zAq (i:=12) kA rfl (fun K hK=>?_)
 go_simp
 refine hK _ _ (.inl rfl) ?_
 clear hK K
 refine zCd kA ?_
 clear hmk
 have hxB:Boxed (WA.setCell ⟨w.heap.size,0,none⟩ (.slice (some ⟨W9.heap.size,0,none⟩) m m)) w.heap.size 28 (.slice (some ⟨W9.heap.size,0,none⟩) m m):=hxA.set _
 go_wp2_with (go_at_call 125;refine(zLT _ _).mono ?_;rintro e wd ⟨rfl,hwd⟩)
 have hsB:(WA.setCell ⟨w.heap.size,0,none⟩ (.slice (some ⟨W9.heap.size,0,none⟩) m m)).heap.size=WA.heap.size:=(zBa WA _ _).symm
 have hsA:WA.heap.size=W9.heap.size+1:=by rw[<-hWA,cB];rfl
 have hsd:wd.heap.size=WA.heap.size+1:=by rw[<-hwd];simp
 have hbdc:wd.cell? ⟨WA.heap.size,0,none⟩=some (.pointer (some ⟨w6.heap.size,0,none⟩)):=by
  rw[<-hwd]
  exact(zAX _ _ _ hsB.symm).cell
 have hxC:Boxed wd w.heap.size 28 (.slice (some ⟨W9.heap.size,0,none⟩) m m):=by rw[<-hwd];exact hxB.alloc _
 have hl0:=hx3.lt
 have hw3:w3.heap.size<=w6.heap.size:=(hb6.trans (hb7.mono hb6.size)).size
 have hw9:w6.heap.size<W9.heap.size:=oA
 have hlR8:R8<W9.heap.size:=hrw9.lt
 have hlR6:R6<w6.heap.size:=hrow6.lt
 have hR86:w3.heap.size<=R8:=by
  rcases hR8 with e|e
  .omega
  .rw[e];show _<=W7.heap.size;omega
 have hqC:Arr wd W9.heap.size (List.replicate m 0):=by
  rw[<-hwd]
  exact(hqA.far (p:=⟨w.heap.size,0,none⟩) sB _).alloc _
 obtain⟨l0,hl0e⟩:∃l0,l5++List.replicate k 0=l0:=⟨_,rfl⟩
 have hl0v:val l0=val l*2^up:=by rw[<-hl0e,zCz,zAl,Nat.mul_zero,uM,hi5.val]
 have hl0l:l0.length=n2+1:=by rw[<-hl0e,uD,mZ,<-HL5.out];omega
 have ht0:Lt l0:=by rw[<-hl0e];exact zHW hi5.lt (jU k)
 have hmn:m+n6=n2+1:=by have:=HN6.out;omega
 have hn60:0<n6:=by have:=HN6.out;omega
 rw[hl0e]at hLA
 have hLC:LongAt wd w6.heap.size R8 c8 l0 (some ⟨R6,0,none⟩) n6 c6 l6:=by
  rw[<-hwd]
  refine LongAt.below ?_ ((xF _ _).alloc (vR _) _)
  exact⟨hLA.box.other (p:=⟨w.heap.size,0,none⟩) sB _,hLA.row.kept (cP _ _ _ _ sB),hLA.by_.setBox hxA (fun _=>eN) _,hLA.ne,hLA.far⟩
 have hBC:Below w.heap.size w wd:=by
  rw[<-hwd]
  have t1:=(hb10.trans (hbA.mono hb10.size)).setCell (p:=⟨w.heap.size,0,none⟩) (vR _) (.slice (some ⟨W9.heap.size,0,none⟩) m m)
  exact t1.alloc t1.size _
 have htop6:0<lm l6 (n6-1):=by
  rcases zJT.1 hi6.tr with e|e
  .have:=HL6.out;rw[e]at this;simp at this;omega
  .rw[<-HL6.out]at e;omega
 have hV6:0<val l6:=by rw[hi6.val];exact hVp
 have htopm:val (l0.drop m)<val l6:=by
  rw[hi6.val]
  refine zN4 hl0v hl0l hmn hn60 s2 ?_
  rw[HN6.out]
  exact s4
 clear hwd hWA hxB hqA hl0e
 have HWA:=hid hsA
 clear hsA hsB hmw1
 have hSb:∀b,(b<wd.heap.size/\b≠W9.heap.size)->b<wd.heap.size:=fun b hb=>hb.1
 have hwsz:WA.heap.size<wd.heap.size:=oA
 have hA9:W9.heap.size<WA.heap.size:=by have:=HWA.out;omega
 clear hsd
 have hown:∀C,w.heap.size<=C->OwnFrom C (zSA w W9.heap.size m l0 l6):=by
  rintro C hC k W W' row ⟨lq,ha,hlq,hltq,hdig,hq,hB⟩ hg hr
  exact⟨lq,ha.abide hg hr,hlq,hltq,hdig,qL hq hg hr,zAi hB hg (vR _) hC hr⟩
 refine zEa (gf:=131) rfl (enters_of func131 kA rfl)
  (zIq WA.heap.size w6.heap.size R8 c8 l0 (some ⟨R6,0,none⟩) n6 c6 l6 m wd hLC hbdc oA ht0 hi6.lt hn60 htop6 oA htopm hV6 (S:=fun b=>b<wd.heap.size/\b≠W9.heap.size) hSb ⟨hwsz,oA⟩ ⟨oA,oA⟩ ⟨oA,oA⟩ (fun b o _ e=>by injection e with e;injection e with e1 e2;omega))
  (fun _=>rfl) yZ.trans (zDG hSb) (zSA w W9.heap.size m l0 l6) (hown _ hBC.size) ?hF ?hFb ?hFin ⟨List.replicate m 0,hqC,eN,jU m,fun p h1 h2=>oA,hxC,hBC⟩
  (fun k9=>{ tmps:=#[Value.slice A2 n2 c2,Value.slice (some { block:=b3,off:=o3 }) n3 c3,undef,undef,Value.pointer (some { block:=w.heap.size,off:=0 }),Value.slice none 0 0,Value.int IntKind.i64 0,undef,undef,undef,Value.int IntKind.i64 ↑up,Value.pointer (some { block:=w6.heap.size,off:=0 }),Value.int IntKind.i64 (m-1-k9:Nat),Value.int IntKind.u32 (dig l0 l6 (m-1-k9):Nat),Value.slice A n c,Value.slice A2 n2 c2,Value.slice A' n' c',Value.slice (some { block:=b3,off:=o3 }) n3 c3,Value.bool false,Value.slice (some { block:=b3,off:=o3 }) n3 c3,Value.int IntKind.i64 ↑n3,Value.bool false,Value.bool false,Value.slice A2 n2 c2,Value.slice (some { block:=b3,off:=o3 }) n3 c3,Value.int IntKind.i64 (zAs (val l) (val l')),Value.bool false,undef,Value.bool false,Value.slice (some { block:=b3,off:=o3 }) n3 c3,Value.int IntKind.i64 ↑n3,Value.bool false,undef,undef,undef,undef,undef,undef,undef,undef,undef,undef,undef,undef,undef,undef,Value.slice (some { block:=b3,off:=o3 }) n3 c3,Value.slice (some { block:=b3,off:=o3 }) n3 c3,Value.int IntKind.i64 ↑n3,Value.int IntKind.i64 (↑n3-1),Value.pointer (some { block:=b3,off:=o3+(n3-1) }),Value.int IntKind.u32 ↑t3,Value.int IntKind.i64 ↑up,Value.slice A2 n2 c2,Value.int IntKind.i64 ↑up,Value.slice (some { block:=R,off:=0 }) n5 c5,Value.slice (some { block:=b3,off:=o3 }) n3 c3,Value.int IntKind.i64 ↑up,Value.slice (some { block:=R6,off:=0 }) n6 c6,Value.agg #[Value.slice (some { block:=R,off:=0 }) n5 c5,Value.slice (some { block:=R6,off:=0 }) n6 c6],Value.pointer (some { block:=w6.heap.size,off:=0 }),Value.pointer (some { block:=w6.heap.size,off:=0 }),Value.pointer (some { block:=w6.heap.size,off:=0 }),Value.pointer (some { block:=w6.heap.size,off:=0 }),Value.pointer (some { block:=w6.heap.size,off:=0 }),Value.slice (some { block:=R,off:=0 }) n5 c5,Value.slice A2 n2 c2,Value.int IntKind.i64 ↑n2,Value.int IntKind.i64 (↑n2+1),Value.pointer (some { block:=w6.heap.size,off:=0 }),Value.pointer (some { block:=w6.heap.size,off:=0 }),Value.pointer (some { block:=w6.heap.size,off:=0 }),Value.slice (some { block:=R,off:=0 }) n5 c5,Value.int IntKind.i64 ↑n5,Value.int IntKind.i64 ↑k,Value.slice (some { block:=R8,off:=0 }) (n5+k) c8,Value.pointer (some { block:=w6.heap.size,off:=0 }),Value.pointer (some { block:=w6.heap.size,off:=0 }),Value.pointer (some { block:=w6.heap.size,off:=0 }),Value.pointer (some { block:=w6.heap.size,off:=0 }),Value.pointer (some { block:=w6.heap.size,off:=0 }),Value.slice (some { block:=R8,off:=0 }) (n5+k) c8,Value.int IntKind.i64 (↑n5+↑k),Value.pointer (some { block:=w6.heap.size,off:=0 }),Value.pointer (some { block:=w6.heap.size,off:=0 }),Value.pointer (some { block:=w6.heap.size,off:=1 }),Value.slice (some { block:=R6,off:=0 }) n6 c6,Value.int IntKind.i64 ↑n6,Value.int IntKind.i64 ↑m,Value.slice (some { block:=W9.heap.size,off:=0 }) m m,Value.pointer (some { block:=w6.heap.size,off:=0 }),Value.func (Fn.func 131) #[] #[Value.pointer (some { block:=WA.heap.size,off:=0 })],Value.int IntKind.i64 (m-1-k9:Nat),Value.int IntKind.u32 (dig l0 l6 (m-1-k9):Nat),undef,undef,undef,undef,undef,undef,undef,undef,undef,undef,undef,undef,undef],defers:=[] }) ?hassign ?hbody ?hdone
 case hF=>
  rintro k1 W1 W2 ⟨lq,ha,hlq,hltq,hdig,hq,hB⟩ hg
  exact⟨lq,ha.kept (hg.block _ ha.lt (fun e=>by injection e with e;omega)),hlq,hltq,hdig,(hg.block _ hq.lt (fun e=>by injection e with e;omega)).trans hq,zA6 hB hg hB.size oA⟩
 case hFb=>
  intro W1 W2 hg k1 o hk1 ho hc
  exact(hg.block k1 (xP.1 ho).1 (fun e=>by injection e with e;omega)).trans ho
 case hFin=>
  rintro W l1 o o' hl1 ho hc ⟨lr,hL,hlt,hv⟩
  exact⟨lr,hL.putObj o' ho hc,hlt,hv⟩
 case hassign=>
  intro lp k1 W K hK
  gi_wp2
  exact hK
 case hbody=>
  rintro lp k1 W hk1 ⟨lq,ha,hlq,hltq,hdig,hq,hB⟩
  obtain⟨j,hj,hjn⟩:∃j,m-1-k1=j/\j<m/\m-(k1+1)=j/\m-k1=j+1:=⟨m-1-k1,rfl,oA,oA,oA⟩
  rw[hj]
  have hcq:=hq.cell;have hfq:=hq.frozen
  have hfj:=ha.frozen j
  have hj0:j<m:=hjn.1
  have hcj:=ha.cell (i:=j) oA
  have HJ:=hid hjn
  clear hj hjn
  gi_wp2
  refine⟨(bP _ _ _).from _,(yZ.refl _ _).setCell (p:=⟨W9.heap.size,j,none⟩) eN _,lq.set j (dig l0 l6 j),ha.set j _,by rw[uC];exact hlq,zCw hltq (uH _ qA),fun p hp1 hp2=>?_,zAx hq (p:=⟨W9.heap.size,j,none⟩) sB _,hB.setCell (p:=⟨W9.heap.size,j,none⟩) sB _⟩
  have h9:=HJ.out
  rw[zAK oA]
  by_cases e:j=p
  .rw[if_pos e,e]
  .rw[if_neg e]
   exact hdig p oA hp2
 case hdone=>
  rintro D' W hD ⟨lq,ha,hlq,hltq,hdig,hq,hB⟩ ⟨lr,hLr,hltr,hlr,hvr⟩ hd
  have hqv:val lq=val l/val l':=by
   rw[zOy hV6 ht0 oA htopm hlq (fun p hp=>hdig p oA hp),hl0v,hi6.val,Nat.mul_div_mul_right _ _ (nV _)]
  have hrv:val lr=val l%val l'*2^up:=by rw[hvr,hl0v,hi6.val,pS]
  obtain⟨⟨d0,_⟩,_,_⟩:=hLr.box.facts2
  have hrl:lr.length<=1099511627776:=oA
  have hcq:=hq.cell
  have t1:=qT (some ⟨W9.heap.size,0,none⟩) m m lq W.drew (ha.rd hlq oA).drew hltq oA
  rw[hqv]at t1
  have hrr:=hLr.row.rd
  obtain⟨N,hN⟩:∃N,lr.length=N:=⟨_,rfl⟩
  rw[hN]at d0 hrr hrl
  have hrb:val l%val l'*2^up<BB^(n2+1):=mC (uE _ (Nat.mod_le _ _)) s1
  have hd0:W.drew.cell? ⟨w6.heap.size,0,none⟩=some (.slice (some ⟨R8,0,none⟩) N c8):=d0
  have hfq:=hq.frozen
  go_wp2_with fail
  refine(bJ (n:=0)).1<|zZ 100 (fun W=>W.cell? ⟨w6.heap.size,0,none⟩=some (.slice (some ⟨R8,0,none⟩) N c8)) hmix<|zQ (i:=2) (v:=?vv26) kA kA rfl kA kA kA (fun _ _ _ h=>h) hd0 ⟨.inl ⟨rfl,?yy26⟩,fun _=>rfl⟩ ?_
  case yy26=>
   rintro wx q1
   go_simp
   first|done|rfl
  refine zQ (i:=3) (v:=?vv27) kA kA rfl kA kA kA (fun _ _ _ h=>h) hd0 ⟨.inl ⟨rfl,?yy27⟩,fun _=>rfl⟩ ?_
  case yy27=>
   rintro wx q1
   go_simp
   first|done|rfl
  refine zQ (i:=4) (v:=?vv28) kA kA rfl kA kA kA (fun _ _ _ h=>h) hd0 ⟨.inl ⟨rfl,?yy28⟩,fun _=>rfl⟩ ?_
  case yy28=>
   rintro wx q1
   go_simp
   first|done|rfl
  refine zQ (i:=5) (v:=?vv29) kA kA rfl kA kA kA (fun _ _ _ h=>h) hd0 ⟨.inl ⟨rfl,?yy29⟩,fun _=>rfl⟩ ?_
  case yy29=>
   rintro wx q1
   go_simp
   first|done|rfl
  refine zQ (i:=7) (v:=?vv30) kA kA rfl kA kA kA (fun _ _ _ h=>h) hd0 ⟨.inl ⟨rfl,?yy30⟩,fun _=>rfl⟩ ?_
  case yy30=>
   rintro wx q1
   go_simp
   first|done|rfl
  refine zAq (i:=0) kA rfl (fun K hK=>?_)
  go_simp
  refine hK _ _ (.inr hd0) ?_
  clear hK K
  refine zAq (i:=1) kA rfl (fun K hK=>?_)
  go_simp
  refine bC (bB.2 t1) ?_
  rintro e wa ⟨Aa,na,ca,la,rfl,hia,hra,hba⟩
  have bda:wa.cell? ⟨w6.heap.size,0,none⟩=some (.slice (some ⟨R8,0,none⟩) N c8):=(hba.cell (p:=⟨w6.heap.size,0,none⟩) (zU hd0)).trans hd0
  refine hK _ _ (.inr bda) ?_
  clear hK K
  have hba':Below W.heap.size W wa:=(xF _ W).drew.trans hba
  have t2:=qT (some ⟨R8,0,none⟩) N c8 lr wa (hrr.below hba') hltr hrl
  rw[hrv]at t2
  refine zAq (i:=6) kA rfl (fun K hK=>?_)
  go_simp
  refine bC (bB.2 t2) ?_
  rintro e wb ⟨Ab,nb,cb,lb,rfl,hib,hrb2,hbb⟩
  have bdb:wb.cell? ⟨w6.heap.size,0,none⟩=some (.slice (some ⟨R8,0,none⟩) N c8):=(hbb.cell (p:=⟨w6.heap.size,0,none⟩) (zU bda)).trans bda
  refine hK _ _ (.inr bdb) ?_
  clear hK K
  have hnb:nb<=n2+1:=by rw[<-hrb2.len];exact hib.len hrb
  have t3:=zOw Ab nb cb lb up wb hrb2 hib.lt hup oA
  rw[hib.val,Nat.mul_div_cancel _ (nV _)]at t3
  refine zAq (i:=8) kA rfl (fun K hK=>?_)
  go_simp
  refine bC (bB.2 t3) ?_
  rintro e wc ⟨Ac,nc,cc,lc,rfl,hic,hrc,hbc⟩
  have bdc:wc.cell? ⟨w6.heap.size,0,none⟩=some (.slice (some ⟨R8,0,none⟩) N c8):=(hbc.cell (p:=⟨w6.heap.size,0,none⟩) (zU bdb)).trans bdb
  refine hK _ _ (.inr bdc) ?_
  clear hK K
  have hbwc:Below W.heap.size W wc:=hba'.trans ((hbb.trans (hbc.mono hbb.size)).mono hba'.size)
  have hqc:Boxed wc w.heap.size 28 (.slice (some ⟨W9.heap.size,0,none⟩) m m):=(hbwc.block _ hq.lt).trans hq
  have fqc:=hqc.frozen;have cqc:=hqc.cell
  refine zAq (i:=9) kA rfl (fun K hK=>?_)
  go_simp
  have bdd:(wc.setCell ⟨w.heap.size,0,none⟩ (.slice Aa na ca)).cell? ⟨w6.heap.size,0,none⟩=some (.slice (some ⟨R8,0,none⟩) N c8):=(mL _ _ _ _ (by intro e;injection e with e1 e2;omega)).trans bdc
  refine hK _ _ (.inr bdd) ?_
  clear hK K
  refine zAq (i:=10) kA rfl (fun K hK=>?_)
  go_simp
  refine hK _ _ (.inr bdd) ?_
  clear hK K
  refine zAq (i:=11) kA rfl (fun K hK=>?_)
  go_simp
  refine hK _ _ (.inr bdd) ?_
  clear hK K
  refine zCd kA ?_
  go_wp2
  have hqd:Boxed (wc.setCell ⟨w.heap.size,0,none⟩ (.slice Aa na ca)) w.heap.size 28 (.slice Aa na ca):=hqc.set _
  have hM:Marks (w.heap.size) (wc.setCell ⟨w.heap.size,0,none⟩ (.slice Aa na ca)) [mark D'] [D']:=(((Marks.nil w.heap.size W).more (D:=D') eN oA hd).made hbwc).others (bP _ _ _)
  have hbF:Below w.heap.size w (wc.setCell ⟨w.heap.size,0,none⟩ (.slice Aa na ca)):=(hB.trans (hbwc.mono hB.size)).setCell (p:=⟨w.heap.size,0,none⟩) (vR _) _
  have hrF:Rd (wc.setCell ⟨w.heap.size,0,none⟩ (.slice Aa na ca)) Aa na ca la:=(hra.below (hbb.trans (hbc.mono hbb.size))).setBox hqc (fun _=>eN) _
  have hrG:Rd (wc.setCell ⟨w.heap.size,0,none⟩ (.slice Aa na ca)) Ac nc cc lc:=hrc.setBox hqc (fun _=>eN) _
  refine qF _ (v:=.tuple #[.slice Aa na ca,.slice Ac nc cc,.int .i64 0]) (fun w' ho'=>?_) [D'] _ _ hM (Oth.refl _ _) ?_
  .have hc4:=(Boxed.oth hqd ho').cell
   simp[results,go_sem,hc4]
  .intro w' ho
   exact⟨Aa,na,ca,la,Ac,nc,cc,lc,rfl,hia,hrF.oth ho,hic,hrG.oth ho,zAh hbF ho (vR _)⟩
theorem zJg(a b:Nat)(h0:0<b):zUj a b:=by
 rcases xZ b BB with O|O
 .exact zKc a b h0 O
 .intro A n c l A' n' c' l' w h ht h' J ha hb hn I
  subst ha
  subst hb
  by_cases hlt:val l<val l'
  .exact zHk A n c l A' n' c' l' w h ht h' J hn I hlt
  .exact zLw A n c l A' n' c' l' w h ht h' J hn I oA O
theorem zH2(x:Nat)(hx:x<4294967296):bits .and .u32 (x:Int) 1=((x%2:Nat):Int):=by
 have h:(BitVec.ofInt 32 (x:Int)).toNat=x:=by
  rw[BitVec.ofInt_natCast,BitVec.toNat_ofNat];exact uU oA
 show IntKind.u32.wrap ((BitVec.ofInt 32 (x:Int)&&& BitVec.ofInt 32 1).toNat:Int)=_
 rw[BitVec.toNat_and,h,show(BitVec.ofInt 32 1).toNat=1 from rfl,Nat.and_one_is_mod,IntKind.wrap_u32]
 omega
theorem zNp(A:Option Addr)(n c:Nat)(l:List Nat)(x:Nat)(w:WB)(h:Rd w A n c l)(I:Is l x)(J:n<=100000):
  Calls prog 103 #[.slice A n c,.int .i64 1] w (jH w (2*x)):=by
 have:=zK4 A n c l 0 1 w h I.lt oA oA J
 rw[I.val,show x*2^(32*0+1)=2*x from vT x 2]at this
 exact this
def zOJ(w:WB)(Q n a b:Nat)(vr vi:Value)(W:WB):Prop:=
 ∃(i:Nat) (lo:List Nat) (A:Option Addr) (nr c:Nat) (l:List Nat) (r:Nat),vi=.int .i64 ((i:Int)-1)/\i<=32*n/\vr=.slice A nr c/\Is l r/\Rd W A nr c l/\Arr W Q lo/\lo.length=n/\Lt lo/\DivAt a b i (val lo) r/\Below w.heap.size w W
theorem zLg{W W':WB}{Q:Nat}(h:Rd W' A n c l)(_hb:Below W.heap.size W W')(_ha:Arr W' Q lo)(i:Nat)(v:Value)(hf:∀b o,A=some ⟨b,o,none⟩->0<n->b≠Q):Rd (W'.setCell ⟨Q,i,none⟩ v) A n c l:=
 ⟨h.len,h.le,h.cap,h.nil,fun k J=>by
  obtain⟨b,o,e,I⟩:=h.cells k J
  exact⟨b,o,e,(bO (cP W' ⟨Q,i,none⟩ v b (hf b o e oA))).trans I⟩⟩
theorem zPQ(ht:Lt lo)(J:i/32<lo.length)(hz:val lo%2^(i+1)=0):
  ∃o z:Nat,lm lo (i/32)=o/\o<4294967296/\bits .or .u32 (o:Int) ((2^(i%32):Nat):Int)=(z:Int)/\z<4294967296/\val (lo.set (i/32) z)=val lo+2^i:=by
 have O:=qK ht (i/32)
 have hl:=zN3 ht i hz
 have I:i%32<32:=uH _ oA
 unfold BB at O
 obtain⟨o,ho⟩:∃o,lm lo (i/32)=o:=⟨_,rfl⟩
 obtain⟨t,htt⟩:∃t,i%32=t:=⟨_,rfl⟩
 rw[ho]at O hl
 rw[htt]at hl I
 obtain⟨g,hg⟩:=Nat.dvd_of_mod_eq_zero hl
 have hpos:0<2^t:=uN oA
 have h:2^(t+1)*2^(31-t)=4294967296:=by
  rw[<-uA,show t+1+(31-t)=32 from oA]
 have h4:o|||2^t=o+2^t:=by
  rw[hg,fJ (i:=t+1) (b:=2^t) (by rw[vY];omega)]
 have h3:g<2^(31-t):=by
  rw[hg,<-h]at O
  exact pR O
 have h0:o+2^t<4294967296:=by
  have h1:2^(t+1)*(g+1)<=2^(t+1)*2^(31-t):=uR _ h3
  rw[h,uF,<-hg,vY]at h1
  omega
 have htl:2^t<4294967296:=oA
 refine⟨o,o+2^t,ho,O,?_,h0,?_⟩
 .rw[htt,u32_or_nat _ _ oA oA,h4]
 .have hs:=zPA (l:=lo) (j:=i/32) (v:=o+2^t) J
  rw[ho,vU]at hs
  have e:=zET i
  rw[htt,vT]at e
  rw[e]
  omega
theorem zB8{x k:Nat}(h:Is l x)(I:Rd w A n c l)(J:x<BB^k):n<=k:=by
 rw[<-I.len];exact h.len J
theorem zNw(A:Option Addr)(n c:Nat)(l:List Nat)(A':Option Addr)(n' c':Nat)(l':List Nat)(w:WB)(h:Rd w A n c l)(h':Rd w A' n' c' l')(ht:Lt l)(ht':Lt l')(hn:n<=10000)(hn':n'<=10000)(h0:0<val l'):
  Calls prog 81 #[.slice A n c,.slice A' n' c'] w (zHU w (val l) (val l')):=by
 have hle:=h.le;have hcap:=h.cap;have hle':=h'.le;have hcap':=h'.cap
 have HN:=hid h.len;have HN':=hid h'.len
 have v1:=qO ht;have v2:=qO ht'
 rw[h.len]at v1;rw[h'.len]at v2
 have hmk:∀wx:WB,(Instr.makeSlice 28 (.int .i64 (n:Int)) (.int .i64 (n:Int))).run prog wx=.ok (.slice (some ⟨wx.heap.size,0,none⟩) n n) (wx.alloc (.cells (madeCells #[.int .u32 0] n) 81)):=fun wx=>zA0 n oA wx
 obtain⟨a,ha⟩:∃a,val l=a:=⟨_,rfl⟩
 obtain⟨b,hb⟩:∃b,val l'=b:=⟨_,rfl⟩
 have htr:=fun(W:WB) (hB:Below w.heap.size w W)=>jK A' n' c' l' W (h'.below hB) ht' oA
 rw[ha]at v1 ⊢
 rw[hb]at v2 h0 ⊢
 simp only[hb]at htr
 have HA:=hid ha;have HB:=hid hb
 clear ha hb
 go_enter func81,ntmps81
 go_wp2_with fail
 refine(htr _ (xF _ _)).mono ?_
 rintro e w1 ⟨A1,n1,c1,l1,rfl,hi1,hr1,hb1⟩
 have hn1:0<n1:=by rw[<-hr1.len];exact hi1.pos_iff.1 h0
 have hn1b:n1<=n':=zB8 hi1 hr1 v2
 go_wp2_with fail
 have bM:Below w.heap.size w (w1.alloc (.cells (madeCells #[.int .u32 0] n) 81)):=hb1.alloc hb1.size _
 have aM:=Arr.new w1 n
 refine(htr _ bM).mono ?_
 rintro e w2 ⟨A2,n2,c2,l2,rfl,hi2,hr2,hb2⟩
 obtain rfl:n2=n1:=by rw[<-hr2.len,<-hr1.len,hi2.inj hi1]
 have hge1:BB^(n2-1)<=b:=by
  have:=zGS hi2.tr (by intro e;rw[e]at hi2;have:=hi2.val;simp at this;omega)
  rwa [hr2.len,hi2.val]at this
 obtain⟨m0,hm0⟩:∃m0:Nat,max (0:Int) ((n:Int)-(n2:Int)+1)=(m0:Int):=⟨(max (0:Int) ((n:Int)-(n2:Int)+1)).toNat,oA⟩
 have hm1:m0<=n:=oA
 have hm2:n-m0<=n2-1:=oA
 have hB2:=bM.trans (hb2.mono bM.size)
 have aM2:Arr w2 w1.heap.size (List.replicate n 0):=aM.kept (hb2.block _ aM.lt)
 have hsl:=fun wx=>zFm A n c m0 hm1 wx
 have hrd:=(h.below hB2).drop hm1
 have hv0:val (l.drop m0)=a/BB^m0:=by
  have e1:=jV l m0 (by have:=HN.out;omega)
  have e2:=qO (zBC ht m0)
  rw[uG,uT (by have:=HN.out;omega)]at e2
  rw[<-HA.out,e1,gH _ _ (zB3 m0),uP e2,uK]
 have hvb:a/BB^m0<b:=by
  rw[<-hv0]
  have e1:=qO (zGM ht m0)
  rw[uS,HN.out]at e1
  exact vW e1 (xQ (vZ qA hm2) hge1)
 obtain⟨Ad,hAd⟩:∃Ad,(if c=m0 then A else A.map (·.add m0))=Ad:=⟨_,rfl⟩
 rw[hAd]at hrd
 simp only[hAd]at hsl
 have HV0:=hid hv0
 clear hAd hv0 hge1
 have hld:([]:List Nat).length+(l.drop m0).length<=17592186044416:=by have:=HN.out;simp;omega
 have hl1:([]++l.drop m0).length=n-m0:=by have:=HN.out;simp;omega
 have hown:z7 (w2.alloc (.cells #[] 81)) w2.heap.size 81 (.slice (some ⟨w2.heap.size,0,none⟩) 0 0) []:=fH (base:=w2.heap.size) (e:=81) (size:=1) w2 #[] 0 (vR _) (by unfold maxLen;omega) rfl
 have hrd1:=hrd.alloc (.cells #[] 81)
 go_wp2_with (at_builtin;refine zS rfl _ _ 28 81 rfl yB yS w2.heap.size _ [] rfl hown _ (n-m0) (c-m0) (l.drop m0) rfl hrd1 hld eN ?_;intro v3 w3 hown3 hg3 hat3;obtain⟨A3,c3,rfl⟩:=hown3.form' hl1)
 rw[eZ]at hown3
 have hb3:=z7.grown ((xF w2.heap.size w2).alloc (vR _) _) hown hg3 (vR _) eN
 have hB3:=hB2.trans (hb3.mono hB2.size)
 have htr3:=jK A3 (n-m0) c3 (l.drop m0) w3 hown3.rd (zGM ht m0) oA
 rw[HV0.out]at htr3
 refine htr3.mono ?_
 rintro e w4 ⟨A4,n4,c4,l4,rfl,hi4,hr4,hb4⟩
 have hB4:=hB3.trans (hb4.mono hB3.size)
 have d24:=hb3.trans (hb4.mono hb3.size)
 have a4:Arr w4 w1.heap.size (List.replicate n 0):=aM2.kept (d24.block _ aM2.lt)
 have hD0:DivAt a b (32*m0) (val (List.replicate n 0)) (a/BB^m0):=by
  rw[zAl,zFW]
  exact DivAt.start (by rw[<-zFW];exact hvb)
 have HD0:=hid hD0
 have hQ:w.heap.size<=w1.heap.size:=hb1.size
 clear hD0 hmk hsl hown hown3 hg3 hat3 hrd hrd1 htr3 hb3 hb4 hB2 hB3 d24 aM aM2 bM hb1 hb2 hr1 hr2 hi1 hi2 hld hl1 hm2 hvb
 generalize w1.heap.size=Q at*
 go_wp2
 go_loopw [9,10] (zOJ w Q n a b) (fun _ i _=>(intOf i+1).toNat)
 case atStart=>exact⟨32*m0,List.replicate n 0,A4,n4,c4,l4,_,sE,oA,rfl,hi4,hr4,a4,eN,jU _,HD0.out,hB4⟩
 case round=>
  clear hi4 hr4 a4 hB4 HD0
  obtain⟨i,lo,Ar,nr,cr,lr,r,rfl,hin,rfl,hir,hrr,haQ,hlo,hlt,hDv,hB⟩:=hrel
  have HDV:=hid hDv;have HLO:=hid hlo
  clear hDv hlo
  rcases uJ i with rfl|hi0
  .have hfin:=HDV.out.done
   have HF:=hid hfin
   clear hfin
   have t1:=jK (some ⟨Q,0,none⟩) n n lo wr (haQ.rd HLO.out oA) hlt oA
   rw[HF.out.1]at t1
   have nrl:nr<=n':=zB8 hir hrr (nG HDV.out.less v2)
   have t2:=fun(W:WB) (hb:Below wr.heap.size wr W)=>jK Ar nr cr lr W (hrr.below hb) hir.lt oA
   rw[hir.val,HF.out.2]at t2
   go_wp2_with fail
   refine t1.mono ?_
   rintro e w5 ⟨A5,n5,c5,l5,rfl,hi5,hr5,hb5⟩
   go_wp2_with fail
   refine(t2 _ hb5).mono ?_
   rintro e w6 ⟨A6,n6,c6,l6,rfl,hi6,hr6,hb6⟩
   go_wp2_with fail
   go_ret3
   have t3:=hB.trans (hb5.mono hB.size)
   exact⟨A5,n5,c5,l5,A6,n6,c6,l6,rfl,hi5,hr5.below hb6,hi6,hr6,t3.trans (hb6.mono t3.size)⟩
  .obtain⟨j,rfl⟩:∃j,i=j+1:=⟨i-1,oA⟩
   have ej:((j+1:Nat):Int)-1=(j:Int):=oA
   rw[ej]
   have hjn:j/32<n:=oA
   have hbv:=zQ7 ht j
   rw[HA.out]at hbv
   have hnx:=HDV.out.next
   have hsb:=zPQ (i:=j) hlt (by have:=HLO.out;omega) HDV.out.low
   have hlow:=HDV.out.low
   have hless:=HDV.out.less
   have hr':=h.below hB
   obtain⟨bb,oo,rfl,hcb⟩:=hr'.cells (j/32) hjn
   have x1:=qK ht (j/32)
   simp only[BB]at x1
   obtain⟨x,hx⟩:∃x,lm l (j/32)=x:=⟨_,rfl⟩
   rw[hx]at x1 hcb hbv
   obtain⟨t,hte⟩:∃t,j%32=t:=⟨_,rfl⟩
   have ht32:t<32:=oA
   obtain⟨cb,hcbe⟩:∃cb,a/2^j%2=cb:=⟨_,rfl⟩
   have hcb2:cb<2:=oA
   rw[hte,hcbe]at hbv
   rw[hcbe]at hnx
   rw[hte]at hsb
   obtain⟨o,z,ho,ho2,hoz,hz2,hvz⟩:=hsb
   have j1:(j:Int).tdiv 32=((j/32:Nat):Int):=by rw[pP oA];omega
   have j2:(j:Int)/32=((j/32:Nat):Int):=oA
   have j3:(j:Int).tmod 32=(t:Int):=by rw[nE oA];omega
   have j4:(j:Int)%32=(t:Int):=oA
   obtain⟨jq,hjq⟩:∃jq,j/32=jq:=⟨_,rfl⟩
   rw[hjq]at j1 j2 hjn hcb ho hvz
   have gq:wr.cell? ⟨Q,jq,none⟩=some (.int .u32 (o:Int)):=by have:=haQ.cell (i:=jq) (by have:=HLO.out;omega);rwa [ho]at this
   have gf:=haQ.frozen jq
   obtain⟨y,hy⟩:∃y,x/2^t=y:=⟨_,rfl⟩
   have hshr:(x:Int)/2^t=(y:Int):=by
    rw[<-hy,nD,pN]
    rfl
   have hyl:y<4294967296:=by rw[<-hy];exact mC (nO _ _) x1
   rw[hy]at hbv
   have hand:=zH2 y hyl
   rw[hbv]at hand
   obtain⟨pt,hpt⟩:∃pt,2^t=pt:=⟨_,rfl⟩
   rw[hpt]at hoz
   have hptl:pt<4294967296:=by rw[<-hpt];exact mC (vZ oA (show t<=31 from oA)) rY
   have hshl:(2:Int)^t%4294967296=(pt:Int):=by
    rw[<-hpt,pN]
    have:((2^t:Nat):Int)<4294967296:=by rw[hpt];omega
    rw[pN]at this
    exact Int.emod_eq_of_lt (Int.pow_nonneg oA) this
   have nrl:nr<=n':=zB8 hir hrr (nG hless v2)
   have HNX:=hid hnx;have HVZ:=hid hvz;have HLOW:=hid hlow
   have hup:=zNp Ar nr cr lr r wr hrr hir oA
   clear hx hte hcbe ho hjq hy hpt hnx hvz hlow hbv ej HDV
   have hcs:(cb=0∨cb=1):=oA
   have hfin:∀(W:WB) (i':Int) (lo':List Nat) (q' r':Nat) (A7:Option Addr) (n7 c7:Nat) (l7:List Nat),i'=(j:Int)-1->lo'.length=n->Lt lo'->val lo'=q'->DivAt a b j q' r'->Is l7 r'->Rd W A7 n7 c7 l7->Arr W Q lo'->Below w.heap.size w W->zOJ w Q n a b (.slice A7 n7 c7) (.int .i64 i') W:=by
    rintro W i' lo' q' r' A7 n7 c7 l7 rfl g1 g2 rfl g4 g5 g6 g7 g8
    exact⟨j,lo',A7,n7,c7,l7,r',rfl,oA,rfl,g5,g6,g7,g1,g2,g4,g8⟩
   have HFIN:=hid hfin
   clear hfin
   rcases hcs with rfl|rfl
   .obtain⟨k1,k2⟩:=HNX.out
    have K1:=hid k1;have K2:=hid k2
    clear k1 k2 HNX
    have hbq:((0:Nat):Int)=0:=rfl
    rw[hbq]at hand
    clear hbq
    have hup2:2*r<BB^(n'+1):=by rw[vY];unfold BB at*;omega
    rcases xZ (2*r+0) b with hlt2|hge2
    .have D1:=hid (K1.out hlt2)
     go_wp2_with fail
     refine hup.mono ?_
     rintro e w5 ⟨A5,n5,c5,l5,rfl,hi5,hr5,hb5⟩
     have n5l:n5<=n'+1:=zB8 hi5 hr5 hup2
     have hcb5:w5.cell? ⟨bb,oo+jq,none⟩=some (.int .u32 (x:Int)):=(hb5.cell (p:=⟨bb,oo+jq,none⟩) (zU hcb)).trans hcb
     have aQ5:Arr w5 Q lo:=haQ.kept (hb5.block _ haQ.lt)
     have B5:=hB.trans (hb5.mono hB.size)
     have hsu:=zEL A5 n5 c5 l5 A' n' c' l' w5 hr5 (h'.below B5) hi5.lt ht' (by rw[hi5.val,HB.out];omega)
     go_wp2_with fail
     refine hsu.mono ?_
     rintro e w7 ⟨rfl,rfl⟩
     go_wp2_with fail
     go_roundw
     case rel=>exact HFIN.out _ _ lo _ _ _ _ _ _ sE HLO.out hlt rfl D1.out hi5 hr5 aQ5 B5
     case measure=>simp[intOf]
    .have D2:=hid (K2.out hge2)
     go_wp2_with fail
     refine hup.mono ?_
     rintro e w5 ⟨A5,n5,c5,l5,rfl,hi5,hr5,hb5⟩
     have n5l:n5<=n'+1:=zB8 hi5 hr5 hup2
     have hcb5:w5.cell? ⟨bb,oo+jq,none⟩=some (.int .u32 (x:Int)):=(hb5.cell (p:=⟨bb,oo+jq,none⟩) (zU hcb)).trans hcb
     have aQ5:Arr w5 Q lo:=haQ.kept (hb5.block _ haQ.lt)
     have B5:=hB.trans (hb5.mono hB.size)
     have hsu:=zI3 A5 n5 c5 l5 A' n' c' l' w5 hr5 (h'.below B5) hi5.lt ht' (by rw[hi5.val,HB.out];omega) oA
     rw[hi5.val,HB.out]at hsu
     go_wp2_with fail
     refine hsu.mono ?_
     rintro e w7 ⟨A7,n7,c7,l7,rfl,hi7,ho7,hb7⟩
     have hr7:=ho7.rd;have hf7:=zHp ho7
     clear ho7
     have aQ7:Arr w7 Q lo:=aQ5.kept (hb7.block _ aQ5.lt)
     have B7:=B5.trans (hb7.mono B5.size)
     have gq7:w7.cell? ⟨Q,jq,none⟩=some (.int .u32 (o:Int)):=(bO (show w7.heap[Q]?=wr.heap[Q]? from(show w7.heap[Q]?=_ from aQ7).trans (show wr.heap[Q]?=_ from haQ).symm)).trans gq
     have gf7:=aQ7.frozen jq
     have HEND:Hid (zOJ w Q n a b (.slice A7 n7 c7) (.int .i64 ((j:Int)-1)) (w7.setCell ⟨Q,jq,none⟩ (.int .u32 (z:Int)))):=hid (HFIN.out _ _ (lo.set jq z) _ _ _ _ _ _ rfl (by rw[uC];exact HLO.out) (zCw hlt hz2) HVZ.out D2.out hi7 (zLg hr7 hb7 aQ7 jq _ (fun b o e _=>by have:=hf7 b o e;have:=aQ5.lt;omega)) (aQ7.set jq z) (B7.setCell (p:=⟨Q,jq,none⟩) hQ _))
     go_wp2_with fail
     exact⟨HEND.out,by simp[intOf]⟩
   .obtain⟨k1,k2⟩:=HNX.out
    have K1:=hid k1;have K2:=hid k2
    clear k1 k2 HNX
    have hbq:((1:Nat):Int)=1:=rfl
    rw[hbq]at hand
    clear hbq
    have hup2:2*r<BB^(n'+1):=by rw[vY];unfold BB at*;omega
    rcases xZ (2*r+1) b with hlt2|hge2
    .have D1:=hid (K1.out hlt2)
     go_wp2_with fail
     refine hup.mono ?_
     rintro e w5 ⟨A5,n5,c5,l5,rfl,hi5,hr5,hb5⟩
     have n5l:n5<=n'+1:=zB8 hi5 hr5 hup2
     have hcb5:w5.cell? ⟨bb,oo+jq,none⟩=some (.int .u32 (x:Int)):=(hb5.cell (p:=⟨bb,oo+jq,none⟩) (zU hcb)).trans hcb
     have aQ5:Arr w5 Q lo:=haQ.kept (hb5.block _ haQ.lt)
     have B5:=hB.trans (hb5.mono hB.size)
     have r1:=Rd.one w5 1 81
     have ds:=Rds.two (hr5.alloc (.cells #[.int .u32 1] 81)) hi5.lt oA r1 (fun y hy=>by simp at hy;subst hy;decide) rY 28
     have bS:Below w5.heap.size w5 ((w5.alloc (.cells #[.int .u32 1] 81)).alloc (.cells #[.slice A5 n5 c5,.slice (some ⟨w5.heap.size,0,none⟩) 1 1] 28)):=((xF _ w5).alloc (vR _) _).alloc eN _
     have had:=zEk _ 2 2 _ _ ds rY
     simp only[cF,cO,mQ,mR,hi5.val,show val [1]=1 from rfl,uM,cB]at had
     go_wp2_with fail
     refine had.mono ?_
     rintro e w6 ⟨A6,n6,c6,l6,rfl,hi6,hr6,hb6⟩
     have b56:=bS.trans (hb6.mono bS.size)
     have n6l:n6<=n'+2:=zB8 hi6 hr6 (by rw[vY];unfold BB at*;omega)
     have aQ6:Arr w6 Q lo:=aQ5.kept (b56.block _ aQ5.lt)
     have B6:=B5.trans (b56.mono B5.size)
     have hsu:=zEL A6 n6 c6 l6 A' n' c' l' w6 hr6 (h'.below B6) hi6.lt ht' (by rw[hi6.val,HB.out];omega)
     go_wp2_with fail
     refine hsu.mono ?_
     rintro e w7 ⟨rfl,rfl⟩
     go_wp2_with fail
     go_roundw
     case rel=>exact HFIN.out _ _ lo _ _ _ _ _ _ sE HLO.out hlt rfl D1.out hi6 hr6 aQ6 B6
     case measure=>simp[intOf]
    .have D2:=hid (K2.out hge2)
     go_wp2_with fail
     refine hup.mono ?_
     rintro e w5 ⟨A5,n5,c5,l5,rfl,hi5,hr5,hb5⟩
     have n5l:n5<=n'+1:=zB8 hi5 hr5 hup2
     have hcb5:w5.cell? ⟨bb,oo+jq,none⟩=some (.int .u32 (x:Int)):=(hb5.cell (p:=⟨bb,oo+jq,none⟩) (zU hcb)).trans hcb
     have aQ5:Arr w5 Q lo:=haQ.kept (hb5.block _ haQ.lt)
     have B5:=hB.trans (hb5.mono hB.size)
     have r1:=Rd.one w5 1 81
     have ds:=Rds.two (hr5.alloc (.cells #[.int .u32 1] 81)) hi5.lt oA r1 (fun y hy=>by simp at hy;subst hy;decide) rY 28
     have bS:Below w5.heap.size w5 ((w5.alloc (.cells #[.int .u32 1] 81)).alloc (.cells #[.slice A5 n5 c5,.slice (some ⟨w5.heap.size,0,none⟩) 1 1] 28)):=((xF _ w5).alloc (vR _) _).alloc eN _
     have had:=zEk _ 2 2 _ _ ds rY
     simp only[cF,cO,mQ,mR,hi5.val,show val [1]=1 from rfl,uM,cB]at had
     go_wp2_with fail
     refine had.mono ?_
     rintro e w6 ⟨A6,n6,c6,l6,rfl,hi6,hr6,hb6⟩
     have b56:=bS.trans (hb6.mono bS.size)
     have n6l:n6<=n'+2:=zB8 hi6 hr6 (by rw[vY];unfold BB at*;omega)
     have aQ6:Arr w6 Q lo:=aQ5.kept (b56.block _ aQ5.lt)
     have B6:=B5.trans (b56.mono B5.size)
     have hsu:=zI3 A6 n6 c6 l6 A' n' c' l' w6 hr6 (h'.below B6) hi6.lt ht' (by rw[hi6.val,HB.out];omega) oA
     rw[hi6.val,HB.out]at hsu
     go_wp2_with fail
     refine hsu.mono ?_
     rintro e w7 ⟨A7,n7,c7,l7,rfl,hi7,ho7,hb7⟩
     have hr7:=ho7.rd;have hf7:=zHp ho7
     clear ho7
     have aQ7:Arr w7 Q lo:=aQ6.kept (hb7.block _ aQ6.lt)
     have B7:=B6.trans (hb7.mono B6.size)
     have gq7:w7.cell? ⟨Q,jq,none⟩=some (.int .u32 (o:Int)):=(bO (show w7.heap[Q]?=wr.heap[Q]? from(show w7.heap[Q]?=_ from aQ7).trans (show wr.heap[Q]?=_ from haQ).symm)).trans gq
     have gf7:=aQ7.frozen jq
     have HEND:Hid (zOJ w Q n a b (.slice A7 n7 c7) (.int .i64 ((j:Int)-1)) (w7.setCell ⟨Q,jq,none⟩ (.int .u32 (z:Int)))):=hid (HFIN.out _ _ (lo.set jq z) _ _ _ _ _ _ rfl (by rw[uC];exact HLO.out) (zCw hlt hz2) HVZ.out D2.out hi7 (zLg hr7 hb7 aQ7 jq _ (fun b o e _=>by have:=hf7 b o e;have:=aQ6.lt;omega)) (aQ7.set jq z) (B7.setCell (p:=⟨Q,jq,none⟩) hQ _))
     go_wp2_with fail
     exact⟨HEND.out,by simp[intOf]⟩
attribute [local go_sem] Oper.semAt_some qD yA
end Go.Proofs.Wd
