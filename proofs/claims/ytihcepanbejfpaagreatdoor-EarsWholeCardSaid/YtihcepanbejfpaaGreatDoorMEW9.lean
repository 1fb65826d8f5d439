/- An array of limbs of the call's own, known whole; slices.Backward; A r and what it needs. -/
import Derived.Test.YtihcepanbejfpaaGreatDoorMEW7
import Derived.Deep.OwnRows
abbrev nZ:=@List.length_replicate
abbrev pA:=@List.drop_of_length_le
abbrev pB:=@Int.tmod_eq_emod_of_nonneg
abbrev pC:=@Int.natCast_mul
abbrev pD:=@Int.natCast_ediv
abbrev pE:=@Nat.sub_zero
abbrev pH:=@Nat.lt_trans
abbrev pI:=@Nat.sub_self
abbrev pJ:=@Int.natCast_emod
abbrev pK:=@Nat.mul_left_comm
abbrev pL:=@Nat.mul_lt_mul_of_lt_of_le
abbrev pM:=@List.map_const'
abbrev pN:=@Array.getElem?_toList
namespace Go.Proofs.Wd
open Tryz
variable {W W' w:WB}{R a b c i j k m n o x z:Nat}{l l' l3 lb:List Nat}{A:WG Addr}{v:WE}{s s':Bool}{is:List (Bool×List Nat)}
set_option maxRecDepth 100000
set_option maxHeartbeats 1000000
open Go.RowKit Lb
attribute [local go_sem] Oper.semAt_some qL yG
def Arr(W:WB)(b:Nat)(l:List Nat):Prop:=W.heap[b]?=some (.cells (zBQ l).toArray 69 (0,0))
theorem Arr.lt(h:Arr W b l):b<W.heap.size:=(xQ.1 h).1
theorem Arr.cell(h:Arr W b l){i:Nat}(hi:i<l.length):W.cell? ⟨b,i,none⟩=some (.int .u32 (lm l i)):=by
 unfold World.cell?
 rw[show W.heap[b]?=_ from h]
 simp only[xO,xL,xJ,xP]
 exact zDo l i hi
theorem Arr.frozen(h:Arr W b l)(i:Nat):W.frozen? ⟨b,i,none⟩=false:=by
 unfold World.frozen?
 rw[show W.heap[b]?=_ from h]
 simp
theorem Arr.set(h:Arr W b l)(i x:Nat):Arr (W.setCell ⟨b,i,none⟩ (.int .u32 (x:Int))) b (l.set i x):=by
 unfold Arr at h ⊢
 have e:(zBQ (l.set i x)).toArray=(zBQ l).toArray.setIfInBounds i (.int .u32 (x:Int)):=by
  simp[zBQ,List.map_set]
 rw[e]
 obtain⟨I,J⟩:=xQ.1 h
 show(W.heap.modify b _)[b]?=_
 rw[cD (by rw[eX];exact I),nX,J]
 simp
theorem Arr.kept(h:Arr W b l)(I:W'.heap[b]?=W.heap[b]?):Arr W' b l:=I.trans h
theorem Arr.alloc(h:Arr W b l)(o:Obj):Arr (W.alloc o) b l:=h.kept (eU W o b h.lt)
theorem Arr.far(h:Arr W b l){p:Addr}(I:b≠p.block)(u:WE):Arr (W.setCell p u) b l:=h.kept (cV W p u b I)
theorem Arr.rd(h:Arr W b l){n:Nat}(I:l.length=n)(hb:n<=9223372036854775807):Rd W (some ⟨b,0,none⟩) n n l:=
 ⟨I,vQ _,hb,fun e=>(by cases e),fun i hi=>⟨b,0,rfl,by rw[uM];exact h.cell oA⟩⟩
theorem Arr.abide{row:WG Nat}{C:Nat}(h:Arr W b l)(J:W.grownBy W' row)(O:∀r,row=some r->C<=r/\∃o:Obj,W.heap[r]?=some o/\o.isCells=false):Arr W' b l:=
 h.kept (J.block b h.lt fun e=>by
  obtain⟨_,o,I,U⟩:=O b e.symm
  rw[show W.heap[b]?=_ from h]at I
  cases I
  cases U)
theorem zJt(n:Nat):madeCells #[.int .u32 0] n=(zBQ (List.replicate n 0)).toArray:=by
 apply Array.ext'
 simp[madeCells,zBQ,gP,pM]
theorem Arr.new(W:WB)(n:Nat):Arr (W.alloc (.cells (madeCells #[.int .u32 0] n) 69)) W.heap.size (List.replicate n 0):=by
 rw[zJt]
 exact xM W _
theorem zS3(W:WB)(n:Nat){b:Nat}(hb:b=W.heap.size):Arr (W.alloc (.cells (madeCells #[.int .u32 0] n) 69)) b (List.replicate n 0):=by
 subst hb
 exact Arr.new W n
theorem zBq(n:Nat)(h:n<=17592186044416)(w:WB):
  (Instr.makeSlice 24 (.int .i64 (n:Int)) (.int .i64 (n:Int))).run prog w=.ok (.slice (some ⟨w.heap.size,0,none⟩) n n) (w.alloc (.cells (madeCells #[.int .u32 0] n) 69)):=
 run_make_row' 24 69 (.int .u32 0) 4 yH yX rfl .i64 .i64 n oA oA w
theorem zGN(A:WG Addr)(n c:Nat)(l:List Nat)(b1:Nat)(w0:WB)(h:Rd w0 A n c l)
  (hc1:w0.cell? ⟨b1,0,none⟩=some (.slice A n c)){S:Nat->Prop}(hS:∀b,S b->b<w0.heap.size)(hS1:S b1)(hSA:∀b o,0<n->A=some ⟨b,o,none⟩->S b):
  zXC prog 174 #[.pointer (some ⟨b1,0,none⟩)] (fun k=>#[.int .i64 (n-1-k:Nat),.int .u32 (lm l (n-1-k):Nat)]) n (y8 S) Mk (fun _=>True) w0:=by
 intro lp J W hW hJ hY h0
 have hle:=h.le;have hcap:=h.cap
 have hl1:=z7 hc1
 have hw1:=(hW.cell (p:=⟨b1,0,none⟩) hl1).trans hc1
 refine zB1 func174 rfl ?_
 simp only[ntmps174,bN,mO,mP,Nat.reduceAdd,Nat.reduceSub,mQ,mR,mS,mT,lI,mM]
 gi_wp2
 gi_loopw [3] (fun i wr=>∃j:Nat,j<=n/\i=.int .i64 ((j:Int)-1)/\J (n-j) wr/\y8 S w0 wr) (fun i _=>(intOf i+1).toNat)
 case atStart=>exact⟨n,vQ _,rfl,by rw[pI];exact h0,wS hW hS⟩
 case round=>
  obtain⟨j,hj,rfl,hJ1,hb⟩:=hrel
  by_cases hj0:0<j
  .obtain⟨b,o,rfl,hc⟩:=(h.keepS hb hSA).cells (j-1) oA
   have hr1:=(hb.cell (p:=⟨b1,0,none⟩) hS1).trans hc1
   have e1:((j:Int)-1).toNat=j-1:=oA
   obtain⟨fn,tmps,assign,body,hy,hR⟩:=hY (n-j) wr oA hJ1
   rw[show n-1-(n-j)=j-1 from oA,show((j-1:Nat):Int)=(j:Int)-1 from oA]at hy
   have hRn:n-j+1=n-(j-1):=oA
   rw[hRn]at hR
   clear hRn
   gi_wp2
   refine hR.mono ?_
   rintro e W3 ⟨rfl,hJ3,hk3⟩
   clear hy
   gi_wp2
   go_roundw
   case rel=>exact⟨j-1,oA,by congr 1;omega,hJ3,hb.trans hk3⟩
   case measure=>simp[intOf];omega
  .obtain rfl:j=0:=oA
   gi_wp2
   go_end0
   exact⟨⟨_,rfl⟩,hJ1,trivial⟩
theorem zJI(A:WG Addr)(n c:Nat)(w:WB):
  Calls prog 166 #[.slice A n c] w fun e w'=>e=.returned (.func (.func 174) #[] #[.pointer (some ⟨w.heap.size,0,none⟩)])/\
   w.alloc (.cells #[.slice A n c] 24)=w':=by
 go_enter func166,ntmps166
 go_wp2
 go_ret
 exact⟨rfl,rfl⟩
def Row(W:WB)(R c:Nat)(l:List Nat):Prop:=∃cs:Array WE,W.heap[R]?=some (.cells cs 69 (0,0))/\cs.size=c/\l.length<=c/\c<=9223372036854775807/\cs.toList.take l.length=zBQ l
theorem Row.lt(h:Row W R c l):R<W.heap.size:=by
 obtain⟨cs,I,_⟩:=h
 exact(xQ.1 I).1
theorem Row.kept(h:Row W R c l)(I:W'.heap[R]?=W.heap[R]?):Row W' R c l:=by
 obtain⟨cs,J,h2⟩:=h
 exact⟨cs,I.trans J,h2⟩
theorem Row.get{cs:Array WE}(h:cs.toList.take l.length=zBQ l){i:Nat}(hi:i<l.length):cs[i]?=some (.int .u32 (lm l i)):=by
 rw[<-pN,<-lC hi,h]
 exact zDo l i hi
theorem Row.cell(h:Row W R c l){i:Nat}(hi:i<l.length):W.cell? ⟨R,i,none⟩=some (.int .u32 (lm l i)):=by
 obtain⟨cs,I,h2,h3,h4,J⟩:=h
 unfold World.cell?
 rw[I]
 simp only[xO,xL,xJ]
 exact Row.get J hi
theorem Row.frozen(h:Row W R c l)(i:Nat):W.frozen? ⟨R,i,none⟩=false:=by
 obtain⟨cs,I,h2⟩:=h
 unfold World.frozen?
 rw[I]
 simp
theorem Row.cap(h:Row W R c l):l.length<=c/\c<=9223372036854775807:=by
 obtain⟨cs,h1,h2,h3,I,h5⟩:=h
 exact⟨h3,I⟩
theorem Row.set(h:Row W R c l)(i x:Nat):Row (W.setCell ⟨R,i,none⟩ (.int .u32 (x:Int))) R c (l.set i x):=by
 obtain⟨cs,O,h2,h3,J,U⟩:=h
 refine⟨cs.setIfInBounds i (.int .u32 (x:Int)),?_,by simpa using h2,by simpa using h3,J,?_⟩
 .obtain⟨I,hk⟩:=xQ.1 O
  show(W.heap.modify R _)[R]?=_
  rw[cD (by rw[eX];exact I),nX,hk]
  simp
 .rw[uL,Array.toList_setIfInBounds,List.take_set,U]
  simp[zBQ,List.map_set]
theorem Row.rd(h:Row W R c l):Rd W (some ⟨R,0,none⟩) l.length c l:=
 ⟨rfl,h.cap.1,h.cap.2,fun e=>(by cases e),fun i hi=>⟨R,0,rfl,by rw[uM];exact h.cell hi⟩⟩
theorem Row.of_own{base:Nat}(h:yE w base 69 (.slice A n c) l)(hl:0<l.length):∃R,A=some ⟨R,0,none⟩/\n=l.length/\base<=R/\Row w R c l:=by
 obtain⟨h1,h2⟩:=h
 rcases h2 with⟨hv,hn⟩|⟨g,cap,O,hv,hg,hh,I,J,U,ht⟩
 .omega
 .injection hv with a1 a2 a3
  subst a1;subst a3
  exact⟨g,rfl,a2,hg,O,hh,by simpa using U,I,by unfold maxLen at J;omega,by simpa using ht⟩
def win(l:List Nat)(at_ k:Nat):Nat:=sm (fun i=>lm l (at_+i)) k
theorem zAW(l:List Nat)(at_ k:Nat):win l at_ (k+1)=win l at_ k+lm l (at_+k)*BB^k:=rfl
theorem zRW(h:Lt l)(at_ k:Nat):win l at_ k<BB^k:=zJ0 fun _ _=>qQ h _
theorem zKH{at_:Nat}(k:Nat):sm (lm (l.drop at_)) k=win l at_ k:=zAZ fun _ _=>zD0
theorem zMR{at_:Nat}(h:∀i,i<k->lm l (at_+i)=lm l' (at_+i)):win l at_ k=win l' at_ k:=zAZ h
theorem zFM{at_:Nat}:win (l.set (at_+k) z) at_ k=win l at_ k:=by
 refine zMR fun i hi=>?_
 by_cases h:at_+k<l.length
 .rw[zBa h,if_neg oA]
 .rw[List.set_eq_of_length_le oA]
structure LongAt(W:World)(D R rc:Nat)(lr:List Nat)(A:Option Addr)(n c:Nat)(lb:List Nat):Prop where
 box:q7 W D 168 #[.slice (some ⟨R,0,none⟩) lr.length rc,.slice A n c]
 row:Row W R rc lr
 by_:Rd W A n c lb
 ne:D≠R
 far:∀b o,0<n->A=some ⟨b,o,none⟩->b≠R
theorem LongAt.grown{D rc:Nat}{lr I:List Nat}(h:LongAt W D R rc lr A n c lb)(J:W.grownBy W' (some R))(hr:Row W' R rc I)(U:I.length=lr.length):LongAt W' D R rc I A n c lb:=by
 refine⟨?_,hr,?_,h.ne,h.far⟩
 .rw[U]
  exact(J.block D h.box.lt (fun e=>h.ne (by injection e))).trans h.box
 .refine⟨h.by_.len,h.by_.le,h.by_.cap,h.by_.nil,fun i hi=>?_⟩
  obtain⟨b,o,e,O⟩:=h.by_.cells i hi
  exact⟨b,o,e,(bQ (J.block b (z7 O) (fun e'=>h.far b o oA e (by injection e')))).trans O⟩
attribute [local go_sem] Oper.semAt_some qL yG
def zS7(w:WB)(l:List Nat)(m n:Nat)(k:Nat)(W:WB):Prop:=
 ∃lq,∃o:Nat,Arr W (w.heap.size+1+1) lq/\lq.length=n/\Lt lq/\Boxed W (w.heap.size+1) 24 (.slice (some ⟨w.heap.size+1+1,0,none⟩) n n)/\Boxed W w.heap.size 69 (.int .u32 m)/\
  Boxed W (w.heap.size+1+1+1) 91 (.int .u64 o)/\o<m/\val (l.drop (n-k))=m*val (lq.drop (n-k))+o/\Below w.heap.size w W/\w.heap.size+5<=W.heap.size
theorem zAT{t:TypeId}(h:Boxed W b t v){p:Addr}(I:b≠p.block)(u:WE):Boxed (W.setCell p u) b t v:=(cV W p u b I).trans h
theorem Rd.setBox(h:Rd w A n c l){b:Nat}{t:TypeId}{u:WE}(hb:Boxed w b t u)(U:∀x,u≠ .int .u32 x)(v:WE):Rd (w.setCell ⟨b,0,none⟩ v) A n c l:=
 ⟨h.len,h.le,h.cap,h.nil,fun i hi=>by
  obtain⟨b',o,e,I⟩:=h.cells i hi
  refine⟨b',o,e,(nQ _ _ _ _ ?_).trans I⟩
  intro O
  simp only[Addr.mk.injEq,nP]at O
  obtain⟨rfl,J⟩:=O
  first|rw[<-J]at I|rw[J]at I
  rw[Boxed.cell hb]at I
  exact U _ (nM I)⟩
theorem zGT(w:WB)(l:List Nat)(m n:Nat){C:Nat}(hC:w.heap.size<=C):OwnFrom C (zS7 w l m n):=by
 rintro k W W' row ⟨lq,o,ha,hl,U,hq,hb,ho,O,hv,hB,h5⟩ I J
 exact⟨lq,o,ha.abide I J,hl,U,qR hq I J,qR hb I J,qR ho I J,O,hv,zAA hB I (vQ _) hC J,xR h5 I.size⟩
theorem zMf(o x m:Nat)(O:0<m)(hm2:m<4294967296)(J:o<m)(U:x<4294967296):
  ∃d q r:Nat,bits .or .u64 ((o:Int)*4294967296) (x:Int)=(d:Int)/\d<18446744073709551616/\(d:Int)/(m:Int)=(q:Int)/\(d:Int)%(m:Int)=(r:Int)/\q<4294967296/\r<m/\o*4294967296+x=m*q+r:=by
 have I:o*4294967296+x<m*4294967296:=by
  have:(o+1)*4294967296<=m*4294967296:=uF _ J
  omega
 refine⟨o*4294967296+x,(o*4294967296+x)/m,(o*4294967296+x)%m,zFz o x oA U,oA,by rw[pD],by rw[pJ],gJ I,vY _ O,(uY _ _).symm⟩
theorem zNn(A:WG Addr)(n c:Nat)(l:List Nat)(m:Nat)(w:WB)(h:Rd w A n c l)(ht:Lt l)(hm:0<m)(hm2:m<4294967296)(hn:n<=1099511627776):
  Calls prog 161 #[.slice A n c,.int .u32 m] w fun e w'=>∃A1 n1 c1 l1,e=.returned (.tuple #[.slice A1 n1 c1,.int .u32 (val l%m:Nat),.int .i64 0])/\Is l1 (val l/m)/\Rd w' A1 n1 c1 l1/\Below w.heap.size w w':=by
 have hm0:((m:Int)==0)=false:=by simp only[nH,ne_eq];omega
 have hmk:=fun wx=>zBq n oA wx
 refine q6 func161 rfl ?_
 simp only[ntmps161,bN,mO,mP,Nat.reduceAdd,Nat.reduceSub,mQ,mR,mS,mT,lI,mM]
 go_wp2_with (go_at_call 166;refine(zJI A n c _).mono ?_;rintro e w1 ⟨rfl,rfl⟩)
 obtain⟨W0,hW0⟩:∃W0,(((((w.alloc (.cells #[.int .u32 m] 69)).alloc (.cells #[.slice (some ⟨w.heap.size+1+1,0,none⟩) n n] 24)).alloc (.cells (madeCells #[.int .u32 0] n) 69)).alloc (.cells #[.int .u64 0] 91)).alloc (.cells #[.slice A n c] 24))=W0:=⟨_,rfl⟩
 have hsz:W0.heap.size=w.heap.size+5:=by rw[<-hW0];simp
 have hB0:Below w.heap.size w W0:=by rw[<-hW0];exact(((((xG _ w).alloc (vQ _) _).alloc fE _).alloc fM _).alloc fM _).alloc fM _
 have b0:Boxed W0 w.heap.size 69 (.int .u32 m):=by rw[<-hW0];exact(((((zAG _ _ _ fE).alloc _).alloc _).alloc _).alloc _)
 have b1:Boxed W0 (w.heap.size+1) 24 (.slice (some ⟨w.heap.size+1+1,0,none⟩) n n):=by rw[<-hW0];exact((((zAG _ _ _ fE).alloc _).alloc _).alloc _)
 have b2:Arr W0 (w.heap.size+1+1) (List.replicate n 0):=by rw[<-hW0];exact(((zS3 _ n fE).alloc _).alloc _)
 have b3:Boxed W0 (w.heap.size+1+1+1) 91 (.int .u64 0):=by rw[<-hW0];exact((zAG _ _ _ fE).alloc _)
 have b4:Boxed W0 (w.heap.size+1+1+1+1) 24 (.slice A n c):=by rw[<-hW0];exact(zAG _ _ _ fE)
 rw[hW0]
 clear hW0
 have hSb:∀b,(b<w.heap.size∨b=w.heap.size+1+1+1+1)->b<W0.heap.size:=fun b hb=>oA
 refine zFp (gf:=174) rfl (enters_of func174 kA rfl) (zGN A n c l (w.heap.size+1+1+1+1) W0 (h.below hB0) b4.cell (S:=fun b=>b<w.heap.size∨b=w.heap.size+1+1+1+1) hSb (.inr rfl) (fun b o hn e=>.inl (h.in_ b o hn e))) (fun _=>rfl) y8.trans (zEZ hSb)
  (zS7 w l m n) (zGT w l m n oA) (zCo (zGT w l m n (vQ _))) wT (fun _ _ _ _ _ _ _ _=>trivial)
  ⟨List.replicate n 0,0,b2,fG,j5 n,b1,b0,b3,hm,by rw[pE,pA (by rw[h.len];omega),pA fE];rfl,hB0,oA⟩
  (fun k=>{ tmps:=#[.slice A n c,.int .u32 m,undef,.pointer (some ⟨w.heap.size,0,none⟩),.pointer (some ⟨w.heap.size+1,0,none⟩),.int .u32 0,.int .i64 0,.pointer (some ⟨w.heap.size+1+1+1,0,none⟩),.int .i64 (n-1-k:Nat),.int .u32 (lm l (n-1-k):Nat),.int .u32 m,.bool false,.slice A n c,.int .i64 n,.slice (some ⟨w.heap.size+1+1,0,none⟩) n n,.slice A n c,.func (.func 174) #[] #[.pointer (some ⟨w.heap.size+1+1+1+1,0,none⟩)],.int .i64 (n-1-k:Nat),.int .u32 (lm l (n-1-k):Nat),undef,undef,undef,undef,undef,undef,undef,undef,undef,undef,undef,undef,undef,undef,undef,undef,undef,undef,undef,undef,undef],defers:=[] }) ?_ ?_ ?_
 .intro lp k W K hK
  gi_wp2
  exact hK
 .rintro lp k W hk ⟨lq,o,ha,hlq,hltq,hq,hb,ho,hom,hv,hB,h5⟩
  obtain⟨j,hj,hjn⟩:∃j,n-1-k=j/\j<n/\n-k=j+1/\n-(k+1)=j:=⟨n-1-k,rfl,oA,oA,oA⟩
  rw[hj]
  clear hj
  have hcq:=hq.cell;have hfq:=hq.frozen;have hcb:=hb.cell;have hco:=ho.cell;have hfo:=ho.frozen
  have x1:=qQ ht j
  simp only[BB]at x1
  have hcj:=ha.cell (i:=j) oA
  have hfj:=ha.frozen j
  have hmix:prog.follows .mixedOrders=true:=fJ
  have ho32:o<4294967296:=oA
  obtain⟨d,q,r,hd,hd1,hdq,hdr,hq32,hrm,hstep⟩:=zMf o (lm l j) m hm hm2 hom x1
  have HS:=hid (And.intro hstep hjn)
  have hj0:j<n:=hjn.1
  clear hstep hjn
  gi_wp2
  obtain⟨W9,hW9⟩:∃W9,W.setCell ⟨w.heap.size+1+1+1,0,none⟩ (.int .u64 (d:Int))=W9:=⟨_,rfl⟩
  have ho9:Boxed W9 (w.heap.size+1+1+1) 91 (.int .u64 d):=by rw[<-hW9];exact ho.set _
  have hq9:Boxed W9 (w.heap.size+1) 24 (.slice (some ⟨w.heap.size+1+1,0,none⟩) n n):=by rw[<-hW9];exact hq.other oA _
  have hb9:Boxed W9 w.heap.size 69 (.int .u32 m):=by rw[<-hW9];exact hb.other oA _
  have ha9:Arr W9 (w.heap.size+1+1) lq:=by rw[<-hW9];exact ha.far fE _
  have hk9:KeepsOthers W W9:=by rw[<-hW9];exact bR _ _ _
  have hB9:Below w.heap.size W W9:=by rw[<-hW9];exact(xG _ _).setCell (p:=⟨w.heap.size+1+1+1,0,none⟩) fM _
  have hS9:y8 (fun b=>b<w.heap.size∨b=w.heap.size+1+1+1+1) W W9:=by rw[<-hW9];exact(y8.refl _ _).setCell (p:=⟨w.heap.size+1+1+1,0,none⟩) fM _
  rw[hW9]
  clear hW9 hcq hfq hcb hco hfo hcj hfj
  refine yF 13 (fun W=>W.cell? ⟨w.heap.size+1,0,none⟩=some (.slice (some ⟨w.heap.size+1+1,0,none⟩) n n)/\W.cell? ⟨w.heap.size+1+1+1,0,none⟩=some (.int .u64 d)/\W.cell? ⟨w.heap.size,0,none⟩=some (.int .u32 m)) hmix ?_
  have d1:W9.drew.cell? ⟨w.heap.size+1,0,none⟩=some (.slice (some ⟨w.heap.size+1+1,0,none⟩) n n):=hq9.cell
  have d2:W9.drew.cell? ⟨w.heap.size+1+1+1,0,none⟩=some (.int .u64 d):=ho9.cell
  have d3:W9.drew.cell? ⟨w.heap.size,0,none⟩=some (.int .u32 m):=hb9.cell
  have z1:W9.drew.cell? ⟨w.heap.size+1+1,j,none⟩=some (.int .u32 (lm lq j)):=ha9.cell oA
  have z2:W9.drew.frozen? ⟨w.heap.size+1+1,j,none⟩=false:=ha9.frozen j
  have g1:=mV (m:Int) oA
  have g2:=mV (q:Int) oA
  have g3:=IntWalk.u32_in (q:Int) oA
  have g4: ¬(m:Int)=0:=oA
  have g6: ¬m=0:=oA
  have g5:(q:Int)%4294967296=(q:Int):=oA
  have e2:=ho9.cell;have e3:=ho9.frozen
  have g7:(d:Int).tmod (m:Int)=(r:Int):=by rw[pB (mU d)];exact hdr
  have z3:W9.drew.frozen? ⟨w.heap.size+1+1+1,0,none⟩=false:=ho9.frozen
  refine zP (i:=0) (v:=?vv1) kA kA rfl kA kA kA fD ⟨d1,d2,d3⟩ ⟨.inl ⟨rfl,?yy1⟩,fun _=>rfl⟩ ?_
  case yy1=>
   rintro wx ⟨q1,q2,q3⟩
   go_simp
   first|done|rfl
  refine zP (i:=1) (v:=?vv2) kA kA rfl kA kA kA fD ⟨d1,d2,d3⟩ ⟨.inl ⟨rfl,?yy2⟩,fun _=>rfl⟩ ?_
  case yy2=>
   rintro wx ⟨q1,q2,q3⟩
   go_simp
   first|done|rfl
  refine zP (i:=2) (v:=?vv3) kA kA rfl kA kA kA fD ⟨d1,d2,d3⟩ ⟨.inl ⟨rfl,?yy3⟩,fun _=>rfl⟩ ?_
  case yy3=>
   rintro wx ⟨q1,q2,q3⟩
   go_simp
   first|done|rfl
  refine zP (i:=3) (v:=?vv4) kA kA rfl kA kA kA fD ⟨d1,d2,d3⟩ ⟨.inl ⟨rfl,?yy4⟩,fun _=>rfl⟩ ?_
  case yy4=>
   rintro wx ⟨q1,q2,q3⟩
   go_simp
   first|done|rfl
  refine zP (i:=4) (v:=?vv5) kA kA rfl kA kA kA fD ⟨d1,d2,d3⟩ ⟨.inl ⟨rfl,?yy5⟩,fun _=>rfl⟩ ?_
  case yy5=>
   rintro wx ⟨q1,q2,q3⟩
   go_simp
   first|done|rfl
  refine zP (i:=5) (v:=?vv6) kA kA rfl kA kA kA fD ⟨d1,d2,d3⟩ ⟨.inl ⟨rfl,?yy6⟩,fun _=>rfl⟩ ?_
  case yy6=>
   rintro wx ⟨q1,q2,q3⟩
   go_simp
   first|done|rfl
  refine zP (i:=6) (v:=?vv7) kA kA rfl kA kA kA fD ⟨d1,d2,d3⟩ ⟨.inl ⟨rfl,?yy7⟩,fun _=>rfl⟩ ?_
  case yy7=>
   rintro wx ⟨q1,q2,q3⟩
   go_simp
   first|done|rfl
  refine zP (i:=7) (v:=?vv8) kA kA rfl kA kA kA fD ⟨d1,d2,d3⟩ ⟨.inl ⟨rfl,?yy8⟩,fun _=>rfl⟩ ?_
  case yy8=>
   rintro wx ⟨q1,q2,q3⟩
   go_simp
   first|done|rfl
  refine zP (i:=8) (v:=?vv9) kA kA rfl kA kA kA fD ⟨d1,d2,d3⟩ ⟨.inl ⟨rfl,?yy9⟩,fun _=>rfl⟩ ?_
  case yy9=>
   rintro wx ⟨q1,q2,q3⟩
   go_simp
   first|done|rfl
  refine zP (i:=9) (v:=?vv10) kA kA rfl kA kA kA fD ⟨d1,d2,d3⟩ ⟨.inl ⟨rfl,?yy10⟩,fun _=>rfl⟩ ?_
  case yy10=>
   rintro wx ⟨q1,q2,q3⟩
   go_simp
   first|done|rfl
  refine zP (i:=10) (v:=?vv11) kA kA rfl kA kA kA fD ⟨d1,d2,d3⟩ ⟨.inl ⟨rfl,?yy11⟩,fun _=>rfl⟩ ?_
  case yy11=>
   rintro wx ⟨q1,q2,q3⟩
   go_simp
   first|done|rfl
  refine zP (i:=11) (v:=?vv12) kA kA rfl kA kA kA fD ⟨d1,d2,d3⟩ ⟨.inl ⟨rfl,?yy12⟩,fun _=>rfl⟩ ?_
  case yy12=>
   rintro wx ⟨q1,q2,q3⟩
   go_simp
   first|done|rfl
  refine zAL (i:=12) kA rfl (fun K hK=>?_)
  go_simp
  refine hK _ _ (.inr ?_) ?_
  .exact⟨(nQ _ _ _ _ fE).trans d1,(nQ _ _ _ _ fE).trans d2,(nQ _ _ _ _ fE).trans d3⟩
  clear hK K
  refine zAL (i:=13) kA rfl (fun K hK=>?_)
  go_simp
  refine hK _ _ (.inl rfl) ?_
  clear hK K
  refine zCW kA ?_
  clear g1 g2 g3 g4 g5 g6 g7
  gi_wp2
  have hno:w.heap.size+1+1≠w.heap.size+1+1+1:=oA
  have haF:=(ha9.set j q).far (p:=⟨w.heap.size+1+1+1,0,none⟩) hno (.int .u64 r)
  have hqF:=(hq9.other (B':=w.heap.size+1+1) oA (.int .u32 q))
  have hkF:KeepsOthers W (((W9.setCell ⟨w.heap.size+1+1,j,none⟩ (.int .u32 (q:Int))).setCell ⟨w.heap.size+1+1+1,0,none⟩ (.int .u64 (r:Int))).drew):=(hk9.trans (bR _ _ _)).trans ((bR _ _ _).trans (KeepsOthers.drew _))
  refine⟨hkF.from _,(((hS9.setCell (p:=⟨w.heap.size+1+1,j,none⟩) fM _).setCell (p:=⟨w.heap.size+1+1+1,0,none⟩) fM _).drew),lq.set j q,r,haF,by rw[uL];exact hlq,zDk hltq hq32,?_,?_,?_,hrm,?_,(((hB.trans hB9).setCell (p:=⟨w.heap.size+1+1,j,none⟩) fM _).setCell (p:=⟨w.heap.size+1+1+1,0,none⟩) fM _).drew,xR h5 hkF.size⟩
  .exact zAT (zAT hq9 (p:=⟨w.heap.size+1+1,j,none⟩) fE _) (p:=⟨w.heap.size+1+1+1,0,none⟩) fE _
  .exact zAT (zAT hb9 (p:=⟨w.heap.size+1+1,j,none⟩) fM _) (p:=⟨w.heap.size+1+1+1,0,none⟩) fM _
  .exact(zAT ho9 (p:=⟨w.heap.size+1+1,j,none⟩) fE _).set _
  .obtain⟨hst,_,e1,e2⟩:=HS.out
   rw[e2]
   rw[e1]at hv
   have v1:=zBS (l:=l) (k:=j) (by rw[h.len];omega)
   have v2:=zBS (l:=lq.set j q) (k:=j) (by rw[uL];omega)
   have hds:(lq.set j q).drop (j+1)=lq.drop (j+1):=List.drop_set_of_lt oA
   rw[zBa oA,if_pos rfl,hds]at v2
   rw[v1,v2,hv,uH,uH,pK m BB]
   simp only[BB]
   omega
 .rintro D W hD ⟨lq,o,ha,hlq,hltq,hq,hb,ho,hom,hv,hB,h5⟩ _ hd
  have hmix:prog.follows .mixedOrders=true:=fJ
  go_wp2_with fail
  refine(bL (n:=0)).1<|yF 100 (fun W=>W.cell? ⟨w.heap.size+1+1+1,0,none⟩=some (.int .u64 o)) hmix ?_
  have d1:W.drew.cell? ⟨w.heap.size+1+1+1,0,none⟩=some (.int .u64 o):=ho.cell
  have hcq:=hq.cell;have hfq:=hq.frozen
  have g1:(o:Int)%4294967296=(o:Int):=oA
  have g2:=IntWalk.u32_in (o:Int) oA
  refine zP (i:=2) (v:=?vv13) kA kA rfl kA kA kA fD d1 ⟨.inl ⟨rfl,?yy13⟩,fun _=>rfl⟩ ?_
  case yy13=>
   rintro wx q1
   go_simp
   first|done|rfl
  refine zP (i:=3) (v:=?vv14) kA kA rfl kA kA kA fD d1 ⟨.inl ⟨rfl,?yy14⟩,fun _=>rfl⟩ ?_
  case yy14=>
   rintro wx q1
   go_simp
   first|done|rfl
  refine zAL (i:=0) kA rfl (fun K hK=>?_)
  go_simp
  refine hK _ _ (.inr d1) ?_
  clear hK K
  refine zAL (i:=1) kA rfl (fun K hK=>?_)
  go_simp
  have hrA:=(ha.rd hlq oA).drew
  refine bG (bB.2 (qX _ n n lq W.drew hrA hltq hn)) ?_
  rintro e w2 ⟨A2,n2,c2,l2,rfl,hi2,hr2,hb2⟩
  have hq2:Boxed w2 (w.heap.size+1) 24 (.slice (some ⟨w.heap.size+1+1,0,none⟩) n n):=(hb2.block _ hq.lt).trans hq
  have ho2:Boxed w2 (w.heap.size+1+1+1) 91 (.int .u64 o):=(hb2.block _ ho.lt).trans ho
  have hc2:=hq2.cell;have hf2:=hq2.frozen
  refine hK _ _ (.inr ho2.cell) ?_
  clear hK K
  refine zAL (i:=4) kA rfl (fun K hK=>?_)
  go_simp
  refine hK _ _ (.inr ((ho2.other oA _).cell)) ?_
  clear hK K
  refine zAL (i:=5) kA rfl (fun K hK=>?_)
  go_simp
  refine hK _ _ (.inr ((ho2.other oA _).cell)) ?_
  clear hK K
  refine zAL (i:=6) kA rfl (fun K hK=>?_)
  go_simp
  refine hK _ _ (.inr ((ho2.other oA _).cell)) ?_
  clear hK K
  refine zCW kA ?_
  go_wp2
  have hw3:Boxed (w2.setCell ⟨w.heap.size+1,0,none⟩ (.slice A2 n2 c2)) (w.heap.size+1) 24 (.slice A2 n2 c2):=hq2.set _
  have hM:Marks (w.heap.size) (w2.setCell ⟨w.heap.size+1,0,none⟩ (.slice A2 n2 c2)) [mark D] [D]:=(((Marks.nil w.heap.size W).more (D:=D) fE oA hd).made ((xG _ W).drew.trans hb2)).others (bR _ _ _)
  have hb3:Below w.heap.size w (w2.setCell ⟨w.heap.size+1,0,none⟩ (.slice A2 n2 c2)):=(hB.trans (((xG _ W).drew.trans hb2).mono hB.size)).setCell (p:=⟨w.heap.size+1,0,none⟩) fE _
  have hr3:Rd (w2.setCell ⟨w.heap.size+1,0,none⟩ (.slice A2 n2 c2)) A2 n2 c2 l2:=hr2.setBox hq2 (fun _=>fG) _
  have h6:val l=m*val lq+o:=by
   rw[pI,nJ,nJ]at hv
   exact hv
  have h7:val l/m=val lq:=by rw[h6,gL hm,uP hom];rfl
  have h8:val l%m=o:=by rw[h6,xE,uD hom]
  rw[<-h7]at hi2
  refine qH _ (v:=.tuple #[.slice A2 n2 c2,.int .u32 o,.int .i64 0]) (fun w' ho'=>?_) [D] _ _ hM (Oth.refl _ _) ?_
  .have hc4:=(Boxed.oth hw3 ho').cell
   simp[results,go_sem,hc4]
  .intro w' ho
   exact⟨A2,n2,c2,l2,by rw[h8],hi2,hr3.oth ho,zAh hb3 ho (vQ _)⟩
attribute [local go_sem] Oper.semAt_some qL yG
theorem zP0(h:l.length=1):val l=lm l 0:=by
 unfold val
 rw[h]
 simp[sm]
theorem zQ6{v:Nat}(hi:Is l v)(hl:l.length=n)(h0:0<v)(h1:v<BB):n=1:=by
 have e1:=hi.zero_iff
 have e2:=hi.len (k:=1) (by rwa [Nat.pow_one])
 omega
def zJM(w:WB)(a b:Nat):Ending->WB->Prop:=fun e w'=>∃A1 n1 c1 l1 A2 n2 c2 l2,e=.returned (.tuple #[.slice A1 n1 c1,.slice A2 n2 c2,.int .i64 0])/\Is l1 (a/b)/\Rd w' A1 n1 c1 l1/\Is l2 (a%b)/\Rd w' A2 n2 c2 l2/\Below w.heap.size w w'
def zZl(a b:Nat):Prop:=∀(A:WG Addr) (n c:Nat) (l:List Nat) (A':WG Addr) (n' c':Nat) (l':List Nat) (w:WB),Rd w A n c l->Lt l->Rd w A' n' c' l'->Lt l'->val l=a->val l'=b->n<=2000->n'<=2000->
 Calls prog 158 #[.slice A n c,.slice A' n' c'] w (zJM w a b)
theorem zI7(A:WG Addr)(n c:Nat)(l:List Nat)(A':WG Addr)(n' c':Nat)(l':List Nat)(w:WB)(h:Rd w A n c l)(ht:Lt l)(h':Rd w A' n' c' l')(ht':Lt l')(hn:n<=2000)(hn':n'<=2000)(hlt:val l<val l'):
  Calls prog 158 #[.slice A n c,.slice A' n' c'] w (zJM w (val l) (val l')):=by
 have hcmp:decide (zAN (val l) (val l')<0)=true:=by
  unfold zAN
  rw[if_pos oA]
  rfl
 refine q6 func158 rfl ?_
 simp only[ntmps158,bN,mO,mP,Nat.reduceAdd,Nat.reduceSub,mQ,mR,mS,mT,lI,mM]
 have hb0:=(xG _ w).alloc (vQ _) (.cells #[.slice none 0 0] 24)
 have hx0:=cJ w 24 (.slice none 0 0)
 go_wp2_with (first|(go_at_call 124;first|((with_reducible refine(qX A n c l _ (h.below hb0) ht oA).mono ?_);rintro e w2 ⟨A2,n2,c2,l2,rfl,hi2,hr2,hb2⟩;have hb3:=hb0.trans (hb2.mono hb0.size);have hx2:=(hb2.block _ hx0.lt).trans hx0)|((with_reducible refine(qX A' n' c' l' _ (h'.below hb3) ht' oA).mono ?_);rintro e w3 ⟨A3,n3,c3,l3,rfl,hi3,hr3,hb4⟩;have hb5:=hb3.trans (hb4.mono hb3.size);have hx3:Boxed w3 w.heap.size 24 (.slice none 0 0):=(hb4.block _ (Boxed.lt hx2)).trans hx2;have hcx:=hx3.cell;have hfx:=hx3.frozen;have hn3: ¬n3=0:=fun e=>by have:=hi3.zero_iff;rw[hr3.len,e]at this;omega))|(go_at_call 152;refine(zGx A2 n2 c2 l2 A3 n3 c3 l3 _ (hr2.below hb4) hr3 hi2.lt hi3.lt).mono ?_;rw[hi2.val,hi3.val];rintro e w4 ⟨rfl,rfl⟩))
 have hx4:Boxed (w3.setCell ⟨w.heap.size,0,none⟩ (.slice none 0 0)) w.heap.size 24 (.slice none 0 0):=hx3.set _
 have hM:=Marks.nil w.heap.size (w3.setCell ⟨w.heap.size,0,none⟩ (.slice none 0 0))
 refine qH (B:=w.heap.size) (w3.setCell ⟨w.heap.size,0,none⟩ (.slice none 0 0)) (v:=.tuple #[.slice none 0 0,.slice A2 n2 c2,.int .i64 0]) (fun w' ho'=>?_) [] _ _ hM (Oth.refl _ _) ?_
 .have hc4:=(Boxed.oth hx4 ho').cell
  simp[results,go_sem,hc4]
 .intro w' ho
  have hr4:=(hr2.below hb4).setBox hx3 (fun _=>fG) (.slice none 0 0)
  exact⟨none,0,0, [],A2,n2,c2,l2,rfl,by rw[uP hlt];exact Is.nil,wM _,by rw[uD hlt];exact hi2,hr4.oth ho,zAh (hb5.setCell (p:=⟨w.heap.size,0,none⟩) (vQ _) _) ho (vQ _)⟩
theorem zQS(A:WG Addr)(n c:Nat)(l:List Nat)(A':WG Addr)(n' c':Nat)(l':List Nat)(w:WB)(h:Rd w A n c l)(ht:Lt l)(h':Rd w A' n' c' l')(ht':Lt l')(hn:n<=2000)(hn':n'<=2000)(hge:val l'<=val l)(h0:0<val l')(h1:val l'<BB):
  Calls prog 158 #[.slice A n c,.slice A' n' c'] w (zJM w (val l) (val l')):=by
 have hcmp:decide (zAN (val l) (val l')<0)=false:=by
  unfold zAN
  rw[if_neg oA]
  split<;>simp
 have hm1:val l'<4294967296:=h1
 refine q6 func158 rfl ?_
 simp only[ntmps158,bN,mO,mP,Nat.reduceAdd,Nat.reduceSub,mQ,mR,mS,mT,lI,mM]
 have hb0:=(xG _ w).alloc (vQ _) (.cells #[.slice none 0 0] 24)
 have hx0:=cJ w 24 (.slice none 0 0)
 go_wp2_with (first|(go_at_call 124;first|((with_reducible refine(qX A n c l _ (h.below hb0) ht oA).mono ?_);rintro e w2 ⟨A2,n2,c2,l2,rfl,hi2,hr2,hb2⟩;have hb3:=hb0.trans (hb2.mono hb0.size);have hx2:=(hb2.block _ hx0.lt).trans hx0)|go_must ((with_reducible refine(qX A' n' c' l' _ (h'.below hb3) ht' oA).mono ?_);rintro e w3 ⟨A3,n3,c3,l3,rfl,hi3,hr3,hb4⟩;have hb5:=hb3.trans (hb4.mono hb3.size);have hx3:Boxed w3 w.heap.size 24 (.slice none 0 0):=(hb4.block _ (Boxed.lt hx2)).trans hx2;have hcx:=hx3.cell;have hfx:=hx3.frozen;obtain rfl:n3=1:=zQ6 hi3 hr3.len h0 h1;have hr3':=hr3;obtain⟨b3,o3,rfl,_,hcb⟩:=hr3.shape oA;have hle3:=hr3.le;have hcap3:=hr3.cap;have hcb0:=hcb 0 oA;have hlm:lm l3 0=val l':=((zP0 hr3.len).symm.trans hi3.val);rw[hlm,uN]at hcb0;have hn2:n2<=2000:=xR (nV hr2.len.symm) (xR (hi2.len (qV ht)) (by rw[h.len];exact hn))))|(go_at_call 152;refine(zGx A2 n2 c2 l2 _ 1 c3 l3 _ (hr2.below hb4) hr3 hi2.lt hi3.lt).mono ?_;rw[hi2.val,hi3.val];rintro e w4 ⟨rfl,rfl⟩)|(go_at_call 161;refine(zNn A2 n2 c2 l2 (val l') _ (hr2.below hb4) hi2.lt h0 hm1 oA).mono ?_;rw[hi2.val];rintro e w5 ⟨A5,n5,c5,l5,rfl,hi5,hr5,hb6⟩;have hb7:=hb5.trans (hb6.mono hb5.size);have hmod:val l%val l'<4294967296:=pH (vY _ h0) hm1)|(go_at_call 100;refine(zLx (val l%val l') oA _).mono ?_;rintro e w6 ⟨A6,n6,c6,l6,rfl,hi6,hr6,hb8⟩;have hb9:=hb7.trans (hb8.mono hb7.size);have hx6:Boxed w6 w.heap.size 24 (.slice none 0 0):=(hb8.block _ (vV hx3.lt hb6.size)).trans ((hb6.block _ hx3.lt).trans hx3);have hcx6:=hx6.cell;have hfx6:=hx6.frozen))
 have hx7:Boxed (w6.setCell ⟨w.heap.size,0,none⟩ (.slice A5 n5 c5)) w.heap.size 24 (.slice A5 n5 c5):=hx6.set _
 refine qH (B:=w.heap.size) (w6.setCell ⟨w.heap.size,0,none⟩ (.slice A5 n5 c5)) (v:=.tuple #[.slice A5 n5 c5,.slice A6 n6 c6,.int .i64 0]) (fun w' ho'=>?_) [] _ _ (Marks.nil _ _) (Oth.refl _ _) ?_
 .have hc4:=(Boxed.oth hx7 ho').cell
  simp[results,go_sem,hc4]
 .intro w' ho
  exact⟨A5,n5,c5,l5,A6,n6,c6,l6,rfl,hi5,((hr5.below hb8).setBox hx6 (fun _=>fG) _).oth ho,hi6,(hr6.setBox hx6 (fun _=>fG) _).oth ho,zAh (hb9.setCell (p:=⟨w.heap.size,0,none⟩) (vQ _) _) ho (vQ _)⟩
theorem zMt(a b:Nat)(h0:0<b)(h1:b<BB):zZl a b:=by
 intro A n c l A' n' c' l' w h ht J ht' U hb O I
 subst U
 subst hb
 by_cases hlt:val l<val l'
 .exact zI7 A n c l A' n' c' l' w h ht J ht' O I hlt
 .exact zQS A n c l A' n' c' l' w h ht J ht' O I oA h0 h1
theorem zMX(l:List Nat)(p k:Nat)(h:p+k<=l.length):val l=sm (lm l) p+BB^p*win l p k+BB^(p+k)*val (l.drop (p+k)):=by
 rw[j7 l (p+k) h,zHk h,zK0]
 rfl
theorem zPX{p:Nat}(J:l'.length=l.length)(h:p+k<=l.length)(I:∀x,x<p∨p+k<=x->lm l' x=lm l x):val l'+BB^p*win l p k=val l+BB^p*win l' p k:=by
 rw[zMX l p k h,zMX l' p k oA]
 have U:sm (lm l') p=sm (lm l) p:=zAZ fun i hi=>I i (.inl hi)
 have O:val (l'.drop (p+k))=val (l.drop (p+k)):=by
  unfold val
  rw[uK,uK,J]
  exact zAZ fun i _=>by rw[zD0,zD0];exact I _ (.inr oA)
 rw[U,O]
 omega
theorem zLE{so sn sb old o' P:Nat}(h:sn+o*P=so+a*sb)(hz:a*x+old+o=z+o'*4294967296):sn+z*P+o'*(P*4294967296)=so+old*P+a*(sb+x*P):=by
 have e1:a*x*P+old*P+o*P=z*P+o'*4294967296*P:=by rw[<-vU,<-vU,hz,vU]
 have I:o'*(P*4294967296)=o'*4294967296*P:=by rw[vT P,<-vX]
 have J:a*(sb+x*P)=a*sb+a*x*P:=by rw[uH,<-vX]
 rw[I,J]
 omega
theorem zLD(a x old o:Nat)(ha:a<4294967296)(hx:x<4294967296)(hold:old<4294967296)(ho:o<4294967296):
  ∃p s z o':Nat,a*x=p/\p<18446744073709551616/\p+old<18446744073709551616/\p+old+o=s/\s<18446744073709551616/\(s:Int)%4294967296=(z:Int)/\(s:Int)/4294967296=(o':Int)/\z<4294967296/\o'<4294967296/\a*x+old+o=z+o'*4294967296:=by
 have h1:a*x<=4294967295*4294967295:=gT oA oA
 exact⟨a*x,a*x+old+o,(a*x+old+o)%4294967296,(a*x+old+o)/4294967296,rfl,oA,oA,rfl,oA,oA,oA,oA,oA,oA⟩
def zXz(w:WB)(Q N i a:Nat)(lo lb:List Nat)(nb:Nat)(ov ix:WE)(W:WB):Prop:=
 ∃(k o:Nat) (l':List Nat),k<=nb/\ix=.int .i64 k/\ov=.int .u64 o/\o<4294967296/\Arr W Q l'/\l'.length=N/\Lt l'/\(∀x,x<i∨i+k<=x->lm l' x=lm lo x)/\
  win l' i k+o*BB^k=win lo i k+a*sm (lm lb) k/\Below w.heap.size w W
def zXp(w:WB)(Q N:Nat)(la lb:List Nat)(na nb:Nat)(ix:WE)(W:WB):Prop:=
 ∃(i:Nat) (lo:List Nat),i<=na/\ix=.int .i64 i/\Arr W Q lo/\lo.length=N/\Lt lo/\(∀x,i+nb<=x->lm lo x=0)/\val lo=sm (lm la) i*val lb/\Below w.heap.size w W
theorem zJb{lo:List Nat}{I N U:Nat}(O:lo.length=N)(J:l'.length=N)(hN:i+I<N)(ho:∀x,x<i∨i+I<=x->lm l' x=lm lo x)(hz:∀x,i+I<=x->lm lo x=0)(hb:lb.length=I)
  (hw:win l' i I+o*BB^I=win lo i I+a*sm (lm lb) I)(hv:val lo=U*val lb):val (l'.set (i+I) o)=(U+a*BB^i)*val lb:=by
 have hd:=zPX (l:=lo) (l':=l'.set (i+I) o) (p:=i) (k:=I+1) (by rw[uL,J,O]) oA (fun x hx=>by
  rw[zBa oA,if_neg oA]
  exact ho x oA)
 have e1:win (l'.set (i+I) o) i (I+1)=win l' i I+o*BB^I:=by
  rw[zAW,zFM,zBa oA,if_pos rfl]
 have e2:win lo i (I+1)=win lo i I:=by rw[zAW,hz _ (vQ _),gN,uN]
 have e3:sm (lm lb) I=val lb:=by unfold val;rw[hb]
 rw[e1,e2,hw,e3,uH]at hd
 rw[vU,<-hv]
 have e4:a*BB^i*val lb=BB^i*(a*val lb):=by rw[vT a,vX]
 omega
theorem zLc(A:WG Addr)(n c:Nat)(l:List Nat)(A':WG Addr)(n' c':Nat)(l':List Nat)(w:WB)(h:Rd w A n c l)(h':Rd w A' n' c' l')(ht:Lt l)(ht':Lt l')(hn:n<=100000)(hn':n'<=100000):
  Calls prog 57 #[.slice A n c,.slice A' n' c'] w (jH w (val l*val l')):=by
 have hle:=h.le;have hcap:=h.cap;have hle':=h'.le;have hcap':=h'.cap
 have HN:=hid h.len;have HN':=hid h'.len
 have hmk:∀wx:WB,(Instr.makeSlice 24 (.int .i64 ((n:Int)+(n':Int))) (.int .i64 ((n:Int)+(n':Int)))).run prog wx=.ok (.slice (some ⟨wx.heap.size,0,none⟩) (n+n') (n+n')) (wx.alloc (.cells (madeCells #[.int .u32 0] (n+n')) 69)):=fun wx=>zBq (n+n') oA wx
 go_enter func57,ntmps57
 go_wp2
 go_loopw [6] (zXp w w.heap.size (n+n') l l' n n') (fun i _=>n-(intOf i).toNat)
 case atStart=>exact⟨0,List.replicate (n+n') 0,vS _,rfl,Arr.new w _,fG,j5 _,fun x _=>by unfold lm;rw[List.getElem?_replicate];split<;>rfl,by rw[zAB];simp[sm],(xG _ w).alloc (vQ _) _⟩
 case round=>
  obtain⟨i,lo,hi,rfl,ha,hlo,hlt,hz,hv,hB⟩:=hrel
  have HV:=hid hv
  have HZ:=hid hz
  clear hv hz
  have hr:=h.below hB;have hr':=h'.below hB
  by_cases hin:i<n
  .obtain⟨b,o,rfl,hcb⟩:=h.cells i hin
   have x1:=qQ ht i
   simp only[BB]at x1
   obtain⟨ai,hai⟩:∃a,lm l i=a:=⟨_,rfl⟩
   rw[hai]at x1 hcb
   have HAI:=hid hai
   clear hai
   rename WB=>wo
   go_wp2
   go_loopw [7,8] (zXz w w.heap.size (n+n') i ai lo l' n') (fun _ k _=>n'-(intOf k).toNat)
   case atStart=>exact⟨0,0,lo,vS _,rfl,rfl,oA,ha,hlo,hlt,fun _ _=>rfl,by simp[win,sm],hB⟩
   case round=>
    obtain⟨k,ov,l2,hk,rfl,rfl,hov,ha2,hl2,hlt2,hout,heq,hB2⟩:=hrel
    have HQ:=hid heq
    have HO:=hid hout
    clear heq hout
    have hbr:w.heap.size<=wr.heap.size:=hB2.size
    have hca:wr.cell? ⟨b,o+i,none⟩=some (.int .u32 (ai:Int)):=(hB2.cell (p:=⟨b,o+i,none⟩) (z7 hcb)).trans hcb
    by_cases hkn:k<n'
    .obtain⟨b',o',rfl,hcb'⟩:=(h'.below hB2).cells k hkn
     have x2:=qQ ht' k
     simp only[BB]at x2
     obtain⟨bk,hbk⟩:∃a,lm l' k=a:=⟨_,rfl⟩
     rw[hbk]at x2 hcb'
     have gr:=ha2.cell (i:=i+k) oA
     have gf:=ha2.frozen (i+k)
     have hold1:lm l2 (i+k)=lm lo (i+k):=HO.out _ (.inr (vQ _))
     have x3:=qQ hlt2 (i+k)
     simp only[BB]at x3
     obtain⟨old,hold⟩:∃a,lm l2 (i+k)=a:=⟨_,rfl⟩
     rw[hold]at gr x3 hold1
     obtain⟨p,s,z,u,hp,hp2,hp3,hs,hs2,hz1,hu1,hz2,hu2,hm⟩:=zLD ai bk old ov x1 x2 x3 hov
     have hmi:(ai:Int)*(bk:Int)=(p:Int):=by rw[<-hp,pC]
     have hsi:(p:Int)+(old:Int)+(ov:Int)=(s:Int):=oA
     have HB1:=hid hbk;have HOL:=hid hold1;have HM:=hid hm
     clear hbk hold hold1 hm hp hs
     have hend:∀nq:Nat,zXz w w.heap.size (n+n') i ai lo l' n' (.int .u64 (u:Int)) (.int .i64 ((k:Int)+1)) ((wr.drewN nq).setCell ⟨w.heap.size,i+k,none⟩ (.int .u32 (z:Int))):=by
      intro nq
      have ha3:Arr (wr.drewN nq) w.heap.size l2:=ha2.kept rfl
      refine⟨k+1,u,l2.set (i+k) z,oA,fR,rfl,hu2,ha3.set _ _,by rw[uL];exact hl2,zDk hlt2 hz2,fun y hy=>?_,?_,(Below.setCell (show Below w.heap.size w (wr.drewN nq)from⟨hB2.os,hB2.tape,hB2.output,hB2.size,hB2.block⟩) (p:=⟨w.heap.size,i+k,none⟩) (vQ _) _)⟩
      .rw[zBa oA,if_neg oA]
       exact HO.out y oA
      .have e1:lm (l2.set (i+k) z) (i+k)=z:=by rw[zBa oA,if_pos rfl]
       rw[zAW,zAW,zFM,e1,<-HOL.out,uA]
       show _+_*(BB^k*4294967296)=_+ai*(sm (lm l') k+lm l' k*BB^k)
       rw[HB1.out]
       exact zLE HQ.out HM.out
     have HE:=hid hend
     clear hend
     go_wp2
     go_quiet (fail)
     go_wp2
     go_roundw
     case rel=>exact HE.out _
     case measure=>simp[intOf];omega
    .obtain rfl:k=n':=oA
     have gf:=ha2.frozen (i+k)
     have gr:=ha2.cell (i:=i+k) oA
     have ho32:(ov:Int)%4294967296=(ov:Int):=oA
     have hend:zXp w w.heap.size (n+k) l l' n k (.int .i64 ((i:Int)+1)) (wr.setCell ⟨w.heap.size,i+k,none⟩ (.int .u32 (ov:Int))):=by
      refine⟨i+1,l2.set (i+k) ov,oA,fR,ha2.set _ _,by rw[uL];exact hl2,zDk hlt2 hov,fun x hx=>?_,?_,hB2.setCell (p:=⟨w.heap.size,i+k,none⟩) (vQ _) _⟩
      .rw[zBa oA,if_neg oA,HO.out x oA]
       exact HZ.out x oA
      .show _=(sm (lm l) i+lm l i*BB^i)*val l'
       rw[HAI.out]
       exact zJb hlo hl2 oA HO.out HZ.out HN'.out HQ.out HV.out
     have HE:=hid hend
     clear hend
     go_wp2
     go_roundw
     case rel=>exact HE.out
     case measure=>simp[intOf];omega
  .obtain rfl:i=n:=oA
   have hfin:val lo=val l*val l':=by
    rw[HV.out]
    have:sm (lm l) i=val l:=by have:=HN.out;unfold val;rw[this]
    rw[this]
   have htr:=jL (some ⟨w.heap.size,0,none⟩) (i+n') (i+n') lo wr (ha.rd hlo oA) hlt oA
   rw[hfin]at htr
   clear hfin
   go_wp2_with (go_at_call 40;refine htr.mono ?_;rintro e w2 ⟨A2,n2,c2,l2,rfl,hi2,hr2,hb2⟩)
   go_ret
   exact⟨A2,n2,c2,l2,rfl,hi2,hr2,hB.trans (hb2.mono hB.size)⟩
attribute [local go_sem] Oper.semAt_some qL yG
def cnt(l:List Nat):Nat->Nat
 |0=>0
 |j+1=>cnt l j+if lm l j=0 then 0 else 1
theorem zEH{l:List Nat}{i:Nat}:∀{j:Nat},i<=j->cnt l i<=cnt l j
 |0,h=>by
  obtain rfl:i=0:=oA
  exact vQ _
 |j+1,h=>by
  rcases(oA:i<=j∨i=j+1)with e|rfl
  .exact xR (zEH e) (Nat.le_add_right _ _)
  .exact vQ _
theorem zRN(h:lm l j=0):cnt l (j+1)=cnt l j:=by
 show cnt l j+(if lm l j=0 then 0 else 1)=_
 rw[if_pos h,uN]
theorem zGw(h:lm l j≠0):cnt l (j+1)=cnt l j+1:=by
 show cnt l j+(if lm l j=0 then 0 else 1)=_
 rw[if_neg h]
theorem zPu(h:cnt l i=cnt l j)(h1:i<=x)(h2:x<j):lm l x=0:=by
 rcases uJ (lm l x)with e|e
 .exact e
 .exfalso
  have g1:=zEH (l:=l) h1
  have g2:=zGw (l:=l) (j:=x) oA
  have g3:=zEH (l:=l) (i:=x+1) (j:=j) h2
  omega
theorem zLU(h:cnt l i=cnt l j):sm (lm l) i=sm (lm l) j:=by
 rcases gS i j with e|e
 .exact(zDJ e fun x I h2=>zPu h I h2).symm
 .exact zDJ e fun x I h2=>zPu h.symm I h2
def zY5(l:List Nat)(n k:Nat)(xs:Array WE)(_W:WB):Prop:=∃p:Nat,xs=#[.int .i64 (p:Int),.int .u64 (lm l p:Nat)]/\p<n/\lm l p≠0/\cnt l p=k
theorem zMu(A:WG Addr)(n c:Nat)(w:WB):
  Calls prog 147 #[.slice A n c] w fun e w'=>e=.returned (.func (.func 153) #[] #[.pointer (some ⟨w.heap.size,0,none⟩)])/\w.alloc (.cells #[.slice A n c] 24)=w':=by
 go_enter func147,ntmps147
 go_wp2
 go_ret
 exact⟨rfl,rfl⟩
theorem zJf(A:WG Addr)(n c:Nat)(l:List Nat)(b1:Nat)(w0:WB)(h:Rd w0 A n c l)(ht:Lt l)(hc1:w0.cell? ⟨b1,0,none⟩=some (.slice A n c)){S:Nat->Prop}(hS:∀b,S b->b<w0.heap.size)(hSA:∀b o,0<n->A=some ⟨b,o,none⟩->S b):
  zRV prog 153 #[.pointer (some ⟨b1,0,none⟩)] (zY5 l n) (cnt l n) (y8 S) Mk (fun _=>True) w0:=by
 intro lp J W hW hJ hY h0
 have hle:=h.le;have hcap:=h.cap
 have hw1:=(hW.cell (p:=⟨b1,0,none⟩) (z7 hc1)).trans hc1
 refine zB1 func153 rfl ?_
 simp only[ntmps153,bN,mO,mP,Nat.reduceAdd,Nat.reduceSub,mQ,mR,mS,mT,lI,mM]
 gi_wp2
 gi_loopw [7] (fun i wr=>∃j:Nat,j<=n/\i=.int .i64 j/\J (cnt l j) wr/\y8 S w0 wr) (fun i _=>n-(intOf i).toNat)
 case atStart=>exact⟨0,vS _,rfl,h0,wS hW hS⟩
 case round=>
  obtain⟨j,hj,rfl,hJ1,hb⟩:=hrel
  by_cases hjn:j<n
  .obtain⟨b,o,rfl,hc⟩:=(h.keepS hb hSA).cells j hjn
   have x1:=qQ ht j
   simp only[BB]at x1
   by_cases hz:lm l j=0
   .have hJ2:J (cnt l (j+1)) wr:=by rw[zRN hz];exact hJ1
    rw[hz]at hc
    clear hz
    gi_wp2
    go_roundw
    case rel=>exact⟨j+1,oA,fR,hJ2,hb⟩
    case measure=>simp[intOf];omega
   .have hcl:cnt l j<cnt l n:=by
     have g1:=zGw (l:=l) (j:=j) hz
     have g2:=zEH (l:=l) (i:=j+1) (j:=n) hjn
     omega
    obtain⟨fn,tmps,assign,body,hy,hR⟩:=hY (cnt l j) wr _ hcl hJ1 ⟨j,rfl,hjn,hz,rfl⟩
    rw[<-zGw hz]at hR
    obtain⟨x,hx⟩:∃x,lm l j=x:=⟨_,rfl⟩
    rw[hx]at hc hy x1 hz
    have hxb:((x:Int) !=0)=true:=by simp only[bne_iff_ne,ne_eq];omega
    clear hx hcl hz
    gi_wp2
    refine hR.mono ?_
    rintro e W3 ⟨rfl,hJ3,hk3⟩
    clear hy
    gi_wp2
    go_roundw
    case rel=>exact⟨j+1,oA,fR,hJ3,hb.trans hk3⟩
    case measure=>simp[intOf];omega
  .obtain rfl:j=n:=oA
   gi_wp2
   go_end0
   exact⟨⟨_,rfl⟩,hJ1,trivial⟩
theorem zN6(A:WG Addr)(n c:Nat)(A':WG Addr)(n' c':Nat)(w:WB)(v:Nat)(hs:Calls prog 146 #[.slice A n c,.slice A' n' c'] w fun e w'=>∃A1 n1 c1 l1,e=.returned (.tuple #[.slice A1 n1 c1,.int .i64 0])/\Is l1 v/\Rd w' A1 n1 c1 l1/\Below w.heap.size w w'):
  Calls prog 131 #[.slice A n c,.slice A' n' c'] w (jH w v):=by
 go_enter func131,ntmps131
 go_wp2_with (go_at_call 146;refine hs.mono ?_;rintro e w2 ⟨A1,n1,c1,l1,rfl,hi1,hr1,hb1⟩)
 go_ret
 exact⟨A1,n1,c1,l1,rfl,hi1,hr1,hb1⟩
def zYZ(w:WB)(k:Nat)(l:List Nat)(e:Ending)(w':WB):Prop:=∃A n c,e=.returned (.slice A n c)/\Rd w' A n c (List.replicate k 0++l)/\Below w.heap.size w w'
theorem zM0(k:Nat)(l:List Nat):val (List.replicate k 0++l)=BB^k*val l:=by
 rw[zDn,zAB,nZ,uM]
theorem zQ4(k:Nat)(h:k<=17592186044416)(w:WB):yE (w.alloc (.cells (madeCells #[.int .u32 0] k) 69)) w.heap.size 69 (.slice (some ⟨w.heap.size,0,none⟩) k k) (List.replicate k 0):=by
 rw[zJt]
 exact⟨by rw[zAY,nZ,gK],.inr ⟨w.heap.size,k,_,by rw[nZ],vQ _,xM w _,by rw[nZ];exact vQ _,by unfold maxLen;omega,by simp[zBQ],by simp[zBQ]⟩⟩
theorem zPK(A:WG Addr)(n c:Nat)(l:List Nat)(k:Nat)(w:WB)(h:Rd w A n c l)(hn:n<=100000)(hk:k<=100000):
  Calls prog 133 #[.slice A n c,.int .i64 (k:Int)] w (zYZ w k l):=by
 have hmk:=fun wx=>zBq k oA wx
 have hown:=zQ4 k oA w
 have hb0:=(xG _ w).alloc (vQ _) (.cells (madeCells #[.int .u32 0] k) 69)
 have hs1:(List.replicate k 0).length+l.length<=17592186044416:=by rw[nZ,h.len];omega
 have hl1:(List.replicate k 0++l).length=k+n:=by rw[uG,nZ,h.len]
 go_enter func133,ntmps133
 go_wp2_with (at_builtin;refine zU rfl _ _ 24 69 rfl yH yX w.heap.size _ (List.replicate k 0) rfl hown A n c l rfl (h.below hb0) hs1 hb0.size ?_;intro v1 w3 hown1 hg1 hat1;obtain⟨A1,c1,rfl⟩:=hown1.form' hl1)
 go_ret
 exact⟨A1,k+n,c1,rfl,hown1.rd,yE.grown hb0 hown hg1 (vQ _) hb0.size⟩
attribute [local go_sem] Oper.semAt_some qL yG
def zPR(w:WB)(la lb:List Nat)(na nb:Nat)(A':WG Addr)(c':Nat)(k:Nat)(W:WB):Prop:=
 ∃(i:Nat) (lo:List Nat),cnt la i=k/\i<=na/\Arr W (w.heap.size+1) lo/\lo.length=na+nb/\Lt lo/\(∀x,i+nb<=x->lm lo x=0)/\val lo=sm (lm la) i*val lb/\
  Boxed W w.heap.size 24 (.slice A' nb c')/\Boxed W (w.heap.size+1+1) 24 (.slice (some ⟨w.heap.size+1,0,none⟩) (na+nb) (na+nb))/\Below w.heap.size w W/\w.heap.size+4<=W.heap.size
theorem zN7(A:WG Addr)(n c:Nat)(l:List Nat)(A':WG Addr)(n' c':Nat)(l':List Nat)(w:WB)(h:Rd w A n c l)(h':Rd w A' n' c' l')(ht:Lt l)(ht':Lt l')(hn:n<=100000)(hn':n'<=100000):
  Calls prog 130 #[.slice A n c,.slice A' n' c'] w (jH w (val l*val l')):=by
 have hle:=h.le;have hcap:=h.cap;have hle':=h'.le;have hcap':=h'.cap
 have HN:=hid h.len;have HN':=hid h'.len
 have hmk:∀wx:WB,(Instr.makeSlice 24 (.int .i64 ((n:Int)+(n':Int))) (.int .i64 ((n:Int)+(n':Int)))).run prog wx=.ok (.slice (some ⟨wx.heap.size,0,none⟩) (n+n') (n+n')) (wx.alloc (.cells (madeCells #[.int .u32 0] (n+n')) 69)):=fun wx=>zBq (n+n') oA wx
 refine q6 func130 rfl ?_
 simp only[ntmps130,bN,mO,mP,Nat.reduceAdd,Nat.reduceSub,mQ,mR,mS,mT,lI,mM]
 go_wp2_with (go_at_call 147;refine(zMu A n c _).mono ?_;rintro e w2 ⟨rfl,rfl⟩)
 obtain⟨W0,hW0⟩:∃W0,((((w.alloc (.cells #[.slice A' n' c'] 24)).alloc (.cells (madeCells #[.int .u32 0] (n+n')) 69)).alloc (.cells #[.slice (some ⟨w.heap.size+1,0,none⟩) (n+n') (n+n')] 24)).alloc (.cells #[.slice A n c] 24))=W0:=⟨_,rfl⟩
 have hsz:W0.heap.size=w.heap.size+4:=by rw[<-hW0];simp
 have hB0:Below w.heap.size w W0:=by rw[<-hW0];exact((((xG _ w).alloc (vQ _) _).alloc fE _).alloc fM _).alloc fM _
 have x0:Boxed W0 w.heap.size 24 (.slice A' n' c'):=by rw[<-hW0];exact(((cJ w _ _).alloc _).alloc _).alloc _
 have x1:Arr W0 (w.heap.size+1) (List.replicate (n+n') 0):=by rw[<-hW0];exact((zS3 _ _ fE).alloc _).alloc _
 have x2:Boxed W0 (w.heap.size+1+1) 24 (.slice (some ⟨w.heap.size+1,0,none⟩) (n+n') (n+n')):=by rw[<-hW0];exact(zAG _ _ _ fE).alloc _
 have x3:Boxed W0 (w.heap.size+1+1+1) 24 (.slice A n c):=by rw[<-hW0];exact zAG _ _ _ fE
 rw[hW0]
 clear hW0
 have hSb:∀b,(b<w.heap.size∨b=w.heap.size+1+1+1)->b<W0.heap.size:=fun b hb=>oA
 have hown:∀C,w.heap.size<=C->OwnFrom C (zPR w l l' n n' A' c'):=by
  rintro C hC k W W' row ⟨i,lo,h1,h2,h3,h4,h5,h6,h7,h8,h9,h10,h11⟩ hg hr
  exact⟨i,lo,h1,h2,h3.abide hg hr,h4,h5,h6,h7,qR h8 hg hr,qR h9 hg hr,zAA h10 hg (vQ _) hC hr,xR h11 hg.size⟩
 refine zCt (gf:=153) rfl (enters_of func153 kA rfl)
  (zJf A n c l (w.heap.size+1+1+1) W0 (h.below hB0) ht x3.cell (S:=fun b=>b<w.heap.size∨b=w.heap.size+1+1+1) hSb (fun b o hn0 e=>.inl (h.in_ b o hn0 e))) ?hE ?hps y8.trans (zEZ hSb)
  (zPR w l l' n n' A' c') (hown _ hB0.size) (zCo (hown _ (vQ _))) wT (fun _ _ _ _ _ _ _ _=>trivial)
  ⟨0,List.replicate (n+n') 0,rfl,vS _,x1,fG,j5 _,fun x _=>by unfold lm;rw[List.getElem?_replicate];split<;>rfl,by rw[zAB];simp[sm],x0,x2,hB0,nV hsz.symm⟩
  (fun _ xs=>{ tmps:=#[.slice A n c,.slice A' n' c',undef,.pointer (some ⟨w.heap.size,0,none⟩),.slice none 0 0,.pointer (some ⟨w.heap.size+1+1,0,none⟩),xs.getD 0 undef,xs.getD 1 undef,undef,undef,undef,.slice A n c,.int .i64 (n:Int),.slice A' n' c',.int .i64 (n':Int),.int .i64 ((n:Int)+(n':Int)),.slice (some ⟨w.heap.size+1,0,none⟩) (n+n') (n+n'),.slice A n c,.func (.func 153) #[] #[.pointer (some ⟨w.heap.size+1+1+1,0,none⟩)],xs.getD 0 undef,xs.getD 1 undef,undef,undef,undef,undef,undef,undef,undef,undef,undef,undef,undef,undef,undef,undef,undef,undef,undef,undef,undef,undef,undef,undef,undef,undef,undef,undef,undef,undef,undef,undef,undef,undef,undef,undef,undef,undef,undef,undef,undef,undef,undef],defers:=[] }) ?assign ?body ?done
 case hE=>exact fun k xs W l1 o o' hx _ _=>hx
 case hps=>
  rintro k xs W ⟨p,rfl,_⟩
  rfl
 case assign=>
  rintro lp k xs W K ⟨p,rfl,_⟩ hK
  gi_wp2
  exact hK
 case body=>
  rintro lp k xs W hk ⟨i,lo,hci,hi,ha,hlo,hlt,hz,hv,hb,hq,hB,h4⟩ ⟨p,rfl,hp,hp0,hcp⟩
  have hip:i<=p:=by
   rcases bJ p i with e|e
   .exfalso
    have g1:=zGw (l:=l) (j:=p) hp0
    have g2:=zEH (l:=l) (i:=p+1) (j:=i) e
    omega
   .exact e
  have hsm:sm (lm l) p=sm (lm l) i:=zLU (by rw[hcp,hci])
  have HV:Hid (val lo=sm (lm l) p*val l'):=by rw[hsm];exact hv
  have HZ:Hid (∀x,p+n'<=x->lm lo x=0):=fun x hx=>hz x oA
  have HC:=hid (show cnt l (p+1)=k+1 from by rw[zGw hp0,hcp])
  clear hv hz hsm hci hip hi hcp
  have x1:=qQ ht p
  simp only[BB]at x1
  obtain⟨ai,hai⟩:∃a,lm l p=a:=⟨_,rfl⟩
  have HAI:=hid hai
  simp only[hai]
  rw[hai]at x1
  clear hai hp0
  have hcb:=hb.cell
  obtain⟨Wo,hWo⟩:∃Wo,W=Wo:=⟨_,rfl⟩
  subst hWo
  gi_wp2
  gi_loopw [8,23] (fun ov k2 wr=>zXz w (w.heap.size+1) (n+n') p ai lo l' n' ov k2 wr/\Boxed wr w.heap.size 24 (.slice A' n' c')/\Boxed wr (w.heap.size+1+1) 24 (.slice (some ⟨w.heap.size+1,0,none⟩) (n+n') (n+n'))/\KeepsOthers W wr/\y8 (fun b=>b<w.heap.size∨b=w.heap.size+1+1+1) W wr/\w.heap.size+4<=wr.heap.size) (fun _ k2 _=>n'-(intOf k2).toNat)
  case atStart=>exact⟨⟨0,0,lo,vS _,rfl,rfl,oA,ha,hlo,hlt,fun _ _=>rfl,by simp[win,sm],hB⟩,hb,hq,KeepsOthers.refl _,y8.refl _ _,h4⟩
  case round=>
   obtain⟨⟨k2,ov,l2,hk2,rfl,rfl,hov,ha2,hl2,hlt2,hout,heq,hB2⟩,hb2,hq2,hko,hks,h42⟩:=hrel
   have HQ:=hid heq
   have HO:=hid hout
   clear heq hout
   have hcq:=hq2.cell
   have hcb2:=hb2.cell
   by_cases hkn:k2<n'
   .obtain⟨b',o',rfl,hcb'⟩:=(h'.below hB2).cells k2 hkn
    have x2:=qQ ht' k2
    simp only[BB]at x2
    obtain⟨bk,hbk⟩:∃a,lm l' k2=a:=⟨_,rfl⟩
    rw[hbk]at x2 hcb'
    have gr:=ha2.cell (i:=p+k2) oA
    have gf:=ha2.frozen (p+k2)
    have hold1:lm l2 (p+k2)=lm lo (p+k2):=HO.out _ (.inr (vQ _))
    have x3:=qQ hlt2 (p+k2)
    simp only[BB]at x3
    obtain⟨old,hold⟩:∃a,lm l2 (p+k2)=a:=⟨_,rfl⟩
    rw[hold]at gr x3 hold1
    obtain⟨q,s,z,u,hq1,hq2',hq3,hs,hs2,hz1,hu1,hz2,hu2,hm⟩:=zLD ai bk old ov x1 x2 x3 hov
    have hmi:(ai:Int)*(bk:Int)=(q:Int):=by rw[<-hq1,pC]
    have hsi:(ov:Int)+((q:Int)+(old:Int))=(s:Int):=oA
    have HB1:=hid hbk;have HOL:=hid hold1;have HM:=hid hm
    clear hbk hold hold1 hm hq1 hs
    have hend:zXz w (w.heap.size+1) (n+n') p ai lo l' n' (.int .u64 (u:Int)) (.int .i64 ((k2:Int)+1)) (wr.setCell ⟨w.heap.size+1,p+k2,none⟩ (.int .u32 (z:Int))):=by
     refine⟨k2+1,u,l2.set (p+k2) z,oA,fR,rfl,hu2,ha2.set _ _,by rw[uL];exact hl2,zDk hlt2 hz2,fun y hy=>?_,?_,hB2.setCell (p:=⟨w.heap.size+1,p+k2,none⟩) fE _⟩
     .rw[zBa oA,if_neg oA]
      exact HO.out y oA
     .have e1:lm (l2.set (p+k2) z) (p+k2)=z:=by rw[zBa oA,if_pos rfl]
      rw[zAW,zAW,zFM,e1,<-HOL.out,uA]
      show _+_*(BB^k2*4294967296)=_+ai*(sm (lm l') k2+lm l' k2*BB^k2)
      rw[HB1.out]
      exact zLE HQ.out HM.out
    have HE:=hid hend
    clear hend
    gi_wp2
    go_roundw
    case rel=>exact⟨HE.out,zAT hb2 (p:=⟨w.heap.size+1,p+k2,none⟩) fE _,zAT hq2 (p:=⟨w.heap.size+1,p+k2,none⟩) fE _,hko.trans (bR _ _ _),hks.setCell (p:=⟨w.heap.size+1,p+k2,none⟩) fE _,by rw[<-zBC];exact h42⟩
    case measure=>simp[intOf];omega
   .obtain rfl:k2=n':=oA
    have gf:=ha2.frozen (p+k2)
    have gr:=ha2.cell (i:=p+k2) oA
    have ho32:(ov:Int)%4294967296=(ov:Int):=oA
    have hend:zPR w l l' n k2 A' c' (k+1) (wr.setCell ⟨w.heap.size+1,p+k2,none⟩ (.int .u32 (ov:Int))):=by
     refine⟨p+1,l2.set (p+k2) ov,HC.out,oA,ha2.set _ _,by rw[uL];exact hl2,zDk hlt2 hov,fun x hx=>?_,?_,zAT hb2 (p:=⟨w.heap.size+1,p+k2,none⟩) fE _,zAT hq2 (p:=⟨w.heap.size+1,p+k2,none⟩) fE _,hB2.setCell (p:=⟨w.heap.size+1,p+k2,none⟩) fE _,by rw[<-zBC];exact h42⟩
     .rw[zBa oA,if_neg oA,HO.out x oA]
      exact HZ.out x oA
     .show _=(sm (lm l) p+lm l p*BB^p)*val l'
      rw[HAI.out]
      exact zJb hlo hl2 oA HO.out HZ.out HN'.out HQ.out HV.out
    have HE:=hid hend
    clear hend
    gi_wp2
    exact⟨(hko.trans (bR _ _ _)).from _,hks.setCell (p:=⟨w.heap.size+1,p+k2,none⟩) fE _,HE.out⟩
 case done=>
  rintro D W hD ⟨i,lo,hci,hi,ha,hlo,hlt,hz,hv,hb,hq,hB,h4⟩ _ hd
  have hfin:val lo=val l*val l':=by
   rw[hv,zLU hci]
   have:sm (lm l) n=val l:=by have:=HN.out;unfold val;rw[this]
   rw[this]
  have htr:=qX (some ⟨w.heap.size+1,0,none⟩) (n+n') (n+n') lo W (ha.rd hlo oA) hlt oA
  rw[hfin]at htr
  have hcq:=hq.cell
  clear hfin hv hci
  go_wp2_with (go_at_call 124;refine htr.mono ?_;rintro e w3 ⟨A3,n3,c3,l3,rfl,hi3,hr3,hb3⟩)
  have hM:Marks w.heap.size w3 [mark D] [D]:=((Marks.nil w.heap.size W).more (D:=D) fE oA hd).made hb3
  refine qH w3 (fun w' _=>results_tmp rfl _ _ w') [D] _ _ hM (Oth.refl _ _) ?_
  intro w' ho
  exact⟨A3,n3,c3,l3,rfl,hi3,hr3.oth ho,zAh (hB.trans (hb3.mono hB.size)) ho (vQ _)⟩
attribute [local go_sem] Oper.semAt_some qL yG
def qN(W:WB)(v:WE)(x:Nat):Prop:=∃A n c l,v=.slice A n c/\Is l x/\Rd W A n c l
theorem qN.below(h:qN W v x)(hb:Below W.heap.size W W'):qN W' v x:=by
 obtain⟨A,n,c,l,I,h2,h3⟩:=h
 exact⟨A,n,c,l,I,h2,h3.below hb⟩
def zCr(mb:Nat):WE:=.func (.func 129) #[] #[.pointer (some ⟨mb,0,none⟩)]
def zZS(N:Nat):Prop:=∀(mb:Nat) (A:WG Addr) (n c:Nat) (l:List Nat) (A':WG Addr) (n' c':Nat) (l':List Nat) (w:WB),Rd w A n c l->Rd w A' n' c' l'->Lt l->Lt l'->n<=N->n'<=N->w.cell? ⟨mb,0,none⟩=some (zCr mb)->
 Calls prog 129 #[.slice A n c,.slice A' n' c',.pointer (some ⟨mb,0,none⟩)] w (jH w (val l*val l'))
theorem zZC(a0 J b0 I P:Nat):(a0+P*J)*(b0+P*I)=a0*b0+P*((a0+J)*(b0+I)-(a0*b0+J*I))+P*P*(J*I):=by
 have e:(a0+J)*(b0+I)-(a0*b0+J*I)=a0*I+J*b0:=by
  rw[vU,uH,uH]
  omega
 rw[e,vU,uH,uH,uH]
 have e1:a0*(P*I)=P*(a0*I):=pK ..
 have e2:P*J*b0=P*(J*b0):=vX ..
 have e3:P*J*(P*I)=P*P*(J*I):=by rw[Nat.mul_mul_mul_comm]
 omega
theorem zUB(a0 J b0 I:Nat):a0*b0+J*I<=(a0+J)*(b0+I):=by
 rw[vU,uH,uH]
 omega
attribute [local go_sem] Oper.semAt_some qL yG
attribute [local go_sem] Oper.semAt_some qL yG
attribute [local go_sem] Oper.semAt_some qL yG
theorem zUC(h:val l3=val l+val l'):iv s l3=iv s l+iv s l':=by
 unfold iv
 cases s<;>simp<;>omega
theorem zOR(I:s≠s')(h:val l3=val l-val l')(hge:val l'<=val l):iv s l3=iv s l+iv s' l':=by
 unfold iv
 cases s<;>cases s'<;>simp at I ⊢<;>omega
theorem zWn(h:val l3=val l*val l'):iv (s !=s') l3=iv s l*iv s' l':=by
 have e:(val l3:Int)=(val l:Int)*(val l':Int):=by rw[h,pC]
 unfold iv
 cases s<;>cases s'<;>simp[e,Int.neg_mul,Int.mul_neg]
theorem zMp(s:Bool)(A:WG Addr)(n c:Nat)(l:List Nat)(w:WB)(h:Rd w A n c l)(ht:Lt l)(hl:n<=1099511627776):
  Calls prog 41 #[.agg #[.bool s,.slice A n c]] w fun e w'=>e=.returned (.int .i64 (iv s l).sign)/\Below w.heap.size w w':=by
 have hb0:=(xG _ w).alloc (vQ _) (.cells #[.bool s,.slice A n c] 26)
 have hc:=zAD s A n c l _ (h.below hb0) ht hl
 unfold qT at hc
 obtain⟨v,hv⟩:∃v,iv s l=v:=⟨_,rfl⟩
 rw[hv]at hc ⊢
 clear hv
 rcases nU v 0 with h0|h0|h0
 .have e1:v.sign= -1:=nS h0
  rw[lH h0]at hc
  rw[e1]
  go_enter func41,ntmps41
  go_wp2_with (go_at_call 69;refine hc.mono ?_;rintro e w2 ⟨A2,n2,c2,l2,rfl,hi2,hr2,hb2⟩;have hq:=zMj hb2 (b:=w.heap.size) rfl;obtain⟨⟨q0,q1⟩,q2,q3⟩:=hq.facts2;have hn2:0<n2:=(by rw[<-hr2.len];exact hi2.pos_iff.1 (Int.natAbs_pos.2 (Int.ne_of_lt h0))))
  go_ret
  exact⟨rfl,((hb0.trans (hb2.mono hb0.size)).setCell (p:=⟨w.heap.size,0,none⟩) (vQ _) _).setCell (p:=⟨w.heap.size,1,none⟩) (vQ _) _⟩
 .subst h0
  go_enter func41,ntmps41
  go_wp2_with (go_at_call 69;refine hc.mono ?_;rintro e w2 ⟨A2,n2,c2,l2,rfl,hi2,hr2,hb2⟩;have hq:=zMj hb2 (b:=w.heap.size) rfl;obtain⟨⟨q0,q1⟩,q2,q3⟩:=hq.facts2;obtain rfl:n2=0:=(by rw[<-hr2.len];exact hi2.zero_iff.1 rfl))
  go_ret
  exact⟨rfl,((hb0.trans (hb2.mono hb0.size)).setCell (p:=⟨w.heap.size,0,none⟩) (vQ _) _).setCell (p:=⟨w.heap.size,1,none⟩) (vQ _) _⟩
 .have e1:v.sign=1:=nT h0
  rw[xZ oA]at hc
  rw[e1]
  go_enter func41,ntmps41
  go_wp2_with (go_at_call 69;refine hc.mono ?_;rintro e w2 ⟨A2,n2,c2,l2,rfl,hi2,hr2,hb2⟩;have hq:=zMj hb2 (b:=w.heap.size) rfl;obtain⟨⟨q0,q1⟩,q2,q3⟩:=hq.facts2;have hn2:0<n2:=(by rw[<-hr2.len];exact hi2.pos_iff.1 (Int.natAbs_pos.2 (Int.ne_of_gt h0))))
  go_ret
  exact⟨rfl,((hb0.trans (hb2.mono hb0.size)).setCell (p:=⟨w.heap.size,0,none⟩) (vQ _) _).setCell (p:=⟨w.heap.size,1,none⟩) (vQ _) _⟩
theorem zMn(s:Bool)(A:WG Addr)(n c:Nat)(l:List Nat)(A':WG Addr)(n' c':Nat)(l':List Nat)(w:WB)(h:Rd w A n c l)(ht:Lt l)(h':Rd w A' n' c' l')(ht':Lt l')(m:Nat)(hl:n<=m)(hl':n'<=m)(hm:m<=100000):
  Calls prog 96 #[.agg #[.bool s,.slice A n c],.agg #[.bool s,.slice A' n' c']] w (qT w (iv s l+iv s l')):=by
 have hmix:prog.follows .mixedOrders=true:=fJ
 go_enter func96,ntmps96
 go_wp2
 obtain⟨W0,hW0⟩:∃W0,(((w.alloc (.cells #[.bool s,.slice A n c] 26)).alloc (.cells #[.bool s,.slice A' n' c'] 26)).alloc (.cells #[.bool false,.slice none 0 0] 26))=W0:=⟨_,rfl⟩
 have x0:q7 W0 w.heap.size 26 #[.bool s,.slice A n c]:=by rw[<-hW0];exact((q7.new w _ _).alloc _).alloc _
 have x1:q7 W0 (w.heap.size+1) 26 #[.bool s,.slice A' n' c']:=by rw[<-hW0];exact(q7.at_ _ _ _ fE).alloc _
 have x2:q7 W0 (w.heap.size+1+1) 26 #[.bool false,.slice none 0 0]:=by rw[<-hW0];exact q7.at_ _ _ _ fE
 have hB0:Below w.heap.size w W0:=by rw[<-hW0];exact(((xG _ w).alloc (vQ _) _).alloc fE _).alloc fM _
 rw[hW0]
 clear hW0
 refine(bL (n:=0)).1 ?_
 have cf:∀W,Below W0.heap.size W0 W->(W.cell? ⟨w.heap.size,0,none⟩=some (.bool s)/\W.cell? ⟨w.heap.size,1,none⟩=some (.slice A n c))/\W.cell? ⟨w.heap.size+1,0,none⟩=some (.bool s)/\W.cell? ⟨w.heap.size+1,1,none⟩=some (.slice A' n' c'):=fun W hb=>And.intro (x0.kept hb).facts2.1 (x1.kept hb).facts2.1
 refine yF 10 (fun W=>(W.cell? ⟨w.heap.size,0,none⟩=some (.bool s)/\W.cell? ⟨w.heap.size,1,none⟩=some (.slice A n c))/\W.cell? ⟨w.heap.size+1,0,none⟩=some (.bool s)/\W.cell? ⟨w.heap.size+1,1,none⟩=some (.slice A' n' c')) hmix ?_
 have hd:Below W0.heap.size W0 W0.drew:=(xG _ W0).drew
 have d1:=cf _ hd
 refine zP (i:=0) (v:=?vv1) kA kA rfl kA kA kA fD d1 ⟨.inl ⟨rfl,?yy1⟩,fun _=>rfl⟩ ?_
 case yy1=>
  rintro wx ⟨⟨q1,q2⟩,q3,q4⟩
  go_simp
  first|done|rfl
 refine zP (i:=1) (v:=?vv2) kA kA rfl kA kA kA fD d1 ⟨.inl ⟨rfl,?yy2⟩,fun _=>rfl⟩ ?_
 case yy2=>
  rintro wx ⟨⟨q1,q2⟩,q3,q4⟩
  go_simp
  first|done|rfl
 refine zP (i:=2) (v:=?vv3) kA kA rfl kA kA kA fD d1 ⟨.inl ⟨rfl,?yy3⟩,fun _=>rfl⟩ ?_
 case yy3=>
  rintro wx ⟨⟨q1,q2⟩,q3,q4⟩
  go_simp
  first|done|rfl
 refine zP (i:=3) (v:=?vv4) kA kA rfl kA kA kA fD d1 ⟨.inl ⟨rfl,?yy4⟩,fun _=>rfl⟩ ?_
 case yy4=>
  rintro wx ⟨⟨q1,q2⟩,q3,q4⟩
  go_simp
  first|done|rfl
 refine zP (i:=4) (v:=?vv5) kA kA rfl kA kA kA fD d1 ⟨.inl ⟨rfl,?yy5⟩,fun _=>rfl⟩ ?_
 case yy5=>
  rintro wx ⟨⟨q1,q2⟩,q3,q4⟩
  go_simp
  first|done|rfl
 refine zP (i:=5) (v:=?vv6) kA kA rfl kA kA kA fD d1 ⟨.inl ⟨rfl,?yy6⟩,fun _=>rfl⟩ ?_
 case yy6=>
  rintro wx ⟨⟨q1,q2⟩,q3,q4⟩
  go_simp
  first|done|rfl
 have hW3:Below W0.heap.size W0 (W0.drew.alloc (.cells #[.slice A n c,.slice A' n' c'] 24)):=hd.alloc hd.size _
 have hds:=Rds.two ((h.below hB0).drew) ht oA ((h'.below hB0).drew) ht' oA 24
 refine zAL (i:=6) kA rfl (fun K hK=>?_)
 go_simp
 refine hK _ _ (.inr (cf _ hW3)) ?_
 clear hK K
 have hadd:=zFw _ 2 2 [l,l'] _ hds oA
 have hsum:([l,l'].map val).sum=val l+val l':=fG
 rw[hsum]at hadd
 refine zAL (i:=7) kA rfl (fun K hK=>?_)
 go_simp
 refine bG (bB.2 hadd) ?_
 rintro e w3 ⟨A3,n3,c3,l3,rfl,hi3,hr3,hb3⟩
 have hB3:Below W0.heap.size W0 w3:=hW3.trans (hb3.mono hW3.size)
 refine hK _ _ (.inr (cf _ hB3)) ?_
 clear hK K
 have d3:=cf _ hB3
 refine zAL (i:=8) kA rfl (fun K hK=>?_)
 go_simp
 refine hK _ _ (.inr d3) ?_
 clear hK K
 have hn3:n3<=m+1:=by
  rw[<-hr3.len]
  refine hi3.len ?_
  have e1:=qV ht;have e2:=qV ht'
  rw[h.len]at e1;rw[h'.len]at e2
  have f1:BB^n<=BB^m:=vZ qC hl
  have f2:BB^n'<=BB^m:=vZ qC hl'
  have f3:BB^m*2<=BB^m*BB:=uS _ (by unfold BB;omega)
  rw[uA]
  omega
 have hnm:=zAD s A3 n3 c3 l3 w3 hr3 hi3.lt oA
 rw[zUC hi3.val]at hnm
 obtain⟨v,hv⟩:∃v,iv s l+iv s l'=v:=⟨_,rfl⟩
 rw[hv]at hnm
 refine zAL (i:=9) kA rfl (fun K hK=>?_)
 go_simp
 refine bG (bB.2 hnm) ?_
 rintro e w4 ⟨A4,n4,c4,l4,rfl,hi4,hr4,hb4⟩
 have hB4:Below W0.heap.size W0 w4:=hB3.trans (hb4.mono hB3.size)
 have hq:=x2.kept hB4
 obtain⟨⟨m0,m1⟩,m2,m3⟩:=hq.facts2
 refine hK _ _ (.inr (cf _ hB4)) ?_
 clear hK K
 refine zAL (i:=10) kA rfl (fun K hK=>?_)
 go_simp
 refine hK _ _ (.inl rfl) ?_
 clear hK K
 refine zCW kA ?_
 obtain⟨⟨c0,c1⟩,_,_⟩:=((hq.set 0 (.bool (decide (v<0)))).set 1 (.slice A4 n4 c4)).facts2
 go_wp2
 rw[hv]
 exact nI (v:=.agg #[.bool (decide (v<0)),.slice A4 n4 c4]) (by simp[results,results96,go_sem,c0,c1]) rfl<|zIV hq (hB0.trans (hB4.mono hB0.size)) oA hi4 hr4
theorem zQL(s s':Bool)(hs:s≠s')(A:WG Addr)(n c:Nat)(l:List Nat)(A':WG Addr)(n' c':Nat)(l':List Nat)(w:WB)(h:Rd w A n c l)(ht:Lt l)(h':Rd w A' n' c' l')(ht':Lt l')(hl:n<=100000)(hge:val l'<=val l):
  Calls prog 96 #[.agg #[.bool s,.slice A n c],.agg #[.bool s',.slice A' n' c']] w (qT w (iv s l+iv s' l')):=by
 have hne:(s==s')=false:=by simp[hs]
 obtain⟨W0,hW0⟩:∃W0,(((w.alloc (.cells #[.bool s,.slice A n c] 26)).alloc (.cells #[.bool s',.slice A' n' c'] 26)).alloc (.cells #[.bool false,.slice none 0 0] 26))=W0:=⟨_,rfl⟩
 have x0:q7 W0 w.heap.size 26 #[.bool s,.slice A n c]:=by rw[<-hW0];exact((q7.new w _ _).alloc _).alloc _
 have x1:q7 W0 (w.heap.size+1) 26 #[.bool s',.slice A' n' c']:=by rw[<-hW0];exact(q7.at_ _ _ _ fE).alloc _
 have x2:q7 W0 (w.heap.size+1+1) 26 #[.bool false,.slice none 0 0]:=by rw[<-hW0];exact q7.at_ _ _ _ fE
 have hB0:Below w.heap.size w W0:=by rw[<-hW0];exact(((xG _ w).alloc (vQ _) _).alloc fE _).alloc fM _
 have hsub:=zHD A n c l A' n' c' l' W0 (h.below hB0) (h'.below hB0) ht ht' hge oA
 obtain⟨v,hv⟩:∃v,iv s l+iv s' l'=v:=⟨_,rfl⟩
 have hnm:=fun(W:WB) (A3:WG Addr) (n3 c3:Nat) (l3:List Nat) (hr3:Rd W A3 n3 c3 l3) (hi3:Is l3 (val l-val l'))=>zAD s A3 n3 c3 l3 W hr3 hi3.lt (by
  rw[<-hr3.len]
  have e1:=qV ht
  rw[h.len]at e1
  exact xR (hi3.len (nD (nR _ _) e1)) oA)
 have hiv:=fun(l3:List Nat) (hi3:Is l3 (val l-val l'))=>zOR (l3:=l3) hs hi3.val hge
 rw[hv]at hiv ⊢
 obtain⟨⟨a0,a1⟩,_,_⟩:=x0.facts2
 obtain⟨⟨a2,a3⟩,_,_⟩:=x1.facts2
 obtain⟨⟨b0,b1⟩,_,_⟩:=x0.facts2
 go_enter func96,ntmps96
 go_wp2_with (first|(go_at_call 115;refine hsub.mono ?_;rintro e w3 ⟨A3,n3,c3,l3,rfl,hi3,hr3,hb3⟩;have hq3:=hnm w3 A3 n3 c3 l3 hr3 hi3;rw[hiv l3 hi3]at hq3;obtain⟨⟨a0,a1⟩,_,_⟩:=(x0.kept hb3).facts2;obtain⟨⟨a2,a3⟩,_,_⟩:=(x1.kept hb3).facts2)|(go_at_call 69;refine hq3.mono ?_;rintro e w4 ⟨A4,n4,c4,l4,rfl,hi4,hr4,hb4⟩;have hB4:=hb3.trans (hb4.mono hb3.size);have hq:=x2.kept hB4;obtain⟨⟨m0,m1⟩,m2,m3⟩:=hq.facts2))
 obtain⟨⟨c0,c1⟩,_,_⟩:=((hq.set 0 (.bool (decide (v<0)))).set 1 (.slice A4 n4 c4)).facts2
 exact nI (v:=.agg #[.bool (decide (v<0)),.slice A4 n4 c4]) (by simp[results,results96,go_sem,c0,c1]) rfl<|zIV hq (hB0.trans (hB4.mono hB0.size)) oA hi4 hr4
theorem zQK(s s':Bool)(hs:s≠s')(A:WG Addr)(n c:Nat)(l:List Nat)(A':WG Addr)(n' c':Nat)(l':List Nat)(w:WB)(h:Rd w A n c l)(ht:Lt l)(h':Rd w A' n' c' l')(ht':Lt l')(hl':n'<=100000)(hlt:val l<val l'):
  Calls prog 96 #[.agg #[.bool s,.slice A n c],.agg #[.bool s',.slice A' n' c']] w (qT w (iv s l+iv s' l')):=by
 have hne:(s==s')=false:=by simp[hs]
 obtain⟨W0,hW0⟩:∃W0,(((w.alloc (.cells #[.bool s,.slice A n c] 26)).alloc (.cells #[.bool s',.slice A' n' c'] 26)).alloc (.cells #[.bool false,.slice none 0 0] 26))=W0:=⟨_,rfl⟩
 have x0:q7 W0 w.heap.size 26 #[.bool s,.slice A n c]:=by rw[<-hW0];exact((q7.new w _ _).alloc _).alloc _
 have x1:q7 W0 (w.heap.size+1) 26 #[.bool s',.slice A' n' c']:=by rw[<-hW0];exact(q7.at_ _ _ _ fE).alloc _
 have x2:q7 W0 (w.heap.size+1+1) 26 #[.bool false,.slice none 0 0]:=by rw[<-hW0];exact q7.at_ _ _ _ fE
 have hB0:Below w.heap.size w W0:=by rw[<-hW0];exact(((xG _ w).alloc (vQ _) _).alloc fE _).alloc fM _
 have hsub1:=zF1 A n c l A' n' c' l' W0 (h.below hB0) (h'.below hB0) ht ht' hlt
 have hsub2:=zHD A' n' c' l' A n c l W0 (h'.below hB0) (h.below hB0) ht' ht (nL hlt) oA
 obtain⟨v,hv⟩:∃v,iv s l+iv s' l'=v:=⟨_,rfl⟩
 have hnm:=fun(W:WB) (A3:WG Addr) (n3 c3:Nat) (l3:List Nat) (hr3:Rd W A3 n3 c3 l3) (hi3:Is l3 (val l'-val l))=>zAD s' A3 n3 c3 l3 W hr3 hi3.lt (by
  rw[<-hr3.len]
  have e1:=qV ht'
  rw[h'.len]at e1
  exact xR (hi3.len (nD (nR _ _) e1)) oA)
 have hiv:=fun(l3:List Nat) (hi3:Is l3 (val l'-val l))=>zOR (l3:=l3) (bK hs) hi3.val (nL hlt)
 rw[Int.add_comm,hv]at hiv
 rw[hv]
 obtain⟨⟨a0,a1⟩,_,_⟩:=x0.facts2
 obtain⟨⟨a2,a3⟩,_,_⟩:=x1.facts2
 go_enter func96,ntmps96
 go_wp2_with (first|(go_at_call 115;first|((with_reducible refine hsub1.mono ?_);rintro e w3 ⟨rfl,hw3⟩;rw[<-hw3];clear hw3 w3)|((with_reducible refine hsub2.mono ?_);rintro e w3 ⟨A3,n3,c3,l3,rfl,hi3,hr3,hb3⟩;have hq3:=hnm w3 A3 n3 c3 l3 hr3 hi3;rw[hiv l3 hi3]at hq3;obtain⟨⟨a0,a1⟩,_,_⟩:=(x0.kept hb3).facts2;obtain⟨⟨a2,a3⟩,_,_⟩:=(x1.kept hb3).facts2))|(go_at_call 69;refine hq3.mono ?_;rintro e w4 ⟨A4,n4,c4,l4,rfl,hi4,hr4,hb4⟩;have hB4:=hb3.trans (hb4.mono hb3.size);have hq:=x2.kept hB4;obtain⟨⟨m0,m1⟩,m2,m3⟩:=hq.facts2))
 obtain⟨⟨c0,c1⟩,_,_⟩:=((hq.set 0 (.bool (decide (v<0)))).set 1 (.slice A4 n4 c4)).facts2
 exact nI (v:=.agg #[.bool (decide (v<0)),.slice A4 n4 c4]) (by simp[results,results96,go_sem,c0,c1]) rfl<|zIV hq (hB0.trans (hB4.mono hB0.size)) oA hi4 hr4
theorem zNQ(s:Bool)(A:WG Addr)(n c:Nat)(l:List Nat)(s':Bool)(A':WG Addr)(n' c':Nat)(l':List Nat)(w:WB)(h:Rd w A n c l)(ht:Lt l)(J:Rd w A' n' c' l')(ht':Lt l')(m:Nat)(O:n<=m)(I:n'<=m)(U:m<=100000):
  Calls prog 96 #[.agg #[.bool s,.slice A n c],.agg #[.bool s',.slice A' n' c']] w (qT w (iv s l+iv s' l')):=by
 by_cases hs:s=s'
 .subst hs
  exact zMn s A n c l A' n' c' l' w h ht J ht' m O I U
 .rcases bJ (val l) (val l')with e|e
  .exact zQK s s' hs A n c l A' n' c' l' w h ht J ht' oA e
  .exact zQL s s' hs A n c l A' n' c' l' w h ht J ht' oA e
attribute [local go_sem] Oper.semAt_some qL yG
def zY8(w:WB)(B:Nat)(f:Nat->Int)(n:Nat)(ix:WE)(W:WB):Prop:=
 ∃(k:Nat) (A:WG Addr) (m c:Nat) (l:List Nat),k<=n/\ix=.int .i64 k/\q7 W B 26 #[.bool (decide (f k<0)),.slice A m c]/\Is l (f k).natAbs/\Rd W A m c l/\
  q7 W w.heap.size 26 #[.bool false,.slice none 0 0]/\Below w.heap.size w W
theorem zI2(A:WG Addr)(n c:Nat)(is:List (Bool×List Nat))(m M:Nat)(w:WB)(h:IRdM m w A n is)(hn:n<=c)(_hc:c<=9223372036854775807)(hmM:m<=M)(hM:M<=100000)(hv:∀k,k<=n->(zEL is k).natAbs<BB^M)(hnn:n<=1000000:=by first|omega|decide):
  Calls prog 70 #[.slice A n c] w (qT w (zEL is n)):=by
 have hmix:prog.follows .mixedOrders=true:=fJ
 go_enter func70,ntmps70
 go_wp2
 go_loopw [4] (zY8 w (w.heap.size+1) (zEL is) n) (fun i _=>n-(intOf i).toNat)
 case atStart=>exact⟨0,none,0,0, [],vS _,rfl,q7.at_ _ _ _ fE,Is.nil,wM _,(q7.new w _ _).alloc _,((xG _ w).alloc (vQ _) _).alloc fE _⟩
 case round=>
  obtain⟨k,Ao,mo,co,lo,hk,rfl,hx1,hio,hro,hx0,hB⟩:=hrel
  obtain⟨v,hvk⟩:∃v,zEL is k=v:=⟨_,rfl⟩
  have hvb:=hv k hk
  rw[hvk]at hx1 hio hvb
  have hmo:mo<=M:=by rw[<-hro.len];exact hio.len hvb
  have HV:=hid hvk
  clear hvk
  by_cases hkn:k<n
  .obtain⟨b,o,s,Ai,ni,ci,li,rfl,p1,p2,hi,hri,hli,hni⟩:=(h.below hB).cells k hkn
   have HI:=hid hi
   clear hi
   have hb1:=hx1.lt
   go_wp2
   refine(bL (n:=0)).1 ?_
   have cf:∀W,Below wr.heap.size wr W->(W.cell? ⟨w.heap.size+1,0,none⟩=some (.bool (decide (v<0)))/\W.cell? ⟨w.heap.size+1,1,none⟩=some (.slice Ao mo co))/\W.cell? ⟨b,o+k*2,none⟩=some (.bool s)/\W.cell? ⟨b,o+k*2+1,none⟩=some (.slice Ai ni ci):=fun W hb=>
    ⟨(hx1.kept hb).facts2.1,(hb.cell (p:=⟨b,o+k*2,none⟩) (z7 p1)).trans p1,(hb.cell (p:=⟨b,o+k*2+1,none⟩) (z7 p2)).trans p2⟩
   refine yF 7 (fun W=>(W.cell? ⟨w.heap.size+1,0,none⟩=some (.bool (decide (v<0)))/\W.cell? ⟨w.heap.size+1,1,none⟩=some (.slice Ao mo co))/\W.cell? ⟨b,o+k*2,none⟩=some (.bool s)/\W.cell? ⟨b,o+k*2+1,none⟩=some (.slice Ai ni ci)) hmix ?_
   have d1:=cf _ (xG _ wr).drew
   refine zP (i:=0) (v:=?vv1) kA kA rfl kA kA kA fD d1 ⟨.inl ⟨rfl,?yy1⟩,fun _=>rfl⟩ ?_
   case yy1=>
    rintro wx ⟨⟨q1,q2⟩,q3,q4⟩
    go_simp
    first|done|rfl
   refine zP (i:=1) (v:=?vv2) kA kA rfl kA kA kA fD d1 ⟨.inl ⟨rfl,?yy2⟩,fun _=>rfl⟩ ?_
   case yy2=>
    rintro wx ⟨⟨q1,q2⟩,q3,q4⟩
    go_simp
    first|done|rfl
   refine zP (i:=2) (v:=?vv3) kA kA rfl kA kA kA fD d1 ⟨.inl ⟨rfl,?yy3⟩,fun _=>rfl⟩ ?_
   case yy3=>
    rintro wx ⟨⟨q1,q2⟩,q3,q4⟩
    go_simp
    first|done|rfl
   refine zP (i:=3) (v:=?vv4) kA kA rfl kA kA kA fD d1 ⟨.inl ⟨rfl,?yy4⟩,fun _=>rfl⟩ ?_
   case yy4=>
    rintro wx ⟨⟨q1,q2⟩,q3,q4⟩
    go_simp
    first|done|rfl
   refine zP (i:=4) (v:=?vv5) kA kA rfl kA kA kA fD d1 ⟨.inl ⟨rfl,?yy5⟩,fun _=>rfl⟩ ?_
   case yy5=>
    rintro wx ⟨⟨q1,q2⟩,q3,q4⟩
    go_simp
    first|done|rfl
   have hnm:=zAD s Ai ni ci li wr.drew hri.drew hli oA
   refine zAL (i:=5) kA rfl (fun K hK=>?_)
   go_simp
   refine bG (bB.2 hnm) ?_
   rintro e w2 ⟨A2,n2,c2,l2,rfl,hi2,hr2,hb2⟩
   have hB2:Below wr.heap.size wr w2:=(xG _ wr).drew.trans hb2
   refine hK _ _ (.inr (cf _ hB2)) ?_
   clear hK K
   have hn2:n2<=M:=by
    rw[<-hr2.len]
    exact xR (hi2.len (zAF hli hri.len hni)) hmM
   have htw:=zNQ (decide (v<0)) Ao mo co lo (decide (iv s li<0)) A2 n2 c2 l2 w2 (hro.below hB2) hio.lt hr2 hi2.lt M hmo hn2 hM
   rw[zDd hio,zDd hi2]at htw
   have hsum:v+iv s li=zEL is (k+1):=by
    show _=zEL is k+zE0 is k
    rw[HV.out]
    unfold zE0
    rw[HI.out]
    rfl
   have HS:=hid hsum
   obtain⟨v3,hv3⟩:∃v3,v+iv s li=v3:=⟨_,rfl⟩
   rw[hv3]at htw HS
   clear hsum
   refine zAL (i:=6) kA rfl (fun K hK=>?_)
   go_simp
   refine bG (bB.2 htw) ?_
   rintro e w3 ⟨A3,n3,c3,l3,rfl,hi3,hr3,hb3⟩
   have hB3:Below wr.heap.size wr w3:=hB2.trans (hb3.mono hB2.size)
   refine hK _ _ (.inr (cf _ hB3)) ?_
   clear hK K
   have hq:=hx1.kept hB3
   obtain⟨⟨m0,m1⟩,m2,m3⟩:=hq.facts2
   have hq0:=hx0.kept hB3
   refine zAL (i:=7) kA rfl (fun K hK=>?_)
   go_simp
   refine hK _ _ (.inl rfl) ?_
   clear hK K
   refine zCW kA ?_
   go_wp2
   go_roundw
   case rel=>
    have e1:=HS.out
    refine⟨k+1,A3,n3,c3,l3,oA,fR,?_,by rw[<-e1];exact hi3,(hr3.setN hq (i:=0) rfl (fun _=>fG) _).setN (hq.set 0 _) (i:=1) rfl (fun _=>fG) _,?_,?_⟩
    .rw[<-e1]
     exact(hq.set 0 _).set 1 _
    .exact(hq0.other (p:=⟨w.heap.size+1,0,none⟩) fE _).other (p:=⟨w.heap.size+1,1,none⟩) fE _
    .exact((hB.trans (hB3.mono hB.size)).setCell (p:=⟨w.heap.size+1,0,none⟩) fE _).setCell (p:=⟨w.heap.size+1,1,none⟩) fE _
   case measure=>simp[intOf];omega
  .obtain rfl:k=n:=oA
   obtain⟨⟨g0,g1⟩,_,_⟩:=hx1.facts2
   have hnm:=zAD (decide (v<0)) Ao mo co lo wr hro hio.lt oA
   rw[zDd hio]at hnm
   go_wp2_with (go_at_call 69;refine hnm.mono ?_;rintro e w4 ⟨A4,n4,c4,l4,rfl,hi4,hr4,hb4⟩;have hq:=hx0.kept hb4;obtain⟨⟨m0,m1⟩,m2,m3⟩:=hq.facts2)
   obtain⟨⟨c0,c1⟩,_,_⟩:=((hq.set 0 (.bool (decide (v<0)))).set 1 (.slice A4 n4 c4)).facts2
   refine nI (v:=.agg #[.bool (decide (v<0)),.slice A4 n4 c4]) (by simp[results,results70,go_sem,c0,c1]) rfl ?_
   rw[HV.out]
   exact zIV hq (hB.trans (hb4.mono hB.size)) (vQ _) hi4 hr4
theorem zNS(A:WG Addr)(n c:Nat)(is:List (Bool×List Nat))(m M:Nat)(w:WB)(h:IRdM m w A n is)(hn:n<=c)(_hc:c<=9223372036854775807)(hmM:m<=M)(hM:M<=50000)(hv:∀k,k<=n->(zCB is k).natAbs<BB^M)(hnn:n<=1000000:=by first|omega|decide):
  Calls prog 56 #[.slice A n c] w (qT w (zCB is n)):=by
 have hmix:prog.follows .mixedOrders=true:=fJ
 go_enter func56,ntmps56
 have hof:=zLj 1 oA oA (w.alloc (.cells #[.bool false,.slice none 0 0] 26))
 go_wp2_with (go_at_call 38;refine hof.mono ?_;rintro e w0 ⟨A0,n0,c0,l0,rfl,hi0,hr0,hb0⟩)
 have hBs:w.heap.size<w0.heap.size:=vV fE hb0.size
 have hst:zY8 w w0.heap.size (zCB is) n (.int .i64 0) (w0.alloc (.cells #[.bool false,.slice A0 n0 c0] 26)):=by
  refine⟨0,A0,n0,c0,l0,vS _,rfl,q7.at_ _ _ _ rfl,hi0,hr0.alloc _,((q7.new w _ _).kept hb0).alloc _,?_⟩
  have t1:=((xG _ w).alloc (vQ _) (.cells #[.bool false,.slice none 0 0] 26)).trans (hb0.mono fE)
  exact t1.alloc t1.size _
 go_loopw [4] (zY8 w w0.heap.size (zCB is) n) (fun i _=>n-(intOf i).toNat)
 case atStart=>exact hst
 case round=>
  obtain⟨k,Ao,mo,co,lo,hk,rfl,hx1,hio,hro,hx0,hB⟩:=hrel
  obtain⟨v,hvk⟩:∃v,zCB is k=v:=⟨_,rfl⟩
  have hvb:=hv k hk
  rw[hvk]at hx1 hio hvb
  have hmo:mo<=M:=by rw[<-hro.len];exact hio.len hvb
  have HV:=hid hvk
  clear hvk
  by_cases hkn:k<n
  .obtain⟨b,o,s,Ai,ni,ci,li,rfl,p1,p2,hi,hri,hli,hni⟩:=(h.below hB).cells k hkn
   have HI:=hid hi
   clear hi
   go_wp2
   refine(bL (n:=0)).1 ?_
   have cf:∀W,Below wr.heap.size wr W->(W.cell? ⟨w0.heap.size,0,none⟩=some (.bool (decide (v<0)))/\W.cell? ⟨w0.heap.size,1,none⟩=some (.slice Ao mo co))/\W.cell? ⟨b,o+k*2,none⟩=some (.bool s)/\W.cell? ⟨b,o+k*2+1,none⟩=some (.slice Ai ni ci):=fun W hb=>
    ⟨(hx1.kept hb).facts2.1,(hb.cell (p:=⟨b,o+k*2,none⟩) (z7 p1)).trans p1,(hb.cell (p:=⟨b,o+k*2+1,none⟩) (z7 p2)).trans p2⟩
   refine yF 18 (fun W=>(W.cell? ⟨w0.heap.size,0,none⟩=some (.bool (decide (v<0)))/\W.cell? ⟨w0.heap.size,1,none⟩=some (.slice Ao mo co))/\W.cell? ⟨b,o+k*2,none⟩=some (.bool s)/\W.cell? ⟨b,o+k*2+1,none⟩=some (.slice Ai ni ci)) hmix ?_
   have d1:=cf _ (xG _ wr).drew
   refine zP (i:=0) (v:=?vv6) kA kA rfl kA kA kA fD d1 ⟨.inl ⟨rfl,?yy6⟩,fun _=>rfl⟩ ?_
   case yy6=>
    rintro wx ⟨⟨q1,q2⟩,q3,q4⟩
    go_simp
    first|done|rfl
   refine zP (i:=1) (v:=?vv7) kA kA rfl kA kA kA fD d1 ⟨.inl ⟨rfl,?yy7⟩,fun _=>rfl⟩ ?_
   case yy7=>
    rintro wx ⟨⟨q1,q2⟩,q3,q4⟩
    go_simp
    first|done|rfl
   refine zP (i:=2) (v:=?vv8) kA kA rfl kA kA kA fD d1 ⟨.inl ⟨rfl,?yy8⟩,fun _=>rfl⟩ ?_
   case yy8=>
    rintro wx ⟨⟨q1,q2⟩,q3,q4⟩
    go_simp
    first|done|rfl
   refine zP (i:=3) (v:=?vv9) kA kA rfl kA kA kA fD d1 ⟨.inl ⟨rfl,?yy9⟩,fun _=>rfl⟩ ?_
   case yy9=>
    rintro wx ⟨⟨q1,q2⟩,q3,q4⟩
    go_simp
    first|done|rfl
   refine zP (i:=4) (v:=?vv10) kA kA rfl kA kA kA fD d1 ⟨.inl ⟨rfl,?yy10⟩,fun _=>rfl⟩ ?_
   case yy10=>
    rintro wx ⟨⟨q1,q2⟩,q3,q4⟩
    go_simp
    first|done|rfl
   refine zP (i:=5) (v:=?vv11) kA kA rfl kA kA kA fD d1 ⟨.inl ⟨rfl,?yy11⟩,fun _=>rfl⟩ ?_
   case yy11=>
    rintro wx ⟨⟨q1,q2⟩,q3,q4⟩
    go_simp
    first|done|rfl
   refine zP (i:=6) (v:=?vv12) kA kA rfl kA kA kA fD d1 ⟨.inl ⟨rfl,?yy12⟩,fun _=>rfl⟩ ?_
   case yy12=>
    rintro wx ⟨⟨q1,q2⟩,q3,q4⟩
    go_simp
    first|done|rfl
   refine zP (i:=7) (v:=?vv13) kA kA rfl kA kA kA fD d1 ⟨.inl ⟨rfl,?yy13⟩,fun _=>rfl⟩ ?_
   case yy13=>
    rintro wx ⟨⟨q1,q2⟩,q3,q4⟩
    go_simp
    first|done|rfl
   refine zP (i:=8) (v:=?vv14) kA kA rfl kA kA kA fD d1 ⟨.inl ⟨rfl,?yy14⟩,fun _=>rfl⟩ ?_
   case yy14=>
    rintro wx ⟨⟨q1,q2⟩,q3,q4⟩
    go_simp
    first|done|rfl
   refine zP (i:=9) (v:=?vv15) kA kA rfl kA kA kA fD d1 ⟨.inl ⟨rfl,?yy15⟩,fun _=>rfl⟩ ?_
   case yy15=>
    rintro wx ⟨⟨q1,q2⟩,q3,q4⟩
    go_simp
    first|done|rfl
   refine zP (i:=10) (v:=?vv16) kA kA rfl kA kA kA fD d1 ⟨.inl ⟨rfl,?yy16⟩,fun _=>rfl⟩ ?_
   case yy16=>
    rintro wx ⟨⟨q1,q2⟩,q3,q4⟩
    go_simp
    first|done|rfl
   refine zP (i:=11) (v:=?vv17) kA kA rfl kA kA kA fD d1 ⟨.inl ⟨rfl,?yy17⟩,fun _=>rfl⟩ ?_
   case yy17=>
    rintro wx ⟨⟨q1,q2⟩,q3,q4⟩
    go_simp
    first|done|rfl
   refine zP (i:=12) (v:=?vv18) kA kA rfl kA kA kA fD d1 ⟨.inl ⟨rfl,?yy18⟩,fun _=>rfl⟩ ?_
   case yy18=>
    rintro wx ⟨⟨q1,q2⟩,q3,q4⟩
    go_simp
    first|done|rfl
   refine zP (i:=13) (v:=?vv19) kA kA rfl kA kA kA fD d1 ⟨.inl ⟨rfl,?yy19⟩,fun _=>rfl⟩ ?_
   case yy19=>
    rintro wx ⟨⟨q1,q2⟩,q3,q4⟩
    go_simp
    first|done|rfl
   refine zP (i:=14) (v:=?vv20) kA kA rfl kA kA kA fD d1 ⟨.inl ⟨rfl,?yy20⟩,fun _=>rfl⟩ ?_
   case yy20=>
    rintro wx ⟨⟨q1,q2⟩,q3,q4⟩
    go_simp
    first|done|rfl
   have hml:=zLc Ao mo co lo Ai ni ci li wr.drew hro.drew hri.drew hio.lt hli oA oA
   refine zAL (i:=15) kA rfl (fun K hK=>?_)
   go_simp
   refine bG (bB.2 hml) ?_
   rintro e w2 ⟨A2,n2,c2,l2,rfl,hi2,hr2,hb2⟩
   have hB2:Below wr.heap.size wr w2:=(xG _ wr).drew.trans hb2
   refine hK _ _ (.inr (cf _ hB2)) ?_
   clear hK K
   have dd2:=cf _ hB2
   refine zAL (i:=16) kA rfl (fun K hK=>?_)
   go_simp
   refine hK _ _ (.inr dd2) ?_
   clear hK K
   have hn2:n2<=M+m:=by
    rw[<-hr2.len]
    refine hi2.len ?_
    have e1:=hio.lt_pow;have e2:=qV hli
    rw[hio.val,uC]
    rw[hri.len]at e2
    have e3:BB^ni<=BB^m:=vZ qC hni
    exact vV (pL hvb (nL (vV e2 e3)) (uO qC)) (vQ _)
   have htw:=zAD (decide (v<0) !=s) A2 n2 c2 l2 w2 hr2 hi2.lt oA
   rw[zWn hi2.val,zDd hio]at htw
   have hsum:v*iv s li=zCB is (k+1):=by
    show _=zCB is k*zE0 is k
    rw[HV.out]
    unfold zE0
    rw[HI.out]
    rfl
   have HS:=hid hsum
   obtain⟨v3,hv3⟩:∃v3,v*iv s li=v3:=⟨_,rfl⟩
   rw[hv3]at htw HS
   clear hsum
   refine zAL (i:=17) kA rfl (fun K hK=>?_)
   go_simp
   refine bG (bB.2 htw) ?_
   rintro e w3 ⟨A3,n3,c3,l3,rfl,hi3,hr3,hb3⟩
   have hB3:Below wr.heap.size wr w3:=hB2.trans (hb3.mono hB2.size)
   refine hK _ _ (.inr (cf _ hB3)) ?_
   clear hK K
   have hq:=hx1.kept hB3
   obtain⟨⟨m0,m1⟩,m2,m3⟩:=hq.facts2
   have hq0:=hx0.kept hB3
   refine zAL (i:=18) kA rfl (fun K hK=>?_)
   go_simp
   refine hK _ _ (.inl rfl) ?_
   clear hK K
   refine zCW kA ?_
   go_wp2
   go_roundw
   case rel=>
    have e1:=HS.out
    refine⟨k+1,A3,n3,c3,l3,oA,fR,?_,by rw[<-e1];exact hi3,(hr3.setN hq (i:=0) rfl (fun _=>fG) _).setN (hq.set 0 _) (i:=1) rfl (fun _=>fG) _,?_,?_⟩
    .rw[<-e1]
     exact(hq.set 0 _).set 1 _
    .exact(hq0.other (p:=⟨w0.heap.size,0,none⟩) fM _).other (p:=⟨w0.heap.size,1,none⟩) fM _
    .exact((hB.trans (hB3.mono hB.size)).setCell (p:=⟨w0.heap.size,0,none⟩) fM _).setCell (p:=⟨w0.heap.size,1,none⟩) fM _
   case measure=>simp[intOf];omega
  .obtain rfl:k=n:=oA
   obtain⟨⟨g0,g1⟩,_,_⟩:=hx1.facts2
   obtain⟨⟨m0,m1⟩,m2,m3⟩:=hx0.facts2
   go_wp2
   obtain⟨⟨c0,c1⟩,_,_⟩:=((hx0.set 0 (.bool (decide (v<0)))).set 1 (.slice Ao mo co)).facts2
   refine nI (v:=.agg #[.bool (decide (v<0)),.slice Ao mo co]) (by simp[results,results56,go_sem,c0,c1]) rfl ?_
   rw[HV.out]
   exact zIV hx0 hB (vQ _) hio hro
theorem zT5(M:Nat)(h:IS W m v is)(hn:is.length<=1000000)(I:m<=M)(O:M<=100000)(U:∀k,k<=is.length->(zEL is k).natAbs<BB^M):Calls prog 70 #[v] W (zIz W (zEL is is.length)):=by
 obtain⟨A,c,rfl,h3,J,h2⟩:=h
 exact(zI2 A is.length c is m M W h2 h3 J I O U).mono fun _ _=>qT.v
theorem zT3(M:Nat)(h:IS W m v is)(hn:is.length<=1000000)(I:m<=M)(O:M<=50000)(U:∀k,k<=is.length->(zCB is k).natAbs<BB^M):Calls prog 56 #[v] W (zIz W (zCB is is.length)):=by
 obtain⟨A,c,rfl,h3,J,h2⟩:=h
 exact(zNS A is.length c is m M W h2 h3 J I O U).mono fun _ _=>qT.v
attribute [local go_sem] Oper.semAt_some qL yG
theorem zI1(s:Bool)(A:WG Addr)(n c:Nat)(l:List Nat)(w:WB)(h:Rd w A n c l)(ht:Lt l)(hl:n<=1099511627776):
  Calls prog 72 #[.agg #[.bool s,.slice A n c]] w (qT w (-iv s l)):=by
 go_enter func72,ntmps72
 go_wp2_with (go_at_call 69;refine(zAD (!s) A n c l _ ((h.alloc _).alloc _) ht hl).mono ?_;rintro e w1 ⟨A2,n2,c2,l2,rfl,hi2,hr2,hb⟩;have hq:=zMj hb (b:=w.heap.size+1) fE;obtain⟨⟨q0,q1⟩,q2,q3⟩:=hq.facts2)
 obtain⟨⟨c0,c1⟩,_,_⟩:=((hq.set 0 (.bool (decide (iv (!s) l<0)))).set 1 (.slice A2 n2 c2)).facts2
 refine nI (v:=.agg #[.bool (decide (iv (!s) l<0)),.slice A2 n2 c2]) (by simp[results,results72,go_sem,c0,c1]) rfl ?_
 rw[<-zSD]
 exact zIV hq ((((xG _ w).alloc (vQ _) _).alloc fE _).trans (hb.mono fM)) fE hi2 hr2
theorem zNR(s:Bool)(A:WG Addr)(n c:Nat)(l:List Nat)(s':Bool)(A':WG Addr)(n' c':Nat)(l':List Nat)(w:WB)(h:Rd w A n c l)(ht:Lt l)(h':Rd w A' n' c' l')(ht':Lt l')(m:Nat)(hl:n<=m)(hl':n'<=m)(hm:m<=90000):
  Calls prog 73 #[.agg #[.bool s,.slice A n c],.agg #[.bool s',.slice A' n' c']] w (qT w (iv s l-iv s' l')):=by
 have hmix:prog.follows .mixedOrders=true:=fJ
 go_enter func73,ntmps73
 go_wp2
 refine(bL (n:=0)).1 ?_
 obtain⟨W0,hW0⟩:∃W0,(((w.alloc (.cells #[.bool s,.slice A n c] 26)).alloc (.cells #[.bool s',.slice A' n' c'] 26)).alloc (.cells #[.bool false,.slice none 0 0] 26))=W0:=⟨_,rfl⟩
 have x0:q7 W0 w.heap.size 26 #[.bool s,.slice A n c]:=by rw[<-hW0];exact((q7.new w _ _).alloc _).alloc _
 have x1:q7 W0 (w.heap.size+1) 26 #[.bool s',.slice A' n' c']:=by rw[<-hW0];exact(q7.at_ _ _ _ fE).alloc _
 have x2:q7 W0 (w.heap.size+1+1) 26 #[.bool false,.slice none 0 0]:=by rw[<-hW0];exact q7.at_ _ _ _ fE
 have hB0:Below w.heap.size w W0:=by rw[<-hW0];exact(((xG _ w).alloc (vQ _) _).alloc fE _).alloc fM _
 rw[hW0]
 clear hW0
 refine yF 100 (fun W=>(W.cell? ⟨w.heap.size,0,none⟩=some (.bool s)/\W.cell? ⟨w.heap.size,1,none⟩=some (.slice A n c))/\W.cell? ⟨w.heap.size+1,0,none⟩=some (.bool s')/\W.cell? ⟨w.heap.size+1,1,none⟩=some (.slice A' n' c')) hmix ?_
 have d1:=And.intro x0.facts2.1 x1.facts2.1
 refine zP (i:=0) (v:=?vv1) kA kA rfl kA kA kA fD d1 ⟨.inl ⟨rfl,?yy1⟩,fun _=>rfl⟩ ?_
 case yy1=>
  rintro wx ⟨⟨q1,q2⟩,q3,q4⟩
  go_simp
  first|done|rfl
 refine zP (i:=1) (v:=?vv2) kA kA rfl kA kA kA fD d1 ⟨.inl ⟨rfl,?yy2⟩,fun _=>rfl⟩ ?_
 case yy2=>
  rintro wx ⟨⟨q1,q2⟩,q3,q4⟩
  go_simp
  first|done|rfl
 refine zAL (i:=2) kA rfl (fun K hK=>?_)
 go_simp
 have hneg:=zI1 s' A' n' c' l' _ ((h'.below hB0).drew) ht' oA
 obtain⟨v2,hv2⟩:∃v2,-iv s' l'=v2:=⟨_,rfl⟩
 rw[hv2]at hneg
 refine bG (bB.2 hneg) ?_
 rintro e w2 ⟨A2,n2,c2,l2,rfl,hi2,hr2,hb2⟩
 have hB2:Below W0.heap.size W0 w2:=((xG _ W0).drew).trans hb2
 have d2:=And.intro (x0.kept hB2).facts2.1 (x1.kept hB2).facts2.1
 have hn2:n2<=m:=by
  rw[<-hr2.len]
  refine hi2.len ?_
  rw[<-hv2,Int.natAbs_neg]
  exact zAF ht' h'.len hl'
 refine hK _ _ (.inr d2) ?_
 clear hK K
 refine zAL (i:=3) kA rfl (fun K hK=>?_)
 go_simp
 have hds:IRdM m _ _ _ _:=IRd.two (s:=s) (s':=decide (v2<0)) (h.below (hB0.trans (hB2.mono hB0.size))) ht oA hr2 hi2.lt oA 26
 have hW3:Below W0.heap.size W0 (w2.alloc (.cells #[.bool s,.slice A n c,.bool (decide (v2<0)),.slice A2 n2 c2] 26)):=hB2.alloc hB2.size _
 refine hK _ _ (.inr ⟨(x0.kept hW3).facts2.1,(x1.kept hW3).facts2.1⟩) ?_
 clear hK K
 refine zAL (i:=4) kA rfl (fun K hK=>?_)
 go_simp
 have hvm:=zLL (s,l) (decide (v2<0),l2) m (zAF ht h.len hl) (zAF hi2.lt hr2.len hn2)
 have hsum:zEL [(s,l),(decide (v2<0),l2)] 2=iv s l-iv s' l':=by
  show(0+iv s l)+iv (decide (v2<0)) l2=_
  rw[zDd hi2]
  omega
 have hvs:∀k,k<=2->(zEL [(s,l),(decide (v2<0),l2)] k).natAbs<BB^(m+1):=by
  intro k hk
  have e0:=zAF (s:=s) ht h.len hl;have e2:=zAF (s:=s') ht' h'.len hl'
  have e3:0<BB^m:=uO fH
  rw[show BB^(m+1)=BB^m*4294967296 from by rw[uA];rfl]
  rcases(oA:k=0∨k=1∨k=2)with rfl|rfl|rfl
  .show(0:Int).natAbs<_
   rw[Int.natAbs_zero];omega
  .show(0+iv s l).natAbs<_
   rw[Int.zero_add];omega
  .rw[hsum];omega
 have hadd:=zI2 _ 2 2 _ m (m+1) _ hds oA oA oA oA hvs
 rw[hsum]at hadd
 refine bG (bB.2 hadd) ?_
 rintro e w3 ⟨A3,n3,c3,l3,rfl,hi3,hr3,hb3⟩
 have hB3:Below W0.heap.size W0 w3:=hW3.trans (hb3.mono hW3.size)
 have hq:=x2.kept hB3
 obtain⟨⟨m0,m1⟩,m2,m3⟩:=hq.facts2
 refine hK _ _ (.inr ⟨(x0.kept hB3).facts2.1,(x1.kept hB3).facts2.1⟩) ?_
 clear hK K
 obtain⟨v3,hv3⟩:∃v3,iv s l-iv s' l'=v3:=⟨_,rfl⟩
 rw[hv3]at hi3
 simp only[hv3]
 refine zAL (i:=5) kA rfl (fun K hK=>?_)
 go_simp
 refine hK _ _ (.inr ⟨((x0.kept hB3).other (p:=⟨w.heap.size+1+1,0,none⟩) fM _|>.other (p:=⟨w.heap.size+1+1,1,none⟩) fM _).facts2.1,((x1.kept hB3).other (p:=⟨w.heap.size+1+1,0,none⟩) fE _|>.other (p:=⟨w.heap.size+1+1,1,none⟩) fE _).facts2.1⟩) ?_
 clear hK K
 refine zCW kA ?_
 obtain⟨⟨c0,c1⟩,_,_⟩:=((hq.set 0 (.bool (decide (v3<0)))).set 1 (.slice A3 n3 c3)).facts2
 go_wp2
 refine nI (v:=.agg #[.bool (decide (v3<0)),.slice A3 n3 c3]) (by simp[results,results73,go_sem,c0,c1]) rfl ?_
 rw[hv3]
 exact zIV hq (hB0.trans (hB3.mono hB0.size)) oA hi3 hr3
end Go.Proofs.Wd
