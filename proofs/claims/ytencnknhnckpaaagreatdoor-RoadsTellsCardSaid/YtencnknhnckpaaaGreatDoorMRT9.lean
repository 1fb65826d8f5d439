/- An array of limbs of the call's own, known whole; slices.Backward; A r and what it needs. -/
import Derived.Test.YtencnknhnckpaaaGreatDoorMRT7
import Derived.Deep.OwnRows
abbrev mZ:=@List.length_replicate
abbrev nA:=@List.getElem?_replicate
abbrev nB:=@Int.natCast_mul
abbrev nC:=@List.map_set
abbrev nD:=@Int.natCast_ediv
abbrev nE:=@Int.tmod_eq_emod_of_nonneg
abbrev nF:=@Nat.sub_self
abbrev nG:=@Nat.lt_trans
abbrev nH:=@Array.getElem?_toList
abbrev nI:=@Int.natCast_emod
abbrev nJ:=@Nat.sub_zero
abbrev nK:=@Nat.mul_left_comm
abbrev nL:=@Nat.mul_lt_mul_of_lt_of_le
abbrev nM:=@List.map_const'
namespace Go.Proofs.Wd
open Tryz
variable {W W' w:WB}{R a at_ b c i j k m n o x z:Nat}{l l' l3 lb:List Nat}{A:WF Addr}{v:WD}{s s':Bool}{is:List (Bool×List Nat)}
set_option maxRecDepth 100000
set_option maxHeartbeats 1000000
open Go.RowKit Lb
attribute [local go_sem] Oper.semAt_some qD yA
def Arr(W:WB)(b:Nat)(l:List Nat):Prop:=W.heap[b]?=some (.cells (zBl l).toArray 81 (0,0))
theorem Arr.lt(h:Arr W b l):b<W.heap.size:=(xP.1 h).1
theorem Arr.cell(h:Arr W b l){i:Nat}(I:i<l.length):W.cell? ⟨b,i,none⟩=some (.int .u32 (lm l i)):=by
 unfold World.cell?
 rw[show W.heap[b]?=_ from h]
 simp only[xN,xI,xK,xO]
 exact zCA l i I
theorem Arr.frozen(h:Arr W b l)(i:Nat):W.frozen? ⟨b,i,none⟩=false:=by
 unfold World.frozen?
 rw[show W.heap[b]?=_ from h]
 simp
theorem Arr.set(h:Arr W b l)(i x:Nat):Arr (W.setCell ⟨b,i,none⟩ (.int .u32 (x:Int))) b (l.set i x):=by
 unfold Arr at h ⊢
 have e:(zBl (l.set i x)).toArray=(zBl l).toArray.setIfInBounds i (.int .u32 (x:Int)):=by
  simp[zBl,nC]
 rw[e]
 obtain⟨I,J⟩:=xP.1 h
 show(W.heap.modify b _)[b]?=_
 rw[bR (by rw[eR];exact I),mW,J]
 simp
theorem Arr.kept(h:Arr W b l)(I:W'.heap[b]?=W.heap[b]?):Arr W' b l:=I.trans h
theorem Arr.alloc(h:Arr W b l)(o:Obj):Arr (W.alloc o) b l:=h.kept (eM W o b h.lt)
theorem Arr.far(h:Arr W b l){p:Addr}(hp:b≠p.block)(u:WD):Arr (W.setCell p u) b l:=h.kept (cP W p u b hp)
theorem Arr.rd(h:Arr W b l){n:Nat}(I:l.length=n)(J:n<=9223372036854775807):Rd W (some ⟨b,0,none⟩) n n l:=
 ⟨I,vR _,J,fun e=>(by cases e),fun i hi=>⟨b,0,rfl,by rw[uK];exact h.cell oA⟩⟩
theorem Arr.abide{row:WF Nat}{C:Nat}(h:Arr W b l)(hg:W.grownBy W' row)(J:∀r,row=some r->C<=r/\∃o:Obj,W.heap[r]?=some o/\o.isCells=false):Arr W' b l:=
 h.kept (hg.block b h.lt fun e=>by
  obtain⟨_,o,I,O⟩:=J b e.symm
  rw[show W.heap[b]?=_ from h]at I
  cases I
  cases O)
theorem zHx(n:Nat):madeCells #[.int .u32 0] n=(zBl (List.replicate n 0)).toArray:=by
 apply Array.ext'
 simp[madeCells,zBl,gO,nM]
theorem Arr.new(W:WB)(n:Nat):Arr (W.alloc (.cells (madeCells #[.int .u32 0] n) 81)) W.heap.size (List.replicate n 0):=by
 rw[zHx]
 exact xM W _
theorem zPp(W:WB)(n:Nat){b:Nat}(h:b=W.heap.size):Arr (W.alloc (.cells (madeCells #[.int .u32 0] n) 81)) b (List.replicate n 0):=by
 subst h
 exact Arr.new W n
theorem zA0(n:Nat)(h:n<=17592186044416)(w:WB):
  (Instr.makeSlice 28 (.int .i64 (n:Int)) (.int .i64 (n:Int))).run prog w=.ok (.slice (some ⟨w.heap.size,0,none⟩) n n) (w.alloc (.cells (madeCells #[.int .u32 0] n) 81)):=
 run_make_row' 28 81 (.int .u32 0) 4 yB yS rfl .i64 .i64 n oA oA w
theorem zFs(A:WF Addr)(n c:Nat)(l:List Nat)(b1:Nat)(w0:WB)(h:Rd w0 A n c l)
  (hc1:w0.cell? ⟨b1,0,none⟩=some (.slice A n c)){S:Nat->Prop}(hS:∀b,S b->b<w0.heap.size)(hS1:S b1)(hSA:∀b o,0<n->A=some ⟨b,o,none⟩->S b):
  zSI prog 135 #[.pointer (some ⟨b1,0,none⟩)] (fun k=>#[.int .i64 (n-1-k:Nat),.int .u32 (lm l (n-1-k):Nat)]) n (yZ S) Mk (fun _=>True) w0:=by
 intro lp J W hW hJ hY h0
 have hle:=h.le;have hcap:=h.cap
 have hl1:=zU hc1
 have hw1:=(hW.cell (p:=⟨b1,0,none⟩) hl1).trans hc1
 refine zBr func135 rfl ?_
 simp only[ntmps135,bN,lL,lM,Nat.reduceAdd,Nat.reduceSub,lN,lO,lP,lQ,eZ,lR]
 gi_wp2
 gi_loopw [3] (fun i wr=>∃j:Nat,j<=n/\i=.int .i64 ((j:Int)-1)/\J (n-j) wr/\yZ S w0 wr) (fun i _=>(intOf i+1).toNat)
 case atStart=>exact⟨n,vR _,rfl,by rw[nF];exact h0,yZ.of_below hW hS⟩
 case round=>
  obtain⟨j,hj,rfl,hJ1,hb⟩:=hrel
  by_cases hj0:0<j
  .obtain⟨b,o,rfl,hc⟩:=(h.keepS hb hSA).cells (j-1) oA
   have hr1:=(hb.cell (p:=⟨b1,0,none⟩) hS1).trans hc1
   have e1:((j:Int)-1).toNat=j-1:=oA
   obtain⟨fn,tmps,assign,body,hy,hR⟩:=hY (n-j) wr oA hJ1
   rw[show n-1-(n-j)=j-1 from oA,show((j-1:Nat):Int)=(j:Int)-1 from oA]at hy
   have hRn:n-j+1=n-(j-1):=oA
   rw[hRn]at hR
   clear hRn
   gi_wp2
   refine hR.mono ?_
   rintro e W3 ⟨rfl,hJ3,hk3⟩
   clear hy
   gi_wp2
   go_roundw
   case rel=>exact⟨j-1,oA,by congr 1;omega,hJ3,hb.trans hk3⟩
   case measure=>simp[intOf];omega
  .obtain rfl:j=0:=oA
   gi_wp2
   go_end0
   exact⟨⟨_,rfl⟩,hJ1,trivial⟩
theorem zHR(A:WF Addr)(n c:Nat)(w:WB):
  Calls prog 127 #[.slice A n c] w fun e w'=>e=.returned (.func (.func 135) #[] #[.pointer (some ⟨w.heap.size,0,none⟩)])/\
   w.alloc (.cells #[.slice A n c] 28)=w':=by
 go_enter func127,ntmps127
 go_wp2
 go_ret
 exact⟨rfl,rfl⟩
def Row(W:WB)(R c:Nat)(l:List Nat):Prop:=∃cs:Array WD,W.heap[R]?=some (.cells cs 81 (0,0))/\cs.size=c/\l.length<=c/\c<=9223372036854775807/\cs.toList.take l.length=zBl l
theorem Row.lt(h:Row W R c l):R<W.heap.size:=by
 obtain⟨cs,I,_⟩:=h
 exact(xP.1 I).1
theorem Row.kept(h:Row W R c l)(I:W'.heap[R]?=W.heap[R]?):Row W' R c l:=by
 obtain⟨cs,J,O⟩:=h
 exact⟨cs,I.trans J,O⟩
theorem Row.get{cs:Array WD}(h:cs.toList.take l.length=zBl l){i:Nat}(I:i<l.length):cs[i]?=some (.int .u32 (lm l i)):=by
 rw[<-nH,<-cZ I,h]
 exact zCA l i I
theorem Row.cell(h:Row W R c l){i:Nat}(I:i<l.length):W.cell? ⟨R,i,none⟩=some (.int .u32 (lm l i)):=by
 obtain⟨cs,J,h2,h3,h4,O⟩:=h
 unfold World.cell?
 rw[J]
 simp only[xN,xI,xK]
 exact Row.get O I
theorem Row.frozen(h:Row W R c l)(i:Nat):W.frozen? ⟨R,i,none⟩=false:=by
 obtain⟨cs,I,h2⟩:=h
 unfold World.frozen?
 rw[I]
 simp
theorem Row.cap(h:Row W R c l):l.length<=c/\c<=9223372036854775807:=by
 obtain⟨cs,h1,h2,J,I,h5⟩:=h
 exact⟨J,I⟩
theorem Row.set(h:Row W R c l)(i x:Nat):Row (W.setCell ⟨R,i,none⟩ (.int .u32 (x:Int))) R c (l.set i x):=by
 obtain⟨cs,h1,J,h3,O,h5⟩:=h
 refine⟨cs.setIfInBounds i (.int .u32 (x:Int)),?_,by simpa using J,by simpa using h3,O,?_⟩
 .obtain⟨I,hk⟩:=xP.1 h1
  show(W.heap.modify R _)[R]?=_
  rw[bR (by rw[eR];exact I),mW,hk]
  simp
 .rw[uC,Array.toList_setIfInBounds,List.take_set,h5]
  simp[zBl,nC]
theorem Row.rd(h:Row W R c l):Rd W (some ⟨R,0,none⟩) l.length c l:=
 ⟨rfl,h.cap.1,h.cap.2,fun e=>(by cases e),fun i I=>⟨R,0,rfl,by rw[uK];exact h.cell I⟩⟩
theorem Row.of_own{base:Nat}(h:z7 w base 81 (.slice A n c) l)(hl:0<l.length):∃R,A=some ⟨R,0,none⟩/\n=l.length/\base<=R/\Row w R c l:=by
 obtain⟨h1,h2⟩:=h
 rcases h2 with⟨hv,hn⟩|⟨g,cap,O,hv,hg,hh,I,h0,J,ht⟩
 .omega
 .injection hv with a1 a2 a3
  subst a1;subst a3
  exact⟨g,rfl,a2,hg,O,hh,by simpa using J,I,by unfold maxLen at h0;omega,by simpa using ht⟩
def win(l:List Nat)(at_ k:Nat):Nat:=sm (fun i=>lm l (at_+i)) k
theorem zAy(l:List Nat)(at_ k:Nat):win l at_ (k+1)=win l at_ k+lm l (at_+k)*BB^k:=rfl
theorem zOO(h:Lt l)(at_ k:Nat):win l at_ k<BB^k:=zH9 fun _ _=>qK h _
theorem zIH(k:Nat):sm (lm (l.drop at_)) k=win l at_ k:=zAB fun _ _=>zC2
theorem zKI(h:∀i,i<k->lm l (at_+i)=lm l' (at_+i)):win l at_ k=win l' at_ k:=zAB h
theorem zEx:win (l.set (at_+k) z) at_ k=win l at_ k:=by
 refine zKI fun i hi=>?_
 by_cases h:at_+k<l.length
 .rw[zAK h,if_neg oA]
 .rw[List.set_eq_of_length_le oA]
structure LongAt(W:World)(D R rc:Nat)(lr:List Nat)(A:Option Addr)(n c:Nat)(lb:List Nat):Prop where
 box:jC W D 165 #[.slice (some ⟨R,0,none⟩) lr.length rc,.slice A n c]
 row:Row W R rc lr
 by_:Rd W A n c lb
 ne:D≠R
 far:∀b o,0<n->A=some ⟨b,o,none⟩->b≠R
theorem LongAt.grown{D rc:Nat}{lr I:List Nat}(h:LongAt W D R rc lr A n c lb)(J:W.grownBy W' (some R))(hr:Row W' R rc I)(hl:I.length=lr.length):LongAt W' D R rc I A n c lb:=by
 refine⟨?_,hr,?_,h.ne,h.far⟩
 .rw[hl]
  exact(J.block D h.box.lt (fun e=>h.ne (by injection e))).trans h.box
 .refine⟨h.by_.len,h.by_.le,h.by_.cap,h.by_.nil,fun i hi=>?_⟩
  obtain⟨b,o,e,O⟩:=h.by_.cells i hi
  exact⟨b,o,e,(bO (J.block b (zU O) (fun e'=>h.far b o oA e (by injection e')))).trans O⟩
attribute [local go_sem] Oper.semAt_some qD yA
def zPq(w:WB)(l:List Nat)(m n:Nat)(k:Nat)(W:WB):Prop:=
 ∃lq,∃o:Nat,Arr W (w.heap.size+1+1) lq/\lq.length=n/\Lt lq/\Boxed W (w.heap.size+1) 28 (.slice (some ⟨w.heap.size+1+1,0,none⟩) n n)/\Boxed W w.heap.size 81 (.int .u32 m)/\
  Boxed W (w.heap.size+1+1+1) 103 (.int .u64 o)/\o<m/\val (l.drop (n-k))=m*val (lq.drop (n-k))+o/\Below w.heap.size w W/\w.heap.size+5<=W.heap.size
theorem zAx{t:TypeId}(h:Boxed W b t v){p:Addr}(hp:b≠p.block)(u:WD):Boxed (W.setCell p u) b t v:=(cP W p u b hp).trans h
theorem Rd.setBox(h:Rd w A n c l){b:Nat}{t:TypeId}{u:WD}(hb:Boxed w b t u)(hu:∀x,u≠ .int .u32 x)(v:WD):Rd (w.setCell ⟨b,0,none⟩ v) A n c l:=
 ⟨h.len,h.le,h.cap,h.nil,fun i hi=>by
  obtain⟨b',o,e,J⟩:=h.cells i hi
  refine⟨b',o,e,(mL _ _ _ _ ?_).trans J⟩
  intro O
  simp only[Addr.mk.injEq,and_true]at O
  obtain⟨rfl,I⟩:=O
  first|rw[<-I]at J|rw[I]at J
  rw[Boxed.cell hb]at J
  exact hu _ (mE J)⟩
theorem zFz(w:WB)(l:List Nat)(m n:Nat){C:Nat}(hC:w.heap.size<=C):OwnFrom C (zPq w l m n):=by
 rintro k W W' row ⟨lq,o,ha,hl,J,hq,hb,ho,O,hv,hB,h5⟩ h I
 exact⟨lq,o,ha.abide h I,hl,J,qL hq h I,qL hb h I,qL ho h I,O,hv,zAi hB h (vR _) hC I,xQ h5 h.size⟩
theorem zJY(o x m:Nat)(I:0<m)(hm2:m<4294967296)(J:o<m)(h:x<4294967296):
  ∃d q r:Nat,bits .or .u64 ((o:Int)*4294967296) (x:Int)=(d:Int)/\d<18446744073709551616/\(d:Int)/(m:Int)=(q:Int)/\(d:Int)%(m:Int)=(r:Int)/\q<4294967296/\r<m/\o*4294967296+x=m*q+r:=by
 have O:o*4294967296+x<m*4294967296:=by
  have:(o+1)*4294967296<=m*4294967296:=uE _ J
  omega
 refine⟨o*4294967296+x,(o*4294967296+x)/m,(o*4294967296+x)%m,zEn o x oA h,oA,by rw[nD],by rw[nI],gK O,uH _ I,(gC _ _).symm⟩
theorem zK0(A:WF Addr)(n c:Nat)(l:List Nat)(m:Nat)(w:WB)(h:Rd w A n c l)(ht:Lt l)(hm:0<m)(hm2:m<4294967296)(hn:n<=1099511627776):
  Calls prog 122 #[.slice A n c,.int .u32 m] w fun e w'=>∃A1 n1 c1 l1,e=.returned (.tuple #[.slice A1 n1 c1,.int .u32 (val l%m:Nat),.int .i64 0])/\Is l1 (val l/m)/\Rd w' A1 n1 c1 l1/\Below w.heap.size w w':=by
 have hm0:((m:Int)==0)=false:=by simp only[mF,ne_eq];omega
 have hmk:=fun wx=>zA0 n oA wx
 refine jD func122 rfl ?_
 simp only[ntmps122,bN,lL,lM,Nat.reduceAdd,Nat.reduceSub,lN,lO,lP,lQ,eZ,lR]
 go_wp2_with (go_at_call 127;refine(zHR A n c _).mono ?_;rintro e w1 ⟨rfl,rfl⟩)
 obtain⟨W0,hW0⟩:∃W0,(((((w.alloc (.cells #[.int .u32 m] 81)).alloc (.cells #[.slice (some ⟨w.heap.size+1+1,0,none⟩) n n] 28)).alloc (.cells (madeCells #[.int .u32 0] n) 81)).alloc (.cells #[.int .u64 0] 103)).alloc (.cells #[.slice A n c] 28))=W0:=⟨_,rfl⟩
 have hsz:W0.heap.size=w.heap.size+5:=by rw[<-hW0];simp
 have hB0:Below w.heap.size w W0:=by rw[<-hW0];exact(((((xF _ w).alloc (vR _) _).alloc eN _).alloc sB _).alloc sB _).alloc sB _
 have b0:Boxed W0 w.heap.size 81 (.int .u32 m):=by rw[<-hW0];exact(((((zAX _ _ _ eN).alloc _).alloc _).alloc _).alloc _)
 have b1:Boxed W0 (w.heap.size+1) 28 (.slice (some ⟨w.heap.size+1+1,0,none⟩) n n):=by rw[<-hW0];exact((((zAX _ _ _ eN).alloc _).alloc _).alloc _)
 have b2:Arr W0 (w.heap.size+1+1) (List.replicate n 0):=by rw[<-hW0];exact(((zPp _ n eN).alloc _).alloc _)
 have b3:Boxed W0 (w.heap.size+1+1+1) 103 (.int .u64 0):=by rw[<-hW0];exact((zAX _ _ _ eN).alloc _)
 have b4:Boxed W0 (w.heap.size+1+1+1+1) 28 (.slice A n c):=by rw[<-hW0];exact(zAX _ _ _ eN)
 rw[hW0]
 clear hW0
 have hSb:∀b,(b<w.heap.size∨b=w.heap.size+1+1+1+1)->b<W0.heap.size:=fun b hb=>oA
 refine zEa (gf:=135) rfl (enters_of func135 kA rfl) (zFs A n c l (w.heap.size+1+1+1+1) W0 (h.below hB0) b4.cell (S:=fun b=>b<w.heap.size∨b=w.heap.size+1+1+1+1) hSb (.inr rfl) (fun b o hn e=>.inl (h.in_ b o hn e))) (fun _=>rfl) yZ.trans (zDG hSb)
  (zPq w l m n) (zFz w l m n oA) (zCb (zFz w l m n (vR _))) wR (fun _ _ _ _ _ _ _ _=>trivial)
  ⟨List.replicate n 0,0,b2,eN,jU n,b1,b0,b3,hm,by rw[nJ,List.drop_of_length_le (by rw[h.len];omega),List.drop_of_length_le eN];rfl,hB0,oA⟩
  (fun k=>{ tmps:=#[.slice A n c,.int .u32 m,undef,.pointer (some ⟨w.heap.size,0,none⟩),.pointer (some ⟨w.heap.size+1,0,none⟩),.int .u32 0,.int .i64 0,.pointer (some ⟨w.heap.size+1+1+1,0,none⟩),.int .i64 (n-1-k:Nat),.int .u32 (lm l (n-1-k):Nat),.int .u32 m,.bool false,.slice A n c,.int .i64 n,.slice (some ⟨w.heap.size+1+1,0,none⟩) n n,.slice A n c,.func (.func 135) #[] #[.pointer (some ⟨w.heap.size+1+1+1+1,0,none⟩)],.int .i64 (n-1-k:Nat),.int .u32 (lm l (n-1-k):Nat),undef,undef,undef,undef,undef,undef,undef,undef,undef,undef,undef,undef,undef,undef,undef,undef,undef,undef,undef,undef,undef],defers:=[] }) ?_ ?_ ?_
 .intro lp k W K hK
  gi_wp2
  exact hK
 .rintro lp k W hk ⟨lq,o,ha,hlq,hltq,hq,hb,ho,hom,hv,hB,h5⟩
  obtain⟨j,hj,hjn⟩:∃j,n-1-k=j/\j<n/\n-k=j+1/\n-(k+1)=j:=⟨n-1-k,rfl,oA,oA,oA⟩
  rw[hj]
  clear hj
  have hcq:=hq.cell;have hfq:=hq.frozen;have hcb:=hb.cell;have hco:=ho.cell;have hfo:=ho.frozen
  have x1:=qK ht j
  simp only[BB]at x1
  have hcj:=ha.cell (i:=j) oA
  have hfj:=ha.frozen j
  have hmix:prog.follows .mixedOrders=true:=rZ
  have ho32:o<4294967296:=oA
  obtain⟨d,q,r,hd,hd1,hdq,hdr,hq32,hrm,hstep⟩:=zJY o (lm l j) m hm hm2 hom x1
  have HS:=hid (And.intro hstep hjn)
  have hj0:j<n:=hjn.1
  clear hstep hjn
  gi_wp2
  obtain⟨W9,hW9⟩:∃W9,W.setCell ⟨w.heap.size+1+1+1,0,none⟩ (.int .u64 (d:Int))=W9:=⟨_,rfl⟩
  have ho9:Boxed W9 (w.heap.size+1+1+1) 103 (.int .u64 d):=by rw[<-hW9];exact ho.set _
  have hq9:Boxed W9 (w.heap.size+1) 28 (.slice (some ⟨w.heap.size+1+1,0,none⟩) n n):=by rw[<-hW9];exact hq.other oA _
  have hb9:Boxed W9 w.heap.size 81 (.int .u32 m):=by rw[<-hW9];exact hb.other oA _
  have ha9:Arr W9 (w.heap.size+1+1) lq:=by rw[<-hW9];exact ha.far eN _
  have hk9:KeepsOthers W W9:=by rw[<-hW9];exact bP _ _ _
  have hB9:Below w.heap.size W W9:=by rw[<-hW9];exact(xF _ _).setCell (p:=⟨w.heap.size+1+1+1,0,none⟩) sB _
  have hS9:yZ (fun b=>b<w.heap.size∨b=w.heap.size+1+1+1+1) W W9:=by rw[<-hW9];exact(yZ.refl _ _).setCell (p:=⟨w.heap.size+1+1+1,0,none⟩) sB _
  rw[hW9]
  clear hW9 hcq hfq hcb hco hfo hcj hfj
  refine zZ 13 (fun W=>W.cell? ⟨w.heap.size+1,0,none⟩=some (.slice (some ⟨w.heap.size+1+1,0,none⟩) n n)/\W.cell? ⟨w.heap.size+1+1+1,0,none⟩=some (.int .u64 d)/\W.cell? ⟨w.heap.size,0,none⟩=some (.int .u32 m)) hmix ?_
  have d1:W9.drew.cell? ⟨w.heap.size+1,0,none⟩=some (.slice (some ⟨w.heap.size+1+1,0,none⟩) n n):=hq9.cell
  have d2:W9.drew.cell? ⟨w.heap.size+1+1+1,0,none⟩=some (.int .u64 d):=ho9.cell
  have d3:W9.drew.cell? ⟨w.heap.size,0,none⟩=some (.int .u32 m):=hb9.cell
  have z1:W9.drew.cell? ⟨w.heap.size+1+1,j,none⟩=some (.int .u32 (lm lq j)):=ha9.cell oA
  have z2:W9.drew.frozen? ⟨w.heap.size+1+1,j,none⟩=false:=ha9.frozen j
  have g1:=lT (m:Int) oA
  have g2:=lT (q:Int) oA
  have g3:=IntWalk.u32_in (q:Int) oA
  have g4: ¬(m:Int)=0:=oA
  have g6: ¬m=0:=oA
  have g5:(q:Int)%4294967296=(q:Int):=oA
  have e2:=ho9.cell;have e3:=ho9.frozen
  have g7:(d:Int).tmod (m:Int)=(r:Int):=by rw[nE (lS d)];exact hdr
  have z3:W9.drew.frozen? ⟨w.heap.size+1+1+1,0,none⟩=false:=ho9.frozen
  refine zQ (i:=0) (v:=?vv1) kA kA rfl kA kA kA (fun _ _ _ h=>h) ⟨d1,d2,d3⟩ ⟨.inl ⟨rfl,?yy1⟩,fun _=>rfl⟩ ?_
  case yy1=>
   rintro wx ⟨q1,q2,q3⟩
   go_simp
   first|done|rfl
  refine zQ (i:=1) (v:=?vv2) kA kA rfl kA kA kA (fun _ _ _ h=>h) ⟨d1,d2,d3⟩ ⟨.inl ⟨rfl,?yy2⟩,fun _=>rfl⟩ ?_
  case yy2=>
   rintro wx ⟨q1,q2,q3⟩
   go_simp
   first|done|rfl
  refine zQ (i:=2) (v:=?vv3) kA kA rfl kA kA kA (fun _ _ _ h=>h) ⟨d1,d2,d3⟩ ⟨.inl ⟨rfl,?yy3⟩,fun _=>rfl⟩ ?_
  case yy3=>
   rintro wx ⟨q1,q2,q3⟩
   go_simp
   first|done|rfl
  refine zQ (i:=3) (v:=?vv4) kA kA rfl kA kA kA (fun _ _ _ h=>h) ⟨d1,d2,d3⟩ ⟨.inl ⟨rfl,?yy4⟩,fun _=>rfl⟩ ?_
  case yy4=>
   rintro wx ⟨q1,q2,q3⟩
   go_simp
   first|done|rfl
  refine zQ (i:=4) (v:=?vv5) kA kA rfl kA kA kA (fun _ _ _ h=>h) ⟨d1,d2,d3⟩ ⟨.inl ⟨rfl,?yy5⟩,fun _=>rfl⟩ ?_
  case yy5=>
   rintro wx ⟨q1,q2,q3⟩
   go_simp
   first|done|rfl
  refine zQ (i:=5) (v:=?vv6) kA kA rfl kA kA kA (fun _ _ _ h=>h) ⟨d1,d2,d3⟩ ⟨.inl ⟨rfl,?yy6⟩,fun _=>rfl⟩ ?_
  case yy6=>
   rintro wx ⟨q1,q2,q3⟩
   go_simp
   first|done|rfl
  refine zQ (i:=6) (v:=?vv7) kA kA rfl kA kA kA (fun _ _ _ h=>h) ⟨d1,d2,d3⟩ ⟨.inl ⟨rfl,?yy7⟩,fun _=>rfl⟩ ?_
  case yy7=>
   rintro wx ⟨q1,q2,q3⟩
   go_simp
   first|done|rfl
  refine zQ (i:=7) (v:=?vv8) kA kA rfl kA kA kA (fun _ _ _ h=>h) ⟨d1,d2,d3⟩ ⟨.inl ⟨rfl,?yy8⟩,fun _=>rfl⟩ ?_
  case yy8=>
   rintro wx ⟨q1,q2,q3⟩
   go_simp
   first|done|rfl
  refine zQ (i:=8) (v:=?vv9) kA kA rfl kA kA kA (fun _ _ _ h=>h) ⟨d1,d2,d3⟩ ⟨.inl ⟨rfl,?yy9⟩,fun _=>rfl⟩ ?_
  case yy9=>
   rintro wx ⟨q1,q2,q3⟩
   go_simp
   first|done|rfl
  refine zQ (i:=9) (v:=?vv10) kA kA rfl kA kA kA (fun _ _ _ h=>h) ⟨d1,d2,d3⟩ ⟨.inl ⟨rfl,?yy10⟩,fun _=>rfl⟩ ?_
  case yy10=>
   rintro wx ⟨q1,q2,q3⟩
   go_simp
   first|done|rfl
  refine zQ (i:=10) (v:=?vv11) kA kA rfl kA kA kA (fun _ _ _ h=>h) ⟨d1,d2,d3⟩ ⟨.inl ⟨rfl,?yy11⟩,fun _=>rfl⟩ ?_
  case yy11=>
   rintro wx ⟨q1,q2,q3⟩
   go_simp
   first|done|rfl
  refine zQ (i:=11) (v:=?vv12) kA kA rfl kA kA kA (fun _ _ _ h=>h) ⟨d1,d2,d3⟩ ⟨.inl ⟨rfl,?yy12⟩,fun _=>rfl⟩ ?_
  case yy12=>
   rintro wx ⟨q1,q2,q3⟩
   go_simp
   first|done|rfl
  refine zAq (i:=12) kA rfl (fun K hK=>?_)
  go_simp
  refine hK _ _ (.inr ?_) ?_
  .exact⟨(mL _ _ _ _ eN).trans d1,(mL _ _ _ _ eN).trans d2,(mL _ _ _ _ eN).trans d3⟩
  clear hK K
  refine zAq (i:=13) kA rfl (fun K hK=>?_)
  go_simp
  refine hK _ _ (.inl rfl) ?_
  clear hK K
  refine zCd kA ?_
  clear g1 g2 g3 g4 g5 g6 g7
  gi_wp2
  have hno:w.heap.size+1+1≠w.heap.size+1+1+1:=oA
  have haF:=(ha9.set j q).far (p:=⟨w.heap.size+1+1+1,0,none⟩) hno (.int .u64 r)
  have hqF:=(hq9.other (B':=w.heap.size+1+1) oA (.int .u32 q))
  have hkF:KeepsOthers W (((W9.setCell ⟨w.heap.size+1+1,j,none⟩ (.int .u32 (q:Int))).setCell ⟨w.heap.size+1+1+1,0,none⟩ (.int .u64 (r:Int))).drew):=(hk9.trans (bP _ _ _)).trans ((bP _ _ _).trans (KeepsOthers.drew _))
  refine⟨hkF.from _,(((hS9.setCell (p:=⟨w.heap.size+1+1,j,none⟩) sB _).setCell (p:=⟨w.heap.size+1+1+1,0,none⟩) sB _).drew),lq.set j q,r,haF,by rw[uC];exact hlq,zCw hltq hq32,?_,?_,?_,hrm,?_,(((hB.trans hB9).setCell (p:=⟨w.heap.size+1+1,j,none⟩) sB _).setCell (p:=⟨w.heap.size+1+1+1,0,none⟩) sB _).drew,xQ h5 hkF.size⟩
  .exact zAx (zAx hq9 (p:=⟨w.heap.size+1+1,j,none⟩) eN _) (p:=⟨w.heap.size+1+1+1,0,none⟩) eN _
  .exact zAx (zAx hb9 (p:=⟨w.heap.size+1+1,j,none⟩) sB _) (p:=⟨w.heap.size+1+1+1,0,none⟩) sB _
  .exact(zAx ho9 (p:=⟨w.heap.size+1+1,j,none⟩) eN _).set _
  .obtain⟨hst,_,e1,e2⟩:=HS.out
   rw[e2]
   rw[e1]at hv
   have v1:=zBm (l:=l) (k:=j) (by rw[h.len];omega)
   have v2:=zBm (l:=lq.set j q) (k:=j) (by rw[uC];omega)
   have hds:(lq.set j q).drop (j+1)=lq.drop (j+1):=List.drop_set_of_lt oA
   rw[zAK oA,if_pos rfl,hds]at v2
   rw[v1,v2,hv,uF,uF,nK m BB]
   simp only[BB]
   omega
 .rintro D W hD ⟨lq,o,ha,hlq,hltq,hq,hb,ho,hom,hv,hB,h5⟩ _ hd
  have hmix:prog.follows .mixedOrders=true:=rZ
  go_wp2_with fail
  refine(bJ (n:=0)).1<|zZ 100 (fun W=>W.cell? ⟨w.heap.size+1+1+1,0,none⟩=some (.int .u64 o)) hmix ?_
  have d1:W.drew.cell? ⟨w.heap.size+1+1+1,0,none⟩=some (.int .u64 o):=ho.cell
  have hcq:=hq.cell;have hfq:=hq.frozen
  have g1:(o:Int)%4294967296=(o:Int):=oA
  have g2:=IntWalk.u32_in (o:Int) oA
  refine zQ (i:=2) (v:=?vv13) kA kA rfl kA kA kA (fun _ _ _ h=>h) d1 ⟨.inl ⟨rfl,?yy13⟩,fun _=>rfl⟩ ?_
  case yy13=>
   rintro wx q1
   go_simp
   first|done|rfl
  refine zQ (i:=3) (v:=?vv14) kA kA rfl kA kA kA (fun _ _ _ h=>h) d1 ⟨.inl ⟨rfl,?yy14⟩,fun _=>rfl⟩ ?_
  case yy14=>
   rintro wx q1
   go_simp
   first|done|rfl
  refine zAq (i:=0) kA rfl (fun K hK=>?_)
  go_simp
  refine hK _ _ (.inr d1) ?_
  clear hK K
  refine zAq (i:=1) kA rfl (fun K hK=>?_)
  go_simp
  have hrA:=(ha.rd hlq oA).drew
  refine bC (bB.2 (qT _ n n lq W.drew hrA hltq hn)) ?_
  rintro e w2 ⟨A2,n2,c2,l2,rfl,hi2,hr2,hb2⟩
  have hq2:Boxed w2 (w.heap.size+1) 28 (.slice (some ⟨w.heap.size+1+1,0,none⟩) n n):=(hb2.block _ hq.lt).trans hq
  have ho2:Boxed w2 (w.heap.size+1+1+1) 103 (.int .u64 o):=(hb2.block _ ho.lt).trans ho
  have hc2:=hq2.cell;have hf2:=hq2.frozen
  refine hK _ _ (.inr ho2.cell) ?_
  clear hK K
  refine zAq (i:=4) kA rfl (fun K hK=>?_)
  go_simp
  refine hK _ _ (.inr ((ho2.other oA _).cell)) ?_
  clear hK K
  refine zAq (i:=5) kA rfl (fun K hK=>?_)
  go_simp
  refine hK _ _ (.inr ((ho2.other oA _).cell)) ?_
  clear hK K
  refine zAq (i:=6) kA rfl (fun K hK=>?_)
  go_simp
  refine hK _ _ (.inr ((ho2.other oA _).cell)) ?_
  clear hK K
  refine zCd kA ?_
  go_wp2
  have hw3:Boxed (w2.setCell ⟨w.heap.size+1,0,none⟩ (.slice A2 n2 c2)) (w.heap.size+1) 28 (.slice A2 n2 c2):=hq2.set _
  have hM:Marks (w.heap.size) (w2.setCell ⟨w.heap.size+1,0,none⟩ (.slice A2 n2 c2)) [mark D] [D]:=(((Marks.nil w.heap.size W).more (D:=D) eN oA hd).made ((xF _ W).drew.trans hb2)).others (bP _ _ _)
  have hb3:Below w.heap.size w (w2.setCell ⟨w.heap.size+1,0,none⟩ (.slice A2 n2 c2)):=(hB.trans (((xF _ W).drew.trans hb2).mono hB.size)).setCell (p:=⟨w.heap.size+1,0,none⟩) eN _
  have hr3:Rd (w2.setCell ⟨w.heap.size+1,0,none⟩ (.slice A2 n2 c2)) A2 n2 c2 l2:=hr2.setBox hq2 (fun _=>eN) _
  have h6:val l=m*val lq+o:=by
   rw[nF,mH,mH]at hv
   exact hv
  have h7:val l/m=val lq:=by rw[h6,gM hm,uP hom];rfl
  have h8:val l%m=o:=by rw[h6,xD,uU hom]
  rw[<-h7]at hi2
  refine qF _ (v:=.tuple #[.slice A2 n2 c2,.int .u32 o,.int .i64 0]) (fun w' ho'=>?_) [D] _ _ hM (Oth.refl _ _) ?_
  .have hc4:=(Boxed.oth hw3 ho').cell
   simp[results,go_sem,hc4]
  .intro w' ho
   exact⟨A2,n2,c2,l2,by rw[h8],hi2,hr3.oth ho,zAh hb3 ho (vR _)⟩
attribute [local go_sem] Oper.semAt_some qD yA
theorem zM5(h:l.length=1):val l=lm l 0:=by
 unfold val
 rw[h]
 simp[sm]
theorem zNT{v:Nat}(h:Is l v)(hl:l.length=n)(h0:0<v)(h1:v<BB):n=1:=by
 have e1:=h.zero_iff
 have e2:=h.len (k:=1) (by rwa [mV])
 omega
def zHU(w:WB)(a b:Nat):Ending->WB->Prop:=fun e w'=>∃A1 n1 c1 l1 A2 n2 c2 l2,e=.returned (.tuple #[.slice A1 n1 c1,.slice A2 n2 c2,.int .i64 0])/\Is l1 (a/b)/\Rd w' A1 n1 c1 l1/\Is l2 (a%b)/\Rd w' A2 n2 c2 l2/\Below w.heap.size w w'
def zUj(a b:Nat):Prop:=∀(A:WF Addr) (n c:Nat) (l:List Nat) (A':WF Addr) (n' c':Nat) (l':List Nat) (w:WB),Rd w A n c l->Lt l->Rd w A' n' c' l'->Lt l'->val l=a->val l'=b->n<=2000->n'<=2000->
 Calls prog 115 #[.slice A n c,.slice A' n' c'] w (zHU w a b)
theorem zHk(A:WF Addr)(n c:Nat)(l:List Nat)(A':WF Addr)(n' c':Nat)(l':List Nat)(w:WB)(h:Rd w A n c l)(ht:Lt l)(h':Rd w A' n' c' l')(ht':Lt l')(hn:n<=2000)(hn':n'<=2000)(hlt:val l<val l'):
  Calls prog 115 #[.slice A n c,.slice A' n' c'] w (zHU w (val l) (val l')):=by
 have hcmp:decide (zAs (val l) (val l')<0)=true:=by
  unfold zAs
  rw[if_pos oA]
  rfl
 refine jD func115 rfl ?_
 simp only[ntmps115,bN,lL,lM,Nat.reduceAdd,Nat.reduceSub,lN,lO,lP,lQ,eZ,lR]
 have hb0:=(xF _ w).alloc (vR _) (.cells #[.slice none 0 0] 28)
 have hx0:=bX w 28 (.slice none 0 0)
 go_wp2_with (first|(go_at_call 86;first|((with_reducible refine(qT A n c l _ (h.below hb0) ht oA).mono ?_);rintro e w2 ⟨A2,n2,c2,l2,rfl,hi2,hr2,hb2⟩;have hb3:=hb0.trans (hb2.mono hb0.size);have hx2:=(hb2.block _ hx0.lt).trans hx0)|((with_reducible refine(qT A' n' c' l' _ (h'.below hb3) ht' oA).mono ?_);rintro e w3 ⟨A3,n3,c3,l3,rfl,hi3,hr3,hb4⟩;have hb5:=hb3.trans (hb4.mono hb3.size);have hx3:Boxed w3 w.heap.size 28 (.slice none 0 0):=(hb4.block _ (Boxed.lt hx2)).trans hx2;have hcx:=hx3.cell;have hfx:=hx3.frozen;have hn3: ¬n3=0:=fun e=>by have:=hi3.zero_iff;rw[hr3.len,e]at this;omega))|(go_at_call 117;refine(zFg A2 n2 c2 l2 A3 n3 c3 l3 _ (hr2.below hb4) hr3 hi2.lt hi3.lt).mono ?_;rw[hi2.val,hi3.val];rintro e w4 ⟨rfl,rfl⟩))
 have hx4:Boxed (w3.setCell ⟨w.heap.size,0,none⟩ (.slice none 0 0)) w.heap.size 28 (.slice none 0 0):=hx3.set _
 have hM:=Marks.nil w.heap.size (w3.setCell ⟨w.heap.size,0,none⟩ (.slice none 0 0))
 refine qF (B:=w.heap.size) (w3.setCell ⟨w.heap.size,0,none⟩ (.slice none 0 0)) (v:=.tuple #[.slice none 0 0,.slice A2 n2 c2,.int .i64 0]) (fun w' ho'=>?_) [] _ _ hM (Oth.refl _ _) ?_
 .have hc4:=(Boxed.oth hx4 ho').cell
  simp[results,go_sem,hc4]
 .intro w' ho
  have hr4:=(hr2.below hb4).setBox hx3 (fun _=>eN) (.slice none 0 0)
  exact⟨none,0,0, [],A2,n2,c2,l2,rfl,by rw[uP hlt];exact Is.nil,wM _,by rw[uU hlt];exact hi2,hr4.oth ho,zAh (hb5.setCell (p:=⟨w.heap.size,0,none⟩) (vR _) _) ho (vR _)⟩
theorem zNO(A:WF Addr)(n c:Nat)(l:List Nat)(A':WF Addr)(n' c':Nat)(l':List Nat)(w:WB)(h:Rd w A n c l)(ht:Lt l)(h':Rd w A' n' c' l')(ht':Lt l')(hn:n<=2000)(hn':n'<=2000)(hge:val l'<=val l)(h0:0<val l')(h1:val l'<BB):
  Calls prog 115 #[.slice A n c,.slice A' n' c'] w (zHU w (val l) (val l')):=by
 have hcmp:decide (zAs (val l) (val l')<0)=false:=by
  unfold zAs
  rw[if_neg oA]
  split<;>simp
 have hm1:val l'<4294967296:=h1
 refine jD func115 rfl ?_
 simp only[ntmps115,bN,lL,lM,Nat.reduceAdd,Nat.reduceSub,lN,lO,lP,lQ,eZ,lR]
 have hb0:=(xF _ w).alloc (vR _) (.cells #[.slice none 0 0] 28)
 have hx0:=bX w 28 (.slice none 0 0)
 go_wp2_with (first|(go_at_call 86;first|((with_reducible refine(qT A n c l _ (h.below hb0) ht oA).mono ?_);rintro e w2 ⟨A2,n2,c2,l2,rfl,hi2,hr2,hb2⟩;have hb3:=hb0.trans (hb2.mono hb0.size);have hx2:=(hb2.block _ hx0.lt).trans hx0)|go_must ((with_reducible refine(qT A' n' c' l' _ (h'.below hb3) ht' oA).mono ?_);rintro e w3 ⟨A3,n3,c3,l3,rfl,hi3,hr3,hb4⟩;have hb5:=hb3.trans (hb4.mono hb3.size);have hx3:Boxed w3 w.heap.size 28 (.slice none 0 0):=(hb4.block _ (Boxed.lt hx2)).trans hx2;have hcx:=hx3.cell;have hfx:=hx3.frozen;obtain rfl:n3=1:=zNT hi3 hr3.len h0 h1;have hr3':=hr3;obtain⟨b3,o3,rfl,_,hcb⟩:=hr3.shape oA;have hle3:=hr3.le;have hcap3:=hr3.cap;have hcb0:=hcb 0 oA;have hlm:lm l3 0=val l':=((zM5 hr3.len).symm.trans hi3.val);rw[hlm,uM]at hcb0;have hn2:n2<=2000:=xQ (mP hr2.len.symm) (xQ (hi2.len (qO ht)) (by rw[h.len];exact hn))))|(go_at_call 117;refine(zFg A2 n2 c2 l2 _ 1 c3 l3 _ (hr2.below hb4) hr3 hi2.lt hi3.lt).mono ?_;rw[hi2.val,hi3.val];rintro e w4 ⟨rfl,rfl⟩)|(go_at_call 122;refine(zK0 A2 n2 c2 l2 (val l') _ (hr2.below hb4) hi2.lt h0 hm1 oA).mono ?_;rw[hi2.val];rintro e w5 ⟨A5,n5,c5,l5,rfl,hi5,hr5,hb6⟩;have hb7:=hb5.trans (hb6.mono hb5.size);have hmod:val l%val l'<4294967296:=nG (uH _ h0) hm1)|(go_at_call 69;refine(zJs (val l%val l') oA _).mono ?_;rintro e w6 ⟨A6,n6,c6,l6,rfl,hi6,hr6,hb8⟩;have hb9:=hb7.trans (hb8.mono hb7.size);have hx6:Boxed w6 w.heap.size 28 (.slice none 0 0):=(hb8.block _ (vW hx3.lt hb6.size)).trans ((hb6.block _ hx3.lt).trans hx3);have hcx6:=hx6.cell;have hfx6:=hx6.frozen))
 have hx7:Boxed (w6.setCell ⟨w.heap.size,0,none⟩ (.slice A5 n5 c5)) w.heap.size 28 (.slice A5 n5 c5):=hx6.set _
 refine qF (B:=w.heap.size) (w6.setCell ⟨w.heap.size,0,none⟩ (.slice A5 n5 c5)) (v:=.tuple #[.slice A5 n5 c5,.slice A6 n6 c6,.int .i64 0]) (fun w' ho'=>?_) [] _ _ (Marks.nil _ _) (Oth.refl _ _) ?_
 .have hc4:=(Boxed.oth hx7 ho').cell
  simp[results,go_sem,hc4]
 .intro w' ho
  exact⟨A5,n5,c5,l5,A6,n6,c6,l6,rfl,hi5,((hr5.below hb8).setBox hx6 (fun _=>eN) _).oth ho,hi6,(hr6.setBox hx6 (fun _=>eN) _).oth ho,zAh (hb9.setCell (p:=⟨w.heap.size,0,none⟩) (vR _) _) ho (vR _)⟩
theorem zKc(a b:Nat)(h0:0<b)(h1:b<BB):zUj a b:=by
 intro A n c l A' n' c' l' w h ht h' J ha hb O I
 subst ha
 subst hb
 by_cases hlt:val l<val l'
 .exact zHk A n c l A' n' c' l' w h ht h' J O I hlt
 .exact zNO A n c l A' n' c' l' w h ht h' J O I oA h0 h1
theorem zKM(l:List Nat)(p k:Nat)(h:p+k<=l.length):val l=sm (lm l) p+BB^p*win l p k+BB^(p+k)*val (l.drop (p+k)):=by
 rw[jV l (p+k) h,zF0 h,zIV]
 rfl
theorem zM3{p:Nat}(hl:l'.length=l.length)(h:p+k<=l.length)(I:∀x,x<p∨p+k<=x->lm l' x=lm l x):val l'+BB^p*win l p k=val l+BB^p*win l' p k:=by
 rw[zKM l p k h,zKM l' p k oA]
 have J:sm (lm l') p=sm (lm l) p:=zAB fun i O=>I i (.inl O)
 have e2:val (l'.drop (p+k))=val (l.drop (p+k)):=by
  unfold val
  rw[uS,uS,hl]
  exact zAB fun i _=>by rw[zC2,zC2];exact I _ (.inr oA)
 rw[J,e2]
 omega
theorem zJw{so sn sb old o' P:Nat}(h:sn+o*P=so+a*sb)(hz:a*x+old+o=z+o'*4294967296):sn+z*P+o'*(P*4294967296)=so+old*P+a*(sb+x*P):=by
 have e1:a*x*P+old*P+o*P=z*P+o'*4294967296*P:=by rw[<-vU,<-vU,hz,vU]
 have I:o'*(P*4294967296)=o'*4294967296*P:=by rw[vT P,<-vV]
 have J:a*(sb+x*P)=a*sb+a*x*P:=by rw[uF,<-vV]
 rw[I,J]
 omega
theorem zJv(a x old o:Nat)(ha:a<4294967296)(hx:x<4294967296)(hold:old<4294967296)(ho:o<4294967296):
  ∃p s z o':Nat,a*x=p/\p<18446744073709551616/\p+old<18446744073709551616/\p+old+o=s/\s<18446744073709551616/\(s:Int)%4294967296=(z:Int)/\(s:Int)/4294967296=(o':Int)/\z<4294967296/\o'<4294967296/\a*x+old+o=z+o'*4294967296:=by
 have h1:a*x<=4294967295*4294967295:=gJ oA oA
 exact⟨a*x,a*x+old+o,(a*x+old+o)%4294967296,(a*x+old+o)/4294967296,rfl,oA,oA,rfl,oA,oA,oA,oA,oA,oA⟩
def zSH(w:WB)(Q N i a:Nat)(lo lb:List Nat)(nb:Nat)(ov ix:WD)(W:WB):Prop:=
 ∃(k o:Nat) (l':List Nat),k<=nb/\ix=.int .i64 k/\ov=.int .u64 o/\o<4294967296/\Arr W Q l'/\l'.length=N/\Lt l'/\(∀x,x<i∨i+k<=x->lm l' x=lm lo x)/\
  win l' i k+o*BB^k=win lo i k+a*sm (lm lb) k/\Below w.heap.size w W
def zSy(w:WB)(Q N:Nat)(la lb:List Nat)(na nb:Nat)(ix:WD)(W:WB):Prop:=
 ∃(i:Nat) (lo:List Nat),i<=na/\ix=.int .i64 i/\Arr W Q lo/\lo.length=N/\Lt lo/\(∀x,i+nb<=x->lm lo x=0)/\val lo=sm (lm la) i*val lb/\Below w.heap.size w W
theorem zHl{lo:List Nat}{h N O:Nat}(J:lo.length=N)(I:l'.length=N)(hN:i+h<N)(ho:∀x,x<i∨i+h<=x->lm l' x=lm lo x)(hz:∀x,i+h<=x->lm lo x=0)(hb:lb.length=h)
  (hw:win l' i h+o*BB^h=win lo i h+a*sm (lm lb) h)(hv:val lo=O*val lb):val (l'.set (i+h) o)=(O+a*BB^i)*val lb:=by
 have hd:=zM3 (l:=lo) (l':=l'.set (i+h) o) (p:=i) (k:=h+1) (by rw[uC,I,J]) oA (fun x hx=>by
  rw[zAK oA,if_neg oA]
  exact ho x oA)
 have e1:win (l'.set (i+h) o) i (h+1)=win l' i h+o*BB^h:=by
  rw[zAy,zEx,zAK oA,if_pos rfl]
 have e2:win lo i (h+1)=win lo i h:=by rw[zAy,hz _ (vR _),gD,uM]
 have e3:sm (lm lb) h=val lb:=by unfold val;rw[hb]
 rw[e1,e2,hw,e3,uF]at hd
 rw[vU,<-hv]
 have e4:a*BB^i*val lb=BB^i*(a*val lb):=by rw[vT a,vV]
 omega
theorem zI9(A:WF Addr)(n c:Nat)(l:List Nat)(A':WF Addr)(n' c':Nat)(l':List Nat)(w:WB)(h:Rd w A n c l)(h':Rd w A' n' c' l')(ht:Lt l)(ht':Lt l')(hn:n<=100000)(hn':n'<=100000):
  Calls prog 62 #[.slice A n c,.slice A' n' c'] w (jH w (val l*val l')):=by
 have hle:=h.le;have hcap:=h.cap;have hle':=h'.le;have hcap':=h'.cap
 have HN:=hid h.len;have HN':=hid h'.len
 have hmk:∀wx:WB,(Instr.makeSlice 28 (.int .i64 ((n:Int)+(n':Int))) (.int .i64 ((n:Int)+(n':Int)))).run prog wx=.ok (.slice (some ⟨wx.heap.size,0,none⟩) (n+n') (n+n')) (wx.alloc (.cells (madeCells #[.int .u32 0] (n+n')) 81)):=fun wx=>zA0 (n+n') oA wx
 go_enter func62,ntmps62
 go_wp2
 go_loopw [6] (zSy w w.heap.size (n+n') l l' n n') (fun i _=>n-(intOf i).toNat)
 case atStart=>exact⟨0,List.replicate (n+n') 0,vS _,rfl,Arr.new w _,eN,jU _,fun x _=>by unfold lm;rw[nA];split<;>rfl,by rw[zAl];simp[sm],(xF _ w).alloc (vR _) _⟩
 case round=>
  obtain⟨i,lo,hi,rfl,ha,hlo,hlt,hz,hv,hB⟩:=hrel
  have HV:=hid hv
  have HZ:=hid hz
  clear hv hz
  have hr:=h.below hB;have hr':=h'.below hB
  by_cases hin:i<n
  .obtain⟨b,o,rfl,hcb⟩:=h.cells i hin
   have x1:=qK ht i
   simp only[BB]at x1
   obtain⟨ai,hai⟩:∃a,lm l i=a:=⟨_,rfl⟩
   rw[hai]at x1 hcb
   have HAI:=hid hai
   clear hai
   rename WB=>wo
   go_wp2
   go_loopw [7,8] (zSH w w.heap.size (n+n') i ai lo l' n') (fun _ k _=>n'-(intOf k).toNat)
   case atStart=>exact⟨0,0,lo,vS _,rfl,rfl,oA,ha,hlo,hlt,fun _ _=>rfl,by simp[win,sm],hB⟩
   case round=>
    obtain⟨k,ov,l2,hk,rfl,rfl,hov,ha2,hl2,hlt2,hout,heq,hB2⟩:=hrel
    have HQ:=hid heq
    have HO:=hid hout
    clear heq hout
    have hbr:w.heap.size<=wr.heap.size:=hB2.size
    have hca:wr.cell? ⟨b,o+i,none⟩=some (.int .u32 (ai:Int)):=(hB2.cell (p:=⟨b,o+i,none⟩) (zU hcb)).trans hcb
    by_cases hkn:k<n'
    .obtain⟨b',o',rfl,hcb'⟩:=(h'.below hB2).cells k hkn
     have x2:=qK ht' k
     simp only[BB]at x2
     obtain⟨bk,hbk⟩:∃a,lm l' k=a:=⟨_,rfl⟩
     rw[hbk]at x2 hcb'
     have gr:=ha2.cell (i:=i+k) oA
     have gf:=ha2.frozen (i+k)
     have hold1:lm l2 (i+k)=lm lo (i+k):=HO.out _ (.inr (vR _))
     have x3:=qK hlt2 (i+k)
     simp only[BB]at x3
     obtain⟨old,hold⟩:∃a,lm l2 (i+k)=a:=⟨_,rfl⟩
     rw[hold]at gr x3 hold1
     obtain⟨p,s,z,u,hp,hp2,hp3,hs,hs2,hz1,hu1,hz2,hu2,hm⟩:=zJv ai bk old ov x1 x2 x3 hov
     have hmi:(ai:Int)*(bk:Int)=(p:Int):=by rw[<-hp,nB]
     have hsi:(p:Int)+(old:Int)+(ov:Int)=(s:Int):=oA
     have HB1:=hid hbk;have HOL:=hid hold1;have HM:=hid hm
     clear hbk hold hold1 hm hp hs
     have hend:∀nq:Nat,zSH w w.heap.size (n+n') i ai lo l' n' (.int .u64 (u:Int)) (.int .i64 ((k:Int)+1)) ((wr.drewN nq).setCell ⟨w.heap.size,i+k,none⟩ (.int .u32 (z:Int))):=by
      intro nq
      have ha3:Arr (wr.drewN nq) w.heap.size l2:=ha2.kept rfl
      refine⟨k+1,u,l2.set (i+k) z,oA,sE,rfl,hu2,ha3.set _ _,by rw[uC];exact hl2,zCw hlt2 hz2,fun y hy=>?_,?_,(Below.setCell (show Below w.heap.size w (wr.drewN nq)from⟨hB2.os,hB2.tape,hB2.output,hB2.size,hB2.block⟩) (p:=⟨w.heap.size,i+k,none⟩) (vR _) _)⟩
      .rw[zAK oA,if_neg oA]
       exact HO.out y oA
      .have e1:lm (l2.set (i+k) z) (i+k)=z:=by rw[zAK oA,if_pos rfl]
       rw[zAy,zAy,zEx,e1,<-HOL.out,vY]
       show _+_*(BB^k*4294967296)=_+ai*(sm (lm l') k+lm l' k*BB^k)
       rw[HB1.out]
       exact zJw HQ.out HM.out
     have HE:=hid hend
     clear hend
     go_wp2
     go_quiet (fail)
     go_wp2
     go_roundw
     case rel=>exact HE.out _
     case measure=>simp[intOf];omega
    .obtain rfl:k=n':=oA
     have gf:=ha2.frozen (i+k)
     have gr:=ha2.cell (i:=i+k) oA
     have ho32:(ov:Int)%4294967296=(ov:Int):=oA
     have hend:zSy w w.heap.size (n+k) l l' n k (.int .i64 ((i:Int)+1)) (wr.setCell ⟨w.heap.size,i+k,none⟩ (.int .u32 (ov:Int))):=by
      refine⟨i+1,l2.set (i+k) ov,oA,sE,ha2.set _ _,by rw[uC];exact hl2,zCw hlt2 hov,fun x hx=>?_,?_,hB2.setCell (p:=⟨w.heap.size,i+k,none⟩) (vR _) _⟩
      .rw[zAK oA,if_neg oA,HO.out x oA]
       exact HZ.out x oA
      .show _=(sm (lm l) i+lm l i*BB^i)*val l'
       rw[HAI.out]
       exact zHl hlo hl2 oA HO.out HZ.out HN'.out HQ.out HV.out
     have HE:=hid hend
     clear hend
     go_wp2
     go_roundw
     case rel=>exact HE.out
     case measure=>simp[intOf];omega
  .obtain rfl:i=n:=oA
   have hfin:val lo=val l*val l':=by
    rw[HV.out]
    have:sm (lm l) i=val l:=by have:=HN.out;unfold val;rw[this]
    rw[this]
   have htr:=jK (some ⟨w.heap.size,0,none⟩) (i+n') (i+n') lo wr (ha.rd hlo oA) hlt oA
   rw[hfin]at htr
   clear hfin
   go_wp2_with (go_at_call 36;refine htr.mono ?_;rintro e w2 ⟨A2,n2,c2,l2,rfl,hi2,hr2,hb2⟩)
   go_ret
   exact⟨A2,n2,c2,l2,rfl,hi2,hr2,hB.trans (hb2.mono hB.size)⟩
attribute [local go_sem] Oper.semAt_some qD yA
def cnt(l:List Nat):Nat->Nat
 |0=>0
 |j+1=>cnt l j+if lm l j=0 then 0 else 1
theorem zDr{l:List Nat}{i:Nat}:∀{j:Nat},i<=j->cnt l i<=cnt l j
 |0,h=>by
  obtain rfl:i=0:=oA
  exact vR _
 |j+1,h=>by
  rcases(oA:i<=j∨i=j+1)with e|rfl
  .exact xQ (zDr e) (Nat.le_add_right _ _)
  .exact vR _
theorem zOz(h:lm l j=0):cnt l (j+1)=cnt l j:=by
 show cnt l j+(if lm l j=0 then 0 else 1)=_
 rw[if_pos h,uM]
theorem zFf(h:lm l j≠0):cnt l (j+1)=cnt l j+1:=by
 show cnt l j+(if lm l j=0 then 0 else 1)=_
 rw[if_neg h]
theorem zMy(h:cnt l i=cnt l j)(h1:i<=x)(h2:x<j):lm l x=0:=by
 rcases uJ (lm l x)with e|e
 .exact e
 .exfalso
  have g1:=zDr (l:=l) h1
  have g2:=zFf (l:=l) (j:=x) oA
  have g3:=zDr (l:=l) (i:=x+1) (j:=j) h2
  omega
theorem zJI(h:cnt l i=cnt l j):sm (lm l) i=sm (lm l) j:=by
 rcases gS i j with e|e
 .exact(zCR e fun x J I=>zMy h J I).symm
 .exact zCR e fun x J I=>zMy h.symm J I
def zT8(l:List Nat)(n k:Nat)(xs:Array WD)(_W:WB):Prop:=∃p:Nat,xs=#[.int .i64 (p:Int),.int .u64 (lm l p:Nat)]/\p<n/\lm l p≠0/\cnt l p=k
theorem zKf(A:WF Addr)(n c:Nat)(w:WB):
  Calls prog 108 #[.slice A n c] w fun e w'=>e=.returned (.func (.func 118) #[] #[.pointer (some ⟨w.heap.size,0,none⟩)])/\w.alloc (.cells #[.slice A n c] 28)=w':=by
 go_enter func108,ntmps108
 go_wp2
 go_ret
 exact⟨rfl,rfl⟩
theorem zHm(A:WF Addr)(n c:Nat)(l:List Nat)(b1:Nat)(w0:WB)(h:Rd w0 A n c l)(ht:Lt l)(hc1:w0.cell? ⟨b1,0,none⟩=some (.slice A n c)){S:Nat->Prop}(hS:∀b,S b->b<w0.heap.size)(hSA:∀b o,0<n->A=some ⟨b,o,none⟩->S b):
  zOK prog 118 #[.pointer (some ⟨b1,0,none⟩)] (zT8 l n) (cnt l n) (yZ S) Mk (fun _=>True) w0:=by
 intro lp J W hW hJ hY h0
 have hle:=h.le;have hcap:=h.cap
 have hw1:=(hW.cell (p:=⟨b1,0,none⟩) (zU hc1)).trans hc1
 refine zBr func118 rfl ?_
 simp only[ntmps118,bN,lL,lM,Nat.reduceAdd,Nat.reduceSub,lN,lO,lP,lQ,eZ,lR]
 gi_wp2
 gi_loopw [7] (fun i wr=>∃j:Nat,j<=n/\i=.int .i64 j/\J (cnt l j) wr/\yZ S w0 wr) (fun i _=>n-(intOf i).toNat)
 case atStart=>exact⟨0,vS _,rfl,h0,yZ.of_below hW hS⟩
 case round=>
  obtain⟨j,hj,rfl,hJ1,hb⟩:=hrel
  by_cases hjn:j<n
  .obtain⟨b,o,rfl,hc⟩:=(h.keepS hb hSA).cells j hjn
   have x1:=qK ht j
   simp only[BB]at x1
   by_cases hz:lm l j=0
   .have hJ2:J (cnt l (j+1)) wr:=by rw[zOz hz];exact hJ1
    rw[hz]at hc
    clear hz
    gi_wp2
    go_roundw
    case rel=>exact⟨j+1,oA,sE,hJ2,hb⟩
    case measure=>simp[intOf];omega
   .have hcl:cnt l j<cnt l n:=by
     have g1:=zFf (l:=l) (j:=j) hz
     have g2:=zDr (l:=l) (i:=j+1) (j:=n) hjn
     omega
    obtain⟨fn,tmps,assign,body,hy,hR⟩:=hY (cnt l j) wr _ hcl hJ1 ⟨j,rfl,hjn,hz,rfl⟩
    rw[<-zFf hz]at hR
    obtain⟨x,hx⟩:∃x,lm l j=x:=⟨_,rfl⟩
    rw[hx]at hc hy x1 hz
    have hxb:((x:Int) !=0)=true:=by simp only[bne_iff_ne,ne_eq];omega
    clear hx hcl hz
    gi_wp2
    refine hR.mono ?_
    rintro e W3 ⟨rfl,hJ3,hk3⟩
    clear hy
    gi_wp2
    go_roundw
    case rel=>exact⟨j+1,oA,sE,hJ3,hb.trans hk3⟩
    case measure=>simp[intOf];omega
  .obtain rfl:j=n:=oA
   gi_wp2
   go_end0
   exact⟨⟨_,rfl⟩,hJ1,trivial⟩
theorem zLA(A:WF Addr)(n c:Nat)(A':WF Addr)(n' c':Nat)(w:WB)(v:Nat)(hs:Calls prog 107 #[.slice A n c,.slice A' n' c'] w fun e w'=>∃A1 n1 c1 l1,e=.returned (.tuple #[.slice A1 n1 c1,.int .i64 0])/\Is l1 v/\Rd w' A1 n1 c1 l1/\Below w.heap.size w w'):
  Calls prog 95 #[.slice A n c,.slice A' n' c'] w (jH w v):=by
 go_enter func95,ntmps95
 go_wp2_with (go_at_call 107;refine hs.mono ?_;rintro e w2 ⟨A1,n1,c1,l1,rfl,hi1,hr1,hb1⟩)
 go_ret
 exact⟨A1,n1,c1,l1,rfl,hi1,hr1,hb1⟩
def zT3(w:WB)(k:Nat)(l:List Nat)(e:Ending)(w':WB):Prop:=∃A n c,e=.returned (.slice A n c)/\Rd w' A n c (List.replicate k 0++l)/\Below w.heap.size w w'
theorem zKP(k:Nat)(l:List Nat):val (List.replicate k 0++l)=BB^k*val l:=by
 rw[zCz,zAl,mZ,uK]
theorem zNQ(k:Nat)(h:k<=17592186044416)(w:WB):z7 (w.alloc (.cells (madeCells #[.int .u32 0] k) 81)) w.heap.size 81 (.slice (some ⟨w.heap.size,0,none⟩) k k) (List.replicate k 0):=by
 rw[zHx]
 exact⟨by rw[zAA,mZ,gI],.inr ⟨w.heap.size,k,_,by rw[mZ],vR _,xM w _,by rw[mZ];exact vR _,by unfold maxLen;omega,by simp[zBl],by simp[zBl]⟩⟩
theorem zML(A:WF Addr)(n c:Nat)(l:List Nat)(k:Nat)(w:WB)(h:Rd w A n c l)(hn:n<=100000)(hk:k<=100000):
  Calls prog 97 #[.slice A n c,.int .i64 (k:Int)] w (zT3 w k l):=by
 have hmk:=fun wx=>zA0 k oA wx
 have hown:=zNQ k oA w
 have hb0:=(xF _ w).alloc (vR _) (.cells (madeCells #[.int .u32 0] k) 81)
 have hs1:(List.replicate k 0).length+l.length<=17592186044416:=by rw[mZ,h.len];omega
 have hl1:(List.replicate k 0++l).length=k+n:=by rw[uD,mZ,h.len]
 go_enter func97,ntmps97
 go_wp2_with (at_builtin;refine zS rfl _ _ 28 81 rfl yB yS w.heap.size _ (List.replicate k 0) rfl hown A n c l rfl (h.below hb0) hs1 hb0.size ?_;intro v1 w3 hown1 hg1 hat1;obtain⟨A1,c1,rfl⟩:=hown1.form' hl1)
 go_ret
 exact⟨A1,k+n,c1,rfl,hown1.rd,z7.grown hb0 hown hg1 (vR _) hb0.size⟩
attribute [local go_sem] Oper.semAt_some qD yA
def zMQ(w:WB)(la lb:List Nat)(na nb:Nat)(A':WF Addr)(c':Nat)(k:Nat)(W:WB):Prop:=
 ∃(i:Nat) (lo:List Nat),cnt la i=k/\i<=na/\Arr W (w.heap.size+1) lo/\lo.length=na+nb/\Lt lo/\(∀x,i+nb<=x->lm lo x=0)/\val lo=sm (lm la) i*val lb/\
  Boxed W w.heap.size 28 (.slice A' nb c')/\Boxed W (w.heap.size+1+1) 28 (.slice (some ⟨w.heap.size+1,0,none⟩) (na+nb) (na+nb))/\Below w.heap.size w W/\w.heap.size+4<=W.heap.size
theorem zLB(A:WF Addr)(n c:Nat)(l:List Nat)(A':WF Addr)(n' c':Nat)(l':List Nat)(w:WB)(h:Rd w A n c l)(h':Rd w A' n' c' l')(ht:Lt l)(ht':Lt l')(hn:n<=100000)(hn':n'<=100000):
  Calls prog 94 #[.slice A n c,.slice A' n' c'] w (jH w (val l*val l')):=by
 have hle:=h.le;have hcap:=h.cap;have hle':=h'.le;have hcap':=h'.cap
 have HN:=hid h.len;have HN':=hid h'.len
 have hmk:∀wx:WB,(Instr.makeSlice 28 (.int .i64 ((n:Int)+(n':Int))) (.int .i64 ((n:Int)+(n':Int)))).run prog wx=.ok (.slice (some ⟨wx.heap.size,0,none⟩) (n+n') (n+n')) (wx.alloc (.cells (madeCells #[.int .u32 0] (n+n')) 81)):=fun wx=>zA0 (n+n') oA wx
 refine jD func94 rfl ?_
 simp only[ntmps94,bN,lL,lM,Nat.reduceAdd,Nat.reduceSub,lN,lO,lP,lQ,eZ,lR]
 go_wp2_with (go_at_call 108;refine(zKf A n c _).mono ?_;rintro e w2 ⟨rfl,rfl⟩)
 obtain⟨W0,hW0⟩:∃W0,((((w.alloc (.cells #[.slice A' n' c'] 28)).alloc (.cells (madeCells #[.int .u32 0] (n+n')) 81)).alloc (.cells #[.slice (some ⟨w.heap.size+1,0,none⟩) (n+n') (n+n')] 28)).alloc (.cells #[.slice A n c] 28))=W0:=⟨_,rfl⟩
 have hsz:W0.heap.size=w.heap.size+4:=by rw[<-hW0];simp
 have hB0:Below w.heap.size w W0:=by rw[<-hW0];exact((((xF _ w).alloc (vR _) _).alloc eN _).alloc sB _).alloc sB _
 have x0:Boxed W0 w.heap.size 28 (.slice A' n' c'):=by rw[<-hW0];exact(((bX w _ _).alloc _).alloc _).alloc _
 have x1:Arr W0 (w.heap.size+1) (List.replicate (n+n') 0):=by rw[<-hW0];exact((zPp _ _ eN).alloc _).alloc _
 have x2:Boxed W0 (w.heap.size+1+1) 28 (.slice (some ⟨w.heap.size+1,0,none⟩) (n+n') (n+n')):=by rw[<-hW0];exact(zAX _ _ _ eN).alloc _
 have x3:Boxed W0 (w.heap.size+1+1+1) 28 (.slice A n c):=by rw[<-hW0];exact zAX _ _ _ eN
 rw[hW0]
 clear hW0
 have hSb:∀b,(b<w.heap.size∨b=w.heap.size+1+1+1)->b<W0.heap.size:=fun b hb=>oA
 have hown:∀C,w.heap.size<=C->OwnFrom C (zMQ w l l' n n' A' c'):=by
  rintro C hC k W W' row ⟨i,lo,h1,h2,h3,h4,h5,h6,h7,h8,h9,h10,h11⟩ hg hr
  exact⟨i,lo,h1,h2,h3.abide hg hr,h4,h5,h6,h7,qL h8 hg hr,qL h9 hg hr,zAi h10 hg (vR _) hC hr,xQ h11 hg.size⟩
 refine zCe (gf:=118) rfl (enters_of func118 kA rfl)
  (zHm A n c l (w.heap.size+1+1+1) W0 (h.below hB0) ht x3.cell (S:=fun b=>b<w.heap.size∨b=w.heap.size+1+1+1) hSb (fun b o hn0 e=>.inl (h.in_ b o hn0 e))) ?hE ?hps yZ.trans (zDG hSb)
  (zMQ w l l' n n' A' c') (hown _ hB0.size) (zCb (hown _ (vR _))) wR (fun _ _ _ _ _ _ _ _=>trivial)
  ⟨0,List.replicate (n+n') 0,rfl,vS _,x1,eN,jU _,fun x _=>by unfold lm;rw[nA];split<;>rfl,by rw[zAl];simp[sm],x0,x2,hB0,mP hsz.symm⟩
  (fun _ xs=>{ tmps:=#[.slice A n c,.slice A' n' c',undef,.pointer (some ⟨w.heap.size,0,none⟩),.slice none 0 0,.pointer (some ⟨w.heap.size+1+1,0,none⟩),xs.getD 0 undef,xs.getD 1 undef,undef,undef,undef,.slice A n c,.int .i64 (n:Int),.slice A' n' c',.int .i64 (n':Int),.int .i64 ((n:Int)+(n':Int)),.slice (some ⟨w.heap.size+1,0,none⟩) (n+n') (n+n'),.slice A n c,.func (.func 118) #[] #[.pointer (some ⟨w.heap.size+1+1+1,0,none⟩)],xs.getD 0 undef,xs.getD 1 undef,undef,undef,undef,undef,undef,undef,undef,undef,undef,undef,undef,undef,undef,undef,undef,undef,undef,undef,undef,undef,undef,undef,undef,undef,undef,undef,undef,undef,undef,undef,undef,undef,undef,undef,undef,undef,undef,undef,undef,undef,undef],defers:=[] }) ?assign ?body ?done
 case hE=>exact fun k xs W l1 o o' hx _ _=>hx
 case hps=>
  rintro k xs W ⟨p,rfl,_⟩
  rfl
 case assign=>
  rintro lp k xs W K ⟨p,rfl,_⟩ hK
  gi_wp2
  exact hK
 case body=>
  rintro lp k xs W hk ⟨i,lo,hci,hi,ha,hlo,hlt,hz,hv,hb,hq,hB,h4⟩ ⟨p,rfl,hp,hp0,hcp⟩
  have hip:i<=p:=by
   rcases xZ p i with e|e
   .exfalso
    have g1:=zFf (l:=l) (j:=p) hp0
    have g2:=zDr (l:=l) (i:=p+1) (j:=i) e
    omega
   .exact e
  have hsm:sm (lm l) p=sm (lm l) i:=zJI (by rw[hcp,hci])
  have HV:Hid (val lo=sm (lm l) p*val l'):=by rw[hsm];exact hv
  have HZ:Hid (∀x,p+n'<=x->lm lo x=0):=fun x hx=>hz x oA
  have HC:=hid (show cnt l (p+1)=k+1 from by rw[zFf hp0,hcp])
  clear hv hz hsm hci hip hi hcp
  have x1:=qK ht p
  simp only[BB]at x1
  obtain⟨ai,hai⟩:∃a,lm l p=a:=⟨_,rfl⟩
  have HAI:=hid hai
  simp only[hai]
  rw[hai]at x1
  clear hai hp0
  have hcb:=hb.cell
  obtain⟨Wo,hWo⟩:∃Wo,W=Wo:=⟨_,rfl⟩
  subst hWo
  gi_wp2
  gi_loopw [8,23] (fun ov k2 wr=>zSH w (w.heap.size+1) (n+n') p ai lo l' n' ov k2 wr/\Boxed wr w.heap.size 28 (.slice A' n' c')/\Boxed wr (w.heap.size+1+1) 28 (.slice (some ⟨w.heap.size+1,0,none⟩) (n+n') (n+n'))/\KeepsOthers W wr/\yZ (fun b=>b<w.heap.size∨b=w.heap.size+1+1+1) W wr/\w.heap.size+4<=wr.heap.size) (fun _ k2 _=>n'-(intOf k2).toNat)
  case atStart=>exact⟨⟨0,0,lo,vS _,rfl,rfl,oA,ha,hlo,hlt,fun _ _=>rfl,by simp[win,sm],hB⟩,hb,hq,KeepsOthers.refl _,yZ.refl _ _,h4⟩
  case round=>
   obtain⟨⟨k2,ov,l2,hk2,rfl,rfl,hov,ha2,hl2,hlt2,hout,heq,hB2⟩,hb2,hq2,hko,hks,h42⟩:=hrel
   have HQ:=hid heq
   have HO:=hid hout
   clear heq hout
   have hcq:=hq2.cell
   have hcb2:=hb2.cell
   by_cases hkn:k2<n'
   .obtain⟨b',o',rfl,hcb'⟩:=(h'.below hB2).cells k2 hkn
    have x2:=qK ht' k2
    simp only[BB]at x2
    obtain⟨bk,hbk⟩:∃a,lm l' k2=a:=⟨_,rfl⟩
    rw[hbk]at x2 hcb'
    have gr:=ha2.cell (i:=p+k2) oA
    have gf:=ha2.frozen (p+k2)
    have hold1:lm l2 (p+k2)=lm lo (p+k2):=HO.out _ (.inr (vR _))
    have x3:=qK hlt2 (p+k2)
    simp only[BB]at x3
    obtain⟨old,hold⟩:∃a,lm l2 (p+k2)=a:=⟨_,rfl⟩
    rw[hold]at gr x3 hold1
    obtain⟨q,s,z,u,hq1,hq2',hq3,hs,hs2,hz1,hu1,hz2,hu2,hm⟩:=zJv ai bk old ov x1 x2 x3 hov
    have hmi:(ai:Int)*(bk:Int)=(q:Int):=by rw[<-hq1,nB]
    have hsi:(ov:Int)+((q:Int)+(old:Int))=(s:Int):=oA
    have HB1:=hid hbk;have HOL:=hid hold1;have HM:=hid hm
    clear hbk hold hold1 hm hq1 hs
    have hend:zSH w (w.heap.size+1) (n+n') p ai lo l' n' (.int .u64 (u:Int)) (.int .i64 ((k2:Int)+1)) (wr.setCell ⟨w.heap.size+1,p+k2,none⟩ (.int .u32 (z:Int))):=by
     refine⟨k2+1,u,l2.set (p+k2) z,oA,sE,rfl,hu2,ha2.set _ _,by rw[uC];exact hl2,zCw hlt2 hz2,fun y hy=>?_,?_,hB2.setCell (p:=⟨w.heap.size+1,p+k2,none⟩) eN _⟩
     .rw[zAK oA,if_neg oA]
      exact HO.out y oA
     .have e1:lm (l2.set (p+k2) z) (p+k2)=z:=by rw[zAK oA,if_pos rfl]
      rw[zAy,zAy,zEx,e1,<-HOL.out,vY]
      show _+_*(BB^k2*4294967296)=_+ai*(sm (lm l') k2+lm l' k2*BB^k2)
      rw[HB1.out]
      exact zJw HQ.out HM.out
    have HE:=hid hend
    clear hend
    gi_wp2
    go_roundw
    case rel=>exact⟨HE.out,zAx hb2 (p:=⟨w.heap.size+1,p+k2,none⟩) eN _,zAx hq2 (p:=⟨w.heap.size+1,p+k2,none⟩) eN _,hko.trans (bP _ _ _),hks.setCell (p:=⟨w.heap.size+1,p+k2,none⟩) eN _,by rw[<-zBa];exact h42⟩
    case measure=>simp[intOf];omega
   .obtain rfl:k2=n':=oA
    have gf:=ha2.frozen (p+k2)
    have gr:=ha2.cell (i:=p+k2) oA
    have ho32:(ov:Int)%4294967296=(ov:Int):=oA
    have hend:zMQ w l l' n k2 A' c' (k+1) (wr.setCell ⟨w.heap.size+1,p+k2,none⟩ (.int .u32 (ov:Int))):=by
     refine⟨p+1,l2.set (p+k2) ov,HC.out,oA,ha2.set _ _,by rw[uC];exact hl2,zCw hlt2 hov,fun x hx=>?_,?_,zAx hb2 (p:=⟨w.heap.size+1,p+k2,none⟩) eN _,zAx hq2 (p:=⟨w.heap.size+1,p+k2,none⟩) eN _,hB2.setCell (p:=⟨w.heap.size+1,p+k2,none⟩) eN _,by rw[<-zBa];exact h42⟩
     .rw[zAK oA,if_neg oA,HO.out x oA]
      exact HZ.out x oA
     .show _=(sm (lm l) p+lm l p*BB^p)*val l'
      rw[HAI.out]
      exact zHl hlo hl2 oA HO.out HZ.out HN'.out HQ.out HV.out
    have HE:=hid hend
    clear hend
    gi_wp2
    exact⟨(hko.trans (bP _ _ _)).from _,hks.setCell (p:=⟨w.heap.size+1,p+k2,none⟩) eN _,HE.out⟩
 case done=>
  rintro D W hD ⟨i,lo,hci,hi,ha,hlo,hlt,hz,hv,hb,hq,hB,h4⟩ _ hd
  have hfin:val lo=val l*val l':=by
   rw[hv,zJI hci]
   have:sm (lm l) n=val l:=by have:=HN.out;unfold val;rw[this]
   rw[this]
  have htr:=qT (some ⟨w.heap.size+1,0,none⟩) (n+n') (n+n') lo W (ha.rd hlo oA) hlt oA
  rw[hfin]at htr
  have hcq:=hq.cell
  clear hfin hv hci
  go_wp2_with (go_at_call 86;refine htr.mono ?_;rintro e w3 ⟨A3,n3,c3,l3,rfl,hi3,hr3,hb3⟩)
  have hM:Marks w.heap.size w3 [mark D] [D]:=((Marks.nil w.heap.size W).more (D:=D) eN oA hd).made hb3
  refine qF w3 (fun w' _=>results_tmp rfl _ _ w') [D] _ _ hM (Oth.refl _ _) ?_
  intro w' ho
  exact⟨A3,n3,c3,l3,rfl,hi3,hr3.oth ho,zAh (hB.trans (hb3.mono hB.size)) ho (vR _)⟩
attribute [local go_sem] Oper.semAt_some qD yA
def jB(W:WB)(v:WD)(x:Nat):Prop:=∃A n c l,v=.slice A n c/\Is l x/\Rd W A n c l
theorem jB.below(h:jB W v x)(O:Below W.heap.size W W'):jB W' v x:=by
 obtain⟨A,n,c,l,J,I,h3⟩:=h
 exact⟨A,n,c,l,J,I,h3.below O⟩
def zBP(mb:Nat):WD:=.func (.func 93) #[] #[.pointer (some ⟨mb,0,none⟩)]
def zUC(N:Nat):Prop:=∀(mb:Nat) (A:WF Addr) (n c:Nat) (l:List Nat) (A':WF Addr) (n' c':Nat) (l':List Nat) (w:WB),Rd w A n c l->Rd w A' n' c' l'->Lt l->Lt l'->n<=N->n'<=N->w.cell? ⟨mb,0,none⟩=some (zBP mb)->
 Calls prog 93 #[.slice A n c,.slice A' n' c',.pointer (some ⟨mb,0,none⟩)] w (jH w (val l*val l'))
theorem zUu(a0 h b0 b1 P:Nat):(a0+P*h)*(b0+P*b1)=a0*b0+P*((a0+h)*(b0+b1)-(a0*b0+h*b1))+P*P*(h*b1):=by
 have e:(a0+h)*(b0+b1)-(a0*b0+h*b1)=a0*b1+h*b0:=by
  rw[vU,uF,uF]
  omega
 rw[e,vU,uF,uF,uF]
 have e1:a0*(P*b1)=P*(a0*b1):=nK ..
 have e2:P*h*b0=P*(h*b0):=vV ..
 have e3:P*h*(P*b1)=P*P*(h*b1):=by rw[Nat.mul_mul_mul_comm]
 omega
theorem zQH(a0 h b0 b1:Nat):a0*b0+h*b1<=(a0+h)*(b0+b1):=by
 rw[vU,uF,uF]
 omega
attribute [local go_sem] Oper.semAt_some qD yA
theorem zQK(h:val l3=val l+val l'):iv s l3=iv s l+iv s l':=by
 unfold iv
 cases s<;>simp<;>omega
theorem zMa(I:s≠s')(h:val l3=val l-val l')(hge:val l'<=val l):iv s l3=iv s l+iv s' l':=by
 unfold iv
 cases s<;>cases s'<;>simp at I ⊢<;>omega
theorem zR0(h:val l3=val l*val l'):iv (s !=s') l3=iv s l*iv s' l':=by
 have e:(val l3:Int)=(val l:Int)*(val l':Int):=by rw[h,nB]
 unfold iv
 cases s<;>cases s'<;>simp[e,Int.neg_mul,Int.mul_neg]
theorem zJ8(s:Bool)(A:WF Addr)(n c:Nat)(l:List Nat)(w:WB)(h:Rd w A n c l)(ht:Lt l)(hl:n<=1099511627776):
  Calls prog 37 #[.agg #[.bool s,.slice A n c]] w fun e w'=>e=.returned (.int .i64 (iv s l).sign)/\Below w.heap.size w w':=by
 have hb0:=(xF _ w).alloc (vR _) (.cells #[.bool s,.slice A n c] 30)
 have hc:=zAm s A n c l _ (h.below hb0) ht hl
 unfold qN at hc
 obtain⟨v,hv⟩:∃v,iv s l=v:=⟨_,rfl⟩
 rw[hv]at hc ⊢
 clear hv
 rcases mX v 0 with h0|h0|h0
 .have e1:v.sign= -1:=mT h0
  rw[eY h0]at hc
  rw[e1]
  go_enter func37,ntmps37
  go_wp2_with (go_at_call 58;refine hc.mono ?_;rintro e w2 ⟨A2,n2,c2,l2,rfl,hi2,hr2,hb2⟩;have hq:=res2 hb2 (b:=w.heap.size) rfl;obtain⟨⟨q0,q1⟩,q2,q3⟩:=hq.facts2;have hn2:0<n2:=(by rw[<-hr2.len];exact hi2.pos_iff.1 (Int.natAbs_pos.2 (Int.ne_of_lt h0))))
  go_ret
  exact⟨rfl,((hb0.trans (hb2.mono hb0.size)).setCell (p:=⟨w.heap.size,0,none⟩) (vR _) _).setCell (p:=⟨w.heap.size,1,none⟩) (vR _) _⟩
 .subst h0
  go_enter func37,ntmps37
  go_wp2_with (go_at_call 58;refine hc.mono ?_;rintro e w2 ⟨A2,n2,c2,l2,rfl,hi2,hr2,hb2⟩;have hq:=res2 hb2 (b:=w.heap.size) rfl;obtain⟨⟨q0,q1⟩,q2,q3⟩:=hq.facts2;obtain rfl:n2=0:=(by rw[<-hr2.len];exact hi2.zero_iff.1 rfl))
  go_ret
  exact⟨rfl,((hb0.trans (hb2.mono hb0.size)).setCell (p:=⟨w.heap.size,0,none⟩) (vR _) _).setCell (p:=⟨w.heap.size,1,none⟩) (vR _) _⟩
 .have e1:v.sign=1:=mO h0
  rw[bD oA]at hc
  rw[e1]
  go_enter func37,ntmps37
  go_wp2_with (go_at_call 58;refine hc.mono ?_;rintro e w2 ⟨A2,n2,c2,l2,rfl,hi2,hr2,hb2⟩;have hq:=res2 hb2 (b:=w.heap.size) rfl;obtain⟨⟨q0,q1⟩,q2,q3⟩:=hq.facts2;have hn2:0<n2:=(by rw[<-hr2.len];exact hi2.pos_iff.1 (Int.natAbs_pos.2 (Int.ne_of_gt h0))))
  go_ret
  exact⟨rfl,((hb0.trans (hb2.mono hb0.size)).setCell (p:=⟨w.heap.size,0,none⟩) (vR _) _).setCell (p:=⟨w.heap.size,1,none⟩) (vR _) _⟩
theorem zJ6(s:Bool)(A:WF Addr)(n c:Nat)(l:List Nat)(A':WF Addr)(n' c':Nat)(l':List Nat)(w:WB)(h:Rd w A n c l)(ht:Lt l)(h':Rd w A' n' c' l')(ht':Lt l')(m:Nat)(hl:n<=m)(hl':n'<=m)(hm:m<=100000):
  Calls prog 82 #[.agg #[.bool s,.slice A n c],.agg #[.bool s,.slice A' n' c']] w (qN w (iv s l+iv s l')):=by
 have hmix:prog.follows .mixedOrders=true:=rZ
 go_enter func82,ntmps82
 go_wp2
 obtain⟨W0,hW0⟩:∃W0,(((w.alloc (.cells #[.bool s,.slice A n c] 30)).alloc (.cells #[.bool s,.slice A' n' c'] 30)).alloc (.cells #[.bool false,.slice none 0 0] 30))=W0:=⟨_,rfl⟩
 have x0:jC W0 w.heap.size 30 #[.bool s,.slice A n c]:=by rw[<-hW0];exact((jC.new w _ _).alloc _).alloc _
 have x1:jC W0 (w.heap.size+1) 30 #[.bool s,.slice A' n' c']:=by rw[<-hW0];exact(jC.at_ _ _ _ eN).alloc _
 have x2:jC W0 (w.heap.size+1+1) 30 #[.bool false,.slice none 0 0]:=by rw[<-hW0];exact jC.at_ _ _ _ eN
 have hB0:Below w.heap.size w W0:=by rw[<-hW0];exact(((xF _ w).alloc (vR _) _).alloc eN _).alloc sB _
 rw[hW0]
 clear hW0
 refine(bJ (n:=0)).1 ?_
 have cf:∀W,Below W0.heap.size W0 W->(W.cell? ⟨w.heap.size,0,none⟩=some (.bool s)/\W.cell? ⟨w.heap.size,1,none⟩=some (.slice A n c))/\W.cell? ⟨w.heap.size+1,0,none⟩=some (.bool s)/\W.cell? ⟨w.heap.size+1,1,none⟩=some (.slice A' n' c'):=fun W hb=>And.intro (x0.kept hb).facts2.1 (x1.kept hb).facts2.1
 refine zZ 10 (fun W=>(W.cell? ⟨w.heap.size,0,none⟩=some (.bool s)/\W.cell? ⟨w.heap.size,1,none⟩=some (.slice A n c))/\W.cell? ⟨w.heap.size+1,0,none⟩=some (.bool s)/\W.cell? ⟨w.heap.size+1,1,none⟩=some (.slice A' n' c')) hmix ?_
 have hd:Below W0.heap.size W0 W0.drew:=(xF _ W0).drew
 have d1:=cf _ hd
 refine zQ (i:=0) (v:=?vv1) kA kA rfl kA kA kA (fun _ _ _ h=>h) d1 ⟨.inl ⟨rfl,?yy1⟩,fun _=>rfl⟩ ?_
 case yy1=>
  rintro wx ⟨⟨q1,q2⟩,q3,q4⟩
  go_simp
  first|done|rfl
 refine zQ (i:=1) (v:=?vv2) kA kA rfl kA kA kA (fun _ _ _ h=>h) d1 ⟨.inl ⟨rfl,?yy2⟩,fun _=>rfl⟩ ?_
 case yy2=>
  rintro wx ⟨⟨q1,q2⟩,q3,q4⟩
  go_simp
  first|done|rfl
 refine zQ (i:=2) (v:=?vv3) kA kA rfl kA kA kA (fun _ _ _ h=>h) d1 ⟨.inl ⟨rfl,?yy3⟩,fun _=>rfl⟩ ?_
 case yy3=>
  rintro wx ⟨⟨q1,q2⟩,q3,q4⟩
  go_simp
  first|done|rfl
 refine zQ (i:=3) (v:=?vv4) kA kA rfl kA kA kA (fun _ _ _ h=>h) d1 ⟨.inl ⟨rfl,?yy4⟩,fun _=>rfl⟩ ?_
 case yy4=>
  rintro wx ⟨⟨q1,q2⟩,q3,q4⟩
  go_simp
  first|done|rfl
 refine zQ (i:=4) (v:=?vv5) kA kA rfl kA kA kA (fun _ _ _ h=>h) d1 ⟨.inl ⟨rfl,?yy5⟩,fun _=>rfl⟩ ?_
 case yy5=>
  rintro wx ⟨⟨q1,q2⟩,q3,q4⟩
  go_simp
  first|done|rfl
 refine zQ (i:=5) (v:=?vv6) kA kA rfl kA kA kA (fun _ _ _ h=>h) d1 ⟨.inl ⟨rfl,?yy6⟩,fun _=>rfl⟩ ?_
 case yy6=>
  rintro wx ⟨⟨q1,q2⟩,q3,q4⟩
  go_simp
  first|done|rfl
 have hW3:Below W0.heap.size W0 (W0.drew.alloc (.cells #[.slice A n c,.slice A' n' c'] 28)):=hd.alloc hd.size _
 have hds:=Rds.two ((h.below hB0).drew) ht oA ((h'.below hB0).drew) ht' oA 28
 refine zAq (i:=6) kA rfl (fun K hK=>?_)
 go_simp
 refine hK _ _ (.inr (cf _ hW3)) ?_
 clear hK K
 have hadd:=zEk _ 2 2 [l,l'] _ hds oA
 have hsum:([l,l'].map val).sum=val l+val l':=eN
 rw[hsum]at hadd
 refine zAq (i:=7) kA rfl (fun K hK=>?_)
 go_simp
 refine bC (bB.2 hadd) ?_
 rintro e w3 ⟨A3,n3,c3,l3,rfl,hi3,hr3,hb3⟩
 have hB3:Below W0.heap.size W0 w3:=hW3.trans (hb3.mono hW3.size)
 refine hK _ _ (.inr (cf _ hB3)) ?_
 clear hK K
 have d3:=cf _ hB3
 refine zAq (i:=8) kA rfl (fun K hK=>?_)
 go_simp
 refine hK _ _ (.inr d3) ?_
 clear hK K
 have hn3:n3<=m+1:=by
  rw[<-hr3.len]
  refine hi3.len ?_
  have e1:=qO ht;have e2:=qO ht'
  rw[h.len]at e1;rw[h'.len]at e2
  have f1:BB^n<=BB^m:=vZ qA hl
  have f2:BB^n'<=BB^m:=vZ qA hl'
  have f3:BB^m*2<=BB^m*BB:=uR _ (by unfold BB;omega)
  rw[vY]
  omega
 have hnm:=zAm s A3 n3 c3 l3 w3 hr3 hi3.lt oA
 rw[zQK hi3.val]at hnm
 obtain⟨v,hv⟩:∃v,iv s l+iv s l'=v:=⟨_,rfl⟩
 rw[hv]at hnm
 refine zAq (i:=9) kA rfl (fun K hK=>?_)
 go_simp
 refine bC (bB.2 hnm) ?_
 rintro e w4 ⟨A4,n4,c4,l4,rfl,hi4,hr4,hb4⟩
 have hB4:Below W0.heap.size W0 w4:=hB3.trans (hb4.mono hB3.size)
 have hq:=x2.kept hB4
 obtain⟨⟨m0,m1⟩,m2,m3⟩:=hq.facts2
 refine hK _ _ (.inr (cf _ hB4)) ?_
 clear hK K
 refine zAq (i:=10) kA rfl (fun K hK=>?_)
 go_simp
 refine hK _ _ (.inl rfl) ?_
 clear hK K
 refine zCd kA ?_
 obtain⟨⟨c0,c1⟩,_,_⟩:=((hq.set 0 (.bool (decide (v<0)))).set 1 (.slice A4 n4 c4)).facts2
 go_wp2
 rw[hv]
 exact mG (v:=.agg #[.bool (decide (v<0)),.slice A4 n4 c4]) (by simp[results,results82,go_sem,c0,c1]) rfl<|zG9 hq (hB0.trans (hB4.mono hB0.size)) oA hi4 hr4
theorem zNG(s s':Bool)(hs:s≠s')(A:WF Addr)(n c:Nat)(l:List Nat)(A':WF Addr)(n' c':Nat)(l':List Nat)(w:WB)(h:Rd w A n c l)(ht:Lt l)(h':Rd w A' n' c' l')(ht':Lt l')(hl:n<=100000)(hge:val l'<=val l):
  Calls prog 82 #[.agg #[.bool s,.slice A n c],.agg #[.bool s',.slice A' n' c']] w (qN w (iv s l+iv s' l')):=by
 have hne:(s==s')=false:=by simp[hs]
 obtain⟨W0,hW0⟩:∃W0,(((w.alloc (.cells #[.bool s,.slice A n c] 30)).alloc (.cells #[.bool s',.slice A' n' c'] 30)).alloc (.cells #[.bool false,.slice none 0 0] 30))=W0:=⟨_,rfl⟩
 have x0:jC W0 w.heap.size 30 #[.bool s,.slice A n c]:=by rw[<-hW0];exact((jC.new w _ _).alloc _).alloc _
 have x1:jC W0 (w.heap.size+1) 30 #[.bool s',.slice A' n' c']:=by rw[<-hW0];exact(jC.at_ _ _ _ eN).alloc _
 have x2:jC W0 (w.heap.size+1+1) 30 #[.bool false,.slice none 0 0]:=by rw[<-hW0];exact jC.at_ _ _ _ eN
 have hB0:Below w.heap.size w W0:=by rw[<-hW0];exact(((xF _ w).alloc (vR _) _).alloc eN _).alloc sB _
 have hsub:=zF6 A n c l A' n' c' l' W0 (h.below hB0) (h'.below hB0) ht ht' hge oA
 obtain⟨v,hv⟩:∃v,iv s l+iv s' l'=v:=⟨_,rfl⟩
 have hnm:=fun(W:WB) (A3:WF Addr) (n3 c3:Nat) (l3:List Nat) (hr3:Rd W A3 n3 c3 l3) (hi3:Is l3 (val l-val l'))=>zAm s A3 n3 c3 l3 W hr3 hi3.lt (by
  rw[<-hr3.len]
  have e1:=qO ht
  rw[h.len]at e1
  exact xQ (hi3.len (mC (mM _ _) e1)) oA)
 have hiv:=fun(l3:List Nat) (hi3:Is l3 (val l-val l'))=>zMa (l3:=l3) hs hi3.val hge
 rw[hv]at hiv ⊢
 obtain⟨⟨a0,a1⟩,_,_⟩:=x0.facts2
 obtain⟨⟨a2,a3⟩,_,_⟩:=x1.facts2
 obtain⟨⟨b0,b1⟩,_,_⟩:=x0.facts2
 go_enter func82,ntmps82
 go_wp2_with (first|(go_at_call 102;refine hsub.mono ?_;rintro e w3 ⟨A3,n3,c3,l3,rfl,hi3,hr3,hb3⟩;have hq3:=hnm w3 A3 n3 c3 l3 hr3 hi3;rw[hiv l3 hi3]at hq3;obtain⟨⟨a0,a1⟩,_,_⟩:=(x0.kept hb3).facts2;obtain⟨⟨a2,a3⟩,_,_⟩:=(x1.kept hb3).facts2)|(go_at_call 58;refine hq3.mono ?_;rintro e w4 ⟨A4,n4,c4,l4,rfl,hi4,hr4,hb4⟩;have hB4:=hb3.trans (hb4.mono hb3.size);have hq:=x2.kept hB4;obtain⟨⟨m0,m1⟩,m2,m3⟩:=hq.facts2))
 obtain⟨⟨c0,c1⟩,_,_⟩:=((hq.set 0 (.bool (decide (v<0)))).set 1 (.slice A4 n4 c4)).facts2
 exact mG (v:=.agg #[.bool (decide (v<0)),.slice A4 n4 c4]) (by simp[results,results82,go_sem,c0,c1]) rfl<|zG9 hq (hB0.trans (hB4.mono hB0.size)) oA hi4 hr4
theorem zNF(s s':Bool)(hs:s≠s')(A:WF Addr)(n c:Nat)(l:List Nat)(A':WF Addr)(n' c':Nat)(l':List Nat)(w:WB)(h:Rd w A n c l)(ht:Lt l)(h':Rd w A' n' c' l')(ht':Lt l')(hl':n'<=100000)(hlt:val l<val l'):
  Calls prog 82 #[.agg #[.bool s,.slice A n c],.agg #[.bool s',.slice A' n' c']] w (qN w (iv s l+iv s' l')):=by
 have hne:(s==s')=false:=by simp[hs]
 obtain⟨W0,hW0⟩:∃W0,(((w.alloc (.cells #[.bool s,.slice A n c] 30)).alloc (.cells #[.bool s',.slice A' n' c'] 30)).alloc (.cells #[.bool false,.slice none 0 0] 30))=W0:=⟨_,rfl⟩
 have x0:jC W0 w.heap.size 30 #[.bool s,.slice A n c]:=by rw[<-hW0];exact((jC.new w _ _).alloc _).alloc _
 have x1:jC W0 (w.heap.size+1) 30 #[.bool s',.slice A' n' c']:=by rw[<-hW0];exact(jC.at_ _ _ _ eN).alloc _
 have x2:jC W0 (w.heap.size+1+1) 30 #[.bool false,.slice none 0 0]:=by rw[<-hW0];exact jC.at_ _ _ _ eN
 have hB0:Below w.heap.size w W0:=by rw[<-hW0];exact(((xF _ w).alloc (vR _) _).alloc eN _).alloc sB _
 have hsub1:=zEL A n c l A' n' c' l' W0 (h.below hB0) (h'.below hB0) ht ht' hlt
 have hsub2:=zF6 A' n' c' l' A n c l W0 (h'.below hB0) (h.below hB0) ht' ht (mI hlt) oA
 obtain⟨v,hv⟩:∃v,iv s l+iv s' l'=v:=⟨_,rfl⟩
 have hnm:=fun(W:WB) (A3:WF Addr) (n3 c3:Nat) (l3:List Nat) (hr3:Rd W A3 n3 c3 l3) (hi3:Is l3 (val l'-val l))=>zAm s' A3 n3 c3 l3 W hr3 hi3.lt (by
  rw[<-hr3.len]
  have e1:=qO ht'
  rw[h'.len]at e1
  exact xQ (hi3.len (mC (mM _ _) e1)) oA)
 have hiv:=fun(l3:List Nat) (hi3:Is l3 (val l'-val l))=>zMa (l3:=l3) (xY hs) hi3.val (mI hlt)
 rw[Int.add_comm,hv]at hiv
 rw[hv]
 obtain⟨⟨a0,a1⟩,_,_⟩:=x0.facts2
 obtain⟨⟨a2,a3⟩,_,_⟩:=x1.facts2
 go_enter func82,ntmps82
 go_wp2_with (first|(go_at_call 102;first|((with_reducible refine hsub1.mono ?_);rintro e w3 ⟨rfl,hw3⟩;rw[<-hw3];clear hw3 w3)|((with_reducible refine hsub2.mono ?_);rintro e w3 ⟨A3,n3,c3,l3,rfl,hi3,hr3,hb3⟩;have hq3:=hnm w3 A3 n3 c3 l3 hr3 hi3;rw[hiv l3 hi3]at hq3;obtain⟨⟨a0,a1⟩,_,_⟩:=(x0.kept hb3).facts2;obtain⟨⟨a2,a3⟩,_,_⟩:=(x1.kept hb3).facts2))|(go_at_call 58;refine hq3.mono ?_;rintro e w4 ⟨A4,n4,c4,l4,rfl,hi4,hr4,hb4⟩;have hB4:=hb3.trans (hb4.mono hb3.size);have hq:=x2.kept hB4;obtain⟨⟨m0,m1⟩,m2,m3⟩:=hq.facts2))
 obtain⟨⟨c0,c1⟩,_,_⟩:=((hq.set 0 (.bool (decide (v<0)))).set 1 (.slice A4 n4 c4)).facts2
 exact mG (v:=.agg #[.bool (decide (v<0)),.slice A4 n4 c4]) (by simp[results,results82,go_sem,c0,c1]) rfl<|zG9 hq (hB0.trans (hB4.mono hB0.size)) oA hi4 hr4
theorem zLl(s:Bool)(A:WF Addr)(n c:Nat)(l:List Nat)(s':Bool)(A':WF Addr)(n' c':Nat)(l':List Nat)(w:WB)(h:Rd w A n c l)(O:Lt l)(h':Rd w A' n' c' l')(I:Lt l')(m:Nat)(hl:n<=m)(J:n'<=m)(hm:m<=100000):
  Calls prog 82 #[.agg #[.bool s,.slice A n c],.agg #[.bool s',.slice A' n' c']] w (qN w (iv s l+iv s' l')):=by
 by_cases hs:s=s'
 .subst hs
  exact zJ6 s A n c l A' n' c' l' w h O h' I m hl J hm
 .rcases xZ (val l) (val l')with e|e
  .exact zNF s s' hs A n c l A' n' c' l' w h O h' I oA e
  .exact zNG s s' hs A n c l A' n' c' l' w h O h' I oA e
attribute [local go_sem] Oper.semAt_some qD yA
def zUb(w:WB)(B:Nat)(f:Nat->Int)(n:Nat)(ix:WD)(W:WB):Prop:=
 ∃(k:Nat) (A:WF Addr) (m c:Nat) (l:List Nat),k<=n/\ix=.int .i64 k/\jC W B 30 #[.bool (decide (f k<0)),.slice A m c]/\Is l (f k).natAbs/\Rd W A m c l/\
  jC W w.heap.size 30 #[.bool false,.slice none 0 0]/\Below w.heap.size w W
theorem zHh(A:WF Addr)(n c:Nat)(is:List (Bool×List Nat))(m M:Nat)(w:WB)(h:IRdM m w A n is)(hn:n<=c)(_hc:c<=9223372036854775807)(hmM:m<=M)(hM:M<=100000)(hv:∀k,k<=n->(zDu is k).natAbs<BB^M)(hnn:n<=1000000:=by first|omega|decide):
  Calls prog 60 #[.slice A n c] w (qN w (zDu is n)):=by
 have hmix:prog.follows .mixedOrders=true:=rZ
 go_enter func60,ntmps60
 go_wp2
 go_loopw [4] (zUb w (w.heap.size+1) (zDu is) n) (fun i _=>n-(intOf i).toNat)
 case atStart=>exact⟨0,none,0,0, [],vS _,rfl,jC.at_ _ _ _ eN,Is.nil,wM _,(jC.new w _ _).alloc _,((xF _ w).alloc (vR _) _).alloc eN _⟩
 case round=>
  obtain⟨k,Ao,mo,co,lo,hk,rfl,hx1,hio,hro,hx0,hB⟩:=hrel
  obtain⟨v,hvk⟩:∃v,zDu is k=v:=⟨_,rfl⟩
  have hvb:=hv k hk
  rw[hvk]at hx1 hio hvb
  have hmo:mo<=M:=by rw[<-hro.len];exact hio.len hvb
  have HV:=hid hvk
  clear hvk
  by_cases hkn:k<n
  .obtain⟨b,o,s,Ai,ni,ci,li,rfl,p1,p2,hi,hri,hli,hni⟩:=(h.below hB).cells k hkn
   have HI:=hid hi
   clear hi
   have hb1:=hx1.lt
   go_wp2
   refine(bJ (n:=0)).1 ?_
   have cf:∀W,Below wr.heap.size wr W->(W.cell? ⟨w.heap.size+1,0,none⟩=some (.bool (decide (v<0)))/\W.cell? ⟨w.heap.size+1,1,none⟩=some (.slice Ao mo co))/\W.cell? ⟨b,o+k*2,none⟩=some (.bool s)/\W.cell? ⟨b,o+k*2+1,none⟩=some (.slice Ai ni ci):=fun W hb=>
    ⟨(hx1.kept hb).facts2.1,(hb.cell (p:=⟨b,o+k*2,none⟩) (zU p1)).trans p1,(hb.cell (p:=⟨b,o+k*2+1,none⟩) (zU p2)).trans p2⟩
   refine zZ 7 (fun W=>(W.cell? ⟨w.heap.size+1,0,none⟩=some (.bool (decide (v<0)))/\W.cell? ⟨w.heap.size+1,1,none⟩=some (.slice Ao mo co))/\W.cell? ⟨b,o+k*2,none⟩=some (.bool s)/\W.cell? ⟨b,o+k*2+1,none⟩=some (.slice Ai ni ci)) hmix ?_
   have d1:=cf _ (xF _ wr).drew
   refine zQ (i:=0) (v:=?vv1) kA kA rfl kA kA kA (fun _ _ _ h=>h) d1 ⟨.inl ⟨rfl,?yy1⟩,fun _=>rfl⟩ ?_
   case yy1=>
    rintro wx ⟨⟨q1,q2⟩,q3,q4⟩
    go_simp
    first|done|rfl
   refine zQ (i:=1) (v:=?vv2) kA kA rfl kA kA kA (fun _ _ _ h=>h) d1 ⟨.inl ⟨rfl,?yy2⟩,fun _=>rfl⟩ ?_
   case yy2=>
    rintro wx ⟨⟨q1,q2⟩,q3,q4⟩
    go_simp
    first|done|rfl
   refine zQ (i:=2) (v:=?vv3) kA kA rfl kA kA kA (fun _ _ _ h=>h) d1 ⟨.inl ⟨rfl,?yy3⟩,fun _=>rfl⟩ ?_
   case yy3=>
    rintro wx ⟨⟨q1,q2⟩,q3,q4⟩
    go_simp
    first|done|rfl
   refine zQ (i:=3) (v:=?vv4) kA kA rfl kA kA kA (fun _ _ _ h=>h) d1 ⟨.inl ⟨rfl,?yy4⟩,fun _=>rfl⟩ ?_
   case yy4=>
    rintro wx ⟨⟨q1,q2⟩,q3,q4⟩
    go_simp
    first|done|rfl
   refine zQ (i:=4) (v:=?vv5) kA kA rfl kA kA kA (fun _ _ _ h=>h) d1 ⟨.inl ⟨rfl,?yy5⟩,fun _=>rfl⟩ ?_
   case yy5=>
    rintro wx ⟨⟨q1,q2⟩,q3,q4⟩
    go_simp
    first|done|rfl
   have hnm:=zAm s Ai ni ci li wr.drew hri.drew hli oA
   refine zAq (i:=5) kA rfl (fun K hK=>?_)
   go_simp
   refine bC (bB.2 hnm) ?_
   rintro e w2 ⟨A2,n2,c2,l2,rfl,hi2,hr2,hb2⟩
   have hB2:Below wr.heap.size wr w2:=(xF _ wr).drew.trans hb2
   refine hK _ _ (.inr (cf _ hB2)) ?_
   clear hK K
   have hn2:n2<=M:=by
    rw[<-hr2.len]
    exact xQ (hi2.len (zAo hli hri.len hni)) hmM
   have htw:=zLl (decide (v<0)) Ao mo co lo (decide (iv s li<0)) A2 n2 c2 l2 w2 (hro.below hB2) hio.lt hr2 hi2.lt M hmo hn2 hM
   rw[zCt hio,zCt hi2]at htw
   have hsum:v+iv s li=zDu is (k+1):=by
    show _=zDu is k+zDH is k
    rw[HV.out]
    unfold zDH
    rw[HI.out]
    rfl
   have HS:=hid hsum
   obtain⟨v3,hv3⟩:∃v3,v+iv s li=v3:=⟨_,rfl⟩
   rw[hv3]at htw HS
   clear hsum
   refine zAq (i:=6) kA rfl (fun K hK=>?_)
   go_simp
   refine bC (bB.2 htw) ?_
   rintro e w3 ⟨A3,n3,c3,l3,rfl,hi3,hr3,hb3⟩
   have hB3:Below wr.heap.size wr w3:=hB2.trans (hb3.mono hB2.size)
   refine hK _ _ (.inr (cf _ hB3)) ?_
   clear hK K
   have hq:=hx1.kept hB3
   obtain⟨⟨m0,m1⟩,m2,m3⟩:=hq.facts2
   have hq0:=hx0.kept hB3
   refine zAq (i:=7) kA rfl (fun K hK=>?_)
   go_simp
   refine hK _ _ (.inl rfl) ?_
   clear hK K
   refine zCd kA ?_
   go_wp2
   go_roundw
   case rel=>
    have e1:=HS.out
    refine⟨k+1,A3,n3,c3,l3,oA,sE,?_,by rw[<-e1];exact hi3,(hr3.setN hq (i:=0) rfl (fun _=>eN) _).setN (hq.set 0 _) (i:=1) rfl (fun _=>eN) _,?_,?_⟩
    .rw[<-e1]
     exact(hq.set 0 _).set 1 _
    .exact(hq0.other (p:=⟨w.heap.size+1,0,none⟩) eN _).other (p:=⟨w.heap.size+1,1,none⟩) eN _
    .exact((hB.trans (hB3.mono hB.size)).setCell (p:=⟨w.heap.size+1,0,none⟩) eN _).setCell (p:=⟨w.heap.size+1,1,none⟩) eN _
   case measure=>simp[intOf];omega
  .obtain rfl:k=n:=oA
   obtain⟨⟨g0,g1⟩,_,_⟩:=hx1.facts2
   have hnm:=zAm (decide (v<0)) Ao mo co lo wr hro hio.lt oA
   rw[zCt hio]at hnm
   go_wp2_with (go_at_call 58;refine hnm.mono ?_;rintro e w4 ⟨A4,n4,c4,l4,rfl,hi4,hr4,hb4⟩;have hq:=hx0.kept hb4;obtain⟨⟨m0,m1⟩,m2,m3⟩:=hq.facts2)
   obtain⟨⟨c0,c1⟩,_,_⟩:=((hq.set 0 (.bool (decide (v<0)))).set 1 (.slice A4 n4 c4)).facts2
   refine mG (v:=.agg #[.bool (decide (v<0)),.slice A4 n4 c4]) (by simp[results,results60,go_sem,c0,c1]) rfl ?_
   rw[HV.out]
   exact zG9 hq (hB.trans (hb4.mono hB.size)) (vR _) hi4 hr4
theorem zLn(A:WF Addr)(n c:Nat)(is:List (Bool×List Nat))(m M:Nat)(w:WB)(h:IRdM m w A n is)(hn:n<=c)(_hc:c<=9223372036854775807)(hmM:m<=M)(hM:M<=50000)(hv:∀k,k<=n->(zBV is k).natAbs<BB^M)(hnn:n<=1000000:=by first|omega|decide):
  Calls prog 40 #[.slice A n c] w (qN w (zBV is n)):=by
 have hmix:prog.follows .mixedOrders=true:=rZ
 go_enter func40,ntmps40
 have hof:=zJe 1 oA oA (w.alloc (.cells #[.bool false,.slice none 0 0] 30))
 go_wp2_with (go_at_call 47;refine hof.mono ?_;rintro e w0 ⟨A0,n0,c0,l0,rfl,hi0,hr0,hb0⟩)
 have hBs:w.heap.size<w0.heap.size:=vW eN hb0.size
 have hst:zUb w w0.heap.size (zBV is) n (.int .i64 0) (w0.alloc (.cells #[.bool false,.slice A0 n0 c0] 30)):=by
  refine⟨0,A0,n0,c0,l0,vS _,rfl,jC.at_ _ _ _ rfl,hi0,hr0.alloc _,((jC.new w _ _).kept hb0).alloc _,?_⟩
  have t1:=((xF _ w).alloc (vR _) (.cells #[.bool false,.slice none 0 0] 30)).trans (hb0.mono eN)
  exact t1.alloc t1.size _
 go_loopw [4] (zUb w w0.heap.size (zBV is) n) (fun i _=>n-(intOf i).toNat)
 case atStart=>exact hst
 case round=>
  obtain⟨k,Ao,mo,co,lo,hk,rfl,hx1,hio,hro,hx0,hB⟩:=hrel
  obtain⟨v,hvk⟩:∃v,zBV is k=v:=⟨_,rfl⟩
  have hvb:=hv k hk
  rw[hvk]at hx1 hio hvb
  have hmo:mo<=M:=by rw[<-hro.len];exact hio.len hvb
  have HV:=hid hvk
  clear hvk
  by_cases hkn:k<n
  .obtain⟨b,o,s,Ai,ni,ci,li,rfl,p1,p2,hi,hri,hli,hni⟩:=(h.below hB).cells k hkn
   have HI:=hid hi
   clear hi
   go_wp2
   refine(bJ (n:=0)).1 ?_
   have cf:∀W,Below wr.heap.size wr W->(W.cell? ⟨w0.heap.size,0,none⟩=some (.bool (decide (v<0)))/\W.cell? ⟨w0.heap.size,1,none⟩=some (.slice Ao mo co))/\W.cell? ⟨b,o+k*2,none⟩=some (.bool s)/\W.cell? ⟨b,o+k*2+1,none⟩=some (.slice Ai ni ci):=fun W hb=>
    ⟨(hx1.kept hb).facts2.1,(hb.cell (p:=⟨b,o+k*2,none⟩) (zU p1)).trans p1,(hb.cell (p:=⟨b,o+k*2+1,none⟩) (zU p2)).trans p2⟩
   refine zZ 18 (fun W=>(W.cell? ⟨w0.heap.size,0,none⟩=some (.bool (decide (v<0)))/\W.cell? ⟨w0.heap.size,1,none⟩=some (.slice Ao mo co))/\W.cell? ⟨b,o+k*2,none⟩=some (.bool s)/\W.cell? ⟨b,o+k*2+1,none⟩=some (.slice Ai ni ci)) hmix ?_
   have d1:=cf _ (xF _ wr).drew
   refine zQ (i:=0) (v:=?vv6) kA kA rfl kA kA kA (fun _ _ _ h=>h) d1 ⟨.inl ⟨rfl,?yy6⟩,fun _=>rfl⟩ ?_
   case yy6=>
    rintro wx ⟨⟨q1,q2⟩,q3,q4⟩
    go_simp
    first|done|rfl
   refine zQ (i:=1) (v:=?vv7) kA kA rfl kA kA kA (fun _ _ _ h=>h) d1 ⟨.inl ⟨rfl,?yy7⟩,fun _=>rfl⟩ ?_
   case yy7=>
    rintro wx ⟨⟨q1,q2⟩,q3,q4⟩
    go_simp
    first|done|rfl
   refine zQ (i:=2) (v:=?vv8) kA kA rfl kA kA kA (fun _ _ _ h=>h) d1 ⟨.inl ⟨rfl,?yy8⟩,fun _=>rfl⟩ ?_
   case yy8=>
    rintro wx ⟨⟨q1,q2⟩,q3,q4⟩
    go_simp
    first|done|rfl
   refine zQ (i:=3) (v:=?vv9) kA kA rfl kA kA kA (fun _ _ _ h=>h) d1 ⟨.inl ⟨rfl,?yy9⟩,fun _=>rfl⟩ ?_
   case yy9=>
    rintro wx ⟨⟨q1,q2⟩,q3,q4⟩
    go_simp
    first|done|rfl
   refine zQ (i:=4) (v:=?vv10) kA kA rfl kA kA kA (fun _ _ _ h=>h) d1 ⟨.inl ⟨rfl,?yy10⟩,fun _=>rfl⟩ ?_
   case yy10=>
    rintro wx ⟨⟨q1,q2⟩,q3,q4⟩
    go_simp
    first|done|rfl
   refine zQ (i:=5) (v:=?vv11) kA kA rfl kA kA kA (fun _ _ _ h=>h) d1 ⟨.inl ⟨rfl,?yy11⟩,fun _=>rfl⟩ ?_
   case yy11=>
    rintro wx ⟨⟨q1,q2⟩,q3,q4⟩
    go_simp
    first|done|rfl
   refine zQ (i:=6) (v:=?vv12) kA kA rfl kA kA kA (fun _ _ _ h=>h) d1 ⟨.inl ⟨rfl,?yy12⟩,fun _=>rfl⟩ ?_
   case yy12=>
    rintro wx ⟨⟨q1,q2⟩,q3,q4⟩
    go_simp
    first|done|rfl
   refine zQ (i:=7) (v:=?vv13) kA kA rfl kA kA kA (fun _ _ _ h=>h) d1 ⟨.inl ⟨rfl,?yy13⟩,fun _=>rfl⟩ ?_
   case yy13=>
    rintro wx ⟨⟨q1,q2⟩,q3,q4⟩
    go_simp
    first|done|rfl
   refine zQ (i:=8) (v:=?vv14) kA kA rfl kA kA kA (fun _ _ _ h=>h) d1 ⟨.inl ⟨rfl,?yy14⟩,fun _=>rfl⟩ ?_
   case yy14=>
    rintro wx ⟨⟨q1,q2⟩,q3,q4⟩
    go_simp
    first|done|rfl
   refine zQ (i:=9) (v:=?vv15) kA kA rfl kA kA kA (fun _ _ _ h=>h) d1 ⟨.inl ⟨rfl,?yy15⟩,fun _=>rfl⟩ ?_
   case yy15=>
    rintro wx ⟨⟨q1,q2⟩,q3,q4⟩
    go_simp
    first|done|rfl
   refine zQ (i:=10) (v:=?vv16) kA kA rfl kA kA kA (fun _ _ _ h=>h) d1 ⟨.inl ⟨rfl,?yy16⟩,fun _=>rfl⟩ ?_
   case yy16=>
    rintro wx ⟨⟨q1,q2⟩,q3,q4⟩
    go_simp
    first|done|rfl
   refine zQ (i:=11) (v:=?vv17) kA kA rfl kA kA kA (fun _ _ _ h=>h) d1 ⟨.inl ⟨rfl,?yy17⟩,fun _=>rfl⟩ ?_
   case yy17=>
    rintro wx ⟨⟨q1,q2⟩,q3,q4⟩
    go_simp
    first|done|rfl
   refine zQ (i:=12) (v:=?vv18) kA kA rfl kA kA kA (fun _ _ _ h=>h) d1 ⟨.inl ⟨rfl,?yy18⟩,fun _=>rfl⟩ ?_
   case yy18=>
    rintro wx ⟨⟨q1,q2⟩,q3,q4⟩
    go_simp
    first|done|rfl
   refine zQ (i:=13) (v:=?vv19) kA kA rfl kA kA kA (fun _ _ _ h=>h) d1 ⟨.inl ⟨rfl,?yy19⟩,fun _=>rfl⟩ ?_
   case yy19=>
    rintro wx ⟨⟨q1,q2⟩,q3,q4⟩
    go_simp
    first|done|rfl
   refine zQ (i:=14) (v:=?vv20) kA kA rfl kA kA kA (fun _ _ _ h=>h) d1 ⟨.inl ⟨rfl,?yy20⟩,fun _=>rfl⟩ ?_
   case yy20=>
    rintro wx ⟨⟨q1,q2⟩,q3,q4⟩
    go_simp
    first|done|rfl
   have hml:=zI9 Ao mo co lo Ai ni ci li wr.drew hro.drew hri.drew hio.lt hli oA oA
   refine zAq (i:=15) kA rfl (fun K hK=>?_)
   go_simp
   refine bC (bB.2 hml) ?_
   rintro e w2 ⟨A2,n2,c2,l2,rfl,hi2,hr2,hb2⟩
   have hB2:Below wr.heap.size wr w2:=(xF _ wr).drew.trans hb2
   refine hK _ _ (.inr (cf _ hB2)) ?_
   clear hK K
   have dd2:=cf _ hB2
   refine zAq (i:=16) kA rfl (fun K hK=>?_)
   go_simp
   refine hK _ _ (.inr dd2) ?_
   clear hK K
   have hn2:n2<=M+m:=by
    rw[<-hr2.len]
    refine hi2.len ?_
    have e1:=hio.lt_pow;have e2:=qO hli
    rw[hio.val,uA]
    rw[hri.len]at e2
    have e3:BB^ni<=BB^m:=vZ qA hni
    exact vW (nL hvb (mI (vW e2 e3)) (uN qA)) (vR _)
   have htw:=zAm (decide (v<0) !=s) A2 n2 c2 l2 w2 hr2 hi2.lt oA
   rw[zR0 hi2.val,zCt hio]at htw
   have hsum:v*iv s li=zBV is (k+1):=by
    show _=zBV is k*zDH is k
    rw[HV.out]
    unfold zDH
    rw[HI.out]
    rfl
   have HS:=hid hsum
   obtain⟨v3,hv3⟩:∃v3,v*iv s li=v3:=⟨_,rfl⟩
   rw[hv3]at htw HS
   clear hsum
   refine zAq (i:=17) kA rfl (fun K hK=>?_)
   go_simp
   refine bC (bB.2 htw) ?_
   rintro e w3 ⟨A3,n3,c3,l3,rfl,hi3,hr3,hb3⟩
   have hB3:Below wr.heap.size wr w3:=hB2.trans (hb3.mono hB2.size)
   refine hK _ _ (.inr (cf _ hB3)) ?_
   clear hK K
   have hq:=hx1.kept hB3
   obtain⟨⟨m0,m1⟩,m2,m3⟩:=hq.facts2
   have hq0:=hx0.kept hB3
   refine zAq (i:=18) kA rfl (fun K hK=>?_)
   go_simp
   refine hK _ _ (.inl rfl) ?_
   clear hK K
   refine zCd kA ?_
   go_wp2
   go_roundw
   case rel=>
    have e1:=HS.out
    refine⟨k+1,A3,n3,c3,l3,oA,sE,?_,by rw[<-e1];exact hi3,(hr3.setN hq (i:=0) rfl (fun _=>eN) _).setN (hq.set 0 _) (i:=1) rfl (fun _=>eN) _,?_,?_⟩
    .rw[<-e1]
     exact(hq.set 0 _).set 1 _
    .exact(hq0.other (p:=⟨w0.heap.size,0,none⟩) sB _).other (p:=⟨w0.heap.size,1,none⟩) sB _
    .exact((hB.trans (hB3.mono hB.size)).setCell (p:=⟨w0.heap.size,0,none⟩) sB _).setCell (p:=⟨w0.heap.size,1,none⟩) sB _
   case measure=>simp[intOf];omega
  .obtain rfl:k=n:=oA
   obtain⟨⟨g0,g1⟩,_,_⟩:=hx1.facts2
   obtain⟨⟨m0,m1⟩,m2,m3⟩:=hx0.facts2
   go_wp2
   obtain⟨⟨c0,c1⟩,_,_⟩:=((hx0.set 0 (.bool (decide (v<0)))).set 1 (.slice Ao mo co)).facts2
   refine mG (v:=.agg #[.bool (decide (v<0)),.slice Ao mo co]) (by simp[results,results40,go_sem,c0,c1]) rfl ?_
   rw[HV.out]
   exact zG9 hx0 hB (vR _) hio hro
theorem zQf(M:Nat)(h:IS W m v is)(hn:is.length<=1000000)(I:m<=M)(J:M<=100000)(hv:∀k,k<=is.length->(zDu is k).natAbs<BB^M):Calls prog 60 #[v] W (zGO W (zDu is is.length)):=by
 obtain⟨A,c,rfl,h3,h4,O⟩:=h
 exact(zHh A is.length c is m M W O h3 h4 I J hv).mono fun _ _=>qN.v
theorem zQd(M:Nat)(h:IS W m v is)(hn:is.length<=1000000)(I:m<=M)(J:M<=50000)(hv:∀k,k<=is.length->(zBV is k).natAbs<BB^M):Calls prog 40 #[v] W (zGO W (zBV is is.length)):=by
 obtain⟨A,c,rfl,h3,h4,O⟩:=h
 exact(zLn A is.length c is m M W O h3 h4 I J hv).mono fun _ _=>qN.v
attribute [local go_sem] Oper.semAt_some qD yA
theorem zHg(s:Bool)(A:WF Addr)(n c:Nat)(l:List Nat)(w:WB)(h:Rd w A n c l)(ht:Lt l)(hl:n<=1099511627776):
  Calls prog 61 #[.agg #[.bool s,.slice A n c]] w (qN w (-iv s l)):=by
 go_enter func61,ntmps61
 go_wp2_with (go_at_call 58;refine(zAm (!s) A n c l _ ((h.alloc _).alloc _) ht hl).mono ?_;rintro e w1 ⟨A2,n2,c2,l2,rfl,hi2,hr2,hb⟩;have hq:=res2 hb (b:=w.heap.size+1) eN;obtain⟨⟨q0,q1⟩,q2,q3⟩:=hq.facts2)
 obtain⟨⟨c0,c1⟩,_,_⟩:=((hq.set 0 (.bool (decide (iv (!s) l<0)))).set 1 (.slice A2 n2 c2)).facts2
 refine mG (v:=.agg #[.bool (decide (iv (!s) l<0)),.slice A2 n2 c2]) (by simp[results,results61,go_sem,c0,c1]) rfl ?_
 rw[<-zPl]
 exact zG9 hq ((((xF _ w).alloc (vR _) _).alloc eN _).trans (hb.mono sB)) eN hi2 hr2
theorem zLm(s:Bool)(A:WF Addr)(n c:Nat)(l:List Nat)(s':Bool)(A':WF Addr)(n' c':Nat)(l':List Nat)(w:WB)(h:Rd w A n c l)(ht:Lt l)(h':Rd w A' n' c' l')(ht':Lt l')(m:Nat)(hl:n<=m)(hl':n'<=m)(hm:m<=90000):
  Calls prog 39 #[.agg #[.bool s,.slice A n c],.agg #[.bool s',.slice A' n' c']] w (qN w (iv s l-iv s' l')):=by
 have hmix:prog.follows .mixedOrders=true:=rZ
 go_enter func39,ntmps39
 go_wp2
 refine(bJ (n:=0)).1 ?_
 obtain⟨W0,hW0⟩:∃W0,(((w.alloc (.cells #[.bool s,.slice A n c] 30)).alloc (.cells #[.bool s',.slice A' n' c'] 30)).alloc (.cells #[.bool false,.slice none 0 0] 30))=W0:=⟨_,rfl⟩
 have x0:jC W0 w.heap.size 30 #[.bool s,.slice A n c]:=by rw[<-hW0];exact((jC.new w _ _).alloc _).alloc _
 have x1:jC W0 (w.heap.size+1) 30 #[.bool s',.slice A' n' c']:=by rw[<-hW0];exact(jC.at_ _ _ _ eN).alloc _
 have x2:jC W0 (w.heap.size+1+1) 30 #[.bool false,.slice none 0 0]:=by rw[<-hW0];exact jC.at_ _ _ _ eN
 have hB0:Below w.heap.size w W0:=by rw[<-hW0];exact(((xF _ w).alloc (vR _) _).alloc eN _).alloc sB _
 rw[hW0]
 clear hW0
 refine zZ 100 (fun W=>(W.cell? ⟨w.heap.size,0,none⟩=some (.bool s)/\W.cell? ⟨w.heap.size,1,none⟩=some (.slice A n c))/\W.cell? ⟨w.heap.size+1,0,none⟩=some (.bool s')/\W.cell? ⟨w.heap.size+1,1,none⟩=some (.slice A' n' c')) hmix ?_
 have d1:=And.intro x0.facts2.1 x1.facts2.1
 refine zQ (i:=0) (v:=?vv1) kA kA rfl kA kA kA (fun _ _ _ h=>h) d1 ⟨.inl ⟨rfl,?yy1⟩,fun _=>rfl⟩ ?_
 case yy1=>
  rintro wx ⟨⟨q1,q2⟩,q3,q4⟩
  go_simp
  first|done|rfl
 refine zQ (i:=1) (v:=?vv2) kA kA rfl kA kA kA (fun _ _ _ h=>h) d1 ⟨.inl ⟨rfl,?yy2⟩,fun _=>rfl⟩ ?_
 case yy2=>
  rintro wx ⟨⟨q1,q2⟩,q3,q4⟩
  go_simp
  first|done|rfl
 refine zAq (i:=2) kA rfl (fun K hK=>?_)
 go_simp
 have hneg:=zHg s' A' n' c' l' _ ((h'.below hB0).drew) ht' oA
 obtain⟨v2,hv2⟩:∃v2,-iv s' l'=v2:=⟨_,rfl⟩
 rw[hv2]at hneg
 refine bC (bB.2 hneg) ?_
 rintro e w2 ⟨A2,n2,c2,l2,rfl,hi2,hr2,hb2⟩
 have hB2:Below W0.heap.size W0 w2:=((xF _ W0).drew).trans hb2
 have d2:=And.intro (x0.kept hB2).facts2.1 (x1.kept hB2).facts2.1
 have hn2:n2<=m:=by
  rw[<-hr2.len]
  refine hi2.len ?_
  rw[<-hv2,Int.natAbs_neg]
  exact zAo ht' h'.len hl'
 refine hK _ _ (.inr d2) ?_
 clear hK K
 refine zAq (i:=3) kA rfl (fun K hK=>?_)
 go_simp
 have hds:IRdM m _ _ _ _:=IRd.two (s:=s) (s':=decide (v2<0)) (h.below (hB0.trans (hB2.mono hB0.size))) ht oA hr2 hi2.lt oA 30
 have hW3:Below W0.heap.size W0 (w2.alloc (.cells #[.bool s,.slice A n c,.bool (decide (v2<0)),.slice A2 n2 c2] 30)):=hB2.alloc hB2.size _
 refine hK _ _ (.inr ⟨(x0.kept hW3).facts2.1,(x1.kept hW3).facts2.1⟩) ?_
 clear hK K
 refine zAq (i:=4) kA rfl (fun K hK=>?_)
 go_simp
 have hvm:=zJD (s,l) (decide (v2<0),l2) m (zAo ht h.len hl) (zAo hi2.lt hr2.len hn2)
 have hsum:zDu [(s,l),(decide (v2<0),l2)] 2=iv s l-iv s' l':=by
  show(0+iv s l)+iv (decide (v2<0)) l2=_
  rw[zCt hi2]
  omega
 have hvs:∀k,k<=2->(zDu [(s,l),(decide (v2<0),l2)] k).natAbs<BB^(m+1):=by
  intro k hk
  have e0:=zAo (s:=s) ht h.len hl;have e2:=zAo (s:=s') ht' h'.len hl'
  have e3:0<BB^m:=uN rY
  rw[show BB^(m+1)=BB^m*4294967296 from by rw[vY];rfl]
  rcases(oA:k=0∨k=1∨k=2)with rfl|rfl|rfl
  .show(0:Int).natAbs<_
   rw[Int.natAbs_zero];omega
  .show(0+iv s l).natAbs<_
   rw[Int.zero_add];omega
  .rw[hsum];omega
 have hadd:=zHh _ 2 2 _ m (m+1) _ hds oA oA oA oA hvs
 rw[hsum]at hadd
 refine bC (bB.2 hadd) ?_
 rintro e w3 ⟨A3,n3,c3,l3,rfl,hi3,hr3,hb3⟩
 have hB3:Below W0.heap.size W0 w3:=hW3.trans (hb3.mono hW3.size)
 have hq:=x2.kept hB3
 obtain⟨⟨m0,m1⟩,m2,m3⟩:=hq.facts2
 refine hK _ _ (.inr ⟨(x0.kept hB3).facts2.1,(x1.kept hB3).facts2.1⟩) ?_
 clear hK K
 obtain⟨v3,hv3⟩:∃v3,iv s l-iv s' l'=v3:=⟨_,rfl⟩
 rw[hv3]at hi3
 simp only[hv3]
 refine zAq (i:=5) kA rfl (fun K hK=>?_)
 go_simp
 refine hK _ _ (.inr ⟨((x0.kept hB3).other (p:=⟨w.heap.size+1+1,0,none⟩) sB _|>.other (p:=⟨w.heap.size+1+1,1,none⟩) sB _).facts2.1,((x1.kept hB3).other (p:=⟨w.heap.size+1+1,0,none⟩) eN _|>.other (p:=⟨w.heap.size+1+1,1,none⟩) eN _).facts2.1⟩) ?_
 clear hK K
 refine zCd kA ?_
 obtain⟨⟨c0,c1⟩,_,_⟩:=((hq.set 0 (.bool (decide (v3<0)))).set 1 (.slice A3 n3 c3)).facts2
 go_wp2
 refine mG (v:=.agg #[.bool (decide (v3<0)),.slice A3 n3 c3]) (by simp[results,results39,go_sem,c0,c1]) rfl ?_
 rw[hv3]
 exact zG9 hq (hB0.trans (hB3.mono hB0.size)) oA hi3 hr3
attribute [local go_sem] Oper.semAt_some qD yA
attribute [local go_sem] Oper.semAt_some qD yA
end Go.Proofs.Wd
