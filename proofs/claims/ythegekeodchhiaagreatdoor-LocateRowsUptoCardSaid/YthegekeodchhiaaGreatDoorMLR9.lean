/- An array of limbs of the call's own, known whole; slices.Backward; A r and what it needs. -/
import Derived.Test.YthegekeodchhiaaGreatDoorMLR3
import Derived.Test.YthegekeodchhiaaGreatDoorMLR7
import Derived.Deep.OwnRows
import Derived.Test.YthegekeodchhiaaGreatDoorMLR1
import Derived.BigQuiet
theorem kB {P:Prop} (h:P:=by kernel_rfl):P:=h
theorem oG {P:Prop} (h:P:=by omega):P:=h
abbrev eJ:=@Nat.le_refl
abbrev eK:=@Go.RowKit.Below.refl
abbrev eM:=@Go.Oper.semAt_some
abbrev eN:=@Nat.mul_add
abbrev eO:=@Nat.le_trans
abbrev eP:=@Go.CallsIn.mono
abbrev eQ:=@Go.callsIn_wide
abbrev eR:=@List.length_set
abbrev eS:=@Nat.add_mul
abbrev eT:=@Nat.zero_le
abbrev eU:=@Go.bodyPost_ret
abbrev eV:=@List.size_toArray
abbrev eX:=@List.length_cons
abbrev eY:=@List.length_nil
abbrev eZ:=@Array.replicate_succ
abbrev fC:=@Array.replicate_zero
abbrev fD:=@List.push_toArray
abbrev fE:=@List.append_toArray
abbrev fF:=@List.nil_append
abbrev fG:=@List.cons_append
abbrev fH:=@Go.KeepsOthers.setCell
abbrev fJ:=@List.length_replicate
abbrev fK:=@Go.wpIn_wide
abbrev fL:=@Nat.pow_succ
abbrev fM:=@Array.getElem?_eq_some_iff
abbrev fN:=@Go.World.cell?_setCell_other
abbrev fO:=@Nat.lt_of_lt_of_le
abbrev fP:=@Nat.mul_assoc
abbrev fQ:=@Int.natCast_mul
abbrev fR:=@Nat.pow_le_pow_right
abbrev fS:=@Array.getElem?_eq_getElem
abbrev fT:=@Array.getElem_modify_self
abbrev WQ:=Go.World
abbrev WR:=Go.Value
abbrev WS:=Option
namespace Go.Proofs.Wd
open Tryz
set_option maxRecDepth 100000
set_option maxHeartbeats 1000000
open Go.RowKit Lb
attribute [local go_sem] Oper.semAt_some qF yI
def Arr (W:WQ) (b:Nat) (l:List Nat):Prop:=W.heap[b]?=some (.cells (zBi l).toArray 73 (0,0))
theorem Arr.lt {W:WQ} {b:Nat} {l:List Nat} (h:Arr W b l):b<W.heap.size:=(fM.1 h).1
theorem Arr.cell {W:WQ} {b:Nat} {l:List Nat} (h:Arr W b l) {i:Nat} (hi:i<l.length):W.cell? ⟨b,i,none⟩=some (.int .u32 (lm l i)):=by
 unfold World.cell?
 rw [show W.heap[b]?=_ from h]
 simp only [Option.isSome_none,Bool.false_eq_true,if_false,List.getElem?_toArray]
 exact zCN l i hi
theorem Arr.frozen {W:WQ} {b:Nat} {l:List Nat} (h:Arr W b l) (i:Nat):W.frozen? ⟨b,i,none⟩=false:=by
 unfold World.frozen?
 rw [show W.heap[b]?=_ from h]
 simp
theorem Arr.set {W:WQ} {b:Nat} {l:List Nat} (h:Arr W b l) (i x:Nat):Arr (W.setCell ⟨b,i,none⟩ (.int .u32 (x:Int))) b (l.set i x):=by
 unfold Arr at h ⊢
 have e:(zBi (l.set i x)).toArray=(zBi l).toArray.setIfInBounds i (.int .u32 (x:Int)):=by
  simp [zBi,List.map_set]
 rw [e]
 obtain ⟨hlt,hk⟩:=fM.1 h
 show (W.heap.modify b _)[b]?=_
 rw [fS (by rw [Array.size_modify];exact hlt),fT,hk]
 simp
theorem Arr.kept {W W':WQ} {b:Nat} {l:List Nat} (h:Arr W b l) (hk:W'.heap[b]?=W.heap[b]?):Arr W' b l:=hk.trans h
theorem Arr.alloc {W:WQ} {b:Nat} {l:List Nat} (h:Arr W b l) (o:Obj):Arr (W.alloc o) b l:=h.kept (Below.heap_alloc W o b h.lt)
theorem Arr.far {W:WQ} {b:Nat} {l:List Nat} (h:Arr W b l) {p:Addr} (hp:b≠p.block) (u:WR):Arr (W.setCell p u) b l:=h.kept (Below.heap_setCell W p u b hp)
theorem Arr.rd {W:WQ} {b:Nat} {l:List Nat} (h:Arr W b l) {n:Nat} (hn:l.length=n) (hb:n<=9223372036854775807):Rd W (some ⟨b,0,none⟩) n n l:=
 ⟨hn,eJ _,hb,fun e=>(by cases e),fun i hi=>⟨b,0,rfl,by rw [Nat.zero_add];exact h.cell oG⟩⟩
theorem Arr.abide {W W':WQ} {row:WS Nat} {b C:Nat} {l:List Nat} (h:Arr W b l) (hg:W.grownBy W' row) (hr: ∀r,row=some r->C<=r/\ ∃o:Obj,W.heap[r]?=some o/\o.isCells=false):Arr W' b l:=
 h.kept (hg.block b h.lt fun e=>by
  obtain ⟨_,o,ho,hc⟩:=hr b e.symm
  rw [show W.heap[b]?=_ from h] at ho
  cases ho
  cases hc)
theorem zHG (n:Nat):madeCells #[.int .u32 0] n=(zBi (List.replicate n 0)).toArray:=by
 apply Array.ext'
 simp [madeCells,zBi,Nat.mod_one,List.map_const']
theorem Arr.new (W:WQ) (n:Nat):Arr (W.alloc (.cells (madeCells #[.int .u32 0] n) 73)) W.heap.size (List.replicate n 0):=by
 rw [zHG]
 exact heap_alloc_new W _
theorem zP7 (W:WQ) (n:Nat) {b:Nat} (hb:b=W.heap.size):Arr (W.alloc (.cells (madeCells #[.int .u32 0] n) 73)) b (List.replicate n 0):=by
 subst hb
 exact Arr.new W n
theorem zA7 (n:Nat) (h:n<=17592186044416) (w:WQ):
  (Instr.makeSlice 23 (.int .i64 (n:Int)) (.int .i64 (n:Int))).run prog w= .ok (.slice (some ⟨w.heap.size,0,none⟩) n n) (w.alloc (.cells (madeCells #[.int .u32 0] n) 73)):=
 run_make_row' 23 73 (.int .u32 0) 4 yJ yZ rfl .i64 .i64 n oG oG w
theorem zFC (A:WS Addr) (n c:Nat) (l:List Nat) (b1:Nat) (w0:WQ) (h:Rd w0 A n c l)
  (hc1:w0.cell? ⟨b1,0,none⟩=some (.slice A n c)) {S:Nat->Prop} (hS: ∀b,S b->b<w0.heap.size) (hS1:S b1) (hSA: ∀b o,0<n->A=some ⟨b,o,none⟩->S b):
  zTU prog 171 #[.pointer (some ⟨b1,0,none⟩)] (fun k=>#[.int .i64 (n - 1 - k:Nat), .int .u32 (lm l (n - 1 - k):Nat)]) n (y9 S) Mk (fun _=>True) w0:=by
 intro lp J W hW hJ hY h0
 have hle:=h.le;have hcap:=h.cap
 have hl1:=z7 hc1
 have hw1:=(hW.cell (p:=⟨b1,0,none⟩) hl1).trans hc1
 refine zBL func171 rfl ?_
 simp only [ntmps171,eV,eX,eY,Nat.reduceAdd,Nat.reduceSub,eZ,fC,fD,fE,fF,fG]
 gi_wp2
 gi_loopw [3] (fun i wr=> ∃j:Nat,j<=n/\i= .int .i64 ((j:Int) - 1)/\J (n - j) wr/\y9 S w0 wr) (fun i _=>(intOf i+1).toNat)
 case atStart=>exact ⟨n,eJ _,rfl,by rw [Nat.sub_self];exact h0,wQ hW hS⟩
 case round=>
  obtain ⟨j,hj,rfl,hJ1,hb⟩:=hrel
  by_cases hj0:0<j
  ·obtain ⟨b,o,rfl,hc⟩:=(h.keepS hb hSA).cells (j - 1) oG
   have hr1:=(hb.cell (p:=⟨b1,0,none⟩) hS1).trans hc1
   have e1:((j:Int) - 1).toNat=j - 1:=by omega
   obtain ⟨fn,tmps,assign,body,hy,hR⟩:=hY (n - j) wr oG hJ1
   rw [show n - 1 - (n - j)=j - 1 from by omega,show ((j - 1:Nat):Int)=(j:Int) - 1 from by omega] at hy
   have hRn:n - j+1=n - (j - 1):=by omega
   rw [hRn] at hR
   clear hRn
   gi_wp2
   refine hR.mono ?_
   rintro e W3 ⟨rfl,hJ3,hk3⟩
   clear hy
   gi_wp2
   go_roundw
   case rel=>exact ⟨j - 1,by omega,by congr 1;omega,hJ3,hb.trans hk3⟩
   case measure=>simp [intOf];omega
  ·obtain rfl:j=0:=by omega
   gi_wp2
   go_end0
   exact ⟨⟨_,rfl⟩,hJ1,trivial⟩
theorem zHX (A:WS Addr) (n c:Nat) (w:WQ):
  Calls prog 162 #[.slice A n c] w fun e w'=>e= .returned (.func (.func 171) #[] #[.pointer (some ⟨w.heap.size,0,none⟩)])/\
   w.alloc (.cells #[.slice A n c] 23)=w':=by
 go_enter func162,ntmps162
 go_wp2
 go_ret
 exact ⟨rfl,rfl⟩
def Row (W:WQ) (R c:Nat) (l:List Nat):Prop:= ∃cs:Array WR,W.heap[R]?=some (.cells cs 73 (0,0))/\cs.size=c/\l.length<=c/\c<=9223372036854775807/\cs.toList.take l.length=zBi l
theorem Row.lt {W:WQ} {R c:Nat} {l:List Nat} (h:Row W R c l):R<W.heap.size:=by
 obtain ⟨cs,h1,_⟩:=h
 exact (fM.1 h1).1
theorem Row.kept {W W':WQ} {R c:Nat} {l:List Nat} (h:Row W R c l) (hk:W'.heap[R]?=W.heap[R]?):Row W' R c l:=by
 obtain ⟨cs,h1,h2⟩:=h
 exact ⟨cs,hk.trans h1,h2⟩
theorem Row.get {l:List Nat} {cs:Array WR} (h:cs.toList.take l.length=zBi l) {i:Nat} (hi:i<l.length):cs[i]?=some (.int .u32 (lm l i)):=by
 rw [<-Array.getElem?_toList, <-List.getElem?_take_of_lt hi,h]
 exact zCN l i hi
theorem Row.cell {W:WQ} {R c:Nat} {l:List Nat} (h:Row W R c l) {i:Nat} (hi:i<l.length):W.cell? ⟨R,i,none⟩=some (.int .u32 (lm l i)):=by
 obtain ⟨cs,h1,h2,h3,h4,h5⟩:=h
 unfold World.cell?
 rw [h1]
 simp only [Option.isSome_none,Bool.false_eq_true,if_false]
 exact Row.get h5 hi
theorem Row.frozen {W:WQ} {R c:Nat} {l:List Nat} (h:Row W R c l) (i:Nat):W.frozen? ⟨R,i,none⟩=false:=by
 obtain ⟨cs,h1,h2⟩:=h
 unfold World.frozen?
 rw [h1]
 simp
theorem Row.cap {W:WQ} {R c:Nat} {l:List Nat} (h:Row W R c l):l.length<=c/\c<=9223372036854775807:=by
 obtain ⟨cs,h1,h2,h3,h4,h5⟩:=h
 exact ⟨h3,h4⟩
theorem Row.set {W:WQ} {R c:Nat} {l:List Nat} (h:Row W R c l) (i x:Nat):Row (W.setCell ⟨R,i,none⟩ (.int .u32 (x:Int))) R c (l.set i x):=by
 obtain ⟨cs,h1,h2,h3,h4,h5⟩:=h
 refine ⟨cs.setIfInBounds i (.int .u32 (x:Int)), ?_,by simpa using h2,by simpa using h3,h4, ?_⟩
 ·obtain ⟨hlt,hk⟩:=fM.1 h1
  show (W.heap.modify R _)[R]?=_
  rw [fS (by rw [Array.size_modify];exact hlt),fT,hk]
  simp
 ·rw [eR,Array.toList_setIfInBounds,List.take_set,h5]
  simp [zBi,List.map_set]
theorem Row.rd {W:WQ} {R c:Nat} {l:List Nat} (h:Row W R c l):Rd W (some ⟨R,0,none⟩) l.length c l:=
 ⟨rfl,h.cap.1,h.cap.2,fun e=>(by cases e),fun i hi=>⟨R,0,rfl,by rw [Nat.zero_add];exact h.cell hi⟩⟩
theorem Row.of_own {w:WQ} {base:Nat} {A:WS Addr} {n c:Nat} {l:List Nat} (h:yG w base 73 (.slice A n c) l) (hl:0<l.length): ∃R,A=some ⟨R,0,none⟩/\n=l.length/\base<=R/\Row w R c l:=by
 obtain ⟨h1,h2⟩:=h
 rcases h2 with ⟨hv,hn⟩|⟨g,cap,cur,hv,hg,hh,hnc,hcm,hcs,ht⟩
 ·omega
 ·injection hv with a1 a2 a3
  subst a1;subst a3
  exact ⟨g,rfl,a2,hg,cur,hh,by simpa using hcs,hnc,by unfold maxLen at hcm;omega,by simpa using ht⟩
def win (l:List Nat) (at_ k:Nat):Nat:=sm (fun i=>lm l (at_+i)) k
theorem zAG (l:List Nat) (at_ k:Nat):win l at_ (k+1)=win l at_ k+lm l (at_+k)*BB^k:=rfl
theorem zPo {l:List Nat} (h:Lt l) (at_ k:Nat):win l at_ k<BB^k:=zIg fun _ _=>qM h _
theorem zIV {l:List Nat} {at_:Nat} (k:Nat):sm (lm (l.drop at_)) k=win l at_ k:=zAJ fun _ _=>zDf
theorem zK4 {l l':List Nat} {at_ k:Nat} (h: ∀i,i<k->lm l (at_+i)=lm l' (at_+i)):win l at_ k=win l' at_ k:=zAJ h
theorem zEQ {l:List Nat} {at_ k z:Nat}:win (l.set (at_+k) z) at_ k=win l at_ k:=by
 refine zK4 fun i hi=> ?_
 by_cases h:at_+k<l.length
 ·rw [zAU h,if_neg oG]
 ·rw [List.set_eq_of_length_le oG]
structure LongAt (W:World) (D R rc:Nat) (lr:List Nat) (A:Option Addr) (n c:Nat) (lb:List Nat):Prop where
 box:q7 W D 188 #[.slice (some ⟨R,0,none⟩) lr.length rc, .slice A n c]
 row:Row W R rc lr
 by_:Rd W A n c lb
 ne:D≠R
 far: ∀b o,0<n->A=some ⟨b,o,none⟩->b≠R
theorem LongAt.grown {W W':WQ} {D R rc:Nat} {lr lr':List Nat} {A:WS Addr} {n c:Nat} {lb:List Nat} (h:LongAt W D R rc lr A n c lb) (hg:W.grownBy W' (some R)) (hr:Row W' R rc lr') (hl:lr'.length=lr.length):LongAt W' D R rc lr' A n c lb:=by
 refine ⟨?_,hr, ?_,h.ne,h.far⟩
 ·rw [hl]
  exact (hg.block D h.box.lt (fun e=>h.ne (by injection e))).trans h.box
 ·refine ⟨h.by_.len,h.by_.le,h.by_.cap,h.by_.nil,fun i hi=> ?_⟩
  obtain ⟨b,o,e,hc⟩:=h.by_.cells i hi
  exact ⟨b,o,e,(World.cell?_of_block (hg.block b (z7 hc) (fun e'=>h.far b o oG e (by injection e')))).trans hc⟩
end Go.Proofs.Wd

namespace Go.Proofs.Wd
open Tryz
set_option maxRecDepth 100000
set_option maxHeartbeats 1000000
open Go.RowKit Lb
attribute [local go_sem] Oper.semAt_some qF yI
def zP8 (w:WQ) (l:List Nat) (m n:Nat) (k:Nat) (W:WQ):Prop:=
 ∃lq, ∃o:Nat,Arr W (w.heap.size+1+1) lq/\lq.length=n/\Lt lq/\Boxed W (w.heap.size+1) 23 (.slice (some ⟨w.heap.size+1+1,0,none⟩) n n)/\Boxed W w.heap.size 73 (.int .u32 m)/\
  Boxed W (w.heap.size+1+1+1) 105 (.int .u64 o)/\o<m/\val (l.drop (n - k))=m*val (lq.drop (n - k))+o/\Below w.heap.size w W/\w.heap.size+5<=W.heap.size
theorem zAF {W:WQ} {b:Nat} {t:TypeId} {v:WR} (h:Boxed W b t v) {p:Addr} (hp:b≠p.block) (u:WR):Boxed (W.setCell p u) b t v:=(Below.heap_setCell W p u b hp).trans h
theorem Rd.setBox {w:WQ} {A:WS Addr} {n c:Nat} {l:List Nat} (h:Rd w A n c l) {b:Nat} {t:TypeId} {u:WR} (hb:Boxed w b t u) (hu: ∀x,u≠ .int .u32 x) (v:WR):Rd (w.setCell ⟨b,0,none⟩ v) A n c l:=
 ⟨h.len,h.le,h.cap,h.nil,fun i hi=>by
  obtain ⟨b',o,e,hc⟩:=h.cells i hi
  refine ⟨b',o,e,(fN _ _ _ _ ?_).trans hc⟩
  intro he
  simp only [Addr.mk.injEq,and_true] at he
  obtain ⟨rfl,he2⟩:=he
  first|rw [<-he2] at hc|rw [he2] at hc
  rw [Boxed.cell hb] at hc
  exact hu _ (Option.some.inj hc)⟩
theorem zFG (w:WQ) (l:List Nat) (m n:Nat) {C:Nat} (hC:w.heap.size<=C):OwnFrom C (zP8 w l m n):=by
 rintro k W W' row ⟨lq,o,ha,hl,hlt,hq,hb,ho,hom,hv,hB,h5⟩ hg hr
 exact ⟨lq,o,ha.abide hg hr,hl,hlt,qP hq hg hr,qP hb hg hr,qP ho hg hr,hom,hv,zAm hB hg (eJ _) hC hr,eO h5 hg.size⟩
theorem zKo (o x m:Nat) (hm:0<m) (hm2:m<4294967296) (ho:o<m) (hx:x<4294967296):
  ∃d q r:Nat,bits .or .u64 ((o:Int)*4294967296) (x:Int)=(d:Int)/\d<18446744073709551616/\(d:Int) / (m:Int)=(q:Int)/\(d:Int) % (m:Int)=(r:Int)/\q<4294967296/\r<m/\o*4294967296+x=m*q+r:=by
 have hd:o*4294967296+x<m*4294967296:=by
  have:(o+1)*4294967296<=m*4294967296:=Nat.mul_le_mul_right _ ho
  omega
 refine ⟨o*4294967296+x,(o*4294967296+x) / m,(o*4294967296+x) % m,zEH o x oG hx,by omega,by rw [Int.natCast_ediv],by rw [Int.natCast_emod],Nat.div_lt_of_lt_mul hd,Nat.mod_lt _ hm,(Nat.div_add_mod _ _).symm⟩
theorem zLn (A:WS Addr) (n c:Nat) (l:List Nat) (m:Nat) (w:WQ) (h:Rd w A n c l) (ht:Lt l) (hm:0<m) (hm2:m<4294967296) (hn:n<=1099511627776):
  Calls prog 150 #[.slice A n c, .int .u32 m] w fun e w'=> ∃A1 n1 c1 l1,e= .returned (.tuple #[.slice A1 n1 c1, .int .u32 (val l % m:Nat), .int .i64 0])/\Is l1 (val l / m)/\Rd w' A1 n1 c1 l1/\Below w.heap.size w w':=by
 have hm0:((m:Int)==0)=false:=by simp only [beq_eq_false_iff_ne,ne_eq];omega
 have hmk:=fun wx=>zA7 n oG wx
 refine q6 func150 rfl ?_
 simp only [ntmps150,eV,eX,eY,Nat.reduceAdd,Nat.reduceSub,eZ,fC,fD,fE,fF,fG]
 go_wp2_with (go_at_call 162;refine (zHX A n c _).mono ?_;rintro e w1 ⟨rfl,rfl⟩)
 obtain ⟨W0,hW0⟩: ∃W0,(((((w.alloc (.cells #[.int .u32 m] 73)).alloc (.cells #[.slice (some ⟨w.heap.size+1+1,0,none⟩) n n] 23)).alloc (.cells (madeCells #[.int .u32 0] n) 73)).alloc (.cells #[.int .u64 0] 105)).alloc (.cells #[.slice A n c] 23))=W0:=⟨_,rfl⟩
 have hsz:W0.heap.size=w.heap.size+5:=by rw [<-hW0];simp
 have hB0:Below w.heap.size w W0:=by rw [<-hW0];exact (((((eK _ w).alloc (eJ _) _).alloc (by simp) _).alloc (by simp;omega) _).alloc (by simp;omega) _).alloc (by simp;omega) _
 have b0:Boxed W0 w.heap.size 73 (.int .u32 m):=by rw [<-hW0];exact (((((zAt _ _ _ (by simp)).alloc _).alloc _).alloc _).alloc _)
 have b1:Boxed W0 (w.heap.size+1) 23 (.slice (some ⟨w.heap.size+1+1,0,none⟩) n n):=by rw [<-hW0];exact ((((zAt _ _ _ (by simp)).alloc _).alloc _).alloc _)
 have b2:Arr W0 (w.heap.size+1+1) (List.replicate n 0):=by rw [<-hW0];exact (((zP7 _ n (by simp)).alloc _).alloc _)
 have b3:Boxed W0 (w.heap.size+1+1+1) 105 (.int .u64 0):=by rw [<-hW0];exact ((zAt _ _ _ (by simp)).alloc _)
 have b4:Boxed W0 (w.heap.size+1+1+1+1) 23 (.slice A n c):=by rw [<-hW0];exact (zAt _ _ _ (by simp))
 rw [hW0]
 clear hW0
 have hSb: ∀b,(b<w.heap.size∨b=w.heap.size+1+1+1+1)->b<W0.heap.size:=fun b hb=>by omega
 refine zEw (gf:=171) rfl (enters_of func171 kB rfl) (zFC A n c l (w.heap.size+1+1+1+1) W0 (h.below hB0) b4.cell (S:=fun b=>b<w.heap.size∨b=w.heap.size+1+1+1+1) hSb (.inr rfl) (fun b o hn e=> .inl (h.in_ b o hn e))) (fun _=>rfl) y9.trans (zEc hSb)
  (zP8 w l m n) (zFG w l m n oG) (zBM (zFG w l m n (eJ _))) wS (fun _ _ _ _ _ _ _ _=>trivial)
  ⟨List.replicate n 0,0,b2,by simp,jX n,b1,b0,b3,hm,by rw [Nat.sub_zero,List.drop_of_length_le (by rw [h.len];omega),List.drop_of_length_le (by simp)];rfl,hB0,by omega⟩
  (fun k=>{ tmps:=#[.slice A n c, .int .u32 m,undef, .pointer (some ⟨w.heap.size,0,none⟩), .pointer (some ⟨w.heap.size+1,0,none⟩), .int .u32 0, .int .i64 0, .pointer (some ⟨w.heap.size+1+1+1,0,none⟩), .int .i64 (n - 1 - k:Nat), .int .u32 (lm l (n - 1 - k):Nat), .int .u32 m, .bool false, .slice A n c, .int .i64 n, .slice (some ⟨w.heap.size+1+1,0,none⟩) n n, .slice A n c, .func (.func 171) #[] #[.pointer (some ⟨w.heap.size+1+1+1+1,0,none⟩)], .int .i64 (n - 1 - k:Nat), .int .u32 (lm l (n - 1 - k):Nat),undef,undef,undef,undef,undef,undef,undef,undef,undef,undef,undef,undef,undef,undef,undef,undef,undef,undef,undef,undef,undef],defers:= [] }) ?_ ?_ ?_
 ·intro lp k W K hK
  gi_wp2
  exact hK
 ·rintro lp k W hk ⟨lq,o,ha,hlq,hltq,hq,hb,ho,hom,hv,hB,h5⟩
  obtain ⟨j,hj,hjn⟩: ∃j,n - 1 - k=j/\j<n/\n - k=j+1/\n - (k+1)=j:=⟨n - 1 - k,rfl,by omega,by omega,by omega⟩
  rw [hj]
  clear hj
  have hcq:=hq.cell;have hfq:=hq.frozen;have hcb:=hb.cell;have hco:=ho.cell;have hfo:=ho.frozen
  have x1:=qM ht j
  simp only [BB] at x1
  have hcj:=ha.cell (i:=j) oG
  have hfj:=ha.frozen j
  have hmix:prog.follows .mixedOrders=true:=by kernel_rfl
  have ho32:o<4294967296:=by omega
  obtain ⟨d,q,r,hd,hd1,hdq,hdr,hq32,hrm,hstep⟩:=zKo o (lm l j) m hm hm2 hom x1
  have HS:=hid (And.intro hstep hjn)
  have hj0:j<n:=hjn.1
  clear hstep hjn
  gi_wp2
  obtain ⟨W9,hW9⟩: ∃W9,W.setCell ⟨w.heap.size+1+1+1,0,none⟩ (.int .u64 (d:Int))=W9:=⟨_,rfl⟩
  have ho9:Boxed W9 (w.heap.size+1+1+1) 105 (.int .u64 d):=by rw [<-hW9];exact ho.set _
  have hq9:Boxed W9 (w.heap.size+1) 23 (.slice (some ⟨w.heap.size+1+1,0,none⟩) n n):=by rw [<-hW9];exact hq.other oG _
  have hb9:Boxed W9 w.heap.size 73 (.int .u32 m):=by rw [<-hW9];exact hb.other oG _
  have ha9:Arr W9 (w.heap.size+1+1) lq:=by rw [<-hW9];exact ha.far (by simp) _
  have hk9:KeepsOthers W W9:=by rw [<-hW9];exact fH _ _ _
  have hB9:Below w.heap.size W W9:=by rw [<-hW9];exact (eK _ _).setCell (p:=⟨w.heap.size+1+1+1,0,none⟩) (by simp;omega) _
  have hS9:y9 (fun b=>b<w.heap.size∨b=w.heap.size+1+1+1+1) W W9:=by rw [<-hW9];exact (y9.refl _ _).setCell (p:=⟨w.heap.size+1+1+1,0,none⟩) (by simp;omega) _
  rw [hW9]
  clear hW9 hcq hfq hcb hco hfo hcj hfj
  refine yH 13 (fun W=>W.cell? ⟨w.heap.size+1,0,none⟩=some (.slice (some ⟨w.heap.size+1+1,0,none⟩) n n)/\W.cell? ⟨w.heap.size+1+1+1,0,none⟩=some (.int .u64 d)/\W.cell? ⟨w.heap.size,0,none⟩=some (.int .u32 m)) hmix ?_
  have d1:W9.drew.cell? ⟨w.heap.size+1,0,none⟩=some (.slice (some ⟨w.heap.size+1+1,0,none⟩) n n):=hq9.cell
  have d2:W9.drew.cell? ⟨w.heap.size+1+1+1,0,none⟩=some (.int .u64 d):=ho9.cell
  have d3:W9.drew.cell? ⟨w.heap.size,0,none⟩=some (.int .u32 m):=hb9.cell
  have z1:W9.drew.cell? ⟨w.heap.size+1+1,j,none⟩=some (.int .u32 (lm lq j)):=ha9.cell oG
  have z2:W9.drew.frozen? ⟨w.heap.size+1+1,j,none⟩=false:=ha9.frozen j
  have g1:=IntWalk.u64_in (m:Int) oG
  have g2:=IntWalk.u64_in (q:Int) oG
  have g3:=IntWalk.u32_in (q:Int) oG
  have g4: ¬(m:Int)=0:=by omega
  have g6: ¬m=0:=by omega
  have g5:(q:Int) % 4294967296=(q:Int):=by omega
  have e2:=ho9.cell;have e3:=ho9.frozen
  have g7:(d:Int).tmod (m:Int)=(r:Int):=by rw [Int.tmod_eq_emod_of_nonneg (Int.natCast_nonneg d)];exact hdr
  have z3:W9.drew.frozen? ⟨w.heap.size+1+1+1,0,none⟩=false:=ho9.frozen
  refine zW (i:=0) (v:= ?vv1) kB kB rfl kB kB kB (fun _ _ _ h=>h) ⟨d1,d2,d3⟩ ⟨.inl ⟨rfl, ?yy1⟩,fun _=>rfl⟩ ?_
  case yy1=>
   rintro wx ⟨q1,q2,q3⟩
   go_simp
   first|done|rfl
  refine zW (i:=1) (v:= ?vv2) kB kB rfl kB kB kB (fun _ _ _ h=>h) ⟨d1,d2,d3⟩ ⟨.inl ⟨rfl, ?yy2⟩,fun _=>rfl⟩ ?_
  case yy2=>
   rintro wx ⟨q1,q2,q3⟩
   go_simp
   first|done|rfl
  refine zW (i:=2) (v:= ?vv3) kB kB rfl kB kB kB (fun _ _ _ h=>h) ⟨d1,d2,d3⟩ ⟨.inl ⟨rfl, ?yy3⟩,fun _=>rfl⟩ ?_
  case yy3=>
   rintro wx ⟨q1,q2,q3⟩
   go_simp
   first|done|rfl
  refine zW (i:=3) (v:= ?vv4) kB kB rfl kB kB kB (fun _ _ _ h=>h) ⟨d1,d2,d3⟩ ⟨.inl ⟨rfl, ?yy4⟩,fun _=>rfl⟩ ?_
  case yy4=>
   rintro wx ⟨q1,q2,q3⟩
   go_simp
   first|done|rfl
  refine zW (i:=4) (v:= ?vv5) kB kB rfl kB kB kB (fun _ _ _ h=>h) ⟨d1,d2,d3⟩ ⟨.inl ⟨rfl, ?yy5⟩,fun _=>rfl⟩ ?_
  case yy5=>
   rintro wx ⟨q1,q2,q3⟩
   go_simp
   first|done|rfl
  refine zW (i:=5) (v:= ?vv6) kB kB rfl kB kB kB (fun _ _ _ h=>h) ⟨d1,d2,d3⟩ ⟨.inl ⟨rfl, ?yy6⟩,fun _=>rfl⟩ ?_
  case yy6=>
   rintro wx ⟨q1,q2,q3⟩
   go_simp
   first|done|rfl
  refine zW (i:=6) (v:= ?vv7) kB kB rfl kB kB kB (fun _ _ _ h=>h) ⟨d1,d2,d3⟩ ⟨.inl ⟨rfl, ?yy7⟩,fun _=>rfl⟩ ?_
  case yy7=>
   rintro wx ⟨q1,q2,q3⟩
   go_simp
   first|done|rfl
  refine zW (i:=7) (v:= ?vv8) kB kB rfl kB kB kB (fun _ _ _ h=>h) ⟨d1,d2,d3⟩ ⟨.inl ⟨rfl, ?yy8⟩,fun _=>rfl⟩ ?_
  case yy8=>
   rintro wx ⟨q1,q2,q3⟩
   go_simp
   first|done|rfl
  refine zW (i:=8) (v:= ?vv9) kB kB rfl kB kB kB (fun _ _ _ h=>h) ⟨d1,d2,d3⟩ ⟨.inl ⟨rfl, ?yy9⟩,fun _=>rfl⟩ ?_
  case yy9=>
   rintro wx ⟨q1,q2,q3⟩
   go_simp
   first|done|rfl
  refine zW (i:=9) (v:= ?vv10) kB kB rfl kB kB kB (fun _ _ _ h=>h) ⟨d1,d2,d3⟩ ⟨.inl ⟨rfl, ?yy10⟩,fun _=>rfl⟩ ?_
  case yy10=>
   rintro wx ⟨q1,q2,q3⟩
   go_simp
   first|done|rfl
  refine zW (i:=10) (v:= ?vv11) kB kB rfl kB kB kB (fun _ _ _ h=>h) ⟨d1,d2,d3⟩ ⟨.inl ⟨rfl, ?yy11⟩,fun _=>rfl⟩ ?_
  case yy11=>
   rintro wx ⟨q1,q2,q3⟩
   go_simp
   first|done|rfl
  refine zW (i:=11) (v:= ?vv12) kB kB rfl kB kB kB (fun _ _ _ h=>h) ⟨d1,d2,d3⟩ ⟨.inl ⟨rfl, ?yy12⟩,fun _=>rfl⟩ ?_
  case yy12=>
   rintro wx ⟨q1,q2,q3⟩
   go_simp
   first|done|rfl
  refine zAx (i:=12) kB rfl (fun K hK=> ?_)
  go_simp
  refine hK _ _ (.inr ?_) ?_
  ·exact ⟨(fN _ _ _ _ (by simp)).trans d1,(fN _ _ _ _ (by simp)).trans d2,(fN _ _ _ _ (by simp)).trans d3⟩
  clear hK K
  refine zAx (i:=13) kB rfl (fun K hK=> ?_)
  go_simp
  refine hK _ _ (.inl rfl) ?_
  clear hK K
  refine zCj kB ?_
  clear g1 g2 g3 g4 g5 g6 g7
  gi_wp2
  have hno:w.heap.size+1+1≠w.heap.size+1+1+1:=by omega
  have haF:=(ha9.set j q).far (p:=⟨w.heap.size+1+1+1,0,none⟩) hno (.int .u64 r)
  have hqF:=(hq9.other (B':=w.heap.size+1+1) oG (.int .u32 q))
  have hkF:KeepsOthers W (((W9.setCell ⟨w.heap.size+1+1,j,none⟩ (.int .u32 (q:Int))).setCell ⟨w.heap.size+1+1+1,0,none⟩ (.int .u64 (r:Int))).drew):=(hk9.trans (fH _ _ _)).trans ((fH _ _ _).trans (KeepsOthers.drew _))
  refine ⟨hkF.from _,(((hS9.setCell (p:=⟨w.heap.size+1+1,j,none⟩) (by simp;omega) _).setCell (p:=⟨w.heap.size+1+1+1,0,none⟩) (by simp;omega) _).drew),lq.set j q,r,haF,by rw [eR];exact hlq,zCK hltq hq32, ?_, ?_, ?_,hrm, ?_,(((hB.trans hB9).setCell (p:=⟨w.heap.size+1+1,j,none⟩) (by simp;omega) _).setCell (p:=⟨w.heap.size+1+1+1,0,none⟩) (by simp;omega) _).drew,eO h5 hkF.size⟩
  ·exact zAF (zAF hq9 (p:=⟨w.heap.size+1+1,j,none⟩) (by simp) _) (p:=⟨w.heap.size+1+1+1,0,none⟩) (by simp) _
  ·exact zAF (zAF hb9 (p:=⟨w.heap.size+1+1,j,none⟩) (by simp;omega) _) (p:=⟨w.heap.size+1+1+1,0,none⟩) (by simp;omega) _
  ·exact (zAF ho9 (p:=⟨w.heap.size+1+1,j,none⟩) (by simp) _).set _
  ·obtain ⟨hst,_,e1,e2⟩:=HS.out
   rw [e2]
   rw [e1] at hv
   have v1:=zBm (l:=l) (k:=j) (by rw [h.len];omega)
   have v2:=zBm (l:=lq.set j q) (k:=j) (by rw [eR];omega)
   have hds:(lq.set j q).drop (j+1)=lq.drop (j+1):=List.drop_set_of_lt oG
   rw [zAU oG,if_pos rfl,hds] at v2
   rw [v1,v2,hv,eN,eN,Nat.mul_left_comm m BB]
   simp only [BB]
   omega
 ·rintro D W hD ⟨lq,o,ha,hlq,hltq,hq,hb,ho,hom,hv,hB,h5⟩ _ hd
  have hmix:prog.follows .mixedOrders=true:=by kernel_rfl
  go_wp2_with fail
  refine (fK (n:=0)).1 ?_
  refine yH 100 (fun W=>W.cell? ⟨w.heap.size+1+1+1,0,none⟩=some (.int .u64 o)) hmix ?_
  have d1:W.drew.cell? ⟨w.heap.size+1+1+1,0,none⟩=some (.int .u64 o):=ho.cell
  have hcq:=hq.cell;have hfq:=hq.frozen
  have g1:(o:Int) % 4294967296=(o:Int):=by omega
  have g2:=IntWalk.u32_in (o:Int) oG
  refine zW (i:=2) (v:= ?vv13) kB kB rfl kB kB kB (fun _ _ _ h=>h) d1 ⟨.inl ⟨rfl, ?yy13⟩,fun _=>rfl⟩ ?_
  case yy13=>
   rintro wx q1
   go_simp
   first|done|rfl
  refine zW (i:=3) (v:= ?vv14) kB kB rfl kB kB kB (fun _ _ _ h=>h) d1 ⟨.inl ⟨rfl, ?yy14⟩,fun _=>rfl⟩ ?_
  case yy14=>
   rintro wx q1
   go_simp
   first|done|rfl
  refine zAx (i:=0) kB rfl (fun K hK=> ?_)
  go_simp
  refine hK _ _ (.inr d1) ?_
  clear hK K
  refine zAx (i:=1) kB rfl (fun K hK=> ?_)
  go_simp
  have hrA:=(ha.rd hlq oG).drew
  refine eP (eQ.2 (qY _ n n lq W.drew hrA hltq hn)) ?_
  rintro e w2 ⟨A2,n2,c2,l2,rfl,hi2,hr2,hb2⟩
  have hq2:Boxed w2 (w.heap.size+1) 23 (.slice (some ⟨w.heap.size+1+1,0,none⟩) n n):=(hb2.block _ hq.lt).trans hq
  have ho2:Boxed w2 (w.heap.size+1+1+1) 105 (.int .u64 o):=(hb2.block _ ho.lt).trans ho
  have hc2:=hq2.cell;have hf2:=hq2.frozen
  refine hK _ _ (.inr ho2.cell) ?_
  clear hK K
  refine zAx (i:=4) kB rfl (fun K hK=> ?_)
  go_simp
  refine hK _ _ (.inr ((ho2.other oG _).cell)) ?_
  clear hK K
  refine zAx (i:=5) kB rfl (fun K hK=> ?_)
  go_simp
  refine hK _ _ (.inr ((ho2.other oG _).cell)) ?_
  clear hK K
  refine zAx (i:=6) kB rfl (fun K hK=> ?_)
  go_simp
  refine hK _ _ (.inr ((ho2.other oG _).cell)) ?_
  clear hK K
  refine zCj kB ?_
  go_wp2
  have hw3:Boxed (w2.setCell ⟨w.heap.size+1,0,none⟩ (.slice A2 n2 c2)) (w.heap.size+1) 23 (.slice A2 n2 c2):=hq2.set _
  have hM:Marks (w.heap.size) (w2.setCell ⟨w.heap.size+1,0,none⟩ (.slice A2 n2 c2)) [mark D] [D]:=(((Marks.nil w.heap.size W).more (D:=D) (by simp) oG hd).made ((eK _ W).drew.trans hb2)).others (fH _ _ _)
  have hb3:Below w.heap.size w (w2.setCell ⟨w.heap.size+1,0,none⟩ (.slice A2 n2 c2)):=(hB.trans (((eK _ W).drew.trans hb2).mono hB.size)).setCell (p:=⟨w.heap.size+1,0,none⟩) (by simp) _
  have hr3:Rd (w2.setCell ⟨w.heap.size+1,0,none⟩ (.slice A2 n2 c2)) A2 n2 c2 l2:=hr2.setBox hq2 (fun _=>by simp) _
  have h6:val l=m*val lq+o:=by
   rw [Nat.sub_self,List.drop_zero,List.drop_zero] at hv
   exact hv
  have h7:val l / m=val lq:=by rw [h6,Nat.mul_add_div hm,Nat.div_eq_of_lt hom];rfl
  have h8:val l % m=o:=by rw [h6,Nat.mul_add_mod,Nat.mod_eq_of_lt hom]
  rw [<-h7] at hi2
  refine qJ _ (v:= .tuple #[.slice A2 n2 c2, .int .u32 o, .int .i64 0]) (fun w' ho'=> ?_) [D] _ _ hM (Oth.refl _ _) ?_
  ·have hc4:=(Boxed.oth hw3 ho').cell
   simp [results,go_sem,hc4]
  ·intro w' ho
   exact ⟨A2,n2,c2,l2,by rw [h8],hi2,hr3.oth ho,zAl hb3 ho (eJ _)⟩
end Go.Proofs.Wd

namespace Go.Proofs.Wd
open Tryz
set_option maxRecDepth 100000
set_option maxHeartbeats 1000000
open Go.RowKit Lb
attribute [local go_sem] Oper.semAt_some qF yI
theorem zNF {l:List Nat} (h:l.length=1):val l=lm l 0:=by
 unfold val
 rw [h]
 simp [sm]
theorem zOH {l:List Nat} {v n:Nat} (hi:Is l v) (hl:l.length=n) (h0:0<v) (h1:v<BB):n=1:=by
 have e1:=hi.zero_iff
 have e2:=hi.len (k:=1) (by rwa [Nat.pow_one])
 omega
def zH2 (w:WQ) (a b:Nat):Ending->WQ->Prop:=fun e w'=> ∃A1 n1 c1 l1 A2 n2 c2 l2,e= .returned (.tuple #[.slice A1 n1 c1, .slice A2 n2 c2, .int .i64 0])/\Is l1 (a / b)/\Rd w' A1 n1 c1 l1/\Is l2 (a % b)/\Rd w' A2 n2 c2 l2/\Below w.heap.size w w'
def zVi (a b:Nat):Prop:= ∀(A:WS Addr) (n c:Nat) (l:List Nat) (A':WS Addr) (n' c':Nat) (l':List Nat) (w:WQ),Rd w A n c l->Lt l->Rd w A' n' c' l'->Lt l'->val l=a->val l'=b->n<=2000->n'<=2000->
 Calls prog 135 #[.slice A n c, .slice A' n' c'] w (zH2 w a b)
theorem zHs (A:WS Addr) (n c:Nat) (l:List Nat) (A':WS Addr) (n' c':Nat) (l':List Nat) (w:WQ) (h:Rd w A n c l) (ht:Lt l) (h':Rd w A' n' c' l') (ht':Lt l') (hn:n<=2000) (hn':n'<=2000) (hlt:val l<val l'):
  Calls prog 135 #[.slice A n c, .slice A' n' c'] w (zH2 w (val l) (val l')):=by
 have hcmp:decide (zAy (val l) (val l')<0)=true:=by
  unfold zAy
  rw [if_pos oG]
  rfl
 refine q6 func135 rfl ?_
 simp only [ntmps135,eV,eX,eY,Nat.reduceAdd,Nat.reduceSub,eZ,fC,fD,fE,fF,fG]
 have hb0:=(eK _ w).alloc (eJ _) (.cells #[.slice none 0 0] 23)
 have hx0:=Boxed.new w 23 (.slice none 0 0)
 go_wp2_with (first|(go_at_call 90;first|((with_reducible refine (qY A n c l _ (h.below hb0) ht oG).mono ?_);rintro e w2 ⟨A2,n2,c2,l2,rfl,hi2,hr2,hb2⟩;have hb3:=hb0.trans (hb2.mono hb0.size);have hx2:=(hb2.block _ hx0.lt).trans hx0)|((with_reducible refine (qY A' n' c' l' _ (h'.below hb3) ht' oG).mono ?_);rintro e w3 ⟨A3,n3,c3,l3,rfl,hi3,hr3,hb4⟩;have hb5:=hb3.trans (hb4.mono hb3.size);have hx3:Boxed w3 w.heap.size 23 (.slice none 0 0):=(hb4.block _ (Boxed.lt hx2)).trans hx2;have hcx:=hx3.cell;have hfx:=hx3.frozen;have hn3: ¬n3=0:=fun e=>by have:=hi3.zero_iff;rw [hr3.len,e] at this;omega))|(go_at_call 149;refine (zFo A2 n2 c2 l2 A3 n3 c3 l3 _ (hr2.below hb4) hr3 hi2.lt hi3.lt).mono ?_;rw [hi2.val,hi3.val];rintro e w4 ⟨rfl,rfl⟩))
 have hx4:Boxed (w3.setCell ⟨w.heap.size,0,none⟩ (.slice none 0 0)) w.heap.size 23 (.slice none 0 0):=hx3.set _
 have hM:=Marks.nil w.heap.size (w3.setCell ⟨w.heap.size,0,none⟩ (.slice none 0 0))
 refine qJ (B:=w.heap.size) (w3.setCell ⟨w.heap.size,0,none⟩ (.slice none 0 0)) (v:= .tuple #[.slice none 0 0, .slice A2 n2 c2, .int .i64 0]) (fun w' ho'=> ?_) [] _ _ hM (Oth.refl _ _) ?_
 ·have hc4:=(Boxed.oth hx4 ho').cell
  simp [results,go_sem,hc4]
 ·intro w' ho
  have hr4:=(hr2.below hb4).setBox hx3 (fun _=>by simp) (.slice none 0 0)
  exact ⟨none,0,0, [],A2,n2,c2,l2,rfl,by rw [Nat.div_eq_of_lt hlt];exact Is.nil,wL _,by rw [Nat.mod_eq_of_lt hlt];exact hi2,hr4.oth ho,zAl (hb5.setCell (p:=⟨w.heap.size,0,none⟩) (eJ _) _) ho (eJ _)⟩
theorem zOq (A:WS Addr) (n c:Nat) (l:List Nat) (A':WS Addr) (n' c':Nat) (l':List Nat) (w:WQ) (h:Rd w A n c l) (ht:Lt l) (h':Rd w A' n' c' l') (ht':Lt l') (hn:n<=2000) (hn':n'<=2000) (hge:val l'<=val l) (h0:0<val l') (h1:val l'<BB):
  Calls prog 135 #[.slice A n c, .slice A' n' c'] w (zH2 w (val l) (val l')):=by
 have hcmp:decide (zAy (val l) (val l')<0)=false:=by
  unfold zAy
  rw [if_neg oG]
  split<;>simp
 have hm1:val l'<4294967296:=h1
 refine q6 func135 rfl ?_
 simp only [ntmps135,eV,eX,eY,Nat.reduceAdd,Nat.reduceSub,eZ,fC,fD,fE,fF,fG]
 have hb0:=(eK _ w).alloc (eJ _) (.cells #[.slice none 0 0] 23)
 have hx0:=Boxed.new w 23 (.slice none 0 0)
 go_wp2_with (first|(go_at_call 90;first|((with_reducible refine (qY A n c l _ (h.below hb0) ht oG).mono ?_);rintro e w2 ⟨A2,n2,c2,l2,rfl,hi2,hr2,hb2⟩;have hb3:=hb0.trans (hb2.mono hb0.size);have hx2:=(hb2.block _ hx0.lt).trans hx0)|go_must ((with_reducible refine (qY A' n' c' l' _ (h'.below hb3) ht' oG).mono ?_);rintro e w3 ⟨A3,n3,c3,l3,rfl,hi3,hr3,hb4⟩;have hb5:=hb3.trans (hb4.mono hb3.size);have hx3:Boxed w3 w.heap.size 23 (.slice none 0 0):=(hb4.block _ (Boxed.lt hx2)).trans hx2;have hcx:=hx3.cell;have hfx:=hx3.frozen;obtain rfl:n3=1:=zOH hi3 hr3.len h0 h1;have hr3':=hr3;obtain ⟨b3,o3,rfl,_,hcb⟩:=hr3.shape oG;have hle3:=hr3.le;have hcap3:=hr3.cap;have hcb0:=hcb 0 oG;have hlm:lm l3 0=val l':=((zNF hr3.len).symm.trans hi3.val);rw [hlm,Nat.add_zero] at hcb0;have hn2:n2<=2000:=eO (Nat.le_of_eq hr2.len.symm) (eO (hi2.len (qT ht)) (by rw [h.len];exact hn))))|(go_at_call 149;refine (zFo A2 n2 c2 l2 _ 1 c3 l3 _ (hr2.below hb4) hr3 hi2.lt hi3.lt).mono ?_;rw [hi2.val,hi3.val];rintro e w4 ⟨rfl,rfl⟩)|(go_at_call 150;refine (zLn A2 n2 c2 l2 (val l') _ (hr2.below hb4) hi2.lt h0 hm1 oG).mono ?_;rw [hi2.val];rintro e w5 ⟨A5,n5,c5,l5,rfl,hi5,hr5,hb6⟩;have hb7:=hb5.trans (hb6.mono hb5.size);have hmod:val l % val l'<4294967296:=Nat.lt_trans (Nat.mod_lt _ h0) hm1)|(go_at_call 98;refine (zJG (val l % val l') oG _).mono ?_;rintro e w6 ⟨A6,n6,c6,l6,rfl,hi6,hr6,hb8⟩;have hb9:=hb7.trans (hb8.mono hb7.size);have hx6:Boxed w6 w.heap.size 23 (.slice none 0 0):=(hb8.block _ (fO hx3.lt hb6.size)).trans ((hb6.block _ hx3.lt).trans hx3);have hcx6:=hx6.cell;have hfx6:=hx6.frozen))
 have hx7:Boxed (w6.setCell ⟨w.heap.size,0,none⟩ (.slice A5 n5 c5)) w.heap.size 23 (.slice A5 n5 c5):=hx6.set _
 refine qJ (B:=w.heap.size) (w6.setCell ⟨w.heap.size,0,none⟩ (.slice A5 n5 c5)) (v:= .tuple #[.slice A5 n5 c5, .slice A6 n6 c6, .int .i64 0]) (fun w' ho'=> ?_) [] _ _ (Marks.nil _ _) (Oth.refl _ _) ?_
 ·have hc4:=(Boxed.oth hx7 ho').cell
  simp [results,go_sem,hc4]
 ·intro w' ho
  exact ⟨A5,n5,c5,l5,A6,n6,c6,l6,rfl,hi5,((hr5.below hb8).setBox hx6 (fun _=>by simp) _).oth ho,hi6,(hr6.setBox hx6 (fun _=>by simp) _).oth ho,zAl (hb9.setCell (p:=⟨w.heap.size,0,none⟩) (eJ _) _) ho (eJ _)⟩
theorem zKx (a b:Nat) (h0:0<b) (h1:b<BB):zVi a b:=by
 intro A n c l A' n' c' l' w h ht h' ht' ha hb hn hn'
 subst ha
 subst hb
 by_cases hlt:val l<val l'
 ·exact zHs A n c l A' n' c' l' w h ht h' ht' hn hn' hlt
 ·exact zOq A n c l A' n' c' l' w h ht h' ht' hn hn' oG h0 h1
end Go.Proofs.Wd

namespace Go.Proofs.Wd
open Tryz
set_option maxHeartbeats 1000000
open Go.RowKit Lb
theorem zK7 (l:List Nat) (p k:Nat) (h:p+k<=l.length):val l=sm (lm l) p+BB^p*win l p k+BB^(p+k)*val (l.drop (p+k)):=by
 rw [jY l (p+k) h,zF1 h,zI8]
 rfl
theorem zNC {l l':List Nat} {p k:Nat} (hl:l'.length=l.length) (h:p+k<=l.length) (ho: ∀x,x<p∨p+k<=x->lm l' x=lm l x):val l'+BB^p*win l p k=val l+BB^p*win l' p k:=by
 rw [zK7 l p k h,zK7 l' p k oG]
 have e1:sm (lm l') p=sm (lm l) p:=zAJ fun i hi=>ho i (.inl hi)
 have e2:val (l'.drop (p+k))=val (l.drop (p+k)):=by
  unfold val
  rw [List.length_drop,List.length_drop,hl]
  exact zAJ fun i _=>by rw [zDf,zDf];exact ho _ (.inr oG)
 rw [e1,e2]
 omega
theorem zJI {so sn a sb x o old z o' P:Nat} (h:sn+o*P=so+a*sb) (hz:a*x+old+o=z+o'*4294967296):sn+z*P+o'*(P*4294967296)=so+old*P+a*(sb+x*P):=by
 have e1:a*x*P+old*P+o*P=z*P+o'*4294967296*P:=by rw [<-eS, <-eS,hz,eS]
 have e2:o'*(P*4294967296)=o'*4294967296*P:=by rw [Nat.mul_comm P, <-fP]
 have e3:a*(sb+x*P)=a*sb+a*x*P:=by rw [eN, <-fP]
 rw [e2,e3]
 omega
theorem zJH (a x old o:Nat) (ha:a<4294967296) (hx:x<4294967296) (hold:old<4294967296) (ho:o<4294967296):
  ∃p s z o':Nat,a*x=p/\p<18446744073709551616/\p+old<18446744073709551616/\p+old+o=s/\s<18446744073709551616/\(s:Int) % 4294967296=(z:Int)/\(s:Int) / 4294967296=(o':Int)/\z<4294967296/\o'<4294967296/\a*x+old+o=z+o'*4294967296:=by
 have h1:a*x<=4294967295*4294967295:=Nat.mul_le_mul oG oG
 exact ⟨a*x,a*x+old+o,(a*x+old+o) % 4294967296,(a*x+old+o) / 4294967296,rfl,by omega,by omega,rfl,by omega,by omega,by omega,by omega,by omega,by omega⟩
def zTT (w:WQ) (Q N i a:Nat) (lo lb:List Nat) (nb:Nat) (ov ix:WR) (W:WQ):Prop:=
 ∃(k o:Nat) (l':List Nat),k<=nb/\ix= .int .i64 k/\ov= .int .u64 o/\o<4294967296/\Arr W Q l'/\l'.length=N/\Lt l'/\(∀x,x<i∨i+k<=x->lm l' x=lm lo x)/\
  win l' i k+o*BB^k=win lo i k+a*sm (lm lb) k/\Below w.heap.size w W
def zTK (w:WQ) (Q N:Nat) (la lb:List Nat) (na nb:Nat) (ix:WR) (W:WQ):Prop:=
 ∃(i:Nat) (lo:List Nat),i<=na/\ix= .int .i64 i/\Arr W Q lo/\lo.length=N/\Lt lo/\(∀x,i+nb<=x->lm lo x=0)/\val lo=sm (lm la) i*val lb/\Below w.heap.size w W
theorem zHv {lo l' lb:List Nat} {i nb N a o sa:Nat} (hlo:lo.length=N) (hl':l'.length=N) (hN:i+nb<N) (ho: ∀x,x<i∨i+nb<=x->lm l' x=lm lo x) (hz: ∀x,i+nb<=x->lm lo x=0) (hb:lb.length=nb)
  (hw:win l' i nb+o*BB^nb=win lo i nb+a*sm (lm lb) nb) (hv:val lo=sa*val lb):val (l'.set (i+nb) o)=(sa+a*BB^i)*val lb:=by
 have hd:=zNC (l:=lo) (l':=l'.set (i+nb) o) (p:=i) (k:=nb+1) (by rw [eR,hl',hlo]) oG (fun x hx=>by
  rw [zAU oG,if_neg oG]
  exact ho x oG)
 have e1:win (l'.set (i+nb) o) i (nb+1)=win l' i nb+o*BB^nb:=by
  rw [zAG,zEQ,zAU oG,if_pos rfl]
 have e2:win lo i (nb+1)=win lo i nb:=by rw [zAG,hz _ (eJ _),Nat.zero_mul,Nat.add_zero]
 have e3:sm (lm lb) nb=val lb:=by unfold val;rw [hb]
 rw [e1,e2,hw,e3,eN] at hd
 rw [eS, <-hv]
 have e4:a*BB^i*val lb=BB^i*(a*val lb):=by rw [Nat.mul_comm a,fP]
 omega
theorem zJn (A:WS Addr) (n c:Nat) (l:List Nat) (A':WS Addr) (n' c':Nat) (l':List Nat) (w:WQ) (h:Rd w A n c l) (h':Rd w A' n' c' l') (ht:Lt l) (ht':Lt l') (hn:n<=100000) (hn':n'<=100000):
  Calls prog 33 #[.slice A n c, .slice A' n' c'] w (jH w (val l*val l')):=by
 have hle:=h.le;have hcap:=h.cap;have hle':=h'.le;have hcap':=h'.cap
 have HN:=hid h.len;have HN':=hid h'.len
 have hmk: ∀wx:WQ,(Instr.makeSlice 23 (.int .i64 ((n:Int)+(n':Int))) (.int .i64 ((n:Int)+(n':Int)))).run prog wx= .ok (.slice (some ⟨wx.heap.size,0,none⟩) (n+n') (n+n')) (wx.alloc (.cells (madeCells #[.int .u32 0] (n+n')) 73)):=fun wx=>zA7 (n+n') oG wx
 go_enter func33,ntmps33
 go_wp2
 go_loopw [6] (zTK w w.heap.size (n+n') l l' n n') (fun i _=>n - (intOf i).toNat)
 case atStart=>exact ⟨0,List.replicate (n+n') 0,eT _,rfl,Arr.new w _,by simp,jX _,fun x _=>by unfold lm;rw [List.getElem?_replicate];split<;>rfl,by rw [zAp];simp [sm],(eK _ w).alloc (eJ _) _⟩
 case round=>
  obtain ⟨i,lo,hi,rfl,ha,hlo,hlt,hz,hv,hB⟩:=hrel
  have HV:=hid hv
  have HZ:=hid hz
  clear hv hz
  have hr:=h.below hB;have hr':=h'.below hB
  by_cases hin:i<n
  ·obtain ⟨b,o,rfl,hcb⟩:=h.cells i hin
   have x1:=qM ht i
   simp only [BB] at x1
   obtain ⟨ai,hai⟩: ∃a,lm l i=a:=⟨_,rfl⟩
   rw [hai] at x1 hcb
   have HAI:=hid hai
   clear hai
   rename WQ=>wo
   go_wp2
   go_loopw [7,8] (zTT w w.heap.size (n+n') i ai lo l' n') (fun _ k _=>n' - (intOf k).toNat)
   case atStart=>exact ⟨0,0,lo,eT _,rfl,rfl,by omega,ha,hlo,hlt,fun _ _=>rfl,by simp [win,sm],hB⟩
   case round=>
    obtain ⟨k,ov,l2,hk,rfl,rfl,hov,ha2,hl2,hlt2,hout,heq,hB2⟩:=hrel
    have HQ:=hid heq
    have HO:=hid hout
    clear heq hout
    have hbr:w.heap.size<=wr.heap.size:=hB2.size
    have hca:wr.cell? ⟨b,o+i,none⟩=some (.int .u32 (ai:Int)):=(hB2.cell (p:=⟨b,o+i,none⟩) (z7 hcb)).trans hcb
    by_cases hkn:k<n'
    ·obtain ⟨b',o',rfl,hcb'⟩:=(h'.below hB2).cells k hkn
     have x2:=qM ht' k
     simp only [BB] at x2
     obtain ⟨bk,hbk⟩: ∃a,lm l' k=a:=⟨_,rfl⟩
     rw [hbk] at x2 hcb'
     have gr:=ha2.cell (i:=i+k) oG
     have gf:=ha2.frozen (i+k)
     have hold1:lm l2 (i+k)=lm lo (i+k):=HO.out _ (.inr (eJ _))
     have x3:=qM hlt2 (i+k)
     simp only [BB] at x3
     obtain ⟨old,hold⟩: ∃a,lm l2 (i+k)=a:=⟨_,rfl⟩
     rw [hold] at gr x3 hold1
     obtain ⟨p,s,z,u,hp,hp2,hp3,hs,hs2,hz1,hu1,hz2,hu2,hm⟩:=zJH ai bk old ov x1 x2 x3 hov
     have hmi:(ai:Int)*(bk:Int)=(p:Int):=by rw [<-hp,fQ]
     have hsi:(p:Int)+(old:Int)+(ov:Int)=(s:Int):=by omega
     have HB1:=hid hbk;have HOL:=hid hold1;have HM:=hid hm
     clear hbk hold hold1 hm hp hs
     have hend: ∀nq:Nat,zTT w w.heap.size (n+n') i ai lo l' n' (.int .u64 (u:Int)) (.int .i64 ((k:Int)+1)) ((wr.drewN nq).setCell ⟨w.heap.size,i+k,none⟩ (.int .u32 (z:Int))):=by
      intro nq
      have ha3:Arr (wr.drewN nq) w.heap.size l2:=ha2.kept rfl
      refine ⟨k+1,u,l2.set (i+k) z,by omega,by go_num,rfl,hu2,ha3.set _ _,by rw [eR];exact hl2,zCK hlt2 hz2,fun y hy=> ?_, ?_,(Below.setCell (show Below w.heap.size w (wr.drewN nq) from ⟨hB2.os,hB2.tape,hB2.output,hB2.size,hB2.block⟩) (p:=⟨w.heap.size,i+k,none⟩) (eJ _) _)⟩
      ·rw [zAU oG,if_neg oG]
       exact HO.out y oG
      ·have e1:lm (l2.set (i+k) z) (i+k)=z:=by rw [zAU oG,if_pos rfl]
       rw [zAG,zAG,zEQ,e1, <-HOL.out,fL]
       show _+_*(BB^k*4294967296)=_+ai*(sm (lm l') k+lm l' k*BB^k)
       rw [HB1.out]
       exact zJI HQ.out HM.out
     have HE:=hid hend
     clear hend
     go_wp2
     go_quiet (fail)
     go_wp2
     go_roundw
     case rel=>exact HE.out _
     case measure=>simp [intOf];omega
    ·obtain rfl:k=n':=by omega
     have gf:=ha2.frozen (i+k)
     have gr:=ha2.cell (i:=i+k) oG
     have ho32:(ov:Int) % 4294967296=(ov:Int):=by omega
     have hend:zTK w w.heap.size (n+k) l l' n k (.int .i64 ((i:Int)+1)) (wr.setCell ⟨w.heap.size,i+k,none⟩ (.int .u32 (ov:Int))):=by
      refine ⟨i+1,l2.set (i+k) ov,by omega,by go_num,ha2.set _ _,by rw [eR];exact hl2,zCK hlt2 hov,fun x hx=> ?_, ?_,hB2.setCell (p:=⟨w.heap.size,i+k,none⟩) (eJ _) _⟩
      ·rw [zAU oG,if_neg oG,HO.out x oG]
       exact HZ.out x oG
      ·show _=(sm (lm l) i+lm l i*BB^i)*val l'
       rw [HAI.out]
       exact zHv hlo hl2 oG HO.out HZ.out HN'.out HQ.out HV.out
     have HE:=hid hend
     clear hend
     go_wp2
     go_roundw
     case rel=>exact HE.out
     case measure=>simp [intOf];omega
  ·obtain rfl:i=n:=by omega
   have hfin:val lo=val l*val l':=by
    rw [HV.out]
    have:sm (lm l) i=val l:=by have:=HN.out;unfold val;rw [this]
    rw [this]
   have htr:=jL (some ⟨w.heap.size,0,none⟩) (i+n') (i+n') lo wr (ha.rd hlo oG) hlt oG
   rw [hfin] at htr
   clear hfin
   go_wp2_with (go_at_call 54;refine htr.mono ?_;rintro e w2 ⟨A2,n2,c2,l2,rfl,hi2,hr2,hb2⟩)
   go_ret
   exact ⟨A2,n2,c2,l2,rfl,hi2,hr2,hB.trans (hb2.mono hB.size)⟩
end Go.Proofs.Wd

namespace Go.Proofs.Wd
open Tryz
set_option maxRecDepth 100000
set_option maxHeartbeats 1000000
open Go.RowKit Lb
attribute [local go_sem] Oper.semAt_some qF yI
def cnt (l:List Nat):Nat->Nat
 |0=>0
 |j+1=>cnt l j+if lm l j=0 then 0 else 1
theorem zDV {l:List Nat} {i:Nat}: ∀{j:Nat},i<=j->cnt l i<=cnt l j
  | 0, h => by obtain rfl:i=0:=by omega
               exact eJ _
  | j+1,h=>by
    rcases (by omega:i<=j∨i=j+1) with e|rfl
    . exact eO (zDV e) (Nat.le_add_right _ _)
    . exact eJ _
theorem zPf {l:List Nat} {j:Nat} (h:lm l j=0):cnt l (j+1)=cnt l j:=by
 show cnt l j+(if lm l j=0 then 0 else 1)=_
 rw [if_pos h,Nat.add_zero]
theorem zFn {l:List Nat} {j:Nat} (h:lm l j≠0):cnt l (j+1)=cnt l j+1:=by
 show cnt l j+(if lm l j=0 then 0 else 1)=_
 rw [if_neg h]
theorem zNc {l:List Nat} {i j x:Nat} (h:cnt l i=cnt l j) (h1:i<=x) (h2:x<j):lm l x=0:=by
 rcases Nat.eq_zero_or_pos (lm l x) with e|e
 ·exact e
 ·exfalso
  have g1:=zDV (l:=l) h1
  have g2:=zFn (l:=l) (j:=x) oG
  have g3:=zDV (l:=l) (i:=x+1) (j:=j) h2
  omega
theorem zJ0 {l:List Nat} {i j:Nat} (h:cnt l i=cnt l j):sm (lm l) i=sm (lm l) j:=by
 rcases Nat.le_total i j with e|e
 ·exact (zC2 e fun x h1 h2=>zNc h h1 h2).symm
 ·exact zC2 e fun x h1 h2=>zNc h.symm h1 h2
def zU6 (l:List Nat) (n k:Nat) (xs:Array WR) (_W:WQ):Prop:= ∃p:Nat,xs=#[.int .i64 (p:Int), .int .u64 (lm l p:Nat)]/\p<n/\lm l p≠0/\cnt l p=k
theorem zKz (A:WS Addr) (n c:Nat) (w:WQ):
  Calls prog 138 #[.slice A n c] w fun e w'=>e= .returned (.func (.func 155) #[] #[.pointer (some ⟨w.heap.size,0,none⟩)])/\w.alloc (.cells #[.slice A n c] 23)=w':=by
 go_enter func138,ntmps138
 go_wp2
 go_ret
 exact ⟨rfl,rfl⟩
theorem zHw (A:WS Addr) (n c:Nat) (l:List Nat) (b1:Nat) (w0:WQ) (h:Rd w0 A n c l) (ht:Lt l) (hc1:w0.cell? ⟨b1,0,none⟩=some (.slice A n c)) {S:Nat->Prop} (hS: ∀b,S b->b<w0.heap.size) (hSA: ∀b o,0<n->A=some ⟨b,o,none⟩->S b):
  zPn prog 155 #[.pointer (some ⟨b1,0,none⟩)] (zU6 l n) (cnt l n) (y9 S) Mk (fun _=>True) w0:=by
 intro lp J W hW hJ hY h0
 have hle:=h.le;have hcap:=h.cap
 have hw1:=(hW.cell (p:=⟨b1,0,none⟩) (z7 hc1)).trans hc1
 refine zBL func155 rfl ?_
 simp only [ntmps155,eV,eX,eY,Nat.reduceAdd,Nat.reduceSub,eZ,fC,fD,fE,fF,fG]
 gi_wp2
 gi_loopw [7] (fun i wr=> ∃j:Nat,j<=n/\i= .int .i64 j/\J (cnt l j) wr/\y9 S w0 wr) (fun i _=>n - (intOf i).toNat)
 case atStart=>exact ⟨0,eT _,rfl,h0,wQ hW hS⟩
 case round=>
  obtain ⟨j,hj,rfl,hJ1,hb⟩:=hrel
  by_cases hjn:j<n
  ·obtain ⟨b,o,rfl,hc⟩:=(h.keepS hb hSA).cells j hjn
   have x1:=qM ht j
   simp only [BB] at x1
   by_cases hz:lm l j=0
   ·have hJ2:J (cnt l (j+1)) wr:=by rw [zPf hz];exact hJ1
    rw [hz] at hc
    clear hz
    gi_wp2
    go_roundw
    case rel=>exact ⟨j+1,by omega,by go_num,hJ2,hb⟩
    case measure=>simp [intOf];omega
   ·have hcl:cnt l j<cnt l n:=by
     have g1:=zFn (l:=l) (j:=j) hz
     have g2:=zDV (l:=l) (i:=j+1) (j:=n) hjn
     omega
    obtain ⟨fn,tmps,assign,body,hy,hR⟩:=hY (cnt l j) wr _ hcl hJ1 ⟨j,rfl,hjn,hz,rfl⟩
    rw [<-zFn hz] at hR
    obtain ⟨x,hx⟩: ∃x,lm l j=x:=⟨_,rfl⟩
    rw [hx] at hc hy x1 hz
    have hxb:((x:Int) !=0)=true:=by simp only [bne_iff_ne,ne_eq];omega
    clear hx hcl hz
    gi_wp2
    refine hR.mono ?_
    rintro e W3 ⟨rfl,hJ3,hk3⟩
    clear hy
    gi_wp2
    go_roundw
    case rel=>exact ⟨j+1,by omega,by go_num,hJ3,hb.trans hk3⟩
    case measure=>simp [intOf];omega
  ·obtain rfl:j=n:=by omega
   gi_wp2
   go_end0
   exact ⟨⟨_,rfl⟩,hJ1,trivial⟩
theorem zMb (A:WS Addr) (n c:Nat) (A':WS Addr) (n' c':Nat) (w:WQ) (v:Nat) (hs:Calls prog 137 #[.slice A n c, .slice A' n' c'] w fun e w'=> ∃A1 n1 c1 l1,e= .returned (.tuple #[.slice A1 n1 c1, .int .i64 0])/\Is l1 v/\Rd w' A1 n1 c1 l1/\Below w.heap.size w w'):
  Calls prog 121 #[.slice A n c, .slice A' n' c'] w (jH w v):=by
 go_enter func121,ntmps121
 go_wp2_with (go_at_call 137;refine hs.mono ?_;rintro e w2 ⟨A1,n1,c1,l1,rfl,hi1,hr1,hb1⟩)
 go_ret
 exact ⟨A1,n1,c1,l1,rfl,hi1,hr1,hb1⟩
def zU1 (w:WQ) (k:Nat) (l:List Nat) (e:Ending) (w':WQ):Prop:= ∃A n c,e= .returned (.slice A n c)/\Rd w' A n c (List.replicate k 0++l)/\Below w.heap.size w w'
theorem zLa (k:Nat) (l:List Nat):val (List.replicate k 0++l)=BB^k*val l:=by
 rw [zCM,zAp,fJ,Nat.zero_add]
theorem zOE (k:Nat) (h:k<=17592186044416) (w:WQ):yG (w.alloc (.cells (madeCells #[.int .u32 0] k) 73)) w.heap.size 73 (.slice (some ⟨w.heap.size,0,none⟩) k k) (List.replicate k 0):=by
 rw [zHG]
 exact ⟨by rw [zAI,fJ,Nat.mul_one], .inr ⟨w.heap.size,k,_,by rw [fJ],eJ _,heap_alloc_new w _,by rw [fJ];exact eJ _,by unfold maxLen;omega,by simp [zBi],by simp [zBi]⟩⟩
theorem zNn (A:WS Addr) (n c:Nat) (l:List Nat) (k:Nat) (w:WQ) (h:Rd w A n c l) (hn:n<=100000) (hk:k<=100000):
  Calls prog 123 #[.slice A n c, .int .i64 (k:Int)] w (zU1 w k l):=by
 have hmk:=fun wx=>zA7 k oG wx
 have hown:=zOE k oG w
 have hb0:=(eK _ w).alloc (eJ _) (.cells (madeCells #[.int .u32 0] k) 73)
 have hs1:(List.replicate k 0).length+l.length<=17592186044416:=by rw [fJ,h.len];omega
 have hl1:(List.replicate k 0++l).length=k+n:=by rw [List.length_append,fJ,h.len]
 go_enter func123,ntmps123
 go_wp2_with (at_builtin;refine zX rfl _ _ 23 73 rfl yJ yZ w.heap.size _ (List.replicate k 0) rfl hown A n c l rfl (h.below hb0) hs1 hb0.size ?_;intro v1 w3 hown1 hg1 hat1;obtain ⟨A1,c1,rfl⟩:=hown1.form' hl1)
 go_ret
 exact ⟨A1,k+n,c1,rfl,hown1.rd,yG.grown hb0 hown hg1 (eJ _) hb0.size⟩
end Go.Proofs.Wd

namespace Go.Proofs.Wd
open Tryz
set_option maxRecDepth 100000
set_option maxHeartbeats 1000000
open Go.RowKit Lb
attribute [local go_sem] Oper.semAt_some qF yI
def zNt (w:WQ) (la lb:List Nat) (na nb:Nat) (A':WS Addr) (c':Nat) (k:Nat) (W:WQ):Prop:=
 ∃(i:Nat) (lo:List Nat),cnt la i=k/\i<=na/\Arr W (w.heap.size+1) lo/\lo.length=na+nb/\Lt lo/\(∀x,i+nb<=x->lm lo x=0)/\val lo=sm (lm la) i*val lb/\
  Boxed W w.heap.size 23 (.slice A' nb c')/\Boxed W (w.heap.size+1+1) 23 (.slice (some ⟨w.heap.size+1,0,none⟩) (na+nb) (na+nb))/\Below w.heap.size w W/\w.heap.size+4<=W.heap.size
theorem zMc (A:WS Addr) (n c:Nat) (l:List Nat) (A':WS Addr) (n' c':Nat) (l':List Nat) (w:WQ) (h:Rd w A n c l) (h':Rd w A' n' c' l') (ht:Lt l) (ht':Lt l') (hn:n<=100000) (hn':n'<=100000):
  Calls prog 120 #[.slice A n c, .slice A' n' c'] w (jH w (val l*val l')):=by
 have hle:=h.le;have hcap:=h.cap;have hle':=h'.le;have hcap':=h'.cap
 have HN:=hid h.len;have HN':=hid h'.len
 have hmk: ∀wx:WQ,(Instr.makeSlice 23 (.int .i64 ((n:Int)+(n':Int))) (.int .i64 ((n:Int)+(n':Int)))).run prog wx= .ok (.slice (some ⟨wx.heap.size,0,none⟩) (n+n') (n+n')) (wx.alloc (.cells (madeCells #[.int .u32 0] (n+n')) 73)):=fun wx=>zA7 (n+n') oG wx
 refine q6 func120 rfl ?_
 simp only [ntmps120,eV,eX,eY,Nat.reduceAdd,Nat.reduceSub,eZ,fC,fD,fE,fF,fG]
 go_wp2_with (go_at_call 138;refine (zKz A n c _).mono ?_;rintro e w2 ⟨rfl,rfl⟩)
 obtain ⟨W0,hW0⟩: ∃W0,((((w.alloc (.cells #[.slice A' n' c'] 23)).alloc (.cells (madeCells #[.int .u32 0] (n+n')) 73)).alloc (.cells #[.slice (some ⟨w.heap.size+1,0,none⟩) (n+n') (n+n')] 23)).alloc (.cells #[.slice A n c] 23))=W0:=⟨_,rfl⟩
 have hsz:W0.heap.size=w.heap.size+4:=by rw [<-hW0];simp
 have hB0:Below w.heap.size w W0:=by rw [<-hW0];exact ((((eK _ w).alloc (eJ _) _).alloc (by simp) _).alloc (by simp;omega) _).alloc (by simp;omega) _
 have x0:Boxed W0 w.heap.size 23 (.slice A' n' c'):=by rw [<-hW0];exact (((Boxed.new w _ _).alloc _).alloc _).alloc _
 have x1:Arr W0 (w.heap.size+1) (List.replicate (n+n') 0):=by rw [<-hW0];exact ((zP7 _ _ (by simp)).alloc _).alloc _
 have x2:Boxed W0 (w.heap.size+1+1) 23 (.slice (some ⟨w.heap.size+1,0,none⟩) (n+n') (n+n')):=by rw [<-hW0];exact (zAt _ _ _ (by simp)).alloc _
 have x3:Boxed W0 (w.heap.size+1+1+1) 23 (.slice A n c):=by rw [<-hW0];exact zAt _ _ _ (by simp)
 rw [hW0]
 clear hW0
 have hSb: ∀b,(b<w.heap.size∨b=w.heap.size+1+1+1)->b<W0.heap.size:=fun b hb=>by omega
 have hown: ∀C,w.heap.size<=C->OwnFrom C (zNt w l l' n n' A' c'):=by
  rintro C hC k W W' row ⟨i,lo,h1,h2,h3,h4,h5,h6,h7,h8,h9,h10,h11⟩ hg hr
  exact ⟨i,lo,h1,h2,h3.abide hg hr,h4,h5,h6,h7,qP h8 hg hr,qP h9 hg hr,zAm h10 hg (eJ _) hC hr,eO h11 hg.size⟩
 refine zBQ (gf:=155) rfl (enters_of func155 kB rfl)
  (zHw A n c l (w.heap.size+1+1+1) W0 (h.below hB0) ht x3.cell (S:=fun b=>b<w.heap.size∨b=w.heap.size+1+1+1) hSb (fun b o hn0 e=> .inl (h.in_ b o hn0 e))) ?hE ?hps y9.trans (zEc hSb)
  (zNt w l l' n n' A' c') (hown _ hB0.size) (zBM (hown _ (eJ _))) wS (fun _ _ _ _ _ _ _ _=>trivial)
  ⟨0,List.replicate (n+n') 0,rfl,eT _,x1,by simp,jX _,fun x _=>by unfold lm;rw [List.getElem?_replicate];split<;>rfl,by rw [zAp];simp [sm],x0,x2,hB0,Nat.le_of_eq hsz.symm⟩
  (fun _ xs=>{ tmps:=#[.slice A n c, .slice A' n' c',undef, .pointer (some ⟨w.heap.size,0,none⟩), .slice none 0 0, .pointer (some ⟨w.heap.size+1+1,0,none⟩),xs.getD 0 undef,xs.getD 1 undef,undef,undef,undef, .slice A n c, .int .i64 (n:Int), .slice A' n' c', .int .i64 (n':Int), .int .i64 ((n:Int)+(n':Int)), .slice (some ⟨w.heap.size+1,0,none⟩) (n+n') (n+n'), .slice A n c, .func (.func 155) #[] #[.pointer (some ⟨w.heap.size+1+1+1,0,none⟩)],xs.getD 0 undef,xs.getD 1 undef,undef,undef,undef,undef,undef,undef,undef,undef,undef,undef,undef,undef,undef,undef,undef,undef,undef,undef,undef,undef,undef,undef,undef,undef,undef,undef,undef,undef,undef,undef,undef,undef,undef,undef,undef,undef,undef,undef,undef,undef,undef],defers:= [] }) ?assign ?body ?done
 case hE=>exact fun k xs W l1 o o' hx _ _=>hx
 case hps=>
  rintro k xs W ⟨p,rfl,_⟩
  rfl
 case assign=>
  rintro lp k xs W K ⟨p,rfl,_⟩ hK
  gi_wp2
  exact hK
 case body=>
  rintro lp k xs W hk ⟨i,lo,hci,hi,ha,hlo,hlt,hz,hv,hb,hq,hB,h4⟩ ⟨p,rfl,hp,hp0,hcp⟩
  have hip:i<=p:=by
   rcases Nat.lt_or_ge p i with e|e
   ·exfalso
    have g1:=zFn (l:=l) (j:=p) hp0
    have g2:=zDV (l:=l) (i:=p+1) (j:=i) e
    omega
   ·exact e
  have hsm:sm (lm l) p=sm (lm l) i:=zJ0 (by rw [hcp,hci])
  have HV:Hid (val lo=sm (lm l) p*val l'):=by rw [hsm];exact hv
  have HZ:Hid (∀x,p+n'<=x->lm lo x=0):=fun x hx=>hz x oG
  have HC:=hid (show cnt l (p+1)=k+1 from by rw [zFn hp0,hcp])
  clear hv hz hsm hci hip hi hcp
  have x1:=qM ht p
  simp only [BB] at x1
  obtain ⟨ai,hai⟩: ∃a,lm l p=a:=⟨_,rfl⟩
  have HAI:=hid hai
  simp only [hai]
  rw [hai] at x1
  clear hai hp0
  have hcb:=hb.cell
  obtain ⟨Wo,hWo⟩: ∃Wo,W=Wo:=⟨_,rfl⟩
  subst hWo
  gi_wp2
  gi_loopw [8,23] (fun ov k2 wr=>zTT w (w.heap.size+1) (n+n') p ai lo l' n' ov k2 wr/\Boxed wr w.heap.size 23 (.slice A' n' c')/\Boxed wr (w.heap.size+1+1) 23 (.slice (some ⟨w.heap.size+1,0,none⟩) (n+n') (n+n'))/\KeepsOthers W wr/\y9 (fun b=>b<w.heap.size∨b=w.heap.size+1+1+1) W wr/\w.heap.size+4<=wr.heap.size) (fun _ k2 _=>n' - (intOf k2).toNat)
  case atStart=>exact ⟨⟨0,0,lo,eT _,rfl,rfl,by omega,ha,hlo,hlt,fun _ _=>rfl,by simp [win,sm],hB⟩,hb,hq,KeepsOthers.refl _,y9.refl _ _,h4⟩
  case round=>
   obtain ⟨⟨k2,ov,l2,hk2,rfl,rfl,hov,ha2,hl2,hlt2,hout,heq,hB2⟩,hb2,hq2,hko,hks,h42⟩:=hrel
   have HQ:=hid heq
   have HO:=hid hout
   clear heq hout
   have hcq:=hq2.cell
   have hcb2:=hb2.cell
   by_cases hkn:k2<n'
   ·obtain ⟨b',o',rfl,hcb'⟩:=(h'.below hB2).cells k2 hkn
    have x2:=qM ht' k2
    simp only [BB] at x2
    obtain ⟨bk,hbk⟩: ∃a,lm l' k2=a:=⟨_,rfl⟩
    rw [hbk] at x2 hcb'
    have gr:=ha2.cell (i:=p+k2) oG
    have gf:=ha2.frozen (p+k2)
    have hold1:lm l2 (p+k2)=lm lo (p+k2):=HO.out _ (.inr (eJ _))
    have x3:=qM hlt2 (p+k2)
    simp only [BB] at x3
    obtain ⟨old,hold⟩: ∃a,lm l2 (p+k2)=a:=⟨_,rfl⟩
    rw [hold] at gr x3 hold1
    obtain ⟨q,s,z,u,hq1,hq2',hq3,hs,hs2,hz1,hu1,hz2,hu2,hm⟩:=zJH ai bk old ov x1 x2 x3 hov
    have hmi:(ai:Int)*(bk:Int)=(q:Int):=by rw [<-hq1,fQ]
    have hsi:(ov:Int)+((q:Int)+(old:Int))=(s:Int):=by omega
    have HB1:=hid hbk;have HOL:=hid hold1;have HM:=hid hm
    clear hbk hold hold1 hm hq1 hs
    have hend:zTT w (w.heap.size+1) (n+n') p ai lo l' n' (.int .u64 (u:Int)) (.int .i64 ((k2:Int)+1)) (wr.setCell ⟨w.heap.size+1,p+k2,none⟩ (.int .u32 (z:Int))):=by
     refine ⟨k2+1,u,l2.set (p+k2) z,by omega,by go_num,rfl,hu2,ha2.set _ _,by rw [eR];exact hl2,zCK hlt2 hz2,fun y hy=> ?_, ?_,hB2.setCell (p:=⟨w.heap.size+1,p+k2,none⟩) (by simp) _⟩
     ·rw [zAU oG,if_neg oG]
      exact HO.out y oG
     ·have e1:lm (l2.set (p+k2) z) (p+k2)=z:=by rw [zAU oG,if_pos rfl]
      rw [zAG,zAG,zEQ,e1, <-HOL.out,fL]
      show _+_*(BB^k2*4294967296)=_+ai*(sm (lm l') k2+lm l' k2*BB^k2)
      rw [HB1.out]
      exact zJI HQ.out HM.out
    have HE:=hid hend
    clear hend
    gi_wp2
    go_roundw
    case rel=>exact ⟨HE.out,zAF hb2 (p:=⟨w.heap.size+1,p+k2,none⟩) (by simp) _,zAF hq2 (p:=⟨w.heap.size+1,p+k2,none⟩) (by simp) _,hko.trans (fH _ _ _),hks.setCell (p:=⟨w.heap.size+1,p+k2,none⟩) (by simp) _,by rw [<-zBc];exact h42⟩
    case measure=>simp [intOf];omega
   ·obtain rfl:k2=n':=by omega
    have gf:=ha2.frozen (p+k2)
    have gr:=ha2.cell (i:=p+k2) oG
    have ho32:(ov:Int) % 4294967296=(ov:Int):=by omega
    have hend:zNt w l l' n k2 A' c' (k+1) (wr.setCell ⟨w.heap.size+1,p+k2,none⟩ (.int .u32 (ov:Int))):=by
     refine ⟨p+1,l2.set (p+k2) ov,HC.out,by omega,ha2.set _ _,by rw [eR];exact hl2,zCK hlt2 hov,fun x hx=> ?_, ?_,zAF hb2 (p:=⟨w.heap.size+1,p+k2,none⟩) (by simp) _,zAF hq2 (p:=⟨w.heap.size+1,p+k2,none⟩) (by simp) _,hB2.setCell (p:=⟨w.heap.size+1,p+k2,none⟩) (by simp) _,by rw [<-zBc];exact h42⟩
     ·rw [zAU oG,if_neg oG,HO.out x oG]
      exact HZ.out x oG
     ·show _=(sm (lm l) p+lm l p*BB^p)*val l'
      rw [HAI.out]
      exact zHv hlo hl2 oG HO.out HZ.out HN'.out HQ.out HV.out
    have HE:=hid hend
    clear hend
    gi_wp2
    exact ⟨(hko.trans (fH _ _ _)).from _,hks.setCell (p:=⟨w.heap.size+1,p+k2,none⟩) (by simp) _,HE.out⟩
 case done=>
  rintro D W hD ⟨i,lo,hci,hi,ha,hlo,hlt,hz,hv,hb,hq,hB,h4⟩ _ hd
  have hfin:val lo=val l*val l':=by
   rw [hv,zJ0 hci]
   have:sm (lm l) n=val l:=by have:=HN.out;unfold val;rw [this]
   rw [this]
  have htr:=qY (some ⟨w.heap.size+1,0,none⟩) (n+n') (n+n') lo W (ha.rd hlo oG) hlt oG
  rw [hfin] at htr
  have hcq:=hq.cell
  clear hfin hv hci
  go_wp2_with (go_at_call 90;refine htr.mono ?_;rintro e w3 ⟨A3,n3,c3,l3,rfl,hi3,hr3,hb3⟩)
  have hM:Marks w.heap.size w3 [mark D] [D]:=((Marks.nil w.heap.size W).more (D:=D) (by simp) oG hd).made hb3
  refine qJ w3 (fun w' _=>results_tmp rfl _ _ w') [D] _ _ hM (Oth.refl _ _) ?_
  intro w' ho
  exact ⟨A3,n3,c3,l3,rfl,hi3,hr3.oth ho,zAl (hB.trans (hb3.mono hB.size)) ho (eJ _)⟩
attribute [local go_sem] Oper.semAt_some qF yI
def y7 (W:WQ) (v:WR) (x:Nat):Prop:= ∃A n c l,v= .slice A n c/\Is l x/\Rd W A n c l
theorem y7.below {W W':WQ} {v:WR} {x:Nat} (h:y7 W v x) (hb:Below W.heap.size W W'):y7 W' v x:=by
 obtain ⟨A,n,c,l,h1,h2,h3⟩:=h
 exact ⟨A,n,c,l,h1,h2,h3.below hb⟩
def zBP (mb:Nat):WR:= .func (.func 119) #[] #[.pointer (some ⟨mb,0,none⟩)]
def zVI (N:Nat):Prop:= ∀(mb:Nat) (A:WS Addr) (n c:Nat) (l:List Nat) (A':WS Addr) (n' c':Nat) (l':List Nat) (w:WQ),Rd w A n c l->Rd w A' n' c' l'->Lt l->Lt l'->n<=N->n'<=N->w.cell? ⟨mb,0,none⟩=some (zBP mb)->
 Calls prog 119 #[.slice A n c, .slice A' n' c', .pointer (some ⟨mb,0,none⟩)] w (jH w (val l*val l'))
theorem zVz (a0 a1 b0 b1 P:Nat):(a0+P*a1)*(b0+P*b1)=a0*b0+P*((a0+a1)*(b0+b1) - (a0*b0+a1*b1))+P*P*(a1*b1):=by
 have e:(a0+a1)*(b0+b1) - (a0*b0+a1*b1)=a0*b1+a1*b0:=by
  rw [eS,eN,eN]
  omega
 rw [e,eS,eN,eN,eN]
 have e1:a0*(P*b1)=P*(a0*b1):=Nat.mul_left_comm ..
 have e2:P*a1*b0=P*(a1*b0):=fP ..
 have e3:P*a1*(P*b1)=P*P*(a1*b1):=by rw [Nat.mul_mul_mul_comm]
 omega
theorem zRD (a0 a1 b0 b1:Nat):a0*b0+a1*b1<=(a0+a1)*(b0+b1):=by
 rw [eS,eN,eN]
 omega
attribute [local go_sem] Oper.semAt_some qF yI
attribute [local go_sem] Oper.semAt_some qF yI
end Go.Proofs.Wd

namespace Go.Proofs.Wd
open Tryz
end Go.Proofs.Wd

namespace Go.Proofs.Wd
open Tryz
set_option maxRecDepth 100000
set_option maxHeartbeats 1000000
open Go.RowKit Lb
attribute [local go_sem] Oper.semAt_some qF yI
theorem zRE {s:Bool} {l l' l3:List Nat} (h:val l3=val l+val l'):iv s l3=iv s l+iv s l':=by
 unfold iv
 cases s<;>simp<;>omega
theorem zMJ {s s':Bool} {l l' l3:List Nat} (hs:s≠s') (h:val l3=val l - val l') (hge:val l'<=val l):iv s l3=iv s l+iv s' l':=by
 unfold iv
 cases s<;>cases s'<;>simp at hs ⊢<;>omega
theorem zSV {s s':Bool} {l l' l3:List Nat} (h:val l3=val l*val l'):iv (s !=s') l3=iv s l*iv s' l':=by
 have e:(val l3:Int)=(val l:Int)*(val l':Int):=by rw [h,fQ]
 unfold iv
 cases s<;>cases s'<;>simp [e,Int.neg_mul,Int.mul_neg]
theorem zFJ (s:Bool) (A:WS Addr) (n c:Nat) (l:List Nat) (w:WQ) (h:Rd w A n c l) (ht:Lt l) (hl:n<=1099511627776):
  Calls prog 15 #[.agg #[.bool s, .slice A n c]] w fun e w'=>e= .returned (.int .i64 (iv s l).sign)/\Below w.heap.size w w':=by
 have hb0:=(eK _ w).alloc (eJ _) (.cells #[.bool s, .slice A n c] 25)
 have hc:=zAq s A n c l _ (h.below hb0) ht hl
 unfold qS at hc
 obtain ⟨v,hv⟩: ∃v,iv s l=v:=⟨_,rfl⟩
 rw [hv] at hc ⊢
 clear hv
 rcases Int.lt_trichotomy v 0 with h0|h0|h0
 ·have e1:v.sign= -1:=Int.sign_eq_neg_one_of_neg h0
  rw [decide_eq_true h0] at hc
  rw [e1]
  go_enter func15,ntmps15
  go_wp2_with (go_at_call 30;refine hc.mono ?_;rintro e w2 ⟨A2,n2,c2,l2,rfl,hi2,hr2,hb2⟩;have hq:=zKq hb2 (b:=w.heap.size) rfl;obtain ⟨⟨q0,q1⟩,q2,q3⟩:=hq.facts2;have hn2:0<n2:=(by rw [<-hr2.len];exact hi2.pos_iff.1 (Int.natAbs_pos.2 (Int.ne_of_lt h0))))
  go_ret
  exact ⟨rfl,((hb0.trans (hb2.mono hb0.size)).setCell (p:=⟨w.heap.size,0,none⟩) (eJ _) _).setCell (p:=⟨w.heap.size,1,none⟩) (eJ _) _⟩
 ·subst h0
  go_enter func15,ntmps15
  go_wp2_with (go_at_call 30;refine hc.mono ?_;rintro e w2 ⟨A2,n2,c2,l2,rfl,hi2,hr2,hb2⟩;have hq:=zKq hb2 (b:=w.heap.size) rfl;obtain ⟨⟨q0,q1⟩,q2,q3⟩:=hq.facts2;obtain rfl:n2=0:=(by rw [<-hr2.len];exact hi2.zero_iff.1 rfl))
  go_ret
  exact ⟨rfl,((hb0.trans (hb2.mono hb0.size)).setCell (p:=⟨w.heap.size,0,none⟩) (eJ _) _).setCell (p:=⟨w.heap.size,1,none⟩) (eJ _) _⟩
 ·have e1:v.sign=1:=Int.sign_eq_one_of_pos h0
  rw [decide_eq_false oG] at hc
  rw [e1]
  go_enter func15,ntmps15
  go_wp2_with (go_at_call 30;refine hc.mono ?_;rintro e w2 ⟨A2,n2,c2,l2,rfl,hi2,hr2,hb2⟩;have hq:=zKq hb2 (b:=w.heap.size) rfl;obtain ⟨⟨q0,q1⟩,q2,q3⟩:=hq.facts2;have hn2:0<n2:=(by rw [<-hr2.len];exact hi2.pos_iff.1 (Int.natAbs_pos.2 (Int.ne_of_gt h0))))
  go_ret
  exact ⟨rfl,((hb0.trans (hb2.mono hb0.size)).setCell (p:=⟨w.heap.size,0,none⟩) (eJ _) _).setCell (p:=⟨w.heap.size,1,none⟩) (eJ _) _⟩
theorem zKt (s:Bool) (A:WS Addr) (n c:Nat) (l:List Nat) (A':WS Addr) (n' c':Nat) (l':List Nat) (w:WQ) (h:Rd w A n c l) (ht:Lt l) (h':Rd w A' n' c' l') (ht':Lt l') (m:Nat) (hl:n<=m) (hl':n'<=m) (hm:m<=100000):
  Calls prog 59 #[.agg #[.bool s, .slice A n c], .agg #[.bool s, .slice A' n' c']] w (qS w (iv s l+iv s l')):=by
 have hmix:prog.follows .mixedOrders=true:=by kernel_rfl
 go_enter func59,ntmps59
 go_wp2
 obtain ⟨W0,hW0⟩: ∃W0,(((w.alloc (.cells #[.bool s, .slice A n c] 25)).alloc (.cells #[.bool s, .slice A' n' c'] 25)).alloc (.cells #[.bool false, .slice none 0 0] 25))=W0:=⟨_,rfl⟩
 have x0:q7 W0 w.heap.size 25 #[.bool s, .slice A n c]:=by rw [<-hW0];exact ((q7.new w _ _).alloc _).alloc _
 have x1:q7 W0 (w.heap.size+1) 25 #[.bool s, .slice A' n' c']:=by rw [<-hW0];exact (q7.at_ _ _ _ (by simp)).alloc _
 have x2:q7 W0 (w.heap.size+1+1) 25 #[.bool false, .slice none 0 0]:=by rw [<-hW0];exact q7.at_ _ _ _ (by simp)
 have hB0:Below w.heap.size w W0:=by rw [<-hW0];exact (((eK _ w).alloc (eJ _) _).alloc (by simp) _).alloc (by simp;omega) _
 rw [hW0]
 clear hW0
 refine (fK (n:=0)).1 ?_
 have cf: ∀W,Below W0.heap.size W0 W->(W.cell? ⟨w.heap.size,0,none⟩=some (.bool s)/\W.cell? ⟨w.heap.size,1,none⟩=some (.slice A n c))/\W.cell? ⟨w.heap.size+1,0,none⟩=some (.bool s)/\W.cell? ⟨w.heap.size+1,1,none⟩=some (.slice A' n' c'):=fun W hb=>And.intro (x0.kept hb).facts2.1 (x1.kept hb).facts2.1
 refine yH 10 (fun W=>(W.cell? ⟨w.heap.size,0,none⟩=some (.bool s)/\W.cell? ⟨w.heap.size,1,none⟩=some (.slice A n c))/\W.cell? ⟨w.heap.size+1,0,none⟩=some (.bool s)/\W.cell? ⟨w.heap.size+1,1,none⟩=some (.slice A' n' c')) hmix ?_
 have hd:Below W0.heap.size W0 W0.drew:=(eK _ W0).drew
 have d1:=cf _ hd
 refine zW (i:=0) (v:= ?vv1) kB kB rfl kB kB kB (fun _ _ _ h=>h) d1 ⟨.inl ⟨rfl, ?yy1⟩,fun _=>rfl⟩ ?_
 case yy1=>
  rintro wx ⟨⟨q1,q2⟩,q3,q4⟩
  go_simp
  first|done|rfl
 refine zW (i:=1) (v:= ?vv2) kB kB rfl kB kB kB (fun _ _ _ h=>h) d1 ⟨.inl ⟨rfl, ?yy2⟩,fun _=>rfl⟩ ?_
 case yy2=>
  rintro wx ⟨⟨q1,q2⟩,q3,q4⟩
  go_simp
  first|done|rfl
 refine zW (i:=2) (v:= ?vv3) kB kB rfl kB kB kB (fun _ _ _ h=>h) d1 ⟨.inl ⟨rfl, ?yy3⟩,fun _=>rfl⟩ ?_
 case yy3=>
  rintro wx ⟨⟨q1,q2⟩,q3,q4⟩
  go_simp
  first|done|rfl
 refine zW (i:=3) (v:= ?vv4) kB kB rfl kB kB kB (fun _ _ _ h=>h) d1 ⟨.inl ⟨rfl, ?yy4⟩,fun _=>rfl⟩ ?_
 case yy4=>
  rintro wx ⟨⟨q1,q2⟩,q3,q4⟩
  go_simp
  first|done|rfl
 refine zW (i:=4) (v:= ?vv5) kB kB rfl kB kB kB (fun _ _ _ h=>h) d1 ⟨.inl ⟨rfl, ?yy5⟩,fun _=>rfl⟩ ?_
 case yy5=>
  rintro wx ⟨⟨q1,q2⟩,q3,q4⟩
  go_simp
  first|done|rfl
 refine zW (i:=5) (v:= ?vv6) kB kB rfl kB kB kB (fun _ _ _ h=>h) d1 ⟨.inl ⟨rfl, ?yy6⟩,fun _=>rfl⟩ ?_
 case yy6=>
  rintro wx ⟨⟨q1,q2⟩,q3,q4⟩
  go_simp
  first|done|rfl
 have hW3:Below W0.heap.size W0 (W0.drew.alloc (.cells #[.slice A n c, .slice A' n' c'] 23)):=hd.alloc hd.size _
 have hds:=Rds.two ((h.below hB0).drew) ht oG ((h'.below hB0).drew) ht' oG 23
 refine zAx (i:=6) kB rfl (fun K hK=> ?_)
 go_simp
 refine hK _ _ (.inr (cf _ hW3)) ?_
 clear hK K
 have hadd:=zED _ 2 2 [l,l'] _ hds oG
 have hsum:([l,l'].map val).sum=val l+val l':=by simp
 rw [hsum] at hadd
 refine zAx (i:=7) kB rfl (fun K hK=> ?_)
 go_simp
 refine eP (eQ.2 hadd) ?_
 rintro e w3 ⟨A3,n3,c3,l3,rfl,hi3,hr3,hb3⟩
 have hB3:Below W0.heap.size W0 w3:=hW3.trans (hb3.mono hW3.size)
 refine hK _ _ (.inr (cf _ hB3)) ?_
 clear hK K
 have d3:=cf _ hB3
 refine zAx (i:=8) kB rfl (fun K hK=> ?_)
 go_simp
 refine hK _ _ (.inr d3) ?_
 clear hK K
 have hn3:n3<=m+1:=by
  rw [<-hr3.len]
  refine hi3.len ?_
  have e1:=qT ht;have e2:=qT ht'
  rw [h.len] at e1;rw [h'.len] at e2
  have f1:BB^n<=BB^m:=fR y4 hl
  have f2:BB^n'<=BB^m:=fR y4 hl'
  have f3:BB^m*2<=BB^m*BB:=Nat.mul_le_mul_left _ (by unfold BB;omega)
  rw [fL]
  omega
 have hnm:=zAq s A3 n3 c3 l3 w3 hr3 hi3.lt oG
 rw [zRE hi3.val] at hnm
 obtain ⟨v,hv⟩: ∃v,iv s l+iv s l'=v:=⟨_,rfl⟩
 rw [hv] at hnm
 refine zAx (i:=9) kB rfl (fun K hK=> ?_)
 go_simp
 refine eP (eQ.2 hnm) ?_
 rintro e w4 ⟨A4,n4,c4,l4,rfl,hi4,hr4,hb4⟩
 have hB4:Below W0.heap.size W0 w4:=hB3.trans (hb4.mono hB3.size)
 have hq:=x2.kept hB4
 obtain ⟨⟨m0,m1⟩,m2,m3⟩:=hq.facts2
 refine hK _ _ (.inr (cf _ hB4)) ?_
 clear hK K
 refine zAx (i:=10) kB rfl (fun K hK=> ?_)
 go_simp
 refine hK _ _ (.inl rfl) ?_
 clear hK K
 refine zCj kB ?_
 obtain ⟨⟨c0,c1⟩,_,_⟩:=((hq.set 0 (.bool (decide (v<0)))).set 1 (.slice A4 n4 c4)).facts2
 go_wp2
 rw [hv]
 refine eU (v:= .agg #[.bool (decide (v<0)), .slice A4 n4 c4]) (by simp [results,results59,go_sem,c0,c1]) rfl ?_
 exact zG9 hq (hB0.trans (hB4.mono hB0.size)) oG hi4 hr4
theorem zOj (s s':Bool) (hs:s≠s') (A:WS Addr) (n c:Nat) (l:List Nat) (A':WS Addr) (n' c':Nat) (l':List Nat) (w:WQ) (h:Rd w A n c l) (ht:Lt l) (h':Rd w A' n' c' l') (ht':Lt l') (hl:n<=100000) (hge:val l'<=val l):
  Calls prog 59 #[.agg #[.bool s, .slice A n c], .agg #[.bool s', .slice A' n' c']] w (qS w (iv s l+iv s' l')):=by
 have hne:(s==s')=false:=by simp [hs]
 obtain ⟨W0,hW0⟩: ∃W0,(((w.alloc (.cells #[.bool s, .slice A n c] 25)).alloc (.cells #[.bool s', .slice A' n' c'] 25)).alloc (.cells #[.bool false, .slice none 0 0] 25))=W0:=⟨_,rfl⟩
 have x0:q7 W0 w.heap.size 25 #[.bool s, .slice A n c]:=by rw [<-hW0];exact ((q7.new w _ _).alloc _).alloc _
 have x1:q7 W0 (w.heap.size+1) 25 #[.bool s', .slice A' n' c']:=by rw [<-hW0];exact (q7.at_ _ _ _ (by simp)).alloc _
 have x2:q7 W0 (w.heap.size+1+1) 25 #[.bool false, .slice none 0 0]:=by rw [<-hW0];exact q7.at_ _ _ _ (by simp)
 have hB0:Below w.heap.size w W0:=by rw [<-hW0];exact (((eK _ w).alloc (eJ _) _).alloc (by simp) _).alloc (by simp;omega) _
 have hsub:=zGa A n c l A' n' c' l' W0 (h.below hB0) (h'.below hB0) ht ht' hge oG
 obtain ⟨v,hv⟩: ∃v,iv s l+iv s' l'=v:=⟨_,rfl⟩
 have hnm:=fun (W:WQ) (A3:WS Addr) (n3 c3:Nat) (l3:List Nat) (hr3:Rd W A3 n3 c3 l3) (hi3:Is l3 (val l - val l'))=>zAq s A3 n3 c3 l3 W hr3 hi3.lt (by
  rw [<-hr3.len]
  have e1:=qT ht
  rw [h.len] at e1
  exact eO (hi3.len (Nat.lt_of_le_of_lt (Nat.sub_le _ _) e1)) oG)
 have hiv:=fun (l3:List Nat) (hi3:Is l3 (val l - val l'))=>zMJ (l3:=l3) hs hi3.val hge
 rw [hv] at hiv ⊢
 obtain ⟨⟨a0,a1⟩,_,_⟩:=x0.facts2
 obtain ⟨⟨a2,a3⟩,_,_⟩:=x1.facts2
 obtain ⟨⟨b0,b1⟩,_,_⟩:=x0.facts2
 go_enter func59,ntmps59
 go_wp2_with (first|(go_at_call 88;refine hsub.mono ?_;rintro e w3 ⟨A3,n3,c3,l3,rfl,hi3,hr3,hb3⟩;have hq3:=hnm w3 A3 n3 c3 l3 hr3 hi3;rw [hiv l3 hi3] at hq3;obtain ⟨⟨a0,a1⟩,_,_⟩:=(x0.kept hb3).facts2;obtain ⟨⟨a2,a3⟩,_,_⟩:=(x1.kept hb3).facts2)|(go_at_call 30;refine hq3.mono ?_;rintro e w4 ⟨A4,n4,c4,l4,rfl,hi4,hr4,hb4⟩;have hB4:=hb3.trans (hb4.mono hb3.size);have hq:=x2.kept hB4;obtain ⟨⟨m0,m1⟩,m2,m3⟩:=hq.facts2))
 obtain ⟨⟨c0,c1⟩,_,_⟩:=((hq.set 0 (.bool (decide (v<0)))).set 1 (.slice A4 n4 c4)).facts2
 refine eU (v:= .agg #[.bool (decide (v<0)), .slice A4 n4 c4]) (by simp [results,results59,go_sem,c0,c1]) rfl ?_
 exact zG9 hq (hB0.trans (hB4.mono hB0.size)) oG hi4 hr4
theorem zOi (s s':Bool) (hs:s≠s') (A:WS Addr) (n c:Nat) (l:List Nat) (A':WS Addr) (n' c':Nat) (l':List Nat) (w:WQ) (h:Rd w A n c l) (ht:Lt l) (h':Rd w A' n' c' l') (ht':Lt l') (hl':n'<=100000) (hlt:val l<val l'):
  Calls prog 59 #[.agg #[.bool s, .slice A n c], .agg #[.bool s', .slice A' n' c']] w (qS w (iv s l+iv s' l')):=by
 have hne:(s==s')=false:=by simp [hs]
 obtain ⟨W0,hW0⟩: ∃W0,(((w.alloc (.cells #[.bool s, .slice A n c] 25)).alloc (.cells #[.bool s', .slice A' n' c'] 25)).alloc (.cells #[.bool false, .slice none 0 0] 25))=W0:=⟨_,rfl⟩
 have x0:q7 W0 w.heap.size 25 #[.bool s, .slice A n c]:=by rw [<-hW0];exact ((q7.new w _ _).alloc _).alloc _
 have x1:q7 W0 (w.heap.size+1) 25 #[.bool s', .slice A' n' c']:=by rw [<-hW0];exact (q7.at_ _ _ _ (by simp)).alloc _
 have x2:q7 W0 (w.heap.size+1+1) 25 #[.bool false, .slice none 0 0]:=by rw [<-hW0];exact q7.at_ _ _ _ (by simp)
 have hB0:Below w.heap.size w W0:=by rw [<-hW0];exact (((eK _ w).alloc (eJ _) _).alloc (by simp) _).alloc (by simp;omega) _
 have hsub1:=zE0 A n c l A' n' c' l' W0 (h.below hB0) (h'.below hB0) ht ht' hlt
 have hsub2:=zGa A' n' c' l' A n c l W0 (h'.below hB0) (h.below hB0) ht' ht (Nat.le_of_lt hlt) oG
 obtain ⟨v,hv⟩: ∃v,iv s l+iv s' l'=v:=⟨_,rfl⟩
 have hnm:=fun (W:WQ) (A3:WS Addr) (n3 c3:Nat) (l3:List Nat) (hr3:Rd W A3 n3 c3 l3) (hi3:Is l3 (val l' - val l))=>zAq s' A3 n3 c3 l3 W hr3 hi3.lt (by
  rw [<-hr3.len]
  have e1:=qT ht'
  rw [h'.len] at e1
  exact eO (hi3.len (Nat.lt_of_le_of_lt (Nat.sub_le _ _) e1)) oG)
 have hiv:=fun (l3:List Nat) (hi3:Is l3 (val l' - val l))=>zMJ (l3:=l3) (Ne.symm hs) hi3.val (Nat.le_of_lt hlt)
 rw [Int.add_comm,hv] at hiv
 rw [hv]
 obtain ⟨⟨a0,a1⟩,_,_⟩:=x0.facts2
 obtain ⟨⟨a2,a3⟩,_,_⟩:=x1.facts2
 go_enter func59,ntmps59
 go_wp2_with (first|(go_at_call 88;first|((with_reducible refine hsub1.mono ?_);rintro e w3 ⟨rfl,hw3⟩;rw [<-hw3];clear hw3 w3)|((with_reducible refine hsub2.mono ?_);rintro e w3 ⟨A3,n3,c3,l3,rfl,hi3,hr3,hb3⟩;have hq3:=hnm w3 A3 n3 c3 l3 hr3 hi3;rw [hiv l3 hi3] at hq3;obtain ⟨⟨a0,a1⟩,_,_⟩:=(x0.kept hb3).facts2;obtain ⟨⟨a2,a3⟩,_,_⟩:=(x1.kept hb3).facts2))|(go_at_call 30;refine hq3.mono ?_;rintro e w4 ⟨A4,n4,c4,l4,rfl,hi4,hr4,hb4⟩;have hB4:=hb3.trans (hb4.mono hb3.size);have hq:=x2.kept hB4;obtain ⟨⟨m0,m1⟩,m2,m3⟩:=hq.facts2))
 obtain ⟨⟨c0,c1⟩,_,_⟩:=((hq.set 0 (.bool (decide (v<0)))).set 1 (.slice A4 n4 c4)).facts2
 refine eU (v:= .agg #[.bool (decide (v<0)), .slice A4 n4 c4]) (by simp [results,results59,go_sem,c0,c1]) rfl ?_
 exact zG9 hq (hB0.trans (hB4.mono hB0.size)) oG hi4 hr4
theorem zLQ (s:Bool) (A:WS Addr) (n c:Nat) (l:List Nat) (s':Bool) (A':WS Addr) (n' c':Nat) (l':List Nat) (w:WQ) (h:Rd w A n c l) (ht:Lt l) (h':Rd w A' n' c' l') (ht':Lt l') (m:Nat) (hl:n<=m) (hl':n'<=m) (hm:m<=100000):
  Calls prog 59 #[.agg #[.bool s, .slice A n c], .agg #[.bool s', .slice A' n' c']] w (qS w (iv s l+iv s' l')):=by
 by_cases hs:s=s'
 ·subst hs
  exact zKt s A n c l A' n' c' l' w h ht h' ht' m hl hl' hm
 ·rcases Nat.lt_or_ge (val l) (val l') with e|e
  ·exact zOi s s' hs A n c l A' n' c' l' w h ht h' ht' oG e
  ·exact zOj s s' hs A n c l A' n' c' l' w h ht h' ht' oG e
end Go.Proofs.Wd

namespace Go.Proofs.Wd
open Tryz
set_option maxRecDepth 100000
set_option maxHeartbeats 1000000
open Go.RowKit Lb
attribute [local go_sem] Oper.semAt_some qF yI
def zU9 (w:WQ) (B:Nat) (f:Nat->Int) (n:Nat) (ix:WR) (W:WQ):Prop:=
 ∃(k:Nat) (A:WS Addr) (m c:Nat) (l:List Nat),k<=n/\ix= .int .i64 k/\q7 W B 25 #[.bool (decide (f k<0)), .slice A m c]/\Is l (f k).natAbs/\Rd W A m c l/\
  q7 W w.heap.size 25 #[.bool false, .slice none 0 0]/\Below w.heap.size w W
theorem zHi (A:WS Addr) (n c:Nat) (is:List (Bool×List Nat)) (m M:Nat) (w:WQ) (h:IRdM m w A n is) (hn:n<=c) (_hc:c<=9223372036854775807) (hmM:m<=M) (hM:M<=100000) (hv: ∀k,k<=n->(zDZ is k).natAbs<BB^M) (hnn:n<=1000000:=by first|omega|decide):
  Calls prog 31 #[.slice A n c] w (qS w (zDZ is n)):=by
 have hmix:prog.follows .mixedOrders=true:=by kernel_rfl
 go_enter func31,ntmps31
 go_wp2
 go_loopw [4] (zU9 w (w.heap.size+1) (zDZ is) n) (fun i _=>n - (intOf i).toNat)
 case atStart=>exact ⟨0,none,0,0, [],eT _,rfl,q7.at_ _ _ _ (by simp),Is.nil,wL _,(q7.new w _ _).alloc _,((eK _ w).alloc (eJ _) _).alloc (by simp) _⟩
 case round=>
  obtain ⟨k,Ao,mo,co,lo,hk,rfl,hx1,hio,hro,hx0,hB⟩:=hrel
  obtain ⟨v,hvk⟩: ∃v,zDZ is k=v:=⟨_,rfl⟩
  have hvb:=hv k hk
  rw [hvk] at hx1 hio hvb
  have hmo:mo<=M:=by rw [<-hro.len];exact hio.len hvb
  have HV:=hid hvk
  clear hvk
  by_cases hkn:k<n
  ·obtain ⟨b,o,s,Ai,ni,ci,li,rfl,p1,p2,hi,hri,hli,hni⟩:=(h.below hB).cells k hkn
   have HI:=hid hi
   clear hi
   have hb1:=hx1.lt
   go_wp2
   refine (fK (n:=0)).1 ?_
   have cf: ∀W,Below wr.heap.size wr W->(W.cell? ⟨w.heap.size+1,0,none⟩=some (.bool (decide (v<0)))/\W.cell? ⟨w.heap.size+1,1,none⟩=some (.slice Ao mo co))/\W.cell? ⟨b,o+k*2,none⟩=some (.bool s)/\W.cell? ⟨b,o+k*2+1,none⟩=some (.slice Ai ni ci):=fun W hb=>
    ⟨(hx1.kept hb).facts2.1,(hb.cell (p:=⟨b,o+k*2,none⟩) (z7 p1)).trans p1,(hb.cell (p:=⟨b,o+k*2+1,none⟩) (z7 p2)).trans p2⟩
   refine yH 7 (fun W=>(W.cell? ⟨w.heap.size+1,0,none⟩=some (.bool (decide (v<0)))/\W.cell? ⟨w.heap.size+1,1,none⟩=some (.slice Ao mo co))/\W.cell? ⟨b,o+k*2,none⟩=some (.bool s)/\W.cell? ⟨b,o+k*2+1,none⟩=some (.slice Ai ni ci)) hmix ?_
   have d1:=cf _ (eK _ wr).drew
   refine zW (i:=0) (v:= ?vv1) kB kB rfl kB kB kB (fun _ _ _ h=>h) d1 ⟨.inl ⟨rfl, ?yy1⟩,fun _=>rfl⟩ ?_
   case yy1=>
    rintro wx ⟨⟨q1,q2⟩,q3,q4⟩
    go_simp
    first|done|rfl
   refine zW (i:=1) (v:= ?vv2) kB kB rfl kB kB kB (fun _ _ _ h=>h) d1 ⟨.inl ⟨rfl, ?yy2⟩,fun _=>rfl⟩ ?_
   case yy2=>
    rintro wx ⟨⟨q1,q2⟩,q3,q4⟩
    go_simp
    first|done|rfl
   refine zW (i:=2) (v:= ?vv3) kB kB rfl kB kB kB (fun _ _ _ h=>h) d1 ⟨.inl ⟨rfl, ?yy3⟩,fun _=>rfl⟩ ?_
   case yy3=>
    rintro wx ⟨⟨q1,q2⟩,q3,q4⟩
    go_simp
    first|done|rfl
   refine zW (i:=3) (v:= ?vv4) kB kB rfl kB kB kB (fun _ _ _ h=>h) d1 ⟨.inl ⟨rfl, ?yy4⟩,fun _=>rfl⟩ ?_
   case yy4=>
    rintro wx ⟨⟨q1,q2⟩,q3,q4⟩
    go_simp
    first|done|rfl
   refine zW (i:=4) (v:= ?vv5) kB kB rfl kB kB kB (fun _ _ _ h=>h) d1 ⟨.inl ⟨rfl, ?yy5⟩,fun _=>rfl⟩ ?_
   case yy5=>
    rintro wx ⟨⟨q1,q2⟩,q3,q4⟩
    go_simp
    first|done|rfl
   have hnm:=zAq s Ai ni ci li wr.drew hri.drew hli oG
   refine zAx (i:=5) kB rfl (fun K hK=> ?_)
   go_simp
   refine eP (eQ.2 hnm) ?_
   rintro e w2 ⟨A2,n2,c2,l2,rfl,hi2,hr2,hb2⟩
   have hB2:Below wr.heap.size wr w2:=(eK _ wr).drew.trans hb2
   refine hK _ _ (.inr (cf _ hB2)) ?_
   clear hK K
   have hn2:n2<=M:=by
    rw [<-hr2.len]
    exact eO (hi2.len (j9 hli hri.len hni)) hmM
   have htw:=zLQ (decide (v<0)) Ao mo co lo (decide (iv s li<0)) A2 n2 c2 l2 w2 (hro.below hB2) hio.lt hr2 hi2.lt M hmo hn2 hM
   rw [zB8 hio,zB8 hi2] at htw
   have hsum:v+iv s li=zDZ is (k+1):=by
    show _=zDZ is k+zEd is k
    rw [HV.out]
    unfold zEd
    rw [HI.out]
    rfl
   have HS:=hid hsum
   obtain ⟨v3,hv3⟩: ∃v3,v+iv s li=v3:=⟨_,rfl⟩
   rw [hv3] at htw HS
   clear hsum
   refine zAx (i:=6) kB rfl (fun K hK=> ?_)
   go_simp
   refine eP (eQ.2 htw) ?_
   rintro e w3 ⟨A3,n3,c3,l3,rfl,hi3,hr3,hb3⟩
   have hB3:Below wr.heap.size wr w3:=hB2.trans (hb3.mono hB2.size)
   refine hK _ _ (.inr (cf _ hB3)) ?_
   clear hK K
   have hq:=hx1.kept hB3
   obtain ⟨⟨m0,m1⟩,m2,m3⟩:=hq.facts2
   have hq0:=hx0.kept hB3
   refine zAx (i:=7) kB rfl (fun K hK=> ?_)
   go_simp
   refine hK _ _ (.inl rfl) ?_
   clear hK K
   refine zCj kB ?_
   go_wp2
   go_roundw
   case rel=>
    have e1:=HS.out
    refine ⟨k+1,A3,n3,c3,l3,by omega,by go_num, ?_,by rw [<-e1];exact hi3,(hr3.setN hq (i:=0) rfl (fun _=>by simp) _).setN (hq.set 0 _) (i:=1) rfl (fun _=>by simp) _, ?_, ?_⟩
    ·rw [<-e1]
     exact (hq.set 0 _).set 1 _
    ·exact (hq0.other (p:=⟨w.heap.size+1,0,none⟩) (by simp) _).other (p:=⟨w.heap.size+1,1,none⟩) (by simp) _
    ·exact ((hB.trans (hB3.mono hB.size)).setCell (p:=⟨w.heap.size+1,0,none⟩) (by simp) _).setCell (p:=⟨w.heap.size+1,1,none⟩) (by simp) _
   case measure=>simp [intOf];omega
  ·obtain rfl:k=n:=by omega
   obtain ⟨⟨g0,g1⟩,_,_⟩:=hx1.facts2
   have hnm:=zAq (decide (v<0)) Ao mo co lo wr hro hio.lt oG
   rw [zB8 hio] at hnm
   go_wp2_with (go_at_call 30;refine hnm.mono ?_;rintro e w4 ⟨A4,n4,c4,l4,rfl,hi4,hr4,hb4⟩;have hq:=hx0.kept hb4;obtain ⟨⟨m0,m1⟩,m2,m3⟩:=hq.facts2)
   obtain ⟨⟨c0,c1⟩,_,_⟩:=((hq.set 0 (.bool (decide (v<0)))).set 1 (.slice A4 n4 c4)).facts2
   refine eU (v:= .agg #[.bool (decide (v<0)), .slice A4 n4 c4]) (by simp [results,results31,go_sem,c0,c1]) rfl ?_
   rw [HV.out]
   exact zG9 hq (hB.trans (hb4.mono hB.size)) (eJ _) hi4 hr4
theorem zLT (A:WS Addr) (n c:Nat) (is:List (Bool×List Nat)) (m M:Nat) (w:WQ) (h:IRdM m w A n is) (hn:n<=c) (_hc:c<=9223372036854775807) (hmM:m<=M) (hM:M<=50000) (hv: ∀k,k<=n->(zBV is k).natAbs<BB^M) (hnn:n<=1000000:=by first|omega|decide):
  Calls prog 17 #[.slice A n c] w (qS w (zBV is n)):=by
 have hmix:prog.follows .mixedOrders=true:=by kernel_rfl
 go_enter func17,ntmps17
 have hof:=zJt 1 oG oG (w.alloc (.cells #[.bool false, .slice none 0 0] 25))
 go_wp2_with (go_at_call 27;refine hof.mono ?_;rintro e w0 ⟨A0,n0,c0,l0,rfl,hi0,hr0,hb0⟩)
 have hBs:w.heap.size<w0.heap.size:=fO (by simp) hb0.size
 have hst:zU9 w w0.heap.size (zBV is) n (.int .i64 0) (w0.alloc (.cells #[.bool false, .slice A0 n0 c0] 25)):=by
  refine ⟨0,A0,n0,c0,l0,eT _,rfl,q7.at_ _ _ _ rfl,hi0,hr0.alloc _,((q7.new w _ _).kept hb0).alloc _, ?_⟩
  have t1:=((eK _ w).alloc (eJ _) (.cells #[.bool false, .slice none 0 0] 25)).trans (hb0.mono (by simp))
  exact t1.alloc t1.size _
 go_loopw [4] (zU9 w w0.heap.size (zBV is) n) (fun i _=>n - (intOf i).toNat)
 case atStart=>exact hst
 case round=>
  obtain ⟨k,Ao,mo,co,lo,hk,rfl,hx1,hio,hro,hx0,hB⟩:=hrel
  obtain ⟨v,hvk⟩: ∃v,zBV is k=v:=⟨_,rfl⟩
  have hvb:=hv k hk
  rw [hvk] at hx1 hio hvb
  have hmo:mo<=M:=by rw [<-hro.len];exact hio.len hvb
  have HV:=hid hvk
  clear hvk
  by_cases hkn:k<n
  ·obtain ⟨b,o,s,Ai,ni,ci,li,rfl,p1,p2,hi,hri,hli,hni⟩:=(h.below hB).cells k hkn
   have HI:=hid hi
   clear hi
   go_wp2
   refine (fK (n:=0)).1 ?_
   have cf: ∀W,Below wr.heap.size wr W->(W.cell? ⟨w0.heap.size,0,none⟩=some (.bool (decide (v<0)))/\W.cell? ⟨w0.heap.size,1,none⟩=some (.slice Ao mo co))/\W.cell? ⟨b,o+k*2,none⟩=some (.bool s)/\W.cell? ⟨b,o+k*2+1,none⟩=some (.slice Ai ni ci):=fun W hb=>
    ⟨(hx1.kept hb).facts2.1,(hb.cell (p:=⟨b,o+k*2,none⟩) (z7 p1)).trans p1,(hb.cell (p:=⟨b,o+k*2+1,none⟩) (z7 p2)).trans p2⟩
   refine yH 18 (fun W=>(W.cell? ⟨w0.heap.size,0,none⟩=some (.bool (decide (v<0)))/\W.cell? ⟨w0.heap.size,1,none⟩=some (.slice Ao mo co))/\W.cell? ⟨b,o+k*2,none⟩=some (.bool s)/\W.cell? ⟨b,o+k*2+1,none⟩=some (.slice Ai ni ci)) hmix ?_
   have d1:=cf _ (eK _ wr).drew
   refine zW (i:=0) (v:= ?vv6) kB kB rfl kB kB kB (fun _ _ _ h=>h) d1 ⟨.inl ⟨rfl, ?yy6⟩,fun _=>rfl⟩ ?_
   case yy6=>
    rintro wx ⟨⟨q1,q2⟩,q3,q4⟩
    go_simp
    first|done|rfl
   refine zW (i:=1) (v:= ?vv7) kB kB rfl kB kB kB (fun _ _ _ h=>h) d1 ⟨.inl ⟨rfl, ?yy7⟩,fun _=>rfl⟩ ?_
   case yy7=>
    rintro wx ⟨⟨q1,q2⟩,q3,q4⟩
    go_simp
    first|done|rfl
   refine zW (i:=2) (v:= ?vv8) kB kB rfl kB kB kB (fun _ _ _ h=>h) d1 ⟨.inl ⟨rfl, ?yy8⟩,fun _=>rfl⟩ ?_
   case yy8=>
    rintro wx ⟨⟨q1,q2⟩,q3,q4⟩
    go_simp
    first|done|rfl
   refine zW (i:=3) (v:= ?vv9) kB kB rfl kB kB kB (fun _ _ _ h=>h) d1 ⟨.inl ⟨rfl, ?yy9⟩,fun _=>rfl⟩ ?_
   case yy9=>
    rintro wx ⟨⟨q1,q2⟩,q3,q4⟩
    go_simp
    first|done|rfl
   refine zW (i:=4) (v:= ?vv10) kB kB rfl kB kB kB (fun _ _ _ h=>h) d1 ⟨.inl ⟨rfl, ?yy10⟩,fun _=>rfl⟩ ?_
   case yy10=>
    rintro wx ⟨⟨q1,q2⟩,q3,q4⟩
    go_simp
    first|done|rfl
   refine zW (i:=5) (v:= ?vv11) kB kB rfl kB kB kB (fun _ _ _ h=>h) d1 ⟨.inl ⟨rfl, ?yy11⟩,fun _=>rfl⟩ ?_
   case yy11=>
    rintro wx ⟨⟨q1,q2⟩,q3,q4⟩
    go_simp
    first|done|rfl
   refine zW (i:=6) (v:= ?vv12) kB kB rfl kB kB kB (fun _ _ _ h=>h) d1 ⟨.inl ⟨rfl, ?yy12⟩,fun _=>rfl⟩ ?_
   case yy12=>
    rintro wx ⟨⟨q1,q2⟩,q3,q4⟩
    go_simp
    first|done|rfl
   refine zW (i:=7) (v:= ?vv13) kB kB rfl kB kB kB (fun _ _ _ h=>h) d1 ⟨.inl ⟨rfl, ?yy13⟩,fun _=>rfl⟩ ?_
   case yy13=>
    rintro wx ⟨⟨q1,q2⟩,q3,q4⟩
    go_simp
    first|done|rfl
   refine zW (i:=8) (v:= ?vv14) kB kB rfl kB kB kB (fun _ _ _ h=>h) d1 ⟨.inl ⟨rfl, ?yy14⟩,fun _=>rfl⟩ ?_
   case yy14=>
    rintro wx ⟨⟨q1,q2⟩,q3,q4⟩
    go_simp
    first|done|rfl
   refine zW (i:=9) (v:= ?vv15) kB kB rfl kB kB kB (fun _ _ _ h=>h) d1 ⟨.inl ⟨rfl, ?yy15⟩,fun _=>rfl⟩ ?_
   case yy15=>
    rintro wx ⟨⟨q1,q2⟩,q3,q4⟩
    go_simp
    first|done|rfl
   refine zW (i:=10) (v:= ?vv16) kB kB rfl kB kB kB (fun _ _ _ h=>h) d1 ⟨.inl ⟨rfl, ?yy16⟩,fun _=>rfl⟩ ?_
   case yy16=>
    rintro wx ⟨⟨q1,q2⟩,q3,q4⟩
    go_simp
    first|done|rfl
   refine zW (i:=11) (v:= ?vv17) kB kB rfl kB kB kB (fun _ _ _ h=>h) d1 ⟨.inl ⟨rfl, ?yy17⟩,fun _=>rfl⟩ ?_
   case yy17=>
    rintro wx ⟨⟨q1,q2⟩,q3,q4⟩
    go_simp
    first|done|rfl
   refine zW (i:=12) (v:= ?vv18) kB kB rfl kB kB kB (fun _ _ _ h=>h) d1 ⟨.inl ⟨rfl, ?yy18⟩,fun _=>rfl⟩ ?_
   case yy18=>
    rintro wx ⟨⟨q1,q2⟩,q3,q4⟩
    go_simp
    first|done|rfl
   refine zW (i:=13) (v:= ?vv19) kB kB rfl kB kB kB (fun _ _ _ h=>h) d1 ⟨.inl ⟨rfl, ?yy19⟩,fun _=>rfl⟩ ?_
   case yy19=>
    rintro wx ⟨⟨q1,q2⟩,q3,q4⟩
    go_simp
    first|done|rfl
   refine zW (i:=14) (v:= ?vv20) kB kB rfl kB kB kB (fun _ _ _ h=>h) d1 ⟨.inl ⟨rfl, ?yy20⟩,fun _=>rfl⟩ ?_
   case yy20=>
    rintro wx ⟨⟨q1,q2⟩,q3,q4⟩
    go_simp
    first|done|rfl
   have hml:=zJn Ao mo co lo Ai ni ci li wr.drew hro.drew hri.drew hio.lt hli oG oG
   refine zAx (i:=15) kB rfl (fun K hK=> ?_)
   go_simp
   refine eP (eQ.2 hml) ?_
   rintro e w2 ⟨A2,n2,c2,l2,rfl,hi2,hr2,hb2⟩
   have hB2:Below wr.heap.size wr w2:=(eK _ wr).drew.trans hb2
   refine hK _ _ (.inr (cf _ hB2)) ?_
   clear hK K
   have dd2:=cf _ hB2
   refine zAx (i:=16) kB rfl (fun K hK=> ?_)
   go_simp
   refine hK _ _ (.inr dd2) ?_
   clear hK K
   have hn2:n2<=M+m:=by
    rw [<-hr2.len]
    refine hi2.len ?_
    have e1:=hio.lt_pow;have e2:=qT hli
    rw [hio.val,Nat.pow_add]
    rw [hri.len] at e2
    have e3:BB^ni<=BB^m:=fR y4 hni
    exact fO (Nat.mul_lt_mul_of_lt_of_le hvb (Nat.le_of_lt (fO e2 e3)) (Nat.pow_pos y4)) (eJ _)
   have htw:=zAq (decide (v<0) !=s) A2 n2 c2 l2 w2 hr2 hi2.lt oG
   rw [zSV hi2.val,zB8 hio] at htw
   have hsum:v*iv s li=zBV is (k+1):=by
    show _=zBV is k*zEd is k
    rw [HV.out]
    unfold zEd
    rw [HI.out]
    rfl
   have HS:=hid hsum
   obtain ⟨v3,hv3⟩: ∃v3,v*iv s li=v3:=⟨_,rfl⟩
   rw [hv3] at htw HS
   clear hsum
   refine zAx (i:=17) kB rfl (fun K hK=> ?_)
   go_simp
   refine eP (eQ.2 htw) ?_
   rintro e w3 ⟨A3,n3,c3,l3,rfl,hi3,hr3,hb3⟩
   have hB3:Below wr.heap.size wr w3:=hB2.trans (hb3.mono hB2.size)
   refine hK _ _ (.inr (cf _ hB3)) ?_
   clear hK K
   have hq:=hx1.kept hB3
   obtain ⟨⟨m0,m1⟩,m2,m3⟩:=hq.facts2
   have hq0:=hx0.kept hB3
   refine zAx (i:=18) kB rfl (fun K hK=> ?_)
   go_simp
   refine hK _ _ (.inl rfl) ?_
   clear hK K
   refine zCj kB ?_
   go_wp2
   go_roundw
   case rel=>
    have e1:=HS.out
    refine ⟨k+1,A3,n3,c3,l3,by omega,by go_num, ?_,by rw [<-e1];exact hi3,(hr3.setN hq (i:=0) rfl (fun _=>by simp) _).setN (hq.set 0 _) (i:=1) rfl (fun _=>by simp) _, ?_, ?_⟩
    ·rw [<-e1]
     exact (hq.set 0 _).set 1 _
    ·exact (hq0.other (p:=⟨w0.heap.size,0,none⟩) (by simp;omega) _).other (p:=⟨w0.heap.size,1,none⟩) (by simp;omega) _
    ·exact ((hB.trans (hB3.mono hB.size)).setCell (p:=⟨w0.heap.size,0,none⟩) (by simp;omega) _).setCell (p:=⟨w0.heap.size,1,none⟩) (by simp;omega) _
   case measure=>simp [intOf];omega
  ·obtain rfl:k=n:=by omega
   obtain ⟨⟨g0,g1⟩,_,_⟩:=hx1.facts2
   obtain ⟨⟨m0,m1⟩,m2,m3⟩:=hx0.facts2
   go_wp2
   obtain ⟨⟨c0,c1⟩,_,_⟩:=((hx0.set 0 (.bool (decide (v<0)))).set 1 (.slice Ao mo co)).facts2
   refine eU (v:= .agg #[.bool (decide (v<0)), .slice Ao mo co]) (by simp [results,results17,go_sem,c0,c1]) rfl ?_
   rw [HV.out]
   exact zG9 hx0 hB (eJ _) hio hro
theorem zQ5 {W:WQ} {m:Nat} {v:WR} {is:List (Bool×List Nat)} (M:Nat) (h:IS W m v is) (hn:is.length<=1000000) (hmM:m<=M) (hM:M<=100000) (hv: ∀k,k<=is.length->(zDZ is k).natAbs<BB^M):Calls prog 31 #[v] W (zGO W (zDZ is is.length)):=by
 obtain ⟨A,c,rfl,h3,h4,h2⟩:=h
 exact (zHi A is.length c is m M W h2 h3 h4 hmM hM hv).mono fun _ _=>qS.v
theorem zQY {W:WQ} {m:Nat} {v:WR} {is:List (Bool×List Nat)} (M:Nat) (h:IS W m v is) (hn:is.length<=1000000) (hmM:m<=M) (hM:M<=50000) (hv: ∀k,k<=is.length->(zBV is k).natAbs<BB^M):Calls prog 17 #[v] W (zGO W (zBV is is.length)):=by
 obtain ⟨A,c,rfl,h3,h4,h2⟩:=h
 exact (zLT A is.length c is m M W h2 h3 h4 hmM hM hv).mono fun _ _=>qS.v
end Go.Proofs.Wd

namespace Go.Proofs.Wd
open Tryz
set_option maxRecDepth 100000
set_option maxHeartbeats 1000000
open Go.RowKit Lb
attribute [local go_sem] Oper.semAt_some qF yI
theorem zHh (s:Bool) (A:WS Addr) (n c:Nat) (l:List Nat) (w:WQ) (h:Rd w A n c l) (ht:Lt l) (hl:n<=1099511627776):
  Calls prog 32 #[.agg #[.bool s, .slice A n c]] w (qS w (-iv s l)):=by
 go_enter func32,ntmps32
 go_wp2_with (go_at_call 30;refine (zAq (!s) A n c l _ ((h.alloc _).alloc _) ht hl).mono ?_;rintro e w1 ⟨A2,n2,c2,l2,rfl,hi2,hr2,hb⟩;have hq:=zKq hb (b:=w.heap.size+1) (by simp);obtain ⟨⟨q0,q1⟩,q2,q3⟩:=hq.facts2)
 obtain ⟨⟨c0,c1⟩,_,_⟩:=((hq.set 0 (.bool (decide (iv (!s) l<0)))).set 1 (.slice A2 n2 c2)).facts2
 refine eU (v:= .agg #[.bool (decide (iv (!s) l<0)), .slice A2 n2 c2]) (by simp [results,results32,go_sem,c0,c1]) rfl ?_
 rw [<-zPL]
 exact zG9 hq ((((eK _ w).alloc (eJ _) _).alloc (by simp) _).trans (hb.mono (by simp;omega))) (by simp) hi2 hr2
theorem zHg (s:Bool) (A:WS Addr) (n c:Nat) (l:List Nat) (s':Bool) (A':WS Addr) (n' c':Nat) (l':List Nat) (w:WQ) (h:Rd w A n c l) (ht:Lt l) (h':Rd w A' n' c' l') (ht':Lt l') (m:Nat) (hl:n<=m) (hl':n'<=m) (hm:m<=90000):
  Calls prog 16 #[.agg #[.bool s, .slice A n c], .agg #[.bool s', .slice A' n' c']] w (qS w (iv s l - iv s' l')):=by
 have hmix:prog.follows .mixedOrders=true:=by kernel_rfl
 go_enter func16,ntmps16
 go_wp2
 refine (fK (n:=0)).1 ?_
 obtain ⟨W0,hW0⟩: ∃W0,(((w.alloc (.cells #[.bool s, .slice A n c] 25)).alloc (.cells #[.bool s', .slice A' n' c'] 25)).alloc (.cells #[.bool false, .slice none 0 0] 25))=W0:=⟨_,rfl⟩
 have x0:q7 W0 w.heap.size 25 #[.bool s, .slice A n c]:=by rw [<-hW0];exact ((q7.new w _ _).alloc _).alloc _
 have x1:q7 W0 (w.heap.size+1) 25 #[.bool s', .slice A' n' c']:=by rw [<-hW0];exact (q7.at_ _ _ _ (by simp)).alloc _
 have x2:q7 W0 (w.heap.size+1+1) 25 #[.bool false, .slice none 0 0]:=by rw [<-hW0];exact q7.at_ _ _ _ (by simp)
 have hB0:Below w.heap.size w W0:=by rw [<-hW0];exact (((eK _ w).alloc (eJ _) _).alloc (by simp) _).alloc (by simp;omega) _
 rw [hW0]
 clear hW0
 refine yH 100 (fun W=>(W.cell? ⟨w.heap.size,0,none⟩=some (.bool s)/\W.cell? ⟨w.heap.size,1,none⟩=some (.slice A n c))/\W.cell? ⟨w.heap.size+1,0,none⟩=some (.bool s')/\W.cell? ⟨w.heap.size+1,1,none⟩=some (.slice A' n' c')) hmix ?_
 have d1:=And.intro x0.facts2.1 x1.facts2.1
 refine zW (i:=0) (v:= ?vv1) kB kB rfl kB kB kB (fun _ _ _ h=>h) d1 ⟨.inl ⟨rfl, ?yy1⟩,fun _=>rfl⟩ ?_
 case yy1=>
  rintro wx ⟨⟨q1,q2⟩,q3,q4⟩
  go_simp
  first|done|rfl
 refine zW (i:=1) (v:= ?vv2) kB kB rfl kB kB kB (fun _ _ _ h=>h) d1 ⟨.inl ⟨rfl, ?yy2⟩,fun _=>rfl⟩ ?_
 case yy2=>
  rintro wx ⟨⟨q1,q2⟩,q3,q4⟩
  go_simp
  first|done|rfl
 refine zAx (i:=2) kB rfl (fun K hK=> ?_)
 go_simp
 have hneg:=zHh s' A' n' c' l' _ ((h'.below hB0).drew) ht' oG
 obtain ⟨v2,hv2⟩: ∃v2,-iv s' l'=v2:=⟨_,rfl⟩
 rw [hv2] at hneg
 refine eP (eQ.2 hneg) ?_
 rintro e w2 ⟨A2,n2,c2,l2,rfl,hi2,hr2,hb2⟩
 have hB2:Below W0.heap.size W0 w2:=((eK _ W0).drew).trans hb2
 have d2:=And.intro (x0.kept hB2).facts2.1 (x1.kept hB2).facts2.1
 have hn2:n2<=m:=by
  rw [<-hr2.len]
  refine hi2.len ?_
  rw [<-hv2,Int.natAbs_neg]
  exact j9 ht' h'.len hl'
 refine hK _ _ (.inr d2) ?_
 clear hK K
 refine zAx (i:=3) kB rfl (fun K hK=> ?_)
 go_simp
 have hds:IRdM m _ _ _ _:=IRd.two (s:=s) (s':=decide (v2<0)) (h.below (hB0.trans (hB2.mono hB0.size))) ht oG hr2 hi2.lt oG 25
 have hW3:Below W0.heap.size W0 (w2.alloc (.cells #[.bool s, .slice A n c, .bool (decide (v2<0)), .slice A2 n2 c2] 25)):=hB2.alloc hB2.size _
 refine hK _ _ (.inr ⟨(x0.kept hW3).facts2.1,(x1.kept hW3).facts2.1⟩) ?_
 clear hK K
 refine zAx (i:=4) kB rfl (fun K hK=> ?_)
 go_simp
 have hvm:=zJS (s,l) (decide (v2<0),l2) m (j9 ht h.len hl) (j9 hi2.lt hr2.len hn2)
 have hsum:zDZ [(s,l),(decide (v2<0),l2)] 2=iv s l - iv s' l':=by
  show (0+iv s l)+iv (decide (v2<0)) l2=_
  rw [zB8 hi2]
  omega
 have hvs: ∀k,k<=2->(zDZ [(s,l),(decide (v2<0),l2)] k).natAbs<BB^(m+1):=by
  intro k hk
  have e0:=j9 (s:=s) ht h.len hl;have e2:=j9 (s:=s') ht' h'.len hl'
  have e3:0<BB^m:=Nat.pow_pos (by decide)
  rw [show BB^(m+1)=BB^m*4294967296 from by rw [fL];rfl]
  rcases (by omega:k=0∨k=1∨k=2) with rfl|rfl|rfl
  ·show (0:Int).natAbs<_
   rw [Int.natAbs_zero];omega
  ·show (0+iv s l).natAbs<_
   rw [Int.zero_add];omega
  ·rw [hsum];omega
 have hadd:=zHi _ 2 2 _ m (m+1) _ hds oG oG oG oG hvs
 rw [hsum] at hadd
 refine eP (eQ.2 hadd) ?_
 rintro e w3 ⟨A3,n3,c3,l3,rfl,hi3,hr3,hb3⟩
 have hB3:Below W0.heap.size W0 w3:=hW3.trans (hb3.mono hW3.size)
 have hq:=x2.kept hB3
 obtain ⟨⟨m0,m1⟩,m2,m3⟩:=hq.facts2
 refine hK _ _ (.inr ⟨(x0.kept hB3).facts2.1,(x1.kept hB3).facts2.1⟩) ?_
 clear hK K
 obtain ⟨v3,hv3⟩: ∃v3,iv s l - iv s' l'=v3:=⟨_,rfl⟩
 rw [hv3] at hi3
 simp only [hv3]
 refine zAx (i:=5) kB rfl (fun K hK=> ?_)
 go_simp
 refine hK _ _ (.inr ⟨((x0.kept hB3).other (p:=⟨w.heap.size+1+1,0,none⟩) (by simp;omega) _|>.other (p:=⟨w.heap.size+1+1,1,none⟩) (by simp;omega) _).facts2.1,((x1.kept hB3).other (p:=⟨w.heap.size+1+1,0,none⟩) (by simp) _|>.other (p:=⟨w.heap.size+1+1,1,none⟩) (by simp) _).facts2.1⟩) ?_
 clear hK K
 refine zCj kB ?_
 obtain ⟨⟨c0,c1⟩,_,_⟩:=((hq.set 0 (.bool (decide (v3<0)))).set 1 (.slice A3 n3 c3)).facts2
 go_wp2
 refine eU (v:= .agg #[.bool (decide (v3<0)), .slice A3 n3 c3]) (by simp [results,results16,go_sem,c0,c1]) rfl ?_
 rw [hv3]
 exact zG9 hq (hB0.trans (hB3.mono hB0.size)) oG hi3 hr3
theorem zLU (s:Bool) (A:WS Addr) (n c:Nat) (l:List Nat) (s':Bool) (A':WS Addr) (n' c':Nat) (l':List Nat) (w:WQ) (h:Rd w A n c l) (ht:Lt l) (h':Rd w A' n' c' l') (ht':Lt l') (m:Nat) (hl:n<=m) (hl':n'<=m) (hm:m<=90000):
  Calls prog 141 #[.agg #[.bool s, .slice A n c], .agg #[.bool s', .slice A' n' c']] w fun e w'=>e= .returned (.int .i64 (iv s l - iv s' l').sign)/\Below w.heap.size w w':=by
 have hb1:=((eK _ w).alloc (eJ _) (.cells #[.bool s, .slice A n c] 25)).alloc (by simp) (.cells #[.bool s', .slice A' n' c'] 25)
 have hsub:=zHg s A n c l s' A' n' c' l' _ (h.below hb1) ht (h'.below hb1) ht' m hl hl' hm
 obtain ⟨v3,hv3⟩: ∃v3,iv s l - iv s' l'=v3:=⟨_,rfl⟩
 have hbd:v3.natAbs<BB^(m+1):=by
  have e1:=j9 (s:=s) ht h.len hl;have e2:=j9 (s:=s') ht' h'.len hl'
  rw [fL]
  unfold BB at*
  omega
 rw [hv3] at hsub
 rw [hv3]
 go_enter func141,ntmps141
 go_wp2_with (first|(go_at_call 16;refine hsub.mono ?_;rintro e w2 ⟨A2,n2,c2,l2,rfl,hi2,hr2,hb2⟩)|(go_at_call 15;refine (zFJ _ A2 n2 c2 l2 _ hr2 hi2.lt (by rw [<-hr2.len];exact eO (hi2.len hbd) oG)).mono ?_;rintro e w3 ⟨rfl,hb3⟩))
 go_ret
 have hb4:=hb1.trans (hb2.mono hb1.size)
 exact ⟨by rw [zB8 hi2];rfl,hb4.trans (hb3.mono hb4.size)⟩
end Go.Proofs.Wd
