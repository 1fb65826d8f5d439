/- An array of limbs of the call's own, known whole; slices.Backward; A r and what it needs. -/
import Derived.Test.YtencnknhnckpaaaGreatDoorMRM3
import Derived.Test.YtencnknhnckpaaaGreatDoorMRM7
import Derived.Deep.OwnRows
import Derived.Test.YtencnknhnckpaaaGreatDoorMRM1
import Derived.BigQuiet
theorem kB {P:Prop} (h:P:=by kernel_rfl):P:=h
theorem oG {P:Prop} (h:P:=by omega):P:=h
abbrev cX:=@Nat.le_refl
abbrev cY:=@Go.RowKit.Below.refl
abbrev cZ:=@Go.Oper.semAt_some
abbrev eA:=@Nat.mul_add
abbrev eB:=@Nat.le_trans
abbrev eC:=@Go.CallsIn.mono
abbrev eD:=@Go.callsIn_wide
abbrev eE:=@List.length_set
abbrev eF:=@Nat.add_mul
abbrev eG:=@Nat.zero_le
abbrev eH:=@Go.bodyPost_ret
abbrev eI:=@List.size_toArray
abbrev eJ:=@List.length_cons
abbrev eK:=@List.length_nil
abbrev eL:=@Array.replicate_succ
abbrev eM:=@Array.replicate_zero
abbrev eO:=@List.push_toArray
abbrev eP:=@List.append_toArray
abbrev eQ:=@List.nil_append
abbrev eR:=@List.cons_append
abbrev eS:=@Go.KeepsOthers.setCell
abbrev eT:=@List.length_replicate
abbrev eU:=@Go.wpIn_wide
abbrev eV:=@Array.getElem?_eq_some_iff
abbrev eW:=@Go.World.cell?_setCell_other
abbrev eX:=@Nat.lt_of_lt_of_le
abbrev eY:=@Nat.mul_assoc
abbrev eZ:=@Nat.pow_succ
abbrev fC:=@Int.natCast_mul
abbrev fD:=@Nat.pow_le_pow_right
abbrev fE:=@Array.getElem?_eq_getElem
abbrev fF:=@Array.getElem_modify_self
abbrev WQ:=Go.World
abbrev WR:=Go.Value
abbrev WS:=Option
namespace Go.Proofs.Wd
open Tryz
set_option maxRecDepth 100000
set_option maxHeartbeats 1000000
open Go.RowKit Lb
attribute [local go_sem] Oper.semAt_some yX z4
def Arr (W:WQ) (b:Nat) (l:List Nat):Prop:=W.heap[b]?=some (.cells (zBd l).toArray 81 (0,0))
theorem Arr.lt {W:WQ} {b:Nat} {l:List Nat} (h:Arr W b l):b<W.heap.size:=(eV.1 h).1
theorem Arr.cell {W:WQ} {b:Nat} {l:List Nat} (h:Arr W b l) {i:Nat} (hi:i<l.length):W.cell? ⟨b,i,none⟩=some (.int .u32 (lm l i)):=by
 unfold World.cell?
 rw [show W.heap[b]?=_ from h]
 simp only [Option.isSome_none,Bool.false_eq_true,if_false,List.getElem?_toArray]
 exact zCp l i hi
theorem Arr.frozen {W:WQ} {b:Nat} {l:List Nat} (h:Arr W b l) (i:Nat):W.frozen? ⟨b,i,none⟩=false:=by
 unfold World.frozen?
 rw [show W.heap[b]?=_ from h]
 simp
theorem Arr.set {W:WQ} {b:Nat} {l:List Nat} (h:Arr W b l) (i x:Nat):Arr (W.setCell ⟨b,i,none⟩ (.int .u32 (x:Int))) b (l.set i x):=by
 unfold Arr at h ⊢
 have e:(zBd (l.set i x)).toArray=(zBd l).toArray.setIfInBounds i (.int .u32 (x:Int)):=by
  simp [zBd,List.map_set]
 rw [e]
 obtain ⟨hlt,hk⟩:=eV.1 h
 show (W.heap.modify b _)[b]?=_
 rw [fE (by rw [Array.size_modify];exact hlt),fF,hk]
 simp
theorem Arr.kept {W W':WQ} {b:Nat} {l:List Nat} (h:Arr W b l) (hk:W'.heap[b]?=W.heap[b]?):Arr W' b l:=hk.trans h
theorem Arr.alloc {W:WQ} {b:Nat} {l:List Nat} (h:Arr W b l) (o:Obj):Arr (W.alloc o) b l:=h.kept (Below.heap_alloc W o b h.lt)
theorem Arr.far {W:WQ} {b:Nat} {l:List Nat} (h:Arr W b l) {p:Addr} (hp:b≠p.block) (u:WR):Arr (W.setCell p u) b l:=h.kept (Below.heap_setCell W p u b hp)
theorem Arr.rd {W:WQ} {b:Nat} {l:List Nat} (h:Arr W b l) {n:Nat} (hn:l.length=n) (hb:n<=9223372036854775807):Rd W (some ⟨b,0,none⟩) n n l:=
 ⟨hn,cX _,hb,fun e=>(by cases e),fun i hi=>⟨b,0,rfl,by rw [Nat.zero_add];exact h.cell oG⟩⟩
theorem Arr.abide {W W':WQ} {row:WS Nat} {b C:Nat} {l:List Nat} (h:Arr W b l) (hg:W.grownBy W' row) (hr: ∀r,row=some r->C<=r/\ ∃o:Obj,W.heap[r]?=some o/\o.isCells=false):Arr W' b l:=
 h.kept (hg.block b h.lt fun e=>by
  obtain ⟨_,o,ho,hc⟩:=hr b e.symm
  rw [show W.heap[b]?=_ from h] at ho
  cases ho
  cases hc)
theorem zG5 (n:Nat):madeCells #[.int .u32 0] n=(zBd (List.replicate n 0)).toArray:=by
 apply Array.ext'
 simp [madeCells,zBd,Nat.mod_one,List.map_const']
theorem Arr.new (W:WQ) (n:Nat):Arr (W.alloc (.cells (madeCells #[.int .u32 0] n) 81)) W.heap.size (List.replicate n 0):=by
 rw [zG5]
 exact heap_alloc_new W _
theorem zOK (W:WQ) (n:Nat) {b:Nat} (hb:b=W.heap.size):Arr (W.alloc (.cells (madeCells #[.int .u32 0] n) 81)) b (List.replicate n 0):=by
 subst hb
 exact Arr.new W n
theorem zAU (n:Nat) (h:n<=17592186044416) (w:WQ):
  (Instr.makeSlice 28 (.int .i64 (n:Int)) (.int .i64 (n:Int))).run prog w= .ok (.slice (some ⟨w.heap.size,0,none⟩) n n) (w.alloc (.cells (madeCells #[.int .u32 0] n) 81)):=
 run_make_row' 28 81 (.int .u32 0) 4 z7 yJ rfl .i64 .i64 n oG oG w
theorem zE6 (A:WS Addr) (n c:Nat) (l:List Nat) (b1:Nat) (w0:WQ) (h:Rd w0 A n c l)
  (hc1:w0.cell? ⟨b1,0,none⟩=some (.slice A n c)) {S:Nat->Prop} (hS: ∀b,S b->b<w0.heap.size) (hS1:S b1) (hSA: ∀b o,0<n->A=some ⟨b,o,none⟩->S b):
  zR7 prog 135 #[.pointer (some ⟨b1,0,none⟩)] (fun k=>#[.int .i64 (n - 1 - k:Nat), .int .u32 (lm l (n - 1 - k):Nat)]) n (yO S) Mk (fun _=>True) w0:=by
 intro lp J W hW hJ hY h0
 have hle:=h.le;have hcap:=h.cap
 have hl1:=zV hc1
 have hw1:=(hW.cell (p:=⟨b1,0,none⟩) hl1).trans hc1
 refine zBj func135 rfl ?_
 simp only [ntmps135,eI,eJ,eK,Nat.reduceAdd,Nat.reduceSub,eL,eM,eO,eP,eQ,eR]
 gi_wp2
 gi_loopw [3] (fun i wr=> ∃j:Nat,j<=n/\i= .int .i64 ((j:Int) - 1)/\J (n - j) wr/\yO S w0 wr) (fun i _=>(intOf i+1).toNat)
 case atStart=>exact ⟨n,cX _,rfl,by rw [Nat.sub_self];exact h0,yO.of_below hW hS⟩
 case round=>
  obtain ⟨j,hj,rfl,hJ1,hb⟩:=hrel
  by_cases hj0:0<j
  ·obtain ⟨b,o,rfl,hc⟩:=(h.keepS hb hSA).cells (j - 1) oG
   have hr1:=(hb.cell (p:=⟨b1,0,none⟩) hS1).trans hc1
   have e1:((j:Int) - 1).toNat=j - 1:=by omega
   obtain ⟨fn,tmps,assign,body,hy,hR⟩:=hY (n - j) wr oG hJ1
   rw [show n - 1 - (n - j)=j - 1 from by omega,show ((j - 1:Nat):Int)=(j:Int) - 1 from by omega] at hy
   have hRn:n - j+1=n - (j - 1):=by omega
   rw [hRn] at hR
   clear hRn
   gi_wp2
   refine hR.mono ?_
   rintro e W3 ⟨rfl,hJ3,hk3⟩
   clear hy
   gi_wp2
   go_roundw
   case rel=>exact ⟨j - 1,by omega,by congr 1;omega,hJ3,hb.trans hk3⟩
   case measure=>simp [intOf];omega
  ·obtain rfl:j=0:=by omega
   gi_wp2
   go_end0
   exact ⟨⟨_,rfl⟩,hJ1,trivial⟩
theorem zHj (A:WS Addr) (n c:Nat) (w:WQ):
  Calls prog 127 #[.slice A n c] w fun e w'=>e= .returned (.func (.func 135) #[] #[.pointer (some ⟨w.heap.size,0,none⟩)])/\
   w.alloc (.cells #[.slice A n c] 28)=w':=by
 go_enter func127,ntmps127
 go_wp2
 go_ret
 exact ⟨rfl,rfl⟩
def Row (W:WQ) (R c:Nat) (l:List Nat):Prop:= ∃cs:Array WR,W.heap[R]?=some (.cells cs 81 (0,0))/\cs.size=c/\l.length<=c/\c<=9223372036854775807/\cs.toList.take l.length=zBd l
theorem Row.lt {W:WQ} {R c:Nat} {l:List Nat} (h:Row W R c l):R<W.heap.size:=by
 obtain ⟨cs,h1,_⟩:=h
 exact (eV.1 h1).1
theorem Row.kept {W W':WQ} {R c:Nat} {l:List Nat} (h:Row W R c l) (hk:W'.heap[R]?=W.heap[R]?):Row W' R c l:=by
 obtain ⟨cs,h1,h2⟩:=h
 exact ⟨cs,hk.trans h1,h2⟩
theorem Row.get {l:List Nat} {cs:Array WR} (h:cs.toList.take l.length=zBd l) {i:Nat} (hi:i<l.length):cs[i]?=some (.int .u32 (lm l i)):=by
 rw [<-Array.getElem?_toList, <-List.getElem?_take_of_lt hi,h]
 exact zCp l i hi
theorem Row.cell {W:WQ} {R c:Nat} {l:List Nat} (h:Row W R c l) {i:Nat} (hi:i<l.length):W.cell? ⟨R,i,none⟩=some (.int .u32 (lm l i)):=by
 obtain ⟨cs,h1,h2,h3,h4,h5⟩:=h
 unfold World.cell?
 rw [h1]
 simp only [Option.isSome_none,Bool.false_eq_true,if_false]
 exact Row.get h5 hi
theorem Row.frozen {W:WQ} {R c:Nat} {l:List Nat} (h:Row W R c l) (i:Nat):W.frozen? ⟨R,i,none⟩=false:=by
 obtain ⟨cs,h1,h2⟩:=h
 unfold World.frozen?
 rw [h1]
 simp
theorem Row.cap {W:WQ} {R c:Nat} {l:List Nat} (h:Row W R c l):l.length<=c/\c<=9223372036854775807:=by
 obtain ⟨cs,h1,h2,h3,h4,h5⟩:=h
 exact ⟨h3,h4⟩
theorem Row.set {W:WQ} {R c:Nat} {l:List Nat} (h:Row W R c l) (i x:Nat):Row (W.setCell ⟨R,i,none⟩ (.int .u32 (x:Int))) R c (l.set i x):=by
 obtain ⟨cs,h1,h2,h3,h4,h5⟩:=h
 refine ⟨cs.setIfInBounds i (.int .u32 (x:Int)), ?_,by simpa using h2,by simpa using h3,h4, ?_⟩
 ·obtain ⟨hlt,hk⟩:=eV.1 h1
  show (W.heap.modify R _)[R]?=_
  rw [fE (by rw [Array.size_modify];exact hlt),fF,hk]
  simp
 ·rw [eE,Array.toList_setIfInBounds,List.take_set,h5]
  simp [zBd,List.map_set]
theorem Row.rd {W:WQ} {R c:Nat} {l:List Nat} (h:Row W R c l):Rd W (some ⟨R,0,none⟩) l.length c l:=
 ⟨rfl,h.cap.1,h.cap.2,fun e=>(by cases e),fun i hi=>⟨R,0,rfl,by rw [Nat.zero_add];exact h.cell hi⟩⟩
theorem Row.of_own {w:WQ} {base:Nat} {A:WS Addr} {n c:Nat} {l:List Nat} (h:zZ w base 81 (.slice A n c) l) (hl:0<l.length): ∃R,A=some ⟨R,0,none⟩/\n=l.length/\base<=R/\Row w R c l:=by
 obtain ⟨h1,h2⟩:=h
 rcases h2 with ⟨hv,hn⟩|⟨g,cap,cur,hv,hg,hh,hnc,hcm,hcs,ht⟩
 ·omega
 ·injection hv with a1 a2 a3
  subst a1;subst a3
  exact ⟨g,rfl,a2,hg,cur,hh,by simpa using hcs,hnc,by unfold maxLen at hcm;omega,by simpa using ht⟩
def win (l:List Nat) (at_ k:Nat):Nat:=sm (fun i=>lm l (at_+i)) k
theorem zAs (l:List Nat) (at_ k:Nat):win l at_ (k+1)=win l at_ k+lm l (at_+k)*BB^k:=rfl
theorem zN3 {l:List Nat} (h:Lt l) (at_ k:Nat):win l at_ k<BB^k:=zHD fun _ _=>y7 h _
theorem zH6 {l:List Nat} {at_:Nat} (k:Nat):sm (lm (l.drop at_)) k=win l at_ k:=zAv fun _ _=>zCO
theorem zJT {l l':List Nat} {at_ k:Nat} (h: ∀i,i<k->lm l (at_+i)=lm l' (at_+i)):win l at_ k=win l' at_ k:=zAv h
theorem zEd {l:List Nat} {at_ k z:Nat}:win (l.set (at_+k) z) at_ k=win l at_ k:=by
 refine zJT fun i hi=> ?_
 by_cases h:at_+k<l.length
 ·rw [zAA h,if_neg oG]
 ·rw [List.set_eq_of_length_le oG]
structure LongAt (W:World) (D R rc:Nat) (lr:List Nat) (A:Option Addr) (n c:Nat) (lb:List Nat):Prop where
 box:qW W D 165 #[.slice (some ⟨R,0,none⟩) lr.length rc, .slice A n c]
 row:Row W R rc lr
 by_:Rd W A n c lb
 ne:D≠R
 far: ∀b o,0<n->A=some ⟨b,o,none⟩->b≠R
theorem LongAt.grown {W W':WQ} {D R rc:Nat} {lr lr':List Nat} {A:WS Addr} {n c:Nat} {lb:List Nat} (h:LongAt W D R rc lr A n c lb) (hg:W.grownBy W' (some R)) (hr:Row W' R rc lr') (hl:lr'.length=lr.length):LongAt W' D R rc lr' A n c lb:=by
 refine ⟨?_,hr, ?_,h.ne,h.far⟩
 ·rw [hl]
  exact (hg.block D h.box.lt (fun e=>h.ne (by injection e))).trans h.box
 ·refine ⟨h.by_.len,h.by_.le,h.by_.cap,h.by_.nil,fun i hi=> ?_⟩
  obtain ⟨b,o,e,hc⟩:=h.by_.cells i hi
  exact ⟨b,o,e,(World.cell?_of_block (hg.block b (zV hc) (fun e'=>h.far b o oG e (by injection e')))).trans hc⟩
end Go.Proofs.Wd

namespace Go.Proofs.Wd
open Tryz
set_option maxRecDepth 100000
set_option maxHeartbeats 1000000
open Go.RowKit Lb
attribute [local go_sem] Oper.semAt_some yX z4
def zOL (w:WQ) (l:List Nat) (m n:Nat) (k:Nat) (W:WQ):Prop:=
 ∃lq, ∃o:Nat,Arr W (w.heap.size+1+1) lq/\lq.length=n/\Lt lq/\Boxed W (w.heap.size+1) 28 (.slice (some ⟨w.heap.size+1+1,0,none⟩) n n)/\Boxed W w.heap.size 81 (.int .u32 m)/\
  Boxed W (w.heap.size+1+1+1) 103 (.int .u64 o)/\o<m/\val (l.drop (n - k))=m*val (lq.drop (n - k))+o/\Below w.heap.size w W/\w.heap.size+5<=W.heap.size
theorem zAr {W:WQ} {b:Nat} {t:TypeId} {v:WR} (h:Boxed W b t v) {p:Addr} (hp:b≠p.block) (u:WR):Boxed (W.setCell p u) b t v:=(Below.heap_setCell W p u b hp).trans h
theorem Rd.setBox {w:WQ} {A:WS Addr} {n c:Nat} {l:List Nat} (h:Rd w A n c l) {b:Nat} {t:TypeId} {u:WR} (hb:Boxed w b t u) (hu: ∀x,u≠ .int .u32 x) (v:WR):Rd (w.setCell ⟨b,0,none⟩ v) A n c l:=
 ⟨h.len,h.le,h.cap,h.nil,fun i hi=>by
  obtain ⟨b',o,e,hc⟩:=h.cells i hi
  refine ⟨b',o,e,(eW _ _ _ _ ?_).trans hc⟩
  intro he
  simp only [Addr.mk.injEq,and_true] at he
  obtain ⟨rfl,he2⟩:=he
  first|rw [<-he2] at hc|rw [he2] at hc
  rw [Boxed.cell hb] at hc
  exact hu _ (Option.some.inj hc)⟩
theorem zFd (w:WQ) (l:List Nat) (m n:Nat) {C:Nat} (hC:w.heap.size<=C):OwnFrom C (zOL w l m n):=by
 rintro k W W' row ⟨lq,o,ha,hl,hlt,hq,hb,ho,hom,hv,hB,h5⟩ hg hr
 exact ⟨lq,o,ha.abide hg hr,hl,hlt,y8 hq hg hr,y8 hb hg hr,y8 ho hg hr,hom,hv,j7 hB hg (cX _) hC hr,eB h5 hg.size⟩
theorem zJh (o x m:Nat) (hm:0<m) (hm2:m<4294967296) (ho:o<m) (hx:x<4294967296):
  ∃d q r:Nat,bits .or .u64 ((o:Int)*4294967296) (x:Int)=(d:Int)/\d<18446744073709551616/\(d:Int) / (m:Int)=(q:Int)/\(d:Int) % (m:Int)=(r:Int)/\q<4294967296/\r<m/\o*4294967296+x=m*q+r:=by
 have hd:o*4294967296+x<m*4294967296:=by
  have:(o+1)*4294967296<=m*4294967296:=Nat.mul_le_mul_right _ ho
  omega
 refine ⟨o*4294967296+x,(o*4294967296+x) / m,(o*4294967296+x) % m,zD1 o x oG hx,by omega,by rw [Int.natCast_ediv],by rw [Int.natCast_emod],Nat.div_lt_of_lt_mul hd,Nat.mod_lt _ hm,(Nat.div_add_mod _ _).symm⟩
theorem zKd (A:WS Addr) (n c:Nat) (l:List Nat) (m:Nat) (w:WQ) (h:Rd w A n c l) (ht:Lt l) (hm:0<m) (hm2:m<4294967296) (hn:n<=1099511627776):
  Calls prog 122 #[.slice A n c, .int .u32 m] w fun e w'=> ∃A1 n1 c1 l1,e= .returned (.tuple #[.slice A1 n1 c1, .int .u32 (val l % m:Nat), .int .i64 0])/\Is l1 (val l / m)/\Rd w' A1 n1 c1 l1/\Below w.heap.size w w':=by
 have hm0:((m:Int)==0)=false:=by simp only [beq_eq_false_iff_ne,ne_eq];omega
 have hmk:=fun wx=>zAU n oG wx
 refine qY func122 rfl ?_
 simp only [ntmps122,eI,eJ,eK,Nat.reduceAdd,Nat.reduceSub,eL,eM,eO,eP,eQ,eR]
 go_wp2_with (go_at_call 127;refine (zHj A n c _).mono ?_;rintro e w1 ⟨rfl,rfl⟩)
 obtain ⟨W0,hW0⟩: ∃W0,(((((w.alloc (.cells #[.int .u32 m] 81)).alloc (.cells #[.slice (some ⟨w.heap.size+1+1,0,none⟩) n n] 28)).alloc (.cells (madeCells #[.int .u32 0] n) 81)).alloc (.cells #[.int .u64 0] 103)).alloc (.cells #[.slice A n c] 28))=W0:=⟨_,rfl⟩
 have hsz:W0.heap.size=w.heap.size+5:=by rw [<-hW0];simp
 have hB0:Below w.heap.size w W0:=by rw [<-hW0];exact (((((cY _ w).alloc (cX _) _).alloc (by simp) _).alloc (by simp;omega) _).alloc (by simp;omega) _).alloc (by simp;omega) _
 have b0:Boxed W0 w.heap.size 81 (.int .u32 m):=by rw [<-hW0];exact (((((zAR _ _ _ (by simp)).alloc _).alloc _).alloc _).alloc _)
 have b1:Boxed W0 (w.heap.size+1) 28 (.slice (some ⟨w.heap.size+1+1,0,none⟩) n n):=by rw [<-hW0];exact ((((zAR _ _ _ (by simp)).alloc _).alloc _).alloc _)
 have b2:Arr W0 (w.heap.size+1+1) (List.replicate n 0):=by rw [<-hW0];exact (((zOK _ n (by simp)).alloc _).alloc _)
 have b3:Boxed W0 (w.heap.size+1+1+1) 103 (.int .u64 0):=by rw [<-hW0];exact ((zAR _ _ _ (by simp)).alloc _)
 have b4:Boxed W0 (w.heap.size+1+1+1+1) 28 (.slice A n c):=by rw [<-hW0];exact (zAR _ _ _ (by simp))
 rw [hW0]
 clear hW0
 have hSb: ∀b,(b<w.heap.size∨b=w.heap.size+1+1+1+1)->b<W0.heap.size:=fun b hb=>by omega
 refine zDS (gf:=135) rfl (enters_of func135 kB rfl) (zE6 A n c l (w.heap.size+1+1+1+1) W0 (h.below hB0) b4.cell (S:=fun b=>b<w.heap.size∨b=w.heap.size+1+1+1+1) hSb (.inr rfl) (fun b o hn e=> .inl (h.in_ b o hn e))) (fun _=>rfl) yO.trans (zDu hSb)
  (zOL w l m n) (zFd w l m n oG) (zBY (zFd w l m n (cX _))) wR (fun _ _ _ _ _ _ _ _=>trivial)
  ⟨List.replicate n 0,0,b2,by simp,jL n,b1,b0,b3,hm,by rw [Nat.sub_zero,List.drop_of_length_le (by rw [h.len];omega),List.drop_of_length_le (by simp)];rfl,hB0,by omega⟩
  (fun k=>{ tmps:=#[.slice A n c, .int .u32 m,undef, .pointer (some ⟨w.heap.size,0,none⟩), .pointer (some ⟨w.heap.size+1,0,none⟩), .int .u32 0, .int .i64 0, .pointer (some ⟨w.heap.size+1+1+1,0,none⟩), .int .i64 (n - 1 - k:Nat), .int .u32 (lm l (n - 1 - k):Nat), .int .u32 m, .bool false, .slice A n c, .int .i64 n, .slice (some ⟨w.heap.size+1+1,0,none⟩) n n, .slice A n c, .func (.func 135) #[] #[.pointer (some ⟨w.heap.size+1+1+1+1,0,none⟩)], .int .i64 (n - 1 - k:Nat), .int .u32 (lm l (n - 1 - k):Nat),undef,undef,undef,undef,undef,undef,undef,undef,undef,undef,undef,undef,undef,undef,undef,undef,undef,undef,undef,undef,undef],defers:= [] }) ?_ ?_ ?_
 ·intro lp k W K hK
  gi_wp2
  exact hK
 ·rintro lp k W hk ⟨lq,o,ha,hlq,hltq,hq,hb,ho,hom,hv,hB,h5⟩
  obtain ⟨j,hj,hjn⟩: ∃j,n - 1 - k=j/\j<n/\n - k=j+1/\n - (k+1)=j:=⟨n - 1 - k,rfl,by omega,by omega,by omega⟩
  rw [hj]
  clear hj
  have hcq:=hq.cell;have hfq:=hq.frozen;have hcb:=hb.cell;have hco:=ho.cell;have hfo:=ho.frozen
  have x1:=y7 ht j
  simp only [BB] at x1
  have hcj:=ha.cell (i:=j) oG
  have hfj:=ha.frozen j
  have hmix:prog.follows .mixedOrders=true:=by kernel_rfl
  have ho32:o<4294967296:=by omega
  obtain ⟨d,q,r,hd,hd1,hdq,hdr,hq32,hrm,hstep⟩:=zJh o (lm l j) m hm hm2 hom x1
  have HS:=hid (And.intro hstep hjn)
  have hj0:j<n:=hjn.1
  clear hstep hjn
  gi_wp2
  obtain ⟨W9,hW9⟩: ∃W9,W.setCell ⟨w.heap.size+1+1+1,0,none⟩ (.int .u64 (d:Int))=W9:=⟨_,rfl⟩
  have ho9:Boxed W9 (w.heap.size+1+1+1) 103 (.int .u64 d):=by rw [<-hW9];exact ho.set _
  have hq9:Boxed W9 (w.heap.size+1) 28 (.slice (some ⟨w.heap.size+1+1,0,none⟩) n n):=by rw [<-hW9];exact hq.other oG _
  have hb9:Boxed W9 w.heap.size 81 (.int .u32 m):=by rw [<-hW9];exact hb.other oG _
  have ha9:Arr W9 (w.heap.size+1+1) lq:=by rw [<-hW9];exact ha.far (by simp) _
  have hk9:KeepsOthers W W9:=by rw [<-hW9];exact eS _ _ _
  have hB9:Below w.heap.size W W9:=by rw [<-hW9];exact (cY _ _).setCell (p:=⟨w.heap.size+1+1+1,0,none⟩) (by simp;omega) _
  have hS9:yO (fun b=>b<w.heap.size∨b=w.heap.size+1+1+1+1) W W9:=by rw [<-hW9];exact (yO.refl _ _).setCell (p:=⟨w.heap.size+1+1+1,0,none⟩) (by simp;omega) _
  rw [hW9]
  clear hW9 hcq hfq hcb hco hfo hcj hfj
  refine zY 13 (fun W=>W.cell? ⟨w.heap.size+1,0,none⟩=some (.slice (some ⟨w.heap.size+1+1,0,none⟩) n n)/\W.cell? ⟨w.heap.size+1+1+1,0,none⟩=some (.int .u64 d)/\W.cell? ⟨w.heap.size,0,none⟩=some (.int .u32 m)) hmix ?_
  have d1:W9.drew.cell? ⟨w.heap.size+1,0,none⟩=some (.slice (some ⟨w.heap.size+1+1,0,none⟩) n n):=hq9.cell
  have d2:W9.drew.cell? ⟨w.heap.size+1+1+1,0,none⟩=some (.int .u64 d):=ho9.cell
  have d3:W9.drew.cell? ⟨w.heap.size,0,none⟩=some (.int .u32 m):=hb9.cell
  have z1:W9.drew.cell? ⟨w.heap.size+1+1,j,none⟩=some (.int .u32 (lm lq j)):=ha9.cell oG
  have z2:W9.drew.frozen? ⟨w.heap.size+1+1,j,none⟩=false:=ha9.frozen j
  have g1:=IntWalk.u64_in (m:Int) oG
  have g2:=IntWalk.u64_in (q:Int) oG
  have g3:=IntWalk.u32_in (q:Int) oG
  have g4: ¬(m:Int)=0:=by omega
  have g6: ¬m=0:=by omega
  have g5:(q:Int) % 4294967296=(q:Int):=by omega
  have e2:=ho9.cell;have e3:=ho9.frozen
  have g7:(d:Int).tmod (m:Int)=(r:Int):=by rw [Int.tmod_eq_emod_of_nonneg (Int.natCast_nonneg d)];exact hdr
  have z3:W9.drew.frozen? ⟨w.heap.size+1+1+1,0,none⟩=false:=ho9.frozen
  refine zO (i:=0) (v:= ?vv1) kB kB rfl kB kB kB (fun _ _ _ h=>h) ⟨d1,d2,d3⟩ ⟨.inl ⟨rfl, ?yy1⟩,fun _=>rfl⟩ ?_
  case yy1=>
   rintro wx ⟨q1,q2,q3⟩
   go_simp
   first|done|rfl
  refine zO (i:=1) (v:= ?vv2) kB kB rfl kB kB kB (fun _ _ _ h=>h) ⟨d1,d2,d3⟩ ⟨.inl ⟨rfl, ?yy2⟩,fun _=>rfl⟩ ?_
  case yy2=>
   rintro wx ⟨q1,q2,q3⟩
   go_simp
   first|done|rfl
  refine zO (i:=2) (v:= ?vv3) kB kB rfl kB kB kB (fun _ _ _ h=>h) ⟨d1,d2,d3⟩ ⟨.inl ⟨rfl, ?yy3⟩,fun _=>rfl⟩ ?_
  case yy3=>
   rintro wx ⟨q1,q2,q3⟩
   go_simp
   first|done|rfl
  refine zO (i:=3) (v:= ?vv4) kB kB rfl kB kB kB (fun _ _ _ h=>h) ⟨d1,d2,d3⟩ ⟨.inl ⟨rfl, ?yy4⟩,fun _=>rfl⟩ ?_
  case yy4=>
   rintro wx ⟨q1,q2,q3⟩
   go_simp
   first|done|rfl
  refine zO (i:=4) (v:= ?vv5) kB kB rfl kB kB kB (fun _ _ _ h=>h) ⟨d1,d2,d3⟩ ⟨.inl ⟨rfl, ?yy5⟩,fun _=>rfl⟩ ?_
  case yy5=>
   rintro wx ⟨q1,q2,q3⟩
   go_simp
   first|done|rfl
  refine zO (i:=5) (v:= ?vv6) kB kB rfl kB kB kB (fun _ _ _ h=>h) ⟨d1,d2,d3⟩ ⟨.inl ⟨rfl, ?yy6⟩,fun _=>rfl⟩ ?_
  case yy6=>
   rintro wx ⟨q1,q2,q3⟩
   go_simp
   first|done|rfl
  refine zO (i:=6) (v:= ?vv7) kB kB rfl kB kB kB (fun _ _ _ h=>h) ⟨d1,d2,d3⟩ ⟨.inl ⟨rfl, ?yy7⟩,fun _=>rfl⟩ ?_
  case yy7=>
   rintro wx ⟨q1,q2,q3⟩
   go_simp
   first|done|rfl
  refine zO (i:=7) (v:= ?vv8) kB kB rfl kB kB kB (fun _ _ _ h=>h) ⟨d1,d2,d3⟩ ⟨.inl ⟨rfl, ?yy8⟩,fun _=>rfl⟩ ?_
  case yy8=>
   rintro wx ⟨q1,q2,q3⟩
   go_simp
   first|done|rfl
  refine zO (i:=8) (v:= ?vv9) kB kB rfl kB kB kB (fun _ _ _ h=>h) ⟨d1,d2,d3⟩ ⟨.inl ⟨rfl, ?yy9⟩,fun _=>rfl⟩ ?_
  case yy9=>
   rintro wx ⟨q1,q2,q3⟩
   go_simp
   first|done|rfl
  refine zO (i:=9) (v:= ?vv10) kB kB rfl kB kB kB (fun _ _ _ h=>h) ⟨d1,d2,d3⟩ ⟨.inl ⟨rfl, ?yy10⟩,fun _=>rfl⟩ ?_
  case yy10=>
   rintro wx ⟨q1,q2,q3⟩
   go_simp
   first|done|rfl
  refine zO (i:=10) (v:= ?vv11) kB kB rfl kB kB kB (fun _ _ _ h=>h) ⟨d1,d2,d3⟩ ⟨.inl ⟨rfl, ?yy11⟩,fun _=>rfl⟩ ?_
  case yy11=>
   rintro wx ⟨q1,q2,q3⟩
   go_simp
   first|done|rfl
  refine zO (i:=11) (v:= ?vv12) kB kB rfl kB kB kB (fun _ _ _ h=>h) ⟨d1,d2,d3⟩ ⟨.inl ⟨rfl, ?yy12⟩,fun _=>rfl⟩ ?_
  case yy12=>
   rintro wx ⟨q1,q2,q3⟩
   go_simp
   first|done|rfl
  refine zAh (i:=12) kB rfl (fun K hK=> ?_)
  go_simp
  refine hK _ _ (.inr ?_) ?_
  ·exact ⟨(eW _ _ _ _ (by simp)).trans d1,(eW _ _ _ _ (by simp)).trans d2,(eW _ _ _ _ (by simp)).trans d3⟩
  clear hK K
  refine zAh (i:=13) kB rfl (fun K hK=> ?_)
  go_simp
  refine hK _ _ (.inl rfl) ?_
  clear hK K
  refine zB2 kB ?_
  clear g1 g2 g3 g4 g5 g6 g7
  gi_wp2
  have hno:w.heap.size+1+1≠w.heap.size+1+1+1:=by omega
  have haF:=(ha9.set j q).far (p:=⟨w.heap.size+1+1+1,0,none⟩) hno (.int .u64 r)
  have hqF:=(hq9.other (B':=w.heap.size+1+1) oG (.int .u32 q))
  have hkF:KeepsOthers W (((W9.setCell ⟨w.heap.size+1+1,j,none⟩ (.int .u32 (q:Int))).setCell ⟨w.heap.size+1+1+1,0,none⟩ (.int .u64 (r:Int))).drew):=(hk9.trans (eS _ _ _)).trans ((eS _ _ _).trans (KeepsOthers.drew _))
  refine ⟨hkF.from _,(((hS9.setCell (p:=⟨w.heap.size+1+1,j,none⟩) (by simp;omega) _).setCell (p:=⟨w.heap.size+1+1+1,0,none⟩) (by simp;omega) _).drew),lq.set j q,r,haF,by rw [eE];exact hlq,zCl hltq hq32, ?_, ?_, ?_,hrm, ?_,(((hB.trans hB9).setCell (p:=⟨w.heap.size+1+1,j,none⟩) (by simp;omega) _).setCell (p:=⟨w.heap.size+1+1+1,0,none⟩) (by simp;omega) _).drew,eB h5 hkF.size⟩
  ·exact zAr (zAr hq9 (p:=⟨w.heap.size+1+1,j,none⟩) (by simp) _) (p:=⟨w.heap.size+1+1+1,0,none⟩) (by simp) _
  ·exact zAr (zAr hb9 (p:=⟨w.heap.size+1+1,j,none⟩) (by simp;omega) _) (p:=⟨w.heap.size+1+1+1,0,none⟩) (by simp;omega) _
  ·exact (zAr ho9 (p:=⟨w.heap.size+1+1,j,none⟩) (by simp) _).set _
  ·obtain ⟨hst,_,e1,e2⟩:=HS.out
   rw [e2]
   rw [e1] at hv
   have v1:=zBf (l:=l) (k:=j) (by rw [h.len];omega)
   have v2:=zBf (l:=lq.set j q) (k:=j) (by rw [eE];omega)
   have hds:(lq.set j q).drop (j+1)=lq.drop (j+1):=List.drop_set_of_lt oG
   rw [zAA oG,if_pos rfl,hds] at v2
   rw [v1,v2,hv,eA,eA,Nat.mul_left_comm m BB]
   simp only [BB]
   omega
 ·rintro D W hD ⟨lq,o,ha,hlq,hltq,hq,hb,ho,hom,hv,hB,h5⟩ _ hd
  have hmix:prog.follows .mixedOrders=true:=by kernel_rfl
  go_wp2_with fail
  refine (eU (n:=0)).1 ?_
  refine zY 100 (fun W=>W.cell? ⟨w.heap.size+1+1+1,0,none⟩=some (.int .u64 o)) hmix ?_
  have d1:W.drew.cell? ⟨w.heap.size+1+1+1,0,none⟩=some (.int .u64 o):=ho.cell
  have hcq:=hq.cell;have hfq:=hq.frozen
  have g1:(o:Int) % 4294967296=(o:Int):=by omega
  have g2:=IntWalk.u32_in (o:Int) oG
  refine zO (i:=2) (v:= ?vv13) kB kB rfl kB kB kB (fun _ _ _ h=>h) d1 ⟨.inl ⟨rfl, ?yy13⟩,fun _=>rfl⟩ ?_
  case yy13=>
   rintro wx q1
   go_simp
   first|done|rfl
  refine zO (i:=3) (v:= ?vv14) kB kB rfl kB kB kB (fun _ _ _ h=>h) d1 ⟨.inl ⟨rfl, ?yy14⟩,fun _=>rfl⟩ ?_
  case yy14=>
   rintro wx q1
   go_simp
   first|done|rfl
  refine zAh (i:=0) kB rfl (fun K hK=> ?_)
  go_simp
  refine hK _ _ (.inr d1) ?_
  clear hK K
  refine zAh (i:=1) kB rfl (fun K hK=> ?_)
  go_simp
  have hrA:=(ha.rd hlq oG).drew
  refine eC (eD.2 (qF _ n n lq W.drew hrA hltq hn)) ?_
  rintro e w2 ⟨A2,n2,c2,l2,rfl,hi2,hr2,hb2⟩
  have hq2:Boxed w2 (w.heap.size+1) 28 (.slice (some ⟨w.heap.size+1+1,0,none⟩) n n):=(hb2.block _ hq.lt).trans hq
  have ho2:Boxed w2 (w.heap.size+1+1+1) 103 (.int .u64 o):=(hb2.block _ ho.lt).trans ho
  have hc2:=hq2.cell;have hf2:=hq2.frozen
  refine hK _ _ (.inr ho2.cell) ?_
  clear hK K
  refine zAh (i:=4) kB rfl (fun K hK=> ?_)
  go_simp
  refine hK _ _ (.inr ((ho2.other oG _).cell)) ?_
  clear hK K
  refine zAh (i:=5) kB rfl (fun K hK=> ?_)
  go_simp
  refine hK _ _ (.inr ((ho2.other oG _).cell)) ?_
  clear hK K
  refine zAh (i:=6) kB rfl (fun K hK=> ?_)
  go_simp
  refine hK _ _ (.inr ((ho2.other oG _).cell)) ?_
  clear hK K
  refine zB2 kB ?_
  go_wp2
  have hw3:Boxed (w2.setCell ⟨w.heap.size+1,0,none⟩ (.slice A2 n2 c2)) (w.heap.size+1) 28 (.slice A2 n2 c2):=hq2.set _
  have hM:Marks (w.heap.size) (w2.setCell ⟨w.heap.size+1,0,none⟩ (.slice A2 n2 c2)) [mark D] [D]:=(((Marks.nil w.heap.size W).more (D:=D) (by simp) oG hd).made ((cY _ W).drew.trans hb2)).others (eS _ _ _)
  have hb3:Below w.heap.size w (w2.setCell ⟨w.heap.size+1,0,none⟩ (.slice A2 n2 c2)):=(hB.trans (((cY _ W).drew.trans hb2).mono hB.size)).setCell (p:=⟨w.heap.size+1,0,none⟩) (by simp) _
  have hr3:Rd (w2.setCell ⟨w.heap.size+1,0,none⟩ (.slice A2 n2 c2)) A2 n2 c2 l2:=hr2.setBox hq2 (fun _=>by simp) _
  have h6:val l=m*val lq+o:=by
   rw [Nat.sub_self,List.drop_zero,List.drop_zero] at hv
   exact hv
  have h7:val l / m=val lq:=by rw [h6,Nat.mul_add_div hm,Nat.div_eq_of_lt hom];rfl
  have h8:val l % m=o:=by rw [h6,Nat.mul_add_mod,Nat.mod_eq_of_lt hom]
  rw [<-h7] at hi2
  refine y2 _ (v:= .tuple #[.slice A2 n2 c2, .int .u32 o, .int .i64 0]) (fun w' ho'=> ?_) [D] _ _ hM (Oth.refl _ _) ?_
  ·have hc4:=(Boxed.oth hw3 ho').cell
   simp [results,go_sem,hc4]
  ·intro w' ho
   exact ⟨A2,n2,c2,l2,by rw [h8],hi2,hr3.oth ho,j5 hb3 ho (cX _)⟩
end Go.Proofs.Wd

namespace Go.Proofs.Wd
open Tryz
set_option maxRecDepth 100000
set_option maxHeartbeats 1000000
open Go.RowKit Lb
attribute [local go_sem] Oper.semAt_some yX z4
theorem zMp {l:List Nat} (h:l.length=1):val l=lm l 0:=by
 unfold val
 rw [h]
 simp [sm]
theorem zNc {l:List Nat} {v n:Nat} (hi:Is l v) (hl:l.length=n) (h0:0<v) (h1:v<BB):n=1:=by
 have e1:=hi.zero_iff
 have e2:=hi.len (k:=1) (by rwa [Nat.pow_one])
 omega
def zHm (w:WQ) (a b:Nat):Ending->WQ->Prop:=fun e w'=> ∃A1 n1 c1 l1 A2 n2 c2 l2,e= .returned (.tuple #[.slice A1 n1 c1, .slice A2 n2 c2, .int .i64 0])/\Is l1 (a / b)/\Rd w' A1 n1 c1 l1/\Is l2 (a % b)/\Rd w' A2 n2 c2 l2/\Below w.heap.size w w'
def zTE (a b:Nat):Prop:= ∀(A:WS Addr) (n c:Nat) (l:List Nat) (A':WS Addr) (n' c':Nat) (l':List Nat) (w:WQ),Rd w A n c l->Lt l->Rd w A' n' c' l'->Lt l'->val l=a->val l'=b->n<=2000->n'<=2000->
 Calls prog 115 #[.slice A n c, .slice A' n' c'] w (zHm w a b)
theorem zGQ (A:WS Addr) (n c:Nat) (l:List Nat) (A':WS Addr) (n' c':Nat) (l':List Nat) (w:WQ) (h:Rd w A n c l) (ht:Lt l) (h':Rd w A' n' c' l') (ht':Lt l') (hn:n<=2000) (hn':n'<=2000) (hlt:val l<val l'):
  Calls prog 115 #[.slice A n c, .slice A' n' c'] w (zHm w (val l) (val l')):=by
 have hcmp:decide (zAj (val l) (val l')<0)=true:=by
  unfold zAj
  rw [if_pos oG]
  rfl
 refine qY func115 rfl ?_
 simp only [ntmps115,eI,eJ,eK,Nat.reduceAdd,Nat.reduceSub,eL,eM,eO,eP,eQ,eR]
 have hb0:=(cY _ w).alloc (cX _) (.cells #[.slice none 0 0] 28)
 have hx0:=Boxed.new w 28 (.slice none 0 0)
 go_wp2_with (first|(go_at_call 86;first|((with_reducible refine (qF A n c l _ (h.below hb0) ht oG).mono ?_);rintro e w2 ⟨A2,n2,c2,l2,rfl,hi2,hr2,hb2⟩;have hb3:=hb0.trans (hb2.mono hb0.size);have hx2:=(hb2.block _ hx0.lt).trans hx0)|((with_reducible refine (qF A' n' c' l' _ (h'.below hb3) ht' oG).mono ?_);rintro e w3 ⟨A3,n3,c3,l3,rfl,hi3,hr3,hb4⟩;have hb5:=hb3.trans (hb4.mono hb3.size);have hx3:Boxed w3 w.heap.size 28 (.slice none 0 0):=(hb4.block _ (Boxed.lt hx2)).trans hx2;have hcx:=hx3.cell;have hfx:=hx3.frozen;have hn3: ¬n3=0:=fun e=>by have:=hi3.zero_iff;rw [hr3.len,e] at this;omega))|(go_at_call 117;refine (zEU A2 n2 c2 l2 A3 n3 c3 l3 _ (hr2.below hb4) hr3 hi2.lt hi3.lt).mono ?_;rw [hi2.val,hi3.val];rintro e w4 ⟨rfl,rfl⟩))
 have hx4:Boxed (w3.setCell ⟨w.heap.size,0,none⟩ (.slice none 0 0)) w.heap.size 28 (.slice none 0 0):=hx3.set _
 have hM:=Marks.nil w.heap.size (w3.setCell ⟨w.heap.size,0,none⟩ (.slice none 0 0))
 refine y2 (B:=w.heap.size) (w3.setCell ⟨w.heap.size,0,none⟩ (.slice none 0 0)) (v:= .tuple #[.slice none 0 0, .slice A2 n2 c2, .int .i64 0]) (fun w' ho'=> ?_) [] _ _ hM (Oth.refl _ _) ?_
 ·have hc4:=(Boxed.oth hx4 ho').cell
  simp [results,go_sem,hc4]
 ·intro w' ho
  have hr4:=(hr2.below hb4).setBox hx3 (fun _=>by simp) (.slice none 0 0)
  exact ⟨none,0,0, [],A2,n2,c2,l2,rfl,by rw [Nat.div_eq_of_lt hlt];exact Is.nil,wL _,by rw [Nat.mod_eq_of_lt hlt];exact hi2,hr4.oth ho,j5 (hb5.setCell (p:=⟨w.heap.size,0,none⟩) (cX _) _) ho (cX _)⟩
theorem zM7 (A:WS Addr) (n c:Nat) (l:List Nat) (A':WS Addr) (n' c':Nat) (l':List Nat) (w:WQ) (h:Rd w A n c l) (ht:Lt l) (h':Rd w A' n' c' l') (ht':Lt l') (hn:n<=2000) (hn':n'<=2000) (hge:val l'<=val l) (h0:0<val l') (h1:val l'<BB):
  Calls prog 115 #[.slice A n c, .slice A' n' c'] w (zHm w (val l) (val l')):=by
 have hcmp:decide (zAj (val l) (val l')<0)=false:=by
  unfold zAj
  rw [if_neg oG]
  split<;>simp
 have hm1:val l'<4294967296:=h1
 refine qY func115 rfl ?_
 simp only [ntmps115,eI,eJ,eK,Nat.reduceAdd,Nat.reduceSub,eL,eM,eO,eP,eQ,eR]
 have hb0:=(cY _ w).alloc (cX _) (.cells #[.slice none 0 0] 28)
 have hx0:=Boxed.new w 28 (.slice none 0 0)
 go_wp2_with (first|(go_at_call 86;first|((with_reducible refine (qF A n c l _ (h.below hb0) ht oG).mono ?_);rintro e w2 ⟨A2,n2,c2,l2,rfl,hi2,hr2,hb2⟩;have hb3:=hb0.trans (hb2.mono hb0.size);have hx2:=(hb2.block _ hx0.lt).trans hx0)|go_must ((with_reducible refine (qF A' n' c' l' _ (h'.below hb3) ht' oG).mono ?_);rintro e w3 ⟨A3,n3,c3,l3,rfl,hi3,hr3,hb4⟩;have hb5:=hb3.trans (hb4.mono hb3.size);have hx3:Boxed w3 w.heap.size 28 (.slice none 0 0):=(hb4.block _ (Boxed.lt hx2)).trans hx2;have hcx:=hx3.cell;have hfx:=hx3.frozen;obtain rfl:n3=1:=zNc hi3 hr3.len h0 h1;have hr3':=hr3;obtain ⟨b3,o3,rfl,_,hcb⟩:=hr3.shape oG;have hle3:=hr3.le;have hcap3:=hr3.cap;have hcb0:=hcb 0 oG;have hlm:lm l3 0=val l':=((zMp hr3.len).symm.trans hi3.val);rw [hlm,Nat.add_zero] at hcb0;have hn2:n2<=2000:=eB (Nat.le_of_eq hr2.len.symm) (eB (hi2.len (qC ht)) (by rw [h.len];exact hn))))|(go_at_call 117;refine (zEU A2 n2 c2 l2 _ 1 c3 l3 _ (hr2.below hb4) hr3 hi2.lt hi3.lt).mono ?_;rw [hi2.val,hi3.val];rintro e w4 ⟨rfl,rfl⟩)|(go_at_call 122;refine (zKd A2 n2 c2 l2 (val l') _ (hr2.below hb4) hi2.lt h0 hm1 oG).mono ?_;rw [hi2.val];rintro e w5 ⟨A5,n5,c5,l5,rfl,hi5,hr5,hb6⟩;have hb7:=hb5.trans (hb6.mono hb5.size);have hmod:val l % val l'<4294967296:=Nat.lt_trans (Nat.mod_lt _ h0) hm1)|(go_at_call 69;refine (zIP (val l % val l') oG _).mono ?_;rintro e w6 ⟨A6,n6,c6,l6,rfl,hi6,hr6,hb8⟩;have hb9:=hb7.trans (hb8.mono hb7.size);have hx6:Boxed w6 w.heap.size 28 (.slice none 0 0):=(hb8.block _ (eX hx3.lt hb6.size)).trans ((hb6.block _ hx3.lt).trans hx3);have hcx6:=hx6.cell;have hfx6:=hx6.frozen))
 have hx7:Boxed (w6.setCell ⟨w.heap.size,0,none⟩ (.slice A5 n5 c5)) w.heap.size 28 (.slice A5 n5 c5):=hx6.set _
 refine y2 (B:=w.heap.size) (w6.setCell ⟨w.heap.size,0,none⟩ (.slice A5 n5 c5)) (v:= .tuple #[.slice A5 n5 c5, .slice A6 n6 c6, .int .i64 0]) (fun w' ho'=> ?_) [] _ _ (Marks.nil _ _) (Oth.refl _ _) ?_
 ·have hc4:=(Boxed.oth hx7 ho').cell
  simp [results,go_sem,hc4]
 ·intro w' ho
  exact ⟨A5,n5,c5,l5,A6,n6,c6,l6,rfl,hi5,((hr5.below hb8).setBox hx6 (fun _=>by simp) _).oth ho,hi6,(hr6.setBox hx6 (fun _=>by simp) _).oth ho,j5 (hb9.setCell (p:=⟨w.heap.size,0,none⟩) (cX _) _) ho (cX _)⟩
theorem zJt (a b:Nat) (h0:0<b) (h1:b<BB):zTE a b:=by
 intro A n c l A' n' c' l' w h ht h' ht' ha hb hn hn'
 subst ha
 subst hb
 by_cases hlt:val l<val l'
 ·exact zGQ A n c l A' n' c' l' w h ht h' ht' hn hn' hlt
 ·exact zM7 A n c l A' n' c' l' w h ht h' ht' hn hn' oG h0 h1
end Go.Proofs.Wd

namespace Go.Proofs.Wd
open Tryz
set_option maxHeartbeats 1000000
open Go.RowKit Lb
theorem zJW (l:List Nat) (p k:Nat) (h:p+k<=l.length):val l=sm (lm l) p+BB^p*win l p k+BB^(p+k)*val (l.drop (p+k)):=by
 rw [jM l (p+k) h,zFy h,zIi]
 rfl
theorem zMn {l l':List Nat} {p k:Nat} (hl:l'.length=l.length) (h:p+k<=l.length) (ho: ∀x,x<p∨p+k<=x->lm l' x=lm l x):val l'+BB^p*win l p k=val l+BB^p*win l' p k:=by
 rw [zJW l p k h,zJW l' p k oG]
 have e1:sm (lm l') p=sm (lm l) p:=zAv fun i hi=>ho i (.inl hi)
 have e2:val (l'.drop (p+k))=val (l.drop (p+k)):=by
  unfold val
  rw [List.length_drop,List.length_drop,hl]
  exact zAv fun i _=>by rw [zCO,zCO];exact ho _ (.inr oG)
 rw [e1,e2]
 omega
theorem zIT {so sn a sb x o old z o' P:Nat} (h:sn+o*P=so+a*sb) (hz:a*x+old+o=z+o'*4294967296):sn+z*P+o'*(P*4294967296)=so+old*P+a*(sb+x*P):=by
 have e1:a*x*P+old*P+o*P=z*P+o'*4294967296*P:=by rw [<-eF, <-eF,hz,eF]
 have e2:o'*(P*4294967296)=o'*4294967296*P:=by rw [Nat.mul_comm P, <-eY]
 have e3:a*(sb+x*P)=a*sb+a*x*P:=by rw [eA, <-eY]
 rw [e2,e3]
 omega
theorem zIS (a x old o:Nat) (ha:a<4294967296) (hx:x<4294967296) (hold:old<4294967296) (ho:o<4294967296):
  ∃p s z o':Nat,a*x=p/\p<18446744073709551616/\p+old<18446744073709551616/\p+old+o=s/\s<18446744073709551616/\(s:Int) % 4294967296=(z:Int)/\(s:Int) / 4294967296=(o':Int)/\z<4294967296/\o'<4294967296/\a*x+old+o=z+o'*4294967296:=by
 have h1:a*x<=4294967295*4294967295:=Nat.mul_le_mul oG oG
 exact ⟨a*x,a*x+old+o,(a*x+old+o) % 4294967296,(a*x+old+o) / 4294967296,rfl,by omega,by omega,rfl,by omega,by omega,by omega,by omega,by omega,by omega⟩
def zR6 (w:WQ) (Q N i a:Nat) (lo lb:List Nat) (nb:Nat) (ov ix:WR) (W:WQ):Prop:=
 ∃(k o:Nat) (l':List Nat),k<=nb/\ix= .int .i64 k/\ov= .int .u64 o/\o<4294967296/\Arr W Q l'/\l'.length=N/\Lt l'/\(∀x,x<i∨i+k<=x->lm l' x=lm lo x)/\
  win l' i k+o*BB^k=win lo i k+a*sm (lm lb) k/\Below w.heap.size w W
def zRV (w:WQ) (Q N:Nat) (la lb:List Nat) (na nb:Nat) (ix:WR) (W:WQ):Prop:=
 ∃(i:Nat) (lo:List Nat),i<=na/\ix= .int .i64 i/\Arr W Q lo/\lo.length=N/\Lt lo/\(∀x,i+nb<=x->lm lo x=0)/\val lo=sm (lm la) i*val lb/\Below w.heap.size w W
theorem zGR {lo l' lb:List Nat} {i nb N a o sa:Nat} (hlo:lo.length=N) (hl':l'.length=N) (hN:i+nb<N) (ho: ∀x,x<i∨i+nb<=x->lm l' x=lm lo x) (hz: ∀x,i+nb<=x->lm lo x=0) (hb:lb.length=nb)
  (hw:win l' i nb+o*BB^nb=win lo i nb+a*sm (lm lb) nb) (hv:val lo=sa*val lb):val (l'.set (i+nb) o)=(sa+a*BB^i)*val lb:=by
 have hd:=zMn (l:=lo) (l':=l'.set (i+nb) o) (p:=i) (k:=nb+1) (by rw [eE,hl',hlo]) oG (fun x hx=>by
  rw [zAA oG,if_neg oG]
  exact ho x oG)
 have e1:win (l'.set (i+nb) o) i (nb+1)=win l' i nb+o*BB^nb:=by
  rw [zAs,zEd,zAA oG,if_pos rfl]
 have e2:win lo i (nb+1)=win lo i nb:=by rw [zAs,hz _ (cX _),Nat.zero_mul,Nat.add_zero]
 have e3:sm (lm lb) nb=val lb:=by unfold val;rw [hb]
 rw [e1,e2,hw,e3,eA] at hd
 rw [eF, <-hv]
 have e4:a*BB^i*val lb=BB^i*(a*val lb):=by rw [Nat.mul_comm a,eY]
 omega
theorem zIv (A:WS Addr) (n c:Nat) (l:List Nat) (A':WS Addr) (n' c':Nat) (l':List Nat) (w:WQ) (h:Rd w A n c l) (h':Rd w A' n' c' l') (ht:Lt l) (ht':Lt l') (hn:n<=100000) (hn':n'<=100000):
  Calls prog 62 #[.slice A n c, .slice A' n' c'] w (q7 w (val l*val l')):=by
 have hle:=h.le;have hcap:=h.cap;have hle':=h'.le;have hcap':=h'.cap
 have HN:=hid h.len;have HN':=hid h'.len
 have hmk: ∀wx:WQ,(Instr.makeSlice 28 (.int .i64 ((n:Int)+(n':Int))) (.int .i64 ((n:Int)+(n':Int)))).run prog wx= .ok (.slice (some ⟨wx.heap.size,0,none⟩) (n+n') (n+n')) (wx.alloc (.cells (madeCells #[.int .u32 0] (n+n')) 81)):=fun wx=>zAU (n+n') oG wx
 go_enter func62,ntmps62
 go_wp2
 go_loopw [6] (zRV w w.heap.size (n+n') l l' n n') (fun i _=>n - (intOf i).toNat)
 case atStart=>exact ⟨0,List.replicate (n+n') 0,eG _,rfl,Arr.new w _,by simp,jL _,fun x _=>by unfold lm;rw [List.getElem?_replicate];split<;>rfl,by rw [zAa];simp [sm],(cY _ w).alloc (cX _) _⟩
 case round=>
  obtain ⟨i,lo,hi,rfl,ha,hlo,hlt,hz,hv,hB⟩:=hrel
  have HV:=hid hv
  have HZ:=hid hz
  clear hv hz
  have hr:=h.below hB;have hr':=h'.below hB
  by_cases hin:i<n
  ·obtain ⟨b,o,rfl,hcb⟩:=h.cells i hin
   have x1:=y7 ht i
   simp only [BB] at x1
   obtain ⟨ai,hai⟩: ∃a,lm l i=a:=⟨_,rfl⟩
   rw [hai] at x1 hcb
   have HAI:=hid hai
   clear hai
   rename WQ=>wo
   go_wp2
   go_loopw [7,8] (zR6 w w.heap.size (n+n') i ai lo l' n') (fun _ k _=>n' - (intOf k).toNat)
   case atStart=>exact ⟨0,0,lo,eG _,rfl,rfl,by omega,ha,hlo,hlt,fun _ _=>rfl,by simp [win,sm],hB⟩
   case round=>
    obtain ⟨k,ov,l2,hk,rfl,rfl,hov,ha2,hl2,hlt2,hout,heq,hB2⟩:=hrel
    have HQ:=hid heq
    have HO:=hid hout
    clear heq hout
    have hbr:w.heap.size<=wr.heap.size:=hB2.size
    have hca:wr.cell? ⟨b,o+i,none⟩=some (.int .u32 (ai:Int)):=(hB2.cell (p:=⟨b,o+i,none⟩) (zV hcb)).trans hcb
    by_cases hkn:k<n'
    ·obtain ⟨b',o',rfl,hcb'⟩:=(h'.below hB2).cells k hkn
     have x2:=y7 ht' k
     simp only [BB] at x2
     obtain ⟨bk,hbk⟩: ∃a,lm l' k=a:=⟨_,rfl⟩
     rw [hbk] at x2 hcb'
     have gr:=ha2.cell (i:=i+k) oG
     have gf:=ha2.frozen (i+k)
     have hold1:lm l2 (i+k)=lm lo (i+k):=HO.out _ (.inr (cX _))
     have x3:=y7 hlt2 (i+k)
     simp only [BB] at x3
     obtain ⟨old,hold⟩: ∃a,lm l2 (i+k)=a:=⟨_,rfl⟩
     rw [hold] at gr x3 hold1
     obtain ⟨p,s,z,u,hp,hp2,hp3,hs,hs2,hz1,hu1,hz2,hu2,hm⟩:=zIS ai bk old ov x1 x2 x3 hov
     have hmi:(ai:Int)*(bk:Int)=(p:Int):=by rw [<-hp,fC]
     have hsi:(p:Int)+(old:Int)+(ov:Int)=(s:Int):=by omega
     have HB1:=hid hbk;have HOL:=hid hold1;have HM:=hid hm
     clear hbk hold hold1 hm hp hs
     have hend: ∀nq:Nat,zR6 w w.heap.size (n+n') i ai lo l' n' (.int .u64 (u:Int)) (.int .i64 ((k:Int)+1)) ((wr.drewN nq).setCell ⟨w.heap.size,i+k,none⟩ (.int .u32 (z:Int))):=by
      intro nq
      have ha3:Arr (wr.drewN nq) w.heap.size l2:=ha2.kept rfl
      refine ⟨k+1,u,l2.set (i+k) z,by omega,by go_num,rfl,hu2,ha3.set _ _,by rw [eE];exact hl2,zCl hlt2 hz2,fun y hy=> ?_, ?_,(Below.setCell (show Below w.heap.size w (wr.drewN nq) from ⟨hB2.os,hB2.tape,hB2.output,hB2.size,hB2.block⟩) (p:=⟨w.heap.size,i+k,none⟩) (cX _) _)⟩
      ·rw [zAA oG,if_neg oG]
       exact HO.out y oG
      ·have e1:lm (l2.set (i+k) z) (i+k)=z:=by rw [zAA oG,if_pos rfl]
       rw [zAs,zAs,zEd,e1, <-HOL.out,eZ]
       show _+_*(BB^k*4294967296)=_+ai*(sm (lm l') k+lm l' k*BB^k)
       rw [HB1.out]
       exact zIT HQ.out HM.out
     have HE:=hid hend
     clear hend
     go_wp2
     go_quiet (fail)
     go_wp2
     go_roundw
     case rel=>exact HE.out _
     case measure=>simp [intOf];omega
    ·obtain rfl:k=n':=by omega
     have gf:=ha2.frozen (i+k)
     have gr:=ha2.cell (i:=i+k) oG
     have ho32:(ov:Int) % 4294967296=(ov:Int):=by omega
     have hend:zRV w w.heap.size (n+k) l l' n k (.int .i64 ((i:Int)+1)) (wr.setCell ⟨w.heap.size,i+k,none⟩ (.int .u32 (ov:Int))):=by
      refine ⟨i+1,l2.set (i+k) ov,by omega,by go_num,ha2.set _ _,by rw [eE];exact hl2,zCl hlt2 hov,fun x hx=> ?_, ?_,hB2.setCell (p:=⟨w.heap.size,i+k,none⟩) (cX _) _⟩
      ·rw [zAA oG,if_neg oG,HO.out x oG]
       exact HZ.out x oG
      ·show _=(sm (lm l) i+lm l i*BB^i)*val l'
       rw [HAI.out]
       exact zGR hlo hl2 oG HO.out HZ.out HN'.out HQ.out HV.out
     have HE:=hid hend
     clear hend
     go_wp2
     go_roundw
     case rel=>exact HE.out
     case measure=>simp [intOf];omega
  ·obtain rfl:i=n:=by omega
   have hfin:val lo=val l*val l':=by
    rw [HV.out]
    have:sm (lm l) i=val l:=by have:=HN.out;unfold val;rw [this]
    rw [this]
   have htr:=jB (some ⟨w.heap.size,0,none⟩) (i+n') (i+n') lo wr (ha.rd hlo oG) hlt oG
   rw [hfin] at htr
   clear hfin
   go_wp2_with (go_at_call 36;refine htr.mono ?_;rintro e w2 ⟨A2,n2,c2,l2,rfl,hi2,hr2,hb2⟩)
   go_ret
   exact ⟨A2,n2,c2,l2,rfl,hi2,hr2,hB.trans (hb2.mono hB.size)⟩
end Go.Proofs.Wd

namespace Go.Proofs.Wd
open Tryz
set_option maxRecDepth 100000
set_option maxHeartbeats 1000000
open Go.RowKit Lb
attribute [local go_sem] Oper.semAt_some yX z4
def cnt (l:List Nat):Nat->Nat
 |0=>0
 |j+1=>cnt l j+if lm l j=0 then 0 else 1
theorem zDf {l:List Nat} {i:Nat}: ∀{j:Nat},i<=j->cnt l i<=cnt l j
  | 0, h => by obtain rfl:i=0:=by omega
               exact cX _
  | j+1,h=>by
    rcases (by omega:i<=j∨i=j+1) with e|rfl
    . exact eB (zDf e) (Nat.le_add_right _ _)
    . exact cX _
theorem zNQ {l:List Nat} {j:Nat} (h:lm l j=0):cnt l (j+1)=cnt l j:=by
 show cnt l j+(if lm l j=0 then 0 else 1)=_
 rw [if_pos h,Nat.add_zero]
theorem zET {l:List Nat} {j:Nat} (h:lm l j≠0):cnt l (j+1)=cnt l j+1:=by
 show cnt l j+(if lm l j=0 then 0 else 1)=_
 rw [if_neg h]
theorem zLX {l:List Nat} {i j x:Nat} (h:cnt l i=cnt l j) (h1:i<=x) (h2:x<j):lm l x=0:=by
 rcases Nat.eq_zero_or_pos (lm l x) with e|e
 ·exact e
 ·exfalso
  have g1:=zDf (l:=l) h1
  have g2:=zET (l:=l) (j:=x) oG
  have g3:=zDf (l:=l) (i:=x+1) (j:=j) h2
  omega
theorem zI3 {l:List Nat} {i j:Nat} (h:cnt l i=cnt l j):sm (lm l) i=sm (lm l) j:=by
 rcases Nat.le_total i j with e|e
 ·exact (zCE e fun x h1 h2=>zLX h h1 h2).symm
 ·exact zCE e fun x h1 h2=>zLX h.symm h1 h2
def zTs (l:List Nat) (n k:Nat) (xs:Array WR) (_W:WQ):Prop:= ∃p:Nat,xs=#[.int .i64 (p:Int), .int .u64 (lm l p:Nat)]/\p<n/\lm l p≠0/\cnt l p=k
theorem zJw (A:WS Addr) (n c:Nat) (w:WQ):
  Calls prog 108 #[.slice A n c] w fun e w'=>e= .returned (.func (.func 118) #[] #[.pointer (some ⟨w.heap.size,0,none⟩)])/\w.alloc (.cells #[.slice A n c] 28)=w':=by
 go_enter func108,ntmps108
 go_wp2
 go_ret
 exact ⟨rfl,rfl⟩
theorem zGS (A:WS Addr) (n c:Nat) (l:List Nat) (b1:Nat) (w0:WQ) (h:Rd w0 A n c l) (ht:Lt l) (hc1:w0.cell? ⟨b1,0,none⟩=some (.slice A n c)) {S:Nat->Prop} (hS: ∀b,S b->b<w0.heap.size) (hSA: ∀b o,0<n->A=some ⟨b,o,none⟩->S b):
  zNZ prog 118 #[.pointer (some ⟨b1,0,none⟩)] (zTs l n) (cnt l n) (yO S) Mk (fun _=>True) w0:=by
 intro lp J W hW hJ hY h0
 have hle:=h.le;have hcap:=h.cap
 have hw1:=(hW.cell (p:=⟨b1,0,none⟩) (zV hc1)).trans hc1
 refine zBj func118 rfl ?_
 simp only [ntmps118,eI,eJ,eK,Nat.reduceAdd,Nat.reduceSub,eL,eM,eO,eP,eQ,eR]
 gi_wp2
 gi_loopw [7] (fun i wr=> ∃j:Nat,j<=n/\i= .int .i64 j/\J (cnt l j) wr/\yO S w0 wr) (fun i _=>n - (intOf i).toNat)
 case atStart=>exact ⟨0,eG _,rfl,h0,yO.of_below hW hS⟩
 case round=>
  obtain ⟨j,hj,rfl,hJ1,hb⟩:=hrel
  by_cases hjn:j<n
  ·obtain ⟨b,o,rfl,hc⟩:=(h.keepS hb hSA).cells j hjn
   have x1:=y7 ht j
   simp only [BB] at x1
   by_cases hz:lm l j=0
   ·have hJ2:J (cnt l (j+1)) wr:=by rw [zNQ hz];exact hJ1
    rw [hz] at hc
    clear hz
    gi_wp2
    go_roundw
    case rel=>exact ⟨j+1,by omega,by go_num,hJ2,hb⟩
    case measure=>simp [intOf];omega
   ·have hcl:cnt l j<cnt l n:=by
     have g1:=zET (l:=l) (j:=j) hz
     have g2:=zDf (l:=l) (i:=j+1) (j:=n) hjn
     omega
    obtain ⟨fn,tmps,assign,body,hy,hR⟩:=hY (cnt l j) wr _ hcl hJ1 ⟨j,rfl,hjn,hz,rfl⟩
    rw [<-zET hz] at hR
    obtain ⟨x,hx⟩: ∃x,lm l j=x:=⟨_,rfl⟩
    rw [hx] at hc hy x1 hz
    have hxb:((x:Int) !=0)=true:=by simp only [bne_iff_ne,ne_eq];omega
    clear hx hcl hz
    gi_wp2
    refine hR.mono ?_
    rintro e W3 ⟨rfl,hJ3,hk3⟩
    clear hy
    gi_wp2
    go_roundw
    case rel=>exact ⟨j+1,by omega,by go_num,hJ3,hb.trans hk3⟩
    case measure=>simp [intOf];omega
  ·obtain rfl:j=n:=by omega
   gi_wp2
   go_end0
   exact ⟨⟨_,rfl⟩,hJ1,trivial⟩
theorem zKU (A:WS Addr) (n c:Nat) (A':WS Addr) (n' c':Nat) (w:WQ) (v:Nat) (hs:Calls prog 107 #[.slice A n c, .slice A' n' c'] w fun e w'=> ∃A1 n1 c1 l1,e= .returned (.tuple #[.slice A1 n1 c1, .int .i64 0])/\Is l1 v/\Rd w' A1 n1 c1 l1/\Below w.heap.size w w'):
  Calls prog 95 #[.slice A n c, .slice A' n' c'] w (q7 w v):=by
 go_enter func95,ntmps95
 go_wp2_with (go_at_call 107;refine hs.mono ?_;rintro e w2 ⟨A1,n1,c1,l1,rfl,hi1,hr1,hb1⟩)
 go_ret
 exact ⟨A1,n1,c1,l1,rfl,hi1,hr1,hb1⟩
def zTn (w:WQ) (k:Nat) (l:List Nat) (e:Ending) (w':WQ):Prop:= ∃A n c,e= .returned (.slice A n c)/\Rd w' A n c (List.replicate k 0++l)/\Below w.heap.size w w'
theorem zJZ (k:Nat) (l:List Nat):val (List.replicate k 0++l)=BB^k*val l:=by
 rw [zCo,zAa,eT,Nat.zero_add]
theorem zM9 (k:Nat) (h:k<=17592186044416) (w:WQ):zZ (w.alloc (.cells (madeCells #[.int .u32 0] k) 81)) w.heap.size 81 (.slice (some ⟨w.heap.size,0,none⟩) k k) (List.replicate k 0):=by
 rw [zG5]
 exact ⟨by rw [zAu,eT,Nat.mul_one], .inr ⟨w.heap.size,k,_,by rw [eT],cX _,heap_alloc_new w _,by rw [eT];exact cX _,by unfold maxLen;omega,by simp [zBd],by simp [zBd]⟩⟩
theorem zL8 (A:WS Addr) (n c:Nat) (l:List Nat) (k:Nat) (w:WQ) (h:Rd w A n c l) (hn:n<=100000) (hk:k<=100000):
  Calls prog 97 #[.slice A n c, .int .i64 (k:Int)] w (zTn w k l):=by
 have hmk:=fun wx=>zAU k oG wx
 have hown:=zM9 k oG w
 have hb0:=(cY _ w).alloc (cX _) (.cells (madeCells #[.int .u32 0] k) 81)
 have hs1:(List.replicate k 0).length+l.length<=17592186044416:=by rw [eT,h.len];omega
 have hl1:(List.replicate k 0++l).length=k+n:=by rw [List.length_append,eT,h.len]
 go_enter func97,ntmps97
 go_wp2_with (at_builtin;refine zQ rfl _ _ 28 81 rfl z7 yJ w.heap.size _ (List.replicate k 0) rfl hown A n c l rfl (h.below hb0) hs1 hb0.size ?_;intro v1 w3 hown1 hg1 hat1;obtain ⟨A1,c1,rfl⟩:=hown1.form' hl1)
 go_ret
 exact ⟨A1,k+n,c1,rfl,hown1.rd,zZ.grown hb0 hown hg1 (cX _) hb0.size⟩
end Go.Proofs.Wd

namespace Go.Proofs.Wd
open Tryz
set_option maxRecDepth 100000
set_option maxHeartbeats 1000000
open Go.RowKit Lb
attribute [local go_sem] Oper.semAt_some yX z4
def zMd (w:WQ) (la lb:List Nat) (na nb:Nat) (A':WS Addr) (c':Nat) (k:Nat) (W:WQ):Prop:=
 ∃(i:Nat) (lo:List Nat),cnt la i=k/\i<=na/\Arr W (w.heap.size+1) lo/\lo.length=na+nb/\Lt lo/\(∀x,i+nb<=x->lm lo x=0)/\val lo=sm (lm la) i*val lb/\
  Boxed W w.heap.size 28 (.slice A' nb c')/\Boxed W (w.heap.size+1+1) 28 (.slice (some ⟨w.heap.size+1,0,none⟩) (na+nb) (na+nb))/\Below w.heap.size w W/\w.heap.size+4<=W.heap.size
theorem zKV (A:WS Addr) (n c:Nat) (l:List Nat) (A':WS Addr) (n' c':Nat) (l':List Nat) (w:WQ) (h:Rd w A n c l) (h':Rd w A' n' c' l') (ht:Lt l) (ht':Lt l') (hn:n<=100000) (hn':n'<=100000):
  Calls prog 94 #[.slice A n c, .slice A' n' c'] w (q7 w (val l*val l')):=by
 have hle:=h.le;have hcap:=h.cap;have hle':=h'.le;have hcap':=h'.cap
 have HN:=hid h.len;have HN':=hid h'.len
 have hmk: ∀wx:WQ,(Instr.makeSlice 28 (.int .i64 ((n:Int)+(n':Int))) (.int .i64 ((n:Int)+(n':Int)))).run prog wx= .ok (.slice (some ⟨wx.heap.size,0,none⟩) (n+n') (n+n')) (wx.alloc (.cells (madeCells #[.int .u32 0] (n+n')) 81)):=fun wx=>zAU (n+n') oG wx
 refine qY func94 rfl ?_
 simp only [ntmps94,eI,eJ,eK,Nat.reduceAdd,Nat.reduceSub,eL,eM,eO,eP,eQ,eR]
 go_wp2_with (go_at_call 108;refine (zJw A n c _).mono ?_;rintro e w2 ⟨rfl,rfl⟩)
 obtain ⟨W0,hW0⟩: ∃W0,((((w.alloc (.cells #[.slice A' n' c'] 28)).alloc (.cells (madeCells #[.int .u32 0] (n+n')) 81)).alloc (.cells #[.slice (some ⟨w.heap.size+1,0,none⟩) (n+n') (n+n')] 28)).alloc (.cells #[.slice A n c] 28))=W0:=⟨_,rfl⟩
 have hsz:W0.heap.size=w.heap.size+4:=by rw [<-hW0];simp
 have hB0:Below w.heap.size w W0:=by rw [<-hW0];exact ((((cY _ w).alloc (cX _) _).alloc (by simp) _).alloc (by simp;omega) _).alloc (by simp;omega) _
 have x0:Boxed W0 w.heap.size 28 (.slice A' n' c'):=by rw [<-hW0];exact (((Boxed.new w _ _).alloc _).alloc _).alloc _
 have x1:Arr W0 (w.heap.size+1) (List.replicate (n+n') 0):=by rw [<-hW0];exact ((zOK _ _ (by simp)).alloc _).alloc _
 have x2:Boxed W0 (w.heap.size+1+1) 28 (.slice (some ⟨w.heap.size+1,0,none⟩) (n+n') (n+n')):=by rw [<-hW0];exact (zAR _ _ _ (by simp)).alloc _
 have x3:Boxed W0 (w.heap.size+1+1+1) 28 (.slice A n c):=by rw [<-hW0];exact zAR _ _ _ (by simp)
 rw [hW0]
 clear hW0
 have hSb: ∀b,(b<w.heap.size∨b=w.heap.size+1+1+1)->b<W0.heap.size:=fun b hb=>by omega
 have hown: ∀C,w.heap.size<=C->OwnFrom C (zMd w l l' n n' A' c'):=by
  rintro C hC k W W' row ⟨i,lo,h1,h2,h3,h4,h5,h6,h7,h8,h9,h10,h11⟩ hg hr
  exact ⟨i,lo,h1,h2,h3.abide hg hr,h4,h5,h6,h7,y8 h8 hg hr,y8 h9 hg hr,j7 h10 hg (cX _) hC hr,eB h11 hg.size⟩
 refine zB3 (gf:=118) rfl (enters_of func118 kB rfl)
  (zGS A n c l (w.heap.size+1+1+1) W0 (h.below hB0) ht x3.cell (S:=fun b=>b<w.heap.size∨b=w.heap.size+1+1+1) hSb (fun b o hn0 e=> .inl (h.in_ b o hn0 e))) ?hE ?hps yO.trans (zDu hSb)
  (zMd w l l' n n' A' c') (hown _ hB0.size) (zBY (hown _ (cX _))) wR (fun _ _ _ _ _ _ _ _=>trivial)
  ⟨0,List.replicate (n+n') 0,rfl,eG _,x1,by simp,jL _,fun x _=>by unfold lm;rw [List.getElem?_replicate];split<;>rfl,by rw [zAa];simp [sm],x0,x2,hB0,Nat.le_of_eq hsz.symm⟩
  (fun _ xs=>{ tmps:=#[.slice A n c, .slice A' n' c',undef, .pointer (some ⟨w.heap.size,0,none⟩), .slice none 0 0, .pointer (some ⟨w.heap.size+1+1,0,none⟩),xs.getD 0 undef,xs.getD 1 undef,undef,undef,undef, .slice A n c, .int .i64 (n:Int), .slice A' n' c', .int .i64 (n':Int), .int .i64 ((n:Int)+(n':Int)), .slice (some ⟨w.heap.size+1,0,none⟩) (n+n') (n+n'), .slice A n c, .func (.func 118) #[] #[.pointer (some ⟨w.heap.size+1+1+1,0,none⟩)],xs.getD 0 undef,xs.getD 1 undef,undef,undef,undef,undef,undef,undef,undef,undef,undef,undef,undef,undef,undef,undef,undef,undef,undef,undef,undef,undef,undef,undef,undef,undef,undef,undef,undef,undef,undef,undef,undef,undef,undef,undef,undef,undef,undef,undef,undef,undef,undef],defers:= [] }) ?assign ?body ?done
 case hE=>exact fun k xs W l1 o o' hx _ _=>hx
 case hps=>
  rintro k xs W ⟨p,rfl,_⟩
  rfl
 case assign=>
  rintro lp k xs W K ⟨p,rfl,_⟩ hK
  gi_wp2
  exact hK
 case body=>
  rintro lp k xs W hk ⟨i,lo,hci,hi,ha,hlo,hlt,hz,hv,hb,hq,hB,h4⟩ ⟨p,rfl,hp,hp0,hcp⟩
  have hip:i<=p:=by
   rcases Nat.lt_or_ge p i with e|e
   ·exfalso
    have g1:=zET (l:=l) (j:=p) hp0
    have g2:=zDf (l:=l) (i:=p+1) (j:=i) e
    omega
   ·exact e
  have hsm:sm (lm l) p=sm (lm l) i:=zI3 (by rw [hcp,hci])
  have HV:Hid (val lo=sm (lm l) p*val l'):=by rw [hsm];exact hv
  have HZ:Hid (∀x,p+n'<=x->lm lo x=0):=fun x hx=>hz x oG
  have HC:=hid (show cnt l (p+1)=k+1 from by rw [zET hp0,hcp])
  clear hv hz hsm hci hip hi hcp
  have x1:=y7 ht p
  simp only [BB] at x1
  obtain ⟨ai,hai⟩: ∃a,lm l p=a:=⟨_,rfl⟩
  have HAI:=hid hai
  simp only [hai]
  rw [hai] at x1
  clear hai hp0
  have hcb:=hb.cell
  obtain ⟨Wo,hWo⟩: ∃Wo,W=Wo:=⟨_,rfl⟩
  subst hWo
  gi_wp2
  gi_loopw [8,23] (fun ov k2 wr=>zR6 w (w.heap.size+1) (n+n') p ai lo l' n' ov k2 wr/\Boxed wr w.heap.size 28 (.slice A' n' c')/\Boxed wr (w.heap.size+1+1) 28 (.slice (some ⟨w.heap.size+1,0,none⟩) (n+n') (n+n'))/\KeepsOthers W wr/\yO (fun b=>b<w.heap.size∨b=w.heap.size+1+1+1) W wr/\w.heap.size+4<=wr.heap.size) (fun _ k2 _=>n' - (intOf k2).toNat)
  case atStart=>exact ⟨⟨0,0,lo,eG _,rfl,rfl,by omega,ha,hlo,hlt,fun _ _=>rfl,by simp [win,sm],hB⟩,hb,hq,KeepsOthers.refl _,yO.refl _ _,h4⟩
  case round=>
   obtain ⟨⟨k2,ov,l2,hk2,rfl,rfl,hov,ha2,hl2,hlt2,hout,heq,hB2⟩,hb2,hq2,hko,hks,h42⟩:=hrel
   have HQ:=hid heq
   have HO:=hid hout
   clear heq hout
   have hcq:=hq2.cell
   have hcb2:=hb2.cell
   by_cases hkn:k2<n'
   ·obtain ⟨b',o',rfl,hcb'⟩:=(h'.below hB2).cells k2 hkn
    have x2:=y7 ht' k2
    simp only [BB] at x2
    obtain ⟨bk,hbk⟩: ∃a,lm l' k2=a:=⟨_,rfl⟩
    rw [hbk] at x2 hcb'
    have gr:=ha2.cell (i:=p+k2) oG
    have gf:=ha2.frozen (p+k2)
    have hold1:lm l2 (p+k2)=lm lo (p+k2):=HO.out _ (.inr (cX _))
    have x3:=y7 hlt2 (p+k2)
    simp only [BB] at x3
    obtain ⟨old,hold⟩: ∃a,lm l2 (p+k2)=a:=⟨_,rfl⟩
    rw [hold] at gr x3 hold1
    obtain ⟨q,s,z,u,hq1,hq2',hq3,hs,hs2,hz1,hu1,hz2,hu2,hm⟩:=zIS ai bk old ov x1 x2 x3 hov
    have hmi:(ai:Int)*(bk:Int)=(q:Int):=by rw [<-hq1,fC]
    have hsi:(ov:Int)+((q:Int)+(old:Int))=(s:Int):=by omega
    have HB1:=hid hbk;have HOL:=hid hold1;have HM:=hid hm
    clear hbk hold hold1 hm hq1 hs
    have hend:zR6 w (w.heap.size+1) (n+n') p ai lo l' n' (.int .u64 (u:Int)) (.int .i64 ((k2:Int)+1)) (wr.setCell ⟨w.heap.size+1,p+k2,none⟩ (.int .u32 (z:Int))):=by
     refine ⟨k2+1,u,l2.set (p+k2) z,by omega,by go_num,rfl,hu2,ha2.set _ _,by rw [eE];exact hl2,zCl hlt2 hz2,fun y hy=> ?_, ?_,hB2.setCell (p:=⟨w.heap.size+1,p+k2,none⟩) (by simp) _⟩
     ·rw [zAA oG,if_neg oG]
      exact HO.out y oG
     ·have e1:lm (l2.set (p+k2) z) (p+k2)=z:=by rw [zAA oG,if_pos rfl]
      rw [zAs,zAs,zEd,e1, <-HOL.out,eZ]
      show _+_*(BB^k2*4294967296)=_+ai*(sm (lm l') k2+lm l' k2*BB^k2)
      rw [HB1.out]
      exact zIT HQ.out HM.out
    have HE:=hid hend
    clear hend
    gi_wp2
    go_roundw
    case rel=>exact ⟨HE.out,zAr hb2 (p:=⟨w.heap.size+1,p+k2,none⟩) (by simp) _,zAr hq2 (p:=⟨w.heap.size+1,p+k2,none⟩) (by simp) _,hko.trans (eS _ _ _),hks.setCell (p:=⟨w.heap.size+1,p+k2,none⟩) (by simp) _,by rw [<-zA5];exact h42⟩
    case measure=>simp [intOf];omega
   ·obtain rfl:k2=n':=by omega
    have gf:=ha2.frozen (p+k2)
    have gr:=ha2.cell (i:=p+k2) oG
    have ho32:(ov:Int) % 4294967296=(ov:Int):=by omega
    have hend:zMd w l l' n k2 A' c' (k+1) (wr.setCell ⟨w.heap.size+1,p+k2,none⟩ (.int .u32 (ov:Int))):=by
     refine ⟨p+1,l2.set (p+k2) ov,HC.out,by omega,ha2.set _ _,by rw [eE];exact hl2,zCl hlt2 hov,fun x hx=> ?_, ?_,zAr hb2 (p:=⟨w.heap.size+1,p+k2,none⟩) (by simp) _,zAr hq2 (p:=⟨w.heap.size+1,p+k2,none⟩) (by simp) _,hB2.setCell (p:=⟨w.heap.size+1,p+k2,none⟩) (by simp) _,by rw [<-zA5];exact h42⟩
     ·rw [zAA oG,if_neg oG,HO.out x oG]
      exact HZ.out x oG
     ·show _=(sm (lm l) p+lm l p*BB^p)*val l'
      rw [HAI.out]
      exact zGR hlo hl2 oG HO.out HZ.out HN'.out HQ.out HV.out
    have HE:=hid hend
    clear hend
    gi_wp2
    exact ⟨(hko.trans (eS _ _ _)).from _,hks.setCell (p:=⟨w.heap.size+1,p+k2,none⟩) (by simp) _,HE.out⟩
 case done=>
  rintro D W hD ⟨i,lo,hci,hi,ha,hlo,hlt,hz,hv,hb,hq,hB,h4⟩ _ hd
  have hfin:val lo=val l*val l':=by
   rw [hv,zI3 hci]
   have:sm (lm l) n=val l:=by have:=HN.out;unfold val;rw [this]
   rw [this]
  have htr:=qF (some ⟨w.heap.size+1,0,none⟩) (n+n') (n+n') lo W (ha.rd hlo oG) hlt oG
  rw [hfin] at htr
  have hcq:=hq.cell
  clear hfin hv hci
  go_wp2_with (go_at_call 86;refine htr.mono ?_;rintro e w3 ⟨A3,n3,c3,l3,rfl,hi3,hr3,hb3⟩)
  have hM:Marks w.heap.size w3 [mark D] [D]:=((Marks.nil w.heap.size W).more (D:=D) (by simp) oG hd).made hb3
  refine y2 w3 (fun w' _=>results_tmp rfl _ _ w') [D] _ _ hM (Oth.refl _ _) ?_
  intro w' ho
  exact ⟨A3,n3,c3,l3,rfl,hi3,hr3.oth ho,j5 (hB.trans (hb3.mono hB.size)) ho (cX _)⟩
attribute [local go_sem] Oper.semAt_some yX z4
def qV (W:WQ) (v:WR) (x:Nat):Prop:= ∃A n c l,v= .slice A n c/\Is l x/\Rd W A n c l
theorem qV.below {W W':WQ} {v:WR} {x:Nat} (h:qV W v x) (hb:Below W.heap.size W W'):qV W' v x:=by
 obtain ⟨A,n,c,l,h1,h2,h3⟩:=h
 exact ⟨A,n,c,l,h1,h2,h3.below hb⟩
def zBG (mb:Nat):WR:= .func (.func 93) #[] #[.pointer (some ⟨mb,0,none⟩)]
def zTT (N:Nat):Prop:= ∀(mb:Nat) (A:WS Addr) (n c:Nat) (l:List Nat) (A':WS Addr) (n' c':Nat) (l':List Nat) (w:WQ),Rd w A n c l->Rd w A' n' c' l'->Lt l->Lt l'->n<=N->n'<=N->w.cell? ⟨mb,0,none⟩=some (zBG mb)->
 Calls prog 93 #[.slice A n c, .slice A' n' c', .pointer (some ⟨mb,0,none⟩)] w (q7 w (val l*val l'))
theorem zTM (a0 a1 b0 b1 P:Nat):(a0+P*a1)*(b0+P*b1)=a0*b0+P*((a0+a1)*(b0+b1) - (a0*b0+a1*b1))+P*P*(a1*b1):=by
 have e:(a0+a1)*(b0+b1) - (a0*b0+a1*b1)=a0*b1+a1*b0:=by
  rw [eF,eA,eA]
  omega
 rw [e,eF,eA,eA,eA]
 have e1:a0*(P*b1)=P*(a0*b1):=Nat.mul_left_comm ..
 have e2:P*a1*b0=P*(a1*b0):=eY ..
 have e3:P*a1*(P*b1)=P*P*(a1*b1):=by rw [Nat.mul_mul_mul_comm]
 omega
theorem zP8 (a0 a1 b0 b1:Nat):a0*b0+a1*b1<=(a0+a1)*(b0+b1):=by
 rw [eF,eA,eA]
 omega
end Go.Proofs.Wd

namespace Go.Proofs.Wd
open Tryz
set_option maxRecDepth 100000
set_option maxHeartbeats 1000000
open Go.RowKit Lb
attribute [local go_sem] Oper.semAt_some yX z4
theorem zP9 {s:Bool} {l l' l3:List Nat} (h:val l3=val l+val l'):iv s l3=iv s l+iv s l':=by
 unfold iv
 cases s<;>simp<;>omega
theorem zLt {s s':Bool} {l l' l3:List Nat} (hs:s≠s') (h:val l3=val l - val l') (hge:val l'<=val l):iv s l3=iv s l+iv s' l':=by
 unfold iv
 cases s<;>cases s'<;>simp at hs ⊢<;>omega
theorem zRo {s s':Bool} {l l' l3:List Nat} (h:val l3=val l*val l'):iv (s !=s') l3=iv s l*iv s' l':=by
 have e:(val l3:Int)=(val l:Int)*(val l':Int):=by rw [h,fC]
 unfold iv
 cases s<;>cases s'<;>simp [e,Int.neg_mul,Int.mul_neg]
theorem zJq (s:Bool) (A:WS Addr) (n c:Nat) (l:List Nat) (w:WQ) (h:Rd w A n c l) (ht:Lt l) (hl:n<=1099511627776):
  Calls prog 37 #[.agg #[.bool s, .slice A n c]] w fun e w'=>e= .returned (.int .i64 (iv s l).sign)/\Below w.heap.size w w':=by
 have hb0:=(cY _ w).alloc (cX _) (.cells #[.bool s, .slice A n c] 30)
 have hc:=zAc s A n c l _ (h.below hb0) ht hl
 unfold qA at hc
 obtain ⟨v,hv⟩: ∃v,iv s l=v:=⟨_,rfl⟩
 rw [hv] at hc ⊢
 clear hv
 rcases Int.lt_trichotomy v 0 with h0|h0|h0
 ·have e1:v.sign= -1:=Int.sign_eq_neg_one_of_neg h0
  rw [decide_eq_true h0] at hc
  rw [e1]
  go_enter func37,ntmps37
  go_wp2_with (go_at_call 58;refine hc.mono ?_;rintro e w2 ⟨A2,n2,c2,l2,rfl,hi2,hr2,hb2⟩;have hq:=res2 hb2 (b:=w.heap.size) rfl;obtain ⟨⟨q0,q1⟩,q2,q3⟩:=hq.facts2;have hn2:0<n2:=(by rw [<-hr2.len];exact hi2.pos_iff.1 (Int.natAbs_pos.2 (Int.ne_of_lt h0))))
  go_ret
  exact ⟨rfl,((hb0.trans (hb2.mono hb0.size)).setCell (p:=⟨w.heap.size,0,none⟩) (cX _) _).setCell (p:=⟨w.heap.size,1,none⟩) (cX _) _⟩
 ·subst h0
  go_enter func37,ntmps37
  go_wp2_with (go_at_call 58;refine hc.mono ?_;rintro e w2 ⟨A2,n2,c2,l2,rfl,hi2,hr2,hb2⟩;have hq:=res2 hb2 (b:=w.heap.size) rfl;obtain ⟨⟨q0,q1⟩,q2,q3⟩:=hq.facts2;obtain rfl:n2=0:=(by rw [<-hr2.len];exact hi2.zero_iff.1 rfl))
  go_ret
  exact ⟨rfl,((hb0.trans (hb2.mono hb0.size)).setCell (p:=⟨w.heap.size,0,none⟩) (cX _) _).setCell (p:=⟨w.heap.size,1,none⟩) (cX _) _⟩
 ·have e1:v.sign=1:=Int.sign_eq_one_of_pos h0
  rw [decide_eq_false oG] at hc
  rw [e1]
  go_enter func37,ntmps37
  go_wp2_with (go_at_call 58;refine hc.mono ?_;rintro e w2 ⟨A2,n2,c2,l2,rfl,hi2,hr2,hb2⟩;have hq:=res2 hb2 (b:=w.heap.size) rfl;obtain ⟨⟨q0,q1⟩,q2,q3⟩:=hq.facts2;have hn2:0<n2:=(by rw [<-hr2.len];exact hi2.pos_iff.1 (Int.natAbs_pos.2 (Int.ne_of_gt h0))))
  go_ret
  exact ⟨rfl,((hb0.trans (hb2.mono hb0.size)).setCell (p:=⟨w.heap.size,0,none⟩) (cX _) _).setCell (p:=⟨w.heap.size,1,none⟩) (cX _) _⟩
theorem zJo (s:Bool) (A:WS Addr) (n c:Nat) (l:List Nat) (A':WS Addr) (n' c':Nat) (l':List Nat) (w:WQ) (h:Rd w A n c l) (ht:Lt l) (h':Rd w A' n' c' l') (ht':Lt l') (m:Nat) (hl:n<=m) (hl':n'<=m) (hm:m<=100000):
  Calls prog 82 #[.agg #[.bool s, .slice A n c], .agg #[.bool s, .slice A' n' c']] w (qA w (iv s l+iv s l')):=by
 have hmix:prog.follows .mixedOrders=true:=by kernel_rfl
 go_enter func82,ntmps82
 go_wp2
 obtain ⟨W0,hW0⟩: ∃W0,(((w.alloc (.cells #[.bool s, .slice A n c] 30)).alloc (.cells #[.bool s, .slice A' n' c'] 30)).alloc (.cells #[.bool false, .slice none 0 0] 30))=W0:=⟨_,rfl⟩
 have x0:qW W0 w.heap.size 30 #[.bool s, .slice A n c]:=by rw [<-hW0];exact ((qW.new w _ _).alloc _).alloc _
 have x1:qW W0 (w.heap.size+1) 30 #[.bool s, .slice A' n' c']:=by rw [<-hW0];exact (qW.at_ _ _ _ (by simp)).alloc _
 have x2:qW W0 (w.heap.size+1+1) 30 #[.bool false, .slice none 0 0]:=by rw [<-hW0];exact qW.at_ _ _ _ (by simp)
 have hB0:Below w.heap.size w W0:=by rw [<-hW0];exact (((cY _ w).alloc (cX _) _).alloc (by simp) _).alloc (by simp;omega) _
 rw [hW0]
 clear hW0
 refine (eU (n:=0)).1 ?_
 have cf: ∀W,Below W0.heap.size W0 W->(W.cell? ⟨w.heap.size,0,none⟩=some (.bool s)/\W.cell? ⟨w.heap.size,1,none⟩=some (.slice A n c))/\W.cell? ⟨w.heap.size+1,0,none⟩=some (.bool s)/\W.cell? ⟨w.heap.size+1,1,none⟩=some (.slice A' n' c'):=fun W hb=>And.intro (x0.kept hb).facts2.1 (x1.kept hb).facts2.1
 refine zY 10 (fun W=>(W.cell? ⟨w.heap.size,0,none⟩=some (.bool s)/\W.cell? ⟨w.heap.size,1,none⟩=some (.slice A n c))/\W.cell? ⟨w.heap.size+1,0,none⟩=some (.bool s)/\W.cell? ⟨w.heap.size+1,1,none⟩=some (.slice A' n' c')) hmix ?_
 have hd:Below W0.heap.size W0 W0.drew:=(cY _ W0).drew
 have d1:=cf _ hd
 refine zO (i:=0) (v:= ?vv1) kB kB rfl kB kB kB (fun _ _ _ h=>h) d1 ⟨.inl ⟨rfl, ?yy1⟩,fun _=>rfl⟩ ?_
 case yy1=>
  rintro wx ⟨⟨q1,q2⟩,q3,q4⟩
  go_simp
  first|done|rfl
 refine zO (i:=1) (v:= ?vv2) kB kB rfl kB kB kB (fun _ _ _ h=>h) d1 ⟨.inl ⟨rfl, ?yy2⟩,fun _=>rfl⟩ ?_
 case yy2=>
  rintro wx ⟨⟨q1,q2⟩,q3,q4⟩
  go_simp
  first|done|rfl
 refine zO (i:=2) (v:= ?vv3) kB kB rfl kB kB kB (fun _ _ _ h=>h) d1 ⟨.inl ⟨rfl, ?yy3⟩,fun _=>rfl⟩ ?_
 case yy3=>
  rintro wx ⟨⟨q1,q2⟩,q3,q4⟩
  go_simp
  first|done|rfl
 refine zO (i:=3) (v:= ?vv4) kB kB rfl kB kB kB (fun _ _ _ h=>h) d1 ⟨.inl ⟨rfl, ?yy4⟩,fun _=>rfl⟩ ?_
 case yy4=>
  rintro wx ⟨⟨q1,q2⟩,q3,q4⟩
  go_simp
  first|done|rfl
 refine zO (i:=4) (v:= ?vv5) kB kB rfl kB kB kB (fun _ _ _ h=>h) d1 ⟨.inl ⟨rfl, ?yy5⟩,fun _=>rfl⟩ ?_
 case yy5=>
  rintro wx ⟨⟨q1,q2⟩,q3,q4⟩
  go_simp
  first|done|rfl
 refine zO (i:=5) (v:= ?vv6) kB kB rfl kB kB kB (fun _ _ _ h=>h) d1 ⟨.inl ⟨rfl, ?yy6⟩,fun _=>rfl⟩ ?_
 case yy6=>
  rintro wx ⟨⟨q1,q2⟩,q3,q4⟩
  go_simp
  first|done|rfl
 have hW3:Below W0.heap.size W0 (W0.drew.alloc (.cells #[.slice A n c, .slice A' n' c'] 28)):=hd.alloc hd.size _
 have hds:=Rds.two ((h.below hB0).drew) ht oG ((h'.below hB0).drew) ht' oG 28
 refine zAh (i:=6) kB rfl (fun K hK=> ?_)
 go_simp
 refine hK _ _ (.inr (cf _ hW3)) ?_
 clear hK K
 have hadd:=zDY _ 2 2 [l,l'] _ hds oG
 have hsum:([l,l'].map val).sum=val l+val l':=by simp
 rw [hsum] at hadd
 refine zAh (i:=7) kB rfl (fun K hK=> ?_)
 go_simp
 refine eC (eD.2 hadd) ?_
 rintro e w3 ⟨A3,n3,c3,l3,rfl,hi3,hr3,hb3⟩
 have hB3:Below W0.heap.size W0 w3:=hW3.trans (hb3.mono hW3.size)
 refine hK _ _ (.inr (cf _ hB3)) ?_
 clear hK K
 have d3:=cf _ hB3
 refine zAh (i:=8) kB rfl (fun K hK=> ?_)
 go_simp
 refine hK _ _ (.inr d3) ?_
 clear hK K
 have hn3:n3<=m+1:=by
  rw [<-hr3.len]
  refine hi3.len ?_
  have e1:=qC ht;have e2:=qC ht'
  rw [h.len] at e1;rw [h'.len] at e2
  have f1:BB^n<=BB^m:=fD yU hl
  have f2:BB^n'<=BB^m:=fD yU hl'
  have f3:BB^m*2<=BB^m*BB:=Nat.mul_le_mul_left _ (by unfold BB;omega)
  rw [eZ]
  omega
 have hnm:=zAc s A3 n3 c3 l3 w3 hr3 hi3.lt oG
 rw [zP9 hi3.val] at hnm
 obtain ⟨v,hv⟩: ∃v,iv s l+iv s l'=v:=⟨_,rfl⟩
 rw [hv] at hnm
 refine zAh (i:=9) kB rfl (fun K hK=> ?_)
 go_simp
 refine eC (eD.2 hnm) ?_
 rintro e w4 ⟨A4,n4,c4,l4,rfl,hi4,hr4,hb4⟩
 have hB4:Below W0.heap.size W0 w4:=hB3.trans (hb4.mono hB3.size)
 have hq:=x2.kept hB4
 obtain ⟨⟨m0,m1⟩,m2,m3⟩:=hq.facts2
 refine hK _ _ (.inr (cf _ hB4)) ?_
 clear hK K
 refine zAh (i:=10) kB rfl (fun K hK=> ?_)
 go_simp
 refine hK _ _ (.inl rfl) ?_
 clear hK K
 refine zB2 kB ?_
 obtain ⟨⟨c0,c1⟩,_,_⟩:=((hq.set 0 (.bool (decide (v<0)))).set 1 (.slice A4 n4 c4)).facts2
 go_wp2
 rw [hv]
 refine eH (v:= .agg #[.bool (decide (v<0)), .slice A4 n4 c4]) (by simp [results,results82,go_sem,c0,c1]) rfl ?_
 exact zGJ hq (hB0.trans (hB4.mono hB0.size)) oG hi4 hr4
theorem zMX (s s':Bool) (hs:s≠s') (A:WS Addr) (n c:Nat) (l:List Nat) (A':WS Addr) (n' c':Nat) (l':List Nat) (w:WQ) (h:Rd w A n c l) (ht:Lt l) (h':Rd w A' n' c' l') (ht':Lt l') (hl:n<=100000) (hge:val l'<=val l):
  Calls prog 82 #[.agg #[.bool s, .slice A n c], .agg #[.bool s', .slice A' n' c']] w (qA w (iv s l+iv s' l')):=by
 have hne:(s==s')=false:=by simp [hs]
 obtain ⟨W0,hW0⟩: ∃W0,(((w.alloc (.cells #[.bool s, .slice A n c] 30)).alloc (.cells #[.bool s', .slice A' n' c'] 30)).alloc (.cells #[.bool false, .slice none 0 0] 30))=W0:=⟨_,rfl⟩
 have x0:qW W0 w.heap.size 30 #[.bool s, .slice A n c]:=by rw [<-hW0];exact ((qW.new w _ _).alloc _).alloc _
 have x1:qW W0 (w.heap.size+1) 30 #[.bool s', .slice A' n' c']:=by rw [<-hW0];exact (qW.at_ _ _ _ (by simp)).alloc _
 have x2:qW W0 (w.heap.size+1+1) 30 #[.bool false, .slice none 0 0]:=by rw [<-hW0];exact qW.at_ _ _ _ (by simp)
 have hB0:Below w.heap.size w W0:=by rw [<-hW0];exact (((cY _ w).alloc (cX _) _).alloc (by simp) _).alloc (by simp;omega) _
 have hsub:=zFF A n c l A' n' c' l' W0 (h.below hB0) (h'.below hB0) ht ht' hge oG
 obtain ⟨v,hv⟩: ∃v,iv s l+iv s' l'=v:=⟨_,rfl⟩
 have hnm:=fun (W:WQ) (A3:WS Addr) (n3 c3:Nat) (l3:List Nat) (hr3:Rd W A3 n3 c3 l3) (hi3:Is l3 (val l - val l'))=>zAc s A3 n3 c3 l3 W hr3 hi3.lt (by
  rw [<-hr3.len]
  have e1:=qC ht
  rw [h.len] at e1
  exact eB (hi3.len (Nat.lt_of_le_of_lt (Nat.sub_le _ _) e1)) oG)
 have hiv:=fun (l3:List Nat) (hi3:Is l3 (val l - val l'))=>zLt (l3:=l3) hs hi3.val hge
 rw [hv] at hiv ⊢
 obtain ⟨⟨a0,a1⟩,_,_⟩:=x0.facts2
 obtain ⟨⟨a2,a3⟩,_,_⟩:=x1.facts2
 obtain ⟨⟨b0,b1⟩,_,_⟩:=x0.facts2
 go_enter func82,ntmps82
 go_wp2_with (first|(go_at_call 102;refine hsub.mono ?_;rintro e w3 ⟨A3,n3,c3,l3,rfl,hi3,hr3,hb3⟩;have hq3:=hnm w3 A3 n3 c3 l3 hr3 hi3;rw [hiv l3 hi3] at hq3;obtain ⟨⟨a0,a1⟩,_,_⟩:=(x0.kept hb3).facts2;obtain ⟨⟨a2,a3⟩,_,_⟩:=(x1.kept hb3).facts2)|(go_at_call 58;refine hq3.mono ?_;rintro e w4 ⟨A4,n4,c4,l4,rfl,hi4,hr4,hb4⟩;have hB4:=hb3.trans (hb4.mono hb3.size);have hq:=x2.kept hB4;obtain ⟨⟨m0,m1⟩,m2,m3⟩:=hq.facts2))
 obtain ⟨⟨c0,c1⟩,_,_⟩:=((hq.set 0 (.bool (decide (v<0)))).set 1 (.slice A4 n4 c4)).facts2
 refine eH (v:= .agg #[.bool (decide (v<0)), .slice A4 n4 c4]) (by simp [results,results82,go_sem,c0,c1]) rfl ?_
 exact zGJ hq (hB0.trans (hB4.mono hB0.size)) oG hi4 hr4
theorem zMW (s s':Bool) (hs:s≠s') (A:WS Addr) (n c:Nat) (l:List Nat) (A':WS Addr) (n' c':Nat) (l':List Nat) (w:WQ) (h:Rd w A n c l) (ht:Lt l) (h':Rd w A' n' c' l') (ht':Lt l') (hl':n'<=100000) (hlt:val l<val l'):
  Calls prog 82 #[.agg #[.bool s, .slice A n c], .agg #[.bool s', .slice A' n' c']] w (qA w (iv s l+iv s' l')):=by
 have hne:(s==s')=false:=by simp [hs]
 obtain ⟨W0,hW0⟩: ∃W0,(((w.alloc (.cells #[.bool s, .slice A n c] 30)).alloc (.cells #[.bool s', .slice A' n' c'] 30)).alloc (.cells #[.bool false, .slice none 0 0] 30))=W0:=⟨_,rfl⟩
 have x0:qW W0 w.heap.size 30 #[.bool s, .slice A n c]:=by rw [<-hW0];exact ((qW.new w _ _).alloc _).alloc _
 have x1:qW W0 (w.heap.size+1) 30 #[.bool s', .slice A' n' c']:=by rw [<-hW0];exact (qW.at_ _ _ _ (by simp)).alloc _
 have x2:qW W0 (w.heap.size+1+1) 30 #[.bool false, .slice none 0 0]:=by rw [<-hW0];exact qW.at_ _ _ _ (by simp)
 have hB0:Below w.heap.size w W0:=by rw [<-hW0];exact (((cY _ w).alloc (cX _) _).alloc (by simp) _).alloc (by simp;omega) _
 have hsub1:=zEr A n c l A' n' c' l' W0 (h.below hB0) (h'.below hB0) ht ht' hlt
 have hsub2:=zFF A' n' c' l' A n c l W0 (h'.below hB0) (h.below hB0) ht' ht (Nat.le_of_lt hlt) oG
 obtain ⟨v,hv⟩: ∃v,iv s l+iv s' l'=v:=⟨_,rfl⟩
 have hnm:=fun (W:WQ) (A3:WS Addr) (n3 c3:Nat) (l3:List Nat) (hr3:Rd W A3 n3 c3 l3) (hi3:Is l3 (val l' - val l))=>zAc s' A3 n3 c3 l3 W hr3 hi3.lt (by
  rw [<-hr3.len]
  have e1:=qC ht'
  rw [h'.len] at e1
  exact eB (hi3.len (Nat.lt_of_le_of_lt (Nat.sub_le _ _) e1)) oG)
 have hiv:=fun (l3:List Nat) (hi3:Is l3 (val l' - val l))=>zLt (l3:=l3) (Ne.symm hs) hi3.val (Nat.le_of_lt hlt)
 rw [Int.add_comm,hv] at hiv
 rw [hv]
 obtain ⟨⟨a0,a1⟩,_,_⟩:=x0.facts2
 obtain ⟨⟨a2,a3⟩,_,_⟩:=x1.facts2
 go_enter func82,ntmps82
 go_wp2_with (first|(go_at_call 102;first|((with_reducible refine hsub1.mono ?_);rintro e w3 ⟨rfl,hw3⟩;rw [<-hw3];clear hw3 w3)|((with_reducible refine hsub2.mono ?_);rintro e w3 ⟨A3,n3,c3,l3,rfl,hi3,hr3,hb3⟩;have hq3:=hnm w3 A3 n3 c3 l3 hr3 hi3;rw [hiv l3 hi3] at hq3;obtain ⟨⟨a0,a1⟩,_,_⟩:=(x0.kept hb3).facts2;obtain ⟨⟨a2,a3⟩,_,_⟩:=(x1.kept hb3).facts2))|(go_at_call 58;refine hq3.mono ?_;rintro e w4 ⟨A4,n4,c4,l4,rfl,hi4,hr4,hb4⟩;have hB4:=hb3.trans (hb4.mono hb3.size);have hq:=x2.kept hB4;obtain ⟨⟨m0,m1⟩,m2,m3⟩:=hq.facts2))
 obtain ⟨⟨c0,c1⟩,_,_⟩:=((hq.set 0 (.bool (decide (v<0)))).set 1 (.slice A4 n4 c4)).facts2
 refine eH (v:= .agg #[.bool (decide (v<0)), .slice A4 n4 c4]) (by simp [results,results82,go_sem,c0,c1]) rfl ?_
 exact zGJ hq (hB0.trans (hB4.mono hB0.size)) oG hi4 hr4
theorem zKG (s:Bool) (A:WS Addr) (n c:Nat) (l:List Nat) (s':Bool) (A':WS Addr) (n' c':Nat) (l':List Nat) (w:WQ) (h:Rd w A n c l) (ht:Lt l) (h':Rd w A' n' c' l') (ht':Lt l') (m:Nat) (hl:n<=m) (hl':n'<=m) (hm:m<=100000):
  Calls prog 82 #[.agg #[.bool s, .slice A n c], .agg #[.bool s', .slice A' n' c']] w (qA w (iv s l+iv s' l')):=by
 by_cases hs:s=s'
 ·subst hs
  exact zJo s A n c l A' n' c' l' w h ht h' ht' m hl hl' hm
 ·rcases Nat.lt_or_ge (val l) (val l') with e|e
  ·exact zMW s s' hs A n c l A' n' c' l' w h ht h' ht' oG e
  ·exact zMX s s' hs A n c l A' n' c' l' w h ht h' ht' oG e
end Go.Proofs.Wd

namespace Go.Proofs.Wd
open Tryz
set_option maxRecDepth 100000
set_option maxHeartbeats 1000000
open Go.RowKit Lb
attribute [local go_sem] Oper.semAt_some yX z4
def zTv (w:WQ) (B:Nat) (f:Nat->Int) (n:Nat) (ix:WR) (W:WQ):Prop:=
 ∃(k:Nat) (A:WS Addr) (m c:Nat) (l:List Nat),k<=n/\ix= .int .i64 k/\qW W B 30 #[.bool (decide (f k<0)), .slice A m c]/\Is l (f k).natAbs/\Rd W A m c l/\
  qW W w.heap.size 30 #[.bool false, .slice none 0 0]/\Below w.heap.size w W
theorem zGM (A:WS Addr) (n c:Nat) (is:List (Bool×List Nat)) (m M:Nat) (w:WQ) (h:IRdM m w A n is) (hn:n<=c) (_hc:c<=9223372036854775807) (hmM:m<=M) (hM:M<=100000) (hv: ∀k,k<=n->(zDi is k).natAbs<BB^M) (hnn:n<=1000000:=by first|omega|decide):
  Calls prog 60 #[.slice A n c] w (qA w (zDi is n)):=by
 have hmix:prog.follows .mixedOrders=true:=by kernel_rfl
 go_enter func60,ntmps60
 go_wp2
 go_loopw [4] (zTv w (w.heap.size+1) (zDi is) n) (fun i _=>n - (intOf i).toNat)
 case atStart=>exact ⟨0,none,0,0, [],eG _,rfl,qW.at_ _ _ _ (by simp),Is.nil,wL _,(qW.new w _ _).alloc _,((cY _ w).alloc (cX _) _).alloc (by simp) _⟩
 case round=>
  obtain ⟨k,Ao,mo,co,lo,hk,rfl,hx1,hio,hro,hx0,hB⟩:=hrel
  obtain ⟨v,hvk⟩: ∃v,zDi is k=v:=⟨_,rfl⟩
  have hvb:=hv k hk
  rw [hvk] at hx1 hio hvb
  have hmo:mo<=M:=by rw [<-hro.len];exact hio.len hvb
  have HV:=hid hvk
  clear hvk
  by_cases hkn:k<n
  ·obtain ⟨b,o,s,Ai,ni,ci,li,rfl,p1,p2,hi,hri,hli,hni⟩:=(h.below hB).cells k hkn
   have HI:=hid hi
   clear hi
   have hb1:=hx1.lt
   go_wp2
   refine (eU (n:=0)).1 ?_
   have cf: ∀W,Below wr.heap.size wr W->(W.cell? ⟨w.heap.size+1,0,none⟩=some (.bool (decide (v<0)))/\W.cell? ⟨w.heap.size+1,1,none⟩=some (.slice Ao mo co))/\W.cell? ⟨b,o+k*2,none⟩=some (.bool s)/\W.cell? ⟨b,o+k*2+1,none⟩=some (.slice Ai ni ci):=fun W hb=>
    ⟨(hx1.kept hb).facts2.1,(hb.cell (p:=⟨b,o+k*2,none⟩) (zV p1)).trans p1,(hb.cell (p:=⟨b,o+k*2+1,none⟩) (zV p2)).trans p2⟩
   refine zY 7 (fun W=>(W.cell? ⟨w.heap.size+1,0,none⟩=some (.bool (decide (v<0)))/\W.cell? ⟨w.heap.size+1,1,none⟩=some (.slice Ao mo co))/\W.cell? ⟨b,o+k*2,none⟩=some (.bool s)/\W.cell? ⟨b,o+k*2+1,none⟩=some (.slice Ai ni ci)) hmix ?_
   have d1:=cf _ (cY _ wr).drew
   refine zO (i:=0) (v:= ?vv1) kB kB rfl kB kB kB (fun _ _ _ h=>h) d1 ⟨.inl ⟨rfl, ?yy1⟩,fun _=>rfl⟩ ?_
   case yy1=>
    rintro wx ⟨⟨q1,q2⟩,q3,q4⟩
    go_simp
    first|done|rfl
   refine zO (i:=1) (v:= ?vv2) kB kB rfl kB kB kB (fun _ _ _ h=>h) d1 ⟨.inl ⟨rfl, ?yy2⟩,fun _=>rfl⟩ ?_
   case yy2=>
    rintro wx ⟨⟨q1,q2⟩,q3,q4⟩
    go_simp
    first|done|rfl
   refine zO (i:=2) (v:= ?vv3) kB kB rfl kB kB kB (fun _ _ _ h=>h) d1 ⟨.inl ⟨rfl, ?yy3⟩,fun _=>rfl⟩ ?_
   case yy3=>
    rintro wx ⟨⟨q1,q2⟩,q3,q4⟩
    go_simp
    first|done|rfl
   refine zO (i:=3) (v:= ?vv4) kB kB rfl kB kB kB (fun _ _ _ h=>h) d1 ⟨.inl ⟨rfl, ?yy4⟩,fun _=>rfl⟩ ?_
   case yy4=>
    rintro wx ⟨⟨q1,q2⟩,q3,q4⟩
    go_simp
    first|done|rfl
   refine zO (i:=4) (v:= ?vv5) kB kB rfl kB kB kB (fun _ _ _ h=>h) d1 ⟨.inl ⟨rfl, ?yy5⟩,fun _=>rfl⟩ ?_
   case yy5=>
    rintro wx ⟨⟨q1,q2⟩,q3,q4⟩
    go_simp
    first|done|rfl
   have hnm:=zAc s Ai ni ci li wr.drew hri.drew hli oG
   refine zAh (i:=5) kB rfl (fun K hK=> ?_)
   go_simp
   refine eC (eD.2 hnm) ?_
   rintro e w2 ⟨A2,n2,c2,l2,rfl,hi2,hr2,hb2⟩
   have hB2:Below wr.heap.size wr w2:=(cY _ wr).drew.trans hb2
   refine hK _ _ (.inr (cf _ hB2)) ?_
   clear hK K
   have hn2:n2<=M:=by
    rw [<-hr2.len]
    exact eB (hi2.len (zAf hli hri.len hni)) hmM
   have htw:=zKG (decide (v<0)) Ao mo co lo (decide (iv s li<0)) A2 n2 c2 l2 w2 (hro.below hB2) hio.lt hr2 hi2.lt M hmo hn2 hM
   rw [zCi hio,zCi hi2] at htw
   have hsum:v+iv s li=zDi is (k+1):=by
    show _=zDi is k+zDv is k
    rw [HV.out]
    unfold zDv
    rw [HI.out]
    rfl
   have HS:=hid hsum
   obtain ⟨v3,hv3⟩: ∃v3,v+iv s li=v3:=⟨_,rfl⟩
   rw [hv3] at htw HS
   clear hsum
   refine zAh (i:=6) kB rfl (fun K hK=> ?_)
   go_simp
   refine eC (eD.2 htw) ?_
   rintro e w3 ⟨A3,n3,c3,l3,rfl,hi3,hr3,hb3⟩
   have hB3:Below wr.heap.size wr w3:=hB2.trans (hb3.mono hB2.size)
   refine hK _ _ (.inr (cf _ hB3)) ?_
   clear hK K
   have hq:=hx1.kept hB3
   obtain ⟨⟨m0,m1⟩,m2,m3⟩:=hq.facts2
   have hq0:=hx0.kept hB3
   refine zAh (i:=7) kB rfl (fun K hK=> ?_)
   go_simp
   refine hK _ _ (.inl rfl) ?_
   clear hK K
   refine zB2 kB ?_
   go_wp2
   go_roundw
   case rel=>
    have e1:=HS.out
    refine ⟨k+1,A3,n3,c3,l3,by omega,by go_num, ?_,by rw [<-e1];exact hi3,(hr3.setN hq (i:=0) rfl (fun _=>by simp) _).setN (hq.set 0 _) (i:=1) rfl (fun _=>by simp) _, ?_, ?_⟩
    ·rw [<-e1]
     exact (hq.set 0 _).set 1 _
    ·exact (hq0.other (p:=⟨w.heap.size+1,0,none⟩) (by simp) _).other (p:=⟨w.heap.size+1,1,none⟩) (by simp) _
    ·exact ((hB.trans (hB3.mono hB.size)).setCell (p:=⟨w.heap.size+1,0,none⟩) (by simp) _).setCell (p:=⟨w.heap.size+1,1,none⟩) (by simp) _
   case measure=>simp [intOf];omega
  ·obtain rfl:k=n:=by omega
   obtain ⟨⟨g0,g1⟩,_,_⟩:=hx1.facts2
   have hnm:=zAc (decide (v<0)) Ao mo co lo wr hro hio.lt oG
   rw [zCi hio] at hnm
   go_wp2_with (go_at_call 58;refine hnm.mono ?_;rintro e w4 ⟨A4,n4,c4,l4,rfl,hi4,hr4,hb4⟩;have hq:=hx0.kept hb4;obtain ⟨⟨m0,m1⟩,m2,m3⟩:=hq.facts2)
   obtain ⟨⟨c0,c1⟩,_,_⟩:=((hq.set 0 (.bool (decide (v<0)))).set 1 (.slice A4 n4 c4)).facts2
   refine eH (v:= .agg #[.bool (decide (v<0)), .slice A4 n4 c4]) (by simp [results,results60,go_sem,c0,c1]) rfl ?_
   rw [HV.out]
   exact zGJ hq (hB.trans (hb4.mono hB.size)) (cX _) hi4 hr4
theorem zKI (A:WS Addr) (n c:Nat) (is:List (Bool×List Nat)) (m M:Nat) (w:WQ) (h:IRdM m w A n is) (hn:n<=c) (_hc:c<=9223372036854775807) (hmM:m<=M) (hM:M<=50000) (hv: ∀k,k<=n->(zBL is k).natAbs<BB^M) (hnn:n<=1000000:=by first|omega|decide):
  Calls prog 40 #[.slice A n c] w (qA w (zBL is n)):=by
 have hmix:prog.follows .mixedOrders=true:=by kernel_rfl
 go_enter func40,ntmps40
 have hof:=zIB 1 oG oG (w.alloc (.cells #[.bool false, .slice none 0 0] 30))
 go_wp2_with (go_at_call 47;refine hof.mono ?_;rintro e w0 ⟨A0,n0,c0,l0,rfl,hi0,hr0,hb0⟩)
 have hBs:w.heap.size<w0.heap.size:=eX (by simp) hb0.size
 have hst:zTv w w0.heap.size (zBL is) n (.int .i64 0) (w0.alloc (.cells #[.bool false, .slice A0 n0 c0] 30)):=by
  refine ⟨0,A0,n0,c0,l0,eG _,rfl,qW.at_ _ _ _ rfl,hi0,hr0.alloc _,((qW.new w _ _).kept hb0).alloc _, ?_⟩
  have t1:=((cY _ w).alloc (cX _) (.cells #[.bool false, .slice none 0 0] 30)).trans (hb0.mono (by simp))
  exact t1.alloc t1.size _
 go_loopw [4] (zTv w w0.heap.size (zBL is) n) (fun i _=>n - (intOf i).toNat)
 case atStart=>exact hst
 case round=>
  obtain ⟨k,Ao,mo,co,lo,hk,rfl,hx1,hio,hro,hx0,hB⟩:=hrel
  obtain ⟨v,hvk⟩: ∃v,zBL is k=v:=⟨_,rfl⟩
  have hvb:=hv k hk
  rw [hvk] at hx1 hio hvb
  have hmo:mo<=M:=by rw [<-hro.len];exact hio.len hvb
  have HV:=hid hvk
  clear hvk
  by_cases hkn:k<n
  ·obtain ⟨b,o,s,Ai,ni,ci,li,rfl,p1,p2,hi,hri,hli,hni⟩:=(h.below hB).cells k hkn
   have HI:=hid hi
   clear hi
   go_wp2
   refine (eU (n:=0)).1 ?_
   have cf: ∀W,Below wr.heap.size wr W->(W.cell? ⟨w0.heap.size,0,none⟩=some (.bool (decide (v<0)))/\W.cell? ⟨w0.heap.size,1,none⟩=some (.slice Ao mo co))/\W.cell? ⟨b,o+k*2,none⟩=some (.bool s)/\W.cell? ⟨b,o+k*2+1,none⟩=some (.slice Ai ni ci):=fun W hb=>
    ⟨(hx1.kept hb).facts2.1,(hb.cell (p:=⟨b,o+k*2,none⟩) (zV p1)).trans p1,(hb.cell (p:=⟨b,o+k*2+1,none⟩) (zV p2)).trans p2⟩
   refine zY 18 (fun W=>(W.cell? ⟨w0.heap.size,0,none⟩=some (.bool (decide (v<0)))/\W.cell? ⟨w0.heap.size,1,none⟩=some (.slice Ao mo co))/\W.cell? ⟨b,o+k*2,none⟩=some (.bool s)/\W.cell? ⟨b,o+k*2+1,none⟩=some (.slice Ai ni ci)) hmix ?_
   have d1:=cf _ (cY _ wr).drew
   refine zO (i:=0) (v:= ?vv6) kB kB rfl kB kB kB (fun _ _ _ h=>h) d1 ⟨.inl ⟨rfl, ?yy6⟩,fun _=>rfl⟩ ?_
   case yy6=>
    rintro wx ⟨⟨q1,q2⟩,q3,q4⟩
    go_simp
    first|done|rfl
   refine zO (i:=1) (v:= ?vv7) kB kB rfl kB kB kB (fun _ _ _ h=>h) d1 ⟨.inl ⟨rfl, ?yy7⟩,fun _=>rfl⟩ ?_
   case yy7=>
    rintro wx ⟨⟨q1,q2⟩,q3,q4⟩
    go_simp
    first|done|rfl
   refine zO (i:=2) (v:= ?vv8) kB kB rfl kB kB kB (fun _ _ _ h=>h) d1 ⟨.inl ⟨rfl, ?yy8⟩,fun _=>rfl⟩ ?_
   case yy8=>
    rintro wx ⟨⟨q1,q2⟩,q3,q4⟩
    go_simp
    first|done|rfl
   refine zO (i:=3) (v:= ?vv9) kB kB rfl kB kB kB (fun _ _ _ h=>h) d1 ⟨.inl ⟨rfl, ?yy9⟩,fun _=>rfl⟩ ?_
   case yy9=>
    rintro wx ⟨⟨q1,q2⟩,q3,q4⟩
    go_simp
    first|done|rfl
   refine zO (i:=4) (v:= ?vv10) kB kB rfl kB kB kB (fun _ _ _ h=>h) d1 ⟨.inl ⟨rfl, ?yy10⟩,fun _=>rfl⟩ ?_
   case yy10=>
    rintro wx ⟨⟨q1,q2⟩,q3,q4⟩
    go_simp
    first|done|rfl
   refine zO (i:=5) (v:= ?vv11) kB kB rfl kB kB kB (fun _ _ _ h=>h) d1 ⟨.inl ⟨rfl, ?yy11⟩,fun _=>rfl⟩ ?_
   case yy11=>
    rintro wx ⟨⟨q1,q2⟩,q3,q4⟩
    go_simp
    first|done|rfl
   refine zO (i:=6) (v:= ?vv12) kB kB rfl kB kB kB (fun _ _ _ h=>h) d1 ⟨.inl ⟨rfl, ?yy12⟩,fun _=>rfl⟩ ?_
   case yy12=>
    rintro wx ⟨⟨q1,q2⟩,q3,q4⟩
    go_simp
    first|done|rfl
   refine zO (i:=7) (v:= ?vv13) kB kB rfl kB kB kB (fun _ _ _ h=>h) d1 ⟨.inl ⟨rfl, ?yy13⟩,fun _=>rfl⟩ ?_
   case yy13=>
    rintro wx ⟨⟨q1,q2⟩,q3,q4⟩
    go_simp
    first|done|rfl
   refine zO (i:=8) (v:= ?vv14) kB kB rfl kB kB kB (fun _ _ _ h=>h) d1 ⟨.inl ⟨rfl, ?yy14⟩,fun _=>rfl⟩ ?_
   case yy14=>
    rintro wx ⟨⟨q1,q2⟩,q3,q4⟩
    go_simp
    first|done|rfl
   refine zO (i:=9) (v:= ?vv15) kB kB rfl kB kB kB (fun _ _ _ h=>h) d1 ⟨.inl ⟨rfl, ?yy15⟩,fun _=>rfl⟩ ?_
   case yy15=>
    rintro wx ⟨⟨q1,q2⟩,q3,q4⟩
    go_simp
    first|done|rfl
   refine zO (i:=10) (v:= ?vv16) kB kB rfl kB kB kB (fun _ _ _ h=>h) d1 ⟨.inl ⟨rfl, ?yy16⟩,fun _=>rfl⟩ ?_
   case yy16=>
    rintro wx ⟨⟨q1,q2⟩,q3,q4⟩
    go_simp
    first|done|rfl
   refine zO (i:=11) (v:= ?vv17) kB kB rfl kB kB kB (fun _ _ _ h=>h) d1 ⟨.inl ⟨rfl, ?yy17⟩,fun _=>rfl⟩ ?_
   case yy17=>
    rintro wx ⟨⟨q1,q2⟩,q3,q4⟩
    go_simp
    first|done|rfl
   refine zO (i:=12) (v:= ?vv18) kB kB rfl kB kB kB (fun _ _ _ h=>h) d1 ⟨.inl ⟨rfl, ?yy18⟩,fun _=>rfl⟩ ?_
   case yy18=>
    rintro wx ⟨⟨q1,q2⟩,q3,q4⟩
    go_simp
    first|done|rfl
   refine zO (i:=13) (v:= ?vv19) kB kB rfl kB kB kB (fun _ _ _ h=>h) d1 ⟨.inl ⟨rfl, ?yy19⟩,fun _=>rfl⟩ ?_
   case yy19=>
    rintro wx ⟨⟨q1,q2⟩,q3,q4⟩
    go_simp
    first|done|rfl
   refine zO (i:=14) (v:= ?vv20) kB kB rfl kB kB kB (fun _ _ _ h=>h) d1 ⟨.inl ⟨rfl, ?yy20⟩,fun _=>rfl⟩ ?_
   case yy20=>
    rintro wx ⟨⟨q1,q2⟩,q3,q4⟩
    go_simp
    first|done|rfl
   have hml:=zIv Ao mo co lo Ai ni ci li wr.drew hro.drew hri.drew hio.lt hli oG oG
   refine zAh (i:=15) kB rfl (fun K hK=> ?_)
   go_simp
   refine eC (eD.2 hml) ?_
   rintro e w2 ⟨A2,n2,c2,l2,rfl,hi2,hr2,hb2⟩
   have hB2:Below wr.heap.size wr w2:=(cY _ wr).drew.trans hb2
   refine hK _ _ (.inr (cf _ hB2)) ?_
   clear hK K
   have dd2:=cf _ hB2
   refine zAh (i:=16) kB rfl (fun K hK=> ?_)
   go_simp
   refine hK _ _ (.inr dd2) ?_
   clear hK K
   have hn2:n2<=M+m:=by
    rw [<-hr2.len]
    refine hi2.len ?_
    have e1:=hio.lt_pow;have e2:=qC hli
    rw [hio.val,Nat.pow_add]
    rw [hri.len] at e2
    have e3:BB^ni<=BB^m:=fD yU hni
    exact eX (Nat.mul_lt_mul_of_lt_of_le hvb (Nat.le_of_lt (eX e2 e3)) (Nat.pow_pos yU)) (cX _)
   have htw:=zAc (decide (v<0) !=s) A2 n2 c2 l2 w2 hr2 hi2.lt oG
   rw [zRo hi2.val,zCi hio] at htw
   have hsum:v*iv s li=zBL is (k+1):=by
    show _=zBL is k*zDv is k
    rw [HV.out]
    unfold zDv
    rw [HI.out]
    rfl
   have HS:=hid hsum
   obtain ⟨v3,hv3⟩: ∃v3,v*iv s li=v3:=⟨_,rfl⟩
   rw [hv3] at htw HS
   clear hsum
   refine zAh (i:=17) kB rfl (fun K hK=> ?_)
   go_simp
   refine eC (eD.2 htw) ?_
   rintro e w3 ⟨A3,n3,c3,l3,rfl,hi3,hr3,hb3⟩
   have hB3:Below wr.heap.size wr w3:=hB2.trans (hb3.mono hB2.size)
   refine hK _ _ (.inr (cf _ hB3)) ?_
   clear hK K
   have hq:=hx1.kept hB3
   obtain ⟨⟨m0,m1⟩,m2,m3⟩:=hq.facts2
   have hq0:=hx0.kept hB3
   refine zAh (i:=18) kB rfl (fun K hK=> ?_)
   go_simp
   refine hK _ _ (.inl rfl) ?_
   clear hK K
   refine zB2 kB ?_
   go_wp2
   go_roundw
   case rel=>
    have e1:=HS.out
    refine ⟨k+1,A3,n3,c3,l3,by omega,by go_num, ?_,by rw [<-e1];exact hi3,(hr3.setN hq (i:=0) rfl (fun _=>by simp) _).setN (hq.set 0 _) (i:=1) rfl (fun _=>by simp) _, ?_, ?_⟩
    ·rw [<-e1]
     exact (hq.set 0 _).set 1 _
    ·exact (hq0.other (p:=⟨w0.heap.size,0,none⟩) (by simp;omega) _).other (p:=⟨w0.heap.size,1,none⟩) (by simp;omega) _
    ·exact ((hB.trans (hB3.mono hB.size)).setCell (p:=⟨w0.heap.size,0,none⟩) (by simp;omega) _).setCell (p:=⟨w0.heap.size,1,none⟩) (by simp;omega) _
   case measure=>simp [intOf];omega
  ·obtain rfl:k=n:=by omega
   obtain ⟨⟨g0,g1⟩,_,_⟩:=hx1.facts2
   obtain ⟨⟨m0,m1⟩,m2,m3⟩:=hx0.facts2
   go_wp2
   obtain ⟨⟨c0,c1⟩,_,_⟩:=((hx0.set 0 (.bool (decide (v<0)))).set 1 (.slice Ao mo co)).facts2
   refine eH (v:= .agg #[.bool (decide (v<0)), .slice Ao mo co]) (by simp [results,results40,go_sem,c0,c1]) rfl ?_
   rw [HV.out]
   exact zGJ hx0 hB (cX _) hio hro
theorem zPC {W:WQ} {m:Nat} {v:WR} {is:List (Bool×List Nat)} (M:Nat) (h:IS W m v is) (hn:is.length<=1000000) (hmM:m<=M) (hM:M<=100000) (hv: ∀k,k<=is.length->(zDi is k).natAbs<BB^M):Calls prog 60 #[v] W (zGp W (zDi is is.length)):=by
 obtain ⟨A,c,rfl,h3,h4,h2⟩:=h
 exact (zGM A is.length c is m M W h2 h3 h4 hmM hM hv).mono fun _ _=>qA.v
theorem zPA {W:WQ} {m:Nat} {v:WR} {is:List (Bool×List Nat)} (M:Nat) (h:IS W m v is) (hn:is.length<=1000000) (hmM:m<=M) (hM:M<=50000) (hv: ∀k,k<=is.length->(zBL is k).natAbs<BB^M):Calls prog 40 #[v] W (zGp W (zBL is is.length)):=by
 obtain ⟨A,c,rfl,h3,h4,h2⟩:=h
 exact (zKI A is.length c is m M W h2 h3 h4 hmM hM hv).mono fun _ _=>qA.v
end Go.Proofs.Wd

namespace Go.Proofs.Wd
open Tryz
set_option maxRecDepth 100000
set_option maxHeartbeats 1000000
open Go.RowKit Lb
attribute [local go_sem] Oper.semAt_some yX z4
theorem zGL (s:Bool) (A:WS Addr) (n c:Nat) (l:List Nat) (w:WQ) (h:Rd w A n c l) (ht:Lt l) (hl:n<=1099511627776):
  Calls prog 61 #[.agg #[.bool s, .slice A n c]] w (qA w (-iv s l)):=by
 go_enter func61,ntmps61
 go_wp2_with (go_at_call 58;refine (zAc (!s) A n c l _ ((h.alloc _).alloc _) ht hl).mono ?_;rintro e w1 ⟨A2,n2,c2,l2,rfl,hi2,hr2,hb⟩;have hq:=res2 hb (b:=w.heap.size+1) (by simp);obtain ⟨⟨q0,q1⟩,q2,q3⟩:=hq.facts2)
 obtain ⟨⟨c0,c1⟩,_,_⟩:=((hq.set 0 (.bool (decide (iv (!s) l<0)))).set 1 (.slice A2 n2 c2)).facts2
 refine eH (v:= .agg #[.bool (decide (iv (!s) l<0)), .slice A2 n2 c2]) (by simp [results,results61,go_sem,c0,c1]) rfl ?_
 rw [<-zOH]
 exact zGJ hq ((((cY _ w).alloc (cX _) _).alloc (by simp) _).trans (hb.mono (by simp;omega))) (by simp) hi2 hr2
theorem zKH (s:Bool) (A:WS Addr) (n c:Nat) (l:List Nat) (s':Bool) (A':WS Addr) (n' c':Nat) (l':List Nat) (w:WQ) (h:Rd w A n c l) (ht:Lt l) (h':Rd w A' n' c' l') (ht':Lt l') (m:Nat) (hl:n<=m) (hl':n'<=m) (hm:m<=90000):
  Calls prog 39 #[.agg #[.bool s, .slice A n c], .agg #[.bool s', .slice A' n' c']] w (qA w (iv s l - iv s' l')):=by
 have hmix:prog.follows .mixedOrders=true:=by kernel_rfl
 go_enter func39,ntmps39
 go_wp2
 refine (eU (n:=0)).1 ?_
 obtain ⟨W0,hW0⟩: ∃W0,(((w.alloc (.cells #[.bool s, .slice A n c] 30)).alloc (.cells #[.bool s', .slice A' n' c'] 30)).alloc (.cells #[.bool false, .slice none 0 0] 30))=W0:=⟨_,rfl⟩
 have x0:qW W0 w.heap.size 30 #[.bool s, .slice A n c]:=by rw [<-hW0];exact ((qW.new w _ _).alloc _).alloc _
 have x1:qW W0 (w.heap.size+1) 30 #[.bool s', .slice A' n' c']:=by rw [<-hW0];exact (qW.at_ _ _ _ (by simp)).alloc _
 have x2:qW W0 (w.heap.size+1+1) 30 #[.bool false, .slice none 0 0]:=by rw [<-hW0];exact qW.at_ _ _ _ (by simp)
 have hB0:Below w.heap.size w W0:=by rw [<-hW0];exact (((cY _ w).alloc (cX _) _).alloc (by simp) _).alloc (by simp;omega) _
 rw [hW0]
 clear hW0
 refine zY 100 (fun W=>(W.cell? ⟨w.heap.size,0,none⟩=some (.bool s)/\W.cell? ⟨w.heap.size,1,none⟩=some (.slice A n c))/\W.cell? ⟨w.heap.size+1,0,none⟩=some (.bool s')/\W.cell? ⟨w.heap.size+1,1,none⟩=some (.slice A' n' c')) hmix ?_
 have d1:=And.intro x0.facts2.1 x1.facts2.1
 refine zO (i:=0) (v:= ?vv1) kB kB rfl kB kB kB (fun _ _ _ h=>h) d1 ⟨.inl ⟨rfl, ?yy1⟩,fun _=>rfl⟩ ?_
 case yy1=>
  rintro wx ⟨⟨q1,q2⟩,q3,q4⟩
  go_simp
  first|done|rfl
 refine zO (i:=1) (v:= ?vv2) kB kB rfl kB kB kB (fun _ _ _ h=>h) d1 ⟨.inl ⟨rfl, ?yy2⟩,fun _=>rfl⟩ ?_
 case yy2=>
  rintro wx ⟨⟨q1,q2⟩,q3,q4⟩
  go_simp
  first|done|rfl
 refine zAh (i:=2) kB rfl (fun K hK=> ?_)
 go_simp
 have hneg:=zGL s' A' n' c' l' _ ((h'.below hB0).drew) ht' oG
 obtain ⟨v2,hv2⟩: ∃v2,-iv s' l'=v2:=⟨_,rfl⟩
 rw [hv2] at hneg
 refine eC (eD.2 hneg) ?_
 rintro e w2 ⟨A2,n2,c2,l2,rfl,hi2,hr2,hb2⟩
 have hB2:Below W0.heap.size W0 w2:=((cY _ W0).drew).trans hb2
 have d2:=And.intro (x0.kept hB2).facts2.1 (x1.kept hB2).facts2.1
 have hn2:n2<=m:=by
  rw [<-hr2.len]
  refine hi2.len ?_
  rw [<-hv2,Int.natAbs_neg]
  exact zAf ht' h'.len hl'
 refine hK _ _ (.inr d2) ?_
 clear hK K
 refine zAh (i:=3) kB rfl (fun K hK=> ?_)
 go_simp
 have hds:IRdM m _ _ _ _:=IRd.two (s:=s) (s':=decide (v2<0)) (h.below (hB0.trans (hB2.mono hB0.size))) ht oG hr2 hi2.lt oG 30
 have hW3:Below W0.heap.size W0 (w2.alloc (.cells #[.bool s, .slice A n c, .bool (decide (v2<0)), .slice A2 n2 c2] 30)):=hB2.alloc hB2.size _
 refine hK _ _ (.inr ⟨(x0.kept hW3).facts2.1,(x1.kept hW3).facts2.1⟩) ?_
 clear hK K
 refine zAh (i:=4) kB rfl (fun K hK=> ?_)
 go_simp
 have hvm:=zIY (s,l) (decide (v2<0),l2) m (zAf ht h.len hl) (zAf hi2.lt hr2.len hn2)
 have hsum:zDi [(s,l),(decide (v2<0),l2)] 2=iv s l - iv s' l':=by
  show (0+iv s l)+iv (decide (v2<0)) l2=_
  rw [zCi hi2]
  omega
 have hvs: ∀k,k<=2->(zDi [(s,l),(decide (v2<0),l2)] k).natAbs<BB^(m+1):=by
  intro k hk
  have e0:=zAf (s:=s) ht h.len hl;have e2:=zAf (s:=s') ht' h'.len hl'
  have e3:0<BB^m:=Nat.pow_pos (by decide)
  rw [show BB^(m+1)=BB^m*4294967296 from by rw [eZ];rfl]
  rcases (by omega:k=0∨k=1∨k=2) with rfl|rfl|rfl
  ·show (0:Int).natAbs<_
   rw [Int.natAbs_zero];omega
  ·show (0+iv s l).natAbs<_
   rw [Int.zero_add];omega
  ·rw [hsum];omega
 have hadd:=zGM _ 2 2 _ m (m+1) _ hds oG oG oG oG hvs
 rw [hsum] at hadd
 refine eC (eD.2 hadd) ?_
 rintro e w3 ⟨A3,n3,c3,l3,rfl,hi3,hr3,hb3⟩
 have hB3:Below W0.heap.size W0 w3:=hW3.trans (hb3.mono hW3.size)
 have hq:=x2.kept hB3
 obtain ⟨⟨m0,m1⟩,m2,m3⟩:=hq.facts2
 refine hK _ _ (.inr ⟨(x0.kept hB3).facts2.1,(x1.kept hB3).facts2.1⟩) ?_
 clear hK K
 obtain ⟨v3,hv3⟩: ∃v3,iv s l - iv s' l'=v3:=⟨_,rfl⟩
 rw [hv3] at hi3
 simp only [hv3]
 refine zAh (i:=5) kB rfl (fun K hK=> ?_)
 go_simp
 refine hK _ _ (.inr ⟨((x0.kept hB3).other (p:=⟨w.heap.size+1+1,0,none⟩) (by simp;omega) _|>.other (p:=⟨w.heap.size+1+1,1,none⟩) (by simp;omega) _).facts2.1,((x1.kept hB3).other (p:=⟨w.heap.size+1+1,0,none⟩) (by simp) _|>.other (p:=⟨w.heap.size+1+1,1,none⟩) (by simp) _).facts2.1⟩) ?_
 clear hK K
 refine zB2 kB ?_
 obtain ⟨⟨c0,c1⟩,_,_⟩:=((hq.set 0 (.bool (decide (v3<0)))).set 1 (.slice A3 n3 c3)).facts2
 go_wp2
 refine eH (v:= .agg #[.bool (decide (v3<0)), .slice A3 n3 c3]) (by simp [results,results39,go_sem,c0,c1]) rfl ?_
 rw [hv3]
 exact zGJ hq (hB0.trans (hB3.mono hB0.size)) oG hi3 hr3
attribute [local go_sem] Oper.semAt_some yX z4
attribute [local go_sem] Oper.semAt_some yX z4
end Go.Proofs.Wd

namespace Go.Proofs.Wd
open Tryz
end Go.Proofs.Wd
