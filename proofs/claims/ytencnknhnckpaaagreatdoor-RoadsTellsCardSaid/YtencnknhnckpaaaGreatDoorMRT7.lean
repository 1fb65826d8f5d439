/- Walks of package nat: Sub, Add; The walk of nat.Add; Walks of package  and what it needs. -/
import Derived.Test.YtencnknhnckpaaaGreatDoorMRT5
theorem kA{P:Prop}(h:P:=by kernel_rfl):P:=h
abbrev mB:=@of_decide_eq_false
abbrev mC:=@Nat.lt_of_le_of_lt
abbrev mD:=@List.getElem?_eq_getElem
abbrev mE:=@Option.some.inj
abbrev mF:=@beq_eq_false_iff_ne
abbrev mG:=@Go.bodyPost_ret
abbrev mH:=@List.drop_zero
abbrev mI:=@Nat.le_of_lt
abbrev mJ:=@List.take_of_length_le
abbrev mK:=@Go.IntKind.wrap_u64
abbrev mL:=@Go.World.cell?_setCell_other
abbrev mM:=@Nat.sub_le
abbrev mN:=@Bool.true_and
abbrev mO:=@Int.sign_eq_one_of_pos
abbrev mP:=@Nat.le_of_eq
abbrev mQ:=@List.sum_cons
abbrev mR:=@List.sum_nil
abbrev mS:=@Bool.false_and
abbrev mT:=@Int.sign_eq_neg_one_of_neg
abbrev mU:=@Nat.le_succ
abbrev mV:=@Nat.pow_one
abbrev mW:=@Array.getElem_modify_self
abbrev mX:=@Int.lt_trichotomy
abbrev mY:=@List.getElem_of_mem
theorem sC{P:Prop}(h:P:=by first|omega|decide):P:=h
theorem sD{P:Prop}(h:P:=by assumption):P:=h
namespace Go.Proofs.Wd
open Tryz
variable {ls:List (List Nat)}{k:Int}{l l':List Nat}{B C b c m n:Nat}{x y:WD}{s s':Bool}{W W' w w' w1:WB}{t:WE}{vs:Array WD}{A:WF Addr}{is:List (Bool×List Nat)}{S:Nat->Prop}{row:WF Nat}
set_option maxRecDepth 100000
set_option maxHeartbeats 2000000
open Go.RowKit Lb
theorem hmix:prog.follows .mixedOrders=true:=rZ
theorem zUw:Enters prog 7:=enters_of func7 kA rfl
theorem zUe:Enters prog 8:=enters_of func8 kA rfl
theorem zUv:Enters prog 9:=enters_of func9 kA rfl
theorem zQ0:Enters prog 10:=enters_of func10 kA rfl
theorem zTQ:Enters prog 11:=enters_of func11 kA rfl
theorem zTP:Enters prog 12:=enters_of func12 kA rfl
theorem zOt:Enters prog 13:=enters_of func13 kA rfl
theorem zSi:Enters prog 14:=enters_of func14 kA rfl
theorem zQZ:Enters prog 15:=enters_of func15 kA rfl
theorem zTO:Enters prog 16:=enters_of func16 kA rfl
theorem zTN:Enters prog 17:=enters_of func17 kA rfl
theorem zTM:Enters prog 18:=enters_of func18 kA rfl
theorem zMn:Enters prog 19:=enters_of func19 kA rfl
theorem zTL:Enters prog 20:=enters_of func20 kA rfl
theorem zQY:Enters prog 21:=enters_of func21 kA rfl
theorem zSg:Enters prog 22:=enters_of func22 kA rfl
theorem zTK:Enters prog 23:=enters_of func23 kA rfl
theorem zTJ:Enters prog 24:=enters_of func24 kA rfl
theorem zSf:Enters prog 25:=enters_of func25 kA rfl
theorem zFe:Enters prog 26:=enters_of func26 kA rfl
theorem zOs:Enters prog 27:=enters_of func27 kA rfl
theorem zOr:Enters prog 28:=enters_of func28 kA rfl
theorem zOq:Enters prog 29:=enters_of func29 kA rfl
theorem zSe:Enters prog 30:=enters_of func30 kA rfl
theorem zKs:Enters prog 31:=enters_of func31 kA rfl
theorem zHM:Enters prog 32:=enters_of func32 kA rfl
theorem zQX:Enters prog 33:=enters_of func33 kA rfl
theorem zQW:Enters prog 34:=enters_of func34 kA rfl
theorem zOp:Enters prog 36:=enters_of func36 kA rfl
theorem zSd:Enters prog 37:=enters_of func37 kA rfl
theorem zOo:Enters prog 38:=enters_of func38 kA rfl
theorem zTI:Enters prog 39:=enters_of func39 kA rfl
theorem zOn:Enters prog 40:=enters_of func40 kA rfl
theorem zOm:Enters prog 41:=enters_of func41 kA rfl
theorem zTH:Enters prog 42:=enters_of func42 kA rfl
theorem zTG:Enters prog 43:=enters_of func43 kA rfl
theorem zTF:Enters prog 44:=enters_of func44 kA rfl
theorem zTE:Enters prog 45:=enters_of func45 kA rfl
theorem zTD:Enters prog 46:=enters_of func46 kA rfl
theorem zTC:Enters prog 47:=enters_of func47 kA rfl
theorem zTB:Enters prog 48:=enters_of func48 kA rfl
theorem zTA:Enters prog 49:=enters_of func49 kA rfl
theorem zTz:Enters prog 50:=enters_of func50 kA rfl
theorem zTy:Enters prog 51:=enters_of func51 kA rfl
theorem zOl:Enters prog 52:=enters_of func52 kA rfl
theorem zTx:Enters prog 53:=enters_of func53 kA rfl
theorem zOk:Enters prog 54:=enters_of func54 kA rfl
theorem zOj:Enters prog 55:=enters_of func55 kA rfl
theorem zQV:Enters prog 58:=enters_of func58 kA rfl
theorem zSc:Enters prog 59:=enters_of func59 kA rfl
theorem zTw:Enters prog 60:=enters_of func60 kA rfl
theorem zTv:Enters prog 62:=enters_of func62 kA rfl
theorem zSb:Enters prog 63:=enters_of func63 kA rfl
theorem zTu:Enters prog 64:=enters_of func64 kA rfl
theorem zTt:Enters prog 66:=enters_of func66 kA rfl
theorem zSa:Enters prog 70:=enters_of func70 kA rfl
theorem zTs:Enters prog 76:=enters_of func76 kA rfl
theorem zTr:Enters prog 77:=enters_of func77 kA rfl
theorem zR9:Enters prog 78:=enters_of func78 kA rfl
theorem zTq:Enters prog 79:=enters_of func79 kA rfl
theorem zTp:Enters prog 80:=enters_of func80 kA rfl
theorem zR8:Enters prog 81:=enters_of func81 kA rfl
theorem zR7:Enters prog 86:=enters_of func86 kA rfl
theorem zTo:Enters prog 87:=enters_of func87 kA rfl
theorem zTn:Enters prog 88:=enters_of func88 kA rfl
theorem zQU:Enters prog 93:=enters_of func93 kA rfl
theorem zTm:Enters prog 94:=enters_of func94 kA rfl
theorem zTl:Enters prog 95:=enters_of func95 kA rfl
theorem zOi:Enters prog 96:=enters_of func96 kA rfl
theorem zR6:Enters prog 97:=enters_of func97 kA rfl
theorem zSh:Enters prog 154:=enters_of func154 kA rfl
attribute [local go_sem] Oper.semAt_some qD yA
def zUi(w:WB)(l l':List Nat)(k:Nat)(W:WB):Prop:=
 ∃v lo,∃u:Nat,Boxed W w.heap.size 28 v/\z7 W (w.heap.size+4) 81 v lo/\lo.length=k/\Lt lo/\Boxed W (w.heap.size+1) 103 (.int .u64 u)/\u<=1/\
  sm (lm l) k+u*BB^k=val lo+sm (lm l') k/\Below w.heap.size w W/\w.heap.size+4<=W.heap.size
theorem zIQ(w:WB)(l l':List Nat){C:Nat}(hC:w.heap.size<=C):OwnFrom C (zUi w l l'):=by
 rintro k W W' row ⟨v,lo,u,hv,I,h1,O,hu,h0,h2,hB,h4⟩ h J
 exact⟨v,lo,u,qL hv h J,zHq I h J,h1,O,qL hu h J,h0,h2,zAi hB h (vR _) hC J,xQ h4 h.size⟩
theorem zNc(x y u:Nat)(hx:x<4294967296)(hy:y<4294967296)(hu:u<=1):
  ∃d z u':Nat,IntKind.u64.wrap (IntKind.u64.wrap ((x:Int)-(y:Int))-(u:Int))=(d:Int)/\(d:Int)%4294967296=(z:Int)/\(d:Int)/9223372036854775808=(u':Int)/\z<4294967296/\u'<=1/\x+u'*4294967296=z+y+u:=by
 have e:IntKind.u64.wrap (IntKind.u64.wrap ((x:Int)-(y:Int))-(u:Int))=((x:Int)-y-u)%18446744073709551616:=by
  rw[mK,mK];omega
 by_cases h:y+u<=x
 .exact⟨x-y-u,x-y-u,0,by rw[e];omega,oA,oA,oA,oA,oA⟩
 .exact⟨18446744073709551616+x-y-u,4294967296+x-y-u,1,by rw[e];omega,oA,oA,oA,oA,oA⟩
theorem zH7(A:WF Addr)(n c:Nat)(l:List Nat)(A':WF Addr)(n' c':Nat)(l':List Nat)(w:WB)(h:Rd w A n c l)(h':Rd w A' n' c' l')(ht:Lt l)(ht':Lt l')(hge:val l'<=val l)(hn:n<=1099511627776)(hn':n'<=1099511627776):
  Calls prog 107 #[.slice A n c,.slice A' n' c'] w fun e w'=>∃A1 n1 c1 l1,e=.returned (.tuple #[.slice A1 n1 c1,.int .i64 0])/\Is l1 (val l-val l')/\Rd w' A1 n1 c1 l1/\Below w.heap.size w w':=by
 have hle:=h.le;have hcap:=h.cap;have hle':=h'.le;have hcap':=h'.cap
 have hcmp:decide (zAs (val l) (val l')<0)=false:=by
  unfold zAs
  rw[if_neg oA]
  split<;>simp
 obtain⟨N,hmx,hN⟩:∃N,((n<n'/\n'=N)∨(¬n<n'/\n=N))/\n<=N/\n'<=N/\N<=1099511627776:=by
  by_cases hh:n<n'
  .exact⟨n',.inl ⟨hh,rfl⟩,oA⟩
  .exact⟨n,.inr ⟨hh,rfl⟩,oA⟩
 refine jD func107 rfl ?_
 simp only[ntmps107,bN,lL,lM,Nat.reduceAdd,Nat.reduceSub,lN,lO,lP,lQ,eZ,lR]
 go_wp2_with (first|(go_at_call 117;refine(zFg A n c l A' n' c' l' _ h h' ht ht').mono ?_;rintro e w1 ⟨rfl,rfl⟩)|(go_at_call 109;refine(zHo A n c A' n' c' _).mono ?_;rintro e w1 ⟨rfl,rfl⟩))
 obtain⟨W0,hW0⟩:∃W0,((((w.alloc (.cells #[.slice none 0 0] 28)).alloc (.cells #[.int .u64 0] 103)).alloc (.cells #[.slice A n c] 28)).alloc (.cells #[.slice A' n' c'] 28))=W0:=⟨_,rfl⟩
 have hsz:W0.heap.size=w.heap.size+4:=by rw[<-hW0];simp
 have hB0:Below w.heap.size w W0:=by rw[<-hW0];exact((((xF _ w).alloc (vR _) _).alloc eN _).alloc sB _).alloc sB _
 have bx0:Boxed W0 w.heap.size 28 (.slice none 0 0):=by rw[<-hW0];exact(((bX w _ _).alloc _).alloc _).alloc _
 have bx1:Boxed W0 (w.heap.size+1) 103 (.int .u64 0):=by
  rw[<-hW0];have:=bX (w.alloc (.cells #[.slice none 0 0] 28)) 103 (.int .u64 0);rw[cB]at this;exact(this.alloc _).alloc _
 have bx2:Boxed W0 (w.heap.size+1+1) 28 (.slice A n c):=by
  rw[<-hW0];have:=bX ((w.alloc (.cells #[.slice none 0 0] 28)).alloc (.cells #[.int .u64 0] 103)) 28 (.slice A n c);rw[cB,cB]at this;exact this.alloc _
 have bx3:Boxed W0 (w.heap.size+1+1+1) 28 (.slice A' n' c'):=by
  rw[<-hW0];have:=bX (((w.alloc (.cells #[.slice none 0 0] 28)).alloc (.cells #[.int .u64 0] 103)).alloc (.cells #[.slice A n c] 28)) 28 (.slice A' n' c');rw[cB,cB,cB]at this;exact this
 rw[hW0]
 clear hW0
 refine zEa (gf:=119) rfl (enters_of func119 kA rfl) (zEU A n c l A' n' c' l' (w.heap.size+1+1) (w.heap.size+1+1+1) N W0 (h.below hB0) (h'.below hB0) ht ht' bx2.cell bx3.cell hmx (S:=fun b=>b<w.heap.size∨b=w.heap.size+2∨b=w.heap.size+3) (fun b hb=>oA) (.inr (.inl rfl)) (.inr (.inr rfl)) (fun b o hn e=>.inl (h.in_ b o hn e)) (fun b o hn e=>.inl (h'.in_ b o hn e))) (fun _=>rfl) yZ.trans (zDG (fun b hb=>oA))
  (zUi w l l') ?hI ?hF wR (fun _ _ _ _ _ _ _ _=>trivial) ?h0
  (fun k=>{ tmps:=#[.slice A n c,.slice A' n' c',undef,undef,.slice none 0 0,.int .i64 0,.pointer (some ⟨w.heap.size,0,none⟩),.pointer (some ⟨w.heap.size+1,0,none⟩),.int .u64 (lm l k:Nat),.int .u64 (lm l' k:Nat),undef,.slice A n c,.slice A' n' c',.int .i64 (zAs (val l) (val l')),.bool false,.slice A n c,.slice A' n' c',.func (.func 119) #[] #[.pointer (some ⟨w.heap.size+1+1,0,none⟩),.pointer (some ⟨w.heap.size+1+1+1,0,none⟩)],.int .u64 (lm l k:Nat),.int .u64 (lm l' k:Nat),undef,undef,undef,undef,undef,undef,undef,undef,undef,undef,undef,undef,undef,undef],defers:=[] }) ?assign ?body ?done
 case hI=>exact zIQ w l l' oA
 case hF=>exact zCb (zIQ w l l' (vR _))
 case h0=>exact⟨_, [],0,bx0,wS _ _ _,rfl,zCc,bx1,oA,by simp[sm],hB0,oA⟩
 case assign=>
  intro lp k W K hK
  gi_wp2
  exact hK
 case body=>
  rintro lp k W hk ⟨v,lo,u,hv,hown,hlk,hlt,hu,hu1,heq,hB,hW4⟩
  have hcv:=hv.cell;have hfv:=hv.frozen;have hcu:=hu.cell;have hfu:=hu.frozen
  have x1:=qK ht k;have x2:=qK ht' k
  simp only[BB]at x1 x2
  obtain⟨d,z,u',hd,hz,hu',hz1,hu1',hstep⟩:=zNc (lm l k) (lm l' k) u x1 x2 hu1
  have HS:=hid hstep
  have hl1:(lo++ [z]).length=k+1:=sB
  have hsW:w.heap.size+4<=W.heap.size:=hW4
  have hSS:∀b,(b<w.heap.size∨b=w.heap.size+2∨b=w.heap.size+3)->b<W.heap.size/\some b≠v.ownBlock:=fun b hb=>⟨oA,hown.not_in oA⟩
  have hSo: ¬(w.heap.size<w.heap.size∨w.heap.size=w.heap.size+2∨w.heap.size=w.heap.size+3):=oA
  have hte:28≠81:=rY
  have hte':103≠81:=rY
  have hs1:lo.length+ [z].length<=17592186044416:=sB
  clear hstep
  gi_wp2_with (gi_at_builtin;go_must (refine zBF rfl _ _ 28 81 rfl yB yS (w.heap.size+4) v lo rfl (z7.alloc hown _) _ 1 1 [z] rfl (Rd.one _ z 81) hs1 (qB hsW _) ?_;intro v1 w1 hown1 hg1 hat1;obtain⟨A1,c1,rfl⟩:=hown1.form' hl1;obtain⟨hv1,hv2,hr2,hk2,hb2⟩:=zJQ hte hv hown hB.size (vR _) (Nat.le_add_right _ 4) hown1 hg1;have hk3:=zL7 (v':=.slice A1 (k+1) c1) hg1 hSS hSo;have hc1:=hv1.cell;have hf1:=hv1.frozen;have hu2:=zGL hte' hu hown hg1;have hc2:=hu2.cell;have hf2:=hu2.frozen))
  have hu3:=hu2.other (Nat.succ_ne_self w.heap.size) (.slice A1 (k+1) c1)
  refine⟨(hk2.trans (bP _ _ _)).from _,hk3.setCell (p:=⟨w.heap.size+1,0,none⟩) eN _,_,lo++ [z],u',hv2.other oA _,hr2.other hu3 hte' _,hl1,zBk hlt hz1,hu3.set _,hu1',?_,(hB.trans hb2).setCell (p:=⟨w.heap.size+1,0,none⟩) eN _,?_⟩
  .rw[zAz,hlk]
   simp only[sm,vY]
   exact zF2 heq HS.out
  .exact xQ hW4 ((hb2.setCell (p:=⟨w.heap.size+1,0,none⟩) eN _).size)
 case done=>
  rintro D W hD ⟨v,lo,u,hv,hown,hlk,hlt,hu,hu1,heq,hB,hW4⟩ _ hd
  obtain⟨A1,c1,rfl⟩:=hown.form' hlk
  have hcv:=hv.cell;have hfv:=hv.frozen
  go_wp2_with (go_at_call 86;refine(qT _ _ _ _ _ hown.rd hlt oA).mono ?_;rintro e w1 ⟨A2,n2,c2,l2,rfl,hi2,hr2,hb2⟩)
  have hd1:w1.heap[D]?=some (.deferred (some [])):=(hb2.block D (xP.1 hd).1).trans hd
  have e1:=zAY (l:=l) (n:=N) (by rw[h.len];omega)
  have e2:=zAY (l:=l') (n:=N) (by rw[h'.len];omega)
  have e3:=qO hlt
  rw[hlk]at e3
  rw[e1,e2]at heq
  have hu0:u=0:=by
   rcases xZ 0 u with h0|h0
   .have:u=1:=oA
    subst this
    omega
   .omega
  subst hu0
  have hv2:val lo=val l-val l':=oA
  rw[hv2]at hi2
  refine⟨eN,.inl ⟨_,_,rfl,run_takeDeferred hd1,?_⟩⟩
  exact⟨_,results_tmp2 rfl _ _ _,A2,n2,c2,l2,rfl,hi2,hr2.other _ hd1 rfl,zIB (hB.trans (hb2.mono hB.size)) _ (xQ hB.size hb2.size) oA⟩
attribute [local go_sem] Oper.semAt_some qD yA
def zED(ls:List (List Nat))(k:Nat):Nat:=((ls.take k).map val).sum
theorem zDw(ls:List (List Nat)):zED ls 0=0:=by simp[zED]
theorem zDx{k:Nat}(h:ls[k]?=some l):zED ls (k+1)=zED ls k+val l:=by
 unfold zED
 rw[List.take_add_one,h]
 simp
theorem zGU(h:ls.length=n):zED ls n=(ls.map val).sum:=by
 unfold zED
 rw[mJ oA]
theorem zOG(x y u:Nat)(hx:x<4294967296)(hy:y<4294967296)(hu:u<=1):
  ∃d z u':Nat,(u:Int)+((x:Int)+(y:Int))=(d:Int)/\(d:Int)%4294967296=(z:Int)/\(d:Int)/4294967296=(u':Int)/\z<4294967296/\u'<=1/\d<=8589934591/\x+y+u=z+u'*4294967296:=
 ⟨u+(x+y),(u+(x+y))%4294967296,(u+(x+y))/4294967296,oA,oA,oA,oA,oA,oA,oA⟩
theorem zJR{a lo P x y z u I:Nat}(heq:lo+u*P=a+b)(J:x+y+u=z+I*4294967296):lo+z*P+I*(P*4294967296)=a+x*P+(b+y*P):=by
 have h:=vX (·*P) J
 simp only[vU]at h
 have e:I*(P*4294967296)=I*4294967296*P:=by rw[vT P,vV]
 omega
def zKB(s m:Nat)(b:Nat):Prop:=b<s∨b=m+1∨b=m+1+1
def zUl(B s m:Nat)(w W1:WB)(ls la:List Nat)(ds:List Deferred)(Ds:List Nat)(k:Nat)(W:WB):Prop:=
 ∃v lo,∃u:Nat,Boxed W m 28 v/\z7 W (s+1) 81 v lo/\lo.length=k/\Lt lo/\Boxed W s 103 (.int .u64 u)/\u<=1/\
  val lo+u*BB^k=sm (lm ls) k+sm (lm la) k/\Below B w W/\yZ (zKB s m) W1 W/\Marks B W ds Ds/\W1.heap.size<=W.heap.size
theorem zJS{s:Nat}{O:WB}{ls la:List Nat}{ds:List Deferred}{Ds:List Nat}(hB:B<=w.heap.size)(hsB:B<=s)(hs:s<=m)(hm:m+1+1<O.heap.size)(hD:∀D,D∈Ds->D<O.heap.size):OwnFrom O.heap.size (zUl B s m w O ls la ds Ds):=by
 rintro k W W' row ⟨v,lo,u,hv,J,h5,h2,hu,h3,h6,hb,hk,h1,h4⟩ h I
 refine⟨v,lo,u,qL hv h I,zHq J h I,h5,h2,qL hu h I,h3,h6,zAi hb h hB oA I,hk.grown h (fun b hb=>⟨?_,fun e=>?_⟩),h1.abide hD h I,xQ h4 h.size⟩
 .unfold zKB at hb;omega
 .have:=(I b e.symm).1;unfold zKB at hb;omega
def zUF(w:WB)(A:WF Addr)(n c:Nat)(ls:List (List Nat))(a:Act)(W:WB):Prop:=
 ∃(k:Nat) (v:WD) (ds:List Deferred) (Ds:List Nat) (u4 u5 u6 u7 u8 u12 u13 u14 u15 u16 u17 u18 u19 u20 u21 u22 u23 u24 u25 u26 u27 u28 u29 u30 u31 u32 u33 u34 u35 u36 u37 u38 u39 u40 u41 u42 u43 u44:WD) (As:WF Addr) (ns cs:Nat) (lo:List Nat),
  a={ tmps:=#[.slice A n c,undef,v,undef,u4,u5,u6,u7,u8,.slice A n c,.int .i64 n,.int .i64 k,u12,u13,u14,u15,u16,u17,u18,u19,u20,u21,u22,u23,u24,u25,u26,u27,u28,u29,u30,u31,u32,u33,u34,u35,u36,u37,u38,u39,u40,u41,u42,u43,u44,undef,undef],defers:=ds }/\k<=n/\v=.slice As ns cs/\Rd W As ns cs lo/\Lt lo/\ns<=68719476736+k/\val lo=zED ls k/\Below w.heap.size w W/\Marks w.heap.size W ds Ds
theorem zMI(A:WF Addr)(n c:Nat)(ls:List (List Nat))(w:WB)(h:Rds w A n ls)(hn:n<=1000):
  Calls prog 96 #[.slice A n c] w (jH w (ls.map val).sum):=by
 obtain⟨i0,hi0,hz0,hz1,hz2⟩:=cT yS
 refine jD func96 rfl ?_
 simp only[ntmps96,bN,lL,lM,Nat.reduceAdd,Nat.reduceSub,lN,lO,lP,lQ,eZ,lR]
 go_wp2
 refine wp_loop (zUF w A n c ls) (fun a _=>n-(intOf (a.tmps.getD 11 undef)).toNat) ?_ ?_
 .exact⟨0,_, [], [],_,_,_,_,_,_,_,_,_,_,_,_,_,_,_,_,_,_,_,_,_,_,_,_,_,_,_,_,_,_,_,_,_,_,_,_,_,_,none,0,0, [],rfl,vS _,rfl,wM _,zCc,oA,by rw[zDw];rfl,xF _ _,Marks.nil _ _⟩
 rintro a W ⟨k,v,ds,Ds,u4,u5,u6,u7,u8,u12,u13,u14,u15,u16,u17,u18,u19,u20,u21,u22,u23,u24,u25,u26,u27,u28,u29,u30,u31,u32,u33,u34,u35,u36,u37,u38,u39,u40,u41,u42,u43,u44,As,ns,cs,lo,rfl,hk,rfl,hrs,hlt,hns,hval,hB,hM⟩
 by_cases hkn:k<n
 .obtain⟨b,o,Ai,ni,ci,la,rfl,hcell,hla,hra,hta,hni⟩:=h.cells k hkn
  have hcW:W.cell? ⟨b,o+k,none⟩=some (.slice Ai ni ci):=(hB.cell (p:=⟨b,o+k,none⟩) (zU hcell)).trans hcell
  have hraW:=hra.below hB
  obtain⟨N,hmx,hmx2,hN⟩:∃N,((ns<ni/\ni=N)∨(¬ns<ni/\ns=N))/\((ni<ns/\N=ns)∨(¬ni<ns/\N=ni))/\ni<=N/\ns<=N/\N<=68719476736+k:=by
   rcases gX ns ni with hh|hh|hh
   .exact⟨ni,.inl ⟨hh,rfl⟩,.inr ⟨oA,rfl⟩,oA⟩
   .exact⟨ns,.inr ⟨oA,rfl⟩,.inr ⟨oA,hh⟩,oA⟩
   .exact⟨ns,.inr ⟨oA,rfl⟩,.inl ⟨hh,rfl⟩,oA⟩
  have HX:=hid hmx
  clear hmx
  have hbase:W.heap.size+1<=(W.alloc (.cells #[.int .u64 0] 103)).heap.size:=eN
  have hbytes:i0.bytes*(N+1)<=281474976710656:=by rw[hz2];omega
  have hmax:N+1<=maxLen:=by unfold maxLen;omega
  rcases hmx2 with⟨hx,hxe⟩|⟨hx,hxe⟩
  rotate_left
  let x:=ni
  rotate_left
  let x:=ns
  all_goals
   have ex:x=N:=hxe.symm
   have HC:Hid (((x:Int)+1)=((N+1:Nat):Int)):=hid oA
   have HE:=hid hxe
   clear hxe
   go_wp2_with (first|(at_make;refine wpList_make_own _ rfl _ _ 28 rfl (W.heap.size+1) 81 i0 (.int .u32 0) 1 yB hi0 hz0 hz1 .i64 .i64 _ (N+1) rfl rfl HC.out hbytes hmax hbase ?_;intro w0 hown0 hgrow0)|(go_at_call 109;refine(zHo _ _ _ _ _ _ _).mono ?_;rintro e w1 ⟨rfl,rfl⟩))
   rw[cB]at hown0
   have hm0:W.heap.size+1<w0.heap.size:=(eO hown0 _ rfl).2
   obtain⟨W1,hW1⟩:∃W1,(((w0.alloc (.cells #[.slice (some ⟨W.heap.size+1,0,none⟩) 0 (N+1)] 28)).alloc (.cells #[.slice As ns cs] 28)).alloc (.cells #[.slice Ai ni ci] 28))=W1:=⟨_,rfl⟩
   have hsz:W1.heap.size=w0.heap.size+3:=by rw[<-hW1];simp
   have hBW:Below W.heap.size W W1:=by
    rw[<-hW1]
    exact(((((xF _ W).alloc (vR _) _).grown hgrow0 eN (fun _ e=>by cases e)).alloc oA _).alloc sB _).alloc sB _
   have hB1:Below w.heap.size w W1:=hB.trans (hBW.mono hB.size)
   have bs:Boxed W1 W.heap.size 103 (.int .u64 0):=by rw[<-hW1];exact((((bX W _ _).kept hgrow0 eN).alloc _).alloc _).alloc _
   have bm:Boxed W1 w0.heap.size 28 (.slice (some ⟨W.heap.size+1,0,none⟩) 0 (N+1)):=by rw[<-hW1];exact((bX w0 _ _).alloc _).alloc _
   have bp:Boxed W1 (w0.heap.size+1) 28 (.slice As ns cs):=by
    rw[<-hW1];have:=bX (w0.alloc (.cells #[.slice (some ⟨W.heap.size+1,0,none⟩) 0 (N+1)] 28)) 28 (.slice As ns cs);rw[cB]at this;exact this.alloc _
   have bq:Boxed W1 (w0.heap.size+1+1) 28 (.slice Ai ni ci):=by
    rw[<-hW1];have:=bX ((w0.alloc (.cells #[.slice (some ⟨W.heap.size+1,0,none⟩) 0 (N+1)] 28)).alloc (.cells #[.slice As ns cs] 28)) 28 (.slice Ai ni ci);rw[cB,cB]at this;exact this
   have ho1:z7 W1 (W.heap.size+1) 81 (.slice (some ⟨W.heap.size+1,0,none⟩) 0 (N+1)) []:=by
    rw[<-hW1];exact((eP hown0 _).alloc _).alloc _
   have hM1:=hM.made hBW
   have hD1:=hM1.lt
   rw[hW1]
   clear hW1
   have hSb:∀b,zKB W.heap.size w0.heap.size b->b<W1.heap.size:=fun b hb=>by unfold zKB at hb;omega
   refine zEa (gf:=119) rfl (enters_of func119 kA rfl) (zEU As ns cs lo Ai ni ci la (w0.heap.size+1) (w0.heap.size+1+1) N W1 (hrs.below hBW) (hraW.below hBW) hlt hta bp.cell bq.cell HX.out (S:=zKB W.heap.size w0.heap.size) hSb (.inr (.inl rfl)) (.inr (.inr rfl)) (fun b o hn e=>.inl (hrs.in_ b o hn e)) (fun b o hn e=>.inl (hraW.in_ b o hn e))) (fun _=>rfl) yZ.trans (zDG hSb)
    (zUl w.heap.size W.heap.size w0.heap.size w W1 lo la ds Ds) (zJS (vR _) hB.size oA oA hD1) (zCb (zJS (vR _) hB.size oA oA hD1)) wR (fun _ _ _ _ _ _ _ _=>trivial)
    ⟨_, [],0,bm,ho1,rfl,zCc,bs,oA,by simp[sm],hB1,yZ.refl _ _,hM1,vR _⟩
    (fun j=>{ tmps:=#[.slice (some ⟨b,o,none⟩) n c,undef,.slice As ns cs,undef,.slice Ai ni ci,.pointer (some ⟨W.heap.size,0,none⟩),.pointer (some ⟨w0.heap.size,0,none⟩),.int .u64 (lm lo j:Nat),.int .u64 (lm la j:Nat),.slice (some ⟨b,o,none⟩) n c,.int .i64 n,.int .i64 k,.bool true,.pointer (some ⟨b,o+k,none⟩),.slice Ai ni ci,.slice Ai ni ci,.int .i64 ni,.slice As ns cs,.int .i64 ns,.int .i64 x,.int .i64 ((x:Int)+1),.slice (some ⟨W.heap.size+1,0,none⟩) 0 (N+1),.slice As ns cs,.slice Ai ni ci,.func (.func 119) #[] #[.pointer (some ⟨w0.heap.size+1,0,none⟩),.pointer (some ⟨w0.heap.size+1+1,0,none⟩)],.int .u64 (lm lo j:Nat),.int .u64 (lm la j:Nat),u27,u28,u29,u30,u31,u32,u33,u34,u35,u36,u37,u38,u39,u40,u41,u42,u43,u44,undef,undef],defers:=[] }) ?_ ?_ ?_
   .intro lp j W2 K hK
    gi_wp2
    exact hK
   .rintro lp j W2 hj ⟨v,lv,u,hv,hown,hlk,hlv,hu,hu1,heq,hB2,hK2,hM2,hsz2⟩
    have hcv:=hv.cell;have hfv:=hv.frozen;have hcu:=hu.cell;have hfu:=hu.frozen
    have x1:=qK hlt j;have x2:=qK hta j
    simp only[BB]at x1 x2
    obtain⟨d,z,u',hd,hz,hu',hz1,hu1',hd1,hstep⟩:=zOG (lm lo j) (lm la j) u x1 x2 hu1
    have HS:=hid hstep
    clear hstep
    have hs1:lv.length+ [z].length<=17592186044416:=sB
    have hl1:(lv++ [z]).length=j+1:=sB
    have hte:28≠81:=rY
    have hte':103≠81:=rY
    have hne:W.heap.size≠w0.heap.size:=oA
    have hne':w0.heap.size≠W.heap.size:=oA
    have hbW:W.heap.size+1<=W2.heap.size:=oA
    have bp2:=hK2.boxed (.inr (.inl rfl)) bp
    have bq2:=hK2.boxed (.inr (.inr rfl)) bq
    have hSS:∀b,zKB W.heap.size w0.heap.size b->b<W2.heap.size/\some b≠v.ownBlock:=fun b hb=>⟨by have:=hSb b hb;omega,by
     rcases hb with hb|rfl|rfl
     .exact hown.not_in oA
     .exact bp2.not_row hte hown
     .exact bq2.not_row hte hown⟩
    have hSo: ¬zKB W.heap.size w0.heap.size w0.heap.size:=by unfold zKB;omega
    have hSu: ¬zKB W.heap.size w0.heap.size W.heap.size:=by unfold zKB;omega
    have huS:=hu.set (.int .u64 d)
    have hownS:=hown.other hu hte' (.int .u64 d)
    have hvS:=hv.other hne' (.int .u64 d)
    have cvS:=hvS.cell;have fvS:=hvS.frozen;have cuS:=huS.cell;have fuS:=huS.frozen
    have hbS:W.heap.size+1<=(W2.setCell ⟨W.heap.size,0,none⟩ (.int .u64 d)).heap.size:=xQ hbW (bP _ _ _).size
    gi_wp2_with (gi_at_builtin;go_must (refine zBF rfl _ _ 28 81 rfl yB yS (W.heap.size+1) v lv rfl (z7.alloc hownS _) _ 1 1 [z] rfl (vN _ z 81 (zBa W2 _ _)) hs1 (qB hbS _) ?_;intro v1 w1 hown1 hg1 hat1;obtain⟨A1,c1,rfl⟩:=hown1.form' hl1;have hk3:=zL7 (v':=.slice A1 (j+1) c1) hg1 (fun b hb=>⟨vW (hSS b hb).1 (bP _ _ _).size,(hSS b hb).2⟩) hSo;obtain⟨hv1,hv2,hr2,hk2,hb2⟩:=zJQ hte hvS hownS hbS (mI hm0) (vR _) hown1 hg1;have hc1:=hv1.cell;have hf1:=hv1.frozen;have hu2:=zGL hte' huS hownS hg1;have hc2:=hu2.cell;have hf2:=hu2.frozen))
    have hu3:=hu2.other hne (.slice A1 (j+1) c1)
    have hko:=(bP W2 ⟨W.heap.size,0,none⟩ (.int .u64 d)).trans (hk2.trans (bP _ ⟨W.heap.size,0,none⟩ (.int .u64 u')))
    have hks:=(((yZ.refl (zKB W.heap.size w0.heap.size) W2).setCell (p:=⟨W.heap.size,0,none⟩) hSu (.int .u64 d)).trans hk3).setCell (p:=⟨W.heap.size,0,none⟩) hSu (.int .u64 u')
    refine⟨hko.from _,hks,_,lv++ [z],u',hv2.other hne' _,hr2.other hu3 hte' _,hl1,zBk hlv hz1,hu3.set _,hu1',?_,((hB2.setCell (p:=⟨W.heap.size,0,none⟩) hB.size _).trans (hb2.mono (by have:=hB.size;omega))).setCell (p:=⟨W.heap.size,0,none⟩) hB.size _,hK2.trans hks,hM2.others hko,xQ hsz2 hko.size⟩
    rw[zAz,hlk]
    simp only[sm,vY]
    exact zJR heq HS.out
   .rintro D W3 hD ⟨v,lv,u,hv,hown,hlk,hlv,hu,hu1,heq,hB2,hK2,hM2,hsz2⟩ _ hd
    obtain⟨A1,c1,rfl⟩:=hown.form' hlk
    have hcv:=hv.cell;have hcu:=hu.cell
    have heu:(u:Int)%4294967296=u:=oA
    have hs1:lv.length+ [u].length<=17592186044416:=sB
    have hl1:(lv++ [u]).length=N+1:=sB
    have hbW:W.heap.size+1<=W3.heap.size:=oA
    go_wp2_with (at_builtin;go_must (refine zS rfl _ _ 28 81 rfl yB yS (W.heap.size+1) _ lv rfl (z7.alloc hown _) _ 1 1 [u] rfl (Rd.one _ u 81) hs1 (qB hbW _) ?_;intro v1 w1 hown1 hg1 hat1;obtain⟨A2,c2,rfl⟩:=hown1.form' hl1))
    have hD2:D ∉ Ds:=fun h=>by have:=hD1 D h;omega
    have hM3:=(hM2.more hD2 (by have:=hB1.size;omega) hd).others (zGv hown hg1)
    refine⟨⟨k+1,_,_,_,_,_,_,_,_,_,_,_,_,_,_,_,_,_,_,_,_,_,_,_,_,_,_,_,_,_,_,_,_,_,_,_,_,_,_,_,_,_,A2,N+1,c2,lv++ [u],rfl,oA,rfl,hown1.rd,zBk hlv (by unfold BB;omega),oA,?_,z7.grown (hB2.alloc hB2.size _) (z7.alloc hown _) hg1 (by have:=hB.size;omega) (qB hB2.size _),hM3⟩,?_⟩
    .have e1:=zAY (l:=lo) (n:=N) (by rw[hrs.len];omega)
     have e2:=zAY (l:=la) (n:=N) (by rw[hra.len];omega)
     rw[zDx hla,zAz,hlk,heq,e1,e2,hval]
    .show n-(intOf (.int .i64 ((k:Int)+1))).toNat<n-(intOf (.int .i64 (k:Int))).toNat
     simp[intOf]
     omega
 .obtain rfl:k=n:=oA
  go_wp2_with (go_at_call 86;refine(qT _ _ _ _ _ hrs hlt oA).mono ?_;rintro e w1 ⟨A2,n2,c2,l2,rfl,hi2,hr2,hb2⟩)
  refine qF w1 (fun w' _=>results_tmp rfl _ _ w') Ds ds w1 (hM.made hb2) (Oth.refl _ _) ?_
  intro w' ho
  rw[hval,zGU h.len]at hi2
  exact⟨A2,n2,c2,l2,rfl,hi2,hr2.oth ho,zAh (hB.trans (hb2.mono hB.size)) ho (vR _)⟩
def iv(s:Bool)(l:List Nat):Int:=if s then -(val l:Int)else val l
def jC(W:WB)(B:Nat)(t:WE)(vs:Array WD):Prop:=W.heap[B]?=some (.cells vs t (0,0))
theorem jC.lt(h:jC W B t vs):B<W.heap.size:=(xP.1 h).1
theorem jC.cell(h:jC W B t vs)(i:Nat):W.cell? ⟨B,i,none⟩=vs[i]?:=by simp[World.cell?,show W.heap[B]?=_ from h]
theorem jC.frozen(h:jC W B t vs)(i:Nat):W.frozen? ⟨B,i,none⟩=false:=by simp[World.frozen?,show W.heap[B]?=_ from h]
theorem jC.new(W:WB)(t:WE)(vs:Array WD):jC (W.alloc (.cells vs t)) W.heap.size t vs:=bT W _
theorem jC.at_(W:WB)(t:WE)(vs:Array WD){b:Nat}(h:b=W.heap.size):jC (W.alloc (.cells vs t)) b t vs:=by
 subst h
 exact jC.new W t vs
theorem jC.kept(h:jC W B t vs)(I:Below W.heap.size W W'):jC W' B t vs:=(I.block _ h.lt).trans h
theorem jC.alloc(h:jC W B t vs)(o:Obj):jC (W.alloc o) B t vs:=h.kept ((xF _ _).alloc (vR _) o)
theorem jC.other(h:jC W B t vs){p:Addr}(hp:B≠p.block)(v:WD):jC (W.setCell p v) B t vs:=(cP W p v B hp).trans h
theorem jC.set(h:jC W B t vs)(i:Nat)(v:WD):jC (W.setCell ⟨B,i,none⟩ v) B t (vs.setIfInBounds i v):=by
 obtain⟨I,J⟩:=xP.1 h
 show(W.heap.modify B _)[B]?=_
 rw[bR (by rw[eR];exact I),mW,J]
 rfl
theorem jC.oth(h:jC w b t vs)(J:Oth B w w'):jC w' b t vs:=by
 rcases J.block b with e|⟨_,⟨o,I,O⟩,_⟩
 .exact e.trans h
 .rw[show w.heap[b]?=_ from h]at I
  cases I
  cases O
theorem jC.putObj{D:Nat}(h:jC W B t vs){o:Obj}(o':Obj)(I:W.heap[D]?=some o)(J:o.isCells=false):jC (W.putObj D o') B t vs:=by
 refine(bQ ?_).trans h
 intro e
 subst e
 rw[show W.heap[B]?=_ from h]at I
 cases I
 cases J
theorem Rd.setN(h:Rd w A n c l){b:Nat}{t:WE}{vs:Array WD}(hb:jC w b t vs){i:Nat}{u:WD}(hi:vs[i]?=some u)(hu:∀x,u≠ .int .u32 x)(v:WD):Rd (w.setCell ⟨b,i,none⟩ v) A n c l:=
 ⟨h.len,h.le,h.cap,h.nil,fun k hk=>by
  obtain⟨b',o,e,J⟩:=h.cells k hk
  refine⟨b',o,e,(mL _ _ _ _ ?_).trans J⟩
  intro O
  simp only[Addr.mk.injEq,and_true]at O
  obtain⟨rfl,I⟩:=O
  first|rw[<-I]at J|rw[I]at J
  rw[hb.cell,hi]at J
  exact hu _ (mE J)⟩
theorem zL9:(s&& !(val l==0))=decide (iv s l<0):=by
 unfold iv
 cases s
 .simp only[mS,xI,xK]
  exact(bD oA).symm
 .simp only[mN,cH]
  by_cases h:val l=0
  .simp[h]
  .rw[mF.2 h]
   exact(eY oA).symm
theorem zHA(s:Bool)(l:List Nat):(iv s l).natAbs=val l:=by
 unfold iv
 cases s<;>simp
def zAp(W:WB)(B:Nat)(v:Int):Prop:=∃A n c l,jC W B 119 #[.bool (decide (v<0)),.slice A n c]/\Is l v.natAbs/\Rd W A n c l
theorem zAp.kept{v:Int}(h:zAp W B v)(I:Below W.heap.size W W'):zAp W' B v:=by
 obtain⟨A,n,c,l,O,J,h3⟩:=h
 exact⟨A,n,c,l,O.kept I,J,h3.below I⟩
theorem zAp.lt{v:Int}(h:zAp W B v):B<W.heap.size:=by
 obtain⟨A,n,c,l,I,_⟩:=h
 exact I.lt
def qN(w:WB)(v:Int):Ending->WB->Prop:=fun e w'=>∃A n c l,e=.returned (.agg #[.bool (decide (v<0)),.slice A n c])/\Is l v.natAbs/\Rd w' A n c l/\Below w.heap.size w w'
theorem zBW(h:Below w.heap.size w w'):w.grownBy w' none:=⟨h.os,h.tape,h.output,h.size,fun k I _=>h.block k I⟩
theorem y6(w:WB)(a:Addr)(u:WD):w.grownBy (w.setCell a u) (some a.block):=
 ⟨rfl,rfl,rfl,(KeepsWalks.setCell w _ u).size,fun k _ h=>cP _ _ _ k (fun e=>h (by rw[e]))⟩
theorem zA6{w2:WB}(h:Below B w w1)(O:w1.grownBy w2 (some b))(J:B<=w1.heap.size)(hb:B<=b):Below B w w2:=h.grown O J fun k I=>by cases I;exact hb
theorem zDh(B:Nat)(s:Bool)(A:WF Addr)(n c:Nat)(l:List Nat)(w:WB)(hb:jC w B 119 #[.bool s,.slice A n c])(h:Rd w A n c l)(ht:Lt l)(hl:n<=1099511627776):
  Calls prog 90 #[.pointer (some ⟨B,0,none⟩)] w fun e w'=>e=.returned (.pointer (some ⟨B,0,none⟩))/\zAp w' B (iv s l)/\w.grownBy w' (some B):=by
 have g0:w.cell? ⟨B,0,none⟩=some (.bool s):=hb.cell 0
 have g1:w.cell? ⟨B,1,none⟩=some (.slice A n c):=hb.cell 1
 go_enter func90,ntmps90
 go_wp2_with (go_at_call 86;refine(qT _ _ _ _ _ h ht hl).mono ?_;rintro e w2 ⟨A2,n2,c2,l2,rfl,hi2,hr2,hb2⟩;have hbx:=hb.kept hb2;have g2:=hbx.cell 0;have g3:=hbx.cell 1;have g4:=hbx.frozen 0;have g5:=hbx.frozen 1;simp only[xO,List.getElem?_cons_zero,List.getElem?_cons_succ]at g2 g3)
 all_goals
  go_ret
  have hle:=hr2.len;have hz:=hi2.zero_iff
  have fin:∀x:Bool,x=decide (iv s l<0)->zAp ((w2.setCell ⟨B,1,none⟩ (.slice A2 n2 c2)).setCell ⟨B,0,none⟩ (.bool x)) B (iv s l)/\w.grownBy ((w2.setCell ⟨B,1,none⟩ (.slice A2 n2 c2)).setCell ⟨B,0,none⟩ (.bool x)) (some B):=by
   rintro x rfl
   exact⟨⟨A2,n2,c2,l2,(hbx.set 1 _).set 0 _,by rw[zHA];exact hi2,(hr2.setN hbx (i:=1) rfl (fun _=>eN) _).setN (hbx.set 1 _) (i:=0) rfl (fun _=>eN) _⟩,
    ((zBW hb2).but (some B)).trans ((y6 w2 ⟨B,1,none⟩ (.slice A2 n2 c2)).trans (y6 _ ⟨B,0,none⟩ _))⟩
  refine⟨rfl,fin _ ?_⟩
  rw[<-zL9]
  simp_all
  try
   by_cases e:n2=0
   .rw[hz.2 e,e];rfl
   .rw[eY oA,mF.2 (fun h=>e (hz.1 h))];rfl
theorem zEF(s:Bool)(A:WF Addr)(n c:Nat)(l:List Nat)(w:WB)(h:Rd w A n c l)(ht:Lt l)(hl:n<=1099511627776):
  Calls prog 72 #[.agg #[.bool s,.slice A n c]] w fun e w'=>∃B,e=.returned (.pointer (some ⟨B,0,none⟩))/\w.heap.size<=B/\zAp w' B (iv s l)/\Below w.heap.size w w':=by
 go_enter func72,ntmps72
 go_wp2_with (go_at_call 90;refine(zDh _ s A n c l _ (jC.at_ _ _ _ eN) ((h.alloc _).alloc _) ht hl).mono ?_;rintro e w1 ⟨rfl,hn,hg⟩)
 go_ret
 exact⟨_,rfl,eN,hn,zA6 (((xF _ w).alloc (vR _) _).alloc eN _) hg sB eN⟩
theorem jC.facts2(h:jC W B t #[x,y]):(W.cell? ⟨B,0,none⟩=some x/\W.cell? ⟨B,1,none⟩=some y)/\W.frozen? ⟨B,0,none⟩=false/\W.frozen? ⟨B,1,none⟩=false:=⟨⟨h.cell 0,h.cell 1⟩,h.frozen 0,h.frozen 1⟩
theorem res2(h:Below (W.alloc (.cells #[x,y] t)).heap.size (W.alloc (.cells #[x,y] t)) W')(e:b=W.heap.size):jC W' b t #[x,y]:=(jC.at_ W t #[x,y] e).kept h
theorem zAp.parts{v:Int}(h:zAp W B v):∃A n c l,(W.cell? ⟨B,0,none⟩=some (.bool (decide (v<0)))/\W.cell? ⟨B,1,none⟩=some (.slice A n c))/\Is l v.natAbs/\Rd W A n c l:=by
 obtain⟨A,n,c,l,I,J,O⟩:=h
 exact⟨A,n,c,l,⟨I.cell 0,I.cell 1⟩,J,O⟩
theorem zG9{v:Int}{x0:Bool}{A0:WF Addr}{n0 c0:Nat}{J:WF Addr}{I h:Nat}{O:List Nat}(hq:jC w1 b t #[.bool x0,.slice A0 n0 c0])(hb:Below w.heap.size w w1)(hB:w.heap.size<=b)(hi:Is O v.natAbs)(hr:Rd w1 J I h O):
  qN w v (.returned (.agg #[.bool (decide (v<0)),.slice J I h])) ((w1.setCell ⟨b,0,none⟩ (.bool (decide (v<0)))).setCell ⟨b,1,none⟩ (.slice J I h)):=
 ⟨J,I,h,O,rfl,hi,(hr.setN hq (i:=0) rfl (fun _=>eN) _).setN (hq.set 0 _) (i:=1) rfl (fun _=>eN) _,(hb.setCell (p:=⟨b,0,none⟩) hB _).setCell (p:=⟨b,1,none⟩) hB _⟩
theorem zGX(s:Bool)(A:WF Addr)(n c:Nat)(l:List Nat)(w:WB)(h:Rd w A n c l)(ht:Lt l)(hl:n<=1099511627776):
  Calls prog 87 #[.agg #[.bool s,.slice A n c]] w (qN w (iv s l)):=by
 go_enter func87,ntmps87
 go_wp2_with (go_at_call 72;refine(zEF s A n c l _ ((h.alloc _).alloc _) ht hl).mono ?_;rintro e w1 ⟨B,rfl,hB,hn,hb⟩;obtain⟨A2,n2,c2,l2,⟨g0,g1⟩,hi2,hr2⟩:=hn.parts;have hq:=res2 hb (b:=w.heap.size+1) eN;obtain⟨⟨q0,q1⟩,q2,q3⟩:=hq.facts2)
 obtain⟨⟨c0,c1⟩,_,_⟩:=((hq.set 0 (.bool (decide (iv s l<0)))).set 1 (.slice A2 n2 c2)).facts2
 exact mG (v:=.agg #[.bool (decide (iv s l<0)),.slice A2 n2 c2]) (by simp[results,results87,go_sem,c0,c1]) rfl<|zG9 hq ((((xF _ w).alloc (vR _) _).alloc eN _).trans (hb.mono sB)) eN hi2 hr2
theorem zPl(s:Bool)(l:List Nat):iv (!s) l= -iv s l:=by
 unfold iv
 cases s<;>simp
theorem zIU(s:Bool)(A:WF Addr)(n c:Nat)(l:List Nat)(w:WB)(h:Rd w A n c l)(ht:Lt l)(hl:n<=1099511627776):
  Calls prog 89 #[.agg #[.bool s,.slice A n c]] w (qN w (-iv s l)):=by
 go_enter func89,ntmps89
 go_wp2_with (go_at_call 87;refine(zGX (!s) A n c l _ ((h.alloc _).alloc _) ht hl).mono ?_;rintro e w1 ⟨A2,n2,c2,l2,rfl,hi2,hr2,hb⟩;have hq:=res2 hb (b:=w.heap.size+1) eN;obtain⟨⟨q0,q1⟩,q2,q3⟩:=hq.facts2)
 obtain⟨⟨c0,c1⟩,_,_⟩:=((hq.set 0 (.bool (decide (iv (!s) l<0)))).set 1 (.slice A2 n2 c2)).facts2
 refine mG (v:=.agg #[.bool (decide (iv (!s) l<0)),.slice A2 n2 c2]) (by simp[results,results89,go_sem,c0,c1]) rfl ?_
 rw[<-zPl]
 exact zG9 hq ((((xF _ w).alloc (vR _) _).alloc eN _).trans (hb.mono sB)) eN hi2 hr2
theorem zNk(B:Nat)(v:Int)(w:WB)(h:zAp w B v):
  Calls prog 83 #[.pointer (some ⟨B,0,none⟩)] w fun e w'=>e=.returned (.int .i64 v.sign)/\Below w.heap.size w w':=by
 obtain⟨A2,n2,c2,l2,hb,hi2,hr2⟩:=h
 have g0:=fun o=>(hb.alloc o).facts2.1.1
 have g1:=fun o=>(hb.alloc o).facts2.1.2
 have hz:=hi2.zero_iff
 have hlen:=hr2.len
 rw[hlen]at hz
 rcases mX v 0 with hv|rfl|hv
 .rw[eY hv]at g0
  have hn:(1:Int)<=n2:=oA
  rw[mT hv]
  go_enter func83,ntmps83
  go_wp2
  all_goals
   first|done|(go_ret;exact⟨rfl,(xF _ w).alloc (vR _) _⟩)
 .obtain rfl:n2=0:=hz.1 rfl
  rw[bD oA]at g0
  go_enter func83,ntmps83
  go_wp2
  all_goals
   first|done|(go_ret;exact⟨rfl,(xF _ w).alloc (vR _) _⟩)
 .rw[bD oA]at g0
  rw[mO hv]
  rcases(oA:n2=1∨1<n2)with rfl|hn
  all_goals
   go_enter func83,ntmps83
   go_wp2
   all_goals
    first|done|(go_ret;exact⟨rfl,(xF _ w).alloc (vR _) _⟩)
theorem zGW(s:Bool)(A:WF Addr)(n c:Nat)(l:List Nat)(w:WB)(h:Rd w A n c l)(ht:Lt l)(hl:n<=1099511627776):
  Calls prog 64 #[.agg #[.bool s,.slice A n c]] w fun e w'=>e=.returned (.int .i64 (iv s l).sign)/\Below w.heap.size w w':=by
 go_enter func64,ntmps64
 go_wp2_with (first|(go_at_call 72;refine(zEF s A n c l _ (h.alloc _) ht hl).mono ?_;rintro e w1 ⟨B,rfl,hB,hn,hb⟩)|(go_at_call 83;refine(zNk _ _ _ hn).mono ?_;rintro e w2 ⟨rfl,hb2⟩))
 go_ret
 have hb3:=((xF _ w).alloc (vR _) (.cells #[.bool s,.slice A n c] 30)).trans (hb.mono eN)
 exact⟨rfl,hb3.trans (hb2.mono hb3.size)⟩
theorem zNg(k:Nat)(hk2:k<=9223372036854775807)(w:WB):
  Calls prog 51 #[.int .i64 k] w (qN w k):=by
 have hk0:(0:Int)<=k:=lS k
 go_enter func51,ntmps51
 go_wp2_with (go_at_call 69;refine(zJs k oA _).mono ?_;rintro e w1 ⟨A2,n2,c2,l2,rfl,hi2,hr2,hb⟩;have hq:=res2 hb (b:=w.heap.size) rfl;obtain⟨⟨q0,q1⟩,q2,q3⟩:=hq.facts2)
 obtain⟨⟨c0,c1⟩,_,_⟩:=((hq.set 0 (.bool (decide ((k:Int)<0)))).set 1 (.slice A2 n2 c2)).facts2
 rw[show(Value.bool false)=.bool (decide ((k:Int)<0))from by rw[bD oA]]at*
 exact mG (v:=.agg #[.bool (decide ((k:Int)<0)),.slice A2 n2 c2]) (by simp[results,results51,go_sem,c0,c1]) rfl<|zG9 hq (((xF _ w).alloc (vR _) _).trans (hb.mono eN)) eN hi2 hr2
theorem zNh(k:Nat)(hk0:0<k)(hk2:k<=9223372036854775808)(w:WB):
  Calls prog 51 #[.int .i64 (-(k:Int))] w (qN w (-(k:Int))):=by
 have hk1:(-(k:Int))<0:=oA
 have hww:IntKind.u64.wrap (-IntKind.u64.wrap (-(k:Int)))=(k:Int):=by
  simp only[IntKind.wrap,IntKind.bits,IntKind.signed];simp;omega
 go_enter func51,ntmps51
 go_wp2_with (go_at_call 69;refine(zJs k oA _).mono ?_;rintro e w1 ⟨A2,n2,c2,l2,rfl,hi2,hr2,hb⟩;have hq:=res2 hb (b:=w.heap.size) rfl;obtain⟨⟨q0,q1⟩,q2,q3⟩:=hq.facts2)
 obtain⟨⟨c0,c1⟩,_,_⟩:=((hq.set 0 (.bool true)).set 1 (.slice A2 n2 c2)).facts2
 refine mG (v:=.agg #[.bool true,.slice A2 n2 c2]) (by simp[results,results51,go_sem,c0,c1]) rfl ?_
 have e1:decide (-(k:Int)<0)=true:=eY hk1
 have:=zG9 (v:= -(k:Int)) hq (((xF _ w).alloc (vR _) _).trans (hb.mono eN)) eN (by simpa using hi2) hr2
 rw[e1]at this
 exact this
theorem zIT(k:Int)(hk: -9223372036854775808<=k)(hk2:k<=9223372036854775807)(w:WB):
  Calls prog 51 #[.int .i64 k] w (qN w k):=by
 rcases(oA:0<=k∨k<0)with h|h
 .obtain⟨m,rfl⟩:=fE h
  exact zNg m oA w
 .obtain⟨m,hm⟩:=fE (show 0<=-k from oA)
  obtain rfl:k= -(m:Int):=oA
  exact zNh m oA oA w
attribute [local go_sem] Oper.semAt_some qD yA
theorem zNd(A:WF Addr)(n c:Nat)(l:List Nat)(A':WF Addr)(n' c':Nat)(l':List Nat)(w:WB)(h:Rd w A n c l)(h':Rd w A' n' c' l')(ht:Lt l)(ht':Lt l')(hge:val l<val l'):
  Calls prog 107 #[.slice A n c,.slice A' n' c'] w fun e w'=>e=.returned (.tuple #[.slice none 0 0,.int .i64 10])/\Below w.heap.size w w':=by
 have hcmp:decide (zAs (val l) (val l')<0)=true:=by
  unfold zAs
  rw[if_pos oA]
  rfl
 refine jD func107 rfl ?_
 simp only[ntmps107,bN,lL,lM,Nat.reduceAdd,Nat.reduceSub,lN,lO,lP,lQ,eZ,lR]
 go_wp2_with (go_at_call 117;refine(zFg A n c l A' n' c' l' _ h h' ht ht').mono ?_;rintro e w1 ⟨rfl,rfl⟩)
 exact qF (B:=w.heap.size) w (fun w' _=>results_tmp2 rfl _ _ w') [] _ _ (Marks.nil _ _) (Oth.refl _ _) fun w' ho=>⟨rfl,zAh (xF _ w) ho (vR _)⟩
theorem zMF(A:WF Addr)(n c:Nat)(w:WB):
  Calls prog 73 #[.slice A n c] w fun e w'=>e=.returned (.func (.func 91) #[] #[.pointer (some ⟨w.heap.size,0,none⟩)])/\w'=w.alloc (.cells #[.slice A n c] 100):=by
 go_enter func73,ntmps73
 go_wp2
 go_ret
 exact⟨rfl,rfl⟩
structure IRdM(m:Nat)(w:World)(A:Option Addr)(n:Nat)(is:List (Bool×List Nat)):Prop where
 len:is.length=n
 cells:∀i,i<n->∃b o s Ai ni ci li,A=some ⟨b,o,none⟩/\w.cell? ⟨b,o+i*2,none⟩=some (.bool s)/\w.cell? ⟨b,o+i*2+1,none⟩=some (.slice Ai ni ci)/\is[i]?=some (s,li)/\Rd w Ai ni ci li/\Lt li/\ni<=m
theorem IRdM.keep(h:IRdM m w A n is)(J:∀p:Addr,p.block<w.heap.size->w'.cell? p=w.cell? p):IRdM m w' A n is:=
 ⟨h.len,fun i hi=>by
  obtain⟨b,o,s,Ai,ni,ci,li,e,O,I,h1,h2,h3⟩:=h.cells i hi
  exact⟨b,o,s,Ai,ni,ci,li,e,(J _ (xJ w _ O)).trans O,(J _ (xJ w _ I)).trans I,h1,h2.keep J,h3⟩⟩
theorem IRdM.below(h:IRdM m w A n is)(I:Below w.heap.size w w'):IRdM m w' A n is:=h.keep fun _ hp=>I.cell hp
abbrev IRd:=IRdM 1099511627776
def zDH(is:List (Bool×List Nat))(k:Nat):Int:=(is[k]?.map fun p=>iv p.1 p.2).getD 0
def zUE(N0:Nat)(is:List (Bool×List Nat))(k:Nat)(xs:Array WD)(W:WB):Prop:=∃B,xs=#[.pointer (some ⟨B,0,none⟩)]/\N0<=B/\zAp W B (zDH is k)
def zFt(S:Nat->Prop)(A B:WB):Prop:=yZ S A B/\A.heap.size<=B.heap.size
theorem zFt.trans{A B C:WB}(h:zFt S A B)(k:zFt S B C):zFt S A C:=⟨h.1.trans k.1,xQ h.2 k.2⟩
theorem zIs(h:∀b,S b->b<n)(W:WB)(l:Nat)(o o':Obj)(I:n<=l)(h1:W.heap[l]?=some o)(h2:o.isCells=false):zFt S W (W.putObj l o'):=
 ⟨zDG h W l o o' I h1 h2,mP (eA ..).symm⟩
theorem zHS(A:WF Addr)(n c:Nat)(is:List (Bool×List Nat))(b1:Nat)(w w0:WB)(h:IRd w A n is)(hw0:Below w.heap.size w w0)(hn:n<=c)(hc:c<=9223372036854775807)
  (hc1:w0.cell? ⟨b1,0,none⟩=some (.slice A n c)){S:Nat->Prop}(hS:∀b,S b->b<w0.heap.size)(_hS1:S b1)(hSA:∀b,b<w.heap.size->S b):
  zOK prog 91 #[.pointer (some ⟨b1,0,none⟩)] (zUE w0.heap.size is) n (zFt S) Mk (fun _=>True) w0:=by
 intro lp J W hW hJ hY h0
 have hl1:=zU hc1
 have hw1:=(hW.cell (p:=⟨b1,0,none⟩) hl1).trans hc1
 refine zBr func91 rfl ?_
 simp only[ntmps91,bN,lL,lM,Nat.reduceAdd,Nat.reduceSub,lN,lO,lP,lQ,eZ,lR]
 gi_wp2
 gi_loopw [7] (fun i wr=>∃k:Nat,k<=n/\i=.int .i64 k/\J k wr/\yZ S w0 wr/\w0.heap.size<=wr.heap.size) (fun i _=>n-(intOf i).toNat)
 case atStart=>exact⟨0,vS _,rfl,h0,yZ.of_below hW hS,hW.size⟩
 case round=>
  obtain⟨k,hk,rfl,hj,hb,hz⟩:=hrel
  by_cases hkn:k<n
  .obtain⟨b,o,s,Ai,ni,ci,li,rfl,p1,p2,hi,hr,hli,hni⟩:=(h.keep (w':=wr) fun p hp=>(hb.cell (hSA _ hp)).trans (hw0.cell hp)).cells k hkn
   have hid1:zDH is k=iv s li:=by simp[zDH,hi]
   have hjk:=hJ k wr
   gi_wp2_with (first|(gi_at_call 72;refine bC (bB.2 (zEF s Ai ni ci li _ (hr.alloc _) hli hni)) ?_;rintro e w2 ⟨B2,rfl,hB2,hn2,hb2⟩;have hmk:Mk wr w2:=((xF _ wr).alloc (vR _) _).trans (hb2.mono eN);obtain⟨fn,tmps,assign,body,hy,hR⟩:=hY k w2 #[.pointer (some ⟨B2,0,none⟩)] hkn (hjk _ hj hmk) ⟨B2,rfl,xQ hz (xQ eN hB2),by rw[hid1];exact hn2⟩)|(refine hR.mono ?_;rintro e W3 ⟨rfl,hJ3,hk3⟩))
   refine⟨⟨k+1,oA,rfl,hJ3,(hb.trans (yZ.of_below hmk fun b hb=>vW (hS b hb) hz)).trans hk3.1,xQ hz (xQ hmk.size hk3.2)⟩,?_⟩
   simp[intOf]
   omega
  .obtain rfl:k=n:=oA
   gi_wp2
   go_end0
   exact⟨⟨_,rfl⟩,hj,trivial⟩
attribute [local go_sem] Oper.semAt_some qD yA
theorem zHt(B B':Nat)(v v':Int)(k:Nat)(w:WB)(h:zAp w B v)(h':zAp w B' v')(_hne:B'≠B)(hv:v.natAbs<BB^k)(hv':v'.natAbs<BB^k)(hk:k<=1000000)(hs:decide (v<0)=decide (v'<0)):
  Calls prog 92 #[.pointer (some ⟨B,0,none⟩),.pointer (some ⟨B',0,none⟩)] w fun e w'=>(∃u,e=.returned u)/\zAp w' B (v+v')/\w.grownBy w' (some B):=by
 obtain⟨A,n,c,l,hb,hi,hr⟩:=h
 obtain⟨A',n',c',l',hb',hi',hr'⟩:=h'
 have hn:n<=k:=by rw[<-hr.len];exact hi.len hv
 have hn':n'<=k:=by rw[<-hr'.len];exact hi'.len hv'
 obtain⟨⟨g0,g1⟩,g2,g3⟩:=hb.facts2
 obtain⟨⟨k0,k1⟩,k2,k3⟩:=hb'.facts2
 go_enter func92,ntmps92
 have hmix:prog.follows .mixedOrders=true:=rZ
 .go_wp2_with (first|go_region|fail)
  refine(bJ (n:=0)).1<|zZ 16 (fun W=>(W.cell? ⟨B,0,none⟩=some (.bool (decide (v<0)))/\W.cell? ⟨B,1,none⟩=some (.slice A n c))/\W.cell? ⟨B',0,none⟩=some (.bool (decide (v'<0)))/\W.cell? ⟨B',1,none⟩=some (.slice A' n' c')) hmix ?_
  have d1:=And.intro (And.intro g0 g1) (And.intro k0 k1)
  refine zQ (i:=0) (v:=?vv1) kA kA rfl kA kA kA (fun _ _ _ h=>h) d1 ⟨.inl ⟨rfl,?yy1⟩,fun _=>rfl⟩ ?_
  case yy1=>
   rintro wx ⟨⟨q1,q2⟩,q3,q4⟩
   go_simp
   first|done|rfl
  refine zQ (i:=1) (v:=?vv2) kA kA rfl kA kA kA (fun _ _ _ h=>h) d1 ⟨.inl ⟨rfl,?yy2⟩,fun _=>rfl⟩ ?_
  case yy2=>
   rintro wx ⟨⟨q1,q2⟩,q3,q4⟩
   go_simp
   first|done|rfl
  refine zQ (i:=2) (v:=?vv3) kA kA rfl kA kA kA (fun _ _ _ h=>h) d1 ⟨.inl ⟨rfl,?yy3⟩,fun _=>rfl⟩ ?_
  case yy3=>
   rintro wx ⟨⟨q1,q2⟩,q3,q4⟩
   go_simp
   first|done|rfl
  refine zQ (i:=3) (v:=?vv4) kA kA rfl kA kA kA (fun _ _ _ h=>h) d1 ⟨.inl ⟨rfl,?yy4⟩,fun _=>rfl⟩ ?_
  case yy4=>
   rintro wx ⟨⟨q1,q2⟩,q3,q4⟩
   go_simp
   first|done|rfl
  refine zQ (i:=4) (v:=?vv5) kA kA rfl kA kA kA (fun _ _ _ h=>h) d1 ⟨.inl ⟨rfl,?yy5⟩,fun _=>rfl⟩ ?_
  case yy5=>
   rintro wx ⟨⟨q1,q2⟩,q3,q4⟩
   go_simp
   first|done|rfl
  refine zQ (i:=5) (v:=?vv6) kA kA rfl kA kA kA (fun _ _ _ h=>h) d1 ⟨.inl ⟨rfl,?yy6⟩,fun _=>rfl⟩ ?_
  case yy6=>
   rintro wx ⟨⟨q1,q2⟩,q3,q4⟩
   go_simp
   first|done|rfl
  refine zQ (i:=6) (v:=?vv7) kA kA rfl kA kA kA (fun _ _ _ h=>h) d1 ⟨.inl ⟨rfl,?yy7⟩,fun _=>rfl⟩ ?_
  case yy7=>
   rintro wx ⟨⟨q1,q2⟩,q3,q4⟩
   go_simp
   first|done|rfl
  refine zQ (i:=7) (v:=?vv8) kA kA rfl kA kA kA (fun _ _ _ h=>h) d1 ⟨.inl ⟨rfl,?yy8⟩,fun _=>rfl⟩ ?_
  case yy8=>
   rintro wx ⟨⟨q1,q2⟩,q3,q4⟩
   go_simp
   first|done|rfl
  refine zQ (i:=8) (v:=?vv9) kA kA rfl kA kA kA (fun _ _ _ h=>h) d1 ⟨.inl ⟨rfl,?yy9⟩,fun _=>rfl⟩ ?_
  case yy9=>
   rintro wx ⟨⟨q1,q2⟩,q3,q4⟩
   go_simp
   first|done|rfl
  refine zQ (i:=9) (v:=?vv10) kA kA rfl kA kA kA (fun _ _ _ h=>h) d1 ⟨.inl ⟨rfl,?yy10⟩,fun _=>rfl⟩ ?_
  case yy10=>
   rintro wx ⟨⟨q1,q2⟩,q3,q4⟩
   go_simp
   first|done|rfl
  refine zQ (i:=10) (v:=?vv11) kA kA rfl kA kA kA (fun _ _ _ h=>h) d1 ⟨.inl ⟨rfl,?yy11⟩,fun _=>rfl⟩ ?_
  case yy11=>
   rintro wx ⟨⟨q1,q2⟩,q3,q4⟩
   go_simp
   first|done|rfl
  refine zAq (i:=11) kA rfl (fun K hK=>?_)
  go_simp
  have hW1:Below w.heap.size w (w.alloc (.cells #[.slice A n c,.slice A' n' c'] 28)).drew.drew:=(((xF _ w).alloc (vR _) _).drew).drew
  have hds:Rds (w.alloc (.cells #[.slice A n c,.slice A' n' c'] 28)).drew.drew (some ⟨w.heap.size,0,none⟩) 2 [l,l']:=(Rds.two hr hi.lt oA hr' hi'.lt oA 28).below (((xF _ _).drew).drew)
  generalize hW:(w.alloc (.cells #[.slice A n c,.slice A' n' c'] 28)).drew.drew=W1 at*
  have hb1:=hb.kept hW1;have hb1':=hb'.kept hW1
  refine hK _ _ (.inr ⟨hb1.facts2.1,hb1'.facts2.1⟩) ?_
  clear hK K
  refine zAq (i:=12) kA rfl (fun K hK=>?_)
  go_simp
  refine bC (bB.2 (zMI _ 2 2 _ W1 hds oA)) ?_
  rintro e w2 ⟨A2,n2,c2,l2,rfl,hi2,hr2,hb2⟩
  have hB2:Below w.heap.size w w2:=hW1.trans (hb2.mono hW1.size)
  have hb3:=hb.kept hB2;have hb3':=hb'.kept hB2
  obtain⟨⟨m0,m1⟩,m2,m3⟩:=hb3.facts2
  have d3:=And.intro hb3.facts2.1 hb3'.facts2.1
  refine hK _ _ (.inr ⟨hb3.facts2.1,hb3'.facts2.1⟩) ?_
  clear hK K
  refine zAq (i:=13) kA rfl (fun K hK=>?_)
  go_simp
  refine hK _ _ (.inr d3) ?_
  clear hK K
  refine zAq (i:=14) kA rfl (fun K hK=>?_)
  go_simp
  refine hK _ _ (.inr d3) ?_
  clear hK K
  refine zAq (i:=15) kA rfl (fun K hK=>?_)
  go_simp
  refine hK _ _ (.inr d3) ?_
  clear hK K
  refine zAq (i:=16) kA rfl (fun K hK=>?_)
  go_simp
  refine hK _ _ (.inl rfl) ?_
  clear hK K
  refine zCd kA ?_
  have hv2:iv (decide (v<0)) l2=v+v':=by
   unfold iv
   rw[hi2.val]
   simp only[cF,cO,mQ,mR,hi.val,hi'.val]
   by_cases h0:v<0
   .have h1:v'<0:=by rw[eY h0]at hs;exact xW hs.symm
    rw[eY h0]
    simp only[cH]
    omega
   .have h1: ¬v'<0:=by rw[bD h0]at hs;exact mB hs.symm
    rw[bD h0]
    simp only[xI,xK]
    omega
  have hn2:n2<=k+1:=by
   rw[<-hr2.len]
   refine hi2.len ?_
   simp only[cF,cO,mQ,mR,hi.val,hi'.val,vY]
   unfold BB at*
   omega
  go_wp2_with (go_at_call 90;refine(zDh B _ A2 n2 c2 l2 _ (hb3.set 1 _) (hr2.setN hb3 (i:=1) rfl (fun _=>eN) _) hi2.lt oA).mono ?_;rintro e w4 ⟨rfl,hn4,hg4⟩)
  refine mG (results_none rfl _ _ _) rfl ⟨⟨_,rfl⟩,by rw[hv2]at hn4;exact hn4,((zBW hB2).but (some B)).trans ((y6 w2 ⟨B,1,none⟩ _).trans hg4)⟩
attribute [local go_sem] Oper.semAt_some qD yA
theorem zKj(B B':Nat)(v v':Int)(k:Nat)(w:WB)(h:zAp w B v)(h':zAp w B' v')(_hne:B'≠B)(hv:v.natAbs<BB^k)(hv':v'.natAbs<BB^k)(hk:k<=1000000)(hs:(decide (v<0)==decide (v'<0))=false)(hlt:v'.natAbs<=v.natAbs):
  Calls prog 92 #[.pointer (some ⟨B,0,none⟩),.pointer (some ⟨B',0,none⟩)] w fun e w'=>(∃u,e=.returned u)/\zAp w' B (v+v')/\w.grownBy w' (some B):=by
 obtain⟨A,n,c,l,hb,hi,hr⟩:=h
 obtain⟨A',n',c',l',hb',hi',hr'⟩:=h'
 have hn:n<=k:=by rw[<-hr.len];exact hi.len hv
 have hn':n'<=k:=by rw[<-hr'.len];exact hi'.len hv'
 obtain⟨⟨g0,g1⟩,g2,g3⟩:=hb.facts2
 obtain⟨⟨k0,k1⟩,k2,k3⟩:=hb'.facts2
 have hmix:prog.follows .mixedOrders=true:=rZ
 go_enter func92,ntmps92
 go_wp2_with (first|go_region|fail)
 have d1:=And.intro (And.intro g0 g1) (And.intro k0 k1)
 refine(bJ (n:=0)).1<|zZ 100 (fun W=>(W.cell? ⟨B,0,none⟩=some (.bool (decide (v<0)))/\W.cell? ⟨B,1,none⟩=some (.slice A n c))/\W.cell? ⟨B',0,none⟩=some (.bool (decide (v'<0)))/\W.cell? ⟨B',1,none⟩=some (.slice A' n' c')) hmix<|zQ (i:=0) (v:=?vv1) kA kA rfl kA kA kA (fun _ _ _ h=>h) d1 ⟨.inl ⟨rfl,?yy1⟩,fun _=>rfl⟩ ?_
 case yy1=>
  rintro wx ⟨⟨q1,q2⟩,q3,q4⟩
  go_simp
  first|done|rfl
 refine zQ (i:=1) (v:=?vv2) kA kA rfl kA kA kA (fun _ _ _ h=>h) d1 ⟨.inl ⟨rfl,?yy2⟩,fun _=>rfl⟩ ?_
 case yy2=>
  rintro wx ⟨⟨q1,q2⟩,q3,q4⟩
  go_simp
  first|done|rfl
 refine zQ (i:=2) (v:=?vv3) kA kA rfl kA kA kA (fun _ _ _ h=>h) d1 ⟨.inl ⟨rfl,?yy3⟩,fun _=>rfl⟩ ?_
 case yy3=>
  rintro wx ⟨⟨q1,q2⟩,q3,q4⟩
  go_simp
  first|done|rfl
 refine zQ (i:=3) (v:=?vv4) kA kA rfl kA kA kA (fun _ _ _ h=>h) d1 ⟨.inl ⟨rfl,?yy4⟩,fun _=>rfl⟩ ?_
 case yy4=>
  rintro wx ⟨⟨q1,q2⟩,q3,q4⟩
  go_simp
  first|done|rfl
 refine zQ (i:=4) (v:=?vv5) kA kA rfl kA kA kA (fun _ _ _ h=>h) d1 ⟨.inl ⟨rfl,?yy5⟩,fun _=>rfl⟩ ?_
 case yy5=>
  rintro wx ⟨⟨q1,q2⟩,q3,q4⟩
  go_simp
  first|done|rfl
 refine zQ (i:=5) (v:=?vv6) kA kA rfl kA kA kA (fun _ _ _ h=>h) d1 ⟨.inl ⟨rfl,?yy6⟩,fun _=>rfl⟩ ?_
 case yy6=>
  rintro wx ⟨⟨q1,q2⟩,q3,q4⟩
  go_simp
  first|done|rfl
 refine zQ (i:=6) (v:=?vv7) kA kA rfl kA kA kA (fun _ _ _ h=>h) d1 ⟨.inl ⟨rfl,?yy7⟩,fun _=>rfl⟩ ?_
 case yy7=>
  rintro wx ⟨⟨q1,q2⟩,q3,q4⟩
  go_simp
  first|done|rfl
 refine zQ (i:=7) (v:=?vv8) kA kA rfl kA kA kA (fun _ _ _ h=>h) d1 ⟨.inl ⟨rfl,?yy8⟩,fun _=>rfl⟩ ?_
 case yy8=>
  rintro wx ⟨⟨q1,q2⟩,q3,q4⟩
  go_simp
  first|done|rfl
 refine zQ (i:=8) (v:=?vv9) kA kA rfl kA kA kA (fun _ _ _ h=>h) d1 ⟨.inl ⟨rfl,?yy9⟩,fun _=>rfl⟩ ?_
 case yy9=>
  rintro wx ⟨⟨q1,q2⟩,q3,q4⟩
  go_simp
  first|done|rfl
 refine zQ (i:=9) (v:=?vv10) kA kA rfl kA kA kA (fun _ _ _ h=>h) d1 ⟨.inl ⟨rfl,?yy10⟩,fun _=>rfl⟩ ?_
 case yy10=>
  rintro wx ⟨⟨q1,q2⟩,q3,q4⟩
  go_simp
  first|done|rfl
 refine zAq (i:=10) kA rfl (fun K hK=>?_)
 go_simp
 refine bC (bB.2 (zH7 A n c l A' n' c' l' _ (hr.below (((xF _ w).drew).drew)) (hr'.below (((xF _ w).drew).drew)) hi.lt hi'.lt (by rw[hi.val,hi'.val];exact hlt) oA oA)) ?_
 rintro e w2 ⟨A2,n2,c2,l2,rfl,hi2,hr2,hb2⟩
 have hB2:Below w.heap.size w w2:=(((xF _ w).drew).drew).trans hb2
 have hb3:=hb.kept hB2;have hb3':=hb'.kept hB2
 obtain⟨⟨m0,m1⟩,m2,m3⟩:=hb3.facts2
 obtain⟨⟨p0,p1⟩,p2,p3⟩:=hb3'.facts2
 have d3:=And.intro hb3.facts2.1 hb3'.facts2.1
 refine hK _ _ (.inr d3) ?_
 clear hK K
 refine zAq (i:=11) kA rfl (fun K hK=>?_)
 go_simp
 refine hK _ _ (.inr d3) ?_
 clear hK K
 refine zQ (i:=12) (v:=?vv11) kA kA rfl kA kA kA (fun _ _ _ h=>h) d3 ⟨.inl ⟨rfl,?yy11⟩,fun _=>rfl⟩ ?_
 case yy11=>
  rintro wx ⟨⟨q1,q2⟩,q3,q4⟩
  go_simp
  first|done|rfl
 refine zQ (i:=13) (v:=?vv12) kA kA rfl kA kA kA (fun _ _ _ h=>h) d3 ⟨.inl ⟨rfl,?yy12⟩,fun _=>rfl⟩ ?_
 case yy12=>
  rintro wx ⟨⟨q1,q2⟩,q3,q4⟩
  go_simp
  first|done|rfl
 refine zQ (i:=14) (v:=?vv13) kA kA rfl kA kA kA (fun _ _ _ h=>h) d3 ⟨.inl ⟨rfl,?yy13⟩,fun _=>rfl⟩ ?_
 case yy13=>
  rintro wx ⟨⟨q1,q2⟩,q3,q4⟩
  go_simp
  first|done|rfl
 refine zQ (i:=15) (v:=?vv14) kA kA rfl kA kA kA (fun _ _ _ h=>h) d3 ⟨.inl ⟨rfl,?yy14⟩,fun _=>rfl⟩ ?_
 case yy14=>
  rintro wx ⟨⟨q1,q2⟩,q3,q4⟩
  go_simp
  first|done|rfl
 refine zCd kA ?_
 have hv2:iv (decide (v<0)) l2=v+v':=by
  unfold iv
  rw[hi2.val,hi.val,hi'.val]
  have hs':=mF.1 hs
  by_cases h0:v<0
  .have h1: ¬v'<0:=fun h1=>hs' (by rw[eY h0,eY h1])
   rw[eY h0]
   simp only[cH]
   omega
  .have h1:v'<0:=Decidable.byContradiction fun h1=>hs' (by rw[bD h0,bD h1])
   rw[bD h0]
   simp only[xI,xK]
   omega
 have hn2:n2<=k:=by
  rw[<-hr2.len]
  exact hi2.len (mC (mM _ _) (by rw[hi.val];exact hv))
 go_wp2_with (go_at_call 90;refine(zDh B _ A2 n2 c2 l2 _ (hb3.set 1 _) (hr2.setN hb3 (i:=1) rfl (fun _=>eN) _) hi2.lt oA).mono ?_;rintro e w4 ⟨rfl,hn4,hg4⟩)
 go_end0
 exact⟨⟨_,rfl⟩,by rw[hv2]at hn4;exact hn4,((zBW hB2).but (some B)).trans ((y6 w2 ⟨B,1,none⟩ _).trans hg4)⟩
theorem zKi(B B':Nat)(v v':Int)(k:Nat)(w:WB)(h:zAp w B v)(h':zAp w B' v')(_hne:B'≠B)(hv:v.natAbs<BB^k)(hv':v'.natAbs<BB^k)(hk:k<=1000000)(hs:(decide (v<0)==decide (v'<0))=false)(hlt:v.natAbs<v'.natAbs):
  Calls prog 92 #[.pointer (some ⟨B,0,none⟩),.pointer (some ⟨B',0,none⟩)] w fun e w'=>(∃u,e=.returned u)/\zAp w' B (v+v')/\w.grownBy w' (some B):=by
 obtain⟨A,n,c,l,hb,hi,hr⟩:=h
 obtain⟨A',n',c',l',hb',hi',hr'⟩:=h'
 have hn:n<=k:=by rw[<-hr.len];exact hi.len hv
 have hn':n'<=k:=by rw[<-hr'.len];exact hi'.len hv'
 obtain⟨⟨g0,g1⟩,g2,g3⟩:=hb.facts2
 obtain⟨⟨k0,k1⟩,k2,k3⟩:=hb'.facts2
 have hmix:prog.follows .mixedOrders=true:=rZ
 go_enter func92,ntmps92
 go_wp2_with (first|go_region|fail)
 have d1:=And.intro (And.intro g0 g1) (And.intro k0 k1)
 refine(bJ (n:=0)).1<|zZ 100 (fun W=>(W.cell? ⟨B,0,none⟩=some (.bool (decide (v<0)))/\W.cell? ⟨B,1,none⟩=some (.slice A n c))/\W.cell? ⟨B',0,none⟩=some (.bool (decide (v'<0)))/\W.cell? ⟨B',1,none⟩=some (.slice A' n' c')) hmix<|zQ (i:=0) (v:=?vv15) kA kA rfl kA kA kA (fun _ _ _ h=>h) d1 ⟨.inl ⟨rfl,?yy15⟩,fun _=>rfl⟩ ?_
 case yy15=>
  rintro wx ⟨⟨q1,q2⟩,q3,q4⟩
  go_simp
  first|done|rfl
 refine zQ (i:=1) (v:=?vv16) kA kA rfl kA kA kA (fun _ _ _ h=>h) d1 ⟨.inl ⟨rfl,?yy16⟩,fun _=>rfl⟩ ?_
 case yy16=>
  rintro wx ⟨⟨q1,q2⟩,q3,q4⟩
  go_simp
  first|done|rfl
 refine zQ (i:=2) (v:=?vv17) kA kA rfl kA kA kA (fun _ _ _ h=>h) d1 ⟨.inl ⟨rfl,?yy17⟩,fun _=>rfl⟩ ?_
 case yy17=>
  rintro wx ⟨⟨q1,q2⟩,q3,q4⟩
  go_simp
  first|done|rfl
 refine zQ (i:=3) (v:=?vv18) kA kA rfl kA kA kA (fun _ _ _ h=>h) d1 ⟨.inl ⟨rfl,?yy18⟩,fun _=>rfl⟩ ?_
 case yy18=>
  rintro wx ⟨⟨q1,q2⟩,q3,q4⟩
  go_simp
  first|done|rfl
 refine zQ (i:=4) (v:=?vv19) kA kA rfl kA kA kA (fun _ _ _ h=>h) d1 ⟨.inl ⟨rfl,?yy19⟩,fun _=>rfl⟩ ?_
 case yy19=>
  rintro wx ⟨⟨q1,q2⟩,q3,q4⟩
  go_simp
  first|done|rfl
 refine zQ (i:=5) (v:=?vv20) kA kA rfl kA kA kA (fun _ _ _ h=>h) d1 ⟨.inl ⟨rfl,?yy20⟩,fun _=>rfl⟩ ?_
 case yy20=>
  rintro wx ⟨⟨q1,q2⟩,q3,q4⟩
  go_simp
  first|done|rfl
 refine zQ (i:=6) (v:=?vv21) kA kA rfl kA kA kA (fun _ _ _ h=>h) d1 ⟨.inl ⟨rfl,?yy21⟩,fun _=>rfl⟩ ?_
 case yy21=>
  rintro wx ⟨⟨q1,q2⟩,q3,q4⟩
  go_simp
  first|done|rfl
 refine zQ (i:=7) (v:=?vv22) kA kA rfl kA kA kA (fun _ _ _ h=>h) d1 ⟨.inl ⟨rfl,?yy22⟩,fun _=>rfl⟩ ?_
 case yy22=>
  rintro wx ⟨⟨q1,q2⟩,q3,q4⟩
  go_simp
  first|done|rfl
 refine zQ (i:=8) (v:=?vv23) kA kA rfl kA kA kA (fun _ _ _ h=>h) d1 ⟨.inl ⟨rfl,?yy23⟩,fun _=>rfl⟩ ?_
 case yy23=>
  rintro wx ⟨⟨q1,q2⟩,q3,q4⟩
  go_simp
  first|done|rfl
 refine zQ (i:=9) (v:=?vv24) kA kA rfl kA kA kA (fun _ _ _ h=>h) d1 ⟨.inl ⟨rfl,?yy24⟩,fun _=>rfl⟩ ?_
 case yy24=>
  rintro wx ⟨⟨q1,q2⟩,q3,q4⟩
  go_simp
  first|done|rfl
 refine zAq (i:=10) kA rfl (fun K hK=>?_)
 go_simp
 refine bC (bB.2 (zNd A n c l A' n' c' l' _ (hr.below (((xF _ w).drew).drew)) (hr'.below (((xF _ w).drew).drew)) hi.lt hi'.lt (by rw[hi.val,hi'.val];exact hlt))) ?_
 rintro e w2 ⟨rfl,hb2⟩
 have hB2:Below w.heap.size w w2:=(((xF _ w).drew).drew).trans hb2
 have hb3:=hb.kept hB2;have hb3':=hb'.kept hB2
 obtain⟨⟨m0,m1⟩,m2,m3⟩:=hb3.facts2
 obtain⟨⟨p0,p1⟩,p2,p3⟩:=hb3'.facts2
 have d3:=And.intro hb3.facts2.1 hb3'.facts2.1
 refine hK _ _ (.inr d3) ?_
 clear hK K
 refine zAq (i:=11) kA rfl (fun K hK=>?_)
 go_simp
 refine hK _ _ (.inr d3) ?_
 clear hK K
 refine zQ (i:=12) (v:=?vv25) kA kA rfl kA kA kA (fun _ _ _ h=>h) d3 ⟨.inl ⟨rfl,?yy25⟩,fun _=>rfl⟩ ?_
 case yy25=>
  rintro wx ⟨⟨q1,q2⟩,q3,q4⟩
  go_simp
  first|done|rfl
 refine zQ (i:=13) (v:=?vv26) kA kA rfl kA kA kA (fun _ _ _ h=>h) d3 ⟨.inl ⟨rfl,?yy26⟩,fun _=>rfl⟩ ?_
 case yy26=>
  rintro wx ⟨⟨q1,q2⟩,q3,q4⟩
  go_simp
  first|done|rfl
 refine zQ (i:=14) (v:=?vv27) kA kA rfl kA kA kA (fun _ _ _ h=>h) d3 ⟨.inl ⟨rfl,?yy27⟩,fun _=>rfl⟩ ?_
 case yy27=>
  rintro wx ⟨⟨q1,q2⟩,q3,q4⟩
  go_simp
  first|done|rfl
 refine zQ (i:=15) (v:=?vv28) kA kA rfl kA kA kA (fun _ _ _ h=>h) d3 ⟨.inl ⟨rfl,?yy28⟩,fun _=>rfl⟩ ?_
 case yy28=>
  rintro wx ⟨⟨q1,q2⟩,q3,q4⟩
  go_simp
  first|done|rfl
 refine zCd kA ?_
 go_wp2
 refine(bJ (n:=0)).1<|zZ 100 (fun W=>(W.cell? ⟨B,0,none⟩=some (.bool (decide (v<0)))/\W.cell? ⟨B,1,none⟩=some (.slice A n c))/\W.cell? ⟨B',0,none⟩=some (.bool (decide (v'<0)))/\W.cell? ⟨B',1,none⟩=some (.slice A' n' c')) hmix<|zQ (i:=0) (v:=?vv29) kA kA rfl kA kA kA (fun _ _ _ h=>h) d3 ⟨.inl ⟨rfl,?yy29⟩,fun _=>rfl⟩ ?_
 case yy29=>
  rintro wx ⟨⟨q1,q2⟩,q3,q4⟩
  go_simp
  first|done|rfl
 refine zQ (i:=1) (v:=?vv30) kA kA rfl kA kA kA (fun _ _ _ h=>h) d3 ⟨.inl ⟨rfl,?yy30⟩,fun _=>rfl⟩ ?_
 case yy30=>
  rintro wx ⟨⟨q1,q2⟩,q3,q4⟩
  go_simp
  first|done|rfl
 refine zQ (i:=2) (v:=?vv31) kA kA rfl kA kA kA (fun _ _ _ h=>h) d3 ⟨.inl ⟨rfl,?yy31⟩,fun _=>rfl⟩ ?_
 case yy31=>
  rintro wx ⟨⟨q1,q2⟩,q3,q4⟩
  go_simp
  first|done|rfl
 refine zQ (i:=3) (v:=?vv32) kA kA rfl kA kA kA (fun _ _ _ h=>h) d3 ⟨.inl ⟨rfl,?yy32⟩,fun _=>rfl⟩ ?_
 case yy32=>
  rintro wx ⟨⟨q1,q2⟩,q3,q4⟩
  go_simp
  first|done|rfl
 refine zQ (i:=4) (v:=?vv33) kA kA rfl kA kA kA (fun _ _ _ h=>h) d3 ⟨.inl ⟨rfl,?yy33⟩,fun _=>rfl⟩ ?_
 case yy33=>
  rintro wx ⟨⟨q1,q2⟩,q3,q4⟩
  go_simp
  first|done|rfl
 refine zQ (i:=5) (v:=?vv34) kA kA rfl kA kA kA (fun _ _ _ h=>h) d3 ⟨.inl ⟨rfl,?yy34⟩,fun _=>rfl⟩ ?_
 case yy34=>
  rintro wx ⟨⟨q1,q2⟩,q3,q4⟩
  go_simp
  first|done|rfl
 refine zQ (i:=6) (v:=?vv35) kA kA rfl kA kA kA (fun _ _ _ h=>h) d3 ⟨.inl ⟨rfl,?yy35⟩,fun _=>rfl⟩ ?_
 case yy35=>
  rintro wx ⟨⟨q1,q2⟩,q3,q4⟩
  go_simp
  first|done|rfl
 refine zQ (i:=7) (v:=?vv36) kA kA rfl kA kA kA (fun _ _ _ h=>h) d3 ⟨.inl ⟨rfl,?yy36⟩,fun _=>rfl⟩ ?_
 case yy36=>
  rintro wx ⟨⟨q1,q2⟩,q3,q4⟩
  go_simp
  first|done|rfl
 refine zQ (i:=8) (v:=?vv37) kA kA rfl kA kA kA (fun _ _ _ h=>h) d3 ⟨.inl ⟨rfl,?yy37⟩,fun _=>rfl⟩ ?_
 case yy37=>
  rintro wx ⟨⟨q1,q2⟩,q3,q4⟩
  go_simp
  first|done|rfl
 refine zQ (i:=9) (v:=?vv38) kA kA rfl kA kA kA (fun _ _ _ h=>h) d3 ⟨.inl ⟨rfl,?yy38⟩,fun _=>rfl⟩ ?_
 case yy38=>
  rintro wx ⟨⟨q1,q2⟩,q3,q4⟩
  go_simp
  first|done|rfl
 refine zAq (i:=10) kA rfl (fun K hK=>?_)
 go_simp
 have hB2d:=hB2.drew
 refine bC (bB.2 (zH7 A' n' c' l' A n c l _ (hr'.below hB2d) (hr.below hB2d) hi'.lt hi.lt (by rw[hi.val,hi'.val];omega) oA oA)) ?_
 rintro e w3 ⟨A2,n2,c2,l2,rfl,hi2,hr2,hb4⟩
 have hB3:Below w.heap.size w w3:=hB2d.trans (hb4.mono hB2d.size)
 have hb5:=hb.kept hB3;have hb5':=hb'.kept hB3
 obtain⟨⟨s0,s1⟩,s2,s3⟩:=hb5.facts2
 obtain⟨⟨t0,t1⟩,t2,t3⟩:=hb5'.facts2
 have d5:=And.intro hb5.facts2.1 hb5'.facts2.1
 refine hK _ _ (.inr d5) ?_
 clear hK K
 refine zAq (i:=11) kA rfl (fun K hK=>?_)
 go_simp
 refine hK _ _ (.inr d5) ?_
 clear hK K
 refine zQ (i:=12) (v:=?vv39) kA kA rfl kA kA kA (fun _ _ _ h=>h) d5 ⟨.inl ⟨rfl,?yy39⟩,fun _=>rfl⟩ ?_
 case yy39=>
  rintro wx ⟨⟨q1,q2⟩,q3,q4⟩
  go_simp
  first|done|rfl
 refine zQ (i:=13) (v:=?vv40) kA kA rfl kA kA kA (fun _ _ _ h=>h) d5 ⟨.inl ⟨rfl,?yy40⟩,fun _=>rfl⟩ ?_
 case yy40=>
  rintro wx ⟨⟨q1,q2⟩,q3,q4⟩
  go_simp
  first|done|rfl
 refine zQ (i:=14) (v:=?vv41) kA kA rfl kA kA kA (fun _ _ _ h=>h) d5 ⟨.inl ⟨rfl,?yy41⟩,fun _=>rfl⟩ ?_
 case yy41=>
  rintro wx ⟨⟨q1,q2⟩,q3,q4⟩
  go_simp
  first|done|rfl
 refine zCd kA ?_
 have hv2:iv (decide (v'<0)) l2=v+v':=by
  unfold iv
  rw[hi2.val,hi.val,hi'.val]
  have hs':=mF.1 hs
  by_cases h0:v<0
  .have h1: ¬v'<0:=fun h1=>hs' (by rw[eY h0,eY h1])
   rw[bD h1]
   simp only[xI,xK]
   omega
  .have h1:v'<0:=Decidable.byContradiction fun h1=>hs' (by rw[bD h0,bD h1])
   rw[eY h1]
   simp only[cH]
   omega
 have hn2:n2<=k:=by
  rw[<-hr2.len]
  exact hi2.len (mC (mM _ _) (by rw[hi'.val];exact hv'))
 go_wp2_with (go_at_call 90;refine(zDh B _ A2 n2 c2 l2 _ ((hb5.set 0 _).set 1 _) ((hr2.setN hb5 (i:=0) rfl (fun _=>eN) _).setN (hb5.set 0 _) (i:=1) rfl (fun _=>eN) _) hi2.lt oA).mono ?_;rintro e w4 ⟨rfl,hn4,hg4⟩)
 go_end0
 exact⟨⟨_,rfl⟩,by rw[hv2]at hn4;exact hn4,((zBW hB3).but (some B)).trans ((y6 w3 ⟨B,0,none⟩ _).trans ((y6 _ ⟨B,1,none⟩ _).trans hg4))⟩
attribute [local go_sem] Oper.semAt_some qD yA
theorem num_add(B B':Nat)(v v':Int)(k:Nat)(w:WB)(h:zAp w B v)(h':zAp w B' v')(J:B'≠B)(hv:v.natAbs<BB^k)(I:v'.natAbs<BB^k)(hk:k<=1000000):
  Calls prog 92 #[.pointer (some ⟨B,0,none⟩),.pointer (some ⟨B',0,none⟩)] w fun e w'=>(∃u,e=.returned u)/\zAp w' B (v+v')/\w.grownBy w' (some B):=by
 by_cases hs:decide (v<0)=decide (v'<0)
 .exact zHt B B' v v' k w h h' J hv I hk hs
 .have O:=mF.2 hs
  by_cases hlt:v'.natAbs<=v.natAbs
  .exact zKj B B' v v' k w h h' J hv I hk O hlt
  .exact zKi B B' v v' k w h h' J hv I hk O oA
theorem zFT{p:Addr}{v:WD}(h:W.cell? p=some v)(O:W.grownBy W' row)(I:∀r,row=some r->C<=r/\∃o:Obj,W.heap[r]?=some o/\o.isCells=false):W'.cell? p=some v:=by
 refine(bO (O.block _ (zU h) ?_)).trans h
 intro e
 obtain⟨_,o,ho,J⟩:=I _ e.symm
 rw[zDt ho J]at h
 cases h
theorem Rd.abide(h:Rd W A n c l)(hg:W.grownBy W' row)(J:∀r,row=some r->C<=r/\∃o:Obj,W.heap[r]?=some o/\o.isCells=false):Rd W' A n c l:=
 ⟨h.len,h.le,h.cap,h.nil,fun i I=>by
  obtain⟨b,o,e,O⟩:=h.cells i I
  exact⟨b,o,e,zFT O hg J⟩⟩
theorem jC.abide(h:jC W B t vs)(hg:W.grownBy W' row)(J:∀r,row=some r->C<=r/\∃o:Obj,W.heap[r]?=some o/\o.isCells=false):jC W' B t vs:=by
 refine(hg.block B h.lt ?_).trans h
 intro e
 obtain⟨_,o,I,O⟩:=J B e.symm
 rw[show W.heap[B]?=_ from h]at I
 cases I
 cases O
theorem zAp.abide{v:Int}(h:zAp W B v)(I:W.grownBy W' row)(J:∀r,row=some r->C<=r/\∃o:Obj,W.heap[r]?=some o/\o.isCells=false):zAp W' B v:=by
 obtain⟨A,n,c,l,h1,O,h3⟩:=h
 exact⟨A,n,c,l,h1.abide I J,O,h3.abide I J⟩
def zDu(is:List (Bool×List Nat)):Nat->Int
 |0=>0
 |k+1=>zDu is k+zDH is k
def zBV(is:List (Bool×List Nat)):Nat->Int
 |0=>1
 |k+1=>zBV is k*zDH is k
theorem zFN{is:List (Bool×List Nat)}{m:Nat}(h:∀k,(zDH is k).natAbs<BB^m):∀k,(zDu is k).natAbs<=k*BB^m
 |0=>by simp[zDu]
 |k+1=>by
  have h1:=zFN h k;have h2:=h k
  rw[vU,uY]
  show(zDu is k+zDH is k).natAbs<=_
  omega
def zSw(w:WB)(B0 P:Nat)(is:List (Bool×List Nat))(k:Nat)(W:WB):Prop:=
 zAp W B0 (zDu is k)/\Boxed W P 112 (.pointer (some ⟨B0,0,none⟩))/\jC W w.heap.size 30 #[.bool false,.slice none 0 0]/\Below w.heap.size w W/\P+2<=W.heap.size
theorem zG2(w:WB)(B0 P:Nat)(is:List (Bool×List Nat)){C:Nat}(hC:w.heap.size<=C):OwnFrom C (zSw w B0 P is):=by
 rintro k W W' row ⟨h1,J,h3,O,h5⟩ h I
 exact⟨h1.abide h I,qL J h I,h3.abide h I,zAi O h (vR _) hC I,xQ h5 h.size⟩
theorem zI0(A:WF Addr)(n c:Nat)(is:List (Bool×List Nat))(m:Nat)(w:WB)(h:IRd w A n is)(hn:n<=c)(hc:c<=9223372036854775807)(hm:m<=900000)(hv:∀k,(zDH is k).natAbs<BB^m)(hnn:n<=1000000:=by first|omega|decide):
  Calls prog 76 #[.slice A n c] w (qN w (zDu is n)):=by
 refine jD func76 rfl ?_
 simp only[ntmps76,bN,lL,lM,Nat.reduceAdd,Nat.reduceSub,lN,lO,lP,lQ,eZ,lR]
 go_wp2_with (first|(go_at_call 72;refine(zEF false none 0 0 [] _ (wM _) zCc oA).mono ?_;rintro e w1 ⟨B0,rfl,hB0,hn0,hb0⟩)|(go_at_call 73;refine(zMF A n c _).mono ?_;rintro e w2 ⟨rfl,rfl⟩))
 have hiv0:iv false []=0:=rfl
 rw[hiv0]at hn0
 obtain⟨W0,hW0⟩:∃W0,((w1.alloc (.cells #[.pointer (some ⟨B0,0,none⟩)] 112)).alloc (.cells #[.slice A n c] 100))=W0:=⟨_,rfl⟩
 have hsz:W0.heap.size=w1.heap.size+2:=by rw[<-hW0];simp
 have hB0l:=hn0.lt
 have hB0g:w.heap.size<B0:=vW eN hB0
 have hbw1:Below w.heap.size w w1:=((xF _ w).alloc (vR _) _).trans (hb0.mono eN)
 have hB1:Below w.heap.size w W0:=by rw[<-hW0];exact(hbw1.alloc hbw1.size _).alloc (by simp;exact Nat.le_succ_of_le hbw1.size) _
 have x0:zAp W0 B0 0:=by rw[<-hW0];exact hn0.kept (((xF _ w1).alloc (vR _) _).alloc eN _)
 have x1:Boxed W0 w1.heap.size 112 (.pointer (some ⟨B0,0,none⟩)):=by rw[<-hW0];exact(bX w1 _ _).alloc _
 have x2:Boxed W0 (w1.heap.size+1) 100 (.slice A n c):=by rw[<-hW0];exact zAX _ _ _ eN
 have x3:jC W0 w.heap.size 30 #[.bool false,.slice none 0 0]:=by rw[<-hW0];exact((res2 hb0 rfl).alloc _).alloc _
 rw[hW0]
 clear hW0
 have hSb:∀b,(b<w.heap.size∨b=w1.heap.size+1)->b<W0.heap.size:=fun b hb=>by have:=hbw1.size;omega
 refine zCe (gf:=91) rfl (enters_of func91 kA rfl) (zHS A n c is (w1.heap.size+1) w W0 h hB1 hn hc x2.cell (S:=fun b=>b<w.heap.size∨b=w1.heap.size+1) hSb (.inr rfl) (fun b hb=>.inl hb)) ?hE ?hps zFt.trans (zIs hSb)
  (zSw w B0 w1.heap.size is) (zG2 w B0 _ is hB1.size) (zCb (zG2 w B0 _ is (vR _))) wR (fun _ _ _ _ _ _ _ _=>trivial) ⟨x0,x1,x3,hB1,mP hsz.symm⟩
  (fun _ xs=>{ tmps:=#[.slice A n c,undef,.pointer (some ⟨w.heap.size,0,none⟩),.pointer (some ⟨w1.heap.size,0,none⟩),xs.getD 0 undef,.agg #[.bool false,.slice none 0 0],.pointer (some ⟨B0,0,none⟩),.slice A n c,.func (.func 91) #[] #[.pointer (some ⟨w1.heap.size+1,0,none⟩)],xs.getD 0 undef,undef,undef,undef,undef,undef,undef,undef],defers:=[] }) ?assign ?body ?done
 case hE=>
  rintro k xs W l o o' ⟨B,rfl,h1,h2⟩ ho hc
  exact⟨B,rfl,h1,h2.abide (C:=0) (eQ W l o') (fun r e=>by cases e;exact⟨vS _,o,ho,hc⟩)⟩
 case hps=>
  rintro k xs W ⟨B,rfl,_⟩
  rfl
 case assign=>
  rintro lp k xs W K ⟨B,rfl,h1,h2⟩ hK
  gi_wp2
  exact hK
 case body=>
  rintro lp k xs W hk ⟨h1,h2,h3,h4,h5⟩ ⟨B,rfl,hB,hnb⟩
  have hc2:=h2.cell
  have hne:B≠B0:=oA
  have hkm:k<=1000000:=oA
  have hbd:(zDu is k).natAbs<BB^(m+1):=by
   refine mC (zFN hv k) ?_
   rw[vY,vT]
   exact Nat.mul_lt_mul_of_pos_left (by unfold BB;omega) (uN (by unfold BB;omega))
  have hbd2:(zDH is k).natAbs<BB^(m+1):=vW (hv k) (vZ (by unfold BB;omega) (mU m))
  gi_wp2_with (gi_at_call 92;refine bC (bB.2 (num_add B0 B _ _ (m+1) W h1 hnb hne hbd hbd2 oA)) ?_;rintro e w3 ⟨⟨u,rfl⟩,hn3,hg3⟩)
  have hbx:∃vs t,jC W B0 t vs:=by obtain⟨_,_,_,_,g,_⟩:=h1;exact⟨_,_,g⟩
  obtain⟨vs,t,g⟩:=hbx
  refine⟨(eG hg3 (fun j o e ho=>by cases e;rw[show W.heap[B0]?=_ from g]at ho;cases ho;rfl)).from _,⟨(yZ.refl _ _).grown hg3 (fun b hb=>⟨by have:=hSb b hb;omega,fun e=>by cases e;omega⟩),hg3.size⟩,hn3,h2.kept hg3 (fun e=>by cases e;omega),(hg3.block _ h3.lt (fun e=>by cases e;omega)).trans h3,zA6 h4 hg3 h4.size oA,xQ h5 hg3.size⟩
 case done=>
  rintro D W hD ⟨h1,h2,h3,h4,h5⟩ _ hd
  obtain⟨A2,n2,c2,l2,⟨g0,g1⟩,hi2,hr2⟩:=h1.parts
  have hc2:=h2.cell
  obtain⟨⟨q0,q1⟩,q2,q3⟩:=h3.facts2
  go_wp2
  have hb5:=(h3.set 0 (.bool (decide (zDu is n<0)))).set 1 (.slice A2 n2 c2)
  have hM:Marks w.heap.size ((W.setCell ⟨w.heap.size,0,none⟩ (.bool (decide (zDu is n<0)))).setCell ⟨w.heap.size,1,none⟩ (.slice A2 n2 c2)) [mark D] [D]:=((Marks.nil w.heap.size W).more (D:=D) eN (by have:=hB1.size;omega) hd).others ((bP _ _ _).trans (bP _ _ _))
  obtain⟨A3,n3,c3,l3,e3,hi3,hr3,hb3⟩:=zG9 h3 h4 (vR _) hi2 hr2
  cases e3
  refine qF _ (v:=.agg #[.bool (decide (zDu is n<0)),.slice A2 n2 c2]) (fun w' ho'=>?_) [D] _ _ hM (Oth.refl _ _) ?_
  .obtain⟨⟨c0,c1⟩,_,_⟩:=(hb5.oth ho').facts2
   simp[results,results76,go_sem,c0,c1]
  .intro w' ho
   exact⟨A2,n2,c2,l3,rfl,hi3,hr3.oth ho,zAh hb3 ho (vR _)⟩
attribute [local go_sem] Oper.semAt_some qD yA
theorem zCt{v:Int}(h:Is l v.natAbs):iv (decide (v<0)) l=v:=by
 unfold iv
 rw[h.val]
 by_cases h0:v<0
 .rw[eY h0];simp only[cH];omega
 .rw[bD h0];simp only[xI,xK];omega
theorem IRd.two(h:Rd w A n c l)(ht:Lt l)(O:n<=m){A':WF Addr}{n' c':Nat}{l':List Nat}(h':Rd w A' n' c' l')(J:Lt l')(I:n'<=m)(t:WE):
  IRdM m (w.alloc (.cells #[.bool s,.slice A n c,.bool s',.slice A' n' c'] t)) (some ⟨w.heap.size,0,none⟩) 2 [(s,l),(s',l')]:=
 ⟨rfl,fun i hi=>by
  rcases(oA:i=0∨i=1)with rfl|rfl
  .exact⟨_,_,s,A,n,c,l,rfl,zBq w _ t 0,zBq w _ t 1,rfl,h.alloc _,ht,O⟩
  .exact⟨_,_,s',A',n',c',l',rfl,zBq w _ t 2,zBq w _ t 3,rfl,h'.alloc _,J,I⟩⟩
theorem zAo(h:Lt l)(hl:l.length=n)(hn:n<=m):(iv s l).natAbs<BB^m:=by
 rw[zHA]
 exact vW (qO h) (vZ (by unfold BB;omega) oA)
theorem zJD(p q:Bool×List Nat)(m:Nat)(hp:(iv p.1 p.2).natAbs<BB^m)(I:(iv q.1 q.2).natAbs<BB^m)(k:Nat):(zDH [p,q] k).natAbs<BB^m:=by
 have h:0<BB^m:=uN (by unfold BB;omega)
 unfold zDH
 match k with
 |0=>simpa using hp
 |1=>simpa using I
 |k+2=>simpa using h
theorem zNe(s:Bool)(A:WF Addr)(n c:Nat)(l:List Nat)(s':Bool)(A':WF Addr)(n' c':Nat)(l':List Nat)(w:WB)(h:Rd w A n c l)(ht:Lt l)(h':Rd w A' n' c' l')(ht':Lt l')(m:Nat)(hl:n<=m)(hl':n'<=m)(hm:m<=100000):
  Calls prog 71 #[.agg #[.bool s,.slice A n c],.agg #[.bool s',.slice A' n' c']] w (qN w (iv s l-iv s' l')):=by
 have hmix:prog.follows .mixedOrders=true:=rZ
 go_enter func71,ntmps71
 go_wp2
 refine(bJ (n:=0)).1 ?_
 obtain⟨W0,hW0⟩:∃W0,(((w.alloc (.cells #[.bool s,.slice A n c] 30)).alloc (.cells #[.bool s',.slice A' n' c'] 30)).alloc (.cells #[.bool false,.slice none 0 0] 30))=W0:=⟨_,rfl⟩
 have x0:jC W0 w.heap.size 30 #[.bool s,.slice A n c]:=by rw[<-hW0];exact((jC.new w _ _).alloc _).alloc _
 have x1:jC W0 (w.heap.size+1) 30 #[.bool s',.slice A' n' c']:=by rw[<-hW0];exact(jC.at_ _ _ _ eN).alloc _
 have x2:jC W0 (w.heap.size+1+1) 30 #[.bool false,.slice none 0 0]:=by rw[<-hW0];exact jC.at_ _ _ _ eN
 have hB0:Below w.heap.size w W0:=by rw[<-hW0];exact(((xF _ w).alloc (vR _) _).alloc eN _).alloc sB _
 rw[hW0]
 clear hW0
 refine zZ 100 (fun W=>(W.cell? ⟨w.heap.size,0,none⟩=some (.bool s)/\W.cell? ⟨w.heap.size,1,none⟩=some (.slice A n c))/\W.cell? ⟨w.heap.size+1,0,none⟩=some (.bool s')/\W.cell? ⟨w.heap.size+1,1,none⟩=some (.slice A' n' c')) hmix ?_
 have d1:=And.intro x0.facts2.1 x1.facts2.1
 refine zQ (i:=0) (v:=?vv1) kA kA rfl kA kA kA (fun _ _ _ h=>h) d1 ⟨.inl ⟨rfl,?yy1⟩,fun _=>rfl⟩ ?_
 case yy1=>
  rintro wx ⟨⟨q1,q2⟩,q3,q4⟩
  go_simp
  first|done|rfl
 refine zQ (i:=1) (v:=?vv2) kA kA rfl kA kA kA (fun _ _ _ h=>h) d1 ⟨.inl ⟨rfl,?yy2⟩,fun _=>rfl⟩ ?_
 case yy2=>
  rintro wx ⟨⟨q1,q2⟩,q3,q4⟩
  go_simp
  first|done|rfl
 refine zAq (i:=2) kA rfl (fun K hK=>?_)
 go_simp
 have hneg:=zIU s' A' n' c' l' _ ((h'.below hB0).drew) ht' oA
 obtain⟨v2,hv2⟩:∃v2,-iv s' l'=v2:=⟨_,rfl⟩
 rw[hv2]at hneg
 refine bC (bB.2 hneg) ?_
 rintro e w2 ⟨A2,n2,c2,l2,rfl,hi2,hr2,hb2⟩
 have hB2:Below W0.heap.size W0 w2:=((xF _ W0).drew).trans hb2
 have d2:=And.intro (x0.kept hB2).facts2.1 (x1.kept hB2).facts2.1
 have hn2:n2<=m:=by
  rw[<-hr2.len]
  refine hi2.len ?_
  rw[<-hv2,Int.natAbs_neg]
  exact zAo ht' h'.len hl'
 refine hK _ _ (.inr d2) ?_
 clear hK K
 refine zAq (i:=3) kA rfl (fun K hK=>?_)
 go_simp
 have hds:IRd _ _ _ _:=IRd.two (s:=s) (s':=decide (v2<0)) (h.below (hB0.trans (hB2.mono hB0.size))) ht oA hr2 hi2.lt oA 30
 have hW3:Below W0.heap.size W0 (w2.alloc (.cells #[.bool s,.slice A n c,.bool (decide (v2<0)),.slice A2 n2 c2] 30)):=hB2.alloc hB2.size _
 refine hK _ _ (.inr ⟨(x0.kept hW3).facts2.1,(x1.kept hW3).facts2.1⟩) ?_
 clear hK K
 refine zAq (i:=4) kA rfl (fun K hK=>?_)
 go_simp
 have hvm:=zJD (s,l) (decide (v2<0),l2) m (zAo ht h.len hl) (zAo hi2.lt hr2.len hn2)
 have hsum:zDu [(s,l),(decide (v2<0),l2)] 2=iv s l-iv s' l':=by
  show(0+iv s l)+iv (decide (v2<0)) l2=_
  rw[zCt hi2]
  omega
 have hadd:=zI0 _ 2 2 _ m _ hds oA oA oA hvm
 rw[hsum]at hadd
 refine bC (bB.2 hadd) ?_
 rintro e w3 ⟨A3,n3,c3,l3,rfl,hi3,hr3,hb3⟩
 have hB3:Below W0.heap.size W0 w3:=hW3.trans (hb3.mono hW3.size)
 have hq:=x2.kept hB3
 obtain⟨⟨m0,m1⟩,m2,m3⟩:=hq.facts2
 refine hK _ _ (.inr ⟨(x0.kept hB3).facts2.1,(x1.kept hB3).facts2.1⟩) ?_
 clear hK K
 obtain⟨v3,hv3⟩:∃v3,iv s l-iv s' l'=v3:=⟨_,rfl⟩
 rw[hv3]at hi3
 simp only[hv3]
 refine zAq (i:=5) kA rfl (fun K hK=>?_)
 go_simp
 refine hK _ _ (.inr ⟨((x0.kept hB3).other (p:=⟨w.heap.size+1+1,0,none⟩) sB _|>.other (p:=⟨w.heap.size+1+1,1,none⟩) sB _).facts2.1,((x1.kept hB3).other (p:=⟨w.heap.size+1+1,0,none⟩) eN _|>.other (p:=⟨w.heap.size+1+1,1,none⟩) eN _).facts2.1⟩) ?_
 clear hK K
 refine zCd kA ?_
 obtain⟨⟨c0,c1⟩,_,_⟩:=((hq.set 0 (.bool (decide (v3<0)))).set 1 (.slice A3 n3 c3)).facts2
 go_wp2
 refine mG (v:=.agg #[.bool (decide (v3<0)),.slice A3 n3 c3]) (by simp[results,results71,go_sem,c0,c1]) rfl ?_
 rw[hv3]
 exact zG9 hq (hB0.trans (hB3.mono hB0.size)) oA hi3 hr3
theorem zNl(s:Bool)(A:WF Addr)(n c:Nat)(l:List Nat)(s':Bool)(A':WF Addr)(n' c':Nat)(l':List Nat)(w:WB)(h:Rd w A n c l)(ht:Lt l)(h':Rd w A' n' c' l')(ht':Lt l')(m:Nat)(hl:n<=m)(hl':n'<=m)(hm:m<=100000):
  Calls prog 53 #[.agg #[.bool s,.slice A n c],.agg #[.bool s',.slice A' n' c']] w fun e w'=>e=.returned (.int .i64 (iv s l-iv s' l').sign)/\Below w.heap.size w w':=by
 have hb1:=((xF _ w).alloc (vR _) (.cells #[.bool s,.slice A n c] 30)).alloc eN (.cells #[.bool s',.slice A' n' c'] 30)
 have hsub:=zNe s A n c l s' A' n' c' l' _ (h.below hb1) ht (h'.below hb1) ht' m hl hl' hm
 obtain⟨v3,hv3⟩:∃v3,iv s l-iv s' l'=v3:=⟨_,rfl⟩
 have hbd:v3.natAbs<BB^(m+1):=by
  have e1:=zAo (s:=s) ht h.len hl;have e2:=zAo (s:=s') ht' h'.len hl'
  rw[vY]
  unfold BB at*
  omega
 rw[hv3]at hsub
 rw[hv3]
 go_enter func53,ntmps53
 go_wp2_with (first|(go_at_call 71;refine hsub.mono ?_;rintro e w2 ⟨A2,n2,c2,l2,rfl,hi2,hr2,hb2⟩)|(go_at_call 64;refine(zGW _ A2 n2 c2 l2 _ hr2 hi2.lt (by rw[<-hr2.len];exact xQ (hi2.len hbd) oA)).mono ?_;rintro e w3 ⟨rfl,hb3⟩))
 go_ret
 have hb4:=hb1.trans (hb2.mono hb1.size)
 exact⟨by rw[zCt hi2];rfl,hb4.trans (hb3.mono hb4.size)⟩
def UV(W:WB)(m:Nat)(v:WD)(k:Int):Prop:=∃s A n c l,v=.agg #[.bool s,.slice A n c]/\Rd W A n c l/\Lt l/\n<=m/\iv s l=k
def NV(W:WB)(v:WD)(k:Int):Prop:=∃A n c l,v=.agg #[.bool (decide (k<0)),.slice A n c]/\Is l k.natAbs/\Rd W A n c l
theorem NV.uv{v:WD}(h:NV W v k){m:Nat}(O:k.natAbs<BB^m):UV W m v k:=by
 obtain⟨A,n,c,l,rfl,I,J⟩:=h
 exact⟨_,A,n,c,l,rfl,J,I.lt,by rw[<-J.len];exact I.len O,zCt I⟩
theorem UV.bound{v:WD}(h:UV W m v k):k.natAbs<BB^m:=by
 obtain⟨s,A,n,c,l,rfl,J,I,O,rfl⟩:=h
 exact zAo I J.len O
def zGO(w:WB)(k:Int):Ending->WB->Prop:=fun e w'=>∃v,e=.returned v/\NV w' v k/\Below w.heap.size w w'
theorem qN.v{e:Ending}(h:qN w k e w'):zGO w k e w':=by
 obtain⟨A,n,c,l,rfl,J,I,O⟩:=h
 exact⟨_,rfl,⟨A,n,c,l,rfl,J,I⟩,O⟩
theorem zUt{v:WD}(h:UV W m v k)(hm:m<=100000):Calls prog 89 #[v] W (zGO W (-k)):=by
 obtain⟨s,A,n,c,l,rfl,I,J,h3,rfl⟩:=h
 exact(zIU s A n c l W I J oA).mono fun _ _=>qN.v
theorem zRT{v:WD}(h:UV W m v k)(hm:m<=100000):Calls prog 87 #[v] W (zGO W k):=by
 obtain⟨s,A,n,c,l,rfl,I,J,h3,rfl⟩:=h
 exact(zGX s A n c l W I J oA).mono fun _ _=>qN.v
theorem zRu{v:WD}(h:UV W m v k)(hm:m<=100000):Calls prog 64 #[v] W fun e w'=>e=.returned (.int .i64 k.sign)/\Below W.heap.size W w':=by
 obtain⟨s,A,n,c,l,rfl,I,J,h3,rfl⟩:=h
 exact zGW s A n c l W I J oA
theorem zTU{v v':WD}{k':Int}(h:UV W m v k)(h':UV W m v' k')(hm:m<=100000):Calls prog 53 #[v,v'] W fun e w'=>e=.returned (.int .i64 (k-k').sign)/\Below W.heap.size W w':=by
 obtain⟨s,A,n,c,l,rfl,h1,h2,h3,rfl⟩:=h
 obtain⟨s',A',n',c',l',rfl,J,I,O,rfl⟩:=h'
 exact zNl s A n c l s' A' n' c' l' W h1 h2 J I m h3 O hm
def IS(W:WB)(m:Nat)(v:WD)(is:List (Bool×List Nat)):Prop:=∃A c,v=.slice A is.length c/\is.length<=c/\c<=9223372036854775807/\IRdM m W A is.length is
theorem IS.below{v:WD}(h:IS W m v is)(O:Below W.heap.size W W'):IS W' m v is:=by
 obtain⟨A,c,h1,h3,J,I⟩:=h
 exact⟨A,c,h1,h3,J,I.below O⟩
theorem IRdM.mono{m':Nat}(h:IRdM m w A n is)(hm:m<=m'):IRdM m' w A n is:=
 ⟨h.len,fun i J=>by
  obtain⟨b,o,s,Ai,ni,ci,O,e,hc,I,h1,h2,h3,h4⟩:=h.cells i J
  exact⟨b,o,s,Ai,ni,ci,O,e,hc,I,h1,h2,h3,oA⟩⟩
theorem zGw(h:IRdM m w A n is)(k:Nat):(zDH is k).natAbs<BB^m:=by
 by_cases hk:k<n
 .obtain⟨b,o,s,Ai,ni,ci,li,e,hc,hc',O,J,h3,I⟩:=h.cells k hk
  unfold zDH
  rw[O]
  exact zAo h3 J.len I
 .have:is[k]?=none:=uX (by rw[h.len];omega)
  unfold zDH
  rw[this]
  exact uN (by unfold BB;omega)
theorem zT2{v:WD}(h:IS W m v is)(hm:m<=100000)(hn:is.length<=100000):Calls prog 76 #[v] W (zGO W (zDu is is.length)):=by
 obtain⟨A,c,rfl,O,J,I⟩:=h
 exact(zI0 A is.length c is m W (IRdM.mono I oA) O J oA (fun k=>zGw I k)).mono fun _ _=>qN.v
theorem IS.two(h:Rd w A n c l)(ht:Lt l)(O:n<=m){A':WF Addr}{n' c':Nat}{l':List Nat}(h':Rd w A' n' c' l')(J:Lt l')(I:n'<=m)(t:WE):
  IS (w.alloc (.cells #[.bool s,.slice A n c,.bool s',.slice A' n' c'] t)) m (.slice (some ⟨w.heap.size,0,none⟩) 2 2) [(s,l),(s',l')]:=⟨_,2,rfl,vR _,rY,IRd.two h ht O h' J I t⟩
theorem jW(A:WF Addr)(n c:Nat)(l:List Nat)(i:Int)(w:WB)(h:Rd w A n c l)(ht:Lt l)(h0:0<=i):
  Calls prog 112 #[.slice A n c,.int .i64 i] w fun e w'=>e=.returned (.int .u64 (lm l i.toNat))/\w=w':=by
 obtain⟨k,rfl⟩:=fE h0
 rw[fC]
 have hle:=h.le;have hcap:=h.cap
 have x:=qK ht k
 simp only[BB]at x
 by_cases hi:k<n
 .obtain⟨b,o,rfl,hc⟩:=h.cells k hi
  go_enter func112,ntmps112
  go_wp2
  go_ret
  exact⟨rfl,rfl⟩
 .rw[zDk (by rw[h.len];omega)]
  go_enter func112,ntmps112
  go_wp2
  go_ret
  exact⟨rfl,rfl⟩
theorem jK(A:WF Addr)(n c:Nat)(l:List Nat)(w:WB)(h:Rd w A n c l)(ht:Lt l)(hl:n<=1099511627776):
  Calls prog 36 #[.slice A n c] w (jH w (val l)):=by
 have hle:=h.le;have hcap:=h.cap;have hlen:=h.len
 have hown:z7 (w.alloc (.cells #[] 81)) w.heap.size 81 (.slice (some ⟨w.heap.size,0,none⟩) 0 0) []:=fH (base:=w.heap.size) (e:=81) (size:=1) w #[] 0 (vR _) (by unfold maxLen;omega) rfl
 have hbs:w.heap.size<=(w.alloc (.cells #[] 81)).heap.size:=eN
 go_enter func36,ntmps36
 go_wp2
 go_loop [3] (fun x=>∃k:Nat,k<=n/\x=.int .i64 k/\(∀i,k<=i->i<l.length->lm l i=0)) (fun x=>(intOf x).toNat)
 case atStart=>exact⟨n,vR _,rfl,fun i h1 h2=>oA⟩
 case round=>
  obtain⟨k,hk,rfl,hz⟩:=hrel
  have HZ:=hid hz
  clear hz
  have hfin:∀w1 A1 c1,z7 w1 w.heap.size 81 (.slice A1 k c1) ([]++l.take k)->(k=0∨lm l (k-1)≠0)->(w.alloc (.cells #[] 81)).grownBy w1 (Value.ownBlock (.slice (some ⟨w.heap.size,0,none⟩) 0 0))->jH w (val l) (.returned (.slice A1 k c1)) w1:=by
   intro w1 A1 c1 h1 h2 h3
   rw[eZ]at h1
   exact⟨A1,k,c1,l.take k,rfl,⟨zBC ht _,zBQ l k oA HZ.out h2,jJ oA HZ.out⟩,h1.rd,z7.grown ((xF w.heap.size w).alloc (vR _) _) hown h3 (vR _) hbs⟩
  have HF:=hid hfin
  clear hfin
  have hs1:([]:List Nat).length+(l.take k).length<=17592186044416:=sB
  have hl1:([]++l.take k).length=k:=sB
  by_cases h0:0<k
  .obtain⟨b,o,rfl,hc⟩:=h.cells (k-1) oA
   have e1:((k:Int)-1).toNat=k-1:=oA
   by_cases hx:lm l (k-1)=0
   .go_wp2
    go_round
    case rel=>exact⟨k-1,oA,by congr 1;omega,fun i h1 h2=>by
     by_cases e:i=k-1
     .subst e;exact hx
     .exact HZ.out i oA h2⟩
    case measure=>simp[intOf];omega
   .have hx2:((lm l (k-1):Int)==0)=false:=by simpa using hx
    have HX:=hid hx
    clear hx
    have hr1:Rd (w.alloc (.cells #[] 81)) (some ⟨b,o,none⟩) k c (l.take k):=(h.take hk oA (vR _)).alloc _
    go_wp2_with (at_builtin;go_must (refine zS rfl _ _ 28 81 rfl yB yS w.heap.size _ [] rfl hown _ k c (l.take k) rfl hr1 hs1 hbs ?_;intro v1 w1 hown1 hg1 hat1;obtain⟨A1,c1,rfl⟩:=hown1.form' hl1))
    go_ret
    exact HF.out w1 A1 c1 hown1 (.inr HX.out) hg1
  .obtain rfl:k=0:=oA
   cases A with
   |none=>
    obtain⟨rfl,rfl,rfl⟩:=h.empty
    go_wp2_with (at_builtin;go_must (refine zS rfl _ _ 28 81 rfl yB yS w.heap.size _ [] rfl hown _ 0 0 [] rfl (wM _) hs1 hbs ?_;intro v1 w1 hown1 hg1 hat1;obtain⟨A1,c1,rfl⟩:=hown1.form' hl1))
    go_ret
    exact HF.out w1 A1 c1 hown1 (.inl eN) hg1
   |some ad=>
    have hr1:Rd (w.alloc (.cells #[] 81)) (some ad) 0 c (l.take 0):=(h.take hk oA (vR _)).alloc _
    go_wp2_with (at_builtin;go_must (refine zS rfl _ _ 28 81 rfl yB yS w.heap.size _ [] rfl hown _ 0 c (l.take 0) rfl hr1 hs1 hbs ?_;intro v1 w1 hown1 hg1 hat1;obtain⟨A1,c1,rfl⟩:=hown1.form' hl1))
    go_ret
    exact HF.out w1 A1 c1 hown1 (.inl eN) hg1
theorem zId(x:Nat)(hx:x<18446744073709551616)(w:WB):
  Calls prog 63 #[.int .u64 x] w (jH w x):=by
 have hr:=Rd.new w [x%4294967296,x/4294967296] 81 #[.int .u32 ((x:Int)%4294967296),.int .u32 ((x:Int)/4294967296)] (by simp[zBl]) eN
 have hlt:Lt [x%4294967296,x/4294967296]:=by
  intro y hy
  simp at hy
  rcases hy with rfl|rfl<;>unfold BB<;>omega
 have hv:val [x%4294967296,x/4294967296]=x:=by rw[zKN];omega
 go_enter func63,ntmps63
 go_wp2_with (go_at_call 36;refine(jK _ 2 2 _ _ hr hlt oA).mono ?_;rintro e w1 ⟨A1,n1,c1,l1,rfl,hi1,hr1,hb1⟩)
 go_ret
 rw[hv]at hi1
 exact⟨A1,n1,c1,l1,rfl,hi1,hr1,((xF _ w).alloc (vR _) _).trans (hb1.mono eN)⟩
theorem zEi(A:WF Addr)(n c:Nat)(l:List Nat)(A':WF Addr)(n' c':Nat)(l':List Nat)(w:WB)(h:Rd w A n c l)(h':Rd w A' n' c' l')(ht:Lt l)(ht':Lt l'):
  Calls prog 101 #[.slice A n c,.slice A' n' c'] w fun e w'=>e=.returned (.int .i64 (zAs (val l) (val l')))/\w=w':=by
 have hle:=h.le;have hcap:=h.cap;have hle':=h'.le;have hcap':=h'.cap
 have HN:Hid (l.length=n/\l'.length=n'):=⟨h.len,h'.len⟩
 by_cases hnn:n<n'
 all_goals
  go_enter func101,ntmps101
  go_wp2
  go_loop [5] (fun x=>∃k:Nat,k<=9223372036854775807/\x=.int .i64 ((k:Int)-1)/\Hid (∃N,l.length<=N/\l'.length<=N/\k<=N/\∀j,k<=j->j<N->lm l j=lm l' j)) (fun x=>(intOf x+1).toNat)
  case atStart=>first|exact⟨n',oA,rfl,hid ⟨n',by have:=HN.out;omega,by have:=HN.out;omega,vR _,fun j h1 h2=>oA⟩⟩|exact⟨n,oA,rfl,hid ⟨n,by have:=HN.out;omega,by have:=HN.out;omega,vR _,fun j h1 h2=>oA⟩⟩
  case round=>
   obtain⟨k,_hk,rfl,HK⟩:=hrel
   by_cases h0:0<k
   .have e1:((k:Int)-1).toNat=k-1:=oA
    by_cases h1:lm l (k-1)<lm l' (k-1)
    .have HV:Hid (zAs (val l) (val l')= -1):=by
      obtain⟨N,a1,a2,a3,a4⟩:=HK.out
      exact zGI (zEc ht a1 a2 h0 a3 a4 h1)
     go_wp2_with (go_at_call 112;first|((with_reducible refine(jW A n c l _ _ h ht oA).mono ?_);rintro e w1 ⟨rfl,rfl⟩)|((with_reducible refine(jW A' n' c' l' _ _ h' ht' oA).mono ?_);rintro e w1 ⟨rfl,rfl⟩))
     go_ret
     exact⟨by rw[HV.out];rfl,rfl⟩
    .by_cases h2:lm l' (k-1)<lm l (k-1)
     .have HV:Hid (zAs (val l) (val l')=1):=by
       obtain⟨N,a1,a2,a3,a4⟩:=HK.out
       exact zJK (zEc ht' a2 a1 h0 a3 (fun j b1 b2=>(a4 j b1 b2).symm) h2)
      go_wp2_with (go_at_call 112;first|((with_reducible refine(jW A n c l _ _ h ht oA).mono ?_);rintro e w1 ⟨rfl,rfl⟩)|((with_reducible refine(jW A' n' c' l' _ _ h' ht' oA).mono ?_);rintro e w1 ⟨rfl,rfl⟩))
      go_ret
      exact⟨by rw[HV.out];rfl,rfl⟩
     .go_wp2_with (go_at_call 112;first|((with_reducible refine(jW A n c l _ _ h ht oA).mono ?_);rintro e w1 ⟨rfl,rfl⟩)|((with_reducible refine(jW A' n' c' l' _ _ h' ht' oA).mono ?_);rintro e w1 ⟨rfl,rfl⟩))
      go_round
      case rel=>exact⟨k-1,oA,by congr 1;omega,by
       obtain⟨N,a1,a2,a3,a4⟩:=HK.out
       exact hid ⟨N,a1,a2,oA,fun j b1 b2=>by
        by_cases e:j=k-1
        .subst e;omega
        .exact a4 j oA b2⟩⟩
      case measure=>simp[intOf];omega
   .obtain rfl:k=0:=oA
    have HV:Hid (zAs (val l) (val l')=0):=by
     obtain⟨N,a1,a2,a3,a4⟩:=HK.out
     exact zJL (zIK a1 a2 a4)
    go_wp2
    go_ret
    exact⟨by rw[HV.out];rfl,rfl⟩
theorem zNm{k:Nat}(h:lm l k≠lm l' k):l≠l':=fun e=>by subst e;exact h rfl
theorem zNn(I:l.length=l'.length)(h:∀j,j<l.length->lm l j=lm l' j):l=l':=
 gE I fun i J O=>by
  have:=h i J
  rwa [zGu J,zGu O]at this
theorem zMq(w:WB)(a b:Nat):(w.drewN a).drewN b=w.drewN (a+b):=by
 simp only[World.drewN,uV]
theorem zG5(A:WF Addr)(n c:Nat)(l:List Nat)(A':WF Addr)(n' c':Nat)(l':List Nat)(w:WB)(h:Rd w A n c l)(h':Rd w A' n' c' l'):
  Calls prog 45 #[.slice A n c,.slice A' n' c'] w fun e w'=>e=.returned (.bool (decide (l=l')))/\∃nq,w'=w.drewN nq:=by
 have hle:=h.le;have hcap:=h.cap;have hle':=h'.le;have hcap':=h'.cap
 have HN:Hid (l.length=n/\l'.length=n'):=⟨h.len,h'.len⟩
 by_cases hnn:n=n'
 .subst hnn
  go_enter func45,ntmps45
  go_wp2
  go_loopw [5] (fun x wr=>∃k:Nat,k<=n/\x=.int .i64 k/\(∃nq,wr=w.drewN nq)/\Hid (∀j,j<k->lm l j=lm l' j)) (fun x _=>n-(intOf x).toNat)
  case atStart=>exact⟨0,vS _,rfl,⟨0,rfl⟩,hid (fun j hj=>oA)⟩
  case round=>
   obtain⟨k,hk,rfl,⟨nq,rfl⟩,HK⟩:=hrel
   by_cases h0:k<n
   .obtain⟨b,o,rfl,hc⟩:=h.cells k h0
    obtain⟨b',o',rfl,hc'⟩:=h'.cells k h0
    have h0':(0:Int)<=k:=lS k
    by_cases h1:lm l k=lm l' k
    .have hx:((lm l k:Int) !=(lm l' k:Int))=false:=by rw[h1];simp
     go_wp2
     go_quiet (fail)
     go_wp2
     go_roundw
     case rel=>exact⟨k+1,oA,sE,⟨_,rfl⟩,hid (fun j hj=>by
      by_cases e:j=k
      .subst e;exact h1
      .exact HK.out j oA)⟩
     case measure=>simp[intOf];omega
    .have hx:((lm l k:Int) !=(lm l' k:Int))=true:=by simp only[bne_iff_ne,ne_eq];omega
     have HV:Hid (decide (l=l')=false):=hid (bD (zNm h1))
     clear h1
     go_wp2
     go_quiet (fail)
     go_wp2
     go_ret
     exact⟨by rw[HV.out];rfl,_,zMq w _ _⟩
   .obtain rfl:k=n:=oA
    have HV:Hid (decide (l=l')=true):=hid (eY (zNn (by have:=HN.out;omega) (fun j hj=>HK.out j (by have:=HN.out;omega))))
    go_wp2
    go_ret
    exact⟨by rw[HV.out];rfl,_,rfl⟩
 .have hx:((n:Int) !=(n':Int))=true:=by simp only[bne_iff_ne,ne_eq];omega
  have HV:Hid (decide (l=l')=false):=hid (bD (fun e=>by subst e;have:=HN.out;omega))
  clear hnn
  go_enter func45,ntmps45
  go_wp2
  go_ret
  exact⟨by rw[HV.out];rfl,0,rfl⟩
def zUA(w:WB)(l l':List Nat)(N:Nat)(v o i:WD)(W:WB):Prop:=
 ∃(k u:Nat) (A:WF Addr) (c:Nat) (lo:List Nat),k<=N/\i=.int .i64 k/\o=.int .u64 u/\v=.slice A k c/\u<=1/\z7 W w.heap.size 81 (.slice A k c) lo/\lo.length=k/\Lt lo/\
  val lo+u*BB^k=sm (lm l) k+sm (lm l') k/\Below w.heap.size w W
theorem zM8(x y u:Nat)(hx:x<4294967296)(hy:y<4294967296)(hu:u<=1):
  ∃d z u':Nat,(x:Int)+(y:Int)+(u:Int)=(d:Int)/\(d:Int)%4294967296=(z:Int)/\(d:Int)/4294967296=(u':Int)/\z<4294967296/\u'<=1/\d<=8589934591/\x+y+u=z+u'*4294967296:=
 ⟨x+y+u,(x+y+u)%4294967296,(x+y+u)/4294967296,oA,oA,oA,oA,oA,oA,oA⟩
theorem zPH(A:WF Addr)(n c:Nat)(l:List Nat)(A':WF Addr)(n' c':Nat)(l':List Nat)(w:WB)(h:Rd w A n c l)(h':Rd w A' n' c' l')(ht:Lt l)(ht':Lt l')(hn:n<=137438953472)(hn':n'<=137438953472):
  Calls prog 110 #[.slice A n c,.slice A' n' c'] w (jH w (val l+val l')):=by
 have hle:=h.le;have hcap:=h.cap;have hle':=h'.le;have hcap':=h'.cap
 obtain⟨N,HN⟩:∃N,Hid (((n<n'/\N=n')∨(¬n<n'/\N=n))/\n<=N/\n'<=N/\N<=137438953472/\l.length=n/\l'.length=n'):=by
  by_cases hh:n<n'
  .exact⟨n',hid ⟨.inl ⟨hh,rfl⟩,oA,oA,oA,h.len,h'.len⟩⟩
  .exact⟨n,hid ⟨.inr ⟨hh,rfl⟩,oA,oA,oA,h.len,h'.len⟩⟩
 by_cases hnn:n<n'
 all_goals
  go_enter func110,ntmps110
  go_wp2
  go_loopw [5,6,7] (zUA w l l' N) (fun _ _ i _=>N-(intOf i).toNat)
  case atStart=>exact⟨0,0,none,0, [],vS _,rfl,rfl,rfl,oA,wS _ _ _,rfl,zCc,by simp[sm],xF _ _⟩
  case round=>
   obtain⟨k,u,Ao,co,lo,hk,rfl,rfl,rfl,hu1,hown,hlk,hlt,heq,hB⟩:=hrel
   have HQ:=hid heq
   clear heq
   have hr:=h.below hB;have hr':=h'.below hB
   have x1:=qK ht k;have x2:=qK ht' k
   simp only[BB]at x1 x2
   by_cases h0:k<N
   .have hkn:k<n∨k<n':=by have:=HN.out;omega
    have hkm:k<137438953472:=by have:=HN.out;omega
    obtain⟨d,z,u',hd,hz,hu',hz1,hu1',hd1,hstep⟩:=zM8 (lm l k) (lm l' k) u x1 x2 hu1
    have HS:=hid hstep
    clear hstep
    have hs1:lo.length+ [z].length<=17592186044416:=sB
    have hl1:(lo++ [z]).length=k+1:=sB
    go_wp2_with (first|(go_at_call 112;first|((with_reducible refine(jW A _ c l _ _ hr ht (lS k)).mono ?_);rintro e w1 ⟨rfl,rfl⟩)|((with_reducible refine(jW A' _ c' l' _ _ hr' ht' (lS k)).mono ?_);rintro e w1 ⟨rfl,rfl⟩))|(at_builtin;refine zS rfl _ _ 28 81 rfl yB yS w.heap.size _ lo rfl (z7.alloc hown _) _ 1 1 [z] rfl (Rd.one _ z 81) hs1 (qB hB.size _) ?_;intro v1 w1 hown1 hg1 hat1;obtain⟨A1,c1,rfl⟩:=hown1.form' hl1))
    go_roundw
    case rel=>exact⟨k+1,u',A1,c1,lo++ [z],oA,sE,rfl,rfl,hu1',hown1,hl1,zBk hlt hz1,by rw[zAz,hlk];simp only[sm,vY];exact zJR HQ.out HS.out,z7.grown (hB.alloc hB.size _) (z7.alloc hown _) hg1 (vR _) (qB hB.size _)⟩
    case measure=>simp[intOf];omega
   .obtain rfl:k=N:=oA
    have hkn: ¬k<n/\ ¬k<n':=by have:=HN.out;omega
    obtain⟨hkn1,hkn2⟩:=hkn
    have heu:(u:Int)%4294967296=u:=oA
    have hkm:k<=137438953472:=by have:=HN.out;omega
    have hs1:lo.length+ [u].length<=17592186044416:=sB
    have hl1:(lo++ [u]).length=k+1:=sB
    have hl2:Lt (lo++ [u]):=zBk hlt (by unfold BB;omega)
    have hk1:k+1<=1099511627776:=oA
    go_wp2_with (first|(at_builtin;refine zS rfl _ _ 28 81 rfl yB yS w.heap.size _ lo rfl (z7.alloc hown _) _ 1 1 [u] rfl (Rd.one _ u 81) hs1 (qB hB.size _) ?_;intro v1 w1 hown1 hg1 hat1;obtain⟨A1,c1,rfl⟩:=hown1.form' hl1)|(go_at_call 36;refine(jK _ _ _ _ _ hown1.rd hl2 hk1).mono ?_;rintro e w2 ⟨A2,n2,c2,l2,rfl,hi2,hr2,hb2⟩))
    go_ret
    have e1:=zAY (l:=l) (n:=k) (by have:=HN.out;omega)
    have e2:=zAY (l:=l') (n:=k) (by have:=HN.out;omega)
    have hv:val (lo++ [u])=val l+val l':=by rw[zAz,hlk,HQ.out,e1,e2]
    rw[hv]at hi2
    have hB1:=z7.grown (hB.alloc hB.size _) (z7.alloc hown _) hg1 (vR _) (qB hB.size _)
    exact⟨A2,n2,c2,l2,rfl,hi2,hr2,hB1.trans (hb2.mono hB1.size)⟩
def zSx(w:WB)(l l':List Nat)(N:Nat)(v o i:WD)(W:WB):Prop:=
 ∃(k u:Nat) (A:WF Addr) (c:Nat) (lo:List Nat),k<=N/\i=.int .i64 k/\o=.int .u64 u/\v=.slice A k c/\u<=1/\z7 W w.heap.size 81 (.slice A k c) lo/\lo.length=k/\Lt lo/\
  sm (lm l) k+u*BB^k=val lo+sm (lm l') k/\Below w.heap.size w W
theorem zG4(x y u:Nat)(hx:x<4294967296)(hy:y<4294967296)(hu:u<=1):
  ∃d z t u':Nat,(x:Int)+4294967296-(y:Int)-(u:Int)=(d:Int)/\(d:Int)%4294967296=(z:Int)/\(d:Int)/4294967296=(t:Int)/\(1:Int)-(t:Int)=(u':Int)/\z<4294967296/\u'<=1/\d<=8589934591/\t<=1/\x+u'*4294967296=z+y+u:=by
 refine⟨x+4294967296-y-u,(x+4294967296-y-u)%4294967296,(x+4294967296-y-u)/4294967296,1-(x+4294967296-y-u)/4294967296,?_,?_,?_,?_,?_,?_,?_,?_,?_⟩<;>omega
theorem zF6(A:WF Addr)(n c:Nat)(l:List Nat)(A':WF Addr)(n' c':Nat)(l':List Nat)(w:WB)(h:Rd w A n c l)(h':Rd w A' n' c' l')(ht:Lt l)(ht':Lt l')(hge:val l'<=val l)(hn:n<=137438953472):
  Calls prog 102 #[.slice A n c,.slice A' n' c'] w fun e w'=>∃A1 n1 c1 l1,e=.returned (.tuple #[.slice A1 n1 c1,.int .i64 0])/\Is l1 (val l-val l')/\Rd w' A1 n1 c1 l1/\Below w.heap.size w w':=by
 have hle:=h.le;have hcap:=h.cap;have hle':=h'.le;have hcap':=h'.cap
 have hcmp:decide (zAs (val l) (val l')<0)=false:=by
  unfold zAs
  rw[if_neg oA]
  split<;>simp
 have HN:Hid (l.length=n/\sm (lm l') n=val l'):=hid ⟨h.len,zH0 (mC hge (by have:=qO ht;rwa [h.len]at this))⟩
 have HG:=hid hge
 clear hge
 go_enter func102,ntmps102
 go_wp2_with (go_at_call 101;refine(zEi A n c l A' n' c' l' _ h h' ht ht').mono ?_;rintro e w1 ⟨rfl,rfl⟩)
 go_loopw [6,7,8] (zSx w l l' n) (fun _ _ i _=>n-(intOf i).toNat)
 case atStart=>exact⟨0,0,none,0, [],vS _,rfl,rfl,rfl,oA,wS _ _ _,rfl,zCc,by simp[sm],xF _ _⟩
 case round=>
  obtain⟨k,u,Ao,co,lo,hk,rfl,rfl,rfl,hu1,hown,hlk,hlt,heq,hB⟩:=hrel
  have HQ:=hid heq
  clear heq
  have hr:=h.below hB;have hr':=h'.below hB
  have x1:=qK ht k;have x2:=qK ht' k
  simp only[BB]at x1 x2
  by_cases h0:k<n
  .obtain⟨d,z,t,u',hd,hz,htt,hu',hz1,hu1',hd1,ht1,hstep⟩:=zG4 (lm l k) (lm l' k) u x1 x2 hu1
   have HS:=hid hstep
   clear hstep
   have hs1:lo.length+ [z].length<=17592186044416:=sB
   have hl1:(lo++ [z]).length=k+1:=sB
   go_wp2_with (first|(go_at_call 112;first|((with_reducible refine(jW A _ c l _ _ hr ht (lS k)).mono ?_);rintro e w1 ⟨rfl,rfl⟩)|((with_reducible refine(jW A' _ c' l' _ _ hr' ht' (lS k)).mono ?_);rintro e w1 ⟨rfl,rfl⟩))|(at_builtin;refine zS rfl _ _ 28 81 rfl yB yS w.heap.size _ lo rfl (z7.alloc hown _) _ 1 1 [z] rfl (Rd.one _ z 81) hs1 (qB hB.size _) ?_;intro v1 w1 hown1 hg1 hat1;obtain⟨A1,c1,rfl⟩:=hown1.form' hl1))
   go_roundw
   case rel=>exact⟨k+1,u',A1,c1,lo++ [z],oA,sE,rfl,rfl,hu1',hown1,hl1,zBk hlt hz1,by rw[zAz,hlk];simp only[sm,vY];exact zF2 HQ.out HS.out,z7.grown (hB.alloc hB.size _) (z7.alloc hown _) hg1 (vR _) (qB hB.size _)⟩
   case measure=>simp[intOf];omega
  .obtain rfl:k=n:=oA
   have hk1:k<=1099511627776:=oA
   go_wp2_with (go_at_call 36;refine(jK _ _ _ _ _ hown.rd hlt hk1).mono ?_;rintro e w2 ⟨A2,n2,c2,l2,rfl,hi2,hr2,hb2⟩)
   go_ret2
   have e1:=zAY (l:=l) (n:=k) (by have:=HN.out;omega)
   have e2:=HN.out.2
   have e3:=qO hlt
   have e4:=HQ.out
   have e5:=HG.out
   rw[hlk]at e3
   rw[e1,e2]at e4
   have hu0:u=0:=by
    rcases xZ 0 u with h0|h0
    .have:u=1:=oA
     subst this
     omega
    .omega
   subst hu0
   have hv2:val lo=val l-val l':=oA
   rw[hv2]at hi2
   exact⟨A2,n2,c2,l2,rfl,hi2,hr2,hB.trans (hb2.mono hB.size)⟩
theorem zEL(A:WF Addr)(n c:Nat)(l:List Nat)(A':WF Addr)(n' c':Nat)(l':List Nat)(w:WB)(h:Rd w A n c l)(h':Rd w A' n' c' l')(ht:Lt l)(ht':Lt l')(hlt:val l<val l'):
  Calls prog 102 #[.slice A n c,.slice A' n' c'] w fun e w'=>e=.returned (.tuple #[.slice none 0 0,.int .i64 10])/\w=w':=by
 have hcmp:decide (zAs (val l) (val l')<0)=true:=by rw[zGI hlt];rfl
 go_enter func102,ntmps102
 go_wp2_with (go_at_call 101;refine(zEi A n c l A' n' c' l' _ h h' ht ht').mono ?_;rintro e w1 ⟨rfl,rfl⟩)
 go_ret2
 exact⟨rfl,rfl⟩
def LIM:Nat:=68719476736
def zT7(w:WB)(ls:List (List Nat))(n:Nat)(v i:WD)(W:WB):Prop:=
 ∃(k:Nat) (A:WF Addr) (m c:Nat) (lo:List Nat),k<=n/\i=.int .i64 k/\v=.slice A m c/\Rd W A m c lo/\Lt lo/\val lo=zED ls k/\m<=68719476736+k/\Below w.heap.size w W
theorem zNb(h:∀l,l∈ls->val l<b)(hn:n<=ls.length):zED ls n<=n*b:=by
 induction n with
 |zero=>rw[zDw];omega
 |succ n ih=>
  have I:ls[n]?=some ls[n]:=mD oA
  rw[zDx I,vU]
  have:=h _ (uO (l:=ls) (n:=n) oA)
  have:=ih oA
  omega
theorem zEk(A:WF Addr)(n c:Nat)(ls:List (List Nat))(w:WB)(h:Rds w A n ls)(hn:n<=1000):
  Calls prog 98 #[.slice A n c] w (jH w (ls.map val).sum):=by
 have HL:Hid (ls.length=n):=hid h.len
 have HT:Hid (∀l,l∈ls->val l<BB^LIM):=hid fun l hl=>by
  obtain⟨i,hi,rfl⟩:=mY hl
  obtain⟨b,o,Ai,ni,ci,li,_,_,h1,h2,h3,h4⟩:=h.cells i (by rw[<-h.len];exact hi)
  rw[mD hi]at h1
  injection h1 with h1
  rw[h1]
  exact vW (qO h3) (vZ qA (by rw[h2.len];exact h4))
 go_enter func98,ntmps98
 go_wp2
 go_loopw [3,4] (zT7 w ls n) (fun _ i _=>n-(intOf i).toNat)
 case atStart=>exact⟨0,none,0,0, [],vS _,rfl,rfl,wM _,zCc,by rw[zDw];rfl,oA,xF _ _⟩
 case round=>
  obtain⟨k,Ao,m,co,lo,hk,rfl,rfl,hr,hlt,hv,hm,hB⟩:=hrel
  have HV:=hid hv
  clear hv
  by_cases h0:k<n
  .obtain⟨b,o,Ai,ni,ci,la,rfl,hcell,hla,hra,hta,hni⟩:=h.cells k h0
   have hcW:=(hB.cell (p:=⟨b,o+k,none⟩) (zU hcell)).trans hcell
   have hra1:=hra.below hB
   have HA:=hid hla
   clear hla
   have hm1:m<=137438953472:=oA
   have hni1:ni<=137438953472:=oA
   go_wp2_with (go_at_call 110;refine(zPH Ao m co lo Ai ni ci la _ hr hra1 hlt hta hm1 hni1).mono ?_;rintro e w2 ⟨A2,n2,c2,l2,rfl,hi2,hr2,hb2⟩)
   have hsum:val lo+val la=zED ls (k+1):=by rw[zDx HA.out,HV.out]
   have hlen:n2<=68719476736+(k+1):=by
    rw[<-hr2.len]
    refine hi2.len ?_
    rw[hsum]
    have h1:=zNb HT.out (show k+1<=ls.length by rw[HL.out];omega)
    have h2:k+1<BB^(k+1):=Nat.lt_pow_self rY
    rw[show 68719476736+(k+1)=LIM+(k+1)from rfl,uA,vT (BB^LIM)]
    exact mC h1 ((Nat.mul_lt_mul_right (zB3 _)).2 h2)
   go_roundw
   case rel=>exact⟨k+1,A2,n2,c2,l2,oA,sE,rfl,hr2,hi2.lt,by rw[hi2.val,hsum],hlen,hB.trans (hb2.mono hB.size)⟩
   case measure=>simp[intOf];omega
  .obtain rfl:k=n:=oA
   have hm1:m<=1099511627776:=oA
   go_wp2_with (go_at_call 36;refine(jK _ _ _ _ _ hr hlt hm1).mono ?_;rintro e w2 ⟨A2,n2,c2,l2,rfl,hi2,hr2,hb2⟩)
   go_ret
   rw[HV.out,zGU HL.out]at hi2
   exact⟨A2,n2,c2,l2,rfl,hi2,hr2,hB.trans (hb2.mono hB.size)⟩
def zRa(l:List Nat)(n:Nat)(v i:WD):Prop:=∃k x:Nat,k<=n/\i=.int .i64 ((k:Int)-1)/\v=.int .u64 x/\x=val (l.drop k)
theorem zJ1(A:WF Addr)(n c:Nat)(l:List Nat)(w:WB)(h:Rd w A n c l)(ht:Lt l)(hl:n<=1099511627776):
  Calls prog 78 #[.slice A n c] w fun e w'=>e=.returned (.tuple #[.int .u64 (zM (val l):Nat),.bool (yW (val l))])/\Below w.heap.size w w':=by
 go_enter func78,ntmps78
 go_wp2_with (go_at_call 36;refine(jK _ _ _ _ _ h ht hl).mono ?_;rintro e w2 ⟨A2,n2,c2,l2,rfl,hi2,hr2,hb2⟩)
 .have h2:(2:Int)<n2:=sD
  go_ret2
  have hlen:=hr2.len
  have hne:l2≠ []:=by intro e;subst e;simp at hlen;omega
  have h3:=zGS hi2.tr hne
  have h4:BB^2<=BB^(l2.length-1):=vZ qA oA
  have h5:BB^2=18446744073709551616:=rY
  rw[hi2.val]at h3
  refine⟨?_,hb2⟩
  rw[show zM (val l)=0 from if_neg oA,show yW (val l)=false from bD oA]
  rfl
 .have h2:(n2:Int)<=2:=sD
  have hlen:=hid hr2.len
  have hle:=hr2.le;have hcap:=hr2.cap
  go_loop [5,6] (zRa l2 n2) (fun _ x=>(intOf x+1).toNat)
  case atStart=>exact⟨n2,0,vR _,rfl,rfl,by rw[<-hlen.out,List.drop_length];rfl⟩
  case round=>
   obtain⟨k,x,hk,rfl,rfl,hx⟩:=hrel
   have HX:=hid hx
   clear hx
   by_cases h0:0<k
   .obtain⟨b,o,rfl,hc⟩:=hr2.cells (k-1) oA
    have e1:((k:Int)-1).toNat=k-1:=oA
    have x1:=qK hi2.lt (k-1)
    have x2:x<BB^1:=by
     rw[HX.out]
     exact vW (zH1 hi2.lt k) (vZ qA (by rw[hlen.out];omega))
    simp only[BB,mV]at x1 x2
    go_wp2
    go_round
    case rel=>exact⟨k-1,x*4294967296+lm l2 (k-1),oA,by congr 1;omega,by congr 1,by
     have hd:=zBm (l:=l2) (k:=k-1) (by rw[hlen.out];omega)
     rw[show k-1+1=k from oA,<-HX.out]at hd
     rw[hd,vT BB]
     simp only[BB]
     omega⟩
    case measure=>simp[intOf];omega
   .obtain rfl:k=0:=oA
    go_wp2
    go_ret2
    have h5:=qO hi2.lt
    have h4:BB^l2.length<=BB^2:=vZ qA (by rw[hlen.out];omega)
    have h6:BB^2=18446744073709551616:=rY
    have h7:=HX.out
    rw[mH,hi2.val]at h7
    rw[hi2.val]at h5
    refine⟨?_,hb2⟩
    rw[show zM (val l)=val l from if_pos oA,show yW (val l)=true from eY oA,<-h7]
    rfl
theorem zFm(A:WF Addr)(n c k:Nat)(hk:k<=n)(w:WB):
  (Instr.slice 28 (.slice A n c) (some (.int .i64 (k:Int))) none none).run prog w=.ok (.slice (if c=k then A else A.map (·.add k)) (n-k) (c-k)) w:=by
 obtain⟨i,hi,hz,hs,hb⟩:=cT yS
 simp[Instr.slice,Instr.sliceBounds,bI yB,sizeOf,typeInfo,hi,hs,go_sem]
 omega
theorem zIC(h:Below B w W)(k:Nat):Below B w (W.drewN k):=⟨h.os,h.tape,h.output,h.size,h.block⟩
theorem zNI(k:Nat)(hk2:k<=9223372036854775807)(w:WB):
  Calls prog 47 #[.int .i64 k] w (qN w k):=by
 have hk0:(0:Int)<=k:=lS k
 go_enter func47,ntmps47
 go_wp2_with (go_at_call 63;refine(zId k oA _).mono ?_;rintro e w1 ⟨A2,n2,c2,l2,rfl,hi2,hr2,hb⟩;have hq:=res2 hb (b:=w.heap.size) rfl;obtain⟨⟨q0,q1⟩,q2,q3⟩:=hq.facts2)
 obtain⟨⟨c0,c1⟩,_,_⟩:=((hq.set 0 (.bool (decide ((k:Int)<0)))).set 1 (.slice A2 n2 c2)).facts2
 rw[show(Value.bool false)=.bool (decide ((k:Int)<0))from by rw[bD oA]]at*
 exact mG (v:=.agg #[.bool (decide ((k:Int)<0)),.slice A2 n2 c2]) (by simp[results,results47,go_sem,c0,c1]) rfl<|zG9 hq (((xF _ w).alloc (vR _) _).trans (hb.mono eN)) eN hi2 hr2
theorem zNJ(k:Nat)(hk0:0<k)(hk2:k<=9223372036854775808)(w:WB):
  Calls prog 47 #[.int .i64 (-(k:Int))] w (qN w (-(k:Int))):=by
 have hk1:(-(k:Int))<0:=oA
 have hww: -(-(k:Int)+1)+1=(k:Int):=oA
 have hw1:=lT (k:Int) oA
 have hw2:=lT (-(-(k:Int)+1)) oA
 have hw3:=IntWalk.i64_in (-(-(k:Int)+1)) oA
 have hw4:=IntWalk.i64_in (-(k:Int)+1) oA
 go_enter func47,ntmps47
 go_wp2_with (go_at_call 63;refine(zId k oA _).mono ?_;rintro e w1 ⟨A2,n2,c2,l2,rfl,hi2,hr2,hb⟩;have hq:=res2 hb (b:=w.heap.size) rfl;obtain⟨⟨q0,q1⟩,q2,q3⟩:=hq.facts2)
 obtain⟨⟨c0,c1⟩,_,_⟩:=((hq.set 0 (.bool true)).set 1 (.slice A2 n2 c2)).facts2
 refine mG (v:=.agg #[.bool true,.slice A2 n2 c2]) (by simp[results,results47,go_sem,c0,c1]) rfl ?_
 have e1:decide (-(k:Int)<0)=true:=eY hk1
 have:=zG9 (v:= -(k:Int)) hq (((xF _ w).alloc (vR _) _).trans (hb.mono eN)) eN (by simpa using hi2) hr2
 rw[e1]at this
 exact this
theorem zJe(k:Int)(hk: -9223372036854775808<=k)(hk2:k<=9223372036854775807)(w:WB):
  Calls prog 47 #[.int .i64 k] w (qN w k):=by
 rcases(oA:0<=k∨k<0)with h|h
 .obtain⟨m,rfl⟩:=fE h
  exact zNI m oA w
 .obtain⟨m,hm⟩:=fE (show 0<=-k from oA)
  obtain rfl:k= -(m:Int):=oA
  exact zNJ m oA oA w
theorem zAm(s:Bool)(A:WF Addr)(n c:Nat)(l:List Nat)(w:WB)(h:Rd w A n c l)(ht:Lt l)(hl:n<=1099511627776):
    Calls prog 58 #[.agg #[.bool s,.slice A n c]] w (qN w (iv s l)):=by
  go_enter func58,ntmps58
  go_wp2_with (go_at_call 36;refine(jK A n c l _ ((h.alloc _).alloc _) ht hl).mono ?_;rintro e w1 ⟨A2,n2,c2,l2,rfl,hi2,hr2,hb⟩;have hq:=res2 hb (b:=w.heap.size+1) eN;obtain⟨⟨q0,q1⟩,q2,q3⟩:=hq.facts2;have hp:=((jC.new w 30 #[.bool s,.slice A n c]).alloc (.cells #[.bool false,.slice none 0 0] 30)).kept hb;obtain⟨⟨p0,p1⟩,p2,p3⟩:=hp.facts2)
  all_goals
    have hle:=hr2.len;have hz:=hi2.zero_iff
    have hb1:Below w.heap.size w w1:=(((xF _ w).alloc (vR _) _).alloc eN _).trans (hb.mono sB)
    have fin:∀x:Bool,x=decide (iv s l<0)->jC ((w1.setCell ⟨w.heap.size+1,0,none⟩ (.bool x)).setCell ⟨w.heap.size+1,1,none⟩ (.slice A2 n2 c2)) (w.heap.size+1) 30 #[.bool x,.slice A2 n2 c2]/\qN w (iv s l) (.returned (.agg #[.bool x,.slice A2 n2 c2])) ((w1.setCell ⟨w.heap.size+1,0,none⟩ (.bool x)).setCell ⟨w.heap.size+1,1,none⟩ (.slice A2 n2 c2)):=by
      rintro x rfl
      exact⟨(hq.set 0 _).set 1 _,zG9 hq hb1 eN (by rw[zHA];exact hi2) hr2⟩
    first
      | (obtain⟨hbx,hret⟩:=fin false (by rw[<-zL9];simp_all)
         obtain⟨⟨c0,c1⟩,_,_⟩:=hbx.facts2
         refine mG (v:=.agg #[.bool false,.slice A2 n2 c2]) (by simp[results,results58,go_sem,c0,c1]) rfl hret)
      | (have hd:decide (0<n2)=(s&& !(val l==0)):=by
           by_cases e:n2=0
           . rw[hz.2 oA,e];simp
           . rw[eY oA,mF.2 (fun h=>e (by have:=hz.1 h;omega))];simp_all
         obtain⟨hbx,hret⟩:=fin (decide (0<n2)) (by rw[<-zL9];exact hd)
         obtain⟨⟨c0,c1⟩,_,_⟩:=hbx.facts2
         refine mG (v:=.agg #[.bool (decide (0<n2)),.slice A2 n2 c2]) (by simp[results,results58,go_sem,c0,c1]) rfl hret)
      |go_show
theorem zJ7(s:Bool)(A:WF Addr)(n c:Nat)(l:List Nat)(s':Bool)(A':WF Addr)(n' c':Nat)(l':List Nat)(w:WB)(h:Rd w A n c l)(h':Rd w A' n' c' l'):
  Calls prog 44 #[.agg #[.bool s,.slice A n c],.agg #[.bool s',.slice A' n' c']] w fun e w'=>e=.returned (.bool (s==s'&&decide (l=l')))/\Below w.heap.size w w':=by
 go_enter func44,ntmps44
 have hb0:=((xF _ w).alloc (vR _) (.cells #[.bool s,.slice A n c] 30)).alloc eN (.cells #[.bool s',.slice A' n' c'] 30)
 by_cases hs:s=s'
 .subst hs
  go_wp2_with (go_at_call 45;refine(zG5 A n c l A' n' c' l' _ (h.below hb0) (h'.below hb0)).mono ?_;rintro e w1 ⟨rfl,nq,rfl⟩)
  all_goals
   go_ret
   exact⟨eN,zIC hb0 nq⟩
 .have hs1:(s==s')=false:=mF.2 hs
  go_wp2
  all_goals
   go_ret
   exact⟨by simp[hs1],hb0⟩
attribute [local go_sem] Oper.semAt_some qD yA
end Go.Proofs.Wd
