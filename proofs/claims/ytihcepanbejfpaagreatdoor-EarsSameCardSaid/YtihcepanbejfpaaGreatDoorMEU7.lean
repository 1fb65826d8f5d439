/- Walks of package nat: Sub, Add; The walk of nat.Add; Walks of package  and what it needs. -/
import Derived.Test.YtihcepanbejfpaaGreatDoorMEU5
theorem kA{P:Prop}(h:P:=by kernel_rfl):P:=h
theorem fD{α β:Sort _}{γ:α->β->Sort _}{p:(a:α)->(b:β)->γ a b->Prop}(a:α)(b:β)(c:γ a b)(h:p a b c):p a b c:=h
theorem fE{P:Prop}(h:P:=by simp):P:=h
abbrev nF:=@Nat.lt_of_le_of_lt
abbrev nG:=@List.getElem?_eq_getElem
abbrev nH:=@of_decide_eq_false
abbrev nI:=@List.sum_cons
abbrev nJ:=@beq_eq_false_iff_ne
abbrev nK:=@List.take_of_length_le
abbrev nL:=@Nat.le_of_lt
abbrev nM:=@Go.bodyPost_ret
abbrev nN:=@List.drop_zero
abbrev nO:=@Option.some.inj
abbrev nP:=@List.sum_nil
abbrev nQ:=@Go.IntKind.wrap_u64
abbrev nR:=@and_true
abbrev nS:=@Go.World.cell?_setCell_other
abbrev nT:=@Nat.sub_le
abbrev nU:=@Int.sign_eq_neg_one_of_neg
abbrev nV:=@Int.lt_trichotomy
abbrev nW:=@Int.sign_eq_one_of_pos
abbrev nX:=@Nat.le_of_eq
abbrev nY:=@List.take_add_one
abbrev nZ:=@Array.getElem_modify_self
abbrev pA:=@List.getElem_of_mem
namespace Go.Proofs.Wd
open Tryz
variable {ls:List (List Nat)}{k:Int}{l l':List Nat}{B C b c m m' n:Nat}{x y:WE}{s s':Bool}{W W' w w' w1:WB}{t:WF}{vs:Array WE}{A:WG Addr}{is:List (Bool×List Nat)}{S:Nat->Prop}{row:WG Nat}
set_option maxRecDepth 100000
set_option maxHeartbeats 2000000
open Go.RowKit Lb
theorem hmix:prog.follows .mixedOrders=true:=by kernel_rfl
theorem zYv:Enters prog 6:=enters_of func6 kA rfl
theorem zYT:Enters prog 7:=enters_of func7 kA rfl
theorem zWO:Enters prog 8:=enters_of func8 kA rfl
theorem zVR:Enters prog 9:=enters_of func9 kA rfl
theorem zL6:Enters prog 10:=enters_of func10 kA rfl
theorem zUb:Enters prog 12:=enters_of func12 kA rfl
theorem zQ2:Enters prog 13:=enters_of func13 kA rfl
theorem zQ1:Enters prog 16:=enters_of func16 kA rfl
theorem zX3:Enters prog 17:=enters_of func17 kA rfl
theorem zQ0:Enters prog 19:=enters_of func19 kA rfl
theorem zX2:Enters prog 20:=enters_of func20 kA rfl
theorem zX1:Enters prog 21:=enters_of func21 kA rfl
theorem zUa:Enters prog 22:=enters_of func22 kA rfl
theorem zX0:Enters prog 23:=enters_of func23 kA rfl
theorem zXZ:Enters prog 24:=enters_of func24 kA rfl
theorem zXY:Enters prog 25:=enters_of func25 kA rfl
theorem zXX:Enters prog 26:=enters_of func26 kA rfl
theorem zXW:Enters prog 27:=enters_of func27 kA rfl
theorem zV7:Enters prog 28:=enters_of func28 kA rfl
theorem zGi:Enters prog 29:=enters_of func29 kA rfl
theorem zXV:Enters prog 30:=enters_of func30 kA rfl
theorem zOB:Enters prog 31:=enters_of func31 kA rfl
theorem zOA:Enters prog 32:=enters_of func32 kA rfl
theorem zV6:Enters prog 33:=enters_of func33 kA rfl
theorem zXU:Enters prog 34:=enters_of func34 kA rfl
theorem zV5:Enters prog 35:=enters_of func35 kA rfl
theorem zT9:Enters prog 36:=enters_of func36 kA rfl
theorem zV4:Enters prog 37:=enters_of func37 kA rfl
theorem zXT:Enters prog 38:=enters_of func38 kA rfl
theorem zQZ:Enters prog 39:=enters_of func39 kA rfl
theorem zQY:Enters prog 40:=enters_of func40 kA rfl
theorem zV3:Enters prog 41:=enters_of func41 kA rfl
theorem zXS:Enters prog 42:=enters_of func42 kA rfl
theorem zH0:Enters prog 43:=enters_of func43 kA rfl
theorem zXR:Enters prog 44:=enters_of func44 kA rfl
theorem zXQ:Enters prog 45:=enters_of func45 kA rfl
theorem zT8:Enters prog 46:=enters_of func46 kA rfl
theorem zXP:Enters prog 48:=enters_of func48 kA rfl
theorem zV2:Enters prog 49:=enters_of func49 kA rfl
theorem zXO:Enters prog 50:=enters_of func50 kA rfl
theorem zT7:Enters prog 51:=enters_of func51 kA rfl
theorem zT6:Enters prog 52:=enters_of func52 kA rfl
theorem zT5:Enters prog 53:=enters_of func53 kA rfl
theorem zQX:Enters prog 54:=enters_of func54 kA rfl
theorem zQW:Enters prog 55:=enters_of func55 kA rfl
theorem zL5:Enters prog 56:=enters_of func56 kA rfl
theorem zT4:Enters prog 57:=enters_of func57 kA rfl
theorem zI3:Enters prog 58:=enters_of func58 kA rfl
theorem zV1:Enters prog 59:=enters_of func59 kA rfl
theorem zV0:Enters prog 60:=enters_of func60 kA rfl
theorem zXN:Enters prog 61:=enters_of func61 kA rfl
theorem zXM:Enters prog 62:=enters_of func62 kA rfl
theorem zXL:Enters prog 63:=enters_of func63 kA rfl
theorem zVZ:Enters prog 64:=enters_of func64 kA rfl
theorem zVY:Enters prog 65:=enters_of func65 kA rfl
theorem zVX:Enters prog 66:=enters_of func66 kA rfl
theorem zVW:Enters prog 68:=enters_of func68 kA rfl
theorem zT3:Enters prog 69:=enters_of func69 kA rfl
theorem zXK:Enters prog 70:=enters_of func70 kA rfl
theorem zQV:Enters prog 71:=enters_of func71 kA rfl
theorem zXJ:Enters prog 72:=enters_of func72 kA rfl
theorem zXI:Enters prog 73:=enters_of func73 kA rfl
theorem zVV:Enters prog 75:=enters_of func75 kA rfl
theorem zXH:Enters prog 76:=enters_of func76 kA rfl
theorem zXG:Enters prog 79:=enters_of func79 kA rfl
theorem zVU:Enters prog 80:=enters_of func80 kA rfl
theorem zXF:Enters prog 81:=enters_of func81 kA rfl
theorem zVT:Enters prog 82:=enters_of func82 kA rfl
theorem zXE:Enters prog 83:=enters_of func83 kA rfl
theorem zXD:Enters prog 84:=enters_of func84 kA rfl
theorem zVS:Enters prog 85:=enters_of func85 kA rfl
theorem zXC:Enters prog 86:=enters_of func86 kA rfl
theorem zXB:Enters prog 87:=enters_of func87 kA rfl
theorem zXA:Enters prog 88:=enters_of func88 kA rfl
theorem zQU:Enters prog 89:=enters_of func89 kA rfl
theorem zVQ:Enters prog 90:=enters_of func90 kA rfl
theorem zXz:Enters prog 91:=enters_of func91 kA rfl
theorem zVP:Enters prog 92:=enters_of func92 kA rfl
theorem zVO:Enters prog 93:=enters_of func93 kA rfl
theorem zVN:Enters prog 94:=enters_of func94 kA rfl
theorem zXy:Enters prog 95:=enters_of func95 kA rfl
theorem zXx:Enters prog 98:=enters_of func98 kA rfl
theorem zXw:Enters prog 99:=enters_of func99 kA rfl
theorem zI5:Enters prog 102:=enters_of func102 kA rfl
theorem zWl:Enters prog 103:=enters_of func103 kA rfl
theorem zI4:Enters prog 104:=enters_of func104 kA rfl
theorem zLo:Enters prog 105:=enters_of func105 kA rfl
theorem zR4:Enters prog 106:=enters_of func106 kA rfl
theorem zOD:Enters prog 107:=enters_of func107 kA rfl
theorem zWk:Enters prog 108:=enters_of func108 kA rfl
theorem zWj:Enters prog 117:=enters_of func117 kA rfl
theorem zWi:Enters prog 118:=enters_of func118 kA rfl
theorem zWh:Enters prog 119:=enters_of func119 kA rfl
theorem zWg:Enters prog 120:=enters_of func120 kA rfl
theorem zWf:Enters prog 121:=enters_of func121 kA rfl
theorem zR2:Enters prog 123:=enters_of func123 kA rfl
theorem zR1:Enters prog 124:=enters_of func124 kA rfl
theorem zOC:Enters prog 129:=enters_of func129 kA rfl
theorem zWe:Enters prog 130:=enters_of func130 kA rfl
theorem zWd:Enters prog 131:=enters_of func131 kA rfl
theorem zLn:Enters prog 132:=enters_of func132 kA rfl
theorem zR0:Enters prog 133:=enters_of func133 kA rfl
theorem zWc:Enters prog 134:=enters_of func134 kA rfl
theorem zWb:Enters prog 135:=enters_of func135 kA rfl
theorem zWa:Enters prog 136:=enters_of func136 kA rfl
theorem zV9:Enters prog 140:=enters_of func140 kA rfl
theorem zV8:Enters prog 142:=enters_of func142 kA rfl
attribute [local go_sem] Oper.semAt_some qL yG
def zYw(w:WB)(l l':List Nat)(k:Nat)(W:WB):Prop:=
 ∃v lo,∃u:Nat,Boxed W w.heap.size 24 v/\yB W (w.heap.size+4) 69 v lo/\lo.length=k/\Lt lo/\Boxed W (w.heap.size+1) 91 (.int .u64 u)/\u<=1/\
  sm (lm l) k+u*BB^k=val lo+sm (lm l') k/\Below w.heap.size w W/\w.heap.size+4<=W.heap.size
theorem zKn(w:WB)(l l':List Nat){C:Nat}(hC:w.heap.size<=C):OwnFrom C (zYw w l l'):=by
 rintro k W W' row ⟨v,lo,u,hv,I,h5,h1,hu,U,h0,hB,h4⟩ J O
 exact⟨v,lo,u,qZ hv J O,zIJ I J O,h5,h1,qZ hu J O,U,h0,zAB hB J (vP _) hC O,xQ h4 J.size⟩
theorem zPn(x y u:Nat)(hx:x<4294967296)(hy:y<4294967296)(hu:u<=1):
  ∃d z u':Nat,IntKind.u64.wrap (IntKind.u64.wrap ((x:Int)-(y:Int))-(u:Int))=(d:Int)/\(d:Int)%4294967296=(z:Int)/\(d:Int)/9223372036854775808=(u':Int)/\z<4294967296/\u'<=1/\x+u'*4294967296=z+y+u:=by
 have e:IntKind.u64.wrap (IntKind.u64.wrap ((x:Int)-(y:Int))-(u:Int))=((x:Int)-y-u)%18446744073709551616:=by
  rw[nQ,nQ];omega
 by_cases h:y+u<=x
 .exact⟨x-y-u,x-y-u,0,by rw[e];omega,by omega,by omega,by omega,by omega,by omega⟩
 .exact⟨18446744073709551616+x-y-u,4294967296+x-y-u,1,by rw[e];omega,by omega,by omega,by omega,by omega,by omega⟩
theorem zJs(A:WG Addr)(n c:Nat)(l:List Nat)(A':WG Addr)(n' c':Nat)(l':List Nat)(w:WB)(h:Rd w A n c l)(h':Rd w A' n' c' l')(ht:Lt l)(ht':Lt l')(hge:val l'<=val l)(hn:n<=1099511627776)(hn':n'<=1099511627776):
  Calls prog 146 #[.slice A n c,.slice A' n' c'] w fun e w'=>∃A1 n1 c1 l1,e=.returned (.tuple #[.slice A1 n1 c1,.int .i64 0])/\Is l1 (val l-val l')/\Rd w' A1 n1 c1 l1/\Below w.heap.size w w':=by
 have hle:=h.le;have hcap:=h.cap;have hle':=h'.le;have hcap':=h'.cap
 have hcmp:decide (zAP (val l) (val l')<0)=false:=by
  unfold zAP
  rw[if_neg oA]
  split<;>simp
 obtain⟨N,hmx,hN⟩:∃N,((n<n'/\n'=N)∨(¬n<n'/\n=N))/\n<=N/\n'<=N/\N<=1099511627776:=by
  by_cases hh:n<n'
  .exact⟨n',.inl ⟨hh,rfl⟩,by omega⟩
  .exact⟨n,.inr ⟨hh,rfl⟩,by omega⟩
 refine jC func146 rfl ?_
 simp only[ntmps146,bP,mQ,mR,Nat.reduceAdd,Nat.reduceSub,mS,mT,mU,mV,lJ,mO]
 go_wp2_with (first|(go_at_call 152;refine(zF6 A n c l A' n' c' l' _ h h' ht ht').mono ?_;rintro e w1 ⟨rfl,rfl⟩)|(go_at_call 148;refine(zFR A n c A' n' c' _).mono ?_;rintro e w1 ⟨rfl,rfl⟩))
 obtain⟨W0,hW0⟩:∃W0,((((w.alloc (.cells #[.slice none 0 0] 24)).alloc (.cells #[.int .u64 0] 91)).alloc (.cells #[.slice A n c] 24)).alloc (.cells #[.slice A' n' c'] 24))=W0:=⟨_,rfl⟩
 have hsz:W0.heap.size=w.heap.size+4:=by rw[<-hW0];simp
 have hB0:Below w.heap.size w W0:=by rw[<-hW0];exact((((xF _ w).alloc (vP _) _).alloc fE _).alloc (by simp;omega) _).alloc (by simp;omega) _
 have bx0:Boxed W0 w.heap.size 24 (.slice none 0 0):=by rw[<-hW0];exact(((bZ w _ _).alloc _).alloc _).alloc _
 have bx1:Boxed W0 (w.heap.size+1) 91 (.int .u64 0):=by
  rw[<-hW0];have:=bZ (w.alloc (.cells #[.slice none 0 0] 24)) 91 (.int .u64 0);rw[bY]at this;exact(this.alloc _).alloc _
 have bx2:Boxed W0 (w.heap.size+1+1) 24 (.slice A n c):=by
  rw[<-hW0];have:=bZ ((w.alloc (.cells #[.slice none 0 0] 24)).alloc (.cells #[.int .u64 0] 91)) 24 (.slice A n c);rw[bY,bY]at this;exact this.alloc _
 have bx3:Boxed W0 (w.heap.size+1+1+1) 24 (.slice A' n' c'):=by
  rw[<-hW0];have:=bZ (((w.alloc (.cells #[.slice none 0 0] 24)).alloc (.cells #[.int .u64 0] 91)).alloc (.cells #[.slice A n c] 24)) 24 (.slice A' n' c');rw[bY,bY,bY]at this;exact this
 rw[hW0]
 clear hW0
 refine zDV (gf:=154) rfl (enters_of func154 kA rfl) (zDI A n c l A' n' c' l' (w.heap.size+1+1) (w.heap.size+1+1+1) N W0 (h.below hB0) (h'.below hB0) ht ht' bx2.cell bx3.cell hmx (S:=fun b=>b<w.heap.size∨b=w.heap.size+2∨b=w.heap.size+3) (fun b hb=>by omega) (.inr (.inl rfl)) (.inr (.inr rfl)) (fun b o hn e=>.inl (h.in_ b o hn e)) (fun b o hn e=>.inl (h'.in_ b o hn e))) (fun _=>rfl) yZ.trans (zDL (fun b hb=>by omega))
  (zYw w l l') ?hI ?hF wS (fun _ _ _ _ _ _ _ _=>trivial) ?h0
  (fun k=>{ tmps:=#[.slice A n c,.slice A' n' c',undef,undef,.slice none 0 0,.int .i64 0,.pointer (some ⟨w.heap.size,0,none⟩),.pointer (some ⟨w.heap.size+1,0,none⟩),.int .u64 (lm l k:Nat),.int .u64 (lm l' k:Nat),undef,.slice A n c,.slice A' n' c',.int .i64 (zAP (val l) (val l')),.bool false,.slice A n c,.slice A' n' c',.func (.func 154) #[] #[.pointer (some ⟨w.heap.size+1+1,0,none⟩),.pointer (some ⟨w.heap.size+1+1+1,0,none⟩)],.int .u64 (lm l k:Nat),.int .u64 (lm l' k:Nat),undef,undef,undef,undef,undef,undef,undef,undef,undef,undef,undef,undef,undef,undef],defers:=[] }) ?assign ?body ?done
 case hI=>exact zKn w l l' oA
 case hF=>exact zBU (zKn w l l' (vP _))
 case h0=>exact⟨_, [],0,bx0,wV _ _ _,rfl,zB4,bx1,by omega,by simp[sm],hB0,by omega⟩
 case assign=>
  intro lp k W K hK
  gi_wp2
  exact hK
 case body=>
  rintro lp k W hk ⟨v,lo,u,hv,hown,hlk,hlt,hu,hu1,heq,hB,hW4⟩
  have hcv:=hv.cell;have hfv:=hv.frozen;have hcu:=hu.cell;have hfu:=hu.frozen
  have x1:=qR ht k;have x2:=qR ht' k
  simp only[BB]at x1 x2
  obtain⟨d,z,u',hd,hz,hu',hz1,hu1',hstep⟩:=zPn (lm l k) (lm l' k) u x1 x2 hu1
  have HS:=hid hstep
  have hl1:(lo++ [z]).length=k+1:=by simp;omega
  have hsW:w.heap.size+4<=W.heap.size:=hW4
  have hSS:∀b,(b<w.heap.size∨b=w.heap.size+2∨b=w.heap.size+3)->b<W.heap.size/\some b≠v.ownBlock:=fun b hb=>⟨by omega,hown.not_in oA⟩
  have hSo: ¬(w.heap.size<w.heap.size∨w.heap.size=w.heap.size+2∨w.heap.size=w.heap.size+3):=by omega
  have hte:24≠69:=by decide
  have hte':91≠69:=by decide
  have hs1:lo.length+ [z].length<=17592186044416:=by simp;omega
  clear hstep
  gi_wp2_with (gi_at_builtin;go_must (refine zA8 rfl _ _ 24 69 rfl z7 yQ (w.heap.size+4) v lo rfl (yB.alloc hown _) _ 1 1 [z] rfl (Rd.one _ z 69) hs1 (y8 hsW _) ?_;intro v1 w1 hown1 hg1 hat1;obtain⟨A1,c1,rfl⟩:=hown1.form' hl1;obtain⟨hv1,hv2,hr2,hk2,hb2⟩:=zH4 hte hv hown hB.size (vP _) (Nat.le_add_right _ 4) hown1 hg1;have hk3:=zJQ (v':=.slice A1 (k+1) c1) hg1 hSS hSo;have hc1:=hv1.cell;have hf1:=hv1.frozen;have hu2:=zFk hte' hu hown hg1;have hc2:=hu2.cell;have hf2:=hu2.frozen))
  have hu3:=hu2.other (Nat.succ_ne_self w.heap.size) (.slice A1 (k+1) c1)
  refine⟨(hk2.trans (bO _ _ _)).from _,hk3.setCell (p:=⟨w.heap.size+1,0,none⟩) fE _,_,lo++ [z],u',hv2.other oA _,hr2.other hu3 hte' _,hl1,zBh hlt hz1,hu3.set _,hu1',?_,(hB.trans hb2).setCell (p:=⟨w.heap.size+1,0,none⟩) fE _,?_⟩
  .rw[zAo,hlk]
   simp only[sm,vY]
   exact zG4 heq HS.out
  .exact xQ hW4 ((hb2.setCell (p:=⟨w.heap.size+1,0,none⟩) fE _).size)
 case done=>
  rintro D W hD ⟨v,lo,u,hv,hown,hlk,hlt,hu,hu1,heq,hB,hW4⟩ _ hd
  obtain⟨A1,c1,rfl⟩:=hown.form' hlk
  have hcv:=hv.cell;have hfv:=hv.frozen
  go_wp2_with (go_at_call 124;refine(q9 _ _ _ _ _ hown.rd hlt oA).mono ?_;rintro e w1 ⟨A2,n2,c2,l2,rfl,hi2,hr2,hb2⟩)
  have hd1:w1.heap[D]?=some (.deferred (some [])):=(hb2.block D (xP.1 hd).1).trans hd
  have e1:=zAZ (l:=l) (n:=N) (by rw[h.len];omega)
  have e2:=zAZ (l:=l') (n:=N) (by rw[h'.len];omega)
  have e3:=q8 hlt
  rw[hlk]at e3
  rw[e1,e2]at heq
  have hu0:u=0:=by
   rcases bF 0 u with h0|h0
   .have:u=1:=by omega
    subst this
    omega
   .omega
  subst hu0
  have hv2:val lo=val l-val l':=by omega
  rw[hv2]at hi2
  refine⟨by simp,.inl ⟨_,_,rfl,run_takeDeferred hd1,?_⟩⟩
  exact⟨_,results_tmp2 rfl _ _ _,A2,n2,c2,l2,rfl,hi2,hr2.other _ hd1 rfl,zJ5 (hB.trans (hb2.mono hB.size)) _ (xQ hB.size hb2.size) oA⟩
attribute [local go_sem] Oper.semAt_some qL yG
def zFu(ls:List (List Nat))(k:Nat):Nat:=((ls.take k).map val).sum
theorem zEv(ls:List (List Nat)):zFu ls 0=0:=by simp[zFu]
theorem zDl{k:Nat}(h:ls[k]?=some l):zFu ls (k+1)=zFu ls k+val l:=by
 unfold zFu
 rw[nY,h]
 simp
theorem zIf(h:ls.length=n):zFu ls n=(ls.map val).sum:=by
 unfold zFu
 rw[nK oA]
theorem zLz(x y u:Nat)(hx:x<4294967296)(hy:y<4294967296)(hu:u<=1):
  ∃d z u':Nat,(u:Int)+((x:Int)+(y:Int))=(d:Int)/\(d:Int)%4294967296=(z:Int)/\(d:Int)/4294967296=(u':Int)/\z<4294967296/\u'<=1/\d<=8589934591/\x+y+u=z+u'*4294967296:=
 ⟨u+(x+y),(u+(x+y))%4294967296,(u+(x+y))/4294967296,by omega,by omega,by omega,by omega,by omega,by omega,by omega⟩
theorem zH5{a lo P x y z u I:Nat}(heq:lo+u*P=a+b)(J:x+y+u=z+I*4294967296):lo+z*P+I*(P*4294967296)=a+x*P+(b+y*P):=by
 have h:=vQ (·*P) J
 simp only[vT]at h
 have e:I*(P*4294967296)=I*4294967296*P:=by rw[vS P,vX]
 omega
def zGl(s m:Nat)(b:Nat):Prop:=b<s∨b=m+1∨b=m+1+1
def zYm(B s m:Nat)(w W1:WB)(ls la:List Nat)(ds:List Deferred)(Ds:List Nat)(k:Nat)(W:WB):Prop:=
 ∃v lo,∃u:Nat,Boxed W m 24 v/\yB W (s+1) 69 v lo/\lo.length=k/\Lt lo/\Boxed W s 91 (.int .u64 u)/\u<=1/\
  val lo+u*BB^k=sm (lm ls) k+sm (lm la) k/\Below B w W/\yZ (zGl s m) W1 W/\Marks B W ds Ds/\W1.heap.size<=W.heap.size
theorem zFm{s:Nat}{U:WB}{ls la:List Nat}{ds:List Deferred}{Ds:List Nat}(hB:B<=w.heap.size)(hsB:B<=s)(hs:s<=m)(hm:m+1+1<U.heap.size)(hD:∀D,D∈Ds->D<U.heap.size):OwnFrom U.heap.size (zYm B s m w U ls la ds Ds):=by
 rintro k W W' row ⟨v,lo,u,hv,O,h7,h6,hu,h0,h5,hb,hk,h1,h4⟩ I J
 refine⟨v,lo,u,qZ hv I J,zIJ O I J,h7,h6,qZ hu I J,h0,h5,zAB hb I hB oA J,hk.grown I (fun b hb=>⟨?_,fun e=>?_⟩),h1.abide hD I J,xQ h4 I.size⟩
 .unfold zGl at hb;omega
 .have:=(J b e.symm).1;unfold zGl at hb;omega
def zY7(w:WB)(A:WG Addr)(n c:Nat)(ls:List (List Nat))(a:Act)(W:WB):Prop:=
 ∃(k:Nat) (v:WE) (ds:List Deferred) (Ds:List Nat) (u4 u5 u6 u7 u8 u12 u13 u14 u15 u16 u17 u18 u19 u20 u21 u22 u23 u24 u25 u26 u27 u28 u29 u30 u31 u32 u33 u34 u35 u36 u37 u38 u39 u40 u41 u42 u43 u44:WE) (As:WG Addr) (ns cs:Nat) (lo:List Nat),
  a={ tmps:=#[.slice A n c,undef,v,undef,u4,u5,u6,u7,u8,.slice A n c,.int .i64 n,.int .i64 k,u12,u13,u14,u15,u16,u17,u18,u19,u20,u21,u22,u23,u24,u25,u26,u27,u28,u29,u30,u31,u32,u33,u34,u35,u36,u37,u38,u39,u40,u41,u42,u43,u44,undef,undef],defers:=ds }/\k<=n/\v=.slice As ns cs/\Rd W As ns cs lo/\Lt lo/\ns<=68719476736+k/\val lo=zFu ls k/\Below w.heap.size w W/\Marks w.heap.size W ds Ds
theorem zOW(A:WG Addr)(n c:Nat)(ls:List (List Nat))(w:WB)(h:Rds w A n ls)(hn:n<=1000):
  Calls prog 132 #[.slice A n c] w (jK w (ls.map val).sum):=by
 obtain⟨i0,hi0,hz0,hz1,hz2⟩:=cZ yQ
 refine jC func132 rfl ?_
 simp only[ntmps132,bP,mQ,mR,Nat.reduceAdd,Nat.reduceSub,mS,mT,mU,mV,lJ,mO]
 go_wp2
 refine wp_loop (zY7 w A n c ls) (fun a _=>n-(intOf (a.tmps.getD 11 undef)).toNat) ?_ ?_
 .exact⟨0,_, [], [],_,_,_,_,_,_,_,_,_,_,_,_,_,_,_,_,_,_,_,_,_,_,_,_,_,_,_,_,_,_,_,_,_,_,_,_,_,_,none,0,0, [],rfl,vR _,rfl,wM _,zB4,by omega,by rw[zEv];rfl,xF _ _,Marks.nil _ _⟩
 rintro a W ⟨k,v,ds,Ds,u4,u5,u6,u7,u8,u12,u13,u14,u15,u16,u17,u18,u19,u20,u21,u22,u23,u24,u25,u26,u27,u28,u29,u30,u31,u32,u33,u34,u35,u36,u37,u38,u39,u40,u41,u42,u43,u44,As,ns,cs,lo,rfl,hk,rfl,hrs,hlt,hns,hval,hB,hM⟩
 by_cases hkn:k<n
 .obtain⟨b,o,Ai,ni,ci,la,rfl,hcell,hla,hra,hta,hni⟩:=h.cells k hkn
  have hcW:W.cell? ⟨b,o+k,none⟩=some (.slice Ai ni ci):=(hB.cell (p:=⟨b,o+k,none⟩) (zZ hcell)).trans hcell
  have hraW:=hra.below hB
  obtain⟨N,hmx,hmx2,hN⟩:∃N,((ns<ni/\ni=N)∨(¬ns<ni/\ns=N))/\((ni<ns/\N=ns)∨(¬ni<ns/\N=ni))/\ni<=N/\ns<=N/\N<=68719476736+k:=by
   rcases Nat.lt_trichotomy ns ni with hh|hh|hh
   .exact⟨ni,.inl ⟨hh,rfl⟩,.inr ⟨by omega,rfl⟩,by omega⟩
   .exact⟨ns,.inr ⟨by omega,rfl⟩,.inr ⟨by omega,hh⟩,by omega⟩
   .exact⟨ns,.inr ⟨by omega,rfl⟩,.inl ⟨hh,rfl⟩,by omega⟩
  have HX:=hid hmx
  clear hmx
  have hbase:W.heap.size+1<=(W.alloc (.cells #[.int .u64 0] 91)).heap.size:=by simp
  have hbytes:i0.bytes*(N+1)<=281474976710656:=by rw[hz2];omega
  have hmax:N+1<=maxLen:=by unfold maxLen;omega
  rcases hmx2 with⟨hx,hxe⟩|⟨hx,hxe⟩
  .have HC:Hid (((ns:Int)+1)=((N+1:Nat):Int)):=hid oA
   have HE:=hid hxe
   clear hxe
   go_wp2_with (first|(at_make;refine wpList_make_own _ rfl _ _ 24 rfl (W.heap.size+1) 69 i0 (.int .u32 0) 1 z7 hi0 hz0 hz1 .i64 .i64 _ (N+1) rfl rfl HC.out hbytes hmax hbase ?_;intro w0 hown0 hgrow0)|(go_at_call 148;refine(zFR _ _ _ _ _ _ _).mono ?_;rintro e w1 ⟨rfl,rfl⟩))
   rw[bY]at hown0
   have hm0:W.heap.size+1<w0.heap.size:=(eQ hown0 _ rfl).2
   obtain⟨W1,hW1⟩:∃W1,(((w0.alloc (.cells #[.slice (some ⟨W.heap.size+1,0,none⟩) 0 (N+1)] 24)).alloc (.cells #[.slice As ns cs] 24)).alloc (.cells #[.slice Ai ni ci] 24))=W1:=⟨_,rfl⟩
   have hsz:W1.heap.size=w0.heap.size+3:=by rw[<-hW1];simp
   have hBW:Below W.heap.size W W1:=by
    rw[<-hW1]
    exact(((((xF _ W).alloc (vP _) _).grown hgrow0 fE (fun _ e=>by cases e)).alloc oA _).alloc (by simp;omega) _).alloc (by simp;omega) _
   have hB1:Below w.heap.size w W1:=hB.trans (hBW.mono hB.size)
   have bs:Boxed W1 W.heap.size 91 (.int .u64 0):=by rw[<-hW1];exact((((bZ W _ _).kept hgrow0 fE).alloc _).alloc _).alloc _
   have bm:Boxed W1 w0.heap.size 24 (.slice (some ⟨W.heap.size+1,0,none⟩) 0 (N+1)):=by rw[<-hW1];exact((bZ w0 _ _).alloc _).alloc _
   have bp:Boxed W1 (w0.heap.size+1) 24 (.slice As ns cs):=by
    rw[<-hW1];have:=bZ (w0.alloc (.cells #[.slice (some ⟨W.heap.size+1,0,none⟩) 0 (N+1)] 24)) 24 (.slice As ns cs);rw[bY]at this;exact this.alloc _
   have bq:Boxed W1 (w0.heap.size+1+1) 24 (.slice Ai ni ci):=by
    rw[<-hW1];have:=bZ ((w0.alloc (.cells #[.slice (some ⟨W.heap.size+1,0,none⟩) 0 (N+1)] 24)).alloc (.cells #[.slice As ns cs] 24)) 24 (.slice Ai ni ci);rw[bY,bY]at this;exact this
   have ho1:yB W1 (W.heap.size+1) 69 (.slice (some ⟨W.heap.size+1,0,none⟩) 0 (N+1)) []:=by
    rw[<-hW1];exact((eS hown0 _).alloc _).alloc _
   have hM1:=hM.made hBW
   have hD1:=hM1.lt
   rw[hW1]
   clear hW1
   have hSb:∀b,zGl W.heap.size w0.heap.size b->b<W1.heap.size:=fun b hb=>by unfold zGl at hb;omega
   refine zDV (gf:=154) rfl (enters_of func154 kA rfl) (zDI As ns cs lo Ai ni ci la (w0.heap.size+1) (w0.heap.size+1+1) N W1 (hrs.below hBW) (hraW.below hBW) hlt hta bp.cell bq.cell HX.out (S:=zGl W.heap.size w0.heap.size) hSb (.inr (.inl rfl)) (.inr (.inr rfl)) (fun b o hn e=>.inl (hrs.in_ b o hn e)) (fun b o hn e=>.inl (hraW.in_ b o hn e))) (fun _=>rfl) yZ.trans (zDL hSb)
    (zYm w.heap.size W.heap.size w0.heap.size w W1 lo la ds Ds) (zFm (vP _) hB.size oA oA hD1) (zBU (zFm (vP _) hB.size oA oA hD1)) wS (fun _ _ _ _ _ _ _ _=>trivial)
    ⟨_, [],0,bm,ho1,rfl,zB4,bs,by omega,by simp[sm],hB1,yZ.refl _ _,hM1,vP _⟩
    (fun j=>{ tmps:=#[.slice (some ⟨b,o,none⟩) n c,undef,.slice As ns cs,undef,.slice Ai ni ci,.pointer (some ⟨W.heap.size,0,none⟩),.pointer (some ⟨w0.heap.size,0,none⟩),.int .u64 (lm lo j:Nat),.int .u64 (lm la j:Nat),.slice (some ⟨b,o,none⟩) n c,.int .i64 n,.int .i64 k,.bool true,.pointer (some ⟨b,o+k,none⟩),.slice Ai ni ci,.slice Ai ni ci,.int .i64 ni,.slice As ns cs,.int .i64 ns,.int .i64 ns,.int .i64 ((ns:Int)+1),.slice (some ⟨W.heap.size+1,0,none⟩) 0 (N+1),.slice As ns cs,.slice Ai ni ci,.func (.func 154) #[] #[.pointer (some ⟨w0.heap.size+1,0,none⟩),.pointer (some ⟨w0.heap.size+1+1,0,none⟩)],.int .u64 (lm lo j:Nat),.int .u64 (lm la j:Nat),u27,u28,u29,u30,u31,u32,u33,u34,u35,u36,u37,u38,u39,u40,u41,u42,u43,u44,undef,undef],defers:=[] }) ?_ ?_ ?_
   .intro lp j W2 K hK
    gi_wp2
    exact hK
   .rintro lp j W2 hj ⟨v,lv,u,hv,hown,hlk,hlv,hu,hu1,heq,hB2,hK2,hM2,hsz2⟩
    have hcv:=hv.cell;have hfv:=hv.frozen;have hcu:=hu.cell;have hfu:=hu.frozen
    have x1:=qR hlt j;have x2:=qR hta j
    simp only[BB]at x1 x2
    obtain⟨d,z,u',hd,hz,hu',hz1,hu1',hd1,hstep⟩:=zLz (lm lo j) (lm la j) u x1 x2 hu1
    have HS:=hid hstep
    clear hstep
    have hs1:lv.length+ [z].length<=17592186044416:=by simp;omega
    have hl1:(lv++ [z]).length=j+1:=by simp;omega
    have hte:24≠69:=by decide
    have hte':91≠69:=by decide
    have hne:W.heap.size≠w0.heap.size:=by omega
    have hne':w0.heap.size≠W.heap.size:=by omega
    have hbW:W.heap.size+1<=W2.heap.size:=by omega
    have bp2:=hK2.boxed (.inr (.inl rfl)) bp
    have bq2:=hK2.boxed (.inr (.inr rfl)) bq
    have hSS:∀b,zGl W.heap.size w0.heap.size b->b<W2.heap.size/\some b≠v.ownBlock:=fun b hb=>⟨by have:=hSb b hb;omega,by
     rcases hb with hb|rfl|rfl
     .exact hown.not_in oA
     .exact bp2.not_row hte hown
     .exact bq2.not_row hte hown⟩
    have hSo: ¬zGl W.heap.size w0.heap.size w0.heap.size:=by unfold zGl;omega
    have hSu: ¬zGl W.heap.size w0.heap.size W.heap.size:=by unfold zGl;omega
    have huS:=hu.set (.int .u64 d)
    have hownS:=hown.other hu hte' (.int .u64 d)
    have hvS:=hv.other hne' (.int .u64 d)
    have cvS:=hvS.cell;have fvS:=hvS.frozen;have cuS:=huS.cell;have fuS:=huS.frozen
    have hbS:W.heap.size+1<=(W2.setCell ⟨W.heap.size,0,none⟩ (.int .u64 d)).heap.size:=xQ hbW (bO _ _ _).size
    gi_wp2_with (gi_at_builtin;go_must (refine zA8 rfl _ _ 24 69 rfl z7 yQ (W.heap.size+1) v lv rfl (yB.alloc hownS _) _ 1 1 [z] rfl (vK _ z 69 (zA1 W2 _ _)) hs1 (y8 hbS _) ?_;intro v1 w1 hown1 hg1 hat1;obtain⟨A1,c1,rfl⟩:=hown1.form' hl1;have hk3:=zJQ (v':=.slice A1 (j+1) c1) hg1 (fun b hb=>⟨vU (hSS b hb).1 (bO _ _ _).size,(hSS b hb).2⟩) hSo;obtain⟨hv1,hv2,hr2,hk2,hb2⟩:=zH4 hte hvS hownS hbS (nL hm0) (vP _) hown1 hg1;have hc1:=hv1.cell;have hf1:=hv1.frozen;have hu2:=zFk hte' huS hownS hg1;have hc2:=hu2.cell;have hf2:=hu2.frozen))
    have hu3:=hu2.other hne (.slice A1 (j+1) c1)
    have hko:=(bO W2 ⟨W.heap.size,0,none⟩ (.int .u64 d)).trans (hk2.trans (bO _ ⟨W.heap.size,0,none⟩ (.int .u64 u')))
    have hks:=(((yZ.refl (zGl W.heap.size w0.heap.size) W2).setCell (p:=⟨W.heap.size,0,none⟩) hSu (.int .u64 d)).trans hk3).setCell (p:=⟨W.heap.size,0,none⟩) hSu (.int .u64 u')
    refine⟨hko.from _,hks,_,lv++ [z],u',hv2.other hne' _,hr2.other hu3 hte' _,hl1,zBh hlv hz1,hu3.set _,hu1',?_,((hB2.setCell (p:=⟨W.heap.size,0,none⟩) hB.size _).trans (hb2.mono (by have:=hB.size;omega))).setCell (p:=⟨W.heap.size,0,none⟩) hB.size _,hK2.trans hks,hM2.others hko,xQ hsz2 hko.size⟩
    rw[zAo,hlk]
    simp only[sm,vY]
    exact zH5 heq HS.out
   .rintro D W3 hD ⟨v,lv,u,hv,hown,hlk,hlv,hu,hu1,heq,hB2,hK2,hM2,hsz2⟩ _ hd
    obtain⟨A1,c1,rfl⟩:=hown.form' hlk
    have hcv:=hv.cell;have hcu:=hu.cell
    have heu:(u:Int)%4294967296=u:=by omega
    have hs1:lv.length+ [u].length<=17592186044416:=by simp;omega
    have hl1:(lv++ [u]).length=N+1:=by simp;omega
    have hbW:W.heap.size+1<=W3.heap.size:=by omega
    go_wp2_with (at_builtin;go_must (refine zS rfl _ _ 24 69 rfl z7 yQ (W.heap.size+1) _ lv rfl (yB.alloc hown _) _ 1 1 [u] rfl (Rd.one _ u 69) hs1 (y8 hbW _) ?_;intro v1 w1 hown1 hg1 hat1;obtain⟨A2,c2,rfl⟩:=hown1.form' hl1))
    have hD2:D ∉ Ds:=fun h=>by have:=hD1 D h;omega
    have hM3:=(hM2.more hD2 (by have:=hB1.size;omega) hd).others (zEe hown hg1)
    refine⟨⟨k+1,_,_,_,_,_,_,_,_,_,_,_,_,_,_,_,_,_,_,_,_,_,_,_,_,_,_,_,_,_,_,_,_,_,_,_,_,_,_,_,_,_,A2,N+1,c2,lv++ [u],rfl,by omega,rfl,hown1.rd,zBh hlv (by unfold BB;omega),by omega,?_,yB.grown (hB2.alloc hB2.size _) (yB.alloc hown _) hg1 (by have:=hB.size;omega) (y8 hB2.size _),hM3⟩,?_⟩
    .have e1:=zAZ (l:=lo) (n:=N) (by rw[hrs.len];omega)
     have e2:=zAZ (l:=la) (n:=N) (by rw[hra.len];omega)
     rw[zDl hla,zAo,hlk,heq,e1,e2,hval]
    .show n-(intOf (.int .i64 ((k:Int)+1))).toNat<n-(intOf (.int .i64 (k:Int))).toNat
     simp[intOf]
     omega
  .have HC:Hid (((ni:Int)+1)=((N+1:Nat):Int)):=hid oA
   have HE:=hid hxe
   clear hxe
   go_wp2_with (first|(at_make;refine wpList_make_own _ rfl _ _ 24 rfl (W.heap.size+1) 69 i0 (.int .u32 0) 1 z7 hi0 hz0 hz1 .i64 .i64 _ (N+1) rfl rfl HC.out hbytes hmax hbase ?_;intro w0 hown0 hgrow0)|(go_at_call 148;refine(zFR _ _ _ _ _ _ _).mono ?_;rintro e w1 ⟨rfl,rfl⟩))
   rw[bY]at hown0
   have hm0:W.heap.size+1<w0.heap.size:=(eQ hown0 _ rfl).2
   obtain⟨W1,hW1⟩:∃W1,(((w0.alloc (.cells #[.slice (some ⟨W.heap.size+1,0,none⟩) 0 (N+1)] 24)).alloc (.cells #[.slice As ns cs] 24)).alloc (.cells #[.slice Ai ni ci] 24))=W1:=⟨_,rfl⟩
   have hsz:W1.heap.size=w0.heap.size+3:=by rw[<-hW1];simp
   have hBW:Below W.heap.size W W1:=by
    rw[<-hW1]
    exact(((((xF _ W).alloc (vP _) _).grown hgrow0 fE (fun _ e=>by cases e)).alloc oA _).alloc (by simp;omega) _).alloc (by simp;omega) _
   have hB1:Below w.heap.size w W1:=hB.trans (hBW.mono hB.size)
   have bs:Boxed W1 W.heap.size 91 (.int .u64 0):=by rw[<-hW1];exact((((bZ W _ _).kept hgrow0 fE).alloc _).alloc _).alloc _
   have bm:Boxed W1 w0.heap.size 24 (.slice (some ⟨W.heap.size+1,0,none⟩) 0 (N+1)):=by rw[<-hW1];exact((bZ w0 _ _).alloc _).alloc _
   have bp:Boxed W1 (w0.heap.size+1) 24 (.slice As ns cs):=by
    rw[<-hW1];have:=bZ (w0.alloc (.cells #[.slice (some ⟨W.heap.size+1,0,none⟩) 0 (N+1)] 24)) 24 (.slice As ns cs);rw[bY]at this;exact this.alloc _
   have bq:Boxed W1 (w0.heap.size+1+1) 24 (.slice Ai ni ci):=by
    rw[<-hW1];have:=bZ ((w0.alloc (.cells #[.slice (some ⟨W.heap.size+1,0,none⟩) 0 (N+1)] 24)).alloc (.cells #[.slice As ns cs] 24)) 24 (.slice Ai ni ci);rw[bY,bY]at this;exact this
   have ho1:yB W1 (W.heap.size+1) 69 (.slice (some ⟨W.heap.size+1,0,none⟩) 0 (N+1)) []:=by
    rw[<-hW1];exact((eS hown0 _).alloc _).alloc _
   have hM1:=hM.made hBW
   have hD1:=hM1.lt
   rw[hW1]
   clear hW1
   have hSb:∀b,zGl W.heap.size w0.heap.size b->b<W1.heap.size:=fun b hb=>by unfold zGl at hb;omega
   refine zDV (gf:=154) rfl (enters_of func154 kA rfl) (zDI As ns cs lo Ai ni ci la (w0.heap.size+1) (w0.heap.size+1+1) N W1 (hrs.below hBW) (hraW.below hBW) hlt hta bp.cell bq.cell HX.out (S:=zGl W.heap.size w0.heap.size) hSb (.inr (.inl rfl)) (.inr (.inr rfl)) (fun b o hn e=>.inl (hrs.in_ b o hn e)) (fun b o hn e=>.inl (hraW.in_ b o hn e))) (fun _=>rfl) yZ.trans (zDL hSb)
    (zYm w.heap.size W.heap.size w0.heap.size w W1 lo la ds Ds) (zFm (vP _) hB.size oA oA hD1) (zBU (zFm (vP _) hB.size oA oA hD1)) wS (fun _ _ _ _ _ _ _ _=>trivial)
    ⟨_, [],0,bm,ho1,rfl,zB4,bs,by omega,by simp[sm],hB1,yZ.refl _ _,hM1,vP _⟩
    (fun j=>{ tmps:=#[.slice (some ⟨b,o,none⟩) n c,undef,.slice As ns cs,undef,.slice Ai ni ci,.pointer (some ⟨W.heap.size,0,none⟩),.pointer (some ⟨w0.heap.size,0,none⟩),.int .u64 (lm lo j:Nat),.int .u64 (lm la j:Nat),.slice (some ⟨b,o,none⟩) n c,.int .i64 n,.int .i64 k,.bool true,.pointer (some ⟨b,o+k,none⟩),.slice Ai ni ci,.slice Ai ni ci,.int .i64 ni,.slice As ns cs,.int .i64 ns,.int .i64 ni,.int .i64 ((ni:Int)+1),.slice (some ⟨W.heap.size+1,0,none⟩) 0 (N+1),.slice As ns cs,.slice Ai ni ci,.func (.func 154) #[] #[.pointer (some ⟨w0.heap.size+1,0,none⟩),.pointer (some ⟨w0.heap.size+1+1,0,none⟩)],.int .u64 (lm lo j:Nat),.int .u64 (lm la j:Nat),u27,u28,u29,u30,u31,u32,u33,u34,u35,u36,u37,u38,u39,u40,u41,u42,u43,u44,undef,undef],defers:=[] }) ?_ ?_ ?_
   .intro lp j W2 K hK
    gi_wp2
    exact hK
   .rintro lp j W2 hj ⟨v,lv,u,hv,hown,hlk,hlv,hu,hu1,heq,hB2,hK2,hM2,hsz2⟩
    have hcv:=hv.cell;have hfv:=hv.frozen;have hcu:=hu.cell;have hfu:=hu.frozen
    have x1:=qR hlt j;have x2:=qR hta j
    simp only[BB]at x1 x2
    obtain⟨d,z,u',hd,hz,hu',hz1,hu1',hd1,hstep⟩:=zLz (lm lo j) (lm la j) u x1 x2 hu1
    have HS:=hid hstep
    clear hstep
    have hs1:lv.length+ [z].length<=17592186044416:=by simp;omega
    have hl1:(lv++ [z]).length=j+1:=by simp;omega
    have hte:24≠69:=by decide
    have hte':91≠69:=by decide
    have hne:W.heap.size≠w0.heap.size:=by omega
    have hne':w0.heap.size≠W.heap.size:=by omega
    have hbW:W.heap.size+1<=W2.heap.size:=by omega
    have bp2:=hK2.boxed (.inr (.inl rfl)) bp
    have bq2:=hK2.boxed (.inr (.inr rfl)) bq
    have hSS:∀b,zGl W.heap.size w0.heap.size b->b<W2.heap.size/\some b≠v.ownBlock:=fun b hb=>⟨by have:=hSb b hb;omega,by
     rcases hb with hb|rfl|rfl
     .exact hown.not_in oA
     .exact bp2.not_row hte hown
     .exact bq2.not_row hte hown⟩
    have hSo: ¬zGl W.heap.size w0.heap.size w0.heap.size:=by unfold zGl;omega
    have hSu: ¬zGl W.heap.size w0.heap.size W.heap.size:=by unfold zGl;omega
    have huS:=hu.set (.int .u64 d)
    have hownS:=hown.other hu hte' (.int .u64 d)
    have hvS:=hv.other hne' (.int .u64 d)
    have cvS:=hvS.cell;have fvS:=hvS.frozen;have cuS:=huS.cell;have fuS:=huS.frozen
    have hbS:W.heap.size+1<=(W2.setCell ⟨W.heap.size,0,none⟩ (.int .u64 d)).heap.size:=xQ hbW (bO _ _ _).size
    gi_wp2_with (gi_at_builtin;go_must (refine zA8 rfl _ _ 24 69 rfl z7 yQ (W.heap.size+1) v lv rfl (yB.alloc hownS _) _ 1 1 [z] rfl (vK _ z 69 (zA1 W2 _ _)) hs1 (y8 hbS _) ?_;intro v1 w1 hown1 hg1 hat1;obtain⟨A1,c1,rfl⟩:=hown1.form' hl1;have hk3:=zJQ (v':=.slice A1 (j+1) c1) hg1 (fun b hb=>⟨vU (hSS b hb).1 (bO _ _ _).size,(hSS b hb).2⟩) hSo;obtain⟨hv1,hv2,hr2,hk2,hb2⟩:=zH4 hte hvS hownS hbS (nL hm0) (vP _) hown1 hg1;have hc1:=hv1.cell;have hf1:=hv1.frozen;have hu2:=zFk hte' huS hownS hg1;have hc2:=hu2.cell;have hf2:=hu2.frozen))
    have hu3:=hu2.other hne (.slice A1 (j+1) c1)
    have hko:=(bO W2 ⟨W.heap.size,0,none⟩ (.int .u64 d)).trans (hk2.trans (bO _ ⟨W.heap.size,0,none⟩ (.int .u64 u')))
    have hks:=(((yZ.refl (zGl W.heap.size w0.heap.size) W2).setCell (p:=⟨W.heap.size,0,none⟩) hSu (.int .u64 d)).trans hk3).setCell (p:=⟨W.heap.size,0,none⟩) hSu (.int .u64 u')
    refine⟨hko.from _,hks,_,lv++ [z],u',hv2.other hne' _,hr2.other hu3 hte' _,hl1,zBh hlv hz1,hu3.set _,hu1',?_,((hB2.setCell (p:=⟨W.heap.size,0,none⟩) hB.size _).trans (hb2.mono (by have:=hB.size;omega))).setCell (p:=⟨W.heap.size,0,none⟩) hB.size _,hK2.trans hks,hM2.others hko,xQ hsz2 hko.size⟩
    rw[zAo,hlk]
    simp only[sm,vY]
    exact zH5 heq HS.out
   .rintro D W3 hD ⟨v,lv,u,hv,hown,hlk,hlv,hu,hu1,heq,hB2,hK2,hM2,hsz2⟩ _ hd
    obtain⟨A1,c1,rfl⟩:=hown.form' hlk
    have hcv:=hv.cell;have hcu:=hu.cell
    have heu:(u:Int)%4294967296=u:=by omega
    have hs1:lv.length+ [u].length<=17592186044416:=by simp;omega
    have hl1:(lv++ [u]).length=N+1:=by simp;omega
    have hbW:W.heap.size+1<=W3.heap.size:=by omega
    go_wp2_with (at_builtin;go_must (refine zS rfl _ _ 24 69 rfl z7 yQ (W.heap.size+1) _ lv rfl (yB.alloc hown _) _ 1 1 [u] rfl (Rd.one _ u 69) hs1 (y8 hbW _) ?_;intro v1 w1 hown1 hg1 hat1;obtain⟨A2,c2,rfl⟩:=hown1.form' hl1))
    have hD2:D ∉ Ds:=fun h=>by have:=hD1 D h;omega
    have hM3:=(hM2.more hD2 (by have:=hB1.size;omega) hd).others (zEe hown hg1)
    refine⟨⟨k+1,_,_,_,_,_,_,_,_,_,_,_,_,_,_,_,_,_,_,_,_,_,_,_,_,_,_,_,_,_,_,_,_,_,_,_,_,_,_,_,_,_,A2,N+1,c2,lv++ [u],rfl,by omega,rfl,hown1.rd,zBh hlv (by unfold BB;omega),by omega,?_,yB.grown (hB2.alloc hB2.size _) (yB.alloc hown _) hg1 (by have:=hB.size;omega) (y8 hB2.size _),hM3⟩,?_⟩
    .have e1:=zAZ (l:=lo) (n:=N) (by rw[hrs.len];omega)
     have e2:=zAZ (l:=la) (n:=N) (by rw[hra.len];omega)
     rw[zDl hla,zAo,hlk,heq,e1,e2,hval]
    .show n-(intOf (.int .i64 ((k:Int)+1))).toNat<n-(intOf (.int .i64 (k:Int))).toNat
     simp[intOf]
     omega
 .obtain rfl:k=n:=by omega
  go_wp2_with (go_at_call 124;refine(q9 _ _ _ _ _ hrs hlt oA).mono ?_;rintro e w1 ⟨A2,n2,c2,l2,rfl,hi2,hr2,hb2⟩)
  refine qH w1 (fun w' _=>results_tmp rfl _ _ w') Ds ds w1 (hM.made hb2) (Oth.refl _ _) ?_
  intro w' ho
  rw[hval,zIf h.len]at hi2
  exact⟨A2,n2,c2,l2,rfl,hi2,hr2.oth ho,zAj (hB.trans (hb2.mono hB.size)) ho (vP _)⟩
def iv(s:Bool)(l:List Nat):Int:=if s then -(val l:Int)else val l
def jD(W:WB)(B:Nat)(t:WF)(vs:Array WE):Prop:=W.heap[B]?=some (.cells vs t (0,0))
theorem jD.lt(h:jD W B t vs):B<W.heap.size:=(xP.1 h).1
theorem jD.cell(h:jD W B t vs)(i:Nat):W.cell? ⟨B,i,none⟩=vs[i]?:=by simp[World.cell?,show W.heap[B]?=_ from h]
theorem jD.frozen(h:jD W B t vs)(i:Nat):W.frozen? ⟨B,i,none⟩=false:=by simp[World.frozen?,show W.heap[B]?=_ from h]
theorem jD.new(W:WB)(t:WF)(vs:Array WE):jD (W.alloc (.cells vs t)) W.heap.size t vs:=cO W _
theorem jD.at_(W:WB)(t:WF)(vs:Array WE){b:Nat}(hb:b=W.heap.size):jD (W.alloc (.cells vs t)) b t vs:=by
 subst hb
 exact jD.new W t vs
theorem jD.kept(h:jD W B t vs)(hb:Below W.heap.size W W'):jD W' B t vs:=(hb.block _ h.lt).trans h
theorem jD.alloc(h:jD W B t vs)(o:Obj):jD (W.alloc o) B t vs:=h.kept ((xF _ _).alloc (vP _) o)
theorem jD.other(h:jD W B t vs){p:Addr}(I:B≠p.block)(v:WE):jD (W.setCell p v) B t vs:=(cV W p v B I).trans h
theorem jD.set(h:jD W B t vs)(i:Nat)(v:WE):jD (W.setCell ⟨B,i,none⟩ v) B t (vs.setIfInBounds i v):=by
 obtain⟨I,J⟩:=xP.1 h
 show(W.heap.modify B _)[B]?=_
 rw[cC (by rw[eY];exact I),nZ,J]
 rfl
theorem jD.oth(h:jD w b t vs)(J:Oth B w w'):jD w' b t vs:=by
 rcases J.block b with e|⟨_,⟨o,I,h2⟩,_⟩
 .exact e.trans h
 .rw[show w.heap[b]?=_ from h]at I
  cases I
  cases h2
theorem jD.putObj{D:Nat}(h:jD W B t vs){o:Obj}(o':Obj)(I:W.heap[D]?=some o)(J:o.isCells=false):jD (W.putObj D o') B t vs:=by
 refine(bN ?_).trans h
 intro e
 subst e
 rw[show W.heap[B]?=_ from h]at I
 cases I
 cases J
theorem Rd.setN(h:Rd w A n c l){b:Nat}{t:WF}{vs:Array WE}(hb:jD w b t vs){i:Nat}{u:WE}(hi:vs[i]?=some u)(hu:∀x,u≠ .int .u32 x)(v:WE):Rd (w.setCell ⟨b,i,none⟩ v) A n c l:=
 ⟨h.len,h.le,h.cap,h.nil,fun k U=>by
  obtain⟨b',o,e,I⟩:=h.cells k U
  refine⟨b',o,e,(nS _ _ _ _ ?_).trans I⟩
  intro O
  simp only[Addr.mk.injEq,nR]at O
  obtain⟨rfl,J⟩:=O
  first|rw[<-J]at I|rw[J]at I
  rw[hb.cell,hi]at I
  exact hu _ (nO I)⟩
theorem zOf:(s&& !(val l==0))=decide (iv s l<0):=by
 unfold iv
 cases s
 .simp only[Bool.false_and,xK,xI]
  exact(xY oA).symm
 .simp only[Bool.true_and,cG]
  by_cases h:val l=0
  .simp[h]
  .rw[nJ.2 h]
   exact(lI oA).symm
theorem zOh(s:Bool)(l:List Nat):(iv s l).natAbs=val l:=by
 unfold iv
 cases s<;>simp
def zAJ(W:WB)(B:Nat)(v:Int):Prop:=∃A n c l,jD W B 142 #[.bool (decide (v<0)),.slice A n c]/\Is l v.natAbs/\Rd W A n c l
theorem zAJ.kept{v:Int}(h:zAJ W B v)(hb:Below W.heap.size W W'):zAJ W' B v:=by
 obtain⟨A,n,c,l,I,h2,h3⟩:=h
 exact⟨A,n,c,l,I.kept hb,h2,h3.below hb⟩
theorem zAJ.lt{v:Int}(h:zAJ W B v):B<W.heap.size:=by
 obtain⟨A,n,c,l,I,_⟩:=h
 exact I.lt
def q6(w:WB)(v:Int):Ending->WB->Prop:=fun e w'=>∃A n c l,e=.returned (.agg #[.bool (decide (v<0)),.slice A n c])/\Is l v.natAbs/\Rd w' A n c l/\Below w.heap.size w w'
theorem zCv(h:Below w.heap.size w w'):w.grownBy w' none:=⟨h.os,h.tape,h.output,h.size,fun k I _=>h.block k I⟩
theorem qF(w:WB)(a:Addr)(u:WE):w.grownBy (w.setCell a u) (some a.block):=
 ⟨rfl,rfl,rfl,(KeepsWalks.setCell w _ u).size,fun k _ I=>cV _ _ _ k (fun e=>I (by rw[e]))⟩
theorem zAY{I:WB}(h:Below B w w1)(U:w1.grownBy I (some b))(J:B<=w1.heap.size)(hb:B<=b):Below B w I:=h.grown U J fun k O=>by cases O;exact hb
theorem zD9(B:Nat)(s:Bool)(A:WG Addr)(n c:Nat)(l:List Nat)(w:WB)(hb:jD w B 142 #[.bool s,.slice A n c])(h:Rd w A n c l)(ht:Lt l)(hl:n<=1099511627776):
  Calls prog 144 #[.pointer (some ⟨B,0,none⟩)] w fun e w'=>e=.returned (.pointer (some ⟨B,0,none⟩))/\zAJ w' B (iv s l)/\w.grownBy w' (some B):=by
 have g0:w.cell? ⟨B,0,none⟩=some (.bool s):=hb.cell 0
 have g1:w.cell? ⟨B,1,none⟩=some (.slice A n c):=hb.cell 1
 go_enter func144,ntmps144
 go_wp2_with (go_at_call 124;refine(q9 _ _ _ _ _ h ht hl).mono ?_;rintro e w2 ⟨A2,n2,c2,l2,rfl,hi2,hr2,hb2⟩;have hbx:=hb.kept hb2;have g2:=hbx.cell 0;have g3:=hbx.cell 1;have g4:=hbx.frozen 0;have g5:=hbx.frozen 1;simp only[xO,List.getElem?_cons_zero,List.getElem?_cons_succ]at g2 g3)
 all_goals
  go_ret
  have hle:=hr2.len;have hz:=hi2.zero_iff
  have fin:∀x:Bool,x=decide (iv s l<0)->zAJ ((w2.setCell ⟨B,1,none⟩ (.slice A2 n2 c2)).setCell ⟨B,0,none⟩ (.bool x)) B (iv s l)/\w.grownBy ((w2.setCell ⟨B,1,none⟩ (.slice A2 n2 c2)).setCell ⟨B,0,none⟩ (.bool x)) (some B):=by
   rintro x rfl
   exact⟨⟨A2,n2,c2,l2,(hbx.set 1 _).set 0 _,by rw[zOh];exact hi2,(hr2.setN hbx (i:=1) rfl (fun _=>by simp) _).setN (hbx.set 1 _) (i:=0) rfl (fun _=>by simp) _⟩,
    ((zCv hb2).but (some B)).trans ((qF w2 ⟨B,1,none⟩ (.slice A2 n2 c2)).trans (qF _ ⟨B,0,none⟩ _))⟩
  refine⟨rfl,fin _ ?_⟩
  rw[<-zOf]
  simp_all
  try
   by_cases e:n2=0
   .rw[hz.2 e,e];rfl
   .rw[lI oA,nJ.2 (fun h=>e (hz.1 h))];rfl
theorem zFx(s:Bool)(A:WG Addr)(n c:Nat)(l:List Nat)(w:WB)(h:Rd w A n c l)(ht:Lt l)(hl:n<=1099511627776):
  Calls prog 125 #[.agg #[.bool s,.slice A n c]] w fun e w'=>∃B,e=.returned (.pointer (some ⟨B,0,none⟩))/\w.heap.size<=B/\zAJ w' B (iv s l)/\Below w.heap.size w w':=by
 go_enter func125,ntmps125
 go_wp2_with (go_at_call 144;refine(zD9 _ s A n c l _ (jD.at_ _ _ _ fE) ((h.alloc _).alloc _) ht hl).mono ?_;rintro e w1 ⟨rfl,hn,hg⟩)
 go_ret
 exact⟨_,rfl,by simp,hn,zAY (((xF _ w).alloc (vP _) _).alloc fE _) hg (by simp;omega) fE⟩
theorem jD.facts2(h:jD W B t #[x,y]):(W.cell? ⟨B,0,none⟩=some x/\W.cell? ⟨B,1,none⟩=some y)/\W.frozen? ⟨B,0,none⟩=false/\W.frozen? ⟨B,1,none⟩=false:=⟨⟨h.cell 0,h.cell 1⟩,h.frozen 0,h.frozen 1⟩
theorem zLL(hb:Below (W.alloc (.cells #[x,y] t)).heap.size (W.alloc (.cells #[x,y] t)) W')(e:b=W.heap.size):jD W' b t #[x,y]:=(jD.at_ W t #[x,y] e).kept hb
theorem zAJ.parts{v:Int}(h:zAJ W B v):∃A n c l,(W.cell? ⟨B,0,none⟩=some (.bool (decide (v<0)))/\W.cell? ⟨B,1,none⟩=some (.slice A n c))/\Is l v.natAbs/\Rd W A n c l:=by
 obtain⟨A,n,c,l,I,h2,h3⟩:=h
 exact⟨A,n,c,l,⟨I.cell 0,I.cell 1⟩,h2,h3⟩
theorem zIt{v:Int}{x0:Bool}{A0:WG Addr}{n0 c0:Nat}{I:WG Addr}{J c2:Nat}{O:List Nat}(hq:jD w1 b t #[.bool x0,.slice A0 n0 c0])(hb:Below w.heap.size w w1)(U:w.heap.size<=b)(hi:Is O v.natAbs)(hr:Rd w1 I J c2 O):
  q6 w v (.returned (.agg #[.bool (decide (v<0)),.slice I J c2])) ((w1.setCell ⟨b,0,none⟩ (.bool (decide (v<0)))).setCell ⟨b,1,none⟩ (.slice I J c2)):=
 ⟨I,J,c2,O,rfl,hi,(hr.setN hq (i:=0) rfl (fun _=>by simp) _).setN (hq.set 0 _) (i:=1) rfl (fun _=>by simp) _,(hb.setCell (p:=⟨b,0,none⟩) U _).setCell (p:=⟨b,1,none⟩) U _⟩
theorem zIi(s:Bool)(A:WG Addr)(n c:Nat)(l:List Nat)(w:WB)(h:Rd w A n c l)(ht:Lt l)(hl:n<=1099511627776):
  Calls prog 134 #[.agg #[.bool s,.slice A n c]] w (q6 w (iv s l)):=by
 go_enter func134,ntmps134
 go_wp2_with (go_at_call 125;refine(zFx s A n c l _ ((h.alloc _).alloc _) ht hl).mono ?_;rintro e w1 ⟨B,rfl,hB,hn,hb⟩;obtain⟨A2,n2,c2,l2,⟨g0,g1⟩,hi2,hr2⟩:=hn.parts;have hq:=zLL hb (b:=w.heap.size+1) fE;obtain⟨⟨q0,q1⟩,q2,q3⟩:=hq.facts2)
 obtain⟨⟨c0,c1⟩,_,_⟩:=((hq.set 0 (.bool (decide (iv s l<0)))).set 1 (.slice A2 n2 c2)).facts2
 exact nM (v:=.agg #[.bool (decide (iv s l<0)),.slice A2 n2 c2]) (by simp[results,results134,go_sem,c0,c1]) rfl<|zIt hq ((((xF _ w).alloc (vP _) _).alloc fE _).trans (hb.mono (by simp;omega))) fE hi2 hr2
theorem zRR(s:Bool)(l:List Nat):iv (!s) l= -iv s l:=by
 unfold iv
 cases s<;>simp
theorem zKr(s:Bool)(A:WG Addr)(n c:Nat)(l:List Nat)(w:WB)(h:Rd w A n c l)(ht:Lt l)(hl:n<=1099511627776):
  Calls prog 136 #[.agg #[.bool s,.slice A n c]] w (q6 w (-iv s l)):=by
 go_enter func136,ntmps136
 go_wp2_with (go_at_call 134;refine(zIi (!s) A n c l _ ((h.alloc _).alloc _) ht hl).mono ?_;rintro e w1 ⟨A2,n2,c2,l2,rfl,hi2,hr2,hb⟩;have hq:=zLL hb (b:=w.heap.size+1) fE;obtain⟨⟨q0,q1⟩,q2,q3⟩:=hq.facts2)
 obtain⟨⟨c0,c1⟩,_,_⟩:=((hq.set 0 (.bool (decide (iv (!s) l<0)))).set 1 (.slice A2 n2 c2)).facts2
 refine nM (v:=.agg #[.bool (decide (iv (!s) l<0)),.slice A2 n2 c2]) (by simp[results,results136,go_sem,c0,c1]) rfl ?_
 rw[<-zRR]
 exact zIt hq ((((xF _ w).alloc (vP _) _).alloc fE _).trans (hb.mono (by simp;omega))) fE hi2 hr2
theorem zPz(B:Nat)(v:Int)(w:WB)(h:zAJ w B v):
  Calls prog 141 #[.pointer (some ⟨B,0,none⟩)] w fun e w'=>e=.returned (.int .i64 v.sign)/\Below w.heap.size w w':=by
 obtain⟨A2,n2,c2,l2,hb,hi2,hr2⟩:=h
 have g0:=fun o=>(hb.alloc o).facts2.1.1
 have g1:=fun o=>(hb.alloc o).facts2.1.2
 have hz:=hi2.zero_iff
 have hlen:=hr2.len
 rw[hlen]at hz
 rcases nV v 0 with hv|rfl|hv
 .rw[lI hv]at g0
  have hn:(1:Int)<=n2:=by omega
  rw[nU hv]
  go_enter func141,ntmps141
  go_wp2
  all_goals
   first|done|(go_ret;exact⟨rfl,(xF _ w).alloc (vP _) _⟩)
 .obtain rfl:n2=0:=hz.1 rfl
  rw[xY oA]at g0
  go_enter func141,ntmps141
  go_wp2
  all_goals
   first|done|(go_ret;exact⟨rfl,(xF _ w).alloc (vP _) _⟩)
 .rw[xY oA]at g0
  rw[nW hv]
  rcases(by omega:n2=1∨1<n2)with rfl|hn
  all_goals
   go_enter func141,ntmps141
   go_wp2
   all_goals
    first|done|(go_ret;exact⟨rfl,(xF _ w).alloc (vP _) _⟩)
theorem zIh(s:Bool)(A:WG Addr)(n c:Nat)(l:List Nat)(w:WB)(h:Rd w A n c l)(ht:Lt l)(hl:n<=1099511627776):
  Calls prog 120 #[.agg #[.bool s,.slice A n c]] w fun e w'=>e=.returned (.int .i64 (iv s l).sign)/\Below w.heap.size w w':=by
 go_enter func120,ntmps120
 go_wp2_with (first|(go_at_call 125;refine(zFx s A n c l _ (h.alloc _) ht hl).mono ?_;rintro e w1 ⟨B,rfl,hB,hn,hb⟩)|(go_at_call 141;refine(zPz _ _ _ hn).mono ?_;rintro e w2 ⟨rfl,hb2⟩))
 go_ret
 have hb3:=((xF _ w).alloc (vP _) (.cells #[.bool s,.slice A n c] 26)).trans (hb.mono fE)
 exact⟨rfl,hb3.trans (hb2.mono hb3.size)⟩
theorem zPs(k:Nat)(hk2:k<=9223372036854775807)(w:WB):
  Calls prog 76 #[.int .i64 k] w (q6 w k):=by
 have hk0:(0:Int)<=k:=mW k
 go_enter func76,ntmps76
 go_wp2_with (go_at_call 100;refine(zK0 k oA _).mono ?_;rintro e w1 ⟨A2,n2,c2,l2,rfl,hi2,hr2,hb⟩;have hq:=zLL hb (b:=w.heap.size) rfl;obtain⟨⟨q0,q1⟩,q2,q3⟩:=hq.facts2)
 obtain⟨⟨c0,c1⟩,_,_⟩:=((hq.set 0 (.bool (decide ((k:Int)<0)))).set 1 (.slice A2 n2 c2)).facts2
 rw[show(Value.bool false)=.bool (decide ((k:Int)<0))from by rw[xY oA]]at*
 exact nM (v:=.agg #[.bool (decide ((k:Int)<0)),.slice A2 n2 c2]) (by simp[results,results76,go_sem,c0,c1]) rfl<|zIt hq (((xF _ w).alloc (vP _) _).trans (hb.mono fE)) fE hi2 hr2
theorem zPt(k:Nat)(hk0:0<k)(hk2:k<=9223372036854775808)(w:WB):
  Calls prog 76 #[.int .i64 (-(k:Int))] w (q6 w (-(k:Int))):=by
 have hk1:(-(k:Int))<0:=by omega
 have hww:IntKind.u64.wrap (-IntKind.u64.wrap (-(k:Int)))=(k:Int):=by
  simp only[IntKind.wrap,IntKind.bits,IntKind.signed];simp;omega
 go_enter func76,ntmps76
 go_wp2_with (go_at_call 100;refine(zK0 k oA _).mono ?_;rintro e w1 ⟨A2,n2,c2,l2,rfl,hi2,hr2,hb⟩;have hq:=zLL hb (b:=w.heap.size) rfl;obtain⟨⟨q0,q1⟩,q2,q3⟩:=hq.facts2)
 obtain⟨⟨c0,c1⟩,_,_⟩:=((hq.set 0 (.bool true)).set 1 (.slice A2 n2 c2)).facts2
 refine nM (v:=.agg #[.bool true,.slice A2 n2 c2]) (by simp[results,results76,go_sem,c0,c1]) rfl ?_
 have e1:decide (-(k:Int)<0)=true:=lI hk1
 have:=zIt (v:= -(k:Int)) hq (((xF _ w).alloc (vP _) _).trans (hb.mono fE)) fE (by simpa using hi2) hr2
 rw[e1]at this
 exact this
theorem zKq(k:Int)(hk: -9223372036854775808<=k)(hk2:k<=9223372036854775807)(w:WB):
  Calls prog 76 #[.int .i64 k] w (q6 w k):=by
 rcases(by omega:0<=k∨k<0)with h|h
 .obtain⟨m,rfl⟩:=lL h
  exact zPs m oA w
 .obtain⟨m,hm⟩:=lL (show 0<=-k by omega)
  obtain rfl:k= -(m:Int):=by omega
  exact zPt m oA oA w
attribute [local go_sem] Oper.semAt_some qL yG
theorem zPo(A:WG Addr)(n c:Nat)(l:List Nat)(A':WG Addr)(n' c':Nat)(l':List Nat)(w:WB)(h:Rd w A n c l)(h':Rd w A' n' c' l')(ht:Lt l)(ht':Lt l')(hge:val l<val l'):
  Calls prog 146 #[.slice A n c,.slice A' n' c'] w fun e w'=>e=.returned (.tuple #[.slice none 0 0,.int .i64 10])/\Below w.heap.size w w':=by
 have hcmp:decide (zAP (val l) (val l')<0)=true:=by
  unfold zAP
  rw[if_pos oA]
  rfl
 refine jC func146 rfl ?_
 simp only[ntmps146,bP,mQ,mR,Nat.reduceAdd,Nat.reduceSub,mS,mT,mU,mV,lJ,mO]
 go_wp2_with (go_at_call 152;refine(zF6 A n c l A' n' c' l' _ h h' ht ht').mono ?_;rintro e w1 ⟨rfl,rfl⟩)
 exact qH (B:=w.heap.size) w (fun w' _=>results_tmp2 rfl _ _ w') [] _ _ (Marks.nil _ _) (Oth.refl _ _) fun w' ho=>⟨rfl,zAj (xF _ w) ho (vP _)⟩
theorem zOV(A:WG Addr)(n c:Nat)(w:WB):
  Calls prog 126 #[.slice A n c] w fun e w'=>e=.returned (.func (.func 145) #[] #[.pointer (some ⟨w.heap.size,0,none⟩)])/\w'=w.alloc (.cells #[.slice A n c] 109):=by
 go_enter func126,ntmps126
 go_wp2
 go_ret
 exact⟨rfl,rfl⟩
structure IRdM(m:Nat)(w:World)(A:Option Addr)(n:Nat)(is:List (Bool×List Nat)):Prop where
 len:is.length=n
 cells:∀i,i<n->∃b o s Ai ni ci li,A=some ⟨b,o,none⟩/\w.cell? ⟨b,o+i*2,none⟩=some (.bool s)/\w.cell? ⟨b,o+i*2+1,none⟩=some (.slice Ai ni ci)/\is[i]?=some (s,li)/\Rd w Ai ni ci li/\Lt li/\ni<=m
theorem IRdM.keep(h:IRdM m w A n is)(J:∀p:Addr,p.block<w.heap.size->w'.cell? p=w.cell? p):IRdM m w' A n is:=
 ⟨h.len,fun i hi=>by
  obtain⟨b,o,s,Ai,ni,ci,li,e,O,I,U,h2,h3⟩:=h.cells i hi
  exact⟨b,o,s,Ai,ni,ci,li,e,(J _ (xJ w _ O)).trans O,(J _ (xJ w _ I)).trans I,U,h2.keep J,h3⟩⟩
theorem IRdM.below(h:IRdM m w A n is)(hb:Below w.heap.size w w'):IRdM m w' A n is:=h.keep fun _ I=>hb.cell I
abbrev IRd:=IRdM 1099511627776
def zEF(is:List (Bool×List Nat))(k:Nat):Int:=(is[k]?.map fun p=>iv p.1 p.2).getD 0
def zY6(N0:Nat)(is:List (Bool×List Nat))(k:Nat)(xs:Array WE)(W:WB):Prop:=∃B,xs=#[.pointer (some ⟨B,0,none⟩)]/\N0<=B/\zAJ W B (zEF is k)
def zF9(S:Nat->Prop)(A B:WB):Prop:=yZ S A B/\A.heap.size<=B.heap.size
theorem zF9.trans{A B C:WB}(h:zF9 S A B)(k:zF9 S B C):zF9 S A C:=⟨h.1.trans k.1,xQ h.2 k.2⟩
theorem zHH(J:∀b,S b->b<n)(W:WB)(l:Nat)(o o':Obj)(I:n<=l)(h1:W.heap[l]?=some o)(h2:o.isCells=false):zF9 S W (W.putObj l o'):=
 ⟨zDL J W l o o' I h1 h2,nX (eI ..).symm⟩
theorem zJd(A:WG Addr)(n c:Nat)(is:List (Bool×List Nat))(b1:Nat)(w w0:WB)(h:IRd w A n is)(hw0:Below w.heap.size w w0)(hn:n<=c)(hc:c<=9223372036854775807)
  (hc1:w0.cell? ⟨b1,0,none⟩=some (.slice A n c)){S:Nat->Prop}(hS:∀b,S b->b<w0.heap.size)(_hS1:S b1)(hSA:∀b,b<w.heap.size->S b):
  zRf prog 145 #[.pointer (some ⟨b1,0,none⟩)] (zY6 w0.heap.size is) n (zF9 S) Mk (fun _=>True) w0:=by
 intro lp J W hW hJ hY h0
 have hl1:=zZ hc1
 have hw1:=(hW.cell (p:=⟨b1,0,none⟩) hl1).trans hc1
 refine zBT func145 rfl ?_
 simp only[ntmps145,bP,mQ,mR,Nat.reduceAdd,Nat.reduceSub,mS,mT,mU,mV,lJ,mO]
 gi_wp2
 gi_loopw [7] (fun i wr=>∃k:Nat,k<=n/\i=.int .i64 k/\J k wr/\yZ S w0 wr/\w0.heap.size<=wr.heap.size) (fun i _=>n-(intOf i).toNat)
 case atStart=>exact⟨0,vR _,rfl,h0,wT hW hS,hW.size⟩
 case round=>
  obtain⟨k,hk,rfl,hj,hb,hz⟩:=hrel
  by_cases hkn:k<n
  .obtain⟨b,o,s,Ai,ni,ci,li,rfl,p1,p2,hi,hr,hli,hni⟩:=(h.keep (w':=wr) fun p hp=>(hb.cell (hSA _ hp)).trans (hw0.cell hp)).cells k hkn
   have hid1:zEF is k=iv s li:=by simp[zEF,hi]
   have hjk:=hJ k wr
   gi_wp2_with (first|(gi_at_call 125;refine bG (xZ.2 (zFx s Ai ni ci li _ (hr.alloc _) hli hni)) ?_;rintro e w2 ⟨B2,rfl,hB2,hn2,hb2⟩;have hmk:Mk wr w2:=((xF _ wr).alloc (vP _) _).trans (hb2.mono fE);obtain⟨fn,tmps,assign,body,hy,hR⟩:=hY k w2 #[.pointer (some ⟨B2,0,none⟩)] hkn (hjk _ hj hmk) ⟨B2,rfl,xQ hz (xQ fE hB2),by rw[hid1];exact hn2⟩)|(refine hR.mono ?_;rintro e W3 ⟨rfl,hJ3,hk3⟩))
   refine⟨⟨k+1,by omega,rfl,hJ3,(hb.trans (wT hmk fun b hb=>vU (hS b hb) hz)).trans hk3.1,xQ hz (xQ hmk.size hk3.2)⟩,?_⟩
   simp[intOf]
   omega
  .obtain rfl:k=n:=by omega
   gi_wp2
   go_end0
   exact⟨⟨_,rfl⟩,hj,trivial⟩
attribute [local go_sem] Oper.semAt_some qL yG
theorem zIQ(B B':Nat)(v v':Int)(k:Nat)(w:WB)(h:zAJ w B v)(h':zAJ w B' v')(_hne:B'≠B)(hv:v.natAbs<BB^k)(hv':v'.natAbs<BB^k)(hk:k<=1000000)(hs:decide (v<0)=decide (v'<0)):
  Calls prog 127 #[.pointer (some ⟨B,0,none⟩),.pointer (some ⟨B',0,none⟩)] w fun e w'=>(∃u,e=.returned u)/\zAJ w' B (v+v')/\w.grownBy w' (some B):=by
 obtain⟨A,n,c,l,hb,hi,hr⟩:=h
 obtain⟨A',n',c',l',hb',hi',hr'⟩:=h'
 have hn:n<=k:=by rw[<-hr.len];exact hi.len hv
 have hn':n'<=k:=by rw[<-hr'.len];exact hi'.len hv'
 obtain⟨⟨g0,g1⟩,g2,g3⟩:=hb.facts2
 obtain⟨⟨k0,k1⟩,k2,k3⟩:=hb'.facts2
 go_enter func127,ntmps127
 have hmix:prog.follows .mixedOrders=true:=by kernel_rfl
 .go_wp2_with (first|go_region|fail)
  refine(bL (n:=0)).1<|yC 16 (fun W=>(W.cell? ⟨B,0,none⟩=some (.bool (decide (v<0)))/\W.cell? ⟨B,1,none⟩=some (.slice A n c))/\W.cell? ⟨B',0,none⟩=some (.bool (decide (v'<0)))/\W.cell? ⟨B',1,none⟩=some (.slice A' n' c')) hmix ?_
  have d1:=And.intro (And.intro g0 g1) (And.intro k0 k1)
  refine zP (i:=0) (v:=?vv1) kA kA rfl kA kA kA fD d1 ⟨.inl ⟨rfl,?yy1⟩,fun _=>rfl⟩ ?_
  case yy1=>
   rintro wx ⟨⟨q1,q2⟩,q3,q4⟩
   go_simp
   first|done|rfl
  refine zP (i:=1) (v:=?vv2) kA kA rfl kA kA kA fD d1 ⟨.inl ⟨rfl,?yy2⟩,fun _=>rfl⟩ ?_
  case yy2=>
   rintro wx ⟨⟨q1,q2⟩,q3,q4⟩
   go_simp
   first|done|rfl
  refine zP (i:=2) (v:=?vv3) kA kA rfl kA kA kA fD d1 ⟨.inl ⟨rfl,?yy3⟩,fun _=>rfl⟩ ?_
  case yy3=>
   rintro wx ⟨⟨q1,q2⟩,q3,q4⟩
   go_simp
   first|done|rfl
  refine zP (i:=3) (v:=?vv4) kA kA rfl kA kA kA fD d1 ⟨.inl ⟨rfl,?yy4⟩,fun _=>rfl⟩ ?_
  case yy4=>
   rintro wx ⟨⟨q1,q2⟩,q3,q4⟩
   go_simp
   first|done|rfl
  refine zP (i:=4) (v:=?vv5) kA kA rfl kA kA kA fD d1 ⟨.inl ⟨rfl,?yy5⟩,fun _=>rfl⟩ ?_
  case yy5=>
   rintro wx ⟨⟨q1,q2⟩,q3,q4⟩
   go_simp
   first|done|rfl
  refine zP (i:=5) (v:=?vv6) kA kA rfl kA kA kA fD d1 ⟨.inl ⟨rfl,?yy6⟩,fun _=>rfl⟩ ?_
  case yy6=>
   rintro wx ⟨⟨q1,q2⟩,q3,q4⟩
   go_simp
   first|done|rfl
  refine zP (i:=6) (v:=?vv7) kA kA rfl kA kA kA fD d1 ⟨.inl ⟨rfl,?yy7⟩,fun _=>rfl⟩ ?_
  case yy7=>
   rintro wx ⟨⟨q1,q2⟩,q3,q4⟩
   go_simp
   first|done|rfl
  refine zP (i:=7) (v:=?vv8) kA kA rfl kA kA kA fD d1 ⟨.inl ⟨rfl,?yy8⟩,fun _=>rfl⟩ ?_
  case yy8=>
   rintro wx ⟨⟨q1,q2⟩,q3,q4⟩
   go_simp
   first|done|rfl
  refine zP (i:=8) (v:=?vv9) kA kA rfl kA kA kA fD d1 ⟨.inl ⟨rfl,?yy9⟩,fun _=>rfl⟩ ?_
  case yy9=>
   rintro wx ⟨⟨q1,q2⟩,q3,q4⟩
   go_simp
   first|done|rfl
  refine zP (i:=9) (v:=?vv10) kA kA rfl kA kA kA fD d1 ⟨.inl ⟨rfl,?yy10⟩,fun _=>rfl⟩ ?_
  case yy10=>
   rintro wx ⟨⟨q1,q2⟩,q3,q4⟩
   go_simp
   first|done|rfl
  refine zP (i:=10) (v:=?vv11) kA kA rfl kA kA kA fD d1 ⟨.inl ⟨rfl,?yy11⟩,fun _=>rfl⟩ ?_
  case yy11=>
   rintro wx ⟨⟨q1,q2⟩,q3,q4⟩
   go_simp
   first|done|rfl
  refine zAN (i:=11) kA rfl (fun K hK=>?_)
  go_simp
  have hW1:Below w.heap.size w (w.alloc (.cells #[.slice A n c,.slice A' n' c'] 24)).drew.drew:=(((xF _ w).alloc (vP _) _).drew).drew
  have hds:Rds (w.alloc (.cells #[.slice A n c,.slice A' n' c'] 24)).drew.drew (some ⟨w.heap.size,0,none⟩) 2 [l,l']:=(Rds.two hr hi.lt oA hr' hi'.lt oA 24).below (((xF _ _).drew).drew)
  generalize hW:(w.alloc (.cells #[.slice A n c,.slice A' n' c'] 24)).drew.drew=W1 at*
  have hb1:=hb.kept hW1;have hb1':=hb'.kept hW1
  refine hK _ _ (.inr ⟨hb1.facts2.1,hb1'.facts2.1⟩) ?_
  clear hK K
  refine zAN (i:=12) kA rfl (fun K hK=>?_)
  go_simp
  refine bG (xZ.2 (zOW _ 2 2 _ W1 hds oA)) ?_
  rintro e w2 ⟨A2,n2,c2,l2,rfl,hi2,hr2,hb2⟩
  have hB2:Below w.heap.size w w2:=hW1.trans (hb2.mono hW1.size)
  have hb3:=hb.kept hB2;have hb3':=hb'.kept hB2
  obtain⟨⟨m0,m1⟩,m2,m3⟩:=hb3.facts2
  have d3:=And.intro hb3.facts2.1 hb3'.facts2.1
  refine hK _ _ (.inr ⟨hb3.facts2.1,hb3'.facts2.1⟩) ?_
  clear hK K
  refine zAN (i:=13) kA rfl (fun K hK=>?_)
  go_simp
  refine hK _ _ (.inr d3) ?_
  clear hK K
  refine zAN (i:=14) kA rfl (fun K hK=>?_)
  go_simp
  refine hK _ _ (.inr d3) ?_
  clear hK K
  refine zAN (i:=15) kA rfl (fun K hK=>?_)
  go_simp
  refine hK _ _ (.inr d3) ?_
  clear hK K
  refine zAN (i:=16) kA rfl (fun K hK=>?_)
  go_simp
  refine hK _ _ (.inl rfl) ?_
  clear hK K
  refine zCR kA ?_
  have hv2:iv (decide (v<0)) l2=v+v':=by
   unfold iv
   rw[hi2.val]
   simp only[xX,bV,nI,nP,hi.val,hi'.val]
   by_cases h0:v<0
   .have h1:v'<0:=by rw[lI h0]at hs;exact xW hs.symm
    rw[lI h0]
    simp only[cG]
    omega
   .have h1: ¬v'<0:=by rw[xY h0]at hs;exact nH hs.symm
    rw[xY h0]
    simp only[xK,xI]
    omega
  have hn2:n2<=k+1:=by
   rw[<-hr2.len]
   refine hi2.len ?_
   simp only[xX,bV,nI,nP,hi.val,hi'.val,vY]
   unfold BB at*
   omega
  go_wp2_with (go_at_call 144;refine(zD9 B _ A2 n2 c2 l2 _ (hb3.set 1 _) (hr2.setN hb3 (i:=1) rfl (fun _=>by simp) _) hi2.lt oA).mono ?_;rintro e w4 ⟨rfl,hn4,hg4⟩)
  refine nM (results_none rfl _ _ _) rfl ⟨⟨_,rfl⟩,by rw[hv2]at hn4;exact hn4,((zCv hB2).but (some B)).trans ((qF w2 ⟨B,1,none⟩ _).trans hg4)⟩
attribute [local go_sem] Oper.semAt_some qL yG
theorem zLZ(B B':Nat)(v v':Int)(k:Nat)(w:WB)(h:zAJ w B v)(h':zAJ w B' v')(_hne:B'≠B)(hv:v.natAbs<BB^k)(hv':v'.natAbs<BB^k)(hk:k<=1000000)(hs:(decide (v<0)==decide (v'<0))=false)(hlt:v'.natAbs<=v.natAbs):
  Calls prog 127 #[.pointer (some ⟨B,0,none⟩),.pointer (some ⟨B',0,none⟩)] w fun e w'=>(∃u,e=.returned u)/\zAJ w' B (v+v')/\w.grownBy w' (some B):=by
 obtain⟨A,n,c,l,hb,hi,hr⟩:=h
 obtain⟨A',n',c',l',hb',hi',hr'⟩:=h'
 have hn:n<=k:=by rw[<-hr.len];exact hi.len hv
 have hn':n'<=k:=by rw[<-hr'.len];exact hi'.len hv'
 obtain⟨⟨g0,g1⟩,g2,g3⟩:=hb.facts2
 obtain⟨⟨k0,k1⟩,k2,k3⟩:=hb'.facts2
 have hmix:prog.follows .mixedOrders=true:=by kernel_rfl
 go_enter func127,ntmps127
 go_wp2_with (first|go_region|fail)
 have d1:=And.intro (And.intro g0 g1) (And.intro k0 k1)
 refine(bL (n:=0)).1<|yC 100 (fun W=>(W.cell? ⟨B,0,none⟩=some (.bool (decide (v<0)))/\W.cell? ⟨B,1,none⟩=some (.slice A n c))/\W.cell? ⟨B',0,none⟩=some (.bool (decide (v'<0)))/\W.cell? ⟨B',1,none⟩=some (.slice A' n' c')) hmix<|zP (i:=0) (v:=?vv1) kA kA rfl kA kA kA fD d1 ⟨.inl ⟨rfl,?yy1⟩,fun _=>rfl⟩ ?_
 case yy1=>
  rintro wx ⟨⟨q1,q2⟩,q3,q4⟩
  go_simp
  first|done|rfl
 refine zP (i:=1) (v:=?vv2) kA kA rfl kA kA kA fD d1 ⟨.inl ⟨rfl,?yy2⟩,fun _=>rfl⟩ ?_
 case yy2=>
  rintro wx ⟨⟨q1,q2⟩,q3,q4⟩
  go_simp
  first|done|rfl
 refine zP (i:=2) (v:=?vv3) kA kA rfl kA kA kA fD d1 ⟨.inl ⟨rfl,?yy3⟩,fun _=>rfl⟩ ?_
 case yy3=>
  rintro wx ⟨⟨q1,q2⟩,q3,q4⟩
  go_simp
  first|done|rfl
 refine zP (i:=3) (v:=?vv4) kA kA rfl kA kA kA fD d1 ⟨.inl ⟨rfl,?yy4⟩,fun _=>rfl⟩ ?_
 case yy4=>
  rintro wx ⟨⟨q1,q2⟩,q3,q4⟩
  go_simp
  first|done|rfl
 refine zP (i:=4) (v:=?vv5) kA kA rfl kA kA kA fD d1 ⟨.inl ⟨rfl,?yy5⟩,fun _=>rfl⟩ ?_
 case yy5=>
  rintro wx ⟨⟨q1,q2⟩,q3,q4⟩
  go_simp
  first|done|rfl
 refine zP (i:=5) (v:=?vv6) kA kA rfl kA kA kA fD d1 ⟨.inl ⟨rfl,?yy6⟩,fun _=>rfl⟩ ?_
 case yy6=>
  rintro wx ⟨⟨q1,q2⟩,q3,q4⟩
  go_simp
  first|done|rfl
 refine zP (i:=6) (v:=?vv7) kA kA rfl kA kA kA fD d1 ⟨.inl ⟨rfl,?yy7⟩,fun _=>rfl⟩ ?_
 case yy7=>
  rintro wx ⟨⟨q1,q2⟩,q3,q4⟩
  go_simp
  first|done|rfl
 refine zP (i:=7) (v:=?vv8) kA kA rfl kA kA kA fD d1 ⟨.inl ⟨rfl,?yy8⟩,fun _=>rfl⟩ ?_
 case yy8=>
  rintro wx ⟨⟨q1,q2⟩,q3,q4⟩
  go_simp
  first|done|rfl
 refine zP (i:=8) (v:=?vv9) kA kA rfl kA kA kA fD d1 ⟨.inl ⟨rfl,?yy9⟩,fun _=>rfl⟩ ?_
 case yy9=>
  rintro wx ⟨⟨q1,q2⟩,q3,q4⟩
  go_simp
  first|done|rfl
 refine zP (i:=9) (v:=?vv10) kA kA rfl kA kA kA fD d1 ⟨.inl ⟨rfl,?yy10⟩,fun _=>rfl⟩ ?_
 case yy10=>
  rintro wx ⟨⟨q1,q2⟩,q3,q4⟩
  go_simp
  first|done|rfl
 refine zAN (i:=10) kA rfl (fun K hK=>?_)
 go_simp
 refine bG (xZ.2 (zJs A n c l A' n' c' l' _ (hr.below (((xF _ w).drew).drew)) (hr'.below (((xF _ w).drew).drew)) hi.lt hi'.lt (by rw[hi.val,hi'.val];exact hlt) oA oA)) ?_
 rintro e w2 ⟨A2,n2,c2,l2,rfl,hi2,hr2,hb2⟩
 have hB2:Below w.heap.size w w2:=(((xF _ w).drew).drew).trans hb2
 have hb3:=hb.kept hB2;have hb3':=hb'.kept hB2
 obtain⟨⟨m0,m1⟩,m2,m3⟩:=hb3.facts2
 obtain⟨⟨p0,p1⟩,p2,p3⟩:=hb3'.facts2
 have d3:=And.intro hb3.facts2.1 hb3'.facts2.1
 refine hK _ _ (.inr d3) ?_
 clear hK K
 refine zAN (i:=11) kA rfl (fun K hK=>?_)
 go_simp
 refine hK _ _ (.inr d3) ?_
 clear hK K
 refine zP (i:=12) (v:=?vv11) kA kA rfl kA kA kA fD d3 ⟨.inl ⟨rfl,?yy11⟩,fun _=>rfl⟩ ?_
 case yy11=>
  rintro wx ⟨⟨q1,q2⟩,q3,q4⟩
  go_simp
  first|done|rfl
 refine zP (i:=13) (v:=?vv12) kA kA rfl kA kA kA fD d3 ⟨.inl ⟨rfl,?yy12⟩,fun _=>rfl⟩ ?_
 case yy12=>
  rintro wx ⟨⟨q1,q2⟩,q3,q4⟩
  go_simp
  first|done|rfl
 refine zP (i:=14) (v:=?vv13) kA kA rfl kA kA kA fD d3 ⟨.inl ⟨rfl,?yy13⟩,fun _=>rfl⟩ ?_
 case yy13=>
  rintro wx ⟨⟨q1,q2⟩,q3,q4⟩
  go_simp
  first|done|rfl
 refine zP (i:=15) (v:=?vv14) kA kA rfl kA kA kA fD d3 ⟨.inl ⟨rfl,?yy14⟩,fun _=>rfl⟩ ?_
 case yy14=>
  rintro wx ⟨⟨q1,q2⟩,q3,q4⟩
  go_simp
  first|done|rfl
 refine zCR kA ?_
 have hv2:iv (decide (v<0)) l2=v+v':=by
  unfold iv
  rw[hi2.val,hi.val,hi'.val]
  have hs':=nJ.1 hs
  by_cases h0:v<0
  .have h1: ¬v'<0:=fun h1=>hs' (by rw[lI h0,lI h1])
   rw[lI h0]
   simp only[cG]
   omega
  .have h1:v'<0:=Decidable.byContradiction fun h1=>hs' (by rw[xY h0,xY h1])
   rw[xY h0]
   simp only[xK,xI]
   omega
 have hn2:n2<=k:=by
  rw[<-hr2.len]
  exact hi2.len (nF (nT _ _) (by rw[hi.val];exact hv))
 go_wp2_with (go_at_call 144;refine(zD9 B _ A2 n2 c2 l2 _ (hb3.set 1 _) (hr2.setN hb3 (i:=1) rfl (fun _=>by simp) _) hi2.lt oA).mono ?_;rintro e w4 ⟨rfl,hn4,hg4⟩)
 go_end0
 exact⟨⟨_,rfl⟩,by rw[hv2]at hn4;exact hn4,((zCv hB2).but (some B)).trans ((qF w2 ⟨B,1,none⟩ _).trans hg4)⟩
theorem zLY(B B':Nat)(v v':Int)(k:Nat)(w:WB)(h:zAJ w B v)(h':zAJ w B' v')(_hne:B'≠B)(hv:v.natAbs<BB^k)(hv':v'.natAbs<BB^k)(hk:k<=1000000)(hs:(decide (v<0)==decide (v'<0))=false)(hlt:v.natAbs<v'.natAbs):
  Calls prog 127 #[.pointer (some ⟨B,0,none⟩),.pointer (some ⟨B',0,none⟩)] w fun e w'=>(∃u,e=.returned u)/\zAJ w' B (v+v')/\w.grownBy w' (some B):=by
 obtain⟨A,n,c,l,hb,hi,hr⟩:=h
 obtain⟨A',n',c',l',hb',hi',hr'⟩:=h'
 have hn:n<=k:=by rw[<-hr.len];exact hi.len hv
 have hn':n'<=k:=by rw[<-hr'.len];exact hi'.len hv'
 obtain⟨⟨g0,g1⟩,g2,g3⟩:=hb.facts2
 obtain⟨⟨k0,k1⟩,k2,k3⟩:=hb'.facts2
 have hmix:prog.follows .mixedOrders=true:=by kernel_rfl
 go_enter func127,ntmps127
 go_wp2_with (first|go_region|fail)
 have d1:=And.intro (And.intro g0 g1) (And.intro k0 k1)
 refine(bL (n:=0)).1<|yC 100 (fun W=>(W.cell? ⟨B,0,none⟩=some (.bool (decide (v<0)))/\W.cell? ⟨B,1,none⟩=some (.slice A n c))/\W.cell? ⟨B',0,none⟩=some (.bool (decide (v'<0)))/\W.cell? ⟨B',1,none⟩=some (.slice A' n' c')) hmix<|zP (i:=0) (v:=?vv15) kA kA rfl kA kA kA fD d1 ⟨.inl ⟨rfl,?yy15⟩,fun _=>rfl⟩ ?_
 case yy15=>
  rintro wx ⟨⟨q1,q2⟩,q3,q4⟩
  go_simp
  first|done|rfl
 refine zP (i:=1) (v:=?vv16) kA kA rfl kA kA kA fD d1 ⟨.inl ⟨rfl,?yy16⟩,fun _=>rfl⟩ ?_
 case yy16=>
  rintro wx ⟨⟨q1,q2⟩,q3,q4⟩
  go_simp
  first|done|rfl
 refine zP (i:=2) (v:=?vv17) kA kA rfl kA kA kA fD d1 ⟨.inl ⟨rfl,?yy17⟩,fun _=>rfl⟩ ?_
 case yy17=>
  rintro wx ⟨⟨q1,q2⟩,q3,q4⟩
  go_simp
  first|done|rfl
 refine zP (i:=3) (v:=?vv18) kA kA rfl kA kA kA fD d1 ⟨.inl ⟨rfl,?yy18⟩,fun _=>rfl⟩ ?_
 case yy18=>
  rintro wx ⟨⟨q1,q2⟩,q3,q4⟩
  go_simp
  first|done|rfl
 refine zP (i:=4) (v:=?vv19) kA kA rfl kA kA kA fD d1 ⟨.inl ⟨rfl,?yy19⟩,fun _=>rfl⟩ ?_
 case yy19=>
  rintro wx ⟨⟨q1,q2⟩,q3,q4⟩
  go_simp
  first|done|rfl
 refine zP (i:=5) (v:=?vv20) kA kA rfl kA kA kA fD d1 ⟨.inl ⟨rfl,?yy20⟩,fun _=>rfl⟩ ?_
 case yy20=>
  rintro wx ⟨⟨q1,q2⟩,q3,q4⟩
  go_simp
  first|done|rfl
 refine zP (i:=6) (v:=?vv21) kA kA rfl kA kA kA fD d1 ⟨.inl ⟨rfl,?yy21⟩,fun _=>rfl⟩ ?_
 case yy21=>
  rintro wx ⟨⟨q1,q2⟩,q3,q4⟩
  go_simp
  first|done|rfl
 refine zP (i:=7) (v:=?vv22) kA kA rfl kA kA kA fD d1 ⟨.inl ⟨rfl,?yy22⟩,fun _=>rfl⟩ ?_
 case yy22=>
  rintro wx ⟨⟨q1,q2⟩,q3,q4⟩
  go_simp
  first|done|rfl
 refine zP (i:=8) (v:=?vv23) kA kA rfl kA kA kA fD d1 ⟨.inl ⟨rfl,?yy23⟩,fun _=>rfl⟩ ?_
 case yy23=>
  rintro wx ⟨⟨q1,q2⟩,q3,q4⟩
  go_simp
  first|done|rfl
 refine zP (i:=9) (v:=?vv24) kA kA rfl kA kA kA fD d1 ⟨.inl ⟨rfl,?yy24⟩,fun _=>rfl⟩ ?_
 case yy24=>
  rintro wx ⟨⟨q1,q2⟩,q3,q4⟩
  go_simp
  first|done|rfl
 refine zAN (i:=10) kA rfl (fun K hK=>?_)
 go_simp
 refine bG (xZ.2 (zPo A n c l A' n' c' l' _ (hr.below (((xF _ w).drew).drew)) (hr'.below (((xF _ w).drew).drew)) hi.lt hi'.lt (by rw[hi.val,hi'.val];exact hlt))) ?_
 rintro e w2 ⟨rfl,hb2⟩
 have hB2:Below w.heap.size w w2:=(((xF _ w).drew).drew).trans hb2
 have hb3:=hb.kept hB2;have hb3':=hb'.kept hB2
 obtain⟨⟨m0,m1⟩,m2,m3⟩:=hb3.facts2
 obtain⟨⟨p0,p1⟩,p2,p3⟩:=hb3'.facts2
 have d3:=And.intro hb3.facts2.1 hb3'.facts2.1
 refine hK _ _ (.inr d3) ?_
 clear hK K
 refine zAN (i:=11) kA rfl (fun K hK=>?_)
 go_simp
 refine hK _ _ (.inr d3) ?_
 clear hK K
 refine zP (i:=12) (v:=?vv25) kA kA rfl kA kA kA fD d3 ⟨.inl ⟨rfl,?yy25⟩,fun _=>rfl⟩ ?_
 case yy25=>
  rintro wx ⟨⟨q1,q2⟩,q3,q4⟩
  go_simp
  first|done|rfl
 refine zP (i:=13) (v:=?vv26) kA kA rfl kA kA kA fD d3 ⟨.inl ⟨rfl,?yy26⟩,fun _=>rfl⟩ ?_
 case yy26=>
  rintro wx ⟨⟨q1,q2⟩,q3,q4⟩
  go_simp
  first|done|rfl
 refine zP (i:=14) (v:=?vv27) kA kA rfl kA kA kA fD d3 ⟨.inl ⟨rfl,?yy27⟩,fun _=>rfl⟩ ?_
 case yy27=>
  rintro wx ⟨⟨q1,q2⟩,q3,q4⟩
  go_simp
  first|done|rfl
 refine zP (i:=15) (v:=?vv28) kA kA rfl kA kA kA fD d3 ⟨.inl ⟨rfl,?yy28⟩,fun _=>rfl⟩ ?_
 case yy28=>
  rintro wx ⟨⟨q1,q2⟩,q3,q4⟩
  go_simp
  first|done|rfl
 refine zCR kA ?_
 go_wp2
 refine(bL (n:=0)).1<|yC 100 (fun W=>(W.cell? ⟨B,0,none⟩=some (.bool (decide (v<0)))/\W.cell? ⟨B,1,none⟩=some (.slice A n c))/\W.cell? ⟨B',0,none⟩=some (.bool (decide (v'<0)))/\W.cell? ⟨B',1,none⟩=some (.slice A' n' c')) hmix<|zP (i:=0) (v:=?vv29) kA kA rfl kA kA kA fD d3 ⟨.inl ⟨rfl,?yy29⟩,fun _=>rfl⟩ ?_
 case yy29=>
  rintro wx ⟨⟨q1,q2⟩,q3,q4⟩
  go_simp
  first|done|rfl
 refine zP (i:=1) (v:=?vv30) kA kA rfl kA kA kA fD d3 ⟨.inl ⟨rfl,?yy30⟩,fun _=>rfl⟩ ?_
 case yy30=>
  rintro wx ⟨⟨q1,q2⟩,q3,q4⟩
  go_simp
  first|done|rfl
 refine zP (i:=2) (v:=?vv31) kA kA rfl kA kA kA fD d3 ⟨.inl ⟨rfl,?yy31⟩,fun _=>rfl⟩ ?_
 case yy31=>
  rintro wx ⟨⟨q1,q2⟩,q3,q4⟩
  go_simp
  first|done|rfl
 refine zP (i:=3) (v:=?vv32) kA kA rfl kA kA kA fD d3 ⟨.inl ⟨rfl,?yy32⟩,fun _=>rfl⟩ ?_
 case yy32=>
  rintro wx ⟨⟨q1,q2⟩,q3,q4⟩
  go_simp
  first|done|rfl
 refine zP (i:=4) (v:=?vv33) kA kA rfl kA kA kA fD d3 ⟨.inl ⟨rfl,?yy33⟩,fun _=>rfl⟩ ?_
 case yy33=>
  rintro wx ⟨⟨q1,q2⟩,q3,q4⟩
  go_simp
  first|done|rfl
 refine zP (i:=5) (v:=?vv34) kA kA rfl kA kA kA fD d3 ⟨.inl ⟨rfl,?yy34⟩,fun _=>rfl⟩ ?_
 case yy34=>
  rintro wx ⟨⟨q1,q2⟩,q3,q4⟩
  go_simp
  first|done|rfl
 refine zP (i:=6) (v:=?vv35) kA kA rfl kA kA kA fD d3 ⟨.inl ⟨rfl,?yy35⟩,fun _=>rfl⟩ ?_
 case yy35=>
  rintro wx ⟨⟨q1,q2⟩,q3,q4⟩
  go_simp
  first|done|rfl
 refine zP (i:=7) (v:=?vv36) kA kA rfl kA kA kA fD d3 ⟨.inl ⟨rfl,?yy36⟩,fun _=>rfl⟩ ?_
 case yy36=>
  rintro wx ⟨⟨q1,q2⟩,q3,q4⟩
  go_simp
  first|done|rfl
 refine zP (i:=8) (v:=?vv37) kA kA rfl kA kA kA fD d3 ⟨.inl ⟨rfl,?yy37⟩,fun _=>rfl⟩ ?_
 case yy37=>
  rintro wx ⟨⟨q1,q2⟩,q3,q4⟩
  go_simp
  first|done|rfl
 refine zP (i:=9) (v:=?vv38) kA kA rfl kA kA kA fD d3 ⟨.inl ⟨rfl,?yy38⟩,fun _=>rfl⟩ ?_
 case yy38=>
  rintro wx ⟨⟨q1,q2⟩,q3,q4⟩
  go_simp
  first|done|rfl
 refine zAN (i:=10) kA rfl (fun K hK=>?_)
 go_simp
 have hB2d:=hB2.drew
 refine bG (xZ.2 (zJs A' n' c' l' A n c l _ (hr'.below hB2d) (hr.below hB2d) hi'.lt hi.lt (by rw[hi.val,hi'.val];omega) oA oA)) ?_
 rintro e w3 ⟨A2,n2,c2,l2,rfl,hi2,hr2,hb4⟩
 have hB3:Below w.heap.size w w3:=hB2d.trans (hb4.mono hB2d.size)
 have hb5:=hb.kept hB3;have hb5':=hb'.kept hB3
 obtain⟨⟨s0,s1⟩,s2,s3⟩:=hb5.facts2
 obtain⟨⟨t0,t1⟩,t2,t3⟩:=hb5'.facts2
 have d5:=And.intro hb5.facts2.1 hb5'.facts2.1
 refine hK _ _ (.inr d5) ?_
 clear hK K
 refine zAN (i:=11) kA rfl (fun K hK=>?_)
 go_simp
 refine hK _ _ (.inr d5) ?_
 clear hK K
 refine zP (i:=12) (v:=?vv39) kA kA rfl kA kA kA fD d5 ⟨.inl ⟨rfl,?yy39⟩,fun _=>rfl⟩ ?_
 case yy39=>
  rintro wx ⟨⟨q1,q2⟩,q3,q4⟩
  go_simp
  first|done|rfl
 refine zP (i:=13) (v:=?vv40) kA kA rfl kA kA kA fD d5 ⟨.inl ⟨rfl,?yy40⟩,fun _=>rfl⟩ ?_
 case yy40=>
  rintro wx ⟨⟨q1,q2⟩,q3,q4⟩
  go_simp
  first|done|rfl
 refine zP (i:=14) (v:=?vv41) kA kA rfl kA kA kA fD d5 ⟨.inl ⟨rfl,?yy41⟩,fun _=>rfl⟩ ?_
 case yy41=>
  rintro wx ⟨⟨q1,q2⟩,q3,q4⟩
  go_simp
  first|done|rfl
 refine zCR kA ?_
 have hv2:iv (decide (v'<0)) l2=v+v':=by
  unfold iv
  rw[hi2.val,hi.val,hi'.val]
  have hs':=nJ.1 hs
  by_cases h0:v<0
  .have h1: ¬v'<0:=fun h1=>hs' (by rw[lI h0,lI h1])
   rw[xY h1]
   simp only[xK,xI]
   omega
  .have h1:v'<0:=Decidable.byContradiction fun h1=>hs' (by rw[xY h0,xY h1])
   rw[lI h1]
   simp only[cG]
   omega
 have hn2:n2<=k:=by
  rw[<-hr2.len]
  exact hi2.len (nF (nT _ _) (by rw[hi'.val];exact hv'))
 go_wp2_with (go_at_call 144;refine(zD9 B _ A2 n2 c2 l2 _ ((hb5.set 0 _).set 1 _) ((hr2.setN hb5 (i:=0) rfl (fun _=>by simp) _).setN (hb5.set 0 _) (i:=1) rfl (fun _=>by simp) _) hi2.lt oA).mono ?_;rintro e w4 ⟨rfl,hn4,hg4⟩)
 go_end0
 exact⟨⟨_,rfl⟩,by rw[hv2]at hn4;exact hn4,((zCv hB3).but (some B)).trans ((qF w3 ⟨B,0,none⟩ _).trans ((qF _ ⟨B,1,none⟩ _).trans hg4))⟩
attribute [local go_sem] Oper.semAt_some qL yG
theorem num_add(B B':Nat)(v v':Int)(k:Nat)(w:WB)(h:zAJ w B v)(U:zAJ w B' v')(J:B'≠B)(hv:v.natAbs<BB^k)(I:v'.natAbs<BB^k)(hk:k<=1000000):
  Calls prog 127 #[.pointer (some ⟨B,0,none⟩),.pointer (some ⟨B',0,none⟩)] w fun e w'=>(∃u,e=.returned u)/\zAJ w' B (v+v')/\w.grownBy w' (some B):=by
 by_cases hs:decide (v<0)=decide (v'<0)
 .exact zIQ B B' v v' k w h U J hv I hk hs
 .have O:=nJ.2 hs
  by_cases hlt:v'.natAbs<=v.natAbs
  .exact zLZ B B' v v' k w h U J hv I hk O hlt
  .exact zLY B B' v v' k w h U J hv I hk O oA
theorem zGK{p:Addr}{v:WE}(h:W.cell? p=some v)(J:W.grownBy W' row)(U:∀r,row=some r->C<=r/\∃o:Obj,W.heap[r]?=some o/\o.isCells=false):W'.cell? p=some v:=by
 refine(bR (J.block _ (zZ h) ?_)).trans h
 intro e
 obtain⟨_,o,O,I⟩:=U _ e.symm
 rw[zEs O I]at h
 cases h
theorem Rd.abide(h:Rd W A n c l)(J:W.grownBy W' row)(O:∀r,row=some r->C<=r/\∃o:Obj,W.heap[r]?=some o/\o.isCells=false):Rd W' A n c l:=
 ⟨h.len,h.le,h.cap,h.nil,fun i hi=>by
  obtain⟨b,o,e,I⟩:=h.cells i hi
  exact⟨b,o,e,zGK I J O⟩⟩
theorem jD.abide(h:jD W B t vs)(O:W.grownBy W' row)(U:∀r,row=some r->C<=r/\∃o:Obj,W.heap[r]?=some o/\o.isCells=false):jD W' B t vs:=by
 refine(O.block B h.lt ?_).trans h
 intro e
 obtain⟨_,o,I,J⟩:=U B e.symm
 rw[show W.heap[B]?=_ from h]at I
 cases I
 cases J
theorem zAJ.abide{v:Int}(h:zAJ W B v)(I:W.grownBy W' row)(J:∀r,row=some r->C<=r/\∃o:Obj,W.heap[r]?=some o/\o.isCells=false):zAJ W' B v:=by
 obtain⟨A,n,c,l,O,h2,h3⟩:=h
 exact⟨A,n,c,l,O.abide I J,h2,h3.abide I J⟩
def zEt(is:List (Bool×List Nat)):Nat->Int
 |0=>0
 |k+1=>zEt is k+zEF is k
def zCt(is:List (Bool×List Nat)):Nat->Int
 |0=>1
 |k+1=>zCt is k*zEF is k
theorem zGD{is:List (Bool×List Nat)}{m:Nat}(h:∀k,(zEF is k).natAbs<BB^m):∀k,(zEt is k).natAbs<=k*BB^m
 |0=>by simp[zEt]
 |k+1=>by
  have h1:=zGD h k;have h2:=h k
  rw[vT,uU]
  show(zEt is k+zEF is k).natAbs<=_
  omega
def zWC(w:WB)(B0 P:Nat)(is:List (Bool×List Nat))(k:Nat)(W:WB):Prop:=
 zAJ W B0 (zEt is k)/\Boxed W P 135 (.pointer (some ⟨B0,0,none⟩))/\jD W w.heap.size 26 #[.bool false,.slice none 0 0]/\Below w.heap.size w W/\P+2<=W.heap.size
theorem zIo(w:WB)(B0 P:Nat)(is:List (Bool×List Nat)){C:Nat}(O:w.heap.size<=C):OwnFrom C (zWC w B0 P is):=by
 rintro k W W' row ⟨U,h2,h3,h4,h5⟩ I J
 exact⟨U.abide I J,qZ h2 I J,h3.abide I J,zAB h4 I (vP _) O J,xQ h5 I.size⟩
theorem zKx(A:WG Addr)(n c:Nat)(is:List (Bool×List Nat))(m:Nat)(w:WB)(h:IRd w A n is)(hn:n<=c)(hc:c<=9223372036854775807)(hm:m<=900000)(hv:∀k,(zEF is k).natAbs<BB^m)(hnn:n<=1000000:=by first|omega|decide):
  Calls prog 103 #[.slice A n c] w (q6 w (zEt is n)):=by
 refine jC func103 rfl ?_
 simp only[ntmps103,bP,mQ,mR,Nat.reduceAdd,Nat.reduceSub,mS,mT,mU,mV,lJ,mO]
 go_wp2_with (first|(go_at_call 125;refine(zFx false none 0 0 [] _ (wM _) zB4 oA).mono ?_;rintro e w1 ⟨B0,rfl,hB0,hn0,hb0⟩)|(go_at_call 126;refine(zOV A n c _).mono ?_;rintro e w2 ⟨rfl,rfl⟩))
 have hiv0:iv false []=0:=rfl
 rw[hiv0]at hn0
 obtain⟨W0,hW0⟩:∃W0,((w1.alloc (.cells #[.pointer (some ⟨B0,0,none⟩)] 135)).alloc (.cells #[.slice A n c] 109))=W0:=⟨_,rfl⟩
 have hsz:W0.heap.size=w1.heap.size+2:=by rw[<-hW0];simp
 have hB0l:=hn0.lt
 have hB0g:w.heap.size<B0:=vU fE hB0
 have hbw1:Below w.heap.size w w1:=((xF _ w).alloc (vP _) _).trans (hb0.mono fE)
 have hB1:Below w.heap.size w W0:=by rw[<-hW0];exact(hbw1.alloc hbw1.size _).alloc (by simp;exact Nat.le_succ_of_le hbw1.size) _
 have x0:zAJ W0 B0 0:=by rw[<-hW0];exact hn0.kept (((xF _ w1).alloc (vP _) _).alloc fE _)
 have x1:Boxed W0 w1.heap.size 135 (.pointer (some ⟨B0,0,none⟩)):=by rw[<-hW0];exact(bZ w1 _ _).alloc _
 have x2:Boxed W0 (w1.heap.size+1) 109 (.slice A n c):=by rw[<-hW0];exact zAI _ _ _ fE
 have x3:jD W0 w.heap.size 26 #[.bool false,.slice none 0 0]:=by rw[<-hW0];exact((zLL hb0 rfl).alloc _).alloc _
 rw[hW0]
 clear hW0
 have hSb:∀b,(b<w.heap.size∨b=w1.heap.size+1)->b<W0.heap.size:=fun b hb=>by have:=hbw1.size;omega
 refine zCS (gf:=145) rfl (enters_of func145 kA rfl) (zJd A n c is (w1.heap.size+1) w W0 h hB1 hn hc x2.cell (S:=fun b=>b<w.heap.size∨b=w1.heap.size+1) hSb (.inr rfl) (fun b hb=>.inl hb)) ?hE ?hps zF9.trans (zHH hSb)
  (zWC w B0 w1.heap.size is) (zIo w B0 _ is hB1.size) (zBU (zIo w B0 _ is (vP _))) wS (fun _ _ _ _ _ _ _ _=>trivial) ⟨x0,x1,x3,hB1,nX hsz.symm⟩
  (fun xs=>{ tmps:=#[.slice A n c,undef,.pointer (some ⟨w.heap.size,0,none⟩),.pointer (some ⟨w1.heap.size,0,none⟩),xs.getD 0 undef,.agg #[.bool false,.slice none 0 0],.pointer (some ⟨B0,0,none⟩),.slice A n c,.func (.func 145) #[] #[.pointer (some ⟨w1.heap.size+1,0,none⟩)],xs.getD 0 undef,undef,undef,undef,undef,undef,undef,undef],defers:=[] }) ?assign ?body ?done
 case hE=>
  rintro k xs W l o o' ⟨B,rfl,h1,h2⟩ ho hc
  exact⟨B,rfl,h1,h2.abide (C:=0) (eU W l o') (fun r e=>by cases e;exact⟨vR _,o,ho,hc⟩)⟩
 case hps=>
  rintro k xs W ⟨B,rfl,_⟩
  rfl
 case assign=>
  rintro lp k xs W K ⟨B,rfl,h1,h2⟩ hK
  gi_wp2
  exact hK
 case body=>
  rintro lp k xs W hk ⟨h1,h2,h3,h4,h5⟩ ⟨B,rfl,hB,hnb⟩
  have hc2:=h2.cell
  have hne:B≠B0:=by omega
  have hkm:k<=1000000:=by omega
  have hbd:(zEt is k).natAbs<BB^(m+1):=by
   refine nF (zGD hv k) ?_
   rw[vY,vS]
   exact Nat.mul_lt_mul_of_pos_left (by unfold BB;omega) (uN (by unfold BB;omega))
  have hbd2:(zEF is k).natAbs<BB^(m+1):=vU (hv k) (vZ (by unfold BB;omega) (Nat.le_succ m))
  gi_wp2_with (gi_at_call 127;refine bG (xZ.2 (num_add B0 B _ _ (m+1) W h1 hnb hne hbd hbd2 oA)) ?_;rintro e w3 ⟨⟨u,rfl⟩,hn3,hg3⟩)
  have hbx:∃vs t,jD W B0 t vs:=by obtain⟨_,_,_,_,g,_⟩:=h1;exact⟨_,_,g⟩
  obtain⟨vs,t,g⟩:=hbx
  refine⟨(eH hg3 (fun j o e ho=>by cases e;rw[show W.heap[B0]?=_ from g]at ho;cases ho;rfl)).from _,⟨(yZ.refl _ _).grown hg3 (fun b hb=>⟨by have:=hSb b hb;omega,fun e=>by cases e;omega⟩),hg3.size⟩,hn3,h2.kept hg3 (fun e=>by cases e;omega),(hg3.block _ h3.lt (fun e=>by cases e;omega)).trans h3,zAY h4 hg3 h4.size oA,xQ h5 hg3.size⟩
 case done=>
  rintro D W hD ⟨h1,h2,h3,h4,h5⟩ _ hd
  obtain⟨A2,n2,c2,l2,⟨g0,g1⟩,hi2,hr2⟩:=h1.parts
  have hc2:=h2.cell
  obtain⟨⟨q0,q1⟩,q2,q3⟩:=h3.facts2
  go_wp2
  have hb5:=(h3.set 0 (.bool (decide (zEt is n<0)))).set 1 (.slice A2 n2 c2)
  have hM:Marks w.heap.size ((W.setCell ⟨w.heap.size,0,none⟩ (.bool (decide (zEt is n<0)))).setCell ⟨w.heap.size,1,none⟩ (.slice A2 n2 c2)) [mark D] [D]:=((Marks.nil w.heap.size W).more (D:=D) fE (by have:=hB1.size;omega) hd).others ((bO _ _ _).trans (bO _ _ _))
  obtain⟨A3,n3,c3,l3,e3,hi3,hr3,hb3⟩:=zIt h3 h4 (vP _) hi2 hr2
  cases e3
  refine qH _ (v:=.agg #[.bool (decide (zEt is n<0)),.slice A2 n2 c2]) (fun w' ho'=>?_) [D] _ _ hM (Oth.refl _ _) ?_
  .obtain⟨⟨c0,c1⟩,_,_⟩:=(hb5.oth ho').facts2
   simp[results,results103,go_sem,c0,c1]
  .intro w' ho
   exact⟨A2,n2,c2,l3,rfl,hi3,hr3.oth ho,zAj hb3 ho (vP _)⟩
attribute [local go_sem] Oper.semAt_some qL yG
theorem zC8{v:Int}(h:Is l v.natAbs):iv (decide (v<0)) l=v:=by
 unfold iv
 rw[h.val]
 by_cases h0:v<0
 .rw[lI h0];simp only[cG];omega
 .rw[xY h0];simp only[xK,xI];omega
theorem IRd.two(h:Rd w A n c l)(ht:Lt l)(J:n<=m){A':WG Addr}{n' c':Nat}{l':List Nat}(O:Rd w A' n' c' l')(ht':Lt l')(I:n'<=m)(t:WF):
  IRdM m (w.alloc (.cells #[.bool s,.slice A n c,.bool s',.slice A' n' c'] t)) (some ⟨w.heap.size,0,none⟩) 2 [(s,l),(s',l')]:=
 ⟨rfl,fun i hi=>by
  rcases(by omega:i=0∨i=1)with rfl|rfl
  .exact⟨_,_,s,A,n,c,l,rfl,zBS w _ t 0,zBS w _ t 1,rfl,h.alloc _,ht,J⟩
  .exact⟨_,_,s',A',n',c',l',rfl,zBS w _ t 2,zBS w _ t 3,rfl,O.alloc _,ht',I⟩⟩
theorem zAG(ht:Lt l)(hl:l.length=n)(hn:n<=m):(iv s l).natAbs<BB^m:=by
 rw[zOh]
 exact vU (q8 ht) (vZ (by unfold BB;omega) oA)
theorem zLh(p q:Bool×List Nat)(m:Nat)(I:(iv p.1 p.2).natAbs<BB^m)(O:(iv q.1 q.2).natAbs<BB^m)(k:Nat):(zEF [p,q] k).natAbs<BB^m:=by
 have J:0<BB^m:=uN (by unfold BB;omega)
 unfold zEF
 match k with
 |0=>simpa using I
 |1=>simpa using O
 |k+2=>simpa using J
theorem zPq(s:Bool)(A:WG Addr)(n c:Nat)(l:List Nat)(s':Bool)(A':WG Addr)(n' c':Nat)(l':List Nat)(w:WB)(h:Rd w A n c l)(ht:Lt l)(h':Rd w A' n' c' l')(ht':Lt l')(m:Nat)(hl:n<=m)(hl':n'<=m)(hm:m<=100000):
  Calls prog 151 #[.agg #[.bool s,.slice A n c],.agg #[.bool s',.slice A' n' c']] w (q6 w (iv s l-iv s' l')):=by
 have hmix:prog.follows .mixedOrders=true:=by kernel_rfl
 go_enter func151,ntmps151
 go_wp2
 refine(bL (n:=0)).1 ?_
 obtain⟨W0,hW0⟩:∃W0,(((w.alloc (.cells #[.bool s,.slice A n c] 26)).alloc (.cells #[.bool s',.slice A' n' c'] 26)).alloc (.cells #[.bool false,.slice none 0 0] 26))=W0:=⟨_,rfl⟩
 have x0:jD W0 w.heap.size 26 #[.bool s,.slice A n c]:=by rw[<-hW0];exact((jD.new w _ _).alloc _).alloc _
 have x1:jD W0 (w.heap.size+1) 26 #[.bool s',.slice A' n' c']:=by rw[<-hW0];exact(jD.at_ _ _ _ fE).alloc _
 have x2:jD W0 (w.heap.size+1+1) 26 #[.bool false,.slice none 0 0]:=by rw[<-hW0];exact jD.at_ _ _ _ fE
 have hB0:Below w.heap.size w W0:=by rw[<-hW0];exact(((xF _ w).alloc (vP _) _).alloc fE _).alloc (by simp;omega) _
 rw[hW0]
 clear hW0
 refine yC 100 (fun W=>(W.cell? ⟨w.heap.size,0,none⟩=some (.bool s)/\W.cell? ⟨w.heap.size,1,none⟩=some (.slice A n c))/\W.cell? ⟨w.heap.size+1,0,none⟩=some (.bool s')/\W.cell? ⟨w.heap.size+1,1,none⟩=some (.slice A' n' c')) hmix ?_
 have d1:=And.intro x0.facts2.1 x1.facts2.1
 refine zP (i:=0) (v:=?vv1) kA kA rfl kA kA kA fD d1 ⟨.inl ⟨rfl,?yy1⟩,fun _=>rfl⟩ ?_
 case yy1=>
  rintro wx ⟨⟨q1,q2⟩,q3,q4⟩
  go_simp
  first|done|rfl
 refine zP (i:=1) (v:=?vv2) kA kA rfl kA kA kA fD d1 ⟨.inl ⟨rfl,?yy2⟩,fun _=>rfl⟩ ?_
 case yy2=>
  rintro wx ⟨⟨q1,q2⟩,q3,q4⟩
  go_simp
  first|done|rfl
 refine zAN (i:=2) kA rfl (fun K hK=>?_)
 go_simp
 have hneg:=zKr s' A' n' c' l' _ ((h'.below hB0).drew) ht' oA
 obtain⟨v2,hv2⟩:∃v2,-iv s' l'=v2:=⟨_,rfl⟩
 rw[hv2]at hneg
 refine bG (xZ.2 hneg) ?_
 rintro e w2 ⟨A2,n2,c2,l2,rfl,hi2,hr2,hb2⟩
 have hB2:Below W0.heap.size W0 w2:=((xF _ W0).drew).trans hb2
 have d2:=And.intro (x0.kept hB2).facts2.1 (x1.kept hB2).facts2.1
 have hn2:n2<=m:=by
  rw[<-hr2.len]
  refine hi2.len ?_
  rw[<-hv2,Int.natAbs_neg]
  exact zAG ht' h'.len hl'
 refine hK _ _ (.inr d2) ?_
 clear hK K
 refine zAN (i:=3) kA rfl (fun K hK=>?_)
 go_simp
 have hds:IRd _ _ _ _:=IRd.two (s:=s) (s':=decide (v2<0)) (h.below (hB0.trans (hB2.mono hB0.size))) ht oA hr2 hi2.lt oA 26
 have hW3:Below W0.heap.size W0 (w2.alloc (.cells #[.bool s,.slice A n c,.bool (decide (v2<0)),.slice A2 n2 c2] 26)):=hB2.alloc hB2.size _
 refine hK _ _ (.inr ⟨(x0.kept hW3).facts2.1,(x1.kept hW3).facts2.1⟩) ?_
 clear hK K
 refine zAN (i:=4) kA rfl (fun K hK=>?_)
 go_simp
 have hvm:=zLh (s,l) (decide (v2<0),l2) m (zAG ht h.len hl) (zAG hi2.lt hr2.len hn2)
 have hsum:zEt [(s,l),(decide (v2<0),l2)] 2=iv s l-iv s' l':=by
  show(0+iv s l)+iv (decide (v2<0)) l2=_
  rw[zC8 hi2]
  omega
 have hadd:=zKx _ 2 2 _ m _ hds oA oA oA hvm
 rw[hsum]at hadd
 refine bG (xZ.2 hadd) ?_
 rintro e w3 ⟨A3,n3,c3,l3,rfl,hi3,hr3,hb3⟩
 have hB3:Below W0.heap.size W0 w3:=hW3.trans (hb3.mono hW3.size)
 have hq:=x2.kept hB3
 obtain⟨⟨m0,m1⟩,m2,m3⟩:=hq.facts2
 refine hK _ _ (.inr ⟨(x0.kept hB3).facts2.1,(x1.kept hB3).facts2.1⟩) ?_
 clear hK K
 obtain⟨v3,hv3⟩:∃v3,iv s l-iv s' l'=v3:=⟨_,rfl⟩
 rw[hv3]at hi3
 simp only[hv3]
 refine zAN (i:=5) kA rfl (fun K hK=>?_)
 go_simp
 refine hK _ _ (.inr ⟨((x0.kept hB3).other (p:=⟨w.heap.size+1+1,0,none⟩) (by simp;omega) _|>.other (p:=⟨w.heap.size+1+1,1,none⟩) (by simp;omega) _).facts2.1,((x1.kept hB3).other (p:=⟨w.heap.size+1+1,0,none⟩) fE _|>.other (p:=⟨w.heap.size+1+1,1,none⟩) fE _).facts2.1⟩) ?_
 clear hK K
 refine zCR kA ?_
 obtain⟨⟨c0,c1⟩,_,_⟩:=((hq.set 0 (.bool (decide (v3<0)))).set 1 (.slice A3 n3 c3)).facts2
 go_wp2
 refine nM (v:=.agg #[.bool (decide (v3<0)),.slice A3 n3 c3]) (by simp[results,results151,go_sem,c0,c1]) rfl ?_
 rw[hv3]
 exact zIt hq (hB0.trans (hB3.mono hB0.size)) oA hi3 hr3
theorem zPD(s:Bool)(A:WG Addr)(n c:Nat)(l:List Nat)(s':Bool)(A':WG Addr)(n' c':Nat)(l':List Nat)(w:WB)(h:Rd w A n c l)(ht:Lt l)(h':Rd w A' n' c' l')(ht':Lt l')(m:Nat)(hl:n<=m)(hl':n'<=m)(hm:m<=100000):
  Calls prog 142 #[.agg #[.bool s,.slice A n c],.agg #[.bool s',.slice A' n' c']] w fun e w'=>e=.returned (.int .i64 (iv s l-iv s' l').sign)/\Below w.heap.size w w':=by
 have hb1:=((xF _ w).alloc (vP _) (.cells #[.bool s,.slice A n c] 26)).alloc fE (.cells #[.bool s',.slice A' n' c'] 26)
 have hsub:=zPq s A n c l s' A' n' c' l' _ (h.below hb1) ht (h'.below hb1) ht' m hl hl' hm
 obtain⟨v3,hv3⟩:∃v3,iv s l-iv s' l'=v3:=⟨_,rfl⟩
 have hbd:v3.natAbs<BB^(m+1):=by
  have e1:=zAG (s:=s) ht h.len hl;have e2:=zAG (s:=s') ht' h'.len hl'
  rw[vY]
  unfold BB at*
  omega
 rw[hv3]at hsub
 rw[hv3]
 go_enter func142,ntmps142
 go_wp2_with (first|(go_at_call 151;refine hsub.mono ?_;rintro e w2 ⟨A2,n2,c2,l2,rfl,hi2,hr2,hb2⟩)|(go_at_call 120;refine(zIh _ A2 n2 c2 l2 _ hr2 hi2.lt (by rw[<-hr2.len];exact xQ (hi2.len hbd) oA)).mono ?_;rintro e w3 ⟨rfl,hb3⟩))
 go_ret
 have hb4:=hb1.trans (hb2.mono hb1.size)
 exact⟨by rw[zC8 hi2];rfl,hb4.trans (hb3.mono hb4.size)⟩
def UV(W:WB)(m:Nat)(v:WE)(k:Int):Prop:=∃s A n c l,v=.agg #[.bool s,.slice A n c]/\Rd W A n c l/\Lt l/\n<=m/\iv s l=k
def NV(W:WB)(v:WE)(k:Int):Prop:=∃A n c l,v=.agg #[.bool (decide (k<0)),.slice A n c]/\Is l k.natAbs/\Rd W A n c l
theorem NV.uv{v:WE}(h:NV W v k){m:Nat}(J:k.natAbs<BB^m):UV W m v k:=by
 obtain⟨A,n,c,l,rfl,I,h2⟩:=h
 exact⟨_,A,n,c,l,rfl,h2,I.lt,by rw[<-h2.len];exact I.len J,zC8 I⟩
theorem UV.bound{v:WE}(h:UV W m v k):k.natAbs<BB^m:=by
 obtain⟨s,A,n,c,l,rfl,I,h2,h3,rfl⟩:=h
 exact zAG h2 I.len h3
theorem UV.mono{v:WE}(h:UV W m v k)(hm:m<=m'):UV W m' v k:=by
 obtain⟨s,A,n,c,l,rfl,I,h2,h3,rfl⟩:=h
 exact⟨s,A,n,c,l,rfl,I,h2,by omega,rfl⟩
def zH8(w:WB)(k:Int):Ending->WB->Prop:=fun e w'=>∃v,e=.returned v/\NV w' v k/\Below w.heap.size w w'
theorem q6.v{e:Ending}(h:q6 w k e w'):zH8 w k e w':=by
 obtain⟨A,n,c,l,rfl,I,h2,h3⟩:=h
 exact⟨_,rfl,⟨A,n,c,l,rfl,I,h2⟩,h3⟩
theorem zXg{v:WE}(h:UV W m v k)(hm:m<=100000):Calls prog 136 #[v] W (zH8 W (-k)):=by
 obtain⟨s,A,n,c,l,rfl,I,h2,h3,rfl⟩:=h
 exact(zKr s A n c l W I h2 oA).mono fun _ _=>q6.v
theorem zVw{v:WE}(h:UV W m v k)(hm:m<=100000):Calls prog 134 #[v] W (zH8 W k):=by
 obtain⟨s,A,n,c,l,rfl,I,h2,h3,rfl⟩:=h
 exact(zIi s A n c l W I h2 oA).mono fun _ _=>q6.v
theorem zUY{v:WE}(h:UV W m v k)(hm:m<=100000):Calls prog 120 #[v] W fun e w'=>e=.returned (.int .i64 k.sign)/\Below W.heap.size W w':=by
 obtain⟨s,A,n,c,l,rfl,I,h2,h3,rfl⟩:=h
 exact zIh s A n c l W I h2 oA
theorem zX6{v v':WE}{k':Int}(h:UV W m v k)(h':UV W m v' k')(hm:m<=100000):Calls prog 142 #[v,v'] W fun e w'=>e=.returned (.int .i64 (k-k').sign)/\Below W.heap.size W w':=by
 obtain⟨s,A,n,c,l,rfl,U,h2,h3,rfl⟩:=h
 obtain⟨s',A',n',c',l',rfl,O,J,I,rfl⟩:=h'
 exact zPD s A n c l s' A' n' c' l' W U h2 O J m h3 I hm
def IS(W:WB)(m:Nat)(v:WE)(is:List (Bool×List Nat)):Prop:=∃A c,v=.slice A is.length c/\is.length<=c/\c<=9223372036854775807/\IRdM m W A is.length is
theorem IS.below{v:WE}(h:IS W m v is)(hb:Below W.heap.size W W'):IS W' m v is:=by
 obtain⟨A,c,I,h3,J,h2⟩:=h
 exact⟨A,c,I,h3,J,h2.below hb⟩
theorem IRdM.mono(h:IRdM m w A n is)(hm:m<=m'):IRdM m' w A n is:=
 ⟨h.len,fun i hi=>by
  obtain⟨b,o,s,Ai,ni,U,O,e,hc,I,J,h2,h3,h4⟩:=h.cells i hi
  exact⟨b,o,s,Ai,ni,U,O,e,hc,I,J,h2,h3,by omega⟩⟩
theorem zHJ(h:IRdM m w A n is)(k:Nat):(zEF is k).natAbs<BB^m:=by
 by_cases hk:k<n
 .obtain⟨b,o,s,Ai,ni,ci,li,e,hc,hc',I,h2,h3,J⟩:=h.cells k hk
  unfold zEF
  rw[I]
  exact zAG h3 h2.len J
 .have:is[k]?=none:=gU (by rw[h.len];omega)
  unfold zEF
  rw[this]
  exact uN (by unfold BB;omega)
theorem zYc{v:WE}(h:IS W m v is)(hm:m<=100000)(hn:is.length<=100000):Calls prog 103 #[v] W (zH8 W (zEt is is.length)):=by
 obtain⟨A,c,rfl,h3,I,h2⟩:=h
 exact(zKx A is.length c is m W (IRdM.mono h2 oA) h3 I oA (fun k=>zHJ h2 k)).mono fun _ _=>q6.v
theorem IS.two(h:Rd w A n c l)(ht:Lt l)(J:n<=m){A':WG Addr}{n' c':Nat}{l':List Nat}(O:Rd w A' n' c' l')(ht':Lt l')(I:n'<=m)(t:WF):
  IS (w.alloc (.cells #[.bool s,.slice A n c,.bool s',.slice A' n' c'] t)) m (.slice (some ⟨w.heap.size,0,none⟩) 2 2) [(s,l),(s',l')]:=⟨_,2,rfl,vP _,by decide,IRd.two h ht J O ht' I t⟩
theorem zAh(A:WG Addr)(n c:Nat)(l:List Nat)(i:Int)(w:WB)(h:Rd w A n c l)(ht:Lt l)(h0:0<=i):
  Calls prog 139 #[.slice A n c,.int .i64 i] w fun e w'=>e=.returned (.int .u64 (lm l i.toNat))/\w=w':=by
 obtain⟨k,rfl⟩:=lL h0
 rw[lO]
 have hle:=h.le;have hcap:=h.cap
 have x:=qR ht k
 simp only[BB]at x
 by_cases hi:k<n
 .obtain⟨b,o,rfl,hc⟩:=h.cells k hi
  go_enter func139,ntmps139
  go_wp2
  go_ret
  exact⟨rfl,rfl⟩
 .rw[zEc (by rw[h.len];omega)]
  go_enter func139,ntmps139
  go_wp2
  go_ret
  exact⟨rfl,rfl⟩
theorem jR(A:WG Addr)(n c:Nat)(l:List Nat)(w:WB)(h:Rd w A n c l)(ht:Lt l)(hl:n<=1099511627776):
  Calls prog 40 #[.slice A n c] w (jK w (val l)):=by
 have hle:=h.le;have hcap:=h.cap;have hlen:=h.len
 have hown:yB (w.alloc (.cells #[] 69)) w.heap.size 69 (.slice (some ⟨w.heap.size,0,none⟩) 0 0) []:=lN (base:=w.heap.size) (e:=69) (size:=1) w #[] 0 (vP _) (by unfold maxLen;omega) rfl
 have hbs:w.heap.size<=(w.alloc (.cells #[] 69)).heap.size:=by simp
 go_enter func40,ntmps40
 go_wp2
 go_loop [3] (fun x=>∃k:Nat,k<=n/\x=.int .i64 k/\(∀i,k<=i->i<l.length->lm l i=0)) (fun x=>(intOf x).toNat)
 case atStart=>exact⟨n,vP _,rfl,fun i h1 h2=>by omega⟩
 case round=>
  obtain⟨k,hk,rfl,hz⟩:=hrel
  have HZ:=hid hz
  clear hz
  have hfin:∀w1 A1 c1,yB w1 w.heap.size 69 (.slice A1 k c1) ([]++l.take k)->(k=0∨lm l (k-1)≠0)->(w.alloc (.cells #[] 69)).grownBy w1 (Value.ownBlock (.slice (some ⟨w.heap.size,0,none⟩) 0 0))->jK w (val l) (.returned (.slice A1 k c1)) w1:=by
   intro w1 A1 c1 h1 h2 h3
   rw[lJ]at h1
   exact⟨A1,k,c1,l.take k,rfl,⟨zB3 ht _,zCm l k oA HZ.out h2,jN oA HZ.out⟩,h1.rd,yB.grown ((xF w.heap.size w).alloc (vP _) _) hown h3 (vP _) hbs⟩
  have HF:=hid hfin
  clear hfin
  have hs1:([]:List Nat).length+(l.take k).length<=17592186044416:=by simp;omega
  have hl1:([]++l.take k).length=k:=by simp;omega
  by_cases h0:0<k
  .obtain⟨b,o,rfl,hc⟩:=h.cells (k-1) oA
   have e1:((k:Int)-1).toNat=k-1:=by omega
   by_cases hx:lm l (k-1)=0
   .go_wp2
    go_round
    case rel=>exact⟨k-1,by omega,by congr 1;omega,fun i h1 h2=>by
     by_cases e:i=k-1
     .subst e;exact hx
     .exact HZ.out i oA h2⟩
    case measure=>simp[intOf];omega
   .have hx2:((lm l (k-1):Int)==0)=false:=by simpa using hx
    have HX:=hid hx
    clear hx
    have hr1:Rd (w.alloc (.cells #[] 69)) (some ⟨b,o,none⟩) k c (l.take k):=(h.take hk oA (vP _)).alloc _
    go_wp2_with (at_builtin;go_must (refine zS rfl _ _ 24 69 rfl z7 yQ w.heap.size _ [] rfl hown _ k c (l.take k) rfl hr1 hs1 hbs ?_;intro v1 w1 hown1 hg1 hat1;obtain⟨A1,c1,rfl⟩:=hown1.form' hl1))
    go_ret
    exact HF.out w1 A1 c1 hown1 (.inr HX.out) hg1
  .obtain rfl:k=0:=by omega
   cases A with
   |none=>
    obtain⟨rfl,rfl,rfl⟩:=h.empty
    go_wp2_with (at_builtin;go_must (refine zS rfl _ _ 24 69 rfl z7 yQ w.heap.size _ [] rfl hown _ 0 0 [] rfl (wM _) hs1 hbs ?_;intro v1 w1 hown1 hg1 hat1;obtain⟨A1,c1,rfl⟩:=hown1.form' hl1))
    go_ret
    exact HF.out w1 A1 c1 hown1 (.inl fE) hg1
   |some ad=>
    have hr1:Rd (w.alloc (.cells #[] 69)) (some ad) 0 c (l.take 0):=(h.take hk oA (vP _)).alloc _
    go_wp2_with (at_builtin;go_must (refine zS rfl _ _ 24 69 rfl z7 yQ w.heap.size _ [] rfl hown _ 0 c (l.take 0) rfl hr1 hs1 hbs ?_;intro v1 w1 hown1 hg1 hat1;obtain⟨A1,c1,rfl⟩:=hown1.form' hl1))
    go_ret
    exact HF.out w1 A1 c1 hown1 (.inl fE) hg1
theorem zJx(x:Nat)(hx:x<18446744073709551616)(w:WB):
  Calls prog 68 #[.int .u64 x] w (jK w x):=by
 have hr:=Rd.new w [x%4294967296,x/4294967296] 69 #[.int .u32 ((x:Int)%4294967296),.int .u32 ((x:Int)/4294967296)] (by simp[zBL]) fE
 have hlt:Lt [x%4294967296,x/4294967296]:=by
  intro y hy
  simp at hy
  rcases hy with rfl|rfl<;>unfold BB<;>omega
 have hv:val [x%4294967296,x/4294967296]=x:=by rw[zMo];omega
 go_enter func68,ntmps68
 go_wp2_with (go_at_call 40;refine(jR _ 2 2 _ _ hr hlt oA).mono ?_;rintro e w1 ⟨A1,n1,c1,l1,rfl,hi1,hr1,hb1⟩)
 go_ret
 rw[hv]at hi1
 exact⟨A1,n1,c1,l1,rfl,hi1,hr1,((xF _ w).alloc (vP _) _).trans (hb1.mono fE)⟩
theorem zE3(A:WG Addr)(n c:Nat)(l:List Nat)(A':WG Addr)(n' c':Nat)(l':List Nat)(w:WB)(h:Rd w A n c l)(h':Rd w A' n' c' l')(ht:Lt l)(ht':Lt l'):
  Calls prog 114 #[.slice A n c,.slice A' n' c'] w fun e w'=>e=.returned (.int .i64 (zAP (val l) (val l')))/\w=w':=by
 have hle:=h.le;have hcap:=h.cap;have hle':=h'.le;have hcap':=h'.cap
 have HN:Hid (l.length=n/\l'.length=n'):=⟨h.len,h'.len⟩
 by_cases hnn:n<n'
 all_goals
  go_enter func114,ntmps114
  go_wp2
  go_loop [5] (fun x=>∃k:Nat,k<=9223372036854775807/\x=.int .i64 ((k:Int)-1)/\Hid (∃N,l.length<=N/\l'.length<=N/\k<=N/\∀j,k<=j->j<N->lm l j=lm l' j)) (fun x=>(intOf x+1).toNat)
  case atStart=>first|exact⟨n',by omega,rfl,hid ⟨n',by have:=HN.out;omega,by have:=HN.out;omega,vP _,fun j h1 h2=>by omega⟩⟩|exact⟨n,by omega,rfl,hid ⟨n,by have:=HN.out;omega,by have:=HN.out;omega,vP _,fun j h1 h2=>by omega⟩⟩
  case round=>
   obtain⟨k,_hk,rfl,HK⟩:=hrel
   by_cases h0:0<k
   .have e1:((k:Int)-1).toNat=k-1:=by omega
    by_cases h1:lm l (k-1)<lm l' (k-1)
    .have HV:Hid (zAP (val l) (val l')= -1):=by
      obtain⟨N,a1,a2,a3,a4⟩:=HK.out
      exact zH3 (zEZ ht a1 a2 h0 a3 a4 h1)
     go_wp2_with (go_at_call 139;first|((with_reducible refine(zAh A n c l _ _ h ht oA).mono ?_);rintro e w1 ⟨rfl,rfl⟩)|((with_reducible refine(zAh A' n' c' l' _ _ h' ht' oA).mono ?_);rintro e w1 ⟨rfl,rfl⟩))
     go_ret
     exact⟨by rw[HV.out];rfl,rfl⟩
    .by_cases h2:lm l' (k-1)<lm l (k-1)
     .have HV:Hid (zAP (val l) (val l')=1):=by
       obtain⟨N,a1,a2,a3,a4⟩:=HK.out
       exact zLu (zEZ ht' a2 a1 h0 a3 (fun j b1 b2=>(a4 j b1 b2).symm) h2)
      go_wp2_with (go_at_call 139;first|((with_reducible refine(zAh A n c l _ _ h ht oA).mono ?_);rintro e w1 ⟨rfl,rfl⟩)|((with_reducible refine(zAh A' n' c' l' _ _ h' ht' oA).mono ?_);rintro e w1 ⟨rfl,rfl⟩))
      go_ret
      exact⟨by rw[HV.out];rfl,rfl⟩
     .go_wp2_with (go_at_call 139;first|((with_reducible refine(zAh A n c l _ _ h ht oA).mono ?_);rintro e w1 ⟨rfl,rfl⟩)|((with_reducible refine(zAh A' n' c' l' _ _ h' ht' oA).mono ?_);rintro e w1 ⟨rfl,rfl⟩))
      go_round
      case rel=>exact⟨k-1,by omega,by congr 1;omega,by
       obtain⟨N,a1,a2,a3,a4⟩:=HK.out
       exact hid ⟨N,a1,a2,by omega,fun j b1 b2=>by
        by_cases e:j=k-1
        .subst e;omega
        .exact a4 j oA b2⟩⟩
      case measure=>simp[intOf];omega
   .obtain rfl:k=0:=by omega
    have HV:Hid (zAP (val l) (val l')=0):=by
     obtain⟨N,a1,a2,a3,a4⟩:=HK.out
     exact zLv (zKb a1 a2 a4)
    go_wp2
    go_ret
    exact⟨by rw[HV.out];rfl,rfl⟩
theorem zPE{k:Nat}(h:lm l k≠lm l' k):l≠l':=fun e=>by subst e;exact h rfl
theorem zPF(I:l.length=l'.length)(h:∀j,j<l.length->lm l j=lm l' j):l=l':=
 gG I fun i J h2=>by
  have:=h i J
  rwa [zHF J,zHF h2]at this
theorem zOI(w:WB)(a b:Nat):(w.drewN a).drewN b=w.drewN (a+b):=by
 simp only[World.drewN,uS]
theorem zIs(A:WG Addr)(n c:Nat)(l:List Nat)(A':WG Addr)(n' c':Nat)(l':List Nat)(w:WB)(h:Rd w A n c l)(h':Rd w A' n' c' l'):
  Calls prog 99 #[.slice A n c,.slice A' n' c'] w fun e w'=>e=.returned (.bool (decide (l=l')))/\∃nq,w'=w.drewN nq:=by
 have hle:=h.le;have hcap:=h.cap;have hle':=h'.le;have hcap':=h'.cap
 have HN:Hid (l.length=n/\l'.length=n'):=⟨h.len,h'.len⟩
 by_cases hnn:n=n'
 .subst hnn
  go_enter func99,ntmps99
  go_wp2
  go_loopw [5] (fun x wr=>∃k:Nat,k<=n/\x=.int .i64 k/\(∃nq,wr=w.drewN nq)/\Hid (∀j,j<k->lm l j=lm l' j)) (fun x _=>n-(intOf x).toNat)
  case atStart=>exact⟨0,vR _,rfl,⟨0,rfl⟩,hid (fun j hj=>by omega)⟩
  case round=>
   obtain⟨k,hk,rfl,⟨nq,rfl⟩,HK⟩:=hrel
   by_cases h0:k<n
   .obtain⟨b,o,rfl,hc⟩:=h.cells k h0
    obtain⟨b',o',rfl,hc'⟩:=h'.cells k h0
    have h0':(0:Int)<=k:=mW k
    by_cases h1:lm l k=lm l' k
    .have hx:((lm l k:Int) !=(lm l' k:Int))=false:=by rw[h1];simp
     go_wp2
     go_quiet (fail)
     go_wp2
     go_roundw
     case rel=>exact⟨k+1,by omega,by go_num,⟨_,rfl⟩,hid (fun j hj=>by
      by_cases e:j=k
      .subst e;exact h1
      .exact HK.out j oA)⟩
     case measure=>simp[intOf];omega
    .have hx:((lm l k:Int) !=(lm l' k:Int))=true:=by simp only[bne_iff_ne,ne_eq];omega
     have HV:Hid (decide (l=l')=false):=hid (xY (zPE h1))
     clear h1
     go_wp2
     go_quiet (fail)
     go_wp2
     go_ret
     exact⟨by rw[HV.out];rfl,_,zOI w _ _⟩
   .obtain rfl:k=n:=by omega
    have HV:Hid (decide (l=l')=true):=hid (lI (zPF (by have:=HN.out;omega) (fun j hj=>HK.out j (by have:=HN.out;omega))))
    go_wp2
    go_ret
    exact⟨by rw[HV.out];rfl,_,rfl⟩
 .have hx:((n:Int) !=(n':Int))=true:=by simp only[bne_iff_ne,ne_eq];omega
  have HV:Hid (decide (l=l')=false):=hid (xY (fun e=>by subst e;have:=HN.out;omega))
  clear hnn
  go_enter func99,ntmps99
  go_wp2
  go_ret
  exact⟨by rw[HV.out];rfl,0,rfl⟩
def zY0(w:WB)(l l':List Nat)(N:Nat)(v o i:WE)(W:WB):Prop:=
 ∃(k u:Nat) (A:WG Addr) (c:Nat) (lo:List Nat),k<=N/\i=.int .i64 k/\o=.int .u64 u/\v=.slice A k c/\u<=1/\yB W w.heap.size 69 (.slice A k c) lo/\lo.length=k/\Lt lo/\
  val lo+u*BB^k=sm (lm l) k+sm (lm l') k/\Below w.heap.size w W
theorem zPh(x y u:Nat)(hx:x<4294967296)(hy:y<4294967296)(hu:u<=1):
  ∃d z u':Nat,(x:Int)+(y:Int)+(u:Int)=(d:Int)/\(d:Int)%4294967296=(z:Int)/\(d:Int)/4294967296=(u':Int)/\z<4294967296/\u'<=1/\d<=8589934591/\x+y+u=z+u'*4294967296:=
 ⟨x+y+u,(x+y+u)%4294967296,(x+y+u)/4294967296,by omega,by omega,by omega,by omega,by omega,by omega,by omega⟩
theorem zSy(A:WG Addr)(n c:Nat)(l:List Nat)(A':WG Addr)(n' c':Nat)(l':List Nat)(w:WB)(h:Rd w A n c l)(h':Rd w A' n' c' l')(ht:Lt l)(ht':Lt l')(hn:n<=137438953472)(hn':n'<=137438953472):
  Calls prog 137 #[.slice A n c,.slice A' n' c'] w (jK w (val l+val l')):=by
 have hle:=h.le;have hcap:=h.cap;have hle':=h'.le;have hcap':=h'.cap
 obtain⟨N,HN⟩:∃N,Hid (((n<n'/\N=n')∨(¬n<n'/\N=n))/\n<=N/\n'<=N/\N<=137438953472/\l.length=n/\l'.length=n'):=by
  by_cases hh:n<n'
  .exact⟨n',hid ⟨.inl ⟨hh,rfl⟩,by omega,by omega,by omega,h.len,h'.len⟩⟩
  .exact⟨n,hid ⟨.inr ⟨hh,rfl⟩,by omega,by omega,by omega,h.len,h'.len⟩⟩
 by_cases hnn:n<n'
 all_goals
  go_enter func137,ntmps137
  go_wp2
  go_loopw [5,6,7] (zY0 w l l' N) (fun _ _ i _=>N-(intOf i).toNat)
  case atStart=>exact⟨0,0,none,0, [],vR _,rfl,rfl,rfl,by omega,wV _ _ _,rfl,zB4,by simp[sm],xF _ _⟩
  case round=>
   obtain⟨k,u,Ao,co,lo,hk,rfl,rfl,rfl,hu1,hown,hlk,hlt,heq,hB⟩:=hrel
   have HQ:=hid heq
   clear heq
   have hr:=h.below hB;have hr':=h'.below hB
   have x1:=qR ht k;have x2:=qR ht' k
   simp only[BB]at x1 x2
   by_cases h0:k<N
   .have hkn:k<n∨k<n':=by have:=HN.out;omega
    have hkm:k<137438953472:=by have:=HN.out;omega
    obtain⟨d,z,u',hd,hz,hu',hz1,hu1',hd1,hstep⟩:=zPh (lm l k) (lm l' k) u x1 x2 hu1
    have HS:=hid hstep
    clear hstep
    have hs1:lo.length+ [z].length<=17592186044416:=by simp;omega
    have hl1:(lo++ [z]).length=k+1:=by simp;omega
    go_wp2_with (first|(go_at_call 139;first|((with_reducible refine(zAh A _ c l _ _ hr ht (mW k)).mono ?_);rintro e w1 ⟨rfl,rfl⟩)|((with_reducible refine(zAh A' _ c' l' _ _ hr' ht' (mW k)).mono ?_);rintro e w1 ⟨rfl,rfl⟩))|(at_builtin;refine zS rfl _ _ 24 69 rfl z7 yQ w.heap.size _ lo rfl (yB.alloc hown _) _ 1 1 [z] rfl (Rd.one _ z 69) hs1 (y8 hB.size _) ?_;intro v1 w1 hown1 hg1 hat1;obtain⟨A1,c1,rfl⟩:=hown1.form' hl1))
    go_roundw
    case rel=>exact⟨k+1,u',A1,c1,lo++ [z],by omega,by go_num,rfl,rfl,hu1',hown1,hl1,zBh hlt hz1,by rw[zAo,hlk];simp only[sm,vY];exact zH5 HQ.out HS.out,yB.grown (hB.alloc hB.size _) (yB.alloc hown _) hg1 (vP _) (y8 hB.size _)⟩
    case measure=>simp[intOf];omega
   .obtain rfl:k=N:=by omega
    have hkn: ¬k<n/\ ¬k<n':=by have:=HN.out;omega
    obtain⟨hkn1,hkn2⟩:=hkn
    have heu:(u:Int)%4294967296=u:=by omega
    have hkm:k<=137438953472:=by have:=HN.out;omega
    have hs1:lo.length+ [u].length<=17592186044416:=by simp;omega
    have hl1:(lo++ [u]).length=k+1:=by simp;omega
    have hl2:Lt (lo++ [u]):=zBh hlt (by unfold BB;omega)
    have hk1:k+1<=1099511627776:=by omega
    go_wp2_with (first|(at_builtin;refine zS rfl _ _ 24 69 rfl z7 yQ w.heap.size _ lo rfl (yB.alloc hown _) _ 1 1 [u] rfl (Rd.one _ u 69) hs1 (y8 hB.size _) ?_;intro v1 w1 hown1 hg1 hat1;obtain⟨A1,c1,rfl⟩:=hown1.form' hl1)|(go_at_call 40;refine(jR _ _ _ _ _ hown1.rd hl2 hk1).mono ?_;rintro e w2 ⟨A2,n2,c2,l2,rfl,hi2,hr2,hb2⟩))
    go_ret
    have e1:=zAZ (l:=l) (n:=k) (by have:=HN.out;omega)
    have e2:=zAZ (l:=l') (n:=k) (by have:=HN.out;omega)
    have hv:val (lo++ [u])=val l+val l':=by rw[zAo,hlk,HQ.out,e1,e2]
    rw[hv]at hi2
    have hB1:=yB.grown (hB.alloc hB.size _) (yB.alloc hown _) hg1 (vP _) (y8 hB.size _)
    exact⟨A2,n2,c2,l2,rfl,hi2,hr2,hB1.trans (hb2.mono hB1.size)⟩
def zWD(w:WB)(l l':List Nat)(N:Nat)(v o i:WE)(W:WB):Prop:=
 ∃(k u:Nat) (A:WG Addr) (c:Nat) (lo:List Nat),k<=N/\i=.int .i64 k/\o=.int .u64 u/\v=.slice A k c/\u<=1/\yB W w.heap.size 69 (.slice A k c) lo/\lo.length=k/\Lt lo/\
  sm (lm l) k+u*BB^k=val lo+sm (lm l') k/\Below w.heap.size w W
theorem zIr(x y u:Nat)(hx:x<4294967296)(hy:y<4294967296)(hu:u<=1):
  ∃d z t u':Nat,(x:Int)+4294967296-(y:Int)-(u:Int)=(d:Int)/\(d:Int)%4294967296=(z:Int)/\(d:Int)/4294967296=(t:Int)/\(1:Int)-(t:Int)=(u':Int)/\z<4294967296/\u'<=1/\d<=8589934591/\t<=1/\x+u'*4294967296=z+y+u:=by
 refine⟨x+4294967296-y-u,(x+4294967296-y-u)%4294967296,(x+4294967296-y-u)/4294967296,1-(x+4294967296-y-u)/4294967296,?_,?_,?_,?_,?_,?_,?_,?_,?_⟩<;>omega
theorem zHe(A:WG Addr)(n c:Nat)(l:List Nat)(A':WG Addr)(n' c':Nat)(l':List Nat)(w:WB)(h:Rd w A n c l)(h':Rd w A' n' c' l')(ht:Lt l)(ht':Lt l')(hge:val l'<=val l)(hn:n<=137438953472):
  Calls prog 115 #[.slice A n c,.slice A' n' c'] w fun e w'=>∃A1 n1 c1 l1,e=.returned (.tuple #[.slice A1 n1 c1,.int .i64 0])/\Is l1 (val l-val l')/\Rd w' A1 n1 c1 l1/\Below w.heap.size w w':=by
 have hle:=h.le;have hcap:=h.cap;have hle':=h'.le;have hcap':=h'.cap
 have hcmp:decide (zAP (val l) (val l')<0)=false:=by
  unfold zAP
  rw[if_neg oA]
  split<;>simp
 have HN:Hid (l.length=n/\sm (lm l') n=val l'):=hid ⟨h.len,zJk (nF hge (by have:=q8 ht;rwa [h.len]at this))⟩
 have HG:=hid hge
 clear hge
 go_enter func115,ntmps115
 go_wp2_with (go_at_call 114;refine(zE3 A n c l A' n' c' l' _ h h' ht ht').mono ?_;rintro e w1 ⟨rfl,rfl⟩)
 go_loopw [6,7,8] (zWD w l l' n) (fun _ _ i _=>n-(intOf i).toNat)
 case atStart=>exact⟨0,0,none,0, [],vR _,rfl,rfl,rfl,by omega,wV _ _ _,rfl,zB4,by simp[sm],xF _ _⟩
 case round=>
  obtain⟨k,u,Ao,co,lo,hk,rfl,rfl,rfl,hu1,hown,hlk,hlt,heq,hB⟩:=hrel
  have HQ:=hid heq
  clear heq
  have hr:=h.below hB;have hr':=h'.below hB
  have x1:=qR ht k;have x2:=qR ht' k
  simp only[BB]at x1 x2
  by_cases h0:k<n
  .obtain⟨d,z,t,u',hd,hz,htt,hu',hz1,hu1',hd1,ht1,hstep⟩:=zIr (lm l k) (lm l' k) u x1 x2 hu1
   have HS:=hid hstep
   clear hstep
   have hs1:lo.length+ [z].length<=17592186044416:=by simp;omega
   have hl1:(lo++ [z]).length=k+1:=by simp;omega
   go_wp2_with (first|(go_at_call 139;first|((with_reducible refine(zAh A _ c l _ _ hr ht (mW k)).mono ?_);rintro e w1 ⟨rfl,rfl⟩)|((with_reducible refine(zAh A' _ c' l' _ _ hr' ht' (mW k)).mono ?_);rintro e w1 ⟨rfl,rfl⟩))|(at_builtin;refine zS rfl _ _ 24 69 rfl z7 yQ w.heap.size _ lo rfl (yB.alloc hown _) _ 1 1 [z] rfl (Rd.one _ z 69) hs1 (y8 hB.size _) ?_;intro v1 w1 hown1 hg1 hat1;obtain⟨A1,c1,rfl⟩:=hown1.form' hl1))
   go_roundw
   case rel=>exact⟨k+1,u',A1,c1,lo++ [z],by omega,by go_num,rfl,rfl,hu1',hown1,hl1,zBh hlt hz1,by rw[zAo,hlk];simp only[sm,vY];exact zG4 HQ.out HS.out,yB.grown (hB.alloc hB.size _) (yB.alloc hown _) hg1 (vP _) (y8 hB.size _)⟩
   case measure=>simp[intOf];omega
  .obtain rfl:k=n:=by omega
   have hk1:k<=1099511627776:=by omega
   go_wp2_with (go_at_call 40;refine(jR _ _ _ _ _ hown.rd hlt hk1).mono ?_;rintro e w2 ⟨A2,n2,c2,l2,rfl,hi2,hr2,hb2⟩)
   go_ret2
   have e1:=zAZ (l:=l) (n:=k) (by have:=HN.out;omega)
   have e2:=HN.out.2
   have e3:=q8 hlt
   have e4:=HQ.out
   have e5:=HG.out
   rw[hlk]at e3
   rw[e1,e2]at e4
   have hu0:u=0:=by
    rcases bF 0 u with h0|h0
    .have:u=1:=by omega
     subst this
     omega
    .omega
   subst hu0
   have hv2:val lo=val l-val l':=by omega
   rw[hv2]at hi2
   exact⟨A2,n2,c2,l2,rfl,hi2,hr2,hB.trans (hb2.mono hB.size)⟩
theorem zFD(A:WG Addr)(n c:Nat)(l:List Nat)(A':WG Addr)(n' c':Nat)(l':List Nat)(w:WB)(h:Rd w A n c l)(h':Rd w A' n' c' l')(ht:Lt l)(ht':Lt l')(hlt:val l<val l'):
  Calls prog 115 #[.slice A n c,.slice A' n' c'] w fun e w'=>e=.returned (.tuple #[.slice none 0 0,.int .i64 10])/\w=w':=by
 have hcmp:decide (zAP (val l) (val l')<0)=true:=by rw[zH3 hlt];rfl
 go_enter func115,ntmps115
 go_wp2_with (go_at_call 114;refine(zE3 A n c l A' n' c' l' _ h h' ht ht').mono ?_;rintro e w1 ⟨rfl,rfl⟩)
 go_ret2
 exact⟨rfl,rfl⟩
def LIM:Nat:=68719476736
def zYi(w:WB)(ls:List (List Nat))(n:Nat)(v i:WE)(W:WB):Prop:=
 ∃(k:Nat) (A:WG Addr) (m c:Nat) (lo:List Nat),k<=n/\i=.int .i64 k/\v=.slice A m c/\Rd W A m c lo/\Lt lo/\val lo=zFu ls k/\m<=68719476736+k/\Below w.heap.size w W
theorem zPm(h:∀l,l∈ls->val l<b)(hn:n<=ls.length):zFu ls n<=n*b:=by
 induction n with
 |zero=>rw[zEv];omega
 |succ n ih=>
  have I:ls[n]?=some ls[n]:=nG oA
  rw[zDl I,vT]
  have:=h _ (uY (l:=ls) (n:=n) oA)
  have:=ih oA
  omega
theorem zE4(A:WG Addr)(n c:Nat)(ls:List (List Nat))(w:WB)(h:Rds w A n ls)(hn:n<=1000):
  Calls prog 111 #[.slice A n c] w (jK w (ls.map val).sum):=by
 have HL:Hid (ls.length=n):=hid h.len
 have HT:Hid (∀l,l∈ls->val l<BB^LIM):=hid fun l hl=>by
  obtain⟨i,hi,rfl⟩:=pA hl
  obtain⟨b,o,Ai,ni,ci,li,_,_,h1,h2,h3,h4⟩:=h.cells i (by rw[<-h.len];exact hi)
  rw[nG hi]at h1
  injection h1 with h1
  rw[h1]
  exact vU (q8 h3) (vZ qC (by rw[h2.len];exact h4))
 go_enter func111,ntmps111
 go_wp2
 go_loopw [3,4] (zYi w ls n) (fun _ i _=>n-(intOf i).toNat)
 case atStart=>exact⟨0,none,0,0, [],vR _,rfl,rfl,wM _,zB4,by rw[zEv];rfl,by omega,xF _ _⟩
 case round=>
  obtain⟨k,Ao,m,co,lo,hk,rfl,rfl,hr,hlt,hv,hm,hB⟩:=hrel
  have HV:=hid hv
  clear hv
  by_cases h0:k<n
  .obtain⟨b,o,Ai,ni,ci,la,rfl,hcell,hla,hra,hta,hni⟩:=h.cells k h0
   have hcW:=(hB.cell (p:=⟨b,o+k,none⟩) (zZ hcell)).trans hcell
   have hra1:=hra.below hB
   have HA:=hid hla
   clear hla
   have hm1:m<=137438953472:=by omega
   have hni1:ni<=137438953472:=by omega
   go_wp2_with (go_at_call 137;refine(zSy Ao m co lo Ai ni ci la _ hr hra1 hlt hta hm1 hni1).mono ?_;rintro e w2 ⟨A2,n2,c2,l2,rfl,hi2,hr2,hb2⟩)
   have hsum:val lo+val la=zFu ls (k+1):=by rw[zDl HA.out,HV.out]
   have hlen:n2<=68719476736+(k+1):=by
    rw[<-hr2.len]
    refine hi2.len ?_
    rw[hsum]
    have h1:=zPm HT.out (show k+1<=ls.length by rw[HL.out];omega)
    have h2:k+1<BB^(k+1):=Nat.lt_pow_self (by decide)
    rw[show 68719476736+(k+1)=LIM+(k+1)from rfl,uA,vS (BB^LIM)]
    exact nF h1 ((Nat.mul_lt_mul_right (zCC _)).2 h2)
   go_roundw
   case rel=>exact⟨k+1,A2,n2,c2,l2,by omega,by go_num,rfl,hr2,hi2.lt,by rw[hi2.val,hsum],hlen,hB.trans (hb2.mono hB.size)⟩
   case measure=>simp[intOf];omega
  .obtain rfl:k=n:=by omega
   have hm1:m<=1099511627776:=by omega
   go_wp2_with (go_at_call 40;refine(jR _ _ _ _ _ hr hlt hm1).mono ?_;rintro e w2 ⟨A2,n2,c2,l2,rfl,hi2,hr2,hb2⟩)
   go_ret
   rw[HV.out,zIf HL.out]at hi2
   exact⟨A2,n2,c2,l2,rfl,hi2,hr2,hB.trans (hb2.mono hB.size)⟩
def zUw(l:List Nat)(n:Nat)(v i:WE):Prop:=∃k x:Nat,k<=n/\i=.int .i64 ((k:Int)-1)/\v=.int .u64 x/\x=val (l.drop k)
theorem zLJ(A:WG Addr)(n c:Nat)(l:List Nat)(w:WB)(h:Rd w A n c l)(ht:Lt l)(hl:n<=1099511627776):
  Calls prog 82 #[.slice A n c] w fun e w'=>e=.returned (.tuple #[.int .u64 (zJ (val l):Nat),.bool (yW (val l))])/\Below w.heap.size w w':=by
 go_enter func82,ntmps82
 go_wp2_with (go_at_call 40;refine(jR _ _ _ _ _ h ht hl).mono ?_;rintro e w2 ⟨A2,n2,c2,l2,rfl,hi2,hr2,hb2⟩)
 .have h2:(2:Int)<n2:=by assumption
  go_ret2
  have hlen:=hr2.len
  have hne:l2≠ []:=by intro e;subst e;simp at hlen;omega
  have h3:=zIc hi2.tr hne
  have h4:BB^2<=BB^(l2.length-1):=vZ qC oA
  have h5:BB^2=18446744073709551616:=by decide
  rw[hi2.val]at h3
  refine⟨?_,hb2⟩
  rw[show zJ (val l)=0 from if_neg oA,show yW (val l)=false from xY oA]
  rfl
 .have h2:(n2:Int)<=2:=by assumption
  have hlen:=hid hr2.len
  have hle:=hr2.le;have hcap:=hr2.cap
  go_loop [5,6] (zUw l2 n2) (fun _ x=>(intOf x+1).toNat)
  case atStart=>exact⟨n2,0,vP _,rfl,rfl,by rw[<-hlen.out,List.drop_length];rfl⟩
  case round=>
   obtain⟨k,x,hk,rfl,rfl,hx⟩:=hrel
   have HX:=hid hx
   clear hx
   by_cases h0:0<k
   .obtain⟨b,o,rfl,hc⟩:=hr2.cells (k-1) oA
    have e1:((k:Int)-1).toNat=k-1:=by omega
    have x1:=qR hi2.lt (k-1)
    have x2:x<BB^1:=by
     rw[HX.out]
     exact vU (zJl hi2.lt k) (vZ qC (by rw[hlen.out];omega))
    simp only[BB,Nat.pow_one]at x1 x2
    go_wp2
    go_round
    case rel=>exact⟨k-1,x*4294967296+lm l2 (k-1),by omega,by congr 1;omega,by congr 1,by
     have hd:=zBN (l:=l2) (k:=k-1) (by rw[hlen.out];omega)
     rw[show k-1+1=k from by omega,<-HX.out]at hd
     rw[hd,vS BB]
     simp only[BB]
     omega⟩
    case measure=>simp[intOf];omega
   .obtain rfl:k=0:=by omega
    go_wp2
    go_ret2
    have h5:=q8 hi2.lt
    have h4:BB^l2.length<=BB^2:=vZ qC (by rw[hlen.out];omega)
    have h6:BB^2=18446744073709551616:=by decide
    have h7:=HX.out
    rw[nN,hi2.val]at h7
    rw[hi2.val]at h5
    refine⟨?_,hb2⟩
    rw[show zJ (val l)=val l from if_pos oA,show yW (val l)=true from lI oA,<-h7]
    rfl
theorem zGe(A:WG Addr)(n c k:Nat)(hk:k<=n)(w:WB):
  (Instr.slice 24 (.slice A n c) (some (.int .i64 (k:Int))) none none).run prog w=.ok (.slice (if c=k then A else A.map (·.add k)) (n-k) (c-k)) w:=by
 obtain⟨i,hi,hz,hs,hb⟩:=cZ yQ
 simp[Instr.slice,Instr.sliceBounds,bK z7,sizeOf,typeInfo,hi,hs,go_sem]
 omega
theorem zJ6(h:Below B w W)(k:Nat):Below B w (W.drewN k):=⟨h.os,h.tape,h.output,h.size,h.block⟩
theorem zP4(k:Nat)(hk2:k<=9223372036854775807)(w:WB):
  Calls prog 38 #[.int .i64 k] w (q6 w k):=by
 have hk0:(0:Int)<=k:=mW k
 go_enter func38,ntmps38
 go_wp2_with (go_at_call 68;refine(zJx k oA _).mono ?_;rintro e w1 ⟨A2,n2,c2,l2,rfl,hi2,hr2,hb⟩;have hq:=zLL hb (b:=w.heap.size) rfl;obtain⟨⟨q0,q1⟩,q2,q3⟩:=hq.facts2)
 obtain⟨⟨c0,c1⟩,_,_⟩:=((hq.set 0 (.bool (decide ((k:Int)<0)))).set 1 (.slice A2 n2 c2)).facts2
 rw[show(Value.bool false)=.bool (decide ((k:Int)<0))from by rw[xY oA]]at*
 exact nM (v:=.agg #[.bool (decide ((k:Int)<0)),.slice A2 n2 c2]) (by simp[results,results38,go_sem,c0,c1]) rfl<|zIt hq (((xF _ w).alloc (vP _) _).trans (hb.mono fE)) fE hi2 hr2
theorem zP5(k:Nat)(hk0:0<k)(hk2:k<=9223372036854775808)(w:WB):
  Calls prog 38 #[.int .i64 (-(k:Int))] w (q6 w (-(k:Int))):=by
 have hk1:(-(k:Int))<0:=by omega
 have hww: -(-(k:Int)+1)+1=(k:Int):=by omega
 have hw1:=mX (k:Int) oA
 have hw2:=mX (-(-(k:Int)+1)) oA
 have hw3:=IntWalk.i64_in (-(-(k:Int)+1)) oA
 have hw4:=IntWalk.i64_in (-(k:Int)+1) oA
 go_enter func38,ntmps38
 go_wp2_with (go_at_call 68;refine(zJx k oA _).mono ?_;rintro e w1 ⟨A2,n2,c2,l2,rfl,hi2,hr2,hb⟩;have hq:=zLL hb (b:=w.heap.size) rfl;obtain⟨⟨q0,q1⟩,q2,q3⟩:=hq.facts2)
 obtain⟨⟨c0,c1⟩,_,_⟩:=((hq.set 0 (.bool true)).set 1 (.slice A2 n2 c2)).facts2
 refine nM (v:=.agg #[.bool true,.slice A2 n2 c2]) (by simp[results,results38,go_sem,c0,c1]) rfl ?_
 have e1:decide (-(k:Int)<0)=true:=lI hk1
 have:=zIt (v:= -(k:Int)) hq (((xF _ w).alloc (vP _) _).trans (hb.mono fE)) fE (by simpa using hi2) hr2
 rw[e1]at this
 exact this
theorem zKG(k:Int)(hk: -9223372036854775808<=k)(hk2:k<=9223372036854775807)(w:WB):
  Calls prog 38 #[.int .i64 k] w (q6 w k):=by
 rcases(by omega:0<=k∨k<0)with h|h
 .obtain⟨m,rfl⟩:=lL h
  exact zP4 m oA w
 .obtain⟨m,hm⟩:=lL (show 0<=-k by omega)
  obtain rfl:k= -(m:Int):=by omega
  exact zP5 m oA oA w
theorem zAE(s:Bool)(A:WG Addr)(n c:Nat)(l:List Nat)(w:WB)(h:Rd w A n c l)(ht:Lt l)(hl:n<=1099511627776):
    Calls prog 69 #[.agg #[.bool s,.slice A n c]] w (q6 w (iv s l)):=by
  go_enter func69,ntmps69
  go_wp2_with (go_at_call 40;refine(jR A n c l _ ((h.alloc _).alloc _) ht hl).mono ?_;rintro e w1 ⟨A2,n2,c2,l2,rfl,hi2,hr2,hb⟩;have hq:=zLL hb (b:=w.heap.size+1) fE;obtain⟨⟨q0,q1⟩,q2,q3⟩:=hq.facts2;have hp:=((jD.new w 26 #[.bool s,.slice A n c]).alloc (.cells #[.bool false,.slice none 0 0] 26)).kept hb;obtain⟨⟨p0,p1⟩,p2,p3⟩:=hp.facts2)
  all_goals
    have hle:=hr2.len;have hz:=hi2.zero_iff
    have hb1:Below w.heap.size w w1:=(((xF _ w).alloc (vP _) _).alloc fE _).trans (hb.mono (by simp;omega))
    have fin:∀x:Bool,x=decide (iv s l<0)->jD ((w1.setCell ⟨w.heap.size+1,0,none⟩ (.bool x)).setCell ⟨w.heap.size+1,1,none⟩ (.slice A2 n2 c2)) (w.heap.size+1) 26 #[.bool x,.slice A2 n2 c2]/\q6 w (iv s l) (.returned (.agg #[.bool x,.slice A2 n2 c2])) ((w1.setCell ⟨w.heap.size+1,0,none⟩ (.bool x)).setCell ⟨w.heap.size+1,1,none⟩ (.slice A2 n2 c2)):=by
      rintro x rfl
      exact⟨(hq.set 0 _).set 1 _,zIt hq hb1 fE (by rw[zOh];exact hi2) hr2⟩
    first
      | (obtain⟨hbx,hret⟩:=fin false (by rw[<-zOf];simp_all)
         obtain⟨⟨c0,c1⟩,_,_⟩:=hbx.facts2
         refine nM (v:=.agg #[.bool false,.slice A2 n2 c2]) (by simp[results,results69,go_sem,c0,c1]) rfl hret)
      | (have hd:decide (0<n2)=(s&& !(val l==0)):=by
           by_cases e:n2=0
           . rw[hz.2 oA,e];simp
           . rw[lI oA,nJ.2 (fun h=>e (by have:=hz.1 h;omega))];simp_all
         obtain⟨hbx,hret⟩:=fin (decide (0<n2)) (by rw[<-zOf];exact hd)
         obtain⟨⟨c0,c1⟩,_,_⟩:=hbx.facts2
         refine nM (v:=.agg #[.bool (decide (0<n2)),.slice A2 n2 c2]) (by simp[results,results69,go_sem,c0,c1]) rfl hret)
      |go_show
theorem zLQ(s:Bool)(A:WG Addr)(n c:Nat)(l:List Nat)(s':Bool)(A':WG Addr)(n' c':Nat)(l':List Nat)(w:WB)(h:Rd w A n c l)(h':Rd w A' n' c' l'):
  Calls prog 98 #[.agg #[.bool s,.slice A n c],.agg #[.bool s',.slice A' n' c']] w fun e w'=>e=.returned (.bool (s==s'&&decide (l=l')))/\Below w.heap.size w w':=by
 go_enter func98,ntmps98
 have hb0:=((xF _ w).alloc (vP _) (.cells #[.bool s,.slice A n c] 26)).alloc fE (.cells #[.bool s',.slice A' n' c'] 26)
 by_cases hs:s=s'
 .subst hs
  go_wp2_with (go_at_call 99;refine(zIs A n c l A' n' c' l' _ (h.below hb0) (h'.below hb0)).mono ?_;rintro e w1 ⟨rfl,nq,rfl⟩)
  all_goals
   go_ret
   exact⟨by simp,zJ6 hb0 nq⟩
 .have hs1:(s==s')=false:=nJ.2 hs
  go_wp2
  all_goals
   go_ret
   exact⟨by simp[hs1],hb0⟩
attribute [local go_sem] Oper.semAt_some qL yG
end Go.Proofs.Wd
