/- Walks of package nat: Sub, Add; The walk of nat.Add; Walks of package  and what it needs. -/
import Derived.Test.YtihcepanbejfpaaGreatDoorMEW5
theorem kA{P:Prop}(h:P:=by kernel_rfl):P:=h
theorem fD{α β:Sort _}{γ:α->β->Sort _}{p:(a:α)->(b:β)->γ a b->Prop}(a:α)(b:β)(c:γ a b)(h:p a b c):p a b c:=h
theorem fE{P:Prop}(h:P:=by simp):P:=h
abbrev nD:=@Nat.lt_of_le_of_lt
abbrev nE:=@List.getElem?_eq_getElem
abbrev nF:=@of_decide_eq_false
abbrev nG:=@List.sum_cons
abbrev nH:=@beq_eq_false_iff_ne
abbrev nI:=@Go.bodyPost_ret
abbrev nJ:=@List.drop_zero
abbrev nK:=@List.take_of_length_le
abbrev nL:=@Nat.le_of_lt
abbrev nM:=@Option.some.inj
abbrev nN:=@List.sum_nil
abbrev nO:=@Go.IntKind.wrap_u64
abbrev nP:=@and_true
abbrev nQ:=@Go.World.cell?_setCell_other
abbrev nR:=@Nat.sub_le
abbrev nS:=@Int.sign_eq_neg_one_of_neg
abbrev nT:=@Int.sign_eq_one_of_pos
abbrev nU:=@Int.lt_trichotomy
abbrev nV:=@Nat.le_of_eq
abbrev nW:=@List.take_add_one
abbrev nX:=@Array.getElem_modify_self
abbrev nY:=@List.getElem_of_mem
theorem fP{P:Prop}(h:P:=by first|omega|decide):P:=h
namespace Go.Proofs.Wd
open Tryz
variable {ls:List (List Nat)}{k:Int}{l l':List Nat}{B C b c m m' n:Nat}{x y:WE}{s s':Bool}{W W' w w' w1:WB}{t:WF}{vs:Array WE}{A:WG Addr}{is:List (Bool×List Nat)}{S:Nat->Prop}{row:WG Nat}
set_option maxRecDepth 100000
set_option maxHeartbeats 2000000
open Go.RowKit Lb
theorem hmix:prog.follows .mixedOrders=true:=fJ
theorem zWJ:Enters prog 6:=enters_of func6 kA rfl
theorem zZG:Enters prog 7:=enters_of func7 kA rfl
theorem zWB:Enters prog 8:=enters_of func8 kA rfl
theorem zYj:Enters prog 9:=enters_of func9 kA rfl
theorem zGM:Enters prog 10:=enters_of func10 kA rfl
theorem zYM:Enters prog 11:=enters_of func11 kA rfl
theorem zPd:Enters prog 12:=enters_of func12 kA rfl
theorem zKs:Enters prog 13:=enters_of func13 kA rfl
theorem zYL:Enters prog 14:=enters_of func14 kA rfl
theorem zYK:Enters prog 15:=enters_of func15 kA rfl
theorem zPb:Enters prog 16:=enters_of func16 kA rfl
theorem zWT:Enters prog 17:=enters_of func17 kA rfl
theorem zYJ:Enters prog 18:=enters_of func18 kA rfl
theorem zWS:Enters prog 19:=enters_of func19 kA rfl
theorem zWR:Enters prog 22:=enters_of func22 kA rfl
theorem zYI:Enters prog 24:=enters_of func24 kA rfl
theorem zYH:Enters prog 25:=enters_of func25 kA rfl
theorem zYG:Enters prog 26:=enters_of func26 kA rfl
theorem zYF:Enters prog 27:=enters_of func27 kA rfl
theorem zWQ:Enters prog 28:=enters_of func28 kA rfl
theorem zFl:Enters prog 29:=enters_of func29 kA rfl
theorem zYE:Enters prog 30:=enters_of func30 kA rfl
theorem zPa:Enters prog 31:=enters_of func31 kA rfl
theorem zO9:Enters prog 32:=enters_of func32 kA rfl
theorem zWP:Enters prog 33:=enters_of func33 kA rfl
theorem zYD:Enters prog 34:=enters_of func34 kA rfl
theorem zWO:Enters prog 35:=enters_of func35 kA rfl
theorem zUP:Enters prog 36:=enters_of func36 kA rfl
theorem zWN:Enters prog 37:=enters_of func37 kA rfl
theorem zYC:Enters prog 38:=enters_of func38 kA rfl
theorem zMF:Enters prog 39:=enters_of func39 kA rfl
theorem zRD:Enters prog 40:=enters_of func40 kA rfl
theorem zWM:Enters prog 41:=enters_of func41 kA rfl
theorem zYB:Enters prog 42:=enters_of func42 kA rfl
theorem zIp:Enters prog 43:=enters_of func43 kA rfl
theorem zUO:Enters prog 44:=enters_of func44 kA rfl
theorem zYA:Enters prog 45:=enters_of func45 kA rfl
theorem zJC:Enters prog 46:=enters_of func46 kA rfl
theorem zYz:Enters prog 47:=enters_of func47 kA rfl
theorem zYy:Enters prog 48:=enters_of func48 kA rfl
theorem zWL:Enters prog 49:=enters_of func49 kA rfl
theorem zUN:Enters prog 51:=enters_of func51 kA rfl
theorem zUM:Enters prog 52:=enters_of func52 kA rfl
theorem zUL:Enters prog 53:=enters_of func53 kA rfl
theorem zRC:Enters prog 54:=enters_of func54 kA rfl
theorem zRB:Enters prog 55:=enters_of func55 kA rfl
theorem zME:Enters prog 56:=enters_of func56 kA rfl
theorem zUK:Enters prog 57:=enters_of func57 kA rfl
theorem zJB:Enters prog 58:=enters_of func58 kA rfl
theorem zWK:Enters prog 59:=enters_of func59 kA rfl
theorem zWI:Enters prog 60:=enters_of func60 kA rfl
theorem zYx:Enters prog 61:=enters_of func61 kA rfl
theorem zYw:Enters prog 62:=enters_of func62 kA rfl
theorem zYv:Enters prog 63:=enters_of func63 kA rfl
theorem zWH:Enters prog 64:=enters_of func64 kA rfl
theorem zWG:Enters prog 65:=enters_of func65 kA rfl
theorem zWF:Enters prog 66:=enters_of func66 kA rfl
theorem zWE:Enters prog 68:=enters_of func68 kA rfl
theorem zUJ:Enters prog 69:=enters_of func69 kA rfl
theorem zYu:Enters prog 70:=enters_of func70 kA rfl
theorem zRA:Enters prog 71:=enters_of func71 kA rfl
theorem zYt:Enters prog 72:=enters_of func72 kA rfl
theorem zYs:Enters prog 73:=enters_of func73 kA rfl
theorem zWD:Enters prog 74:=enters_of func74 kA rfl
theorem zWC:Enters prog 75:=enters_of func75 kA rfl
theorem zYr:Enters prog 76:=enters_of func76 kA rfl
theorem zYq:Enters prog 79:=enters_of func79 kA rfl
theorem zWA:Enters prog 80:=enters_of func80 kA rfl
theorem zYp:Enters prog 81:=enters_of func81 kA rfl
theorem zWz:Enters prog 82:=enters_of func82 kA rfl
theorem zYo:Enters prog 83:=enters_of func83 kA rfl
theorem zYn:Enters prog 84:=enters_of func84 kA rfl
theorem zWy:Enters prog 85:=enters_of func85 kA rfl
theorem zYm:Enters prog 86:=enters_of func86 kA rfl
theorem zYl:Enters prog 87:=enters_of func87 kA rfl
theorem zYk:Enters prog 88:=enters_of func88 kA rfl
theorem zRz:Enters prog 89:=enters_of func89 kA rfl
theorem zWx:Enters prog 90:=enters_of func90 kA rfl
theorem zYi:Enters prog 91:=enters_of func91 kA rfl
theorem zWw:Enters prog 92:=enters_of func92 kA rfl
theorem zWv:Enters prog 93:=enters_of func93 kA rfl
theorem zWu:Enters prog 94:=enters_of func94 kA rfl
theorem zYh:Enters prog 95:=enters_of func95 kA rfl
theorem zWt:Enters prog 97:=enters_of func97 kA rfl
theorem zYg:Enters prog 98:=enters_of func98 kA rfl
theorem zYf:Enters prog 99:=enters_of func99 kA rfl
theorem zJE:Enters prog 102:=enters_of func102 kA rfl
theorem zW7:Enters prog 103:=enters_of func103 kA rfl
theorem zJD:Enters prog 104:=enters_of func104 kA rfl
theorem zLR:Enters prog 105:=enters_of func105 kA rfl
theorem zSQ:Enters prog 106:=enters_of func106 kA rfl
theorem zPe:Enters prog 107:=enters_of func107 kA rfl
theorem zW6:Enters prog 108:=enters_of func108 kA rfl
theorem zW5:Enters prog 117:=enters_of func117 kA rfl
theorem zW4:Enters prog 118:=enters_of func118 kA rfl
theorem zW3:Enters prog 119:=enters_of func119 kA rfl
theorem zW2:Enters prog 120:=enters_of func120 kA rfl
theorem zW1:Enters prog 121:=enters_of func121 kA rfl
theorem zSP:Enters prog 123:=enters_of func123 kA rfl
theorem zSO:Enters prog 124:=enters_of func124 kA rfl
theorem zPc:Enters prog 129:=enters_of func129 kA rfl
theorem zW0:Enters prog 130:=enters_of func130 kA rfl
theorem zWZ:Enters prog 131:=enters_of func131 kA rfl
theorem zLQ:Enters prog 132:=enters_of func132 kA rfl
theorem zSN:Enters prog 133:=enters_of func133 kA rfl
theorem zWY:Enters prog 134:=enters_of func134 kA rfl
theorem zWX:Enters prog 135:=enters_of func135 kA rfl
theorem zWW:Enters prog 136:=enters_of func136 kA rfl
theorem zWV:Enters prog 140:=enters_of func140 kA rfl
theorem zWU:Enters prog 142:=enters_of func142 kA rfl
attribute [local go_sem] Oper.semAt_some qL yG
def zZk(w:WB)(l l':List Nat)(k:Nat)(W:WB):Prop:=
 ∃v lo,∃u:Nat,Boxed W w.heap.size 24 v/\yE W (w.heap.size+4) 69 v lo/\lo.length=k/\Lt lo/\Boxed W (w.heap.size+1) 91 (.int .u64 u)/\u<=1/\
  sm (lm l) k+u*BB^k=val lo+sm (lm l') k/\Below w.heap.size w W/\w.heap.size+4<=W.heap.size
theorem zKV(w:WB)(l l':List Nat){C:Nat}(hC:w.heap.size<=C):OwnFrom C (zZk w l l'):=by
 rintro k W W' row ⟨v,lo,u,hv,J,h0,U,hu,h5,h1,hB,h4⟩ I O
 exact⟨v,lo,u,qR hv I O,zJj J I O,h0,U,qR hu I O,h5,h1,zAA hB I (vQ _) hC O,xR h4 I.size⟩
theorem zQa(x y u:Nat)(hx:x<4294967296)(hy:y<4294967296)(hu:u<=1):
  ∃d z u':Nat,IntKind.u64.wrap (IntKind.u64.wrap ((x:Int)-(y:Int))-(u:Int))=(d:Int)/\(d:Int)%4294967296=(z:Int)/\(d:Int)/9223372036854775808=(u':Int)/\z<4294967296/\u'<=1/\x+u'*4294967296=z+y+u:=by
 have e:IntKind.u64.wrap (IntKind.u64.wrap ((x:Int)-(y:Int))-(u:Int))=((x:Int)-y-u)%18446744073709551616:=by
  rw[nO,nO];omega
 by_cases h:y+u<=x
 .exact⟨x-y-u,x-y-u,0,by rw[e];omega,oA,oA,oA,oA,oA⟩
 .exact⟨18446744073709551616+x-y-u,4294967296+x-y-u,1,by rw[e];omega,oA,oA,oA,oA,oA⟩
theorem zJX(A:WG Addr)(n c:Nat)(l:List Nat)(A':WG Addr)(n' c':Nat)(l':List Nat)(w:WB)(h:Rd w A n c l)(h':Rd w A' n' c' l')(ht:Lt l)(ht':Lt l')(hge:val l'<=val l)(hn:n<=1099511627776)(hn':n'<=1099511627776):
  Calls prog 146 #[.slice A n c,.slice A' n' c'] w fun e w'=>∃A1 n1 c1 l1,e=.returned (.tuple #[.slice A1 n1 c1,.int .i64 0])/\Is l1 (val l-val l')/\Rd w' A1 n1 c1 l1/\Below w.heap.size w w':=by
 have hle:=h.le;have hcap:=h.cap;have hle':=h'.le;have hcap':=h'.cap
 have hcmp:decide (zAN (val l) (val l')<0)=false:=by
  unfold zAN
  rw[if_neg oA]
  split<;>simp
 obtain⟨N,hmx,hN⟩:∃N,((n<n'/\n'=N)∨(¬n<n'/\n=N))/\n<=N/\n'<=N/\N<=1099511627776:=by
  by_cases hh:n<n'
  .exact⟨n',.inl ⟨hh,rfl⟩,oA⟩
  .exact⟨n,.inr ⟨hh,rfl⟩,oA⟩
 refine q6 func146 rfl ?_
 simp only[ntmps146,bN,mO,mP,Nat.reduceAdd,Nat.reduceSub,mQ,mR,mS,mT,lI,mM]
 go_wp2_with (first|(go_at_call 152;refine(zGx A n c l A' n' c' l' _ h h' ht ht').mono ?_;rintro e w1 ⟨rfl,rfl⟩)|(go_at_call 148;refine(zJh A n c A' n' c' _).mono ?_;rintro e w1 ⟨rfl,rfl⟩))
 obtain⟨W0,hW0⟩:∃W0,((((w.alloc (.cells #[.slice none 0 0] 24)).alloc (.cells #[.int .u64 0] 91)).alloc (.cells #[.slice A n c] 24)).alloc (.cells #[.slice A' n' c'] 24))=W0:=⟨_,rfl⟩
 have hsz:W0.heap.size=w.heap.size+4:=by rw[<-hW0];simp
 have hB0:Below w.heap.size w W0:=by rw[<-hW0];exact((((xG _ w).alloc (vQ _) _).alloc fE _).alloc fM _).alloc fM _
 have bx0:Boxed W0 w.heap.size 24 (.slice none 0 0):=by rw[<-hW0];exact(((cJ w _ _).alloc _).alloc _).alloc _
 have bx1:Boxed W0 (w.heap.size+1) 91 (.int .u64 0):=by
  rw[<-hW0];have:=cJ (w.alloc (.cells #[.slice none 0 0] 24)) 91 (.int .u64 0);rw[cK]at this;exact(this.alloc _).alloc _
 have bx2:Boxed W0 (w.heap.size+1+1) 24 (.slice A n c):=by
  rw[<-hW0];have:=cJ ((w.alloc (.cells #[.slice none 0 0] 24)).alloc (.cells #[.int .u64 0] 91)) 24 (.slice A n c);rw[cK,cK]at this;exact this.alloc _
 have bx3:Boxed W0 (w.heap.size+1+1+1) 24 (.slice A' n' c'):=by
  rw[<-hW0];have:=cJ (((w.alloc (.cells #[.slice none 0 0] 24)).alloc (.cells #[.int .u64 0] 91)).alloc (.cells #[.slice A n c] 24)) 24 (.slice A' n' c');rw[cK,cK,cK]at this;exact this
 rw[hW0]
 clear hW0
 refine zFp (gf:=154) rfl (enters_of func154 kA rfl) (zGb A n c l A' n' c' l' (w.heap.size+1+1) (w.heap.size+1+1+1) N W0 (h.below hB0) (h'.below hB0) ht ht' bx2.cell bx3.cell hmx (S:=fun b=>b<w.heap.size∨b=w.heap.size+2∨b=w.heap.size+3) (fun b hb=>oA) (.inr (.inl rfl)) (.inr (.inr rfl)) (fun b o hn e=>.inl (h.in_ b o hn e)) (fun b o hn e=>.inl (h'.in_ b o hn e))) (fun _=>rfl) y8.trans (zEZ (fun b hb=>oA))
  (zZk w l l') ?hI ?hF wT (fun _ _ _ _ _ _ _ _=>trivial) ?h0
  (fun k=>{ tmps:=#[.slice A n c,.slice A' n' c',undef,undef,.slice none 0 0,.int .i64 0,.pointer (some ⟨w.heap.size,0,none⟩),.pointer (some ⟨w.heap.size+1,0,none⟩),.int .u64 (lm l k:Nat),.int .u64 (lm l' k:Nat),undef,.slice A n c,.slice A' n' c',.int .i64 (zAN (val l) (val l')),.bool false,.slice A n c,.slice A' n' c',.func (.func 154) #[] #[.pointer (some ⟨w.heap.size+1+1,0,none⟩),.pointer (some ⟨w.heap.size+1+1+1,0,none⟩)],.int .u64 (lm l k:Nat),.int .u64 (lm l' k:Nat),undef,undef,undef,undef,undef,undef,undef,undef,undef,undef,undef,undef,undef,undef],defers:=[] }) ?assign ?body ?done
 case hI=>exact zKV w l l' oA
 case hF=>exact zCo (zKV w l l' (vQ _))
 case h0=>exact⟨_, [],0,bx0,wV _ _ _,rfl,zCp,bx1,oA,by simp[sm],hB0,oA⟩
 case assign=>
  intro lp k W K hK
  gi_wp2
  exact hK
 case body=>
  rintro lp k W hk ⟨v,lo,u,hv,hown,hlk,hlt,hu,hu1,heq,hB,hW4⟩
  have hcv:=hv.cell;have hfv:=hv.frozen;have hcu:=hu.cell;have hfu:=hu.frozen
  have x1:=qQ ht k;have x2:=qQ ht' k
  simp only[BB]at x1 x2
  obtain⟨d,z,u',hd,hz,hu',hz1,hu1',hstep⟩:=zQa (lm l k) (lm l' k) u x1 x2 hu1
  have HS:=hid hstep
  have hl1:(lo++ [z]).length=k+1:=fM
  have hsW:w.heap.size+4<=W.heap.size:=hW4
  have hSS:∀b,(b<w.heap.size∨b=w.heap.size+2∨b=w.heap.size+3)->b<W.heap.size/\some b≠v.ownBlock:=fun b hb=>⟨oA,hown.not_in oA⟩
  have hSo: ¬(w.heap.size<w.heap.size∨w.heap.size=w.heap.size+2∨w.heap.size=w.heap.size+3):=oA
  have hte:24≠69:=fH
  have hte':91≠69:=fH
  have hs1:lo.length+ [z].length<=17592186044416:=fM
  clear hstep
  gi_wp2_with (gi_at_builtin;go_must (refine zCe rfl _ _ 24 69 rfl yH yX (w.heap.size+4) v lo rfl (yE.alloc hown _) _ 1 1 [z] rfl (Rd.one _ z 69) hs1 (qI hsW _) ?_;intro v1 w1 hown1 hg1 hat1;obtain⟨A1,c1,rfl⟩:=hown1.form' hl1;obtain⟨hv1,hv2,hr2,hk2,hb2⟩:=zL5 hte hv hown hB.size (vQ _) (Nat.le_add_right _ 4) hown1 hg1;have hk3:=zOP (v':=.slice A1 (k+1) c1) hg1 hSS hSo;have hc1:=hv1.cell;have hf1:=hv1.frozen;have hu2:=zIt hte' hu hown hg1;have hc2:=hu2.cell;have hf2:=hu2.frozen))
  have hu3:=hu2.other (Nat.succ_ne_self w.heap.size) (.slice A1 (k+1) c1)
  refine⟨(hk2.trans (bR _ _ _)).from _,hk3.setCell (p:=⟨w.heap.size+1,0,none⟩) fE _,_,lo++ [z],u',hv2.other oA _,hr2.other hu3 hte' _,hl1,zBP hlt hz1,hu3.set _,hu1',?_,(hB.trans hb2).setCell (p:=⟨w.heap.size+1,0,none⟩) fE _,?_⟩
  .rw[zAX,hlk]
   simp only[sm,uA]
   exact zHu heq HS.out
  .exact xR hW4 ((hb2.setCell (p:=⟨w.heap.size+1,0,none⟩) fE _).size)
 case done=>
  rintro D W hD ⟨v,lo,u,hv,hown,hlk,hlt,hu,hu1,heq,hB,hW4⟩ _ hd
  obtain⟨A1,c1,rfl⟩:=hown.form' hlk
  have hcv:=hv.cell;have hfv:=hv.frozen
  go_wp2_with (go_at_call 124;refine(qX _ _ _ _ _ hown.rd hlt oA).mono ?_;rintro e w1 ⟨A2,n2,c2,l2,rfl,hi2,hr2,hb2⟩)
  have hd1:w1.heap[D]?=some (.deferred (some [])):=(hb2.block D (xQ.1 hd).1).trans hd
  have e1:=zBk (l:=l) (n:=N) (by rw[h.len];omega)
  have e2:=zBk (l:=l') (n:=N) (by rw[h'.len];omega)
  have e3:=qV hlt
  rw[hlk]at e3
  rw[e1,e2]at heq
  have hu0:u=0:=by
   rcases bJ 0 u with h0|h0
   .have:u=1:=oA
    subst this
    omega
   .omega
  subst hu0
  have hv2:val lo=val l-val l':=oA
  rw[hv2]at hi2
  refine⟨fG,.inl ⟨_,_,rfl,run_takeDeferred hd1,?_⟩⟩
  exact⟨_,results_tmp2 rfl _ _ _,A2,n2,c2,l2,rfl,hi2,hr2.other _ hd1 rfl,zKD (hB.trans (hb2.mono hB.size)) _ (xR hB.size hb2.size) oA⟩
attribute [local go_sem] Oper.semAt_some qL yG
def zFS(ls:List (List Nat))(k:Nat):Nat:=((ls.take k).map val).sum
theorem zEN(ls:List (List Nat)):zFS ls 0=0:=by simp[zFS]
theorem zEO{k:Nat}(h:ls[k]?=some l):zFS ls (k+1)=zFS ls k+val l:=by
 unfold zFS
 rw[nW,h]
 simp
theorem zIG(h:ls.length=n):zFS ls n=(ls.map val).sum:=by
 unfold zFS
 rw[nK oA]
theorem zRR(x y u:Nat)(hx:x<4294967296)(hy:y<4294967296)(hu:u<=1):
  ∃d z u':Nat,(u:Int)+((x:Int)+(y:Int))=(d:Int)/\(d:Int)%4294967296=(z:Int)/\(d:Int)/4294967296=(u':Int)/\z<4294967296/\u'<=1/\d<=8589934591/\x+y+u=z+u'*4294967296:=
 ⟨u+(x+y),(u+(x+y))%4294967296,(u+(x+y))/4294967296,oA,oA,oA,oA,oA,oA,oA⟩
theorem zL6{a lo P x y z u I:Nat}(heq:lo+u*P=a+b)(J:x+y+u=z+I*4294967296):lo+z*P+I*(P*4294967296)=a+x*P+(b+y*P):=by
 have h:=vR (·*P) J
 simp only[vU]at h
 have e:I*(P*4294967296)=I*4294967296*P:=by rw[vT P,vX]
 omega
def zMN(s m:Nat)(b:Nat):Prop:=b<s∨b=m+1∨b=m+1+1
def zZn(B s m:Nat)(w W1:WB)(ls la:List Nat)(ds:List Deferred)(Ds:List Nat)(k:Nat)(W:WB):Prop:=
 ∃v lo,∃u:Nat,Boxed W m 24 v/\yE W (s+1) 69 v lo/\lo.length=k/\Lt lo/\Boxed W s 91 (.int .u64 u)/\u<=1/\
  val lo+u*BB^k=sm (lm ls) k+sm (lm la) k/\Below B w W/\y8 (zMN s m) W1 W/\Marks B W ds Ds/\W1.heap.size<=W.heap.size
theorem zL7{s:Nat}{U:WB}{ls la:List Nat}{ds:List Deferred}{Ds:List Nat}(hB:B<=w.heap.size)(hsB:B<=s)(hs:s<=m)(hm:m+1+1<U.heap.size)(hD:∀D,D∈Ds->D<U.heap.size):OwnFrom U.heap.size (zZn B s m w U ls la ds Ds):=by
 rintro k W W' row ⟨v,lo,u,hv,O,h1,h0,hu,h6,h5,hb,hk,h7,h4⟩ I J
 refine⟨v,lo,u,qR hv I J,zJj O I J,h1,h0,qR hu I J,h6,h5,zAA hb I hB oA J,hk.grown I (fun b hb=>⟨?_,fun e=>?_⟩),h7.abide hD I J,xR h4 I.size⟩
 .unfold zMN at hb;omega
 .have:=(J b e.symm).1;unfold zMN at hb;omega
def zZV(w:WB)(A:WG Addr)(n c:Nat)(ls:List (List Nat))(a:Act)(W:WB):Prop:=
 ∃(k:Nat) (v:WE) (ds:List Deferred) (Ds:List Nat) (u4 u5 u6 u7 u8 u12 u13 u14 u15 u16 u17 u18 u19 u20 u21 u22 u23 u24 u25 u26 u27 u28 u29 u30 u31 u32 u33 u34 u35 u36 u37 u38 u39 u40 u41 u42 u43 u44:WE) (As:WG Addr) (ns cs:Nat) (lo:List Nat),
  a={ tmps:=#[.slice A n c,undef,v,undef,u4,u5,u6,u7,u8,.slice A n c,.int .i64 n,.int .i64 k,u12,u13,u14,u15,u16,u17,u18,u19,u20,u21,u22,u23,u24,u25,u26,u27,u28,u29,u30,u31,u32,u33,u34,u35,u36,u37,u38,u39,u40,u41,u42,u43,u44,undef,undef],defers:=ds }/\k<=n/\v=.slice As ns cs/\Rd W As ns cs lo/\Lt lo/\ns<=68719476736+k/\val lo=zFS ls k/\Below w.heap.size w W/\Marks w.heap.size W ds Ds
theorem zPH(A:WG Addr)(n c:Nat)(ls:List (List Nat))(w:WB)(h:Rds w A n ls)(hn:n<=1000):
  Calls prog 132 #[.slice A n c] w (jH w (ls.map val).sum):=by
 obtain⟨i0,hi0,hz0,hz1,hz2⟩:=cY yX
 refine q6 func132 rfl ?_
 simp only[ntmps132,bN,mO,mP,Nat.reduceAdd,Nat.reduceSub,mQ,mR,mS,mT,lI,mM]
 go_wp2
 refine wp_loop (zZV w A n c ls) (fun a _=>n-(intOf (a.tmps.getD 11 undef)).toNat) ?_ ?_
 .exact⟨0,_, [], [],_,_,_,_,_,_,_,_,_,_,_,_,_,_,_,_,_,_,_,_,_,_,_,_,_,_,_,_,_,_,_,_,_,_,_,_,_,_,none,0,0, [],rfl,vS _,rfl,wM _,zCp,oA,by rw[zEN];rfl,xG _ _,Marks.nil _ _⟩
 rintro a W ⟨k,v,ds,Ds,u4,u5,u6,u7,u8,u12,u13,u14,u15,u16,u17,u18,u19,u20,u21,u22,u23,u24,u25,u26,u27,u28,u29,u30,u31,u32,u33,u34,u35,u36,u37,u38,u39,u40,u41,u42,u43,u44,As,ns,cs,lo,rfl,hk,rfl,hrs,hlt,hns,hval,hB,hM⟩
 by_cases hkn:k<n
 .obtain⟨b,o,Ai,ni,ci,la,rfl,hcell,hla,hra,hta,hni⟩:=h.cells k hkn
  have hcW:W.cell? ⟨b,o+k,none⟩=some (.slice Ai ni ci):=(hB.cell (p:=⟨b,o+k,none⟩) (z7 hcell)).trans hcell
  have hraW:=hra.below hB
  obtain⟨N,hmx,hmx2,hN⟩:∃N,((ns<ni/\ni=N)∨(¬ns<ni/\ns=N))/\((ni<ns/\N=ns)∨(¬ni<ns/\N=ni))/\ni<=N/\ns<=N/\N<=68719476736+k:=by
   rcases Nat.lt_trichotomy ns ni with hh|hh|hh
   .exact⟨ni,.inl ⟨hh,rfl⟩,.inr ⟨oA,rfl⟩,oA⟩
   .exact⟨ns,.inr ⟨oA,rfl⟩,.inr ⟨oA,hh⟩,oA⟩
   .exact⟨ns,.inr ⟨oA,rfl⟩,.inl ⟨hh,rfl⟩,oA⟩
  have HX:=hid hmx
  clear hmx
  have hbase:W.heap.size+1<=(W.alloc (.cells #[.int .u64 0] 91)).heap.size:=fG
  have hbytes:i0.bytes*(N+1)<=281474976710656:=by rw[hz2];omega
  have hmax:N+1<=maxLen:=by unfold maxLen;omega
  rcases hmx2 with⟨hx,hxe⟩|⟨hx,hxe⟩
  rotate_left
  let x:=ni
  rotate_left
  let x:=ns
  all_goals
   have ex:x=N:=hxe.symm
   have HC:Hid (((x:Int)+1)=((N+1:Nat):Int)):=hid oA
   have HE:=hid hxe
   clear hxe
   go_wp2_with (first|(at_make;refine wpList_make_own _ rfl _ _ 24 rfl (W.heap.size+1) 69 i0 (.int .u32 0) 1 yH hi0 hz0 hz1 .i64 .i64 _ (N+1) rfl rfl HC.out hbytes hmax hbase ?_;intro w0 hown0 hgrow0)|(go_at_call 148;refine(zJh _ _ _ _ _ _ _).mono ?_;rintro e w1 ⟨rfl,rfl⟩))
   rw[cK]at hown0
   have hm0:W.heap.size+1<w0.heap.size:=(eV hown0 _ rfl).2
   obtain⟨W1,hW1⟩:∃W1,(((w0.alloc (.cells #[.slice (some ⟨W.heap.size+1,0,none⟩) 0 (N+1)] 24)).alloc (.cells #[.slice As ns cs] 24)).alloc (.cells #[.slice Ai ni ci] 24))=W1:=⟨_,rfl⟩
   have hsz:W1.heap.size=w0.heap.size+3:=by rw[<-hW1];simp
   have hBW:Below W.heap.size W W1:=by
    rw[<-hW1]
    exact(((((xG _ W).alloc (vQ _) _).grown hgrow0 fE (fun _ e=>by cases e)).alloc oA _).alloc fM _).alloc fM _
   have hB1:Below w.heap.size w W1:=hB.trans (hBW.mono hB.size)
   have bs:Boxed W1 W.heap.size 91 (.int .u64 0):=by rw[<-hW1];exact((((cJ W _ _).kept hgrow0 fE).alloc _).alloc _).alloc _
   have bm:Boxed W1 w0.heap.size 24 (.slice (some ⟨W.heap.size+1,0,none⟩) 0 (N+1)):=by rw[<-hW1];exact((cJ w0 _ _).alloc _).alloc _
   have bp:Boxed W1 (w0.heap.size+1) 24 (.slice As ns cs):=by
    rw[<-hW1];have:=cJ (w0.alloc (.cells #[.slice (some ⟨W.heap.size+1,0,none⟩) 0 (N+1)] 24)) 24 (.slice As ns cs);rw[cK]at this;exact this.alloc _
   have bq:Boxed W1 (w0.heap.size+1+1) 24 (.slice Ai ni ci):=by
    rw[<-hW1];have:=cJ ((w0.alloc (.cells #[.slice (some ⟨W.heap.size+1,0,none⟩) 0 (N+1)] 24)).alloc (.cells #[.slice As ns cs] 24)) 24 (.slice Ai ni ci);rw[cK,cK]at this;exact this
   have ho1:yE W1 (W.heap.size+1) 69 (.slice (some ⟨W.heap.size+1,0,none⟩) 0 (N+1)) []:=by
    rw[<-hW1];exact((eW hown0 _).alloc _).alloc _
   have hM1:=hM.made hBW
   have hD1:=hM1.lt
   rw[hW1]
   clear hW1
   have hSb:∀b,zMN W.heap.size w0.heap.size b->b<W1.heap.size:=fun b hb=>by unfold zMN at hb;omega
   refine zFp (gf:=154) rfl (enters_of func154 kA rfl) (zGb As ns cs lo Ai ni ci la (w0.heap.size+1) (w0.heap.size+1+1) N W1 (hrs.below hBW) (hraW.below hBW) hlt hta bp.cell bq.cell HX.out (S:=zMN W.heap.size w0.heap.size) hSb (.inr (.inl rfl)) (.inr (.inr rfl)) (fun b o hn e=>.inl (hrs.in_ b o hn e)) (fun b o hn e=>.inl (hraW.in_ b o hn e))) (fun _=>rfl) y8.trans (zEZ hSb)
    (zZn w.heap.size W.heap.size w0.heap.size w W1 lo la ds Ds) (zL7 (vQ _) hB.size oA oA hD1) (zCo (zL7 (vQ _) hB.size oA oA hD1)) wT (fun _ _ _ _ _ _ _ _=>trivial)
    ⟨_, [],0,bm,ho1,rfl,zCp,bs,oA,by simp[sm],hB1,y8.refl _ _,hM1,vQ _⟩
    (fun j=>{ tmps:=#[.slice (some ⟨b,o,none⟩) n c,undef,.slice As ns cs,undef,.slice Ai ni ci,.pointer (some ⟨W.heap.size,0,none⟩),.pointer (some ⟨w0.heap.size,0,none⟩),.int .u64 (lm lo j:Nat),.int .u64 (lm la j:Nat),.slice (some ⟨b,o,none⟩) n c,.int .i64 n,.int .i64 k,.bool true,.pointer (some ⟨b,o+k,none⟩),.slice Ai ni ci,.slice Ai ni ci,.int .i64 ni,.slice As ns cs,.int .i64 ns,.int .i64 x,.int .i64 ((x:Int)+1),.slice (some ⟨W.heap.size+1,0,none⟩) 0 (N+1),.slice As ns cs,.slice Ai ni ci,.func (.func 154) #[] #[.pointer (some ⟨w0.heap.size+1,0,none⟩),.pointer (some ⟨w0.heap.size+1+1,0,none⟩)],.int .u64 (lm lo j:Nat),.int .u64 (lm la j:Nat),u27,u28,u29,u30,u31,u32,u33,u34,u35,u36,u37,u38,u39,u40,u41,u42,u43,u44,undef,undef],defers:=[] }) ?_ ?_ ?_
   .intro lp j W2 K hK
    gi_wp2
    exact hK
   .rintro lp j W2 hj ⟨v,lv,u,hv,hown,hlk,hlv,hu,hu1,heq,hB2,hK2,hM2,hsz2⟩
    have hcv:=hv.cell;have hfv:=hv.frozen;have hcu:=hu.cell;have hfu:=hu.frozen
    have x1:=qQ hlt j;have x2:=qQ hta j
    simp only[BB]at x1 x2
    obtain⟨d,z,u',hd,hz,hu',hz1,hu1',hd1,hstep⟩:=zRR (lm lo j) (lm la j) u x1 x2 hu1
    have HS:=hid hstep
    clear hstep
    have hs1:lv.length+ [z].length<=17592186044416:=fM
    have hl1:(lv++ [z]).length=j+1:=fM
    have hte:24≠69:=fH
    have hte':91≠69:=fH
    have hne:W.heap.size≠w0.heap.size:=oA
    have hne':w0.heap.size≠W.heap.size:=oA
    have hbW:W.heap.size+1<=W2.heap.size:=oA
    have bp2:=hK2.boxed (.inr (.inl rfl)) bp
    have bq2:=hK2.boxed (.inr (.inr rfl)) bq
    have hSS:∀b,zMN W.heap.size w0.heap.size b->b<W2.heap.size/\some b≠v.ownBlock:=fun b hb=>⟨by have:=hSb b hb;omega,by
     rcases hb with hb|rfl|rfl
     .exact hown.not_in oA
     .exact bp2.not_row hte hown
     .exact bq2.not_row hte hown⟩
    have hSo: ¬zMN W.heap.size w0.heap.size w0.heap.size:=by unfold zMN;omega
    have hSu: ¬zMN W.heap.size w0.heap.size W.heap.size:=by unfold zMN;omega
    have huS:=hu.set (.int .u64 d)
    have hownS:=hown.other hu hte' (.int .u64 d)
    have hvS:=hv.other hne' (.int .u64 d)
    have cvS:=hvS.cell;have fvS:=hvS.frozen;have cuS:=huS.cell;have fuS:=huS.frozen
    have hbS:W.heap.size+1<=(W2.setCell ⟨W.heap.size,0,none⟩ (.int .u64 d)).heap.size:=xR hbW (bR _ _ _).size
    gi_wp2_with (gi_at_builtin;go_must (refine zCe rfl _ _ 24 69 rfl yH yX (W.heap.size+1) v lv rfl (yE.alloc hownS _) _ 1 1 [z] rfl (vO _ z 69 (zBC W2 _ _)) hs1 (qI hbS _) ?_;intro v1 w1 hown1 hg1 hat1;obtain⟨A1,c1,rfl⟩:=hown1.form' hl1;have hk3:=zOP (v':=.slice A1 (j+1) c1) hg1 (fun b hb=>⟨vV (hSS b hb).1 (bR _ _ _).size,(hSS b hb).2⟩) hSo;obtain⟨hv1,hv2,hr2,hk2,hb2⟩:=zL5 hte hvS hownS hbS (nL hm0) (vQ _) hown1 hg1;have hc1:=hv1.cell;have hf1:=hv1.frozen;have hu2:=zIt hte' huS hownS hg1;have hc2:=hu2.cell;have hf2:=hu2.frozen))
    have hu3:=hu2.other hne (.slice A1 (j+1) c1)
    have hko:=(bR W2 ⟨W.heap.size,0,none⟩ (.int .u64 d)).trans (hk2.trans (bR _ ⟨W.heap.size,0,none⟩ (.int .u64 u')))
    have hks:=(((y8.refl (zMN W.heap.size w0.heap.size) W2).setCell (p:=⟨W.heap.size,0,none⟩) hSu (.int .u64 d)).trans hk3).setCell (p:=⟨W.heap.size,0,none⟩) hSu (.int .u64 u')
    refine⟨hko.from _,hks,_,lv++ [z],u',hv2.other hne' _,hr2.other hu3 hte' _,hl1,zBP hlv hz1,hu3.set _,hu1',?_,((hB2.setCell (p:=⟨W.heap.size,0,none⟩) hB.size _).trans (hb2.mono (by have:=hB.size;omega))).setCell (p:=⟨W.heap.size,0,none⟩) hB.size _,hK2.trans hks,hM2.others hko,xR hsz2 hko.size⟩
    rw[zAX,hlk]
    simp only[sm,uA]
    exact zL6 heq HS.out
   .rintro D W3 hD ⟨v,lv,u,hv,hown,hlk,hlv,hu,hu1,heq,hB2,hK2,hM2,hsz2⟩ _ hd
    obtain⟨A1,c1,rfl⟩:=hown.form' hlk
    have hcv:=hv.cell;have hcu:=hu.cell
    have heu:(u:Int)%4294967296=u:=oA
    have hs1:lv.length+ [u].length<=17592186044416:=fM
    have hl1:(lv++ [u]).length=N+1:=fM
    have hbW:W.heap.size+1<=W3.heap.size:=oA
    go_wp2_with (at_builtin;go_must (refine zU rfl _ _ 24 69 rfl yH yX (W.heap.size+1) _ lv rfl (yE.alloc hown _) _ 1 1 [u] rfl (Rd.one _ u 69) hs1 (qI hbW _) ?_;intro v1 w1 hown1 hg1 hat1;obtain⟨A2,c2,rfl⟩:=hown1.form' hl1))
    have hD2:D ∉ Ds:=fun h=>by have:=hD1 D h;omega
    have hM3:=(hM2.more hD2 (by have:=hB1.size;omega) hd).others (zH7 hown hg1)
    refine⟨⟨k+1,_,_,_,_,_,_,_,_,_,_,_,_,_,_,_,_,_,_,_,_,_,_,_,_,_,_,_,_,_,_,_,_,_,_,_,_,_,_,_,_,_,A2,N+1,c2,lv++ [u],rfl,oA,rfl,hown1.rd,zBP hlv (by unfold BB;omega),oA,?_,yE.grown (hB2.alloc hB2.size _) (yE.alloc hown _) hg1 (by have:=hB.size;omega) (qI hB2.size _),hM3⟩,?_⟩
    .have e1:=zBk (l:=lo) (n:=N) (by rw[hrs.len];omega)
     have e2:=zBk (l:=la) (n:=N) (by rw[hra.len];omega)
     rw[zEO hla,zAX,hlk,heq,e1,e2,hval]
    .show n-(intOf (.int .i64 ((k:Int)+1))).toNat<n-(intOf (.int .i64 (k:Int))).toNat
     simp[intOf]
     omega
 .obtain rfl:k=n:=oA
  go_wp2_with (go_at_call 124;refine(qX _ _ _ _ _ hrs hlt oA).mono ?_;rintro e w1 ⟨A2,n2,c2,l2,rfl,hi2,hr2,hb2⟩)
  refine qH w1 (fun w' _=>results_tmp rfl _ _ w') Ds ds w1 (hM.made hb2) (Oth.refl _ _) ?_
  intro w' ho
  rw[hval,zIG h.len]at hi2
  exact⟨A2,n2,c2,l2,rfl,hi2,hr2.oth ho,zAh (hB.trans (hb2.mono hB.size)) ho (vQ _)⟩
def iv(s:Bool)(l:List Nat):Int:=if s then -(val l:Int)else val l
def q7(W:WB)(B:Nat)(t:WF)(vs:Array WE):Prop:=W.heap[B]?=some (.cells vs t (0,0))
theorem q7.lt(h:q7 W B t vs):B<W.heap.size:=(xQ.1 h).1
theorem q7.cell(h:q7 W B t vs)(i:Nat):W.cell? ⟨B,i,none⟩=vs[i]?:=by simp[World.cell?,show W.heap[B]?=_ from h]
theorem q7.frozen(h:q7 W B t vs)(i:Nat):W.frozen? ⟨B,i,none⟩=false:=by simp[World.frozen?,show W.heap[B]?=_ from h]
theorem q7.new(W:WB)(t:WF)(vs:Array WE):q7 (W.alloc (.cells vs t)) W.heap.size t vs:=cT W _
theorem q7.at_(W:WB)(t:WF)(vs:Array WE){b:Nat}(hb:b=W.heap.size):q7 (W.alloc (.cells vs t)) b t vs:=by
 subst hb
 exact q7.new W t vs
theorem q7.kept(h:q7 W B t vs)(hb:Below W.heap.size W W'):q7 W' B t vs:=(hb.block _ h.lt).trans h
theorem q7.alloc(h:q7 W B t vs)(o:Obj):q7 (W.alloc o) B t vs:=h.kept ((xG _ _).alloc (vQ _) o)
theorem q7.other(h:q7 W B t vs){p:Addr}(I:B≠p.block)(v:WE):q7 (W.setCell p v) B t vs:=(cV W p v B I).trans h
theorem q7.set(h:q7 W B t vs)(i:Nat)(v:WE):q7 (W.setCell ⟨B,i,none⟩ v) B t (vs.setIfInBounds i v):=by
 obtain⟨I,J⟩:=xQ.1 h
 show(W.heap.modify B _)[B]?=_
 rw[cD (by rw[eX];exact I),nX,J]
 rfl
theorem q7.oth(h:q7 w b t vs)(J:Oth B w w'):q7 w' b t vs:=by
 rcases J.block b with e|⟨_,⟨o,I,h2⟩,_⟩
 .exact e.trans h
 .rw[show w.heap[b]?=_ from h]at I
  cases I
  cases h2
theorem q7.putObj{D:Nat}(h:q7 W B t vs){o:Obj}(o':Obj)(I:W.heap[D]?=some o)(J:o.isCells=false):q7 (W.putObj D o') B t vs:=by
 refine(bO ?_).trans h
 intro e
 subst e
 rw[show W.heap[B]?=_ from h]at I
 cases I
 cases J
theorem Rd.setN(h:Rd w A n c l){b:Nat}{t:WF}{vs:Array WE}(hb:q7 w b t vs){i:Nat}{u:WE}(hi:vs[i]?=some u)(hu:∀x,u≠ .int .u32 x)(v:WE):Rd (w.setCell ⟨b,i,none⟩ v) A n c l:=
 ⟨h.len,h.le,h.cap,h.nil,fun k U=>by
  obtain⟨b',o,e,J⟩:=h.cells k U
  refine⟨b',o,e,(nQ _ _ _ _ ?_).trans J⟩
  intro O
  simp only[Addr.mk.injEq,nP]at O
  obtain⟨rfl,I⟩:=O
  first|rw[<-I]at J|rw[I]at J
  rw[hb.cell,hi]at J
  exact hu _ (nM J)⟩
theorem zOQ:(s&& !(val l==0))=decide (iv s l<0):=by
 unfold iv
 cases s
 .simp only[Bool.false_and,xL,xJ]
  exact(xZ oA).symm
 .simp only[Bool.true_and,cG]
  by_cases h:val l=0
  .simp[h]
  .rw[nH.2 h]
   exact(lH oA).symm
theorem zOS(s:Bool)(l:List Nat):(iv s l).natAbs=val l:=by
 unfold iv
 cases s<;>simp
def zAI(W:WB)(B:Nat)(v:Int):Prop:=∃A n c l,q7 W B 142 #[.bool (decide (v<0)),.slice A n c]/\Is l v.natAbs/\Rd W A n c l
theorem zAI.kept{v:Int}(h:zAI W B v)(hb:Below W.heap.size W W'):zAI W' B v:=by
 obtain⟨A,n,c,l,I,h2,h3⟩:=h
 exact⟨A,n,c,l,I.kept hb,h2,h3.below hb⟩
theorem zAI.lt{v:Int}(h:zAI W B v):B<W.heap.size:=by
 obtain⟨A,n,c,l,I,_⟩:=h
 exact I.lt
def qT(w:WB)(v:Int):Ending->WB->Prop:=fun e w'=>∃A n c l,e=.returned (.agg #[.bool (decide (v<0)),.slice A n c])/\Is l v.natAbs/\Rd w' A n c l/\Below w.heap.size w w'
theorem zCE(h:Below w.heap.size w w'):w.grownBy w' none:=⟨h.os,h.tape,h.output,h.size,fun k I _=>h.block k I⟩
theorem qD(w:WB)(a:Addr)(u:WE):w.grownBy (w.setCell a u) (some a.block):=
 ⟨rfl,rfl,rfl,(KeepsWalks.setCell w _ u).size,fun k _ I=>cV _ _ _ k (fun e=>I (by rw[e]))⟩
theorem zA3{I:WB}(h:Below B w w1)(U:w1.grownBy I (some b))(J:B<=w1.heap.size)(hb:B<=b):Below B w I:=h.grown U J fun k O=>by cases O;exact hb
theorem zEr(B:Nat)(s:Bool)(A:WG Addr)(n c:Nat)(l:List Nat)(w:WB)(hb:q7 w B 142 #[.bool s,.slice A n c])(h:Rd w A n c l)(ht:Lt l)(hl:n<=1099511627776):
  Calls prog 144 #[.pointer (some ⟨B,0,none⟩)] w fun e w'=>e=.returned (.pointer (some ⟨B,0,none⟩))/\zAI w' B (iv s l)/\w.grownBy w' (some B):=by
 have g0:w.cell? ⟨B,0,none⟩=some (.bool s):=hb.cell 0
 have g1:w.cell? ⟨B,1,none⟩=some (.slice A n c):=hb.cell 1
 go_enter func144,ntmps144
 go_wp2_with (go_at_call 124;refine(qX _ _ _ _ _ h ht hl).mono ?_;rintro e w2 ⟨A2,n2,c2,l2,rfl,hi2,hr2,hb2⟩;have hbx:=hb.kept hb2;have g2:=hbx.cell 0;have g3:=hbx.cell 1;have g4:=hbx.frozen 0;have g5:=hbx.frozen 1;simp only[xP,List.getElem?_cons_zero,List.getElem?_cons_succ]at g2 g3)
 all_goals
  go_ret
  have hle:=hr2.len;have hz:=hi2.zero_iff
  have fin:∀x:Bool,x=decide (iv s l<0)->zAI ((w2.setCell ⟨B,1,none⟩ (.slice A2 n2 c2)).setCell ⟨B,0,none⟩ (.bool x)) B (iv s l)/\w.grownBy ((w2.setCell ⟨B,1,none⟩ (.slice A2 n2 c2)).setCell ⟨B,0,none⟩ (.bool x)) (some B):=by
   rintro x rfl
   exact⟨⟨A2,n2,c2,l2,(hbx.set 1 _).set 0 _,by rw[zOS];exact hi2,(hr2.setN hbx (i:=1) rfl (fun _=>fG) _).setN (hbx.set 1 _) (i:=0) rfl (fun _=>fG) _⟩,
    ((zCE hb2).but (some B)).trans ((qD w2 ⟨B,1,none⟩ (.slice A2 n2 c2)).trans (qD _ ⟨B,0,none⟩ _))⟩
  refine⟨rfl,fin _ ?_⟩
  rw[<-zOQ]
  simp_all
  try
   by_cases e:n2=0
   .rw[hz.2 e,e];rfl
   .rw[lH oA,nH.2 (fun h=>e (hz.1 h))];rfl
theorem zFV(s:Bool)(A:WG Addr)(n c:Nat)(l:List Nat)(w:WB)(h:Rd w A n c l)(ht:Lt l)(hl:n<=1099511627776):
  Calls prog 125 #[.agg #[.bool s,.slice A n c]] w fun e w'=>∃B,e=.returned (.pointer (some ⟨B,0,none⟩))/\w.heap.size<=B/\zAI w' B (iv s l)/\Below w.heap.size w w':=by
 go_enter func125,ntmps125
 go_wp2_with (go_at_call 144;refine(zEr _ s A n c l _ (q7.at_ _ _ _ fE) ((h.alloc _).alloc _) ht hl).mono ?_;rintro e w1 ⟨rfl,hn,hg⟩)
 go_ret
 exact⟨_,rfl,fG,hn,zA3 (((xG _ w).alloc (vQ _) _).alloc fE _) hg fM fE⟩
theorem q7.facts2(h:q7 W B t #[x,y]):(W.cell? ⟨B,0,none⟩=some x/\W.cell? ⟨B,1,none⟩=some y)/\W.frozen? ⟨B,0,none⟩=false/\W.frozen? ⟨B,1,none⟩=false:=⟨⟨h.cell 0,h.cell 1⟩,h.frozen 0,h.frozen 1⟩
theorem zMj(hb:Below (W.alloc (.cells #[x,y] t)).heap.size (W.alloc (.cells #[x,y] t)) W')(e:b=W.heap.size):q7 W' b t #[x,y]:=(q7.at_ W t #[x,y] e).kept hb
theorem zAI.parts{v:Int}(h:zAI W B v):∃A n c l,(W.cell? ⟨B,0,none⟩=some (.bool (decide (v<0)))/\W.cell? ⟨B,1,none⟩=some (.slice A n c))/\Is l v.natAbs/\Rd W A n c l:=by
 obtain⟨A,n,c,l,I,h2,h3⟩:=h
 exact⟨A,n,c,l,⟨I.cell 0,I.cell 1⟩,h2,h3⟩
theorem zIV{v:Int}{x0:Bool}{A0:WG Addr}{n0 c0:Nat}{I:WG Addr}{J c2:Nat}{O:List Nat}(hq:q7 w1 b t #[.bool x0,.slice A0 n0 c0])(hb:Below w.heap.size w w1)(U:w.heap.size<=b)(hi:Is O v.natAbs)(hr:Rd w1 I J c2 O):
  qT w v (.returned (.agg #[.bool (decide (v<0)),.slice I J c2])) ((w1.setCell ⟨b,0,none⟩ (.bool (decide (v<0)))).setCell ⟨b,1,none⟩ (.slice I J c2)):=
 ⟨I,J,c2,O,rfl,hi,(hr.setN hq (i:=0) rfl (fun _=>fG) _).setN (hq.set 0 _) (i:=1) rfl (fun _=>fG) _,(hb.setCell (p:=⟨b,0,none⟩) U _).setCell (p:=⟨b,1,none⟩) U _⟩
theorem zIJ(s:Bool)(A:WG Addr)(n c:Nat)(l:List Nat)(w:WB)(h:Rd w A n c l)(ht:Lt l)(hl:n<=1099511627776):
  Calls prog 134 #[.agg #[.bool s,.slice A n c]] w (qT w (iv s l)):=by
 go_enter func134,ntmps134
 go_wp2_with (go_at_call 125;refine(zFV s A n c l _ ((h.alloc _).alloc _) ht hl).mono ?_;rintro e w1 ⟨B,rfl,hB,hn,hb⟩;obtain⟨A2,n2,c2,l2,⟨g0,g1⟩,hi2,hr2⟩:=hn.parts;have hq:=zMj hb (b:=w.heap.size+1) fE;obtain⟨⟨q0,q1⟩,q2,q3⟩:=hq.facts2)
 obtain⟨⟨c0,c1⟩,_,_⟩:=((hq.set 0 (.bool (decide (iv s l<0)))).set 1 (.slice A2 n2 c2)).facts2
 exact nI (v:=.agg #[.bool (decide (iv s l<0)),.slice A2 n2 c2]) (by simp[results,results134,go_sem,c0,c1]) rfl<|zIV hq ((((xG _ w).alloc (vQ _) _).alloc fE _).trans (hb.mono fM)) fE hi2 hr2
theorem zSD(s:Bool)(l:List Nat):iv (!s) l= -iv s l:=by
 unfold iv
 cases s<;>simp
theorem zKZ(s:Bool)(A:WG Addr)(n c:Nat)(l:List Nat)(w:WB)(h:Rd w A n c l)(ht:Lt l)(hl:n<=1099511627776):
  Calls prog 136 #[.agg #[.bool s,.slice A n c]] w (qT w (-iv s l)):=by
 go_enter func136,ntmps136
 go_wp2_with (go_at_call 134;refine(zIJ (!s) A n c l _ ((h.alloc _).alloc _) ht hl).mono ?_;rintro e w1 ⟨A2,n2,c2,l2,rfl,hi2,hr2,hb⟩;have hq:=zMj hb (b:=w.heap.size+1) fE;obtain⟨⟨q0,q1⟩,q2,q3⟩:=hq.facts2)
 obtain⟨⟨c0,c1⟩,_,_⟩:=((hq.set 0 (.bool (decide (iv (!s) l<0)))).set 1 (.slice A2 n2 c2)).facts2
 refine nI (v:=.agg #[.bool (decide (iv (!s) l<0)),.slice A2 n2 c2]) (by simp[results,results136,go_sem,c0,c1]) rfl ?_
 rw[<-zSD]
 exact zIV hq ((((xG _ w).alloc (vQ _) _).alloc fE _).trans (hb.mono fM)) fE hi2 hr2
theorem zQm(B:Nat)(v:Int)(w:WB)(h:zAI w B v):
  Calls prog 141 #[.pointer (some ⟨B,0,none⟩)] w fun e w'=>e=.returned (.int .i64 v.sign)/\Below w.heap.size w w':=by
 obtain⟨A2,n2,c2,l2,hb,hi2,hr2⟩:=h
 have g0:=fun o=>(hb.alloc o).facts2.1.1
 have g1:=fun o=>(hb.alloc o).facts2.1.2
 have hz:=hi2.zero_iff
 have hlen:=hr2.len
 rw[hlen]at hz
 rcases nU v 0 with hv|rfl|hv
 .rw[lH hv]at g0
  have hn:(1:Int)<=n2:=oA
  rw[nS hv]
  go_enter func141,ntmps141
  go_wp2
  all_goals
   first|done|(go_ret;exact⟨rfl,(xG _ w).alloc (vQ _) _⟩)
 .obtain rfl:n2=0:=hz.1 rfl
  rw[xZ oA]at g0
  go_enter func141,ntmps141
  go_wp2
  all_goals
   first|done|(go_ret;exact⟨rfl,(xG _ w).alloc (vQ _) _⟩)
 .rw[xZ oA]at g0
  rw[nT hv]
  rcases(oA:n2=1∨1<n2)with rfl|hn
  all_goals
   go_enter func141,ntmps141
   go_wp2
   all_goals
    first|done|(go_ret;exact⟨rfl,(xG _ w).alloc (vQ _) _⟩)
theorem zII(s:Bool)(A:WG Addr)(n c:Nat)(l:List Nat)(w:WB)(h:Rd w A n c l)(ht:Lt l)(hl:n<=1099511627776):
  Calls prog 120 #[.agg #[.bool s,.slice A n c]] w fun e w'=>e=.returned (.int .i64 (iv s l).sign)/\Below w.heap.size w w':=by
 go_enter func120,ntmps120
 go_wp2_with (first|(go_at_call 125;refine(zFV s A n c l _ (h.alloc _) ht hl).mono ?_;rintro e w1 ⟨B,rfl,hB,hn,hb⟩)|(go_at_call 141;refine(zQm _ _ _ hn).mono ?_;rintro e w2 ⟨rfl,hb2⟩))
 go_ret
 have hb3:=((xG _ w).alloc (vQ _) (.cells #[.bool s,.slice A n c] 26)).trans (hb.mono fE)
 exact⟨rfl,hb3.trans (hb2.mono hb3.size)⟩
theorem zQf(k:Nat)(hk2:k<=9223372036854775807)(w:WB):
  Calls prog 76 #[.int .i64 k] w (qT w k):=by
 have hk0:(0:Int)<=k:=mU k
 go_enter func76,ntmps76
 go_wp2_with (go_at_call 100;refine(zLx k oA _).mono ?_;rintro e w1 ⟨A2,n2,c2,l2,rfl,hi2,hr2,hb⟩;have hq:=zMj hb (b:=w.heap.size) rfl;obtain⟨⟨q0,q1⟩,q2,q3⟩:=hq.facts2)
 obtain⟨⟨c0,c1⟩,_,_⟩:=((hq.set 0 (.bool (decide ((k:Int)<0)))).set 1 (.slice A2 n2 c2)).facts2
 rw[show(Value.bool false)=.bool (decide ((k:Int)<0))from by rw[xZ oA]]at*
 exact nI (v:=.agg #[.bool (decide ((k:Int)<0)),.slice A2 n2 c2]) (by simp[results,results76,go_sem,c0,c1]) rfl<|zIV hq (((xG _ w).alloc (vQ _) _).trans (hb.mono fE)) fE hi2 hr2
theorem zQg(k:Nat)(hk0:0<k)(hk2:k<=9223372036854775808)(w:WB):
  Calls prog 76 #[.int .i64 (-(k:Int))] w (qT w (-(k:Int))):=by
 have hk1:(-(k:Int))<0:=oA
 have hww:IntKind.u64.wrap (-IntKind.u64.wrap (-(k:Int)))=(k:Int):=by
  simp only[IntKind.wrap,IntKind.bits,IntKind.signed];simp;omega
 go_enter func76,ntmps76
 go_wp2_with (go_at_call 100;refine(zLx k oA _).mono ?_;rintro e w1 ⟨A2,n2,c2,l2,rfl,hi2,hr2,hb⟩;have hq:=zMj hb (b:=w.heap.size) rfl;obtain⟨⟨q0,q1⟩,q2,q3⟩:=hq.facts2)
 obtain⟨⟨c0,c1⟩,_,_⟩:=((hq.set 0 (.bool true)).set 1 (.slice A2 n2 c2)).facts2
 refine nI (v:=.agg #[.bool true,.slice A2 n2 c2]) (by simp[results,results76,go_sem,c0,c1]) rfl ?_
 have e1:decide (-(k:Int)<0)=true:=lH hk1
 have:=zIV (v:= -(k:Int)) hq (((xG _ w).alloc (vQ _) _).trans (hb.mono fE)) fE (by simpa using hi2) hr2
 rw[e1]at this
 exact this
theorem zKY(k:Int)(hk: -9223372036854775808<=k)(hk2:k<=9223372036854775807)(w:WB):
  Calls prog 76 #[.int .i64 k] w (qT w k):=by
 rcases(oA:0<=k∨k<0)with h|h
 .obtain⟨m,rfl⟩:=lK h
  exact zQf m oA w
 .obtain⟨m,hm⟩:=lK (show 0<=-k from oA)
  obtain rfl:k= -(m:Int):=oA
  exact zQg m oA oA w
attribute [local go_sem] Oper.semAt_some qL yG
theorem zQb(A:WG Addr)(n c:Nat)(l:List Nat)(A':WG Addr)(n' c':Nat)(l':List Nat)(w:WB)(h:Rd w A n c l)(h':Rd w A' n' c' l')(ht:Lt l)(ht':Lt l')(hge:val l<val l'):
  Calls prog 146 #[.slice A n c,.slice A' n' c'] w fun e w'=>e=.returned (.tuple #[.slice none 0 0,.int .i64 10])/\Below w.heap.size w w':=by
 have hcmp:decide (zAN (val l) (val l')<0)=true:=by
  unfold zAN
  rw[if_pos oA]
  rfl
 refine q6 func146 rfl ?_
 simp only[ntmps146,bN,mO,mP,Nat.reduceAdd,Nat.reduceSub,mQ,mR,mS,mT,lI,mM]
 go_wp2_with (go_at_call 152;refine(zGx A n c l A' n' c' l' _ h h' ht ht').mono ?_;rintro e w1 ⟨rfl,rfl⟩)
 exact qH (B:=w.heap.size) w (fun w' _=>results_tmp2 rfl _ _ w') [] _ _ (Marks.nil _ _) (Oth.refl _ _) fun w' ho=>⟨rfl,zAh (xG _ w) ho (vQ _)⟩
theorem zPG(A:WG Addr)(n c:Nat)(w:WB):
  Calls prog 126 #[.slice A n c] w fun e w'=>e=.returned (.func (.func 145) #[] #[.pointer (some ⟨w.heap.size,0,none⟩)])/\w'=w.alloc (.cells #[.slice A n c] 109):=by
 go_enter func126,ntmps126
 go_wp2
 go_ret
 exact⟨rfl,rfl⟩
structure IRdM(m:Nat)(w:World)(A:Option Addr)(n:Nat)(is:List (Bool×List Nat)):Prop where
 len:is.length=n
 cells:∀i,i<n->∃b o s Ai ni ci li,A=some ⟨b,o,none⟩/\w.cell? ⟨b,o+i*2,none⟩=some (.bool s)/\w.cell? ⟨b,o+i*2+1,none⟩=some (.slice Ai ni ci)/\is[i]?=some (s,li)/\Rd w Ai ni ci li/\Lt li/\ni<=m
theorem IRdM.keep(h:IRdM m w A n is)(J:∀p:Addr,p.block<w.heap.size->w'.cell? p=w.cell? p):IRdM m w' A n is:=
 ⟨h.len,fun i hi=>by
  obtain⟨b,o,s,Ai,U,ci,li,e,O,I,h1,h2,h3⟩:=h.cells i hi
  exact⟨b,o,s,Ai,U,ci,li,e,(J _ (xK w _ O)).trans O,(J _ (xK w _ I)).trans I,h1,h2.keep J,h3⟩⟩
theorem IRdM.below(h:IRdM m w A n is)(hb:Below w.heap.size w w'):IRdM m w' A n is:=h.keep fun _ I=>hb.cell I
abbrev IRd:=IRdM 1099511627776
def zE0(is:List (Bool×List Nat))(k:Nat):Int:=(is[k]?.map fun p=>iv p.1 p.2).getD 0
def zZU(N0:Nat)(is:List (Bool×List Nat))(k:Nat)(xs:Array WE)(W:WB):Prop:=∃B,xs=#[.pointer (some ⟨B,0,none⟩)]/\N0<=B/\zAI W B (zE0 is k)
def zGA(S:Nat->Prop)(A B:WB):Prop:=y8 S A B/\A.heap.size<=B.heap.size
theorem zGA.trans{A B C:WB}(h:zGA S A B)(k:zGA S B C):zGA S A C:=⟨h.1.trans k.1,xR h.2 k.2⟩
theorem zH8(I:∀b,S b->b<n)(W:WB)(l:Nat)(o o':Obj)(J:n<=l)(h1:W.heap[l]?=some o)(h2:o.isCells=false):zGA S W (W.putObj l o'):=
 ⟨zEZ I W l o o' J h1 h2,nV (eK ..).symm⟩
theorem zJK(A:WG Addr)(n c:Nat)(is:List (Bool×List Nat))(b1:Nat)(w w0:WB)(h:IRd w A n is)(hw0:Below w.heap.size w w0)(hn:n<=c)(hc:c<=9223372036854775807)
  (hc1:w0.cell? ⟨b1,0,none⟩=some (.slice A n c)){S:Nat->Prop}(hS:∀b,S b->b<w0.heap.size)(_hS1:S b1)(hSA:∀b,b<w.heap.size->S b):
  zRV prog 145 #[.pointer (some ⟨b1,0,none⟩)] (zZU w0.heap.size is) n (zGA S) Mk (fun _=>True) w0:=by
 intro lp J W hW hJ hY h0
 have hl1:=z7 hc1
 have hw1:=(hW.cell (p:=⟨b1,0,none⟩) hl1).trans hc1
 refine zB1 func145 rfl ?_
 simp only[ntmps145,bN,mO,mP,Nat.reduceAdd,Nat.reduceSub,mQ,mR,mS,mT,lI,mM]
 gi_wp2
 gi_loopw [7] (fun i wr=>∃k:Nat,k<=n/\i=.int .i64 k/\J k wr/\y8 S w0 wr/\w0.heap.size<=wr.heap.size) (fun i _=>n-(intOf i).toNat)
 case atStart=>exact⟨0,vS _,rfl,h0,wS hW hS,hW.size⟩
 case round=>
  obtain⟨k,hk,rfl,hj,hb,hz⟩:=hrel
  by_cases hkn:k<n
  .obtain⟨b,o,s,Ai,ni,ci,li,rfl,p1,p2,hi,hr,hli,hni⟩:=(h.keep (w':=wr) fun p hp=>(hb.cell (hSA _ hp)).trans (hw0.cell hp)).cells k hkn
   have hid1:zE0 is k=iv s li:=by simp[zE0,hi]
   have hjk:=hJ k wr
   gi_wp2_with (first|(gi_at_call 125;refine bG (bB.2 (zFV s Ai ni ci li _ (hr.alloc _) hli hni)) ?_;rintro e w2 ⟨B2,rfl,hB2,hn2,hb2⟩;have hmk:Mk wr w2:=((xG _ wr).alloc (vQ _) _).trans (hb2.mono fE);obtain⟨fn,tmps,assign,body,hy,hR⟩:=hY k w2 #[.pointer (some ⟨B2,0,none⟩)] hkn (hjk _ hj hmk) ⟨B2,rfl,xR hz (xR fE hB2),by rw[hid1];exact hn2⟩)|(refine hR.mono ?_;rintro e W3 ⟨rfl,hJ3,hk3⟩))
   refine⟨⟨k+1,oA,rfl,hJ3,(hb.trans (wS hmk fun b hb=>vV (hS b hb) hz)).trans hk3.1,xR hz (xR hmk.size hk3.2)⟩,?_⟩
   simp[intOf]
   omega
  .obtain rfl:k=n:=oA
   gi_wp2
   go_end0
   exact⟨⟨_,rfl⟩,hj,trivial⟩
attribute [local go_sem] Oper.semAt_some qL yG
theorem zJn(B B':Nat)(v v':Int)(k:Nat)(w:WB)(h:zAI w B v)(h':zAI w B' v')(_hne:B'≠B)(hv:v.natAbs<BB^k)(hv':v'.natAbs<BB^k)(hk:k<=1000000)(hs:decide (v<0)=decide (v'<0)):
  Calls prog 127 #[.pointer (some ⟨B,0,none⟩),.pointer (some ⟨B',0,none⟩)] w fun e w'=>(∃u,e=.returned u)/\zAI w' B (v+v')/\w.grownBy w' (some B):=by
 obtain⟨A,n,c,l,hb,hi,hr⟩:=h
 obtain⟨A',n',c',l',hb',hi',hr'⟩:=h'
 have hn:n<=k:=by rw[<-hr.len];exact hi.len hv
 have hn':n'<=k:=by rw[<-hr'.len];exact hi'.len hv'
 obtain⟨⟨g0,g1⟩,g2,g3⟩:=hb.facts2
 obtain⟨⟨k0,k1⟩,k2,k3⟩:=hb'.facts2
 go_enter func127,ntmps127
 have hmix:prog.follows .mixedOrders=true:=fJ
 .go_wp2_with (first|go_region|fail)
  refine(bL (n:=0)).1<|yF 16 (fun W=>(W.cell? ⟨B,0,none⟩=some (.bool (decide (v<0)))/\W.cell? ⟨B,1,none⟩=some (.slice A n c))/\W.cell? ⟨B',0,none⟩=some (.bool (decide (v'<0)))/\W.cell? ⟨B',1,none⟩=some (.slice A' n' c')) hmix ?_
  have d1:=And.intro (And.intro g0 g1) (And.intro k0 k1)
  refine zP (i:=0) (v:=?vv1) kA kA rfl kA kA kA fD d1 ⟨.inl ⟨rfl,?yy1⟩,fun _=>rfl⟩ ?_
  case yy1=>
   rintro wx ⟨⟨q1,q2⟩,q3,q4⟩
   go_simp
   first|done|rfl
  refine zP (i:=1) (v:=?vv2) kA kA rfl kA kA kA fD d1 ⟨.inl ⟨rfl,?yy2⟩,fun _=>rfl⟩ ?_
  case yy2=>
   rintro wx ⟨⟨q1,q2⟩,q3,q4⟩
   go_simp
   first|done|rfl
  refine zP (i:=2) (v:=?vv3) kA kA rfl kA kA kA fD d1 ⟨.inl ⟨rfl,?yy3⟩,fun _=>rfl⟩ ?_
  case yy3=>
   rintro wx ⟨⟨q1,q2⟩,q3,q4⟩
   go_simp
   first|done|rfl
  refine zP (i:=3) (v:=?vv4) kA kA rfl kA kA kA fD d1 ⟨.inl ⟨rfl,?yy4⟩,fun _=>rfl⟩ ?_
  case yy4=>
   rintro wx ⟨⟨q1,q2⟩,q3,q4⟩
   go_simp
   first|done|rfl
  refine zP (i:=4) (v:=?vv5) kA kA rfl kA kA kA fD d1 ⟨.inl ⟨rfl,?yy5⟩,fun _=>rfl⟩ ?_
  case yy5=>
   rintro wx ⟨⟨q1,q2⟩,q3,q4⟩
   go_simp
   first|done|rfl
  refine zP (i:=5) (v:=?vv6) kA kA rfl kA kA kA fD d1 ⟨.inl ⟨rfl,?yy6⟩,fun _=>rfl⟩ ?_
  case yy6=>
   rintro wx ⟨⟨q1,q2⟩,q3,q4⟩
   go_simp
   first|done|rfl
  refine zP (i:=6) (v:=?vv7) kA kA rfl kA kA kA fD d1 ⟨.inl ⟨rfl,?yy7⟩,fun _=>rfl⟩ ?_
  case yy7=>
   rintro wx ⟨⟨q1,q2⟩,q3,q4⟩
   go_simp
   first|done|rfl
  refine zP (i:=7) (v:=?vv8) kA kA rfl kA kA kA fD d1 ⟨.inl ⟨rfl,?yy8⟩,fun _=>rfl⟩ ?_
  case yy8=>
   rintro wx ⟨⟨q1,q2⟩,q3,q4⟩
   go_simp
   first|done|rfl
  refine zP (i:=8) (v:=?vv9) kA kA rfl kA kA kA fD d1 ⟨.inl ⟨rfl,?yy9⟩,fun _=>rfl⟩ ?_
  case yy9=>
   rintro wx ⟨⟨q1,q2⟩,q3,q4⟩
   go_simp
   first|done|rfl
  refine zP (i:=9) (v:=?vv10) kA kA rfl kA kA kA fD d1 ⟨.inl ⟨rfl,?yy10⟩,fun _=>rfl⟩ ?_
  case yy10=>
   rintro wx ⟨⟨q1,q2⟩,q3,q4⟩
   go_simp
   first|done|rfl
  refine zP (i:=10) (v:=?vv11) kA kA rfl kA kA kA fD d1 ⟨.inl ⟨rfl,?yy11⟩,fun _=>rfl⟩ ?_
  case yy11=>
   rintro wx ⟨⟨q1,q2⟩,q3,q4⟩
   go_simp
   first|done|rfl
  refine zAL (i:=11) kA rfl (fun K hK=>?_)
  go_simp
  have hW1:Below w.heap.size w (w.alloc (.cells #[.slice A n c,.slice A' n' c'] 24)).drew.drew:=(((xG _ w).alloc (vQ _) _).drew).drew
  have hds:Rds (w.alloc (.cells #[.slice A n c,.slice A' n' c'] 24)).drew.drew (some ⟨w.heap.size,0,none⟩) 2 [l,l']:=(Rds.two hr hi.lt oA hr' hi'.lt oA 24).below (((xG _ _).drew).drew)
  generalize hW:(w.alloc (.cells #[.slice A n c,.slice A' n' c'] 24)).drew.drew=W1 at*
  have hb1:=hb.kept hW1;have hb1':=hb'.kept hW1
  refine hK _ _ (.inr ⟨hb1.facts2.1,hb1'.facts2.1⟩) ?_
  clear hK K
  refine zAL (i:=12) kA rfl (fun K hK=>?_)
  go_simp
  refine bG (bB.2 (zPH _ 2 2 _ W1 hds oA)) ?_
  rintro e w2 ⟨A2,n2,c2,l2,rfl,hi2,hr2,hb2⟩
  have hB2:Below w.heap.size w w2:=hW1.trans (hb2.mono hW1.size)
  have hb3:=hb.kept hB2;have hb3':=hb'.kept hB2
  obtain⟨⟨m0,m1⟩,m2,m3⟩:=hb3.facts2
  have d3:=And.intro hb3.facts2.1 hb3'.facts2.1
  refine hK _ _ (.inr ⟨hb3.facts2.1,hb3'.facts2.1⟩) ?_
  clear hK K
  refine zAL (i:=13) kA rfl (fun K hK=>?_)
  go_simp
  refine hK _ _ (.inr d3) ?_
  clear hK K
  refine zAL (i:=14) kA rfl (fun K hK=>?_)
  go_simp
  refine hK _ _ (.inr d3) ?_
  clear hK K
  refine zAL (i:=15) kA rfl (fun K hK=>?_)
  go_simp
  refine hK _ _ (.inr d3) ?_
  clear hK K
  refine zAL (i:=16) kA rfl (fun K hK=>?_)
  go_simp
  refine hK _ _ (.inl rfl) ?_
  clear hK K
  refine zCW kA ?_
  have hv2:iv (decide (v<0)) l2=v+v':=by
   unfold iv
   rw[hi2.val]
   simp only[xY,bP,nG,nN,hi.val,hi'.val]
   by_cases h0:v<0
   .have h1:v'<0:=by rw[lH h0]at hs;exact xX hs.symm
    rw[lH h0]
    simp only[cG]
    omega
   .have h1: ¬v'<0:=by rw[xZ h0]at hs;exact nF hs.symm
    rw[xZ h0]
    simp only[xL,xJ]
    omega
  have hn2:n2<=k+1:=by
   rw[<-hr2.len]
   refine hi2.len ?_
   simp only[xY,bP,nG,nN,hi.val,hi'.val,uA]
   unfold BB at*
   omega
  go_wp2_with (go_at_call 144;refine(zEr B _ A2 n2 c2 l2 _ (hb3.set 1 _) (hr2.setN hb3 (i:=1) rfl (fun _=>fG) _) hi2.lt oA).mono ?_;rintro e w4 ⟨rfl,hn4,hg4⟩)
  refine nI (results_none rfl _ _ _) rfl ⟨⟨_,rfl⟩,by rw[hv2]at hn4;exact hn4,((zCE hB2).but (some B)).trans ((qD w2 ⟨B,1,none⟩ _).trans hg4)⟩
attribute [local go_sem] Oper.semAt_some qL yG
theorem zMy(B B':Nat)(v v':Int)(k:Nat)(w:WB)(h:zAI w B v)(h':zAI w B' v')(_hne:B'≠B)(hv:v.natAbs<BB^k)(hv':v'.natAbs<BB^k)(hk:k<=1000000)(hs:(decide (v<0)==decide (v'<0))=false)(hlt:v'.natAbs<=v.natAbs):
  Calls prog 127 #[.pointer (some ⟨B,0,none⟩),.pointer (some ⟨B',0,none⟩)] w fun e w'=>(∃u,e=.returned u)/\zAI w' B (v+v')/\w.grownBy w' (some B):=by
 obtain⟨A,n,c,l,hb,hi,hr⟩:=h
 obtain⟨A',n',c',l',hb',hi',hr'⟩:=h'
 have hn:n<=k:=by rw[<-hr.len];exact hi.len hv
 have hn':n'<=k:=by rw[<-hr'.len];exact hi'.len hv'
 obtain⟨⟨g0,g1⟩,g2,g3⟩:=hb.facts2
 obtain⟨⟨k0,k1⟩,k2,k3⟩:=hb'.facts2
 have hmix:prog.follows .mixedOrders=true:=fJ
 go_enter func127,ntmps127
 go_wp2_with (first|go_region|fail)
 have d1:=And.intro (And.intro g0 g1) (And.intro k0 k1)
 refine(bL (n:=0)).1<|yF 100 (fun W=>(W.cell? ⟨B,0,none⟩=some (.bool (decide (v<0)))/\W.cell? ⟨B,1,none⟩=some (.slice A n c))/\W.cell? ⟨B',0,none⟩=some (.bool (decide (v'<0)))/\W.cell? ⟨B',1,none⟩=some (.slice A' n' c')) hmix<|zP (i:=0) (v:=?vv1) kA kA rfl kA kA kA fD d1 ⟨.inl ⟨rfl,?yy1⟩,fun _=>rfl⟩ ?_
 case yy1=>
  rintro wx ⟨⟨q1,q2⟩,q3,q4⟩
  go_simp
  first|done|rfl
 refine zP (i:=1) (v:=?vv2) kA kA rfl kA kA kA fD d1 ⟨.inl ⟨rfl,?yy2⟩,fun _=>rfl⟩ ?_
 case yy2=>
  rintro wx ⟨⟨q1,q2⟩,q3,q4⟩
  go_simp
  first|done|rfl
 refine zP (i:=2) (v:=?vv3) kA kA rfl kA kA kA fD d1 ⟨.inl ⟨rfl,?yy3⟩,fun _=>rfl⟩ ?_
 case yy3=>
  rintro wx ⟨⟨q1,q2⟩,q3,q4⟩
  go_simp
  first|done|rfl
 refine zP (i:=3) (v:=?vv4) kA kA rfl kA kA kA fD d1 ⟨.inl ⟨rfl,?yy4⟩,fun _=>rfl⟩ ?_
 case yy4=>
  rintro wx ⟨⟨q1,q2⟩,q3,q4⟩
  go_simp
  first|done|rfl
 refine zP (i:=4) (v:=?vv5) kA kA rfl kA kA kA fD d1 ⟨.inl ⟨rfl,?yy5⟩,fun _=>rfl⟩ ?_
 case yy5=>
  rintro wx ⟨⟨q1,q2⟩,q3,q4⟩
  go_simp
  first|done|rfl
 refine zP (i:=5) (v:=?vv6) kA kA rfl kA kA kA fD d1 ⟨.inl ⟨rfl,?yy6⟩,fun _=>rfl⟩ ?_
 case yy6=>
  rintro wx ⟨⟨q1,q2⟩,q3,q4⟩
  go_simp
  first|done|rfl
 refine zP (i:=6) (v:=?vv7) kA kA rfl kA kA kA fD d1 ⟨.inl ⟨rfl,?yy7⟩,fun _=>rfl⟩ ?_
 case yy7=>
  rintro wx ⟨⟨q1,q2⟩,q3,q4⟩
  go_simp
  first|done|rfl
 refine zP (i:=7) (v:=?vv8) kA kA rfl kA kA kA fD d1 ⟨.inl ⟨rfl,?yy8⟩,fun _=>rfl⟩ ?_
 case yy8=>
  rintro wx ⟨⟨q1,q2⟩,q3,q4⟩
  go_simp
  first|done|rfl
 refine zP (i:=8) (v:=?vv9) kA kA rfl kA kA kA fD d1 ⟨.inl ⟨rfl,?yy9⟩,fun _=>rfl⟩ ?_
 case yy9=>
  rintro wx ⟨⟨q1,q2⟩,q3,q4⟩
  go_simp
  first|done|rfl
 refine zP (i:=9) (v:=?vv10) kA kA rfl kA kA kA fD d1 ⟨.inl ⟨rfl,?yy10⟩,fun _=>rfl⟩ ?_
 case yy10=>
  rintro wx ⟨⟨q1,q2⟩,q3,q4⟩
  go_simp
  first|done|rfl
 refine zAL (i:=10) kA rfl (fun K hK=>?_)
 go_simp
 refine bG (bB.2 (zJX A n c l A' n' c' l' _ (hr.below (((xG _ w).drew).drew)) (hr'.below (((xG _ w).drew).drew)) hi.lt hi'.lt (by rw[hi.val,hi'.val];exact hlt) oA oA)) ?_
 rintro e w2 ⟨A2,n2,c2,l2,rfl,hi2,hr2,hb2⟩
 have hB2:Below w.heap.size w w2:=(((xG _ w).drew).drew).trans hb2
 have hb3:=hb.kept hB2;have hb3':=hb'.kept hB2
 obtain⟨⟨m0,m1⟩,m2,m3⟩:=hb3.facts2
 obtain⟨⟨p0,p1⟩,p2,p3⟩:=hb3'.facts2
 have d3:=And.intro hb3.facts2.1 hb3'.facts2.1
 refine hK _ _ (.inr d3) ?_
 clear hK K
 refine zAL (i:=11) kA rfl (fun K hK=>?_)
 go_simp
 refine hK _ _ (.inr d3) ?_
 clear hK K
 refine zP (i:=12) (v:=?vv11) kA kA rfl kA kA kA fD d3 ⟨.inl ⟨rfl,?yy11⟩,fun _=>rfl⟩ ?_
 case yy11=>
  rintro wx ⟨⟨q1,q2⟩,q3,q4⟩
  go_simp
  first|done|rfl
 refine zP (i:=13) (v:=?vv12) kA kA rfl kA kA kA fD d3 ⟨.inl ⟨rfl,?yy12⟩,fun _=>rfl⟩ ?_
 case yy12=>
  rintro wx ⟨⟨q1,q2⟩,q3,q4⟩
  go_simp
  first|done|rfl
 refine zP (i:=14) (v:=?vv13) kA kA rfl kA kA kA fD d3 ⟨.inl ⟨rfl,?yy13⟩,fun _=>rfl⟩ ?_
 case yy13=>
  rintro wx ⟨⟨q1,q2⟩,q3,q4⟩
  go_simp
  first|done|rfl
 refine zP (i:=15) (v:=?vv14) kA kA rfl kA kA kA fD d3 ⟨.inl ⟨rfl,?yy14⟩,fun _=>rfl⟩ ?_
 case yy14=>
  rintro wx ⟨⟨q1,q2⟩,q3,q4⟩
  go_simp
  first|done|rfl
 refine zCW kA ?_
 have hv2:iv (decide (v<0)) l2=v+v':=by
  unfold iv
  rw[hi2.val,hi.val,hi'.val]
  have hs':=nH.1 hs
  by_cases h0:v<0
  .have h1: ¬v'<0:=fun h1=>hs' (by rw[lH h0,lH h1])
   rw[lH h0]
   simp only[cG]
   omega
  .have h1:v'<0:=Decidable.byContradiction fun h1=>hs' (by rw[xZ h0,xZ h1])
   rw[xZ h0]
   simp only[xL,xJ]
   omega
 have hn2:n2<=k:=by
  rw[<-hr2.len]
  exact hi2.len (nD (nR _ _) (by rw[hi.val];exact hv))
 go_wp2_with (go_at_call 144;refine(zEr B _ A2 n2 c2 l2 _ (hb3.set 1 _) (hr2.setN hb3 (i:=1) rfl (fun _=>fG) _) hi2.lt oA).mono ?_;rintro e w4 ⟨rfl,hn4,hg4⟩)
 go_end0
 exact⟨⟨_,rfl⟩,by rw[hv2]at hn4;exact hn4,((zCE hB2).but (some B)).trans ((qD w2 ⟨B,1,none⟩ _).trans hg4)⟩
theorem zMx(B B':Nat)(v v':Int)(k:Nat)(w:WB)(h:zAI w B v)(h':zAI w B' v')(_hne:B'≠B)(hv:v.natAbs<BB^k)(hv':v'.natAbs<BB^k)(hk:k<=1000000)(hs:(decide (v<0)==decide (v'<0))=false)(hlt:v.natAbs<v'.natAbs):
  Calls prog 127 #[.pointer (some ⟨B,0,none⟩),.pointer (some ⟨B',0,none⟩)] w fun e w'=>(∃u,e=.returned u)/\zAI w' B (v+v')/\w.grownBy w' (some B):=by
 obtain⟨A,n,c,l,hb,hi,hr⟩:=h
 obtain⟨A',n',c',l',hb',hi',hr'⟩:=h'
 have hn:n<=k:=by rw[<-hr.len];exact hi.len hv
 have hn':n'<=k:=by rw[<-hr'.len];exact hi'.len hv'
 obtain⟨⟨g0,g1⟩,g2,g3⟩:=hb.facts2
 obtain⟨⟨k0,k1⟩,k2,k3⟩:=hb'.facts2
 have hmix:prog.follows .mixedOrders=true:=fJ
 go_enter func127,ntmps127
 go_wp2_with (first|go_region|fail)
 have d1:=And.intro (And.intro g0 g1) (And.intro k0 k1)
 refine(bL (n:=0)).1<|yF 100 (fun W=>(W.cell? ⟨B,0,none⟩=some (.bool (decide (v<0)))/\W.cell? ⟨B,1,none⟩=some (.slice A n c))/\W.cell? ⟨B',0,none⟩=some (.bool (decide (v'<0)))/\W.cell? ⟨B',1,none⟩=some (.slice A' n' c')) hmix<|zP (i:=0) (v:=?vv15) kA kA rfl kA kA kA fD d1 ⟨.inl ⟨rfl,?yy15⟩,fun _=>rfl⟩ ?_
 case yy15=>
  rintro wx ⟨⟨q1,q2⟩,q3,q4⟩
  go_simp
  first|done|rfl
 refine zP (i:=1) (v:=?vv16) kA kA rfl kA kA kA fD d1 ⟨.inl ⟨rfl,?yy16⟩,fun _=>rfl⟩ ?_
 case yy16=>
  rintro wx ⟨⟨q1,q2⟩,q3,q4⟩
  go_simp
  first|done|rfl
 refine zP (i:=2) (v:=?vv17) kA kA rfl kA kA kA fD d1 ⟨.inl ⟨rfl,?yy17⟩,fun _=>rfl⟩ ?_
 case yy17=>
  rintro wx ⟨⟨q1,q2⟩,q3,q4⟩
  go_simp
  first|done|rfl
 refine zP (i:=3) (v:=?vv18) kA kA rfl kA kA kA fD d1 ⟨.inl ⟨rfl,?yy18⟩,fun _=>rfl⟩ ?_
 case yy18=>
  rintro wx ⟨⟨q1,q2⟩,q3,q4⟩
  go_simp
  first|done|rfl
 refine zP (i:=4) (v:=?vv19) kA kA rfl kA kA kA fD d1 ⟨.inl ⟨rfl,?yy19⟩,fun _=>rfl⟩ ?_
 case yy19=>
  rintro wx ⟨⟨q1,q2⟩,q3,q4⟩
  go_simp
  first|done|rfl
 refine zP (i:=5) (v:=?vv20) kA kA rfl kA kA kA fD d1 ⟨.inl ⟨rfl,?yy20⟩,fun _=>rfl⟩ ?_
 case yy20=>
  rintro wx ⟨⟨q1,q2⟩,q3,q4⟩
  go_simp
  first|done|rfl
 refine zP (i:=6) (v:=?vv21) kA kA rfl kA kA kA fD d1 ⟨.inl ⟨rfl,?yy21⟩,fun _=>rfl⟩ ?_
 case yy21=>
  rintro wx ⟨⟨q1,q2⟩,q3,q4⟩
  go_simp
  first|done|rfl
 refine zP (i:=7) (v:=?vv22) kA kA rfl kA kA kA fD d1 ⟨.inl ⟨rfl,?yy22⟩,fun _=>rfl⟩ ?_
 case yy22=>
  rintro wx ⟨⟨q1,q2⟩,q3,q4⟩
  go_simp
  first|done|rfl
 refine zP (i:=8) (v:=?vv23) kA kA rfl kA kA kA fD d1 ⟨.inl ⟨rfl,?yy23⟩,fun _=>rfl⟩ ?_
 case yy23=>
  rintro wx ⟨⟨q1,q2⟩,q3,q4⟩
  go_simp
  first|done|rfl
 refine zP (i:=9) (v:=?vv24) kA kA rfl kA kA kA fD d1 ⟨.inl ⟨rfl,?yy24⟩,fun _=>rfl⟩ ?_
 case yy24=>
  rintro wx ⟨⟨q1,q2⟩,q3,q4⟩
  go_simp
  first|done|rfl
 refine zAL (i:=10) kA rfl (fun K hK=>?_)
 go_simp
 refine bG (bB.2 (zQb A n c l A' n' c' l' _ (hr.below (((xG _ w).drew).drew)) (hr'.below (((xG _ w).drew).drew)) hi.lt hi'.lt (by rw[hi.val,hi'.val];exact hlt))) ?_
 rintro e w2 ⟨rfl,hb2⟩
 have hB2:Below w.heap.size w w2:=(((xG _ w).drew).drew).trans hb2
 have hb3:=hb.kept hB2;have hb3':=hb'.kept hB2
 obtain⟨⟨m0,m1⟩,m2,m3⟩:=hb3.facts2
 obtain⟨⟨p0,p1⟩,p2,p3⟩:=hb3'.facts2
 have d3:=And.intro hb3.facts2.1 hb3'.facts2.1
 refine hK _ _ (.inr d3) ?_
 clear hK K
 refine zAL (i:=11) kA rfl (fun K hK=>?_)
 go_simp
 refine hK _ _ (.inr d3) ?_
 clear hK K
 refine zP (i:=12) (v:=?vv25) kA kA rfl kA kA kA fD d3 ⟨.inl ⟨rfl,?yy25⟩,fun _=>rfl⟩ ?_
 case yy25=>
  rintro wx ⟨⟨q1,q2⟩,q3,q4⟩
  go_simp
  first|done|rfl
 refine zP (i:=13) (v:=?vv26) kA kA rfl kA kA kA fD d3 ⟨.inl ⟨rfl,?yy26⟩,fun _=>rfl⟩ ?_
 case yy26=>
  rintro wx ⟨⟨q1,q2⟩,q3,q4⟩
  go_simp
  first|done|rfl
 refine zP (i:=14) (v:=?vv27) kA kA rfl kA kA kA fD d3 ⟨.inl ⟨rfl,?yy27⟩,fun _=>rfl⟩ ?_
 case yy27=>
  rintro wx ⟨⟨q1,q2⟩,q3,q4⟩
  go_simp
  first|done|rfl
 refine zP (i:=15) (v:=?vv28) kA kA rfl kA kA kA fD d3 ⟨.inl ⟨rfl,?yy28⟩,fun _=>rfl⟩ ?_
 case yy28=>
  rintro wx ⟨⟨q1,q2⟩,q3,q4⟩
  go_simp
  first|done|rfl
 refine zCW kA ?_
 go_wp2
 refine(bL (n:=0)).1<|yF 100 (fun W=>(W.cell? ⟨B,0,none⟩=some (.bool (decide (v<0)))/\W.cell? ⟨B,1,none⟩=some (.slice A n c))/\W.cell? ⟨B',0,none⟩=some (.bool (decide (v'<0)))/\W.cell? ⟨B',1,none⟩=some (.slice A' n' c')) hmix<|zP (i:=0) (v:=?vv29) kA kA rfl kA kA kA fD d3 ⟨.inl ⟨rfl,?yy29⟩,fun _=>rfl⟩ ?_
 case yy29=>
  rintro wx ⟨⟨q1,q2⟩,q3,q4⟩
  go_simp
  first|done|rfl
 refine zP (i:=1) (v:=?vv30) kA kA rfl kA kA kA fD d3 ⟨.inl ⟨rfl,?yy30⟩,fun _=>rfl⟩ ?_
 case yy30=>
  rintro wx ⟨⟨q1,q2⟩,q3,q4⟩
  go_simp
  first|done|rfl
 refine zP (i:=2) (v:=?vv31) kA kA rfl kA kA kA fD d3 ⟨.inl ⟨rfl,?yy31⟩,fun _=>rfl⟩ ?_
 case yy31=>
  rintro wx ⟨⟨q1,q2⟩,q3,q4⟩
  go_simp
  first|done|rfl
 refine zP (i:=3) (v:=?vv32) kA kA rfl kA kA kA fD d3 ⟨.inl ⟨rfl,?yy32⟩,fun _=>rfl⟩ ?_
 case yy32=>
  rintro wx ⟨⟨q1,q2⟩,q3,q4⟩
  go_simp
  first|done|rfl
 refine zP (i:=4) (v:=?vv33) kA kA rfl kA kA kA fD d3 ⟨.inl ⟨rfl,?yy33⟩,fun _=>rfl⟩ ?_
 case yy33=>
  rintro wx ⟨⟨q1,q2⟩,q3,q4⟩
  go_simp
  first|done|rfl
 refine zP (i:=5) (v:=?vv34) kA kA rfl kA kA kA fD d3 ⟨.inl ⟨rfl,?yy34⟩,fun _=>rfl⟩ ?_
 case yy34=>
  rintro wx ⟨⟨q1,q2⟩,q3,q4⟩
  go_simp
  first|done|rfl
 refine zP (i:=6) (v:=?vv35) kA kA rfl kA kA kA fD d3 ⟨.inl ⟨rfl,?yy35⟩,fun _=>rfl⟩ ?_
 case yy35=>
  rintro wx ⟨⟨q1,q2⟩,q3,q4⟩
  go_simp
  first|done|rfl
 refine zP (i:=7) (v:=?vv36) kA kA rfl kA kA kA fD d3 ⟨.inl ⟨rfl,?yy36⟩,fun _=>rfl⟩ ?_
 case yy36=>
  rintro wx ⟨⟨q1,q2⟩,q3,q4⟩
  go_simp
  first|done|rfl
 refine zP (i:=8) (v:=?vv37) kA kA rfl kA kA kA fD d3 ⟨.inl ⟨rfl,?yy37⟩,fun _=>rfl⟩ ?_
 case yy37=>
  rintro wx ⟨⟨q1,q2⟩,q3,q4⟩
  go_simp
  first|done|rfl
 refine zP (i:=9) (v:=?vv38) kA kA rfl kA kA kA fD d3 ⟨.inl ⟨rfl,?yy38⟩,fun _=>rfl⟩ ?_
 case yy38=>
  rintro wx ⟨⟨q1,q2⟩,q3,q4⟩
  go_simp
  first|done|rfl
 refine zAL (i:=10) kA rfl (fun K hK=>?_)
 go_simp
 have hB2d:=hB2.drew
 refine bG (bB.2 (zJX A' n' c' l' A n c l _ (hr'.below hB2d) (hr.below hB2d) hi'.lt hi.lt (by rw[hi.val,hi'.val];omega) oA oA)) ?_
 rintro e w3 ⟨A2,n2,c2,l2,rfl,hi2,hr2,hb4⟩
 have hB3:Below w.heap.size w w3:=hB2d.trans (hb4.mono hB2d.size)
 have hb5:=hb.kept hB3;have hb5':=hb'.kept hB3
 obtain⟨⟨s0,s1⟩,s2,s3⟩:=hb5.facts2
 obtain⟨⟨t0,t1⟩,t2,t3⟩:=hb5'.facts2
 have d5:=And.intro hb5.facts2.1 hb5'.facts2.1
 refine hK _ _ (.inr d5) ?_
 clear hK K
 refine zAL (i:=11) kA rfl (fun K hK=>?_)
 go_simp
 refine hK _ _ (.inr d5) ?_
 clear hK K
 refine zP (i:=12) (v:=?vv39) kA kA rfl kA kA kA fD d5 ⟨.inl ⟨rfl,?yy39⟩,fun _=>rfl⟩ ?_
 case yy39=>
  rintro wx ⟨⟨q1,q2⟩,q3,q4⟩
  go_simp
  first|done|rfl
 refine zP (i:=13) (v:=?vv40) kA kA rfl kA kA kA fD d5 ⟨.inl ⟨rfl,?yy40⟩,fun _=>rfl⟩ ?_
 case yy40=>
  rintro wx ⟨⟨q1,q2⟩,q3,q4⟩
  go_simp
  first|done|rfl
 refine zP (i:=14) (v:=?vv41) kA kA rfl kA kA kA fD d5 ⟨.inl ⟨rfl,?yy41⟩,fun _=>rfl⟩ ?_
 case yy41=>
  rintro wx ⟨⟨q1,q2⟩,q3,q4⟩
  go_simp
  first|done|rfl
 refine zCW kA ?_
 have hv2:iv (decide (v'<0)) l2=v+v':=by
  unfold iv
  rw[hi2.val,hi.val,hi'.val]
  have hs':=nH.1 hs
  by_cases h0:v<0
  .have h1: ¬v'<0:=fun h1=>hs' (by rw[lH h0,lH h1])
   rw[xZ h1]
   simp only[xL,xJ]
   omega
  .have h1:v'<0:=Decidable.byContradiction fun h1=>hs' (by rw[xZ h0,xZ h1])
   rw[lH h1]
   simp only[cG]
   omega
 have hn2:n2<=k:=by
  rw[<-hr2.len]
  exact hi2.len (nD (nR _ _) (by rw[hi'.val];exact hv'))
 go_wp2_with (go_at_call 144;refine(zEr B _ A2 n2 c2 l2 _ ((hb5.set 0 _).set 1 _) ((hr2.setN hb5 (i:=0) rfl (fun _=>fG) _).setN (hb5.set 0 _) (i:=1) rfl (fun _=>fG) _) hi2.lt oA).mono ?_;rintro e w4 ⟨rfl,hn4,hg4⟩)
 go_end0
 exact⟨⟨_,rfl⟩,by rw[hv2]at hn4;exact hn4,((zCE hB3).but (some B)).trans ((qD w3 ⟨B,0,none⟩ _).trans ((qD _ ⟨B,1,none⟩ _).trans hg4))⟩
attribute [local go_sem] Oper.semAt_some qL yG
theorem num_add(B B':Nat)(v v':Int)(k:Nat)(w:WB)(h:zAI w B v)(U:zAI w B' v')(I:B'≠B)(hv:v.natAbs<BB^k)(J:v'.natAbs<BB^k)(hk:k<=1000000):
  Calls prog 127 #[.pointer (some ⟨B,0,none⟩),.pointer (some ⟨B',0,none⟩)] w fun e w'=>(∃u,e=.returned u)/\zAI w' B (v+v')/\w.grownBy w' (some B):=by
 by_cases hs:decide (v<0)=decide (v'<0)
 .exact zJn B B' v v' k w h U I hv J hk hs
 .have O:=nH.2 hs
  by_cases hlt:v'.natAbs<=v.natAbs
  .exact zMy B B' v v' k w h U I hv J hk O hlt
  .exact zMx B B' v v' k w h U I hv J hk O oA
theorem zHc{p:Addr}{v:WE}(h:W.cell? p=some v)(J:W.grownBy W' row)(O:∀r,row=some r->C<=r/\∃o:Obj,W.heap[r]?=some o/\o.isCells=false):W'.cell? p=some v:=by
 refine(bQ (J.block _ (z7 h) ?_)).trans h
 intro e
 obtain⟨_,o,I,U⟩:=O _ e.symm
 rw[zEK I U]at h
 cases h
theorem Rd.abide(h:Rd W A n c l)(J:W.grownBy W' row)(O:∀r,row=some r->C<=r/\∃o:Obj,W.heap[r]?=some o/\o.isCells=false):Rd W' A n c l:=
 ⟨h.len,h.le,h.cap,h.nil,fun i hi=>by
  obtain⟨b,o,e,I⟩:=h.cells i hi
  exact⟨b,o,e,zHc I J O⟩⟩
theorem q7.abide(h:q7 W B t vs)(J:W.grownBy W' row)(O:∀r,row=some r->C<=r/\∃o:Obj,W.heap[r]?=some o/\o.isCells=false):q7 W' B t vs:=by
 refine(J.block B h.lt ?_).trans h
 intro e
 obtain⟨_,o,I,U⟩:=O B e.symm
 rw[show W.heap[B]?=_ from h]at I
 cases I
 cases U
theorem zAI.abide{v:Int}(h:zAI W B v)(I:W.grownBy W' row)(J:∀r,row=some r->C<=r/\∃o:Obj,W.heap[r]?=some o/\o.isCells=false):zAI W' B v:=by
 obtain⟨A,n,c,l,O,h2,h3⟩:=h
 exact⟨A,n,c,l,O.abide I J,h2,h3.abide I J⟩
def zEL(is:List (Bool×List Nat)):Nat->Int
 |0=>0
 |k+1=>zEL is k+zE0 is k
def zCB(is:List (Bool×List Nat)):Nat->Int
 |0=>1
 |k+1=>zCB is k*zE0 is k
theorem zG4{is:List (Bool×List Nat)}{m:Nat}(h:∀k,(zE0 is k).natAbs<BB^m):∀k,(zEL is k).natAbs<=k*BB^m
 |0=>by simp[zEL]
 |k+1=>by
  have h1:=zG4 h k;have h2:=h k
  rw[vU,uV]
  show(zEL is k+zE0 is k).natAbs<=_
  omega
def zXn(w:WB)(B0 P:Nat)(is:List (Bool×List Nat))(k:Nat)(W:WB):Prop:=
 zAI W B0 (zEL is k)/\Boxed W P 135 (.pointer (some ⟨B0,0,none⟩))/\q7 W w.heap.size 26 #[.bool false,.slice none 0 0]/\Below w.heap.size w W/\P+2<=W.heap.size
theorem zIP(w:WB)(B0 P:Nat)(is:List (Bool×List Nat)){C:Nat}(hC:w.heap.size<=C):OwnFrom C (zXn w B0 P is):=by
 rintro k W W' row ⟨U,h2,h3,O,h5⟩ I J
 exact⟨U.abide I J,qR h2 I J,h3.abide I J,zAA O I (vQ _) hC J,xR h5 I.size⟩
theorem zK7(A:WG Addr)(n c:Nat)(is:List (Bool×List Nat))(m:Nat)(w:WB)(h:IRd w A n is)(hn:n<=c)(hc:c<=9223372036854775807)(hm:m<=900000)(hv:∀k,(zE0 is k).natAbs<BB^m)(hnn:n<=1000000:=by first|omega|decide):
  Calls prog 103 #[.slice A n c] w (qT w (zEL is n)):=by
 refine q6 func103 rfl ?_
 simp only[ntmps103,bN,mO,mP,Nat.reduceAdd,Nat.reduceSub,mQ,mR,mS,mT,lI,mM]
 go_wp2_with (first|(go_at_call 125;refine(zFV false none 0 0 [] _ (wM _) zCp oA).mono ?_;rintro e w1 ⟨B0,rfl,hB0,hn0,hb0⟩)|(go_at_call 126;refine(zPG A n c _).mono ?_;rintro e w2 ⟨rfl,rfl⟩))
 have hiv0:iv false []=0:=rfl
 rw[hiv0]at hn0
 obtain⟨W0,hW0⟩:∃W0,((w1.alloc (.cells #[.pointer (some ⟨B0,0,none⟩)] 135)).alloc (.cells #[.slice A n c] 109))=W0:=⟨_,rfl⟩
 have hsz:W0.heap.size=w1.heap.size+2:=by rw[<-hW0];simp
 have hB0l:=hn0.lt
 have hB0g:w.heap.size<B0:=vV fE hB0
 have hbw1:Below w.heap.size w w1:=((xG _ w).alloc (vQ _) _).trans (hb0.mono fE)
 have hB1:Below w.heap.size w W0:=by rw[<-hW0];exact(hbw1.alloc hbw1.size _).alloc (by simp;exact Nat.le_succ_of_le hbw1.size) _
 have x0:zAI W0 B0 0:=by rw[<-hW0];exact hn0.kept (((xG _ w1).alloc (vQ _) _).alloc fE _)
 have x1:Boxed W0 w1.heap.size 135 (.pointer (some ⟨B0,0,none⟩)):=by rw[<-hW0];exact(cJ w1 _ _).alloc _
 have x2:Boxed W0 (w1.heap.size+1) 109 (.slice A n c):=by rw[<-hW0];exact zAG _ _ _ fE
 have x3:q7 W0 w.heap.size 26 #[.bool false,.slice none 0 0]:=by rw[<-hW0];exact((zMj hb0 rfl).alloc _).alloc _
 rw[hW0]
 clear hW0
 have hSb:∀b,(b<w.heap.size∨b=w1.heap.size+1)->b<W0.heap.size:=fun b hb=>by have:=hbw1.size;omega
 refine zCt (gf:=145) rfl (enters_of func145 kA rfl) (zJK A n c is (w1.heap.size+1) w W0 h hB1 hn hc x2.cell (S:=fun b=>b<w.heap.size∨b=w1.heap.size+1) hSb (.inr rfl) (fun b hb=>.inl hb)) ?hE ?hps zGA.trans (zH8 hSb)
  (zXn w B0 w1.heap.size is) (zIP w B0 _ is hB1.size) (zCo (zIP w B0 _ is (vQ _))) wT (fun _ _ _ _ _ _ _ _=>trivial) ⟨x0,x1,x3,hB1,nV hsz.symm⟩
  (fun _ xs=>{ tmps:=#[.slice A n c,undef,.pointer (some ⟨w.heap.size,0,none⟩),.pointer (some ⟨w1.heap.size,0,none⟩),xs.getD 0 undef,.agg #[.bool false,.slice none 0 0],.pointer (some ⟨B0,0,none⟩),.slice A n c,.func (.func 145) #[] #[.pointer (some ⟨w1.heap.size+1,0,none⟩)],xs.getD 0 undef,undef,undef,undef,undef,undef,undef,undef],defers:=[] }) ?assign ?body ?done
 case hE=>
  rintro k xs W l o o' ⟨B,rfl,h1,h2⟩ ho hc
  exact⟨B,rfl,h1,h2.abide (C:=0) (eO W l o') (fun r e=>by cases e;exact⟨vS _,o,ho,hc⟩)⟩
 case hps=>
  rintro k xs W ⟨B,rfl,_⟩
  rfl
 case assign=>
  rintro lp k xs W K ⟨B,rfl,h1,h2⟩ hK
  gi_wp2
  exact hK
 case body=>
  rintro lp k xs W hk ⟨h1,h2,h3,h4,h5⟩ ⟨B,rfl,hB,hnb⟩
  have hc2:=h2.cell
  have hne:B≠B0:=oA
  have hkm:k<=1000000:=oA
  have hbd:(zEL is k).natAbs<BB^(m+1):=by
   refine nD (zG4 hv k) ?_
   rw[uA,vT]
   exact Nat.mul_lt_mul_of_pos_left (by unfold BB;omega) (uO (by unfold BB;omega))
  have hbd2:(zE0 is k).natAbs<BB^(m+1):=vV (hv k) (vZ (by unfold BB;omega) (Nat.le_succ m))
  gi_wp2_with (gi_at_call 127;refine bG (bB.2 (num_add B0 B _ _ (m+1) W h1 hnb hne hbd hbd2 oA)) ?_;rintro e w3 ⟨⟨u,rfl⟩,hn3,hg3⟩)
  have hbx:∃vs t,q7 W B0 t vs:=by obtain⟨_,_,_,_,g,_⟩:=h1;exact⟨_,_,g⟩
  obtain⟨vs,t,g⟩:=hbx
  refine⟨(eJ hg3 (fun j o e ho=>by cases e;rw[show W.heap[B0]?=_ from g]at ho;cases ho;rfl)).from _,⟨(y8.refl _ _).grown hg3 (fun b hb=>⟨by have:=hSb b hb;omega,fun e=>by cases e;omega⟩),hg3.size⟩,hn3,h2.kept hg3 (fun e=>by cases e;omega),(hg3.block _ h3.lt (fun e=>by cases e;omega)).trans h3,zA3 h4 hg3 h4.size oA,xR h5 hg3.size⟩
 case done=>
  rintro D W hD ⟨h1,h2,h3,h4,h5⟩ _ hd
  obtain⟨A2,n2,c2,l2,⟨g0,g1⟩,hi2,hr2⟩:=h1.parts
  have hc2:=h2.cell
  obtain⟨⟨q0,q1⟩,q2,q3⟩:=h3.facts2
  go_wp2
  have hb5:=(h3.set 0 (.bool (decide (zEL is n<0)))).set 1 (.slice A2 n2 c2)
  have hM:Marks w.heap.size ((W.setCell ⟨w.heap.size,0,none⟩ (.bool (decide (zEL is n<0)))).setCell ⟨w.heap.size,1,none⟩ (.slice A2 n2 c2)) [mark D] [D]:=((Marks.nil w.heap.size W).more (D:=D) fE (by have:=hB1.size;omega) hd).others ((bR _ _ _).trans (bR _ _ _))
  obtain⟨A3,n3,c3,l3,e3,hi3,hr3,hb3⟩:=zIV h3 h4 (vQ _) hi2 hr2
  cases e3
  refine qH _ (v:=.agg #[.bool (decide (zEL is n<0)),.slice A2 n2 c2]) (fun w' ho'=>?_) [D] _ _ hM (Oth.refl _ _) ?_
  .obtain⟨⟨c0,c1⟩,_,_⟩:=(hb5.oth ho').facts2
   simp[results,results103,go_sem,c0,c1]
  .intro w' ho
   exact⟨A2,n2,c2,l3,rfl,hi3,hr3.oth ho,zAh hb3 ho (vQ _)⟩
attribute [local go_sem] Oper.semAt_some qL yG
theorem zDd{v:Int}(h:Is l v.natAbs):iv (decide (v<0)) l=v:=by
 unfold iv
 rw[h.val]
 by_cases h0:v<0
 .rw[lH h0];simp only[cG];omega
 .rw[xZ h0];simp only[xL,xJ];omega
theorem IRd.two(h:Rd w A n c l)(ht:Lt l)(O:n<=m){A':WG Addr}{n' c':Nat}{l':List Nat}(J:Rd w A' n' c' l')(ht':Lt l')(I:n'<=m)(t:WF):
  IRdM m (w.alloc (.cells #[.bool s,.slice A n c,.bool s',.slice A' n' c'] t)) (some ⟨w.heap.size,0,none⟩) 2 [(s,l),(s',l')]:=
 ⟨rfl,fun i hi=>by
  rcases(oA:i=0∨i=1)with rfl|rfl
  .exact⟨_,_,s,A,n,c,l,rfl,zB0 w _ t 0,zB0 w _ t 1,rfl,h.alloc _,ht,O⟩
  .exact⟨_,_,s',A',n',c',l',rfl,zB0 w _ t 2,zB0 w _ t 3,rfl,J.alloc _,ht',I⟩⟩
theorem zAF(ht:Lt l)(hl:l.length=n)(hn:n<=m):(iv s l).natAbs<BB^m:=by
 rw[zOS]
 exact vV (qV ht) (vZ (by unfold BB;omega) oA)
theorem zLL(p q:Bool×List Nat)(m:Nat)(O:(iv p.1 p.2).natAbs<BB^m)(J:(iv q.1 q.2).natAbs<BB^m)(k:Nat):(zE0 [p,q] k).natAbs<BB^m:=by
 have I:0<BB^m:=uO (by unfold BB;omega)
 unfold zE0
 match k with
 |0=>simpa using O
 |1=>simpa using J
 |k+2=>simpa using I
theorem zQd(s:Bool)(A:WG Addr)(n c:Nat)(l:List Nat)(s':Bool)(A':WG Addr)(n' c':Nat)(l':List Nat)(w:WB)(h:Rd w A n c l)(ht:Lt l)(h':Rd w A' n' c' l')(ht':Lt l')(m:Nat)(hl:n<=m)(hl':n'<=m)(hm:m<=100000):
  Calls prog 151 #[.agg #[.bool s,.slice A n c],.agg #[.bool s',.slice A' n' c']] w (qT w (iv s l-iv s' l')):=by
 have hmix:prog.follows .mixedOrders=true:=fJ
 go_enter func151,ntmps151
 go_wp2
 refine(bL (n:=0)).1 ?_
 obtain⟨W0,hW0⟩:∃W0,(((w.alloc (.cells #[.bool s,.slice A n c] 26)).alloc (.cells #[.bool s',.slice A' n' c'] 26)).alloc (.cells #[.bool false,.slice none 0 0] 26))=W0:=⟨_,rfl⟩
 have x0:q7 W0 w.heap.size 26 #[.bool s,.slice A n c]:=by rw[<-hW0];exact((q7.new w _ _).alloc _).alloc _
 have x1:q7 W0 (w.heap.size+1) 26 #[.bool s',.slice A' n' c']:=by rw[<-hW0];exact(q7.at_ _ _ _ fE).alloc _
 have x2:q7 W0 (w.heap.size+1+1) 26 #[.bool false,.slice none 0 0]:=by rw[<-hW0];exact q7.at_ _ _ _ fE
 have hB0:Below w.heap.size w W0:=by rw[<-hW0];exact(((xG _ w).alloc (vQ _) _).alloc fE _).alloc fM _
 rw[hW0]
 clear hW0
 refine yF 100 (fun W=>(W.cell? ⟨w.heap.size,0,none⟩=some (.bool s)/\W.cell? ⟨w.heap.size,1,none⟩=some (.slice A n c))/\W.cell? ⟨w.heap.size+1,0,none⟩=some (.bool s')/\W.cell? ⟨w.heap.size+1,1,none⟩=some (.slice A' n' c')) hmix ?_
 have d1:=And.intro x0.facts2.1 x1.facts2.1
 refine zP (i:=0) (v:=?vv1) kA kA rfl kA kA kA fD d1 ⟨.inl ⟨rfl,?yy1⟩,fun _=>rfl⟩ ?_
 case yy1=>
  rintro wx ⟨⟨q1,q2⟩,q3,q4⟩
  go_simp
  first|done|rfl
 refine zP (i:=1) (v:=?vv2) kA kA rfl kA kA kA fD d1 ⟨.inl ⟨rfl,?yy2⟩,fun _=>rfl⟩ ?_
 case yy2=>
  rintro wx ⟨⟨q1,q2⟩,q3,q4⟩
  go_simp
  first|done|rfl
 refine zAL (i:=2) kA rfl (fun K hK=>?_)
 go_simp
 have hneg:=zKZ s' A' n' c' l' _ ((h'.below hB0).drew) ht' oA
 obtain⟨v2,hv2⟩:∃v2,-iv s' l'=v2:=⟨_,rfl⟩
 rw[hv2]at hneg
 refine bG (bB.2 hneg) ?_
 rintro e w2 ⟨A2,n2,c2,l2,rfl,hi2,hr2,hb2⟩
 have hB2:Below W0.heap.size W0 w2:=((xG _ W0).drew).trans hb2
 have d2:=And.intro (x0.kept hB2).facts2.1 (x1.kept hB2).facts2.1
 have hn2:n2<=m:=by
  rw[<-hr2.len]
  refine hi2.len ?_
  rw[<-hv2,Int.natAbs_neg]
  exact zAF ht' h'.len hl'
 refine hK _ _ (.inr d2) ?_
 clear hK K
 refine zAL (i:=3) kA rfl (fun K hK=>?_)
 go_simp
 have hds:IRd _ _ _ _:=IRd.two (s:=s) (s':=decide (v2<0)) (h.below (hB0.trans (hB2.mono hB0.size))) ht oA hr2 hi2.lt oA 26
 have hW3:Below W0.heap.size W0 (w2.alloc (.cells #[.bool s,.slice A n c,.bool (decide (v2<0)),.slice A2 n2 c2] 26)):=hB2.alloc hB2.size _
 refine hK _ _ (.inr ⟨(x0.kept hW3).facts2.1,(x1.kept hW3).facts2.1⟩) ?_
 clear hK K
 refine zAL (i:=4) kA rfl (fun K hK=>?_)
 go_simp
 have hvm:=zLL (s,l) (decide (v2<0),l2) m (zAF ht h.len hl) (zAF hi2.lt hr2.len hn2)
 have hsum:zEL [(s,l),(decide (v2<0),l2)] 2=iv s l-iv s' l':=by
  show(0+iv s l)+iv (decide (v2<0)) l2=_
  rw[zDd hi2]
  omega
 have hadd:=zK7 _ 2 2 _ m _ hds oA oA oA hvm
 rw[hsum]at hadd
 refine bG (bB.2 hadd) ?_
 rintro e w3 ⟨A3,n3,c3,l3,rfl,hi3,hr3,hb3⟩
 have hB3:Below W0.heap.size W0 w3:=hW3.trans (hb3.mono hW3.size)
 have hq:=x2.kept hB3
 obtain⟨⟨m0,m1⟩,m2,m3⟩:=hq.facts2
 refine hK _ _ (.inr ⟨(x0.kept hB3).facts2.1,(x1.kept hB3).facts2.1⟩) ?_
 clear hK K
 obtain⟨v3,hv3⟩:∃v3,iv s l-iv s' l'=v3:=⟨_,rfl⟩
 rw[hv3]at hi3
 simp only[hv3]
 refine zAL (i:=5) kA rfl (fun K hK=>?_)
 go_simp
 refine hK _ _ (.inr ⟨((x0.kept hB3).other (p:=⟨w.heap.size+1+1,0,none⟩) fM _|>.other (p:=⟨w.heap.size+1+1,1,none⟩) fM _).facts2.1,((x1.kept hB3).other (p:=⟨w.heap.size+1+1,0,none⟩) fE _|>.other (p:=⟨w.heap.size+1+1,1,none⟩) fE _).facts2.1⟩) ?_
 clear hK K
 refine zCW kA ?_
 obtain⟨⟨c0,c1⟩,_,_⟩:=((hq.set 0 (.bool (decide (v3<0)))).set 1 (.slice A3 n3 c3)).facts2
 go_wp2
 refine nI (v:=.agg #[.bool (decide (v3<0)),.slice A3 n3 c3]) (by simp[results,results151,go_sem,c0,c1]) rfl ?_
 rw[hv3]
 exact zIV hq (hB0.trans (hB3.mono hB0.size)) oA hi3 hr3
theorem zQp(s:Bool)(A:WG Addr)(n c:Nat)(l:List Nat)(s':Bool)(A':WG Addr)(n' c':Nat)(l':List Nat)(w:WB)(h:Rd w A n c l)(ht:Lt l)(h':Rd w A' n' c' l')(ht':Lt l')(m:Nat)(hl:n<=m)(hl':n'<=m)(hm:m<=100000):
  Calls prog 142 #[.agg #[.bool s,.slice A n c],.agg #[.bool s',.slice A' n' c']] w fun e w'=>e=.returned (.int .i64 (iv s l-iv s' l').sign)/\Below w.heap.size w w':=by
 have hb1:=((xG _ w).alloc (vQ _) (.cells #[.bool s,.slice A n c] 26)).alloc fE (.cells #[.bool s',.slice A' n' c'] 26)
 have hsub:=zQd s A n c l s' A' n' c' l' _ (h.below hb1) ht (h'.below hb1) ht' m hl hl' hm
 obtain⟨v3,hv3⟩:∃v3,iv s l-iv s' l'=v3:=⟨_,rfl⟩
 have hbd:v3.natAbs<BB^(m+1):=by
  have e1:=zAF (s:=s) ht h.len hl;have e2:=zAF (s:=s') ht' h'.len hl'
  rw[uA]
  unfold BB at*
  omega
 rw[hv3]at hsub
 rw[hv3]
 go_enter func142,ntmps142
 go_wp2_with (first|(go_at_call 151;refine hsub.mono ?_;rintro e w2 ⟨A2,n2,c2,l2,rfl,hi2,hr2,hb2⟩)|(go_at_call 120;refine(zII _ A2 n2 c2 l2 _ hr2 hi2.lt (by rw[<-hr2.len];exact xR (hi2.len hbd) oA)).mono ?_;rintro e w3 ⟨rfl,hb3⟩))
 go_ret
 have hb4:=hb1.trans (hb2.mono hb1.size)
 exact⟨by rw[zDd hi2];rfl,hb4.trans (hb3.mono hb4.size)⟩
def UV(W:WB)(m:Nat)(v:WE)(k:Int):Prop:=∃s A n c l,v=.agg #[.bool s,.slice A n c]/\Rd W A n c l/\Lt l/\n<=m/\iv s l=k
def NV(W:WB)(v:WE)(k:Int):Prop:=∃A n c l,v=.agg #[.bool (decide (k<0)),.slice A n c]/\Is l k.natAbs/\Rd W A n c l
theorem NV.uv{v:WE}(h:NV W v k){m:Nat}(J:k.natAbs<BB^m):UV W m v k:=by
 obtain⟨A,n,c,l,rfl,I,h2⟩:=h
 exact⟨_,A,n,c,l,rfl,h2,I.lt,by rw[<-h2.len];exact I.len J,zDd I⟩
theorem UV.bound{v:WE}(h:UV W m v k):k.natAbs<BB^m:=by
 obtain⟨s,A,n,c,l,rfl,I,h2,h3,rfl⟩:=h
 exact zAF h2 I.len h3
theorem UV.mono{v:WE}(h:UV W m v k)(hm:m<=m'):UV W m' v k:=by
 obtain⟨s,A,n,c,l,rfl,I,h2,h3,rfl⟩:=h
 exact⟨s,A,n,c,l,rfl,I,h2,oA,rfl⟩
def zIz(w:WB)(k:Int):Ending->WB->Prop:=fun e w'=>∃v,e=.returned v/\NV w' v k/\Below w.heap.size w w'
theorem qT.v{e:Ending}(h:qT w k e w'):zIz w k e w':=by
 obtain⟨A,n,c,l,rfl,I,h2,h3⟩:=h
 exact⟨_,rfl,⟨A,n,c,l,rfl,I,h2⟩,h3⟩
theorem zX3{v:WE}(h:UV W m v k)(hm:m<=100000):Calls prog 136 #[v] W (zIz W (-k)):=by
 obtain⟨s,A,n,c,l,rfl,I,h2,h3,rfl⟩:=h
 exact(zKZ s A n c l W I h2 oA).mono fun _ _=>qT.v
theorem zWg{v:WE}(h:UV W m v k)(hm:m<=100000):Calls prog 134 #[v] W (zIz W k):=by
 obtain⟨s,A,n,c,l,rfl,I,h2,h3,rfl⟩:=h
 exact(zIJ s A n c l W I h2 oA).mono fun _ _=>qT.v
theorem zVG{v:WE}(h:UV W m v k)(hm:m<=100000):Calls prog 120 #[v] W fun e w'=>e=.returned (.int .i64 k.sign)/\Below W.heap.size W w':=by
 obtain⟨s,A,n,c,l,rfl,I,h2,h3,rfl⟩:=h
 exact zII s A n c l W I h2 oA
theorem zYP{v v':WE}{k':Int}(h:UV W m v k)(U:UV W m v' k')(hm:m<=100000):Calls prog 142 #[v,v'] W fun e w'=>e=.returned (.int .i64 (k-k').sign)/\Below W.heap.size W w':=by
 obtain⟨s,A,n,c,l,rfl,h1,h2,h3,rfl⟩:=h
 obtain⟨s',A',n',c',l',rfl,I,O,J,rfl⟩:=U
 exact zQp s A n c l s' A' n' c' l' W h1 h2 I O m h3 J hm
def IS(W:WB)(m:Nat)(v:WE)(is:List (Bool×List Nat)):Prop:=∃A c,v=.slice A is.length c/\is.length<=c/\c<=9223372036854775807/\IRdM m W A is.length is
theorem IS.below{v:WE}(h:IS W m v is)(hb:Below W.heap.size W W'):IS W' m v is:=by
 obtain⟨A,c,J,h3,I,h2⟩:=h
 exact⟨A,c,J,h3,I,h2.below hb⟩
theorem IRdM.mono(h:IRdM m w A n is)(hm:m<=m'):IRdM m' w A n is:=
 ⟨h.len,fun i hi=>by
  obtain⟨b,o,s,O,J,ci,li,e,U,I,h1,h2,h3,h4⟩:=h.cells i hi
  exact⟨b,o,s,O,J,ci,li,e,U,I,h1,h2,h3,oA⟩⟩
theorem zIa(h:IRdM m w A n is)(k:Nat):(zE0 is k).natAbs<BB^m:=by
 by_cases hk:k<n
 .obtain⟨b,o,s,Ai,ni,ci,li,e,hc,hc',J,h2,h3,I⟩:=h.cells k hk
  unfold zE0
  rw[J]
  exact zAF h3 h2.len I
 .have:is[k]?=none:=gV (by rw[h.len];omega)
  unfold zE0
  rw[this]
  exact uO (by unfold BB;omega)
theorem zYY{v:WE}(h:IS W m v is)(hm:m<=100000)(hn:is.length<=100000):Calls prog 103 #[v] W (zIz W (zEL is is.length)):=by
 obtain⟨A,c,rfl,h3,I,h2⟩:=h
 exact(zK7 A is.length c is m W (IRdM.mono h2 oA) h3 I oA (fun k=>zIa h2 k)).mono fun _ _=>qT.v
theorem IS.two(h:Rd w A n c l)(ht:Lt l)(O:n<=m){A':WG Addr}{n' c':Nat}{l':List Nat}(J:Rd w A' n' c' l')(ht':Lt l')(I:n'<=m)(t:WF):
  IS (w.alloc (.cells #[.bool s,.slice A n c,.bool s',.slice A' n' c'] t)) m (.slice (some ⟨w.heap.size,0,none⟩) 2 2) [(s,l),(s',l')]:=⟨_,2,rfl,vQ _,fH,IRd.two h ht O J ht' I t⟩
theorem zAd(A:WG Addr)(n c:Nat)(l:List Nat)(i:Int)(w:WB)(h:Rd w A n c l)(ht:Lt l)(h0:0<=i):
  Calls prog 139 #[.slice A n c,.int .i64 i] w fun e w'=>e=.returned (.int .u64 (lm l i.toNat))/\w=w':=by
 obtain⟨k,rfl⟩:=lK h0
 rw[lN]
 have hle:=h.le;have hcap:=h.cap
 have x:=qQ ht k
 simp only[BB]at x
 by_cases hi:k<n
 .obtain⟨b,o,rfl,hc⟩:=h.cells k hi
  go_enter func139,ntmps139
  go_wp2
  go_ret
  exact⟨rfl,rfl⟩
 .rw[zEw (by rw[h.len];omega)]
  go_enter func139,ntmps139
  go_wp2
  go_ret
  exact⟨rfl,rfl⟩
theorem jL(A:WG Addr)(n c:Nat)(l:List Nat)(w:WB)(h:Rd w A n c l)(ht:Lt l)(hl:n<=1099511627776):
  Calls prog 40 #[.slice A n c] w (jH w (val l)):=by
 have hle:=h.le;have hcap:=h.cap;have hlen:=h.len
 have hown:yE (w.alloc (.cells #[] 69)) w.heap.size 69 (.slice (some ⟨w.heap.size,0,none⟩) 0 0) []:=lM (base:=w.heap.size) (e:=69) (size:=1) w #[] 0 (vQ _) (by unfold maxLen;omega) rfl
 have hbs:w.heap.size<=(w.alloc (.cells #[] 69)).heap.size:=fG
 go_enter func40,ntmps40
 go_wp2
 go_loop [3] (fun x=>∃k:Nat,k<=n/\x=.int .i64 k/\(∀i,k<=i->i<l.length->lm l i=0)) (fun x=>(intOf x).toNat)
 case atStart=>exact⟨n,vQ _,rfl,fun i h1 h2=>oA⟩
 case round=>
  obtain⟨k,hk,rfl,hz⟩:=hrel
  have HZ:=hid hz
  clear hz
  have hfin:∀w1 A1 c1,yE w1 w.heap.size 69 (.slice A1 k c1) ([]++l.take k)->(k=0∨lm l (k-1)≠0)->(w.alloc (.cells #[] 69)).grownBy w1 (Value.ownBlock (.slice (some ⟨w.heap.size,0,none⟩) 0 0))->jH w (val l) (.returned (.slice A1 k c1)) w1:=by
   intro w1 A1 c1 h1 h2 h3
   rw[lI]at h1
   exact⟨A1,k,c1,l.take k,rfl,⟨zCa ht _,zCu l k oA HZ.out h2,jI oA HZ.out⟩,h1.rd,yE.grown ((xG w.heap.size w).alloc (vQ _) _) hown h3 (vQ _) hbs⟩
  have HF:=hid hfin
  clear hfin
  have hs1:([]:List Nat).length+(l.take k).length<=17592186044416:=fM
  have hl1:([]++l.take k).length=k:=fM
  by_cases h0:0<k
  .obtain⟨b,o,rfl,hc⟩:=h.cells (k-1) oA
   have e1:((k:Int)-1).toNat=k-1:=oA
   by_cases hx:lm l (k-1)=0
   .go_wp2
    go_round
    case rel=>exact⟨k-1,oA,by congr 1;omega,fun i h1 h2=>by
     by_cases e:i=k-1
     .subst e;exact hx
     .exact HZ.out i oA h2⟩
    case measure=>simp[intOf];omega
   .have hx2:((lm l (k-1):Int)==0)=false:=by simpa using hx
    have HX:=hid hx
    clear hx
    have hr1:Rd (w.alloc (.cells #[] 69)) (some ⟨b,o,none⟩) k c (l.take k):=(h.take hk oA (vQ _)).alloc _
    go_wp2_with (at_builtin;go_must (refine zU rfl _ _ 24 69 rfl yH yX w.heap.size _ [] rfl hown _ k c (l.take k) rfl hr1 hs1 hbs ?_;intro v1 w1 hown1 hg1 hat1;obtain⟨A1,c1,rfl⟩:=hown1.form' hl1))
    go_ret
    exact HF.out w1 A1 c1 hown1 (.inr HX.out) hg1
  .obtain rfl:k=0:=oA
   cases A with
   |none=>
    obtain⟨rfl,rfl,rfl⟩:=h.empty
    go_wp2_with (at_builtin;go_must (refine zU rfl _ _ 24 69 rfl yH yX w.heap.size _ [] rfl hown _ 0 0 [] rfl (wM _) hs1 hbs ?_;intro v1 w1 hown1 hg1 hat1;obtain⟨A1,c1,rfl⟩:=hown1.form' hl1))
    go_ret
    exact HF.out w1 A1 c1 hown1 (.inl fE) hg1
   |some ad=>
    have hr1:Rd (w.alloc (.cells #[] 69)) (some ad) 0 c (l.take 0):=(h.take hk oA (vQ _)).alloc _
    go_wp2_with (at_builtin;go_must (refine zU rfl _ _ 24 69 rfl yH yX w.heap.size _ [] rfl hown _ 0 c (l.take 0) rfl hr1 hs1 hbs ?_;intro v1 w1 hown1 hg1 hat1;obtain⟨A1,c1,rfl⟩:=hown1.form' hl1))
    go_ret
    exact HF.out w1 A1 c1 hown1 (.inl fE) hg1
theorem zJ1(x:Nat)(hx:x<18446744073709551616)(w:WB):
  Calls prog 68 #[.int .u64 x] w (jH w x):=by
 have hr:=Rd.new w [x%4294967296,x/4294967296] 69 #[.int .u32 ((x:Int)%4294967296),.int .u32 ((x:Int)/4294967296)] (by simp[zBQ]) fE
 have hlt:Lt [x%4294967296,x/4294967296]:=by
  intro y hy
  simp at hy
  rcases hy with rfl|rfl<;>unfold BB<;>omega
 have hv:val [x%4294967296,x/4294967296]=x:=by rw[zMY];omega
 go_enter func68,ntmps68
 go_wp2_with (go_at_call 40;refine(jL _ 2 2 _ _ hr hlt oA).mono ?_;rintro e w1 ⟨A1,n1,c1,l1,rfl,hi1,hr1,hb1⟩)
 go_ret
 rw[hv]at hi1
 exact⟨A1,n1,c1,l1,rfl,hi1,hr1,((xG _ w).alloc (vQ _) _).trans (hb1.mono fE)⟩
theorem zFv(A:WG Addr)(n c:Nat)(l:List Nat)(A':WG Addr)(n' c':Nat)(l':List Nat)(w:WB)(h:Rd w A n c l)(h':Rd w A' n' c' l')(ht:Lt l)(ht':Lt l'):
  Calls prog 114 #[.slice A n c,.slice A' n' c'] w fun e w'=>e=.returned (.int .i64 (zAN (val l) (val l')))/\w=w':=by
 have hle:=h.le;have hcap:=h.cap;have hle':=h'.le;have hcap':=h'.cap
 have HN:Hid (l.length=n/\l'.length=n'):=⟨h.len,h'.len⟩
 by_cases hnn:n<n'
 all_goals
  go_enter func114,ntmps114
  go_wp2
  go_loop [5] (fun x=>∃k:Nat,k<=9223372036854775807/\x=.int .i64 ((k:Int)-1)/\Hid (∃N,l.length<=N/\l'.length<=N/\k<=N/\∀j,k<=j->j<N->lm l j=lm l' j)) (fun x=>(intOf x+1).toNat)
  case atStart=>first|exact⟨n',oA,rfl,hid ⟨n',by have:=HN.out;omega,by have:=HN.out;omega,vQ _,fun j h1 h2=>oA⟩⟩|exact⟨n,oA,rfl,hid ⟨n,by have:=HN.out;omega,by have:=HN.out;omega,vQ _,fun j h1 h2=>oA⟩⟩
  case round=>
   obtain⟨k,_hk,rfl,HK⟩:=hrel
   by_cases h0:0<k
   .have e1:((k:Int)-1).toNat=k-1:=oA
    by_cases h1:lm l (k-1)<lm l' (k-1)
    .have HV:Hid (zAN (val l) (val l')= -1):=by
      obtain⟨N,a1,a2,a3,a4⟩:=HK.out
      exact zIs (zFq ht a1 a2 h0 a3 a4 h1)
     go_wp2_with (go_at_call 139;first|((with_reducible refine(zAd A n c l _ _ h ht oA).mono ?_);rintro e w1 ⟨rfl,rfl⟩)|((with_reducible refine(zAd A' n' c' l' _ _ h' ht' oA).mono ?_);rintro e w1 ⟨rfl,rfl⟩))
     go_ret
     exact⟨by rw[HV.out];rfl,rfl⟩
    .by_cases h2:lm l' (k-1)<lm l (k-1)
     .have HV:Hid (zAN (val l) (val l')=1):=by
       obtain⟨N,a1,a2,a3,a4⟩:=HK.out
       exact zLW (zFq ht' a2 a1 h0 a3 (fun j b1 b2=>(a4 j b1 b2).symm) h2)
      go_wp2_with (go_at_call 139;first|((with_reducible refine(zAd A n c l _ _ h ht oA).mono ?_);rintro e w1 ⟨rfl,rfl⟩)|((with_reducible refine(zAd A' n' c' l' _ _ h' ht' oA).mono ?_);rintro e w1 ⟨rfl,rfl⟩))
      go_ret
      exact⟨by rw[HV.out];rfl,rfl⟩
     .go_wp2_with (go_at_call 139;first|((with_reducible refine(zAd A n c l _ _ h ht oA).mono ?_);rintro e w1 ⟨rfl,rfl⟩)|((with_reducible refine(zAd A' n' c' l' _ _ h' ht' oA).mono ?_);rintro e w1 ⟨rfl,rfl⟩))
      go_round
      case rel=>exact⟨k-1,oA,by congr 1;omega,by
       obtain⟨N,a1,a2,a3,a4⟩:=HK.out
       exact hid ⟨N,a1,a2,oA,fun j b1 b2=>by
        by_cases e:j=k-1
        .subst e;omega
        .exact a4 j oA b2⟩⟩
      case measure=>simp[intOf];omega
   .obtain rfl:k=0:=oA
    have HV:Hid (zAN (val l) (val l')=0):=by
     obtain⟨N,a1,a2,a3,a4⟩:=HK.out
     exact zLX (zKI a1 a2 a4)
    go_wp2
    go_ret
    exact⟨by rw[HV.out];rfl,rfl⟩
theorem zQq{k:Nat}(h:lm l k≠lm l' k):l≠l':=fun e=>by subst e;exact h rfl
theorem zQr(I:l.length=l'.length)(h:∀j,j<l.length->lm l j=lm l' j):l=l':=
 gH I fun i J h2=>by
  have:=h i J
  rwa [zH4 J,zH4 h2]at this
theorem zPl(w:WB)(a b:Nat):(w.drewN a).drewN b=w.drewN (a+b):=by
 simp only[World.drewN,uT]
theorem zIT(A:WG Addr)(n c:Nat)(l:List Nat)(A':WG Addr)(n' c':Nat)(l':List Nat)(w:WB)(h:Rd w A n c l)(h':Rd w A' n' c' l'):
  Calls prog 99 #[.slice A n c,.slice A' n' c'] w fun e w'=>e=.returned (.bool (decide (l=l')))/\∃nq,w'=w.drewN nq:=by
 have hle:=h.le;have hcap:=h.cap;have hle':=h'.le;have hcap':=h'.cap
 have HN:Hid (l.length=n/\l'.length=n'):=⟨h.len,h'.len⟩
 by_cases hnn:n=n'
 .subst hnn
  go_enter func99,ntmps99
  go_wp2
  go_loopw [5] (fun x wr=>∃k:Nat,k<=n/\x=.int .i64 k/\(∃nq,wr=w.drewN nq)/\Hid (∀j,j<k->lm l j=lm l' j)) (fun x _=>n-(intOf x).toNat)
  case atStart=>exact⟨0,vS _,rfl,⟨0,rfl⟩,hid (fun j hj=>oA)⟩
  case round=>
   obtain⟨k,hk,rfl,⟨nq,rfl⟩,HK⟩:=hrel
   by_cases h0:k<n
   .obtain⟨b,o,rfl,hc⟩:=h.cells k h0
    obtain⟨b',o',rfl,hc'⟩:=h'.cells k h0
    have h0':(0:Int)<=k:=mU k
    by_cases h1:lm l k=lm l' k
    .have hx:((lm l k:Int) !=(lm l' k:Int))=false:=by rw[h1];simp
     go_wp2
     go_quiet (fail)
     go_wp2
     go_roundw
     case rel=>exact⟨k+1,oA,fR,⟨_,rfl⟩,hid (fun j hj=>by
      by_cases e:j=k
      .subst e;exact h1
      .exact HK.out j oA)⟩
     case measure=>simp[intOf];omega
    .have hx:((lm l k:Int) !=(lm l' k:Int))=true:=by simp only[bne_iff_ne,ne_eq];omega
     have HV:Hid (decide (l=l')=false):=hid (xZ (zQq h1))
     clear h1
     go_wp2
     go_quiet (fail)
     go_wp2
     go_ret
     exact⟨by rw[HV.out];rfl,_,zPl w _ _⟩
   .obtain rfl:k=n:=oA
    have HV:Hid (decide (l=l')=true):=hid (lH (zQr (by have:=HN.out;omega) (fun j hj=>HK.out j (by have:=HN.out;omega))))
    go_wp2
    go_ret
    exact⟨by rw[HV.out];rfl,_,rfl⟩
 .have hx:((n:Int) !=(n':Int))=true:=by simp only[bne_iff_ne,ne_eq];omega
  have HV:Hid (decide (l=l')=false):=hid (xZ (fun e=>by subst e;have:=HN.out;omega))
  clear hnn
  go_enter func99,ntmps99
  go_wp2
  go_ret
  exact⟨by rw[HV.out];rfl,0,rfl⟩
def zZO(w:WB)(l l':List Nat)(N:Nat)(v o i:WE)(W:WB):Prop:=
 ∃(k u:Nat) (A:WG Addr) (c:Nat) (lo:List Nat),k<=N/\i=.int .i64 k/\o=.int .u64 u/\v=.slice A k c/\u<=1/\yE W w.heap.size 69 (.slice A k c) lo/\lo.length=k/\Lt lo/\
  val lo+u*BB^k=sm (lm l) k+sm (lm l') k/\Below w.heap.size w W
theorem zP3(x y u:Nat)(hx:x<4294967296)(hy:y<4294967296)(hu:u<=1):
  ∃d z u':Nat,(x:Int)+(y:Int)+(u:Int)=(d:Int)/\(d:Int)%4294967296=(z:Int)/\(d:Int)/4294967296=(u':Int)/\z<4294967296/\u'<=1/\d<=8589934591/\x+y+u=z+u'*4294967296:=
 ⟨x+y+u,(x+y+u)%4294967296,(x+y+u)/4294967296,oA,oA,oA,oA,oA,oA,oA⟩
theorem zTj(A:WG Addr)(n c:Nat)(l:List Nat)(A':WG Addr)(n' c':Nat)(l':List Nat)(w:WB)(h:Rd w A n c l)(h':Rd w A' n' c' l')(ht:Lt l)(ht':Lt l')(hn:n<=137438953472)(hn':n'<=137438953472):
  Calls prog 137 #[.slice A n c,.slice A' n' c'] w (jH w (val l+val l')):=by
 have hle:=h.le;have hcap:=h.cap;have hle':=h'.le;have hcap':=h'.cap
 obtain⟨N,HN⟩:∃N,Hid (((n<n'/\N=n')∨(¬n<n'/\N=n))/\n<=N/\n'<=N/\N<=137438953472/\l.length=n/\l'.length=n'):=by
  by_cases hh:n<n'
  .exact⟨n',hid ⟨.inl ⟨hh,rfl⟩,oA,oA,oA,h.len,h'.len⟩⟩
  .exact⟨n,hid ⟨.inr ⟨hh,rfl⟩,oA,oA,oA,h.len,h'.len⟩⟩
 by_cases hnn:n<n'
 all_goals
  go_enter func137,ntmps137
  go_wp2
  go_loopw [5,6,7] (zZO w l l' N) (fun _ _ i _=>N-(intOf i).toNat)
  case atStart=>exact⟨0,0,none,0, [],vS _,rfl,rfl,rfl,oA,wV _ _ _,rfl,zCp,by simp[sm],xG _ _⟩
  case round=>
   obtain⟨k,u,Ao,co,lo,hk,rfl,rfl,rfl,hu1,hown,hlk,hlt,heq,hB⟩:=hrel
   have HQ:=hid heq
   clear heq
   have hr:=h.below hB;have hr':=h'.below hB
   have x1:=qQ ht k;have x2:=qQ ht' k
   simp only[BB]at x1 x2
   by_cases h0:k<N
   .have hkn:k<n∨k<n':=by have:=HN.out;omega
    have hkm:k<137438953472:=by have:=HN.out;omega
    obtain⟨d,z,u',hd,hz,hu',hz1,hu1',hd1,hstep⟩:=zP3 (lm l k) (lm l' k) u x1 x2 hu1
    have HS:=hid hstep
    clear hstep
    have hs1:lo.length+ [z].length<=17592186044416:=fM
    have hl1:(lo++ [z]).length=k+1:=fM
    go_wp2_with (first|(go_at_call 139;first|((with_reducible refine(zAd A _ c l _ _ hr ht (mU k)).mono ?_);rintro e w1 ⟨rfl,rfl⟩)|((with_reducible refine(zAd A' _ c' l' _ _ hr' ht' (mU k)).mono ?_);rintro e w1 ⟨rfl,rfl⟩))|(at_builtin;refine zU rfl _ _ 24 69 rfl yH yX w.heap.size _ lo rfl (yE.alloc hown _) _ 1 1 [z] rfl (Rd.one _ z 69) hs1 (qI hB.size _) ?_;intro v1 w1 hown1 hg1 hat1;obtain⟨A1,c1,rfl⟩:=hown1.form' hl1))
    go_roundw
    case rel=>exact⟨k+1,u',A1,c1,lo++ [z],oA,fR,rfl,rfl,hu1',hown1,hl1,zBP hlt hz1,by rw[zAX,hlk];simp only[sm,uA];exact zL6 HQ.out HS.out,yE.grown (hB.alloc hB.size _) (yE.alloc hown _) hg1 (vQ _) (qI hB.size _)⟩
    case measure=>simp[intOf];omega
   .obtain rfl:k=N:=oA
    have hkn: ¬k<n/\ ¬k<n':=by have:=HN.out;omega
    obtain⟨hkn1,hkn2⟩:=hkn
    have heu:(u:Int)%4294967296=u:=oA
    have hkm:k<=137438953472:=by have:=HN.out;omega
    have hs1:lo.length+ [u].length<=17592186044416:=fM
    have hl1:(lo++ [u]).length=k+1:=fM
    have hl2:Lt (lo++ [u]):=zBP hlt (by unfold BB;omega)
    have hk1:k+1<=1099511627776:=oA
    go_wp2_with (first|(at_builtin;refine zU rfl _ _ 24 69 rfl yH yX w.heap.size _ lo rfl (yE.alloc hown _) _ 1 1 [u] rfl (Rd.one _ u 69) hs1 (qI hB.size _) ?_;intro v1 w1 hown1 hg1 hat1;obtain⟨A1,c1,rfl⟩:=hown1.form' hl1)|(go_at_call 40;refine(jL _ _ _ _ _ hown1.rd hl2 hk1).mono ?_;rintro e w2 ⟨A2,n2,c2,l2,rfl,hi2,hr2,hb2⟩))
    go_ret
    have e1:=zBk (l:=l) (n:=k) (by have:=HN.out;omega)
    have e2:=zBk (l:=l') (n:=k) (by have:=HN.out;omega)
    have hv:val (lo++ [u])=val l+val l':=by rw[zAX,hlk,HQ.out,e1,e2]
    rw[hv]at hi2
    have hB1:=yE.grown (hB.alloc hB.size _) (yE.alloc hown _) hg1 (vQ _) (qI hB.size _)
    exact⟨A2,n2,c2,l2,rfl,hi2,hr2,hB1.trans (hb2.mono hB1.size)⟩
def zXo(w:WB)(l l':List Nat)(N:Nat)(v o i:WE)(W:WB):Prop:=
 ∃(k u:Nat) (A:WG Addr) (c:Nat) (lo:List Nat),k<=N/\i=.int .i64 k/\o=.int .u64 u/\v=.slice A k c/\u<=1/\yE W w.heap.size 69 (.slice A k c) lo/\lo.length=k/\Lt lo/\
  sm (lm l) k+u*BB^k=val lo+sm (lm l') k/\Below w.heap.size w W
theorem zIS(x y u:Nat)(hx:x<4294967296)(hy:y<4294967296)(hu:u<=1):
  ∃d z t u':Nat,(x:Int)+4294967296-(y:Int)-(u:Int)=(d:Int)/\(d:Int)%4294967296=(z:Int)/\(d:Int)/4294967296=(t:Int)/\(1:Int)-(t:Int)=(u':Int)/\z<4294967296/\u'<=1/\d<=8589934591/\t<=1/\x+u'*4294967296=z+y+u:=by
 refine⟨x+4294967296-y-u,(x+4294967296-y-u)%4294967296,(x+4294967296-y-u)/4294967296,1-(x+4294967296-y-u)/4294967296,?_,?_,?_,?_,?_,?_,?_,?_,?_⟩<;>omega
theorem zHD(A:WG Addr)(n c:Nat)(l:List Nat)(A':WG Addr)(n' c':Nat)(l':List Nat)(w:WB)(h:Rd w A n c l)(h':Rd w A' n' c' l')(ht:Lt l)(ht':Lt l')(hge:val l'<=val l)(hn:n<=137438953472):
  Calls prog 115 #[.slice A n c,.slice A' n' c'] w fun e w'=>∃A1 n1 c1 l1,e=.returned (.tuple #[.slice A1 n1 c1,.int .i64 0])/\Is l1 (val l-val l')/\Rd w' A1 n1 c1 l1/\Below w.heap.size w w':=by
 have hle:=h.le;have hcap:=h.cap;have hle':=h'.le;have hcap':=h'.cap
 have hcmp:decide (zAN (val l) (val l')<0)=false:=by
  unfold zAN
  rw[if_neg oA]
  split<;>simp
 have HN:Hid (l.length=n/\sm (lm l') n=val l'):=hid ⟨h.len,zJS (nD hge (by have:=qV ht;rwa [h.len]at this))⟩
 have HG:=hid hge
 clear hge
 go_enter func115,ntmps115
 go_wp2_with (go_at_call 114;refine(zFv A n c l A' n' c' l' _ h h' ht ht').mono ?_;rintro e w1 ⟨rfl,rfl⟩)
 go_loopw [6,7,8] (zXo w l l' n) (fun _ _ i _=>n-(intOf i).toNat)
 case atStart=>exact⟨0,0,none,0, [],vS _,rfl,rfl,rfl,oA,wV _ _ _,rfl,zCp,by simp[sm],xG _ _⟩
 case round=>
  obtain⟨k,u,Ao,co,lo,hk,rfl,rfl,rfl,hu1,hown,hlk,hlt,heq,hB⟩:=hrel
  have HQ:=hid heq
  clear heq
  have hr:=h.below hB;have hr':=h'.below hB
  have x1:=qQ ht k;have x2:=qQ ht' k
  simp only[BB]at x1 x2
  by_cases h0:k<n
  .obtain⟨d,z,t,u',hd,hz,htt,hu',hz1,hu1',hd1,ht1,hstep⟩:=zIS (lm l k) (lm l' k) u x1 x2 hu1
   have HS:=hid hstep
   clear hstep
   have hs1:lo.length+ [z].length<=17592186044416:=fM
   have hl1:(lo++ [z]).length=k+1:=fM
   go_wp2_with (first|(go_at_call 139;first|((with_reducible refine(zAd A _ c l _ _ hr ht (mU k)).mono ?_);rintro e w1 ⟨rfl,rfl⟩)|((with_reducible refine(zAd A' _ c' l' _ _ hr' ht' (mU k)).mono ?_);rintro e w1 ⟨rfl,rfl⟩))|(at_builtin;refine zU rfl _ _ 24 69 rfl yH yX w.heap.size _ lo rfl (yE.alloc hown _) _ 1 1 [z] rfl (Rd.one _ z 69) hs1 (qI hB.size _) ?_;intro v1 w1 hown1 hg1 hat1;obtain⟨A1,c1,rfl⟩:=hown1.form' hl1))
   go_roundw
   case rel=>exact⟨k+1,u',A1,c1,lo++ [z],oA,fR,rfl,rfl,hu1',hown1,hl1,zBP hlt hz1,by rw[zAX,hlk];simp only[sm,uA];exact zHu HQ.out HS.out,yE.grown (hB.alloc hB.size _) (yE.alloc hown _) hg1 (vQ _) (qI hB.size _)⟩
   case measure=>simp[intOf];omega
  .obtain rfl:k=n:=oA
   have hk1:k<=1099511627776:=oA
   go_wp2_with (go_at_call 40;refine(jL _ _ _ _ _ hown.rd hlt hk1).mono ?_;rintro e w2 ⟨A2,n2,c2,l2,rfl,hi2,hr2,hb2⟩)
   go_ret2
   have e1:=zBk (l:=l) (n:=k) (by have:=HN.out;omega)
   have e2:=HN.out.2
   have e3:=qV hlt
   have e4:=HQ.out
   have e5:=HG.out
   rw[hlk]at e3
   rw[e1,e2]at e4
   have hu0:u=0:=by
    rcases bJ 0 u with h0|h0
    .have:u=1:=oA
     subst this
     omega
    .omega
   subst hu0
   have hv2:val lo=val l-val l':=oA
   rw[hv2]at hi2
   exact⟨A2,n2,c2,l2,rfl,hi2,hr2,hB.trans (hb2.mono hB.size)⟩
theorem zF1(A:WG Addr)(n c:Nat)(l:List Nat)(A':WG Addr)(n' c':Nat)(l':List Nat)(w:WB)(h:Rd w A n c l)(h':Rd w A' n' c' l')(ht:Lt l)(ht':Lt l')(hlt:val l<val l'):
  Calls prog 115 #[.slice A n c,.slice A' n' c'] w fun e w'=>e=.returned (.tuple #[.slice none 0 0,.int .i64 10])/\w=w':=by
 have hcmp:decide (zAN (val l) (val l')<0)=true:=by rw[zIs hlt];rfl
 go_enter func115,ntmps115
 go_wp2_with (go_at_call 114;refine(zFv A n c l A' n' c' l' _ h h' ht ht').mono ?_;rintro e w1 ⟨rfl,rfl⟩)
 go_ret2
 exact⟨rfl,rfl⟩
def LIM:Nat:=68719476736
def zY4(w:WB)(ls:List (List Nat))(n:Nat)(v i:WE)(W:WB):Prop:=
 ∃(k:Nat) (A:WG Addr) (m c:Nat) (lo:List Nat),k<=n/\i=.int .i64 k/\v=.slice A m c/\Rd W A m c lo/\Lt lo/\val lo=zFS ls k/\m<=68719476736+k/\Below w.heap.size w W
theorem zP9(h:∀l,l∈ls->val l<b)(hn:n<=ls.length):zFS ls n<=n*b:=by
 induction n with
 |zero=>rw[zEN];omega
 |succ n ih=>
  have I:ls[n]?=some ls[n]:=nE oA
  rw[zEO I,vU]
  have:=h _ (uZ (l:=ls) (n:=n) oA)
  have:=ih oA
  omega
theorem zFw(A:WG Addr)(n c:Nat)(ls:List (List Nat))(w:WB)(h:Rds w A n ls)(hn:n<=1000):
  Calls prog 111 #[.slice A n c] w (jH w (ls.map val).sum):=by
 have HL:Hid (ls.length=n):=hid h.len
 have HT:Hid (∀l,l∈ls->val l<BB^LIM):=hid fun l hl=>by
  obtain⟨i,hi,rfl⟩:=nY hl
  obtain⟨b,o,Ai,ni,ci,li,_,_,h1,h2,h3,h4⟩:=h.cells i (by rw[<-h.len];exact hi)
  rw[nE hi]at h1
  injection h1 with h1
  rw[h1]
  exact vV (qV h3) (vZ qC (by rw[h2.len];exact h4))
 go_enter func111,ntmps111
 go_wp2
 go_loopw [3,4] (zY4 w ls n) (fun _ i _=>n-(intOf i).toNat)
 case atStart=>exact⟨0,none,0,0, [],vS _,rfl,rfl,wM _,zCp,by rw[zEN];rfl,oA,xG _ _⟩
 case round=>
  obtain⟨k,Ao,m,co,lo,hk,rfl,rfl,hr,hlt,hv,hm,hB⟩:=hrel
  have HV:=hid hv
  clear hv
  by_cases h0:k<n
  .obtain⟨b,o,Ai,ni,ci,la,rfl,hcell,hla,hra,hta,hni⟩:=h.cells k h0
   have hcW:=(hB.cell (p:=⟨b,o+k,none⟩) (z7 hcell)).trans hcell
   have hra1:=hra.below hB
   have HA:=hid hla
   clear hla
   have hm1:m<=137438953472:=oA
   have hni1:ni<=137438953472:=oA
   go_wp2_with (go_at_call 137;refine(zTj Ao m co lo Ai ni ci la _ hr hra1 hlt hta hm1 hni1).mono ?_;rintro e w2 ⟨A2,n2,c2,l2,rfl,hi2,hr2,hb2⟩)
   have hsum:val lo+val la=zFS ls (k+1):=by rw[zEO HA.out,HV.out]
   have hlen:n2<=68719476736+(k+1):=by
    rw[<-hr2.len]
    refine hi2.len ?_
    rw[hsum]
    have h1:=zP9 HT.out (show k+1<=ls.length by rw[HL.out];omega)
    have h2:k+1<BB^(k+1):=Nat.lt_pow_self fH
    rw[show 68719476736+(k+1)=LIM+(k+1)from rfl,uC,vT (BB^LIM)]
    exact nD h1 ((Nat.mul_lt_mul_right (zCI _)).2 h2)
   go_roundw
   case rel=>exact⟨k+1,A2,n2,c2,l2,oA,fR,rfl,hr2,hi2.lt,by rw[hi2.val,hsum],hlen,hB.trans (hb2.mono hB.size)⟩
   case measure=>simp[intOf];omega
  .obtain rfl:k=n:=oA
   have hm1:m<=1099511627776:=oA
   go_wp2_with (go_at_call 40;refine(jL _ _ _ _ _ hr hlt hm1).mono ?_;rintro e w2 ⟨A2,n2,c2,l2,rfl,hi2,hr2,hb2⟩)
   go_ret
   rw[HV.out,zIG HL.out]at hi2
   exact⟨A2,n2,c2,l2,rfl,hi2,hr2,hB.trans (hb2.mono hB.size)⟩
def zVe(l:List Nat)(n:Nat)(v i:WE):Prop:=∃k x:Nat,k<=n/\i=.int .i64 ((k:Int)-1)/\v=.int .u64 x/\x=val (l.drop k)
theorem zMh(A:WG Addr)(n c:Nat)(l:List Nat)(w:WB)(h:Rd w A n c l)(ht:Lt l)(hl:n<=1099511627776):
  Calls prog 82 #[.slice A n c] w fun e w'=>e=.returned (.tuple #[.int .u64 (zJ (val l):Nat),.bool (yZ (val l))])/\Below w.heap.size w w':=by
 go_enter func82,ntmps82
 go_wp2_with (go_at_call 40;refine(jL _ _ _ _ _ h ht hl).mono ?_;rintro e w2 ⟨A2,n2,c2,l2,rfl,hi2,hr2,hb2⟩)
 .have h2:(2:Int)<n2:=by assumption
  go_ret2
  have hlen:=hr2.len
  have hne:l2≠ []:=by intro e;subst e;simp at hlen;omega
  have h3:=zIC hi2.tr hne
  have h4:BB^2<=BB^(l2.length-1):=vZ qC oA
  have h5:BB^2=18446744073709551616:=fH
  rw[hi2.val]at h3
  refine⟨?_,hb2⟩
  rw[show zJ (val l)=0 from if_neg oA,show yZ (val l)=false from xZ oA]
  rfl
 .have h2:(n2:Int)<=2:=by assumption
  have hlen:=hid hr2.len
  have hle:=hr2.le;have hcap:=hr2.cap
  go_loop [5,6] (zVe l2 n2) (fun _ x=>(intOf x+1).toNat)
  case atStart=>exact⟨n2,0,vQ _,rfl,rfl,by rw[<-hlen.out,List.drop_length];rfl⟩
  case round=>
   obtain⟨k,x,hk,rfl,rfl,hx⟩:=hrel
   have HX:=hid hx
   clear hx
   by_cases h0:0<k
   .obtain⟨b,o,rfl,hc⟩:=hr2.cells (k-1) oA
    have e1:((k:Int)-1).toNat=k-1:=oA
    have x1:=qQ hi2.lt (k-1)
    have x2:x<BB^1:=by
     rw[HX.out]
     exact vV (zJT hi2.lt k) (vZ qC (by rw[hlen.out];omega))
    simp only[BB,Nat.pow_one]at x1 x2
    go_wp2
    go_round
    case rel=>exact⟨k-1,x*4294967296+lm l2 (k-1),oA,by congr 1;omega,by congr 1,by
     have hd:=zBS (l:=l2) (k:=k-1) (by rw[hlen.out];omega)
     rw[show k-1+1=k from oA,<-HX.out]at hd
     rw[hd,vT BB]
     simp only[BB]
     omega⟩
    case measure=>simp[intOf];omega
   .obtain rfl:k=0:=oA
    go_wp2
    go_ret2
    have h5:=qV hi2.lt
    have h4:BB^l2.length<=BB^2:=vZ qC (by rw[hlen.out];omega)
    have h6:BB^2=18446744073709551616:=fH
    have h7:=HX.out
    rw[nJ,hi2.val]at h7
    rw[hi2.val]at h5
    refine⟨?_,hb2⟩
    rw[show zJ (val l)=val l from if_pos oA,show yZ (val l)=true from lH oA,<-h7]
    rfl
theorem zGE(A:WG Addr)(n c k:Nat)(hk:k<=n)(w:WB):
  (Instr.slice 24 (.slice A n c) (some (.int .i64 (k:Int))) none none).run prog w=.ok (.slice (if c=k then A else A.map (·.add k)) (n-k) (c-k)) w:=by
 obtain⟨i,hi,hz,hs,hb⟩:=cY yX
 simp[Instr.slice,Instr.sliceBounds,bI yH,sizeOf,typeInfo,hi,hs,go_sem]
 omega
theorem zKE(h:Below B w W)(k:Nat):Below B w (W.drewN k):=⟨h.os,h.tape,h.output,h.size,h.block⟩
theorem zQN(k:Nat)(hk2:k<=9223372036854775807)(w:WB):
  Calls prog 38 #[.int .i64 k] w (qT w k):=by
 have hk0:(0:Int)<=k:=mU k
 go_enter func38,ntmps38
 go_wp2_with (go_at_call 68;refine(zJ1 k oA _).mono ?_;rintro e w1 ⟨A2,n2,c2,l2,rfl,hi2,hr2,hb⟩;have hq:=zMj hb (b:=w.heap.size) rfl;obtain⟨⟨q0,q1⟩,q2,q3⟩:=hq.facts2)
 obtain⟨⟨c0,c1⟩,_,_⟩:=((hq.set 0 (.bool (decide ((k:Int)<0)))).set 1 (.slice A2 n2 c2)).facts2
 rw[show(Value.bool false)=.bool (decide ((k:Int)<0))from by rw[xZ oA]]at*
 exact nI (v:=.agg #[.bool (decide ((k:Int)<0)),.slice A2 n2 c2]) (by simp[results,results38,go_sem,c0,c1]) rfl<|zIV hq (((xG _ w).alloc (vQ _) _).trans (hb.mono fE)) fE hi2 hr2
theorem zQO(k:Nat)(hk0:0<k)(hk2:k<=9223372036854775808)(w:WB):
  Calls prog 38 #[.int .i64 (-(k:Int))] w (qT w (-(k:Int))):=by
 have hk1:(-(k:Int))<0:=oA
 have hww: -(-(k:Int)+1)+1=(k:Int):=oA
 have hw1:=mV (k:Int) oA
 have hw2:=mV (-(-(k:Int)+1)) oA
 have hw3:=IntWalk.i64_in (-(-(k:Int)+1)) oA
 have hw4:=IntWalk.i64_in (-(k:Int)+1) oA
 go_enter func38,ntmps38
 go_wp2_with (go_at_call 68;refine(zJ1 k oA _).mono ?_;rintro e w1 ⟨A2,n2,c2,l2,rfl,hi2,hr2,hb⟩;have hq:=zMj hb (b:=w.heap.size) rfl;obtain⟨⟨q0,q1⟩,q2,q3⟩:=hq.facts2)
 obtain⟨⟨c0,c1⟩,_,_⟩:=((hq.set 0 (.bool true)).set 1 (.slice A2 n2 c2)).facts2
 refine nI (v:=.agg #[.bool true,.slice A2 n2 c2]) (by simp[results,results38,go_sem,c0,c1]) rfl ?_
 have e1:decide (-(k:Int)<0)=true:=lH hk1
 have:=zIV (v:= -(k:Int)) hq (((xG _ w).alloc (vQ _) _).trans (hb.mono fE)) fE (by simpa using hi2) hr2
 rw[e1]at this
 exact this
theorem zLj(k:Int)(hk: -9223372036854775808<=k)(hk2:k<=9223372036854775807)(w:WB):
  Calls prog 38 #[.int .i64 k] w (qT w k):=by
 rcases(oA:0<=k∨k<0)with h|h
 .obtain⟨m,rfl⟩:=lK h
  exact zQN m oA w
 .obtain⟨m,hm⟩:=lK (show 0<=-k from oA)
  obtain rfl:k= -(m:Int):=oA
  exact zQO m oA oA w
theorem zAD(s:Bool)(A:WG Addr)(n c:Nat)(l:List Nat)(w:WB)(h:Rd w A n c l)(ht:Lt l)(hl:n<=1099511627776):
    Calls prog 69 #[.agg #[.bool s,.slice A n c]] w (qT w (iv s l)):=by
  go_enter func69,ntmps69
  go_wp2_with (go_at_call 40;refine(jL A n c l _ ((h.alloc _).alloc _) ht hl).mono ?_;rintro e w1 ⟨A2,n2,c2,l2,rfl,hi2,hr2,hb⟩;have hq:=zMj hb (b:=w.heap.size+1) fE;obtain⟨⟨q0,q1⟩,q2,q3⟩:=hq.facts2;have hp:=((q7.new w 26 #[.bool s,.slice A n c]).alloc (.cells #[.bool false,.slice none 0 0] 26)).kept hb;obtain⟨⟨p0,p1⟩,p2,p3⟩:=hp.facts2)
  all_goals
    have hle:=hr2.len;have hz:=hi2.zero_iff
    have hb1:Below w.heap.size w w1:=(((xG _ w).alloc (vQ _) _).alloc fE _).trans (hb.mono fM)
    have fin:∀x:Bool,x=decide (iv s l<0)->q7 ((w1.setCell ⟨w.heap.size+1,0,none⟩ (.bool x)).setCell ⟨w.heap.size+1,1,none⟩ (.slice A2 n2 c2)) (w.heap.size+1) 26 #[.bool x,.slice A2 n2 c2]/\qT w (iv s l) (.returned (.agg #[.bool x,.slice A2 n2 c2])) ((w1.setCell ⟨w.heap.size+1,0,none⟩ (.bool x)).setCell ⟨w.heap.size+1,1,none⟩ (.slice A2 n2 c2)):=by
      rintro x rfl
      exact⟨(hq.set 0 _).set 1 _,zIV hq hb1 fE (by rw[zOS];exact hi2) hr2⟩
    first
      | (obtain⟨hbx,hret⟩:=fin false (by rw[<-zOQ];simp_all)
         obtain⟨⟨c0,c1⟩,_,_⟩:=hbx.facts2
         refine nI (v:=.agg #[.bool false,.slice A2 n2 c2]) (by simp[results,results69,go_sem,c0,c1]) rfl hret)
      | (have hd:decide (0<n2)=(s&& !(val l==0)):=by
           by_cases e:n2=0
           . rw[hz.2 oA,e];simp
           . rw[lH oA,nH.2 (fun h=>e (by have:=hz.1 h;omega))];simp_all
         obtain⟨hbx,hret⟩:=fin (decide (0<n2)) (by rw[<-zOQ];exact hd)
         obtain⟨⟨c0,c1⟩,_,_⟩:=hbx.facts2
         refine nI (v:=.agg #[.bool (decide (0<n2)),.slice A2 n2 c2]) (by simp[results,results69,go_sem,c0,c1]) rfl hret)
      |go_show
theorem zMo(s:Bool)(A:WG Addr)(n c:Nat)(l:List Nat)(s':Bool)(A':WG Addr)(n' c':Nat)(l':List Nat)(w:WB)(h:Rd w A n c l)(h':Rd w A' n' c' l'):
  Calls prog 98 #[.agg #[.bool s,.slice A n c],.agg #[.bool s',.slice A' n' c']] w fun e w'=>e=.returned (.bool (s==s'&&decide (l=l')))/\Below w.heap.size w w':=by
 go_enter func98,ntmps98
 have hb0:=((xG _ w).alloc (vQ _) (.cells #[.bool s,.slice A n c] 26)).alloc fE (.cells #[.bool s',.slice A' n' c'] 26)
 by_cases hs:s=s'
 .subst hs
  go_wp2_with (go_at_call 99;refine(zIT A n c l A' n' c' l' _ (h.below hb0) (h'.below hb0)).mono ?_;rintro e w1 ⟨rfl,nq,rfl⟩)
  all_goals
   go_ret
   exact⟨fG,zKE hb0 nq⟩
 .have hs1:(s==s')=false:=nH.2 hs
  go_wp2
  all_goals
   go_ret
   exact⟨by simp[hs1],hb0⟩
attribute [local go_sem] Oper.semAt_some qL yG
end Go.Proofs.Wd
