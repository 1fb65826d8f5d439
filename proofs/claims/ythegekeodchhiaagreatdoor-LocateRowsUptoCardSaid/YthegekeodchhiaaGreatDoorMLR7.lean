/- Walks of package nat: Sub, Add; The walk of nat.Add; Walks of package  and what it needs. -/
import Derived.Test.YthegekeodchhiaaGreatDoorMLR5
import Derived.Deep.DeepMust
import Derived.Test.YthegekeodchhiaaGreatDoorMLR3
theorem kA {P:Prop} (h:P:=by kernel_rfl):P:=h
theorem oE {P:Prop} (h:P:=by omega):P:=h
abbrev bR:=@Nat.le_refl
abbrev bT:=@Go.RowKit.Below.refl
abbrev bU:=@decide_eq_true
abbrev bV:=@decide_eq_false
abbrev bX:=@Nat.le_trans
abbrev bY:=@Go.World.size_alloc
abbrev bZ:=@Go.bodyPost_ret
abbrev cB:=@Go.Boxed.new
abbrev cC:=@Go.Oper.semAt_some
abbrev cD:=@Go.CallsIn.mono
abbrev cE:=@Go.callsIn_wide
abbrev cF:=@Go.KeepsOthers.setCell
abbrev cG:=@Nat.pow_succ
abbrev cH:=@Nat.lt_of_lt_of_le
abbrev cI:=@List.nil_append
abbrev cJ:=@Nat.zero_le
abbrev cK:=@beq_eq_false_iff_ne
abbrev cL:=@Int.natCast_nonneg
abbrev cM:=@Nat.pow_le_pow_right
abbrev cN:=@List.size_toArray
abbrev cO:=@List.length_cons
abbrev cP:=@List.length_nil
abbrev cQ:=@Array.replicate_succ
abbrev cR:=@Array.replicate_zero
abbrev cS:=@List.push_toArray
abbrev cT:=@List.append_toArray
abbrev cU:=@List.cons_append
abbrev cV:=@Bool.false_eq_true
abbrev cW:=@if_false
abbrev cX:=@Int.eq_ofNat_of_zero_le
abbrev cY:=@Go.wpIn_wide
abbrev cZ:=@Nat.lt_of_le_of_lt
abbrev eB:=@Nat.mul_comm
abbrev eC:=@Array.getElem?_eq_some_iff
abbrev eD:=@Decidable.byContradiction
abbrev eE:=@List.getElem?_eq_getElem
abbrev WM:=Go.World
abbrev WN:=Go.Value
abbrev WO:=Go.TypeId
abbrev WP:=Option
namespace Go.Proofs.Wd
open Tryz
set_option maxRecDepth 100000
set_option maxHeartbeats 1000000
open Go.RowKit Lb
theorem hmix:prog.follows .mixedOrders=true:=by kernel_rfl
theorem zVe:Enters prog 4:=enters_of func4 kA rfl
theorem zTa:Enters prog 5:=enters_of func5 kA rfl
theorem zJX:Enters prog 6:=enters_of func6 kA rfl
theorem zS5:Enters prog 7:=enters_of func7 kA rfl
theorem zVA:Enters prog 8:=enters_of func8 kA rfl
theorem zUq:Enters prog 9:=enters_of func9 kA rfl
theorem zHR:Enters prog 10:=enters_of func10 kA rfl
theorem zUR:Enters prog 11:=enters_of func11 kA rfl
theorem zDT:Enters prog 12:=enters_of func12 kA rfl
theorem zUQ:Enters prog 13:=enters_of func13 kA rfl
theorem zCa:Enters prog 14:=enters_of func14 kA rfl
theorem zTh:Enters prog 15:=enters_of func15 kA rfl
theorem zKT:Enters prog 16:=enters_of func16 kA rfl
theorem zFm:Enters prog 17:=enters_of func17 kA rfl
theorem zKS:Enters prog 18:=enters_of func18 kA rfl
theorem zHQ:Enters prog 19:=enters_of func19 kA rfl
theorem zUP:Enters prog 20:=enters_of func20 kA rfl
theorem zUO:Enters prog 21:=enters_of func21 kA rfl
theorem zUN:Enters prog 22:=enters_of func22 kA rfl
theorem zUM:Enters prog 23:=enters_of func23 kA rfl
theorem zUL:Enters prog 24:=enters_of func24 kA rfl
theorem zUK:Enters prog 25:=enters_of func25 kA rfl
theorem zUJ:Enters prog 26:=enters_of func26 kA rfl
theorem zPb:Enters prog 27:=enters_of func27 kA rfl
theorem zUI:Enters prog 28:=enters_of func28 kA rfl
theorem zIM:Enters prog 29:=enters_of func29 kA rfl
theorem zDk:Enters prog 30:=enters_of func30 kA rfl
theorem zTe:Enters prog 31:=enters_of func31 kA rfl
theorem zTd:Enters prog 32:=enters_of func32 kA rfl
theorem zRK:Enters prog 33:=enters_of func33 kA rfl
theorem zKR:Enters prog 34:=enters_of func34 kA rfl
theorem zUH:Enters prog 35:=enters_of func35 kA rfl
theorem zKQ:Enters prog 36:=enters_of func36 kA rfl
theorem zPa:Enters prog 37:=enters_of func37 kA rfl
theorem zUG:Enters prog 38:=enters_of func38 kA rfl
theorem zUF:Enters prog 39:=enters_of func39 kA rfl
theorem zUE:Enters prog 40:=enters_of func40 kA rfl
theorem zTc:Enters prog 41:=enters_of func41 kA rfl
theorem zUD:Enters prog 43:=enters_of func43 kA rfl
theorem zUC:Enters prog 44:=enters_of func44 kA rfl
theorem zUB:Enters prog 45:=enters_of func45 kA rfl
theorem zUA:Enters prog 46:=enters_of func46 kA rfl
theorem zTb:Enters prog 47:=enters_of func47 kA rfl
theorem zUz:Enters prog 48:=enters_of func48 kA rfl
theorem zUy:Enters prog 49:=enters_of func49 kA rfl
theorem zUx:Enters prog 50:=enters_of func50 kA rfl
theorem zS9:Enters prog 51:=enters_of func51 kA rfl
theorem zS8:Enters prog 52:=enters_of func52 kA rfl
theorem zS7:Enters prog 53:=enters_of func53 kA rfl
theorem zO9:Enters prog 54:=enters_of func54 kA rfl
theorem zS6:Enters prog 55:=enters_of func55 kA rfl
theorem zUw:Enters prog 56:=enters_of func56 kA rfl
theorem zUv:Enters prog 57:=enters_of func57 kA rfl
theorem zKP:Enters prog 58:=enters_of func58 kA rfl
theorem zM1:Enters prog 60:=enters_of func60 kA rfl
theorem zUu:Enters prog 64:=enters_of func64 kA rfl
theorem zO8:Enters prog 67:=enters_of func67 kA rfl
theorem zM0:Enters prog 70:=enters_of func70 kA rfl
theorem zMZ:Enters prog 71:=enters_of func71 kA rfl
theorem zS4:Enters prog 74:=enters_of func74 kA rfl
theorem zO7:Enters prog 77:=enters_of func77 kA rfl
theorem zRJ:Enters prog 78:=enters_of func78 kA rfl
theorem zUt:Enters prog 79:=enters_of func79 kA rfl
theorem zUs:Enters prog 80:=enters_of func80 kA rfl
theorem zUr:Enters prog 81:=enters_of func81 kA rfl
theorem zO6:Enters prog 83:=enters_of func83 kA rfl
theorem zMY:Enters prog 89:=enters_of func89 kA rfl
theorem zS3:Enters prog 90:=enters_of func90 kA rfl
theorem zS2:Enters prog 91:=enters_of func91 kA rfl
theorem zUp:Enters prog 92:=enters_of func92 kA rfl
theorem zUo:Enters prog 93:=enters_of func93 kA rfl
theorem zUn:Enters prog 95:=enters_of func95 kA rfl
theorem zUm:Enters prog 96:=enters_of func96 kA rfl
theorem zM5:Enters prog 100:=enters_of func100 kA rfl
theorem zP0:Enters prog 101:=enters_of func101 kA rfl
theorem zTs:Enters prog 102:=enters_of func102 kA rfl
theorem zPZ:Enters prog 106:=enters_of func106 kA rfl
theorem zTr:Enters prog 107:=enters_of func107 kA rfl
theorem zTq:Enters prog 108:=enters_of func108 kA rfl
theorem zPY:Enters prog 109:=enters_of func109 kA rfl
theorem zPX:Enters prog 110:=enters_of func110 kA rfl
theorem zTp:Enters prog 111:=enters_of func111 kA rfl
theorem zM4:Enters prog 119:=enters_of func119 kA rfl
theorem zTo:Enters prog 120:=enters_of func120 kA rfl
theorem zTn:Enters prog 121:=enters_of func121 kA rfl
theorem zJY:Enters prog 122:=enters_of func122 kA rfl
theorem zPW:Enters prog 123:=enters_of func123 kA rfl
theorem zPV:Enters prog 126:=enters_of func126 kA rfl
theorem zPU:Enters prog 128:=enters_of func128 kA rfl
theorem zPT:Enters prog 129:=enters_of func129 kA rfl
theorem zM3:Enters prog 130:=enters_of func130 kA rfl
theorem zPS:Enters prog 131:=enters_of func131 kA rfl
theorem zTm:Enters prog 132:=enters_of func132 kA rfl
theorem zTl:Enters prog 141:=enters_of func141 kA rfl
theorem zTk:Enters prog 142:=enters_of func142 kA rfl
theorem zTj:Enters prog 143:=enters_of func143 kA rfl
theorem zM2:Enters prog 144:=enters_of func144 kA rfl
theorem zPR:Enters prog 145:=enters_of func145 kA rfl
theorem zTi:Enters prog 146:=enters_of func146 kA rfl
theorem zTg:Enters prog 157:=enters_of func157 kA rfl
theorem zTf:Enters prog 158:=enters_of func158 kA rfl
attribute [local go_sem] Oper.semAt_some qF yI
def zVh (w:WM) (l l':List Nat) (k:Nat) (W:WM):Prop:=
 ∃v lo, ∃u:Nat,Boxed W w.heap.size 23 v/\yG W (w.heap.size+4) 73 v lo/\lo.length=k/\Lt lo/\Boxed W (w.heap.size+1) 105 (.int .u64 u)/\u<=1/\
  sm (lm l) k+u*BB^k=val lo+sm (lm l') k/\Below w.heap.size w W/\w.heap.size+4<=W.heap.size
theorem zI4 (w:WM) (l l':List Nat) {C:Nat} (hC:w.heap.size<=C):OwnFrom C (zVh w l l'):=by
 rintro k W W' row ⟨v,lo,u,hv,hown,hlk,hlt,hu,hu1,heq,hB,h4⟩ hg hr
 exact ⟨v,lo,u,qP hv hg hr,zHA hown hg hr,hlk,hlt,qP hu hg hr,hu1,heq,zAm hB hg (bR _) hC hr,bX h4 hg.size⟩
theorem zNM (x y u:Nat) (hx:x<4294967296) (hy:y<4294967296) (hu:u<=1):
  ∃d z u':Nat,IntKind.u64.wrap (IntKind.u64.wrap ((x:Int) - (y:Int)) - (u:Int))=(d:Int)/\(d:Int) % 4294967296=(z:Int)/\(d:Int) / 9223372036854775808=(u':Int)/\z<4294967296/\u'<=1/\x+u'*4294967296=z+y+u:=by
 have e:IntKind.u64.wrap (IntKind.u64.wrap ((x:Int) - (y:Int)) - (u:Int))=((x:Int) - y - u) % 18446744073709551616:=by
  rw [IntKind.wrap_u64,IntKind.wrap_u64];omega
 by_cases h:y+u<=x
 ·exact ⟨x - y - u,x - y - u,0,by rw [e];omega,by omega,by omega,by omega,by omega,by omega⟩
 ·exact ⟨18446744073709551616+x - y - u,4294967296+x - y - u,1,by rw [e];omega,by omega,by omega,by omega,by omega,by omega⟩
theorem zId (A:WP Addr) (n c:Nat) (l:List Nat) (A':WP Addr) (n' c':Nat) (l':List Nat) (w:WM) (h:Rd w A n c l) (h':Rd w A' n' c' l') (ht:Lt l) (ht':Lt l') (hge:val l'<=val l) (hn:n<=1099511627776) (hn':n'<=1099511627776):
  Calls prog 137 #[.slice A n c, .slice A' n' c'] w fun e w'=> ∃A1 n1 c1 l1,e= .returned (.tuple #[.slice A1 n1 c1, .int .i64 0])/\Is l1 (val l - val l')/\Rd w' A1 n1 c1 l1/\Below w.heap.size w w':=by
 have hle:=h.le;have hcap:=h.cap;have hle':=h'.le;have hcap':=h'.cap
 have hcmp:decide (zAy (val l) (val l')<0)=false:=by
  unfold zAy
  rw [if_neg oE]
  split<;>simp
 obtain ⟨N,hmx,hN⟩: ∃N,((n<n'/\n'=N)∨(¬n<n'/\n=N))/\n<=N/\n'<=N/\N<=1099511627776:=by
  by_cases hh:n<n'
  ·exact ⟨n', .inl ⟨hh,rfl⟩,by omega⟩
  ·exact ⟨n, .inr ⟨hh,rfl⟩,by omega⟩
 refine q6 func137 rfl ?_
 simp only [ntmps137,cN,cO,cP,Nat.reduceAdd,Nat.reduceSub,cQ,cR,cS,cT,cI,cU]
 go_wp2_with (first|(go_at_call 149;refine (zFo A n c l A' n' c' l' _ h h' ht ht').mono ?_;rintro e w1 ⟨rfl,rfl⟩)|(go_at_call 139;refine (zHy A n c A' n' c' _).mono ?_;rintro e w1 ⟨rfl,rfl⟩))
 obtain ⟨W0,hW0⟩: ∃W0,((((w.alloc (.cells #[.slice none 0 0] 23)).alloc (.cells #[.int .u64 0] 105)).alloc (.cells #[.slice A n c] 23)).alloc (.cells #[.slice A' n' c'] 23))=W0:=⟨_,rfl⟩
 have hsz:W0.heap.size=w.heap.size+4:=by rw [<-hW0];simp
 have hB0:Below w.heap.size w W0:=by rw [<-hW0];exact ((((bT _ w).alloc (bR _) _).alloc (by simp) _).alloc (by simp;omega) _).alloc (by simp;omega) _
 have bx0:Boxed W0 w.heap.size 23 (.slice none 0 0):=by rw [<-hW0];exact (((cB w _ _).alloc _).alloc _).alloc _
 have bx1:Boxed W0 (w.heap.size+1) 105 (.int .u64 0):=by
  rw [<-hW0];have:=cB (w.alloc (.cells #[.slice none 0 0] 23)) 105 (.int .u64 0);rw [bY] at this;exact (this.alloc _).alloc _
 have bx2:Boxed W0 (w.heap.size+1+1) 23 (.slice A n c):=by
  rw [<-hW0];have:=cB ((w.alloc (.cells #[.slice none 0 0] 23)).alloc (.cells #[.int .u64 0] 105)) 23 (.slice A n c);rw [bY,bY] at this;exact this.alloc _
 have bx3:Boxed W0 (w.heap.size+1+1+1) 23 (.slice A' n' c'):=by
  rw [<-hW0];have:=cB (((w.alloc (.cells #[.slice none 0 0] 23)).alloc (.cells #[.int .u64 0] 105)).alloc (.cells #[.slice A n c] 23)) 23 (.slice A' n' c');rw [bY,bY,bY] at this;exact this
 rw [hW0]
 clear hW0
 refine zEw (gf:=156) rfl (enters_of func156 kA rfl) (zFa A n c l A' n' c' l' (w.heap.size+1+1) (w.heap.size+1+1+1) N W0 (h.below hB0) (h'.below hB0) ht ht' bx2.cell bx3.cell hmx (S:=fun b=>b<w.heap.size∨b=w.heap.size+2∨b=w.heap.size+3) (fun b hb=>by omega) (.inr (.inl rfl)) (.inr (.inr rfl)) (fun b o hn e=> .inl (h.in_ b o hn e)) (fun b o hn e=> .inl (h'.in_ b o hn e))) (fun _=>rfl) y9.trans (zEc (fun b hb=>by omega))
  (zVh w l l') ?hI ?hF wS (fun _ _ _ _ _ _ _ _=>trivial) ?h0
  (fun k=>{ tmps:=#[.slice A n c, .slice A' n' c',undef,undef, .slice none 0 0, .int .i64 0, .pointer (some ⟨w.heap.size,0,none⟩), .pointer (some ⟨w.heap.size+1,0,none⟩), .int .u64 (lm l k:Nat), .int .u64 (lm l' k:Nat),undef, .slice A n c, .slice A' n' c', .int .i64 (zAy (val l) (val l')), .bool false, .slice A n c, .slice A' n' c', .func (.func 156) #[] #[.pointer (some ⟨w.heap.size+1+1,0,none⟩), .pointer (some ⟨w.heap.size+1+1+1,0,none⟩)], .int .u64 (lm l k:Nat), .int .u64 (lm l' k:Nat),undef,undef,undef,undef,undef,undef,undef,undef,undef,undef,undef,undef,undef,undef],defers:= [] }) ?assign ?body ?done
 case hI=>exact zI4 w l l' oE
 case hF=>exact zBM (zI4 w l l' (bR _))
 case h0=>exact ⟨_, [],0,bx0,wU _ _ _,rfl,zCi,bx1,by omega,by simp [sm],hB0,by omega⟩
 case assign=>
  intro lp k W K hK
  gi_wp2
  exact hK
 case body=>
  rintro lp k W hk ⟨v,lo,u,hv,hown,hlk,hlt,hu,hu1,heq,hB,hW4⟩
  have hcv:=hv.cell;have hfv:=hv.frozen;have hcu:=hu.cell;have hfu:=hu.frozen
  have x1:=qM ht k;have x2:=qM ht' k
  simp only [BB] at x1 x2
  obtain ⟨d,z,u',hd,hz,hu',hz1,hu1',hstep⟩:=zNM (lm l k) (lm l' k) u x1 x2 hu1
  have HS:=hid hstep
  have hl1:(lo++ [z]).length=k+1:=by simp;omega
  have hsW:w.heap.size+4<=W.heap.size:=hW4
  have hSS: ∀b,(b<w.heap.size∨b=w.heap.size+2∨b=w.heap.size+3)->b<W.heap.size/\some b≠v.ownBlock:=fun b hb=>⟨by omega,hown.not_in oE⟩
  have hSo: ¬(w.heap.size<w.heap.size∨w.heap.size=w.heap.size+2∨w.heap.size=w.heap.size+3):=by omega
  have hte:23≠73:=by decide
  have hte':105≠73:=by decide
  have hs1:lo.length+ [z].length<=17592186044416:=by simp;omega
  clear hstep
  gi_wp2_with (gi_at_builtin;go_must (refine zBG rfl _ _ 23 73 rfl yJ yZ (w.heap.size+4) v lo rfl (yG.alloc hown _) _ 1 1 [z] rfl (Rd.one _ z 73) hs1 (qE hsW _) ?_;intro v1 w1 hown1 hg1 hat1;obtain ⟨A1,c1,rfl⟩:=hown1.form' hl1;obtain ⟨hv1,hv2,hr2,hk2,hb2⟩:=zKf hte hv hown hB.size (bR _) (Nat.le_add_right _ 4) hown1 hg1;have hk3:=zMH (v':= .slice A1 (k+1) c1) hg1 hSS hSo;have hc1:=hv1.cell;have hf1:=hv1.frozen;have hu2:=zGK hte' hu hown hg1;have hc2:=hu2.cell;have hf2:=hu2.frozen))
  have hu3:=hu2.other (Nat.succ_ne_self w.heap.size) (.slice A1 (k+1) c1)
  refine ⟨(hk2.trans (cF _ _ _)).from _,hk3.setCell (p:=⟨w.heap.size+1,0,none⟩) (by simp) _,_,lo++ [z],u',hv2.other oE _,hr2.other hu3 hte' _,hl1,zBh hlt hz1,hu3.set _,hu1', ?_,(hB.trans hb2).setCell (p:=⟨w.heap.size+1,0,none⟩) (by simp) _, ?_⟩
  ·rw [zAH,hlk]
   simp only [sm,cG]
   exact zF3 heq HS.out
  ·exact bX hW4 ((hb2.setCell (p:=⟨w.heap.size+1,0,none⟩) (by simp) _).size)
 case done=>
  rintro D W hD ⟨v,lo,u,hv,hown,hlk,hlt,hu,hu1,heq,hB,hW4⟩ _ hd
  obtain ⟨A1,c1,rfl⟩:=hown.form' hlk
  have hcv:=hv.cell;have hfv:=hv.frozen
  go_wp2_with (go_at_call 90;refine (qY _ _ _ _ _ hown.rd hlt oE).mono ?_;rintro e w1 ⟨A2,n2,c2,l2,rfl,hi2,hr2,hb2⟩)
  have hd1:w1.heap[D]?=some (.deferred (some [])):=(hb2.block D (eC.1 hd).1).trans hd
  have e1:=zA5 (l:=l) (n:=N) (by rw [h.len];omega)
  have e2:=zA5 (l:=l') (n:=N) (by rw [h'.len];omega)
  have e3:=qT hlt
  rw [hlk] at e3
  rw [e1,e2] at heq
  have hu0:u=0:=by
   rcases Nat.lt_or_ge 0 u with h0|h0
   ·have:u=1:=by omega
    subst this
    omega
   ·omega
  subst hu0
  have hv2:val lo=val l - val l':=by omega
  rw [hv2] at hi2
  refine ⟨by simp, .inl ⟨_,_,rfl,run_takeDeferred hd1, ?_⟩⟩
  exact ⟨_,results_tmp2 rfl _ _ _,A2,n2,c2,l2,rfl,hi2,hr2.other _ hd1 rfl,zIS (hB.trans (hb2.mono hB.size)) _ (bX hB.size hb2.size) oE⟩
end Go.Proofs.Wd

namespace Go.Proofs.Wd
open Tryz
set_option maxRecDepth 100000
set_option maxHeartbeats 2000000
open Go.RowKit Lb
attribute [local go_sem] Oper.semAt_some qF yI
def zEV (ls:List (List Nat)) (k:Nat):Nat:=((ls.take k).map val).sum
theorem zD0 (ls:List (List Nat)):zEV ls 0=0:=by simp [zEV]
theorem zD1 {ls:List (List Nat)} {k:Nat} {l:List Nat} (h:ls[k]?=some l):zEV ls (k+1)=zEV ls k+val l:=by
 unfold zEV
 rw [List.take_add_one,h]
 simp
theorem zGU {ls:List (List Nat)} {n:Nat} (h:ls.length=n):zEV ls n=(ls.map val).sum:=by
 unfold zEV
 rw [List.take_of_length_le oE]
theorem zPj (x y u:Nat) (hx:x<4294967296) (hy:y<4294967296) (hu:u<=1):
  ∃d z u':Nat,(u:Int)+((x:Int)+(y:Int))=(d:Int)/\(d:Int) % 4294967296=(z:Int)/\(d:Int) / 4294967296=(u':Int)/\z<4294967296/\u'<=1/\d<=8589934591/\x+y+u=z+u'*4294967296:=
 ⟨u+(x+y),(u+(x+y)) % 4294967296,(u+(x+y)) / 4294967296,by omega,by omega,by omega,by omega,by omega,by omega,by omega⟩
theorem zKh {a b lo P x y z u u':Nat} (heq:lo+u*P=a+b) (hs:x+y+u=z+u'*4294967296):lo+z*P+u'*(P*4294967296)=a+x*P+(b+y*P):=by
 have h:=congrArg (·*P) hs
 simp only [Nat.add_mul] at h
 have e:u'*(P*4294967296)=u'*4294967296*P:=by rw [eB P,Nat.mul_assoc]
 omega
def zK0 (s m:Nat) (b:Nat):Prop:=b<s∨b=m+1∨b=m+1+1
def zVk (B s m:Nat) (w W1:WM) (ls la:List Nat) (ds:List Deferred) (Ds:List Nat) (k:Nat) (W:WM):Prop:=
 ∃v lo, ∃u:Nat,Boxed W m 23 v/\yG W (s+1) 73 v lo/\lo.length=k/\Lt lo/\Boxed W s 105 (.int .u64 u)/\u<=1/\
  val lo+u*BB^k=sm (lm ls) k+sm (lm la) k/\Below B w W/\y9 (zK0 s m) W1 W/\Marks B W ds Ds/\W1.heap.size<=W.heap.size
theorem zKi {B s m:Nat} {w W1:WM} {ls la:List Nat} {ds:List Deferred} {Ds:List Nat} (hB:B<=w.heap.size) (hsB:B<=s) (hs:s<=m) (hm:m+1+1<W1.heap.size) (hD: ∀D,D∈Ds->D<W1.heap.size):OwnFrom W1.heap.size (zVk B s m w W1 ls la ds Ds):=by
 rintro k W W' row ⟨v,lo,u,hv,hown,hlk,hlt,hu,hu1,heq,hb,hk,hm',h4⟩ hg hr
 refine ⟨v,lo,u,qP hv hg hr,zHA hown hg hr,hlk,hlt,qP hu hg hr,hu1,heq,zAm hb hg hB oE hr,hk.grown hg (fun b hb=>⟨?_,fun e=> ?_⟩),hm'.abide hD hg hr,bX h4 hg.size⟩
 ·unfold zK0 at hb;omega
 ·have:=(hr b e.symm).1;unfold zK0 at hb;omega
def zVL (w:WM) (A:WP Addr) (n c:Nat) (ls:List (List Nat)) (a:Act) (W:WM):Prop:=
 ∃(k:Nat) (v:WN) (ds:List Deferred) (Ds:List Nat) (u4 u5 u6 u7 u8 u12 u13 u14 u15 u16 u17 u18 u19 u20 u21 u22 u23 u24 u25 u26 u27 u28 u29 u30 u31 u32 u33 u34 u35 u36 u37 u38 u39 u40 u41 u42 u43 u44:WN) (As:WP Addr) (ns cs:Nat) (lo:List Nat),
  a={ tmps:=#[.slice A n c,undef,v,undef,u4,u5,u6,u7,u8, .slice A n c, .int .i64 n, .int .i64 k,u12,u13,u14,u15,u16,u17,u18,u19,u20,u21,u22,u23,u24,u25,u26,u27,u28,u29,u30,u31,u32,u33,u34,u35,u36,u37,u38,u39,u40,u41,u42,u43,u44,undef,undef],defers:=ds }/\k<=n/\v= .slice As ns cs/\Rd W As ns cs lo/\Lt lo/\ns<=68719476736+k/\val lo=zEV ls k/\Below w.heap.size w W/\Marks w.heap.size W ds Ds
theorem zNk (A:WP Addr) (n c:Nat) (ls:List (List Nat)) (w:WM) (h:Rds w A n ls) (hn:n<=1000):
  Calls prog 122 #[.slice A n c] w (jH w (ls.map val).sum):=by
 obtain ⟨i0,hi0,hz0,hz1,hz2⟩:=info_parts yZ
 refine q6 func122 rfl ?_
 simp only [ntmps122,cN,cO,cP,Nat.reduceAdd,Nat.reduceSub,cQ,cR,cS,cT,cI,cU]
 go_wp2
 refine wp_loop (zVL w A n c ls) (fun a _=>n - (intOf (a.tmps.getD 11 undef)).toNat) ?_ ?_
 ·exact ⟨0,_, [], [],_,_,_,_,_,_,_,_,_,_,_,_,_,_,_,_,_,_,_,_,_,_,_,_,_,_,_,_,_,_,_,_,_,_,_,_,_,_,none,0,0, [],rfl,cJ _,rfl,wL _,zCi,by omega,by rw [zD0];rfl,bT _ _,Marks.nil _ _⟩
 rintro a W ⟨k,v,ds,Ds,u4,u5,u6,u7,u8,u12,u13,u14,u15,u16,u17,u18,u19,u20,u21,u22,u23,u24,u25,u26,u27,u28,u29,u30,u31,u32,u33,u34,u35,u36,u37,u38,u39,u40,u41,u42,u43,u44,As,ns,cs,lo,rfl,hk,rfl,hrs,hlt,hns,hval,hB,hM⟩
 by_cases hkn:k<n
 ·obtain ⟨b,o,Ai,ni,ci,la,rfl,hcell,hla,hra,hta,hni⟩:=h.cells k hkn
  have hcW:W.cell? ⟨b,o+k,none⟩=some (.slice Ai ni ci):=(hB.cell (p:=⟨b,o+k,none⟩) (z7 hcell)).trans hcell
  have hraW:=hra.below hB
  obtain ⟨N,hmx,hmx2,hN⟩: ∃N,((ns<ni/\ni=N)∨(¬ns<ni/\ns=N))/\((ni<ns/\N=ns)∨(¬ni<ns/\N=ni))/\ni<=N/\ns<=N/\N<=68719476736+k:=by
   rcases Nat.lt_trichotomy ns ni with hh|hh|hh
   ·exact ⟨ni, .inl ⟨hh,rfl⟩, .inr ⟨by omega,rfl⟩,by omega⟩
   ·exact ⟨ns, .inr ⟨by omega,rfl⟩, .inr ⟨by omega,hh⟩,by omega⟩
   ·exact ⟨ns, .inr ⟨by omega,rfl⟩, .inl ⟨hh,rfl⟩,by omega⟩
  have HX:=hid hmx
  clear hmx
  have hbase:W.heap.size+1<=(W.alloc (.cells #[.int .u64 0] 105)).heap.size:=by simp
  have hbytes:i0.bytes*(N+1)<=281474976710656:=by rw [hz2];omega
  have hmax:N+1<=maxLen:=by unfold maxLen;omega
  rcases hmx2 with ⟨hx,hxe⟩|⟨hx,hxe⟩
  rotate_left
  let x:=ni
  rotate_left
  let x:=ns
  all_goals
   have ex:x=N:=hxe.symm
   have HC:Hid (((x:Int)+1)=((N+1:Nat):Int)):=hid oE
   have HE:=hid hxe
   clear hxe
   go_wp2_with (first|(at_make;refine wpList_make_own _ rfl _ _ 23 rfl (W.heap.size+1) 73 i0 (.int .u32 0) 1 yJ hi0 hz0 hz1 .i64 .i64 _ (N+1) rfl rfl HC.out hbytes hmax hbase ?_;intro w0 hown0 hgrow0)|(go_at_call 139;refine (zHy _ _ _ _ _ _ _).mono ?_;rintro e w1 ⟨rfl,rfl⟩))
   rw [bY] at hown0
   have hm0:W.heap.size+1<w0.heap.size:=(World.ownsRow.lt hown0 _ rfl).2
   obtain ⟨W1,hW1⟩: ∃W1,(((w0.alloc (.cells #[.slice (some ⟨W.heap.size+1,0,none⟩) 0 (N+1)] 23)).alloc (.cells #[.slice As ns cs] 23)).alloc (.cells #[.slice Ai ni ci] 23))=W1:=⟨_,rfl⟩
   have hsz:W1.heap.size=w0.heap.size+3:=by rw [<-hW1];simp
   have hBW:Below W.heap.size W W1:=by
    rw [<-hW1]
    exact (((((bT _ W).alloc (bR _) _).grown hgrow0 (by simp) (fun _ e=>by cases e)).alloc oE _).alloc (by simp;omega) _).alloc (by simp;omega) _
   have hB1:Below w.heap.size w W1:=hB.trans (hBW.mono hB.size)
   have bs:Boxed W1 W.heap.size 105 (.int .u64 0):=by rw [<-hW1];exact ((((cB W _ _).kept hgrow0 (by simp)).alloc _).alloc _).alloc _
   have bm:Boxed W1 w0.heap.size 23 (.slice (some ⟨W.heap.size+1,0,none⟩) 0 (N+1)):=by rw [<-hW1];exact ((cB w0 _ _).alloc _).alloc _
   have bp:Boxed W1 (w0.heap.size+1) 23 (.slice As ns cs):=by
    rw [<-hW1];have:=cB (w0.alloc (.cells #[.slice (some ⟨W.heap.size+1,0,none⟩) 0 (N+1)] 23)) 23 (.slice As ns cs);rw [bY] at this;exact this.alloc _
   have bq:Boxed W1 (w0.heap.size+1+1) 23 (.slice Ai ni ci):=by
    rw [<-hW1];have:=cB ((w0.alloc (.cells #[.slice (some ⟨W.heap.size+1,0,none⟩) 0 (N+1)] 23)).alloc (.cells #[.slice As ns cs] 23)) 23 (.slice Ai ni ci);rw [bY,bY] at this;exact this
   have ho1:yG W1 (W.heap.size+1) 73 (.slice (some ⟨W.heap.size+1,0,none⟩) 0 (N+1)) []:=by
    rw [<-hW1];exact ((World.ownsRow.alloc hown0 _).alloc _).alloc _
   have hM1:=hM.made hBW
   have hD1:=hM1.lt
   rw [hW1]
   clear hW1
   have hSb: ∀b,zK0 W.heap.size w0.heap.size b->b<W1.heap.size:=fun b hb=>by unfold zK0 at hb;omega
   refine zEw (gf:=156) rfl (enters_of func156 kA rfl) (zFa As ns cs lo Ai ni ci la (w0.heap.size+1) (w0.heap.size+1+1) N W1 (hrs.below hBW) (hraW.below hBW) hlt hta bp.cell bq.cell HX.out (S:=zK0 W.heap.size w0.heap.size) hSb (.inr (.inl rfl)) (.inr (.inr rfl)) (fun b o hn e=> .inl (hrs.in_ b o hn e)) (fun b o hn e=> .inl (hraW.in_ b o hn e))) (fun _=>rfl) y9.trans (zEc hSb)
    (zVk w.heap.size W.heap.size w0.heap.size w W1 lo la ds Ds) (zKi (bR _) hB.size oE oE hD1) (zBM (zKi (bR _) hB.size oE oE hD1)) wS (fun _ _ _ _ _ _ _ _=>trivial)
    ⟨_, [],0,bm,ho1,rfl,zCi,bs,by omega,by simp [sm],hB1,y9.refl _ _,hM1,bR _⟩
    (fun j=>{ tmps:=#[.slice (some ⟨b,o,none⟩) n c,undef, .slice As ns cs,undef, .slice Ai ni ci, .pointer (some ⟨W.heap.size,0,none⟩), .pointer (some ⟨w0.heap.size,0,none⟩), .int .u64 (lm lo j:Nat), .int .u64 (lm la j:Nat), .slice (some ⟨b,o,none⟩) n c, .int .i64 n, .int .i64 k, .bool true, .pointer (some ⟨b,o+k,none⟩), .slice Ai ni ci, .slice Ai ni ci, .int .i64 ni, .slice As ns cs, .int .i64 ns, .int .i64 x, .int .i64 ((x:Int)+1), .slice (some ⟨W.heap.size+1,0,none⟩) 0 (N+1), .slice As ns cs, .slice Ai ni ci, .func (.func 156) #[] #[.pointer (some ⟨w0.heap.size+1,0,none⟩), .pointer (some ⟨w0.heap.size+1+1,0,none⟩)], .int .u64 (lm lo j:Nat), .int .u64 (lm la j:Nat),u27,u28,u29,u30,u31,u32,u33,u34,u35,u36,u37,u38,u39,u40,u41,u42,u43,u44,undef,undef],defers:= [] }) ?_ ?_ ?_
   ·intro lp j W2 K hK
    gi_wp2
    exact hK
   ·rintro lp j W2 hj ⟨v,lv,u,hv,hown,hlk,hlv,hu,hu1,heq,hB2,hK2,hM2,hsz2⟩
    have hcv:=hv.cell;have hfv:=hv.frozen;have hcu:=hu.cell;have hfu:=hu.frozen
    have x1:=qM hlt j;have x2:=qM hta j
    simp only [BB] at x1 x2
    obtain ⟨d,z,u',hd,hz,hu',hz1,hu1',hd1,hstep⟩:=zPj (lm lo j) (lm la j) u x1 x2 hu1
    have HS:=hid hstep
    clear hstep
    have hs1:lv.length+ [z].length<=17592186044416:=by simp;omega
    have hl1:(lv++ [z]).length=j+1:=by simp;omega
    have hte:23≠73:=by decide
    have hte':105≠73:=by decide
    have hne:W.heap.size≠w0.heap.size:=by omega
    have hne':w0.heap.size≠W.heap.size:=by omega
    have hbW:W.heap.size+1<=W2.heap.size:=by omega
    have bp2:=hK2.boxed (.inr (.inl rfl)) bp
    have bq2:=hK2.boxed (.inr (.inr rfl)) bq
    have hSS: ∀b,zK0 W.heap.size w0.heap.size b->b<W2.heap.size/\some b≠v.ownBlock:=fun b hb=>⟨by have:=hSb b hb;omega,by
     rcases hb with hb|rfl|rfl
     ·exact hown.not_in oE
     ·exact bp2.not_row hte hown
     ·exact bq2.not_row hte hown⟩
    have hSo: ¬zK0 W.heap.size w0.heap.size w0.heap.size:=by unfold zK0;omega
    have hSu: ¬zK0 W.heap.size w0.heap.size W.heap.size:=by unfold zK0;omega
    have huS:=hu.set (.int .u64 d)
    have hownS:=hown.other hu hte' (.int .u64 d)
    have hvS:=hv.other hne' (.int .u64 d)
    have cvS:=hvS.cell;have fvS:=hvS.frozen;have cuS:=huS.cell;have fuS:=huS.frozen
    have hbS:W.heap.size+1<=(W2.setCell ⟨W.heap.size,0,none⟩ (.int .u64 d)).heap.size:=bX hbW (cF _ _ _).size
    gi_wp2_with (gi_at_builtin;go_must (refine zBG rfl _ _ 23 73 rfl yJ yZ (W.heap.size+1) v lv rfl (yG.alloc hownS _) _ 1 1 [z] rfl (vQ _ z 73 (zBc W2 _ _)) hs1 (qE hbS _) ?_;intro v1 w1 hown1 hg1 hat1;obtain ⟨A1,c1,rfl⟩:=hown1.form' hl1;have hk3:=zMH (v':= .slice A1 (j+1) c1) hg1 (fun b hb=>⟨cH (hSS b hb).1 (cF _ _ _).size,(hSS b hb).2⟩) hSo;obtain ⟨hv1,hv2,hr2,hk2,hb2⟩:=zKf hte hvS hownS hbS (Nat.le_of_lt hm0) (bR _) hown1 hg1;have hc1:=hv1.cell;have hf1:=hv1.frozen;have hu2:=zGK hte' huS hownS hg1;have hc2:=hu2.cell;have hf2:=hu2.frozen))
    have hu3:=hu2.other hne (.slice A1 (j+1) c1)
    have hko:=(cF W2 ⟨W.heap.size,0,none⟩ (.int .u64 d)).trans (hk2.trans (cF _ ⟨W.heap.size,0,none⟩ (.int .u64 u')))
    have hks:=(((y9.refl (zK0 W.heap.size w0.heap.size) W2).setCell (p:=⟨W.heap.size,0,none⟩) hSu (.int .u64 d)).trans hk3).setCell (p:=⟨W.heap.size,0,none⟩) hSu (.int .u64 u')
    refine ⟨hko.from _,hks,_,lv++ [z],u',hv2.other hne' _,hr2.other hu3 hte' _,hl1,zBh hlv hz1,hu3.set _,hu1', ?_,((hB2.setCell (p:=⟨W.heap.size,0,none⟩) hB.size _).trans (hb2.mono (by have:=hB.size;omega))).setCell (p:=⟨W.heap.size,0,none⟩) hB.size _,hK2.trans hks,hM2.others hko,bX hsz2 hko.size⟩
    rw [zAH,hlk]
    simp only [sm,cG]
    exact zKh heq HS.out
   ·rintro D W3 hD ⟨v,lv,u,hv,hown,hlk,hlv,hu,hu1,heq,hB2,hK2,hM2,hsz2⟩ _ hd
    obtain ⟨A1,c1,rfl⟩:=hown.form' hlk
    have hcv:=hv.cell;have hcu:=hu.cell
    have heu:(u:Int) % 4294967296=u:=by omega
    have hs1:lv.length+ [u].length<=17592186044416:=by simp;omega
    have hl1:(lv++ [u]).length=N+1:=by simp;omega
    have hbW:W.heap.size+1<=W3.heap.size:=by omega
    go_wp2_with (at_builtin;go_must (refine zX rfl _ _ 23 73 rfl yJ yZ (W.heap.size+1) _ lv rfl (yG.alloc hown _) _ 1 1 [u] rfl (Rd.one _ u 73) hs1 (qE hbW _) ?_;intro v1 w1 hown1 hg1 hat1;obtain ⟨A2,c2,rfl⟩:=hown1.form' hl1))
    have hD2:D ∉ Ds:=fun h=>by have:=hD1 D h;omega
    have hM3:=(hM2.more hD2 (by have:=hB1.size;omega) hd).others (zGu hown hg1)
    refine ⟨⟨k+1,_,_,_,_,_,_,_,_,_,_,_,_,_,_,_,_,_,_,_,_,_,_,_,_,_,_,_,_,_,_,_,_,_,_,_,_,_,_,_,_,_,A2,N+1,c2,lv++ [u],rfl,by omega,rfl,hown1.rd,zBh hlv (by unfold BB;omega),by omega, ?_,yG.grown (hB2.alloc hB2.size _) (yG.alloc hown _) hg1 (by have:=hB.size;omega) (qE hB2.size _),hM3⟩, ?_⟩
    ·have e1:=zA5 (l:=lo) (n:=N) (by rw [hrs.len];omega)
     have e2:=zA5 (l:=la) (n:=N) (by rw [hra.len];omega)
     rw [zD1 hla,zAH,hlk,heq,e1,e2,hval]
    ·show n - (intOf (.int .i64 ((k:Int)+1))).toNat<n - (intOf (.int .i64 (k:Int))).toNat
     simp [intOf]
     omega
 ·obtain rfl:k=n:=by omega
  go_wp2_with (go_at_call 90;refine (qY _ _ _ _ _ hrs hlt oE).mono ?_;rintro e w1 ⟨A2,n2,c2,l2,rfl,hi2,hr2,hb2⟩)
  refine qJ w1 (fun w' _=>results_tmp rfl _ _ w') Ds ds w1 (hM.made hb2) (Oth.refl _ _) ?_
  intro w' ho
  rw [hval,zGU h.len] at hi2
  exact ⟨A2,n2,c2,l2,rfl,hi2,hr2.oth ho,zAl (hB.trans (hb2.mono hB.size)) ho (bR _)⟩
end Go.Proofs.Wd

namespace Go.Proofs.Wd
open Tryz
set_option maxHeartbeats 400000
open Go.RowKit Lb
def iv (s:Bool) (l:List Nat):Int:=if s then -(val l:Int) else val l
def q7 (W:WM) (B:Nat) (t:WO) (vs:Array WN):Prop:=W.heap[B]?=some (.cells vs t (0,0))
theorem q7.lt {W:WM} {B:Nat} {t:WO} {vs:Array WN} (h:q7 W B t vs):B<W.heap.size:=(eC.1 h).1
theorem q7.cell {W:WM} {B:Nat} {t:WO} {vs:Array WN} (h:q7 W B t vs) (i:Nat):W.cell? ⟨B,i,none⟩=vs[i]?:=by simp [World.cell?,show W.heap[B]?=_ from h]
theorem q7.frozen {W:WM} {B:Nat} {t:WO} {vs:Array WN} (h:q7 W B t vs) (i:Nat):W.frozen? ⟨B,i,none⟩=false:=by simp [World.frozen?,show W.heap[B]?=_ from h]
theorem q7.new (W:WM) (t:WO) (vs:Array WN):q7 (W.alloc (.cells vs t)) W.heap.size t vs:=World.alloc_heap_new W _
theorem q7.at_ (W:WM) (t:WO) (vs:Array WN) {b:Nat} (hb:b=W.heap.size):q7 (W.alloc (.cells vs t)) b t vs:=by
 subst hb
 exact q7.new W t vs
theorem q7.kept {W W':WM} {B:Nat} {t:WO} {vs:Array WN} (h:q7 W B t vs) (hb:Below W.heap.size W W'):q7 W' B t vs:=(hb.block _ h.lt).trans h
theorem q7.alloc {W:WM} {B:Nat} {t:WO} {vs:Array WN} (h:q7 W B t vs) (o:Obj):q7 (W.alloc o) B t vs:=h.kept ((bT _ _).alloc (bR _) o)
theorem q7.other {W:WM} {B:Nat} {t:WO} {vs:Array WN} (h:q7 W B t vs) {p:Addr} (hp:B≠p.block) (v:WN):q7 (W.setCell p v) B t vs:=(Below.heap_setCell W p v B hp).trans h
theorem q7.set {W:WM} {B:Nat} {t:WO} {vs:Array WN} (h:q7 W B t vs) (i:Nat) (v:WN):q7 (W.setCell ⟨B,i,none⟩ v) B t (vs.setIfInBounds i v):=by
 obtain ⟨hlt,hk⟩:=eC.1 h
 show (W.heap.modify B _)[B]?=_
 rw [Array.getElem?_eq_getElem (by rw [Array.size_modify];exact hlt),Array.getElem_modify_self,hk]
 rfl
theorem q7.oth {B:Nat} {w w':WM} {b:Nat} {t:WO} {vs:Array WN} (h:q7 w b t vs) (ho:Oth B w w'):q7 w' b t vs:=by
 rcases ho.block b with e|⟨_,⟨o,h1,h2⟩,_⟩
 ·exact e.trans h
 ·rw [show w.heap[b]?=_ from h] at h1
  cases h1
  cases h2
theorem q7.putObj {W:WM} {B D:Nat} {t:WO} {vs:Array WN} (h:q7 W B t vs) {o:Obj} (o':Obj) (hD:W.heap[D]?=some o) (ho:o.isCells=false):q7 (W.putObj D o') B t vs:=by
 refine (World.putObj_heap_other ?_).trans h
 intro e
 subst e
 rw [show W.heap[B]?=_ from h] at hD
 cases hD
 cases ho
theorem Rd.setN {w:WM} {A:WP Addr} {n c:Nat} {l:List Nat} (h:Rd w A n c l) {b:Nat} {t:WO} {vs:Array WN} (hb:q7 w b t vs) {i:Nat} {u:WN} (hi:vs[i]?=some u) (hu: ∀x,u≠ .int .u32 x) (v:WN):Rd (w.setCell ⟨b,i,none⟩ v) A n c l:=
 ⟨h.len,h.le,h.cap,h.nil,fun k hk=>by
  obtain ⟨b',o,e,hc⟩:=h.cells k hk
  refine ⟨b',o,e,(World.cell?_setCell_other _ _ _ _ ?_).trans hc⟩
  intro he
  simp only [Addr.mk.injEq,and_true] at he
  obtain ⟨rfl,he2⟩:=he
  first|rw [<-he2] at hc|rw [he2] at hc
  rw [hb.cell,hi] at hc
  exact hu _ (Option.some.inj hc)⟩
theorem zMI {s:Bool} {l:List Nat}:(s&& !(val l==0))=decide (iv s l<0):=by
 unfold iv
 cases s
 ·simp only [Bool.false_and,cV,cW]
  exact (bV oE).symm
 ·simp only [Bool.true_and,if_true]
  by_cases h:val l=0
  ·simp [h]
  ·rw [cK.2 h]
   exact (bU oE).symm
theorem zJR (s:Bool) (l:List Nat):(iv s l).natAbs=val l:=by
 unfold iv
 cases s<;>simp
def zAv (W:WM) (B:Nat) (v:Int):Prop:= ∃A n c l,q7 W B 120 #[.bool (decide (v<0)), .slice A n c]/\Is l v.natAbs/\Rd W A n c l
theorem zAv.kept {W W':WM} {B:Nat} {v:Int} (h:zAv W B v) (hb:Below W.heap.size W W'):zAv W' B v:=by
 obtain ⟨A,n,c,l,h1,h2,h3⟩:=h
 exact ⟨A,n,c,l,h1.kept hb,h2,h3.below hb⟩
theorem zAv.lt {W:WM} {B:Nat} {v:Int} (h:zAv W B v):B<W.heap.size:=by
 obtain ⟨A,n,c,l,h1,_⟩:=h
 exact h1.lt
def qS (w:WM) (v:Int):Ending->WM->Prop:=fun e w'=> ∃A n c l,e= .returned (.agg #[.bool (decide (v<0)), .slice A n c])/\Is l v.natAbs/\Rd w' A n c l/\Below w.heap.size w w'
theorem zBX {w w':WM} (h:Below w.heap.size w w'):w.grownBy w' none:=⟨h.os,h.tape,h.output,h.size,fun k hk _=>h.block k hk⟩
theorem qC (w:WM) (a:Addr) (u:WN):w.grownBy (w.setCell a u) (some a.block):=
 ⟨rfl,rfl,rfl,(KeepsWalks.setCell w _ u).size,fun k _ hk=>Below.heap_setCell _ _ _ k (fun e=>hk (by rw [e]))⟩
theorem zAO {w1 w2:WM} {B:Nat} {b:Nat} {w:WM} (h:Below B w w1) (hg:w1.grownBy w2 (some b)) (hB:B<=w1.heap.size) (hb:B<=b):Below B w w2:=h.grown hg hB fun k hk=>by cases hk;exact hb
theorem zDI (B:Nat) (s:Bool) (A:WP Addr) (n c:Nat) (l:List Nat) (w:WM) (hb:q7 w B 120 #[.bool s, .slice A n c]) (h:Rd w A n c l) (ht:Lt l) (hl:n<=1099511627776):
  Calls prog 97 #[.pointer (some ⟨B,0,none⟩)] w fun e w'=>e= .returned (.pointer (some ⟨B,0,none⟩))/\zAv w' B (iv s l)/\w.grownBy w' (some B):=by
 have g0:w.cell? ⟨B,0,none⟩=some (.bool s):=hb.cell 0
 have g1:w.cell? ⟨B,1,none⟩=some (.slice A n c):=hb.cell 1
 go_enter func97,ntmps97
 go_wp2_with (go_at_call 90;refine (qY _ _ _ _ _ h ht hl).mono ?_;rintro e w2 ⟨A2,n2,c2,l2,rfl,hi2,hr2,hb2⟩;have hbx:=hb.kept hb2;have g2:=hbx.cell 0;have g3:=hbx.cell 1;have g4:=hbx.frozen 0;have g5:=hbx.frozen 1;simp only [List.getElem?_toArray,List.getElem?_cons_zero,List.getElem?_cons_succ] at g2 g3)
 all_goals
  go_ret
  have hle:=hr2.len;have hz:=hi2.zero_iff
  have fin: ∀x:Bool,x=decide (iv s l<0)->zAv ((w2.setCell ⟨B,1,none⟩ (.slice A2 n2 c2)).setCell ⟨B,0,none⟩ (.bool x)) B (iv s l)/\w.grownBy ((w2.setCell ⟨B,1,none⟩ (.slice A2 n2 c2)).setCell ⟨B,0,none⟩ (.bool x)) (some B):=by
   rintro x rfl
   exact ⟨⟨A2,n2,c2,l2,(hbx.set 1 _).set 0 _,by rw [zJR];exact hi2,(hr2.setN hbx (i:=1) rfl (fun _=>by simp) _).setN (hbx.set 1 _) (i:=0) rfl (fun _=>by simp) _⟩,
    ((zBX hb2).but (some B)).trans ((qC w2 ⟨B,1,none⟩ (.slice A2 n2 c2)).trans (qC _ ⟨B,0,none⟩ _))⟩
  refine ⟨rfl,fin _ ?_⟩
  rw [<-zMI]
  simp_all
  try
   by_cases e:n2=0
   ·rw [hz.2 e,e];rfl
   ·rw [bU oE,cK.2 (fun h=>e (hz.1 h))];rfl
theorem zEY (s:Bool) (A:WP Addr) (n c:Nat) (l:List Nat) (w:WM) (h:Rd w A n c l) (ht:Lt l) (hl:n<=1099511627776):
  Calls prog 63 #[.agg #[.bool s, .slice A n c]] w fun e w'=> ∃B,e= .returned (.pointer (some ⟨B,0,none⟩))/\w.heap.size<=B/\zAv w' B (iv s l)/\Below w.heap.size w w':=by
 go_enter func63,ntmps63
 go_wp2_with (go_at_call 97;refine (zDI _ s A n c l _ (q7.at_ _ _ _ (by simp)) ((h.alloc _).alloc _) ht hl).mono ?_;rintro e w1 ⟨rfl,hn,hg⟩)
 go_ret
 exact ⟨_,rfl,by simp,hn,zAO (((bT _ w).alloc (bR _) _).alloc (by simp) _) hg (by simp;omega) (by simp)⟩
theorem q7.facts2 {W:WM} {B:Nat} {t:WO} {x y:WN} (h:q7 W B t #[x,y]):(W.cell? ⟨B,0,none⟩=some x/\W.cell? ⟨B,1,none⟩=some y)/\W.frozen? ⟨B,0,none⟩=false/\W.frozen? ⟨B,1,none⟩=false:=⟨⟨h.cell 0,h.cell 1⟩,h.frozen 0,h.frozen 1⟩
theorem zKq {W W':WM} {t:WO} {x y:WN} {b:Nat} (hb:Below (W.alloc (.cells #[x,y] t)).heap.size (W.alloc (.cells #[x,y] t)) W') (e:b=W.heap.size):q7 W' b t #[x,y]:=(q7.at_ W t #[x,y] e).kept hb
theorem zAv.parts {W:WM} {B:Nat} {v:Int} (h:zAv W B v): ∃A n c l,(W.cell? ⟨B,0,none⟩=some (.bool (decide (v<0)))/\W.cell? ⟨B,1,none⟩=some (.slice A n c))/\Is l v.natAbs/\Rd W A n c l:=by
 obtain ⟨A,n,c,l,h1,h2,h3⟩:=h
 exact ⟨A,n,c,l,⟨h1.cell 0,h1.cell 1⟩,h2,h3⟩
theorem zG9 {w w1:WM} {v:Int} {b:Nat} {t:WO} {x0:Bool} {A0:WP Addr} {n0 c0:Nat} {A2:WP Addr} {n2 c2:Nat} {l2:List Nat} (hq:q7 w1 b t #[.bool x0, .slice A0 n0 c0]) (hb:Below w.heap.size w w1) (hB:w.heap.size<=b) (hi:Is l2 v.natAbs) (hr:Rd w1 A2 n2 c2 l2):
  qS w v (.returned (.agg #[.bool (decide (v<0)), .slice A2 n2 c2])) ((w1.setCell ⟨b,0,none⟩ (.bool (decide (v<0)))).setCell ⟨b,1,none⟩ (.slice A2 n2 c2)):=
 ⟨A2,n2,c2,l2,rfl,hi,(hr.setN hq (i:=0) rfl (fun _=>by simp) _).setN (hq.set 0 _) (i:=1) rfl (fun _=>by simp) _,(hb.setCell (p:=⟨b,0,none⟩) hB _).setCell (p:=⟨b,1,none⟩) hB _⟩
theorem zGX (s:Bool) (A:WP Addr) (n c:Nat) (l:List Nat) (w:WM) (h:Rd w A n c l) (ht:Lt l) (hl:n<=1099511627776):
  Calls prog 92 #[.agg #[.bool s, .slice A n c]] w (qS w (iv s l)):=by
 go_enter func92,ntmps92
 go_wp2_with (go_at_call 63;refine (zEY s A n c l _ ((h.alloc _).alloc _) ht hl).mono ?_;rintro e w1 ⟨B,rfl,hB,hn,hb⟩;obtain ⟨A2,n2,c2,l2,⟨g0,g1⟩,hi2,hr2⟩:=hn.parts;have hq:=zKq hb (b:=w.heap.size+1) (by simp);obtain ⟨⟨q0,q1⟩,q2,q3⟩:=hq.facts2)
 obtain ⟨⟨c0,c1⟩,_,_⟩:=((hq.set 0 (.bool (decide (iv s l<0)))).set 1 (.slice A2 n2 c2)).facts2
 refine bZ (v:= .agg #[.bool (decide (iv s l<0)), .slice A2 n2 c2]) (by simp [results,results92,go_sem,c0,c1]) rfl ?_
 exact zG9 hq ((((bT _ w).alloc (bR _) _).alloc (by simp) _).trans (hb.mono (by simp;omega))) (by simp) hi2 hr2
theorem zPL (s:Bool) (l:List Nat):iv (!s) l= -iv s l:=by
 unfold iv
 cases s<;>simp
theorem zI7 (s:Bool) (A:WP Addr) (n c:Nat) (l:List Nat) (w:WM) (h:Rd w A n c l) (ht:Lt l) (hl:n<=1099511627776):
  Calls prog 96 #[.agg #[.bool s, .slice A n c]] w (qS w (-iv s l)):=by
 go_enter func96,ntmps96
 go_wp2_with (go_at_call 92;refine (zGX (!s) A n c l _ ((h.alloc _).alloc _) ht hl).mono ?_;rintro e w1 ⟨A2,n2,c2,l2,rfl,hi2,hr2,hb⟩;have hq:=zKq hb (b:=w.heap.size+1) (by simp);obtain ⟨⟨q0,q1⟩,q2,q3⟩:=hq.facts2)
 obtain ⟨⟨c0,c1⟩,_,_⟩:=((hq.set 0 (.bool (decide (iv (!s) l<0)))).set 1 (.slice A2 n2 c2)).facts2
 refine bZ (v:= .agg #[.bool (decide (iv (!s) l<0)), .slice A2 n2 c2]) (by simp [results,results96,go_sem,c0,c1]) rfl ?_
 rw [<-zPL]
 exact zG9 hq ((((bT _ w).alloc (bR _) _).alloc (by simp) _).trans (hb.mono (by simp;omega))) (by simp) hi2 hr2
theorem zNW (B:Nat) (v:Int) (w:WM) (h:zAv w B v):
  Calls prog 94 #[.pointer (some ⟨B,0,none⟩)] w fun e w'=>e= .returned (.int .i64 v.sign)/\Below w.heap.size w w':=by
 obtain ⟨A2,n2,c2,l2,hb,hi2,hr2⟩:=h
 have g0:=fun o=>(hb.alloc o).facts2.1.1
 have g1:=fun o=>(hb.alloc o).facts2.1.2
 have hz:=hi2.zero_iff
 have hlen:=hr2.len
 rw [hlen] at hz
 rcases Int.lt_trichotomy v 0 with hv|rfl|hv
 ·rw [bU hv] at g0
  have hn:(1:Int)<=n2:=by omega
  rw [Int.sign_eq_neg_one_of_neg hv]
  go_enter func94,ntmps94
  go_wp2
  all_goals
   first|done|(go_ret;exact ⟨rfl,(bT _ w).alloc (bR _) _⟩)
 ·obtain rfl:n2=0:=hz.1 rfl
  rw [bV oE] at g0
  go_enter func94,ntmps94
  go_wp2
  all_goals
   first|done|(go_ret;exact ⟨rfl,(bT _ w).alloc (bR _) _⟩)
 ·rw [bV oE] at g0
  rw [Int.sign_eq_one_of_pos hv]
  rcases (by omega:n2=1∨1<n2) with rfl|hn
  all_goals
   go_enter func94,ntmps94
   go_wp2
   all_goals
    first|done|(go_ret;exact ⟨rfl,(bT _ w).alloc (bR _) _⟩)
theorem zLh (s:Bool) (A:WP Addr) (n c:Nat) (l:List Nat) (w:WM) (h:Rd w A n c l) (ht:Lt l) (hl:n<=1099511627776):
  Calls prog 61 #[.agg #[.bool s, .slice A n c]] w fun e w'=>e= .returned (.int .i64 (iv s l).sign)/\Below w.heap.size w w':=by
 go_enter func61,ntmps61
 go_wp2_with (first|(go_at_call 63;refine (zEY s A n c l _ (h.alloc _) ht hl).mono ?_;rintro e w1 ⟨B,rfl,hB,hn,hb⟩)|(go_at_call 94;refine (zNW _ _ _ hn).mono ?_;rintro e w2 ⟨rfl,hb2⟩))
 go_ret
 have hb3:=((bT _ w).alloc (bR _) (.cells #[.bool s, .slice A n c] 25)).trans (hb.mono (by simp))
 exact ⟨rfl,hb3.trans (hb2.mono hb3.size)⟩
theorem zNS (k:Nat) (hk2:k<=9223372036854775807) (w:WM):
  Calls prog 64 #[.int .i64 k] w (qS w k):=by
 have hk0:(0:Int)<=k:=cL k
 go_enter func64,ntmps64
 go_wp2_with (go_at_call 98;refine (zJG k oE _).mono ?_;rintro e w1 ⟨A2,n2,c2,l2,rfl,hi2,hr2,hb⟩;have hq:=zKq hb (b:=w.heap.size) rfl;obtain ⟨⟨q0,q1⟩,q2,q3⟩:=hq.facts2)
 obtain ⟨⟨c0,c1⟩,_,_⟩:=((hq.set 0 (.bool (decide ((k:Int)<0)))).set 1 (.slice A2 n2 c2)).facts2
 rw [show (Value.bool false)= .bool (decide ((k:Int)<0)) from by rw [bV oE]] at*
 refine bZ (v:= .agg #[.bool (decide ((k:Int)<0)), .slice A2 n2 c2]) (by simp [results,results64,go_sem,c0,c1]) rfl ?_
 exact zG9 hq (((bT _ w).alloc (bR _) _).trans (hb.mono (by simp))) (by simp) hi2 hr2
theorem zNT (k:Nat) (hk0:0<k) (hk2:k<=9223372036854775808) (w:WM):
  Calls prog 64 #[.int .i64 (-(k:Int))] w (qS w (-(k:Int))):=by
 have hk1:(-(k:Int))<0:=by omega
 have hww:IntKind.u64.wrap (-IntKind.u64.wrap (-(k:Int)))=(k:Int):=by
  simp only [IntKind.wrap,IntKind.bits,IntKind.signed];simp;omega
 go_enter func64,ntmps64
 go_wp2_with (go_at_call 98;refine (zJG k oE _).mono ?_;rintro e w1 ⟨A2,n2,c2,l2,rfl,hi2,hr2,hb⟩;have hq:=zKq hb (b:=w.heap.size) rfl;obtain ⟨⟨q0,q1⟩,q2,q3⟩:=hq.facts2)
 obtain ⟨⟨c0,c1⟩,_,_⟩:=((hq.set 0 (.bool true)).set 1 (.slice A2 n2 c2)).facts2
 refine bZ (v:= .agg #[.bool true, .slice A2 n2 c2]) (by simp [results,results64,go_sem,c0,c1]) rfl ?_
 have e1:decide (-(k:Int)<0)=true:=bU hk1
 have:=zG9 (v:= -(k:Int)) hq (((bT _ w).alloc (bR _) _).trans (hb.mono (by simp))) (by simp) (by simpa using hi2) hr2
 rw [e1] at this
 exact this
theorem zI6 (k:Int) (hk: -9223372036854775808<=k) (hk2:k<=9223372036854775807) (w:WM):
  Calls prog 64 #[.int .i64 k] w (qS w k):=by
 rcases (by omega:0<=k∨k<0) with h|h
 ·obtain ⟨m,rfl⟩:=cX h
  exact zNS m oE w
 ·obtain ⟨m,hm⟩:=cX (show 0<=-k by omega)
  obtain rfl:k= -(m:Int):=by omega
  exact zNT m oE oE w
end Go.Proofs.Wd

namespace Go.Proofs.Wd
open Tryz
set_option maxRecDepth 100000
set_option maxHeartbeats 1000000
open Go.RowKit Lb
attribute [local go_sem] Oper.semAt_some qF yI
theorem zNN (A:WP Addr) (n c:Nat) (l:List Nat) (A':WP Addr) (n' c':Nat) (l':List Nat) (w:WM) (h:Rd w A n c l) (h':Rd w A' n' c' l') (ht:Lt l) (ht':Lt l') (hge:val l<val l'):
  Calls prog 137 #[.slice A n c, .slice A' n' c'] w fun e w'=>e= .returned (.tuple #[.slice none 0 0, .int .i64 10])/\Below w.heap.size w w':=by
 have hcmp:decide (zAy (val l) (val l')<0)=true:=by
  unfold zAy
  rw [if_pos oE]
  rfl
 refine q6 func137 rfl ?_
 simp only [ntmps137,cN,cO,cP,Nat.reduceAdd,Nat.reduceSub,cQ,cR,cS,cT,cI,cU]
 go_wp2_with (go_at_call 149;refine (zFo A n c l A' n' c' l' _ h h' ht ht').mono ?_;rintro e w1 ⟨rfl,rfl⟩)
 exact qJ (B:=w.heap.size) w (fun w' _=>results_tmp2 rfl _ _ w') [] _ _ (Marks.nil _ _) (Oth.refl _ _) fun w' ho=>⟨rfl,zAl (bT _ w) ho (bR _)⟩
theorem zNj (A:WP Addr) (n c:Nat) (w:WM):
  Calls prog 65 #[.slice A n c] w fun e w'=>e= .returned (.func (.func 99) #[] #[.pointer (some ⟨w.heap.size,0,none⟩)])/\w'=w.alloc (.cells #[.slice A n c] 78):=by
 go_enter func65,ntmps65
 go_wp2
 go_ret
 exact ⟨rfl,rfl⟩
structure IRdM (m:Nat) (w:World) (A:Option Addr) (n:Nat) (is:List (Bool×List Nat)):Prop where
 len:is.length=n
 cells: ∀i,i<n-> ∃b o s Ai ni ci li,A=some ⟨b,o,none⟩/\w.cell? ⟨b,o+i*2,none⟩=some (.bool s)/\w.cell? ⟨b,o+i*2+1,none⟩=some (.slice Ai ni ci)/\is[i]?=some (s,li)/\Rd w Ai ni ci li/\Lt li/\ni<=m
theorem IRdM.keep {m:Nat} {w w':WM} {A:WP Addr} {n:Nat} {is:List (Bool×List Nat)} (h:IRdM m w A n is) (hk: ∀p:Addr,p.block<w.heap.size->w'.cell? p=w.cell? p):IRdM m w' A n is:=
 ⟨h.len,fun i hi=>by
  obtain ⟨b,o,s,Ai,ni,ci,li,e,hc,hc',h1,h2,h3⟩:=h.cells i hi
  exact ⟨b,o,s,Ai,ni,ci,li,e,(hk _ (World.block_lt_of_cell? w _ hc)).trans hc,(hk _ (World.block_lt_of_cell? w _ hc')).trans hc',h1,h2.keep hk,h3⟩⟩
theorem IRdM.below {m:Nat} {w w':WM} {A:WP Addr} {n:Nat} {is:List (Bool×List Nat)} (h:IRdM m w A n is) (hb:Below w.heap.size w w'):IRdM m w' A n is:=h.keep fun _ hp=>hb.cell hp
abbrev IRd:=IRdM 1099511627776
def zEd (is:List (Bool×List Nat)) (k:Nat):Int:=(is[k]?.map fun p=>iv p.1 p.2).getD 0
def zVK (N0:Nat) (is:List (Bool×List Nat)) (k:Nat) (xs:Array WN) (W:WM):Prop:= ∃B,xs=#[.pointer (some ⟨B,0,none⟩)]/\N0<=B/\zAv W B (zEd is k)
def zFt (S:Nat->Prop) (A B:WM):Prop:=y9 S A B/\A.heap.size<=B.heap.size
theorem zFt.trans {S:Nat->Prop} {A B C:WM} (h:zFt S A B) (k:zFt S B C):zFt S A C:=⟨h.1.trans k.1,bX h.2 k.2⟩
theorem zGv {S:Nat->Prop} {n:Nat} (hS: ∀b,S b->b<n) (W:WM) (l:Nat) (o o':Obj) (hl:n<=l) (h1:W.heap[l]?=some o) (h2:o.isCells=false):zFt S W (W.putObj l o'):=
 ⟨zEc hS W l o o' hl h1 h2,Nat.le_of_eq (World.putObj_size ..).symm⟩
theorem zH1 (A:WP Addr) (n c:Nat) (is:List (Bool×List Nat)) (b1:Nat) (w w0:WM) (h:IRd w A n is) (hw0:Below w.heap.size w w0) (hn:n<=c) (hc:c<=9223372036854775807)
  (hc1:w0.cell? ⟨b1,0,none⟩=some (.slice A n c)) {S:Nat->Prop} (hS: ∀b,S b->b<w0.heap.size) (_hS1:S b1) (hSA: ∀b,b<w.heap.size->S b):
  zPn prog 99 #[.pointer (some ⟨b1,0,none⟩)] (zVK w0.heap.size is) n (zFt S) Mk (fun _=>True) w0:=by
 intro lp J W hW hJ hY h0
 have hl1:=z7 hc1
 have hw1:=(hW.cell (p:=⟨b1,0,none⟩) hl1).trans hc1
 refine zBL func99 rfl ?_
 simp only [ntmps99,cN,cO,cP,Nat.reduceAdd,Nat.reduceSub,cQ,cR,cS,cT,cI,cU]
 gi_wp2
 gi_loopw [7] (fun i wr=> ∃k:Nat,k<=n/\i= .int .i64 k/\J k wr/\y9 S w0 wr/\w0.heap.size<=wr.heap.size) (fun i _=>n - (intOf i).toNat)
 case atStart=>exact ⟨0,cJ _,rfl,h0,wQ hW hS,hW.size⟩
 case round=>
  obtain ⟨k,hk,rfl,hj,hb,hz⟩:=hrel
  by_cases hkn:k<n
  ·obtain ⟨b,o,s,Ai,ni,ci,li,rfl,p1,p2,hi,hr,hli,hni⟩:=(h.keep (w':=wr) fun p hp=>(hb.cell (hSA _ hp)).trans (hw0.cell hp)).cells k hkn
   have hid1:zEd is k=iv s li:=by simp [zEd,hi]
   have hjk:=hJ k wr
   gi_wp2_with (first|(gi_at_call 63;refine cD (cE.2 (zEY s Ai ni ci li _ (hr.alloc _) hli hni)) ?_;rintro e w2 ⟨B2,rfl,hB2,hn2,hb2⟩;have hmk:Mk wr w2:=((bT _ wr).alloc (bR _) _).trans (hb2.mono (by simp));obtain ⟨fn,tmps,assign,body,hy,hR⟩:=hY k w2 #[.pointer (some ⟨B2,0,none⟩)] hkn (hjk _ hj hmk) ⟨B2,rfl,bX hz (bX (by simp) hB2),by rw [hid1];exact hn2⟩)|(refine hR.mono ?_;rintro e W3 ⟨rfl,hJ3,hk3⟩))
   refine ⟨⟨k+1,by omega,rfl,hJ3,(hb.trans (wQ hmk fun b hb=>cH (hS b hb) hz)).trans hk3.1,bX hz (bX hmk.size hk3.2)⟩, ?_⟩
   simp [intOf]
   omega
  ·obtain rfl:k=n:=by omega
   gi_wp2
   go_end0
   exact ⟨⟨_,rfl⟩,hj,trivial⟩
end Go.Proofs.Wd

namespace Go.Proofs.Wd
open Tryz
set_option maxRecDepth 100000
set_option maxHeartbeats 1000000
open Go.RowKit Lb
attribute [local go_sem] Oper.semAt_some qF yI
theorem zHD (B B':Nat) (v v':Int) (k:Nat) (w:WM) (h:zAv w B v) (h':zAv w B' v') (_hne:B'≠B) (hv:v.natAbs<BB^k) (hv':v'.natAbs<BB^k) (hk:k<=1000000) (hs:decide (v<0)=decide (v'<0)):
  Calls prog 118 #[.pointer (some ⟨B,0,none⟩), .pointer (some ⟨B',0,none⟩)] w fun e w'=>(∃u,e= .returned u)/\zAv w' B (v+v')/\w.grownBy w' (some B):=by
 obtain ⟨A,n,c,l,hb,hi,hr⟩:=h
 obtain ⟨A',n',c',l',hb',hi',hr'⟩:=h'
 have hn:n<=k:=by rw [<-hr.len];exact hi.len hv
 have hn':n'<=k:=by rw [<-hr'.len];exact hi'.len hv'
 obtain ⟨⟨g0,g1⟩,g2,g3⟩:=hb.facts2
 obtain ⟨⟨k0,k1⟩,k2,k3⟩:=hb'.facts2
 go_enter func118,ntmps118
 have hmix:prog.follows .mixedOrders=true:=by kernel_rfl
 ·go_wp2_with (first|go_region|fail)
  refine (cY (n:=0)).1 ?_
  refine yH 16 (fun W=>(W.cell? ⟨B,0,none⟩=some (.bool (decide (v<0)))/\W.cell? ⟨B,1,none⟩=some (.slice A n c))/\W.cell? ⟨B',0,none⟩=some (.bool (decide (v'<0)))/\W.cell? ⟨B',1,none⟩=some (.slice A' n' c')) hmix ?_
  have d1:=And.intro (And.intro g0 g1) (And.intro k0 k1)
  refine zW (i:=0) (v:= ?vv1) kA kA rfl kA kA kA (fun _ _ _ h=>h) d1 ⟨.inl ⟨rfl, ?yy1⟩,fun _=>rfl⟩ ?_
  case yy1=>
   rintro wx ⟨⟨q1,q2⟩,q3,q4⟩
   go_simp
   first|done|rfl
  refine zW (i:=1) (v:= ?vv2) kA kA rfl kA kA kA (fun _ _ _ h=>h) d1 ⟨.inl ⟨rfl, ?yy2⟩,fun _=>rfl⟩ ?_
  case yy2=>
   rintro wx ⟨⟨q1,q2⟩,q3,q4⟩
   go_simp
   first|done|rfl
  refine zW (i:=2) (v:= ?vv3) kA kA rfl kA kA kA (fun _ _ _ h=>h) d1 ⟨.inl ⟨rfl, ?yy3⟩,fun _=>rfl⟩ ?_
  case yy3=>
   rintro wx ⟨⟨q1,q2⟩,q3,q4⟩
   go_simp
   first|done|rfl
  refine zW (i:=3) (v:= ?vv4) kA kA rfl kA kA kA (fun _ _ _ h=>h) d1 ⟨.inl ⟨rfl, ?yy4⟩,fun _=>rfl⟩ ?_
  case yy4=>
   rintro wx ⟨⟨q1,q2⟩,q3,q4⟩
   go_simp
   first|done|rfl
  refine zW (i:=4) (v:= ?vv5) kA kA rfl kA kA kA (fun _ _ _ h=>h) d1 ⟨.inl ⟨rfl, ?yy5⟩,fun _=>rfl⟩ ?_
  case yy5=>
   rintro wx ⟨⟨q1,q2⟩,q3,q4⟩
   go_simp
   first|done|rfl
  refine zW (i:=5) (v:= ?vv6) kA kA rfl kA kA kA (fun _ _ _ h=>h) d1 ⟨.inl ⟨rfl, ?yy6⟩,fun _=>rfl⟩ ?_
  case yy6=>
   rintro wx ⟨⟨q1,q2⟩,q3,q4⟩
   go_simp
   first|done|rfl
  refine zW (i:=6) (v:= ?vv7) kA kA rfl kA kA kA (fun _ _ _ h=>h) d1 ⟨.inl ⟨rfl, ?yy7⟩,fun _=>rfl⟩ ?_
  case yy7=>
   rintro wx ⟨⟨q1,q2⟩,q3,q4⟩
   go_simp
   first|done|rfl
  refine zW (i:=7) (v:= ?vv8) kA kA rfl kA kA kA (fun _ _ _ h=>h) d1 ⟨.inl ⟨rfl, ?yy8⟩,fun _=>rfl⟩ ?_
  case yy8=>
   rintro wx ⟨⟨q1,q2⟩,q3,q4⟩
   go_simp
   first|done|rfl
  refine zW (i:=8) (v:= ?vv9) kA kA rfl kA kA kA (fun _ _ _ h=>h) d1 ⟨.inl ⟨rfl, ?yy9⟩,fun _=>rfl⟩ ?_
  case yy9=>
   rintro wx ⟨⟨q1,q2⟩,q3,q4⟩
   go_simp
   first|done|rfl
  refine zW (i:=9) (v:= ?vv10) kA kA rfl kA kA kA (fun _ _ _ h=>h) d1 ⟨.inl ⟨rfl, ?yy10⟩,fun _=>rfl⟩ ?_
  case yy10=>
   rintro wx ⟨⟨q1,q2⟩,q3,q4⟩
   go_simp
   first|done|rfl
  refine zW (i:=10) (v:= ?vv11) kA kA rfl kA kA kA (fun _ _ _ h=>h) d1 ⟨.inl ⟨rfl, ?yy11⟩,fun _=>rfl⟩ ?_
  case yy11=>
   rintro wx ⟨⟨q1,q2⟩,q3,q4⟩
   go_simp
   first|done|rfl
  refine zAx (i:=11) kA rfl (fun K hK=> ?_)
  go_simp
  have hW1:Below w.heap.size w (w.alloc (.cells #[.slice A n c, .slice A' n' c'] 23)).drew.drew:=(((bT _ w).alloc (bR _) _).drew).drew
  have hds:Rds (w.alloc (.cells #[.slice A n c, .slice A' n' c'] 23)).drew.drew (some ⟨w.heap.size,0,none⟩) 2 [l,l']:=(Rds.two hr hi.lt oE hr' hi'.lt oE 23).below (((bT _ _).drew).drew)
  generalize hW:(w.alloc (.cells #[.slice A n c, .slice A' n' c'] 23)).drew.drew=W1 at*
  have hb1:=hb.kept hW1;have hb1':=hb'.kept hW1
  refine hK _ _ (.inr ⟨hb1.facts2.1,hb1'.facts2.1⟩) ?_
  clear hK K
  refine zAx (i:=12) kA rfl (fun K hK=> ?_)
  go_simp
  refine cD (cE.2 (zNk _ 2 2 _ W1 hds oE)) ?_
  rintro e w2 ⟨A2,n2,c2,l2,rfl,hi2,hr2,hb2⟩
  have hB2:Below w.heap.size w w2:=hW1.trans (hb2.mono hW1.size)
  have hb3:=hb.kept hB2;have hb3':=hb'.kept hB2
  obtain ⟨⟨m0,m1⟩,m2,m3⟩:=hb3.facts2
  have d3:=And.intro hb3.facts2.1 hb3'.facts2.1
  refine hK _ _ (.inr ⟨hb3.facts2.1,hb3'.facts2.1⟩) ?_
  clear hK K
  refine zAx (i:=13) kA rfl (fun K hK=> ?_)
  go_simp
  refine hK _ _ (.inr d3) ?_
  clear hK K
  refine zAx (i:=14) kA rfl (fun K hK=> ?_)
  go_simp
  refine hK _ _ (.inr d3) ?_
  clear hK K
  refine zAx (i:=15) kA rfl (fun K hK=> ?_)
  go_simp
  refine hK _ _ (.inr d3) ?_
  clear hK K
  refine zAx (i:=16) kA rfl (fun K hK=> ?_)
  go_simp
  refine hK _ _ (.inl rfl) ?_
  clear hK K
  refine zCj kA ?_
  have hv2:iv (decide (v<0)) l2=v+v':=by
   unfold iv
   rw [hi2.val]
   simp only [List.map_cons,List.map_nil,List.sum_cons,List.sum_nil,hi.val,hi'.val]
   by_cases h0:v<0
   ·have h1:v'<0:=by rw [bU h0] at hs;exact of_decide_eq_true hs.symm
    rw [bU h0]
    simp only [if_true]
    omega
   ·have h1: ¬v'<0:=by rw [bV h0] at hs;exact of_decide_eq_false hs.symm
    rw [bV h0]
    simp only [cV,cW]
    omega
  have hn2:n2<=k+1:=by
   rw [<-hr2.len]
   refine hi2.len ?_
   simp only [List.map_cons,List.map_nil,List.sum_cons,List.sum_nil,hi.val,hi'.val,cG]
   unfold BB at*
   omega
  go_wp2_with (go_at_call 97;refine (zDI B _ A2 n2 c2 l2 _ (hb3.set 1 _) (hr2.setN hb3 (i:=1) rfl (fun _=>by simp) _) hi2.lt oE).mono ?_;rintro e w4 ⟨rfl,hn4,hg4⟩)
  refine bZ (results_none rfl _ _ _) rfl ⟨⟨_,rfl⟩,by rw [hv2] at hn4;exact hn4,((zBX hB2).but (some B)).trans ((qC w2 ⟨B,1,none⟩ _).trans hg4)⟩
end Go.Proofs.Wd

namespace Go.Proofs.Wd
open Tryz
set_option maxRecDepth 100000
set_option maxHeartbeats 1000000
open Go.RowKit Lb
attribute [local go_sem] Oper.semAt_some qF yI
theorem zKC (B B':Nat) (v v':Int) (k:Nat) (w:WM) (h:zAv w B v) (h':zAv w B' v') (_hne:B'≠B) (hv:v.natAbs<BB^k) (hv':v'.natAbs<BB^k) (hk:k<=1000000) (hs:(decide (v<0)==decide (v'<0))=false) (hlt:v'.natAbs<=v.natAbs):
  Calls prog 118 #[.pointer (some ⟨B,0,none⟩), .pointer (some ⟨B',0,none⟩)] w fun e w'=>(∃u,e= .returned u)/\zAv w' B (v+v')/\w.grownBy w' (some B):=by
 obtain ⟨A,n,c,l,hb,hi,hr⟩:=h
 obtain ⟨A',n',c',l',hb',hi',hr'⟩:=h'
 have hn:n<=k:=by rw [<-hr.len];exact hi.len hv
 have hn':n'<=k:=by rw [<-hr'.len];exact hi'.len hv'
 obtain ⟨⟨g0,g1⟩,g2,g3⟩:=hb.facts2
 obtain ⟨⟨k0,k1⟩,k2,k3⟩:=hb'.facts2
 have hmix:prog.follows .mixedOrders=true:=by kernel_rfl
 go_enter func118,ntmps118
 go_wp2_with (first|go_region|fail)
 have d1:=And.intro (And.intro g0 g1) (And.intro k0 k1)
 refine (cY (n:=0)).1 ?_
 refine yH 100 (fun W=>(W.cell? ⟨B,0,none⟩=some (.bool (decide (v<0)))/\W.cell? ⟨B,1,none⟩=some (.slice A n c))/\W.cell? ⟨B',0,none⟩=some (.bool (decide (v'<0)))/\W.cell? ⟨B',1,none⟩=some (.slice A' n' c')) hmix ?_
 refine zW (i:=0) (v:= ?vv1) kA kA rfl kA kA kA (fun _ _ _ h=>h) d1 ⟨.inl ⟨rfl, ?yy1⟩,fun _=>rfl⟩ ?_
 case yy1=>
  rintro wx ⟨⟨q1,q2⟩,q3,q4⟩
  go_simp
  first|done|rfl
 refine zW (i:=1) (v:= ?vv2) kA kA rfl kA kA kA (fun _ _ _ h=>h) d1 ⟨.inl ⟨rfl, ?yy2⟩,fun _=>rfl⟩ ?_
 case yy2=>
  rintro wx ⟨⟨q1,q2⟩,q3,q4⟩
  go_simp
  first|done|rfl
 refine zW (i:=2) (v:= ?vv3) kA kA rfl kA kA kA (fun _ _ _ h=>h) d1 ⟨.inl ⟨rfl, ?yy3⟩,fun _=>rfl⟩ ?_
 case yy3=>
  rintro wx ⟨⟨q1,q2⟩,q3,q4⟩
  go_simp
  first|done|rfl
 refine zW (i:=3) (v:= ?vv4) kA kA rfl kA kA kA (fun _ _ _ h=>h) d1 ⟨.inl ⟨rfl, ?yy4⟩,fun _=>rfl⟩ ?_
 case yy4=>
  rintro wx ⟨⟨q1,q2⟩,q3,q4⟩
  go_simp
  first|done|rfl
 refine zW (i:=4) (v:= ?vv5) kA kA rfl kA kA kA (fun _ _ _ h=>h) d1 ⟨.inl ⟨rfl, ?yy5⟩,fun _=>rfl⟩ ?_
 case yy5=>
  rintro wx ⟨⟨q1,q2⟩,q3,q4⟩
  go_simp
  first|done|rfl
 refine zW (i:=5) (v:= ?vv6) kA kA rfl kA kA kA (fun _ _ _ h=>h) d1 ⟨.inl ⟨rfl, ?yy6⟩,fun _=>rfl⟩ ?_
 case yy6=>
  rintro wx ⟨⟨q1,q2⟩,q3,q4⟩
  go_simp
  first|done|rfl
 refine zW (i:=6) (v:= ?vv7) kA kA rfl kA kA kA (fun _ _ _ h=>h) d1 ⟨.inl ⟨rfl, ?yy7⟩,fun _=>rfl⟩ ?_
 case yy7=>
  rintro wx ⟨⟨q1,q2⟩,q3,q4⟩
  go_simp
  first|done|rfl
 refine zW (i:=7) (v:= ?vv8) kA kA rfl kA kA kA (fun _ _ _ h=>h) d1 ⟨.inl ⟨rfl, ?yy8⟩,fun _=>rfl⟩ ?_
 case yy8=>
  rintro wx ⟨⟨q1,q2⟩,q3,q4⟩
  go_simp
  first|done|rfl
 refine zW (i:=8) (v:= ?vv9) kA kA rfl kA kA kA (fun _ _ _ h=>h) d1 ⟨.inl ⟨rfl, ?yy9⟩,fun _=>rfl⟩ ?_
 case yy9=>
  rintro wx ⟨⟨q1,q2⟩,q3,q4⟩
  go_simp
  first|done|rfl
 refine zW (i:=9) (v:= ?vv10) kA kA rfl kA kA kA (fun _ _ _ h=>h) d1 ⟨.inl ⟨rfl, ?yy10⟩,fun _=>rfl⟩ ?_
 case yy10=>
  rintro wx ⟨⟨q1,q2⟩,q3,q4⟩
  go_simp
  first|done|rfl
 refine zAx (i:=10) kA rfl (fun K hK=> ?_)
 go_simp
 refine cD (cE.2 (zId A n c l A' n' c' l' _ (hr.below (((bT _ w).drew).drew)) (hr'.below (((bT _ w).drew).drew)) hi.lt hi'.lt (by rw [hi.val,hi'.val];exact hlt) oE oE)) ?_
 rintro e w2 ⟨A2,n2,c2,l2,rfl,hi2,hr2,hb2⟩
 have hB2:Below w.heap.size w w2:=(((bT _ w).drew).drew).trans hb2
 have hb3:=hb.kept hB2;have hb3':=hb'.kept hB2
 obtain ⟨⟨m0,m1⟩,m2,m3⟩:=hb3.facts2
 obtain ⟨⟨p0,p1⟩,p2,p3⟩:=hb3'.facts2
 have d3:=And.intro hb3.facts2.1 hb3'.facts2.1
 refine hK _ _ (.inr d3) ?_
 clear hK K
 refine zAx (i:=11) kA rfl (fun K hK=> ?_)
 go_simp
 refine hK _ _ (.inr d3) ?_
 clear hK K
 refine zW (i:=12) (v:= ?vv11) kA kA rfl kA kA kA (fun _ _ _ h=>h) d3 ⟨.inl ⟨rfl, ?yy11⟩,fun _=>rfl⟩ ?_
 case yy11=>
  rintro wx ⟨⟨q1,q2⟩,q3,q4⟩
  go_simp
  first|done|rfl
 refine zW (i:=13) (v:= ?vv12) kA kA rfl kA kA kA (fun _ _ _ h=>h) d3 ⟨.inl ⟨rfl, ?yy12⟩,fun _=>rfl⟩ ?_
 case yy12=>
  rintro wx ⟨⟨q1,q2⟩,q3,q4⟩
  go_simp
  first|done|rfl
 refine zW (i:=14) (v:= ?vv13) kA kA rfl kA kA kA (fun _ _ _ h=>h) d3 ⟨.inl ⟨rfl, ?yy13⟩,fun _=>rfl⟩ ?_
 case yy13=>
  rintro wx ⟨⟨q1,q2⟩,q3,q4⟩
  go_simp
  first|done|rfl
 refine zW (i:=15) (v:= ?vv14) kA kA rfl kA kA kA (fun _ _ _ h=>h) d3 ⟨.inl ⟨rfl, ?yy14⟩,fun _=>rfl⟩ ?_
 case yy14=>
  rintro wx ⟨⟨q1,q2⟩,q3,q4⟩
  go_simp
  first|done|rfl
 refine zCj kA ?_
 have hv2:iv (decide (v<0)) l2=v+v':=by
  unfold iv
  rw [hi2.val,hi.val,hi'.val]
  have hs':=cK.1 hs
  by_cases h0:v<0
  ·have h1: ¬v'<0:=fun h1=>hs' (by rw [bU h0,bU h1])
   rw [bU h0]
   simp only [if_true]
   omega
  ·have h1:v'<0:=eD fun h1=>hs' (by rw [bV h0,bV h1])
   rw [bV h0]
   simp only [cV,cW]
   omega
 have hn2:n2<=k:=by
  rw [<-hr2.len]
  exact hi2.len (cZ (Nat.sub_le _ _) (by rw [hi.val];exact hv))
 go_wp2_with (go_at_call 97;refine (zDI B _ A2 n2 c2 l2 _ (hb3.set 1 _) (hr2.setN hb3 (i:=1) rfl (fun _=>by simp) _) hi2.lt oE).mono ?_;rintro e w4 ⟨rfl,hn4,hg4⟩)
 go_end0
 exact ⟨⟨_,rfl⟩,by rw [hv2] at hn4;exact hn4,((zBX hB2).but (some B)).trans ((qC w2 ⟨B,1,none⟩ _).trans hg4)⟩
theorem zKB (B B':Nat) (v v':Int) (k:Nat) (w:WM) (h:zAv w B v) (h':zAv w B' v') (_hne:B'≠B) (hv:v.natAbs<BB^k) (hv':v'.natAbs<BB^k) (hk:k<=1000000) (hs:(decide (v<0)==decide (v'<0))=false) (hlt:v.natAbs<v'.natAbs):
  Calls prog 118 #[.pointer (some ⟨B,0,none⟩), .pointer (some ⟨B',0,none⟩)] w fun e w'=>(∃u,e= .returned u)/\zAv w' B (v+v')/\w.grownBy w' (some B):=by
 obtain ⟨A,n,c,l,hb,hi,hr⟩:=h
 obtain ⟨A',n',c',l',hb',hi',hr'⟩:=h'
 have hn:n<=k:=by rw [<-hr.len];exact hi.len hv
 have hn':n'<=k:=by rw [<-hr'.len];exact hi'.len hv'
 obtain ⟨⟨g0,g1⟩,g2,g3⟩:=hb.facts2
 obtain ⟨⟨k0,k1⟩,k2,k3⟩:=hb'.facts2
 have hmix:prog.follows .mixedOrders=true:=by kernel_rfl
 go_enter func118,ntmps118
 go_wp2_with (first|go_region|fail)
 have d1:=And.intro (And.intro g0 g1) (And.intro k0 k1)
 refine (cY (n:=0)).1 ?_
 refine yH 100 (fun W=>(W.cell? ⟨B,0,none⟩=some (.bool (decide (v<0)))/\W.cell? ⟨B,1,none⟩=some (.slice A n c))/\W.cell? ⟨B',0,none⟩=some (.bool (decide (v'<0)))/\W.cell? ⟨B',1,none⟩=some (.slice A' n' c')) hmix ?_
 refine zW (i:=0) (v:= ?vv15) kA kA rfl kA kA kA (fun _ _ _ h=>h) d1 ⟨.inl ⟨rfl, ?yy15⟩,fun _=>rfl⟩ ?_
 case yy15=>
  rintro wx ⟨⟨q1,q2⟩,q3,q4⟩
  go_simp
  first|done|rfl
 refine zW (i:=1) (v:= ?vv16) kA kA rfl kA kA kA (fun _ _ _ h=>h) d1 ⟨.inl ⟨rfl, ?yy16⟩,fun _=>rfl⟩ ?_
 case yy16=>
  rintro wx ⟨⟨q1,q2⟩,q3,q4⟩
  go_simp
  first|done|rfl
 refine zW (i:=2) (v:= ?vv17) kA kA rfl kA kA kA (fun _ _ _ h=>h) d1 ⟨.inl ⟨rfl, ?yy17⟩,fun _=>rfl⟩ ?_
 case yy17=>
  rintro wx ⟨⟨q1,q2⟩,q3,q4⟩
  go_simp
  first|done|rfl
 refine zW (i:=3) (v:= ?vv18) kA kA rfl kA kA kA (fun _ _ _ h=>h) d1 ⟨.inl ⟨rfl, ?yy18⟩,fun _=>rfl⟩ ?_
 case yy18=>
  rintro wx ⟨⟨q1,q2⟩,q3,q4⟩
  go_simp
  first|done|rfl
 refine zW (i:=4) (v:= ?vv19) kA kA rfl kA kA kA (fun _ _ _ h=>h) d1 ⟨.inl ⟨rfl, ?yy19⟩,fun _=>rfl⟩ ?_
 case yy19=>
  rintro wx ⟨⟨q1,q2⟩,q3,q4⟩
  go_simp
  first|done|rfl
 refine zW (i:=5) (v:= ?vv20) kA kA rfl kA kA kA (fun _ _ _ h=>h) d1 ⟨.inl ⟨rfl, ?yy20⟩,fun _=>rfl⟩ ?_
 case yy20=>
  rintro wx ⟨⟨q1,q2⟩,q3,q4⟩
  go_simp
  first|done|rfl
 refine zW (i:=6) (v:= ?vv21) kA kA rfl kA kA kA (fun _ _ _ h=>h) d1 ⟨.inl ⟨rfl, ?yy21⟩,fun _=>rfl⟩ ?_
 case yy21=>
  rintro wx ⟨⟨q1,q2⟩,q3,q4⟩
  go_simp
  first|done|rfl
 refine zW (i:=7) (v:= ?vv22) kA kA rfl kA kA kA (fun _ _ _ h=>h) d1 ⟨.inl ⟨rfl, ?yy22⟩,fun _=>rfl⟩ ?_
 case yy22=>
  rintro wx ⟨⟨q1,q2⟩,q3,q4⟩
  go_simp
  first|done|rfl
 refine zW (i:=8) (v:= ?vv23) kA kA rfl kA kA kA (fun _ _ _ h=>h) d1 ⟨.inl ⟨rfl, ?yy23⟩,fun _=>rfl⟩ ?_
 case yy23=>
  rintro wx ⟨⟨q1,q2⟩,q3,q4⟩
  go_simp
  first|done|rfl
 refine zW (i:=9) (v:= ?vv24) kA kA rfl kA kA kA (fun _ _ _ h=>h) d1 ⟨.inl ⟨rfl, ?yy24⟩,fun _=>rfl⟩ ?_
 case yy24=>
  rintro wx ⟨⟨q1,q2⟩,q3,q4⟩
  go_simp
  first|done|rfl
 refine zAx (i:=10) kA rfl (fun K hK=> ?_)
 go_simp
 refine cD (cE.2 (zNN A n c l A' n' c' l' _ (hr.below (((bT _ w).drew).drew)) (hr'.below (((bT _ w).drew).drew)) hi.lt hi'.lt (by rw [hi.val,hi'.val];exact hlt))) ?_
 rintro e w2 ⟨rfl,hb2⟩
 have hB2:Below w.heap.size w w2:=(((bT _ w).drew).drew).trans hb2
 have hb3:=hb.kept hB2;have hb3':=hb'.kept hB2
 obtain ⟨⟨m0,m1⟩,m2,m3⟩:=hb3.facts2
 obtain ⟨⟨p0,p1⟩,p2,p3⟩:=hb3'.facts2
 have d3:=And.intro hb3.facts2.1 hb3'.facts2.1
 refine hK _ _ (.inr d3) ?_
 clear hK K
 refine zAx (i:=11) kA rfl (fun K hK=> ?_)
 go_simp
 refine hK _ _ (.inr d3) ?_
 clear hK K
 refine zW (i:=12) (v:= ?vv25) kA kA rfl kA kA kA (fun _ _ _ h=>h) d3 ⟨.inl ⟨rfl, ?yy25⟩,fun _=>rfl⟩ ?_
 case yy25=>
  rintro wx ⟨⟨q1,q2⟩,q3,q4⟩
  go_simp
  first|done|rfl
 refine zW (i:=13) (v:= ?vv26) kA kA rfl kA kA kA (fun _ _ _ h=>h) d3 ⟨.inl ⟨rfl, ?yy26⟩,fun _=>rfl⟩ ?_
 case yy26=>
  rintro wx ⟨⟨q1,q2⟩,q3,q4⟩
  go_simp
  first|done|rfl
 refine zW (i:=14) (v:= ?vv27) kA kA rfl kA kA kA (fun _ _ _ h=>h) d3 ⟨.inl ⟨rfl, ?yy27⟩,fun _=>rfl⟩ ?_
 case yy27=>
  rintro wx ⟨⟨q1,q2⟩,q3,q4⟩
  go_simp
  first|done|rfl
 refine zW (i:=15) (v:= ?vv28) kA kA rfl kA kA kA (fun _ _ _ h=>h) d3 ⟨.inl ⟨rfl, ?yy28⟩,fun _=>rfl⟩ ?_
 case yy28=>
  rintro wx ⟨⟨q1,q2⟩,q3,q4⟩
  go_simp
  first|done|rfl
 refine zCj kA ?_
 go_wp2
 refine (cY (n:=0)).1 ?_
 refine yH 100 (fun W=>(W.cell? ⟨B,0,none⟩=some (.bool (decide (v<0)))/\W.cell? ⟨B,1,none⟩=some (.slice A n c))/\W.cell? ⟨B',0,none⟩=some (.bool (decide (v'<0)))/\W.cell? ⟨B',1,none⟩=some (.slice A' n' c')) hmix ?_
 refine zW (i:=0) (v:= ?vv29) kA kA rfl kA kA kA (fun _ _ _ h=>h) d3 ⟨.inl ⟨rfl, ?yy29⟩,fun _=>rfl⟩ ?_
 case yy29=>
  rintro wx ⟨⟨q1,q2⟩,q3,q4⟩
  go_simp
  first|done|rfl
 refine zW (i:=1) (v:= ?vv30) kA kA rfl kA kA kA (fun _ _ _ h=>h) d3 ⟨.inl ⟨rfl, ?yy30⟩,fun _=>rfl⟩ ?_
 case yy30=>
  rintro wx ⟨⟨q1,q2⟩,q3,q4⟩
  go_simp
  first|done|rfl
 refine zW (i:=2) (v:= ?vv31) kA kA rfl kA kA kA (fun _ _ _ h=>h) d3 ⟨.inl ⟨rfl, ?yy31⟩,fun _=>rfl⟩ ?_
 case yy31=>
  rintro wx ⟨⟨q1,q2⟩,q3,q4⟩
  go_simp
  first|done|rfl
 refine zW (i:=3) (v:= ?vv32) kA kA rfl kA kA kA (fun _ _ _ h=>h) d3 ⟨.inl ⟨rfl, ?yy32⟩,fun _=>rfl⟩ ?_
 case yy32=>
  rintro wx ⟨⟨q1,q2⟩,q3,q4⟩
  go_simp
  first|done|rfl
 refine zW (i:=4) (v:= ?vv33) kA kA rfl kA kA kA (fun _ _ _ h=>h) d3 ⟨.inl ⟨rfl, ?yy33⟩,fun _=>rfl⟩ ?_
 case yy33=>
  rintro wx ⟨⟨q1,q2⟩,q3,q4⟩
  go_simp
  first|done|rfl
 refine zW (i:=5) (v:= ?vv34) kA kA rfl kA kA kA (fun _ _ _ h=>h) d3 ⟨.inl ⟨rfl, ?yy34⟩,fun _=>rfl⟩ ?_
 case yy34=>
  rintro wx ⟨⟨q1,q2⟩,q3,q4⟩
  go_simp
  first|done|rfl
 refine zW (i:=6) (v:= ?vv35) kA kA rfl kA kA kA (fun _ _ _ h=>h) d3 ⟨.inl ⟨rfl, ?yy35⟩,fun _=>rfl⟩ ?_
 case yy35=>
  rintro wx ⟨⟨q1,q2⟩,q3,q4⟩
  go_simp
  first|done|rfl
 refine zW (i:=7) (v:= ?vv36) kA kA rfl kA kA kA (fun _ _ _ h=>h) d3 ⟨.inl ⟨rfl, ?yy36⟩,fun _=>rfl⟩ ?_
 case yy36=>
  rintro wx ⟨⟨q1,q2⟩,q3,q4⟩
  go_simp
  first|done|rfl
 refine zW (i:=8) (v:= ?vv37) kA kA rfl kA kA kA (fun _ _ _ h=>h) d3 ⟨.inl ⟨rfl, ?yy37⟩,fun _=>rfl⟩ ?_
 case yy37=>
  rintro wx ⟨⟨q1,q2⟩,q3,q4⟩
  go_simp
  first|done|rfl
 refine zW (i:=9) (v:= ?vv38) kA kA rfl kA kA kA (fun _ _ _ h=>h) d3 ⟨.inl ⟨rfl, ?yy38⟩,fun _=>rfl⟩ ?_
 case yy38=>
  rintro wx ⟨⟨q1,q2⟩,q3,q4⟩
  go_simp
  first|done|rfl
 refine zAx (i:=10) kA rfl (fun K hK=> ?_)
 go_simp
 have hB2d:=hB2.drew
 refine cD (cE.2 (zId A' n' c' l' A n c l _ (hr'.below hB2d) (hr.below hB2d) hi'.lt hi.lt (by rw [hi.val,hi'.val];omega) oE oE)) ?_
 rintro e w3 ⟨A2,n2,c2,l2,rfl,hi2,hr2,hb4⟩
 have hB3:Below w.heap.size w w3:=hB2d.trans (hb4.mono hB2d.size)
 have hb5:=hb.kept hB3;have hb5':=hb'.kept hB3
 obtain ⟨⟨s0,s1⟩,s2,s3⟩:=hb5.facts2
 obtain ⟨⟨t0,t1⟩,t2,t3⟩:=hb5'.facts2
 have d5:=And.intro hb5.facts2.1 hb5'.facts2.1
 refine hK _ _ (.inr d5) ?_
 clear hK K
 refine zAx (i:=11) kA rfl (fun K hK=> ?_)
 go_simp
 refine hK _ _ (.inr d5) ?_
 clear hK K
 refine zW (i:=12) (v:= ?vv39) kA kA rfl kA kA kA (fun _ _ _ h=>h) d5 ⟨.inl ⟨rfl, ?yy39⟩,fun _=>rfl⟩ ?_
 case yy39=>
  rintro wx ⟨⟨q1,q2⟩,q3,q4⟩
  go_simp
  first|done|rfl
 refine zW (i:=13) (v:= ?vv40) kA kA rfl kA kA kA (fun _ _ _ h=>h) d5 ⟨.inl ⟨rfl, ?yy40⟩,fun _=>rfl⟩ ?_
 case yy40=>
  rintro wx ⟨⟨q1,q2⟩,q3,q4⟩
  go_simp
  first|done|rfl
 refine zW (i:=14) (v:= ?vv41) kA kA rfl kA kA kA (fun _ _ _ h=>h) d5 ⟨.inl ⟨rfl, ?yy41⟩,fun _=>rfl⟩ ?_
 case yy41=>
  rintro wx ⟨⟨q1,q2⟩,q3,q4⟩
  go_simp
  first|done|rfl
 refine zCj kA ?_
 have hv2:iv (decide (v'<0)) l2=v+v':=by
  unfold iv
  rw [hi2.val,hi.val,hi'.val]
  have hs':=cK.1 hs
  by_cases h0:v<0
  ·have h1: ¬v'<0:=fun h1=>hs' (by rw [bU h0,bU h1])
   rw [bV h1]
   simp only [cV,cW]
   omega
  ·have h1:v'<0:=eD fun h1=>hs' (by rw [bV h0,bV h1])
   rw [bU h1]
   simp only [if_true]
   omega
 have hn2:n2<=k:=by
  rw [<-hr2.len]
  exact hi2.len (cZ (Nat.sub_le _ _) (by rw [hi'.val];exact hv'))
 go_wp2_with (go_at_call 97;refine (zDI B _ A2 n2 c2 l2 _ ((hb5.set 0 _).set 1 _) ((hr2.setN hb5 (i:=0) rfl (fun _=>by simp) _).setN (hb5.set 0 _) (i:=1) rfl (fun _=>by simp) _) hi2.lt oE).mono ?_;rintro e w4 ⟨rfl,hn4,hg4⟩)
 go_end0
 exact ⟨⟨_,rfl⟩,by rw [hv2] at hn4;exact hn4,((zBX hB3).but (some B)).trans ((qC w3 ⟨B,0,none⟩ _).trans ((qC _ ⟨B,1,none⟩ _).trans hg4))⟩
end Go.Proofs.Wd

namespace Go.Proofs.Wd
open Tryz
set_option maxRecDepth 100000
set_option maxHeartbeats 1000000
open Go.RowKit Lb
attribute [local go_sem] Oper.semAt_some qF yI
theorem num_add (B B':Nat) (v v':Int) (k:Nat) (w:WM) (h:zAv w B v) (h':zAv w B' v') (hne:B'≠B) (hv:v.natAbs<BB^k) (hv':v'.natAbs<BB^k) (hk:k<=1000000):
  Calls prog 118 #[.pointer (some ⟨B,0,none⟩), .pointer (some ⟨B',0,none⟩)] w fun e w'=>(∃u,e= .returned u)/\zAv w' B (v+v')/\w.grownBy w' (some B):=by
 by_cases hs:decide (v<0)=decide (v'<0)
 ·exact zHD B B' v v' k w h h' hne hv hv' hk hs
 ·have hs':=cK.2 hs
  by_cases hlt:v'.natAbs<=v.natAbs
  ·exact zKC B B' v v' k w h h' hne hv hv' hk hs' hlt
  ·exact zKB B B' v v' k w h h' hne hv hv' hk hs' oE
theorem zFW {W W':WM} {row:WP Nat} {C:Nat} {p:Addr} {v:WN} (h:W.cell? p=some v) (hg:W.grownBy W' row) (hr: ∀r,row=some r->C<=r/\ ∃o:Obj,W.heap[r]?=some o/\o.isCells=false):W'.cell? p=some v:=by
 refine (World.cell?_of_block (hg.block _ (z7 h) ?_)).trans h
 intro e
 obtain ⟨_,o,ho,hc⟩:=hr _ e.symm
 rw [zFr ho hc] at h
 cases h
theorem Rd.abide {W W':WM} {row:WP Nat} {C:Nat} {A:WP Addr} {n c:Nat} {l:List Nat} (h:Rd W A n c l) (hg:W.grownBy W' row) (hr: ∀r,row=some r->C<=r/\ ∃o:Obj,W.heap[r]?=some o/\o.isCells=false):Rd W' A n c l:=
 ⟨h.len,h.le,h.cap,h.nil,fun i hi=>by
  obtain ⟨b,o,e,hc⟩:=h.cells i hi
  exact ⟨b,o,e,zFW hc hg hr⟩⟩
theorem q7.abide {W W':WM} {row:WP Nat} {C B:Nat} {t:WO} {vs:Array WN} (h:q7 W B t vs) (hg:W.grownBy W' row) (hr: ∀r,row=some r->C<=r/\ ∃o:Obj,W.heap[r]?=some o/\o.isCells=false):q7 W' B t vs:=by
 refine (hg.block B h.lt ?_).trans h
 intro e
 obtain ⟨_,o,ho,hc⟩:=hr B e.symm
 rw [show W.heap[B]?=_ from h] at ho
 cases ho
 cases hc
theorem zAv.abide {W W':WM} {row:WP Nat} {C B:Nat} {v:Int} (h:zAv W B v) (hg:W.grownBy W' row) (hr: ∀r,row=some r->C<=r/\ ∃o:Obj,W.heap[r]?=some o/\o.isCells=false):zAv W' B v:=by
 obtain ⟨A,n,c,l,h1,h2,h3⟩:=h
 exact ⟨A,n,c,l,h1.abide hg hr,h2,h3.abide hg hr⟩
def zDZ (is:List (Bool×List Nat)):Nat->Int
 |0=>0
 |k+1=>zDZ is k+zEd is k
def zBV (is:List (Bool×List Nat)):Nat->Int
 |0=>1
 |k+1=>zBV is k*zEd is k
theorem zFS {is:List (Bool×List Nat)} {m:Nat} (h: ∀k,(zEd is k).natAbs<BB^m): ∀k,(zDZ is k).natAbs<=k*BB^m
 |0=>by simp [zDZ]
 |k+1=>by
  have h1:=zFS h k;have h2:=h k
  rw [Nat.add_mul,Nat.one_mul]
  show (zDZ is k+zEd is k).natAbs<=_
  omega
def zTH (w:WM) (B0 P:Nat) (is:List (Bool×List Nat)) (k:Nat) (W:WM):Prop:=
 zAv W B0 (zDZ is k)/\Boxed W P 113 (.pointer (some ⟨B0,0,none⟩))/\q7 W w.heap.size 25 #[.bool false, .slice none 0 0]/\Below w.heap.size w W/\P+2<=W.heap.size
theorem zG4 (w:WM) (B0 P:Nat) (is:List (Bool×List Nat)) {C:Nat} (hC:w.heap.size<=C):OwnFrom C (zTH w B0 P is):=by
 rintro k W W' row ⟨h1,h2,h3,h4,h5⟩ hg hr
 exact ⟨h1.abide hg hr,qP h2 hg hr,h3.abide hg hr,zAm h4 hg (bR _) hC hr,bX h5 hg.size⟩
theorem zJh (A:WP Addr) (n c:Nat) (is:List (Bool×List Nat)) (m:Nat) (w:WM) (h:IRd w A n is) (hn:n<=c) (hc:c<=9223372036854775807) (hm:m<=900000) (hv: ∀k,(zEd is k).natAbs<BB^m) (hnn:n<=1000000:=by first|omega|decide):
  Calls prog 95 #[.slice A n c] w (qS w (zDZ is n)):=by
 refine q6 func95 rfl ?_
 simp only [ntmps95,cN,cO,cP,Nat.reduceAdd,Nat.reduceSub,cQ,cR,cS,cT,cI,cU]
 go_wp2_with (first|(go_at_call 63;refine (zEY false none 0 0 [] _ (wL _) zCi oE).mono ?_;rintro e w1 ⟨B0,rfl,hB0,hn0,hb0⟩)|(go_at_call 65;refine (zNj A n c _).mono ?_;rintro e w2 ⟨rfl,rfl⟩))
 have hiv0:iv false []=0:=rfl
 rw [hiv0] at hn0
 obtain ⟨W0,hW0⟩: ∃W0,((w1.alloc (.cells #[.pointer (some ⟨B0,0,none⟩)] 113)).alloc (.cells #[.slice A n c] 78))=W0:=⟨_,rfl⟩
 have hsz:W0.heap.size=w1.heap.size+2:=by rw [<-hW0];simp
 have hB0l:=hn0.lt
 have hB0g:w.heap.size<B0:=cH (by simp) hB0
 have hbw1:Below w.heap.size w w1:=((bT _ w).alloc (bR _) _).trans (hb0.mono (by simp))
 have hB1:Below w.heap.size w W0:=by rw [<-hW0];exact (hbw1.alloc hbw1.size _).alloc (by simp;exact Nat.le_succ_of_le hbw1.size) _
 have x0:zAv W0 B0 0:=by rw [<-hW0];exact hn0.kept (((bT _ w1).alloc (bR _) _).alloc (by simp) _)
 have x1:Boxed W0 w1.heap.size 113 (.pointer (some ⟨B0,0,none⟩)):=by rw [<-hW0];exact (cB w1 _ _).alloc _
 have x2:Boxed W0 (w1.heap.size+1) 78 (.slice A n c):=by rw [<-hW0];exact zAt _ _ _ (by simp)
 have x3:q7 W0 w.heap.size 25 #[.bool false, .slice none 0 0]:=by rw [<-hW0];exact ((zKq hb0 rfl).alloc _).alloc _
 rw [hW0]
 clear hW0
 have hSb: ∀b,(b<w.heap.size∨b=w1.heap.size+1)->b<W0.heap.size:=fun b hb=>by have:=hbw1.size;omega
 refine zBQ (gf:=99) rfl (enters_of func99 kA rfl) (zH1 A n c is (w1.heap.size+1) w W0 h hB1 hn hc x2.cell (S:=fun b=>b<w.heap.size∨b=w1.heap.size+1) hSb (.inr rfl) (fun b hb=> .inl hb)) ?hE ?hps zFt.trans (zGv hSb)
  (zTH w B0 w1.heap.size is) (zG4 w B0 _ is hB1.size) (zBM (zG4 w B0 _ is (bR _))) wS (fun _ _ _ _ _ _ _ _=>trivial) ⟨x0,x1,x3,hB1,Nat.le_of_eq hsz.symm⟩
  (fun _ xs=>{ tmps:=#[.slice A n c,undef, .pointer (some ⟨w.heap.size,0,none⟩), .pointer (some ⟨w1.heap.size,0,none⟩),xs.getD 0 undef, .agg #[.bool false, .slice none 0 0], .pointer (some ⟨B0,0,none⟩), .slice A n c, .func (.func 99) #[] #[.pointer (some ⟨w1.heap.size+1,0,none⟩)],xs.getD 0 undef,undef,undef,undef,undef,undef,undef,undef],defers:= [] }) ?assign ?body ?done
 case hE=>
  rintro k xs W l o o' ⟨B,rfl,h1,h2⟩ ho hc
  exact ⟨B,rfl,h1,h2.abide (C:=0) (grownBy_putObj' W l o') (fun r e=>by cases e;exact ⟨cJ _,o,ho,hc⟩)⟩
 case hps=>
  rintro k xs W ⟨B,rfl,_⟩
  rfl
 case assign=>
  rintro lp k xs W K ⟨B,rfl,h1,h2⟩ hK
  gi_wp2
  exact hK
 case body=>
  rintro lp k xs W hk ⟨h1,h2,h3,h4,h5⟩ ⟨B,rfl,hB,hnb⟩
  have hc2:=h2.cell
  have hne:B≠B0:=by omega
  have hkm:k<=1000000:=by omega
  have hbd:(zDZ is k).natAbs<BB^(m+1):=by
   refine cZ (zFS hv k) ?_
   rw [cG,eB]
   exact Nat.mul_lt_mul_of_pos_left (by unfold BB;omega) (Nat.pow_pos (by unfold BB;omega))
  have hbd2:(zEd is k).natAbs<BB^(m+1):=cH (hv k) (cM (by unfold BB;omega) (Nat.le_succ m))
  gi_wp2_with (gi_at_call 118;refine cD (cE.2 (num_add B0 B _ _ (m+1) W h1 hnb hne hbd hbd2 oE)) ?_;rintro e w3 ⟨⟨u,rfl⟩,hn3,hg3⟩)
  have hbx: ∃vs t,q7 W B0 t vs:=by obtain ⟨_,_,_,_,g,_⟩:=h1;exact ⟨_,_,g⟩
  obtain ⟨vs,t,g⟩:=hbx
  refine ⟨(KeepsOthers.of_grownBy hg3 (fun j o e ho=>by cases e;rw [show W.heap[B0]?=_ from g] at ho;cases ho;rfl)).from _,⟨(y9.refl _ _).grown hg3 (fun b hb=>⟨by have:=hSb b hb;omega,fun e=>by cases e;omega⟩),hg3.size⟩,hn3,h2.kept hg3 (fun e=>by cases e;omega),(hg3.block _ h3.lt (fun e=>by cases e;omega)).trans h3,zAO h4 hg3 h4.size oE,bX h5 hg3.size⟩
 case done=>
  rintro D W hD ⟨h1,h2,h3,h4,h5⟩ _ hd
  obtain ⟨A2,n2,c2,l2,⟨g0,g1⟩,hi2,hr2⟩:=h1.parts
  have hc2:=h2.cell
  obtain ⟨⟨q0,q1⟩,q2,q3⟩:=h3.facts2
  go_wp2
  have hb5:=(h3.set 0 (.bool (decide (zDZ is n<0)))).set 1 (.slice A2 n2 c2)
  have hM:Marks w.heap.size ((W.setCell ⟨w.heap.size,0,none⟩ (.bool (decide (zDZ is n<0)))).setCell ⟨w.heap.size,1,none⟩ (.slice A2 n2 c2)) [mark D] [D]:=((Marks.nil w.heap.size W).more (D:=D) (by simp) (by have:=hB1.size;omega) hd).others ((cF _ _ _).trans (cF _ _ _))
  obtain ⟨A3,n3,c3,l3,e3,hi3,hr3,hb3⟩:=zG9 h3 h4 (bR _) hi2 hr2
  cases e3
  refine qJ _ (v:= .agg #[.bool (decide (zDZ is n<0)), .slice A2 n2 c2]) (fun w' ho'=> ?_) [D] _ _ hM (Oth.refl _ _) ?_
  ·obtain ⟨⟨c0,c1⟩,_,_⟩:=(hb5.oth ho').facts2
   simp [results,results95,go_sem,c0,c1]
  ·intro w' ho
   exact ⟨A2,n2,c2,l3,rfl,hi3,hr3.oth ho,zAl hb3 ho (bR _)⟩
end Go.Proofs.Wd

namespace Go.Proofs.Wd
open Tryz
set_option maxRecDepth 100000
set_option maxHeartbeats 1000000
open Go.RowKit Lb
attribute [local go_sem] Oper.semAt_some qF yI
theorem zB8 {v:Int} {l:List Nat} (h:Is l v.natAbs):iv (decide (v<0)) l=v:=by
 unfold iv
 rw [h.val]
 by_cases h0:v<0
 ·rw [bU h0];simp only [if_true];omega
 ·rw [bV h0];simp only [cV,cW];omega
theorem IRd.two {m:Nat} {w:WM} {s s':Bool} {A:WP Addr} {n c:Nat} {l:List Nat} (h:Rd w A n c l) (ht:Lt l) (hn:n<=m) {A':WP Addr} {n' c':Nat} {l':List Nat} (h':Rd w A' n' c' l') (ht':Lt l') (hn':n'<=m) (t:WO):
  IRdM m (w.alloc (.cells #[.bool s, .slice A n c, .bool s', .slice A' n' c'] t)) (some ⟨w.heap.size,0,none⟩) 2 [(s,l),(s',l')]:=
 ⟨rfl,fun i hi=>by
  rcases (by omega:i=0∨i=1) with rfl|rfl
  ·exact ⟨_,_,s,A,n,c,l,rfl,zBw w _ t 0,zBw w _ t 1,rfl,h.alloc _,ht,hn⟩
  ·exact ⟨_,_,s',A',n',c',l',rfl,zBw w _ t 2,zBw w _ t 3,rfl,h'.alloc _,ht',hn'⟩⟩
theorem j9 {s:Bool} {l:List Nat} {n m:Nat} (ht:Lt l) (hl:l.length=n) (hn:n<=m):(iv s l).natAbs<BB^m:=by
 rw [zJR]
 exact cH (qT ht) (cM (by unfold BB;omega) oE)
theorem zJS (p q:Bool×List Nat) (m:Nat) (hp:(iv p.1 p.2).natAbs<BB^m) (hq:(iv q.1 q.2).natAbs<BB^m) (k:Nat):(zEd [p,q] k).natAbs<BB^m:=by
 have h0:0<BB^m:=Nat.pow_pos (by unfold BB;omega)
 unfold zEd
 match k with
 |0=>simpa using hp
 |1=>simpa using hq
 |k+2=>simpa using h0
theorem zNP (s:Bool) (A:WP Addr) (n c:Nat) (l:List Nat) (s':Bool) (A':WP Addr) (n' c':Nat) (l':List Nat) (w:WM) (h:Rd w A n c l) (ht:Lt l) (h':Rd w A' n' c' l') (ht':Lt l') (m:Nat) (hl:n<=m) (hl':n'<=m) (hm:m<=100000):
  Calls prog 62 #[.agg #[.bool s, .slice A n c], .agg #[.bool s', .slice A' n' c']] w (qS w (iv s l - iv s' l')):=by
 have hmix:prog.follows .mixedOrders=true:=by kernel_rfl
 go_enter func62,ntmps62
 go_wp2
 refine (cY (n:=0)).1 ?_
 obtain ⟨W0,hW0⟩: ∃W0,(((w.alloc (.cells #[.bool s, .slice A n c] 25)).alloc (.cells #[.bool s', .slice A' n' c'] 25)).alloc (.cells #[.bool false, .slice none 0 0] 25))=W0:=⟨_,rfl⟩
 have x0:q7 W0 w.heap.size 25 #[.bool s, .slice A n c]:=by rw [<-hW0];exact ((q7.new w _ _).alloc _).alloc _
 have x1:q7 W0 (w.heap.size+1) 25 #[.bool s', .slice A' n' c']:=by rw [<-hW0];exact (q7.at_ _ _ _ (by simp)).alloc _
 have x2:q7 W0 (w.heap.size+1+1) 25 #[.bool false, .slice none 0 0]:=by rw [<-hW0];exact q7.at_ _ _ _ (by simp)
 have hB0:Below w.heap.size w W0:=by rw [<-hW0];exact (((bT _ w).alloc (bR _) _).alloc (by simp) _).alloc (by simp;omega) _
 rw [hW0]
 clear hW0
 refine yH 100 (fun W=>(W.cell? ⟨w.heap.size,0,none⟩=some (.bool s)/\W.cell? ⟨w.heap.size,1,none⟩=some (.slice A n c))/\W.cell? ⟨w.heap.size+1,0,none⟩=some (.bool s')/\W.cell? ⟨w.heap.size+1,1,none⟩=some (.slice A' n' c')) hmix ?_
 have d1:=And.intro x0.facts2.1 x1.facts2.1
 refine zW (i:=0) (v:= ?vv1) kA kA rfl kA kA kA (fun _ _ _ h=>h) d1 ⟨.inl ⟨rfl, ?yy1⟩,fun _=>rfl⟩ ?_
 case yy1=>
  rintro wx ⟨⟨q1,q2⟩,q3,q4⟩
  go_simp
  first|done|rfl
 refine zW (i:=1) (v:= ?vv2) kA kA rfl kA kA kA (fun _ _ _ h=>h) d1 ⟨.inl ⟨rfl, ?yy2⟩,fun _=>rfl⟩ ?_
 case yy2=>
  rintro wx ⟨⟨q1,q2⟩,q3,q4⟩
  go_simp
  first|done|rfl
 refine zAx (i:=2) kA rfl (fun K hK=> ?_)
 go_simp
 have hneg:=zI7 s' A' n' c' l' _ ((h'.below hB0).drew) ht' oE
 obtain ⟨v2,hv2⟩: ∃v2,-iv s' l'=v2:=⟨_,rfl⟩
 rw [hv2] at hneg
 refine cD (cE.2 hneg) ?_
 rintro e w2 ⟨A2,n2,c2,l2,rfl,hi2,hr2,hb2⟩
 have hB2:Below W0.heap.size W0 w2:=((bT _ W0).drew).trans hb2
 have d2:=And.intro (x0.kept hB2).facts2.1 (x1.kept hB2).facts2.1
 have hn2:n2<=m:=by
  rw [<-hr2.len]
  refine hi2.len ?_
  rw [<-hv2,Int.natAbs_neg]
  exact j9 ht' h'.len hl'
 refine hK _ _ (.inr d2) ?_
 clear hK K
 refine zAx (i:=3) kA rfl (fun K hK=> ?_)
 go_simp
 have hds:IRd _ _ _ _:=IRd.two (s:=s) (s':=decide (v2<0)) (h.below (hB0.trans (hB2.mono hB0.size))) ht oE hr2 hi2.lt oE 25
 have hW3:Below W0.heap.size W0 (w2.alloc (.cells #[.bool s, .slice A n c, .bool (decide (v2<0)), .slice A2 n2 c2] 25)):=hB2.alloc hB2.size _
 refine hK _ _ (.inr ⟨(x0.kept hW3).facts2.1,(x1.kept hW3).facts2.1⟩) ?_
 clear hK K
 refine zAx (i:=4) kA rfl (fun K hK=> ?_)
 go_simp
 have hvm:=zJS (s,l) (decide (v2<0),l2) m (j9 ht h.len hl) (j9 hi2.lt hr2.len hn2)
 have hsum:zDZ [(s,l),(decide (v2<0),l2)] 2=iv s l - iv s' l':=by
  show (0+iv s l)+iv (decide (v2<0)) l2=_
  rw [zB8 hi2]
  omega
 have hadd:=zJh _ 2 2 _ m _ hds oE oE oE hvm
 rw [hsum] at hadd
 refine cD (cE.2 hadd) ?_
 rintro e w3 ⟨A3,n3,c3,l3,rfl,hi3,hr3,hb3⟩
 have hB3:Below W0.heap.size W0 w3:=hW3.trans (hb3.mono hW3.size)
 have hq:=x2.kept hB3
 obtain ⟨⟨m0,m1⟩,m2,m3⟩:=hq.facts2
 refine hK _ _ (.inr ⟨(x0.kept hB3).facts2.1,(x1.kept hB3).facts2.1⟩) ?_
 clear hK K
 obtain ⟨v3,hv3⟩: ∃v3,iv s l - iv s' l'=v3:=⟨_,rfl⟩
 rw [hv3] at hi3
 simp only [hv3]
 refine zAx (i:=5) kA rfl (fun K hK=> ?_)
 go_simp
 refine hK _ _ (.inr ⟨((x0.kept hB3).other (p:=⟨w.heap.size+1+1,0,none⟩) (by simp;omega) _|>.other (p:=⟨w.heap.size+1+1,1,none⟩) (by simp;omega) _).facts2.1,((x1.kept hB3).other (p:=⟨w.heap.size+1+1,0,none⟩) (by simp) _|>.other (p:=⟨w.heap.size+1+1,1,none⟩) (by simp) _).facts2.1⟩) ?_
 clear hK K
 refine zCj kA ?_
 obtain ⟨⟨c0,c1⟩,_,_⟩:=((hq.set 0 (.bool (decide (v3<0)))).set 1 (.slice A3 n3 c3)).facts2
 go_wp2
 refine bZ (v:= .agg #[.bool (decide (v3<0)), .slice A3 n3 c3]) (by simp [results,results62,go_sem,c0,c1]) rfl ?_
 rw [hv3]
 exact zG9 hq (hB0.trans (hB3.mono hB0.size)) oE hi3 hr3
theorem zNX (s:Bool) (A:WP Addr) (n c:Nat) (l:List Nat) (s':Bool) (A':WP Addr) (n' c':Nat) (l':List Nat) (w:WM) (h:Rd w A n c l) (ht:Lt l) (h':Rd w A' n' c' l') (ht':Lt l') (m:Nat) (hl:n<=m) (hl':n'<=m) (hm:m<=100000):
  Calls prog 35 #[.agg #[.bool s, .slice A n c], .agg #[.bool s', .slice A' n' c']] w fun e w'=>e= .returned (.int .i64 (iv s l - iv s' l').sign)/\Below w.heap.size w w':=by
 have hb1:=((bT _ w).alloc (bR _) (.cells #[.bool s, .slice A n c] 25)).alloc (by simp) (.cells #[.bool s', .slice A' n' c'] 25)
 have hsub:=zNP s A n c l s' A' n' c' l' _ (h.below hb1) ht (h'.below hb1) ht' m hl hl' hm
 obtain ⟨v3,hv3⟩: ∃v3,iv s l - iv s' l'=v3:=⟨_,rfl⟩
 have hbd:v3.natAbs<BB^(m+1):=by
  have e1:=j9 (s:=s) ht h.len hl;have e2:=j9 (s:=s') ht' h'.len hl'
  rw [cG]
  unfold BB at*
  omega
 rw [hv3] at hsub
 rw [hv3]
 go_enter func35,ntmps35
 go_wp2_with (first|(go_at_call 62;refine hsub.mono ?_;rintro e w2 ⟨A2,n2,c2,l2,rfl,hi2,hr2,hb2⟩)|(go_at_call 61;refine (zLh _ A2 n2 c2 l2 _ hr2 hi2.lt (by rw [<-hr2.len];exact bX (hi2.len hbd) oE)).mono ?_;rintro e w3 ⟨rfl,hb3⟩))
 go_ret
 have hb4:=hb1.trans (hb2.mono hb1.size)
 exact ⟨by rw [zB8 hi2];rfl,hb4.trans (hb3.mono hb4.size)⟩
def UV (W:WM) (m:Nat) (v:WN) (k:Int):Prop:= ∃s A n c l,v= .agg #[.bool s, .slice A n c]/\Rd W A n c l/\Lt l/\n<=m/\iv s l=k
def NV (W:WM) (v:WN) (k:Int):Prop:= ∃A n c l,v= .agg #[.bool (decide (k<0)), .slice A n c]/\Is l k.natAbs/\Rd W A n c l
theorem NV.below {W W':WM} {v:WN} {k:Int} (h:NV W v k) (hb:Below W.heap.size W W'):NV W' v k:=by
 obtain ⟨A,n,c,l,rfl,h1,h2⟩:=h
 exact ⟨A,n,c,l,rfl,h1,h2.below hb⟩
theorem NV.uv {W:WM} {v:WN} {k:Int} (h:NV W v k) {m:Nat} (hk:k.natAbs<BB^m):UV W m v k:=by
 obtain ⟨A,n,c,l,rfl,h1,h2⟩:=h
 exact ⟨_,A,n,c,l,rfl,h2,h1.lt,by rw [<-h2.len];exact h1.len hk,zB8 h1⟩
theorem UV.bound {W:WM} {m:Nat} {v:WN} {k:Int} (h:UV W m v k):k.natAbs<BB^m:=by
 obtain ⟨s,A,n,c,l,rfl,h1,h2,h3,rfl⟩:=h
 exact j9 h2 h1.len h3
theorem UV.mono {W:WM} {m m':Nat} {v:WN} {k:Int} (h:UV W m v k) (hm:m<=m'):UV W m' v k:=by
 obtain ⟨s,A,n,c,l,rfl,h1,h2,h3,rfl⟩:=h
 exact ⟨s,A,n,c,l,rfl,h1,h2,by omega,rfl⟩
def zGO (w:WM) (k:Int):Ending->WM->Prop:=fun e w'=> ∃v,e= .returned v/\NV w' v k/\Below w.heap.size w w'
theorem qS.v {w:WM} {k:Int} {e:Ending} {w':WM} (h:qS w k e w'):zGO w k e w':=by
 obtain ⟨A,n,c,l,rfl,h1,h2,h3⟩:=h
 exact ⟨_,rfl,⟨A,n,c,l,rfl,h1,h2⟩,h3⟩
theorem zT9 {W:WM} {m:Nat} {v:WN} {k:Int} (h:UV W m v k) (hm:m<=100000):Calls prog 96 #[v] W (zGO W (-k)):=by
 obtain ⟨s,A,n,c,l,rfl,h1,h2,h3,rfl⟩:=h
 exact (zI7 s A n c l W h1 h2 oE).mono fun _ _=>qS.v
theorem zSK {W:WM} {m:Nat} {v:WN} {k:Int} (h:UV W m v k) (hm:m<=100000):Calls prog 92 #[v] W (zGO W k):=by
 obtain ⟨s,A,n,c,l,rfl,h1,h2,h3,rfl⟩:=h
 exact (zGX s A n c l W h1 h2 oE).mono fun _ _=>qS.v
theorem zUU {W:WM} {m:Nat} {v v':WN} {k k':Int} (h:UV W m v k) (h':UV W m v' k') (hm:m<=100000):Calls prog 35 #[v,v'] W fun e w'=>e= .returned (.int .i64 (k - k').sign)/\Below W.heap.size W w':=by
 obtain ⟨s,A,n,c,l,rfl,h1,h2,h3,rfl⟩:=h
 obtain ⟨s',A',n',c',l',rfl,h1',h2',h3',rfl⟩:=h'
 exact zNX s A n c l s' A' n' c' l' W h1 h2 h1' h2' m h3 h3' hm
def IS (W:WM) (m:Nat) (v:WN) (is:List (Bool×List Nat)):Prop:= ∃A c,v= .slice A is.length c/\is.length<=c/\c<=9223372036854775807/\IRdM m W A is.length is
theorem IS.below {W W':WM} {m:Nat} {v:WN} {is:List (Bool×List Nat)} (h:IS W m v is) (hb:Below W.heap.size W W'):IS W' m v is:=by
 obtain ⟨A,c,h1,h3,h4,h2⟩:=h
 exact ⟨A,c,h1,h3,h4,h2.below hb⟩
theorem IRdM.mono {m m':Nat} {w:WM} {A:WP Addr} {n:Nat} {is:List (Bool×List Nat)} (h:IRdM m w A n is) (hm:m<=m'):IRdM m' w A n is:=
 ⟨h.len,fun i hi=>by
  obtain ⟨b,o,s,Ai,ni,ci,li,e,hc,hc',h1,h2,h3,h4⟩:=h.cells i hi
  exact ⟨b,o,s,Ai,ni,ci,li,e,hc,hc',h1,h2,h3,by omega⟩⟩
theorem zGw {m:Nat} {w:WM} {A:WP Addr} {n:Nat} {is:List (Bool×List Nat)} (h:IRdM m w A n is) (k:Nat):(zEd is k).natAbs<BB^m:=by
 by_cases hk:k<n
 ·obtain ⟨b,o,s,Ai,ni,ci,li,e,hc,hc',h1,h2,h3,h4⟩:=h.cells k hk
  unfold zEd
  rw [h1]
  exact j9 h3 h2.len h4
 ·have:is[k]?=none:=List.getElem?_eq_none (by rw [h.len];omega)
  unfold zEd
  rw [this]
  exact Nat.pow_pos (by unfold BB;omega)
theorem zU0 {W:WM} {m:Nat} {v:WN} {is:List (Bool×List Nat)} (h:IS W m v is) (hm:m<=100000) (hn:is.length<=100000):Calls prog 95 #[v] W (zGO W (zDZ is is.length)):=by
 obtain ⟨A,c,rfl,h3,h4,h2⟩:=h
 exact (zJh A is.length c is m W (IRdM.mono h2 oE) h3 h4 oE (fun k=>zGw h2 k)).mono fun _ _=>qS.v
theorem IS.two {m:Nat} {w:WM} {s s':Bool} {A:WP Addr} {n c:Nat} {l:List Nat} (h:Rd w A n c l) (ht:Lt l) (hn:n<=m) {A':WP Addr} {n' c':Nat} {l':List Nat} (h':Rd w A' n' c' l') (ht':Lt l') (hn':n'<=m) (t:WO):
  IS (w.alloc (.cells #[.bool s, .slice A n c, .bool s', .slice A' n' c'] t)) m (.slice (some ⟨w.heap.size,0,none⟩) 2 2) [(s,l),(s',l')]:=⟨_,2,rfl,bR _,by decide,IRd.two h ht hn h' ht' hn' t⟩
end Go.Proofs.Wd

namespace Go.Proofs.Wd
open Tryz
set_option maxHeartbeats 400000
open Go.RowKit Lb
theorem zAe (A:WP Addr) (n c:Nat) (l:List Nat) (i:Int) (w:WM) (h:Rd w A n c l) (ht:Lt l) (h0:0<=i):
  Calls prog 114 #[.slice A n c, .int .i64 i] w fun e w'=>e= .returned (.int .u64 (lm l i.toNat))/\w=w':=by
 obtain ⟨k,rfl⟩:=cX h0
 rw [Int.toNat_natCast]
 have hle:=h.le;have hcap:=h.cap
 have x:=qM ht k
 simp only [BB] at x
 by_cases hi:k<n
 ·obtain ⟨b,o,rfl,hc⟩:=h.cells k hi
  go_enter func114,ntmps114
  go_wp2
  go_ret
  exact ⟨rfl,rfl⟩
 ·rw [zDQ (by rw [h.len];omega)]
  go_enter func114,ntmps114
  go_wp2
  go_ret
  exact ⟨rfl,rfl⟩
theorem jL (A:WP Addr) (n c:Nat) (l:List Nat) (w:WM) (h:Rd w A n c l) (ht:Lt l) (hl:n<=1099511627776):
  Calls prog 54 #[.slice A n c] w (jH w (val l)):=by
 have hle:=h.le;have hcap:=h.cap;have hlen:=h.len
 have hown:yG (w.alloc (.cells #[] 73)) w.heap.size 73 (.slice (some ⟨w.heap.size,0,none⟩) 0 0) []:=World.ownsRow_made (base:=w.heap.size) (e:=73) (size:=1) w #[] 0 (bR _) (by unfold maxLen;omega) rfl
 have hbs:w.heap.size<=(w.alloc (.cells #[] 73)).heap.size:=by simp
 go_enter func54,ntmps54
 go_wp2
 go_loop [3] (fun x=> ∃k:Nat,k<=n/\x= .int .i64 k/\(∀i,k<=i->i<l.length->lm l i=0)) (fun x=>(intOf x).toNat)
 case atStart=>exact ⟨n,bR _,rfl,fun i h1 h2=>by omega⟩
 case round=>
  obtain ⟨k,hk,rfl,hz⟩:=hrel
  have HZ:=hid hz
  clear hz
  have hfin: ∀w1 A1 c1,yG w1 w.heap.size 73 (.slice A1 k c1) ([]++l.take k)->(k=0∨lm l (k - 1)≠0)->(w.alloc (.cells #[] 73)).grownBy w1 (Value.ownBlock (.slice (some ⟨w.heap.size,0,none⟩) 0 0))->jH w (val l) (.returned (.slice A1 k c1)) w1:=by
   intro w1 A1 c1 h1 h2 h3
   rw [cI] at h1
   exact ⟨A1,k,c1,l.take k,rfl,⟨zBF ht _,zBS l k oE HZ.out h2,jK oE HZ.out⟩,h1.rd,yG.grown ((bT w.heap.size w).alloc (bR _) _) hown h3 (bR _) hbs⟩
  have HF:=hid hfin
  clear hfin
  have hs1:([]:List Nat).length+(l.take k).length<=17592186044416:=by simp;omega
  have hl1:([]++l.take k).length=k:=by simp;omega
  by_cases h0:0<k
  ·obtain ⟨b,o,rfl,hc⟩:=h.cells (k - 1) oE
   have e1:((k:Int) - 1).toNat=k - 1:=by omega
   by_cases hx:lm l (k - 1)=0
   ·go_wp2
    go_round
    case rel=>exact ⟨k - 1,by omega,by congr 1;omega,fun i h1 h2=>by
     by_cases e:i=k - 1
     ·subst e;exact hx
     ·exact HZ.out i oE h2⟩
    case measure=>simp [intOf];omega
   ·have hx2:((lm l (k - 1):Int)==0)=false:=by simpa using hx
    have HX:=hid hx
    clear hx
    have hr1:Rd (w.alloc (.cells #[] 73)) (some ⟨b,o,none⟩) k c (l.take k):=(h.take hk oE (bR _)).alloc _
    go_wp2_with (at_builtin;go_must (refine zX rfl _ _ 23 73 rfl yJ yZ w.heap.size _ [] rfl hown _ k c (l.take k) rfl hr1 hs1 hbs ?_;intro v1 w1 hown1 hg1 hat1;obtain ⟨A1,c1,rfl⟩:=hown1.form' hl1))
    go_ret
    exact HF.out w1 A1 c1 hown1 (.inr HX.out) hg1
  ·obtain rfl:k=0:=by omega
   cases A with
   |none=>
    obtain ⟨rfl,rfl,rfl⟩:=h.empty
    go_wp2_with (at_builtin;go_must (refine zX rfl _ _ 23 73 rfl yJ yZ w.heap.size _ [] rfl hown _ 0 0 [] rfl (wL _) hs1 hbs ?_;intro v1 w1 hown1 hg1 hat1;obtain ⟨A1,c1,rfl⟩:=hown1.form' hl1))
    go_ret
    exact HF.out w1 A1 c1 hown1 (.inl (by simp)) hg1
   |some ad=>
    have hr1:Rd (w.alloc (.cells #[] 73)) (some ad) 0 c (l.take 0):=(h.take hk oE (bR _)).alloc _
    go_wp2_with (at_builtin;go_must (refine zX rfl _ _ 23 73 rfl yJ yZ w.heap.size _ [] rfl hown _ 0 c (l.take 0) rfl hr1 hs1 hbs ?_;intro v1 w1 hown1 hg1 hat1;obtain ⟨A1,c1,rfl⟩:=hown1.form' hl1))
    go_ret
    exact HF.out w1 A1 c1 hown1 (.inl (by simp)) hg1
theorem zIk (x:Nat) (hx:x<18446744073709551616) (w:WM):
  Calls prog 53 #[.int .u64 x] w (jH w x):=by
 have hr:=Rd.new w [x % 4294967296,x / 4294967296] 73 #[.int .u32 ((x:Int) % 4294967296), .int .u32 ((x:Int) / 4294967296)] (by simp [zBi]) (by simp)
 have hlt:Lt [x % 4294967296,x / 4294967296]:=by
  intro y hy
  simp at hy
  rcases hy with rfl|rfl<;>unfold BB<;>omega
 have hv:val [x % 4294967296,x / 4294967296]=x:=by rw [zK8];omega
 go_enter func53,ntmps53
 go_wp2_with (go_at_call 54;refine (jL _ 2 2 _ _ hr hlt oE).mono ?_;rintro e w1 ⟨A1,n1,c1,l1,rfl,hi1,hr1,hb1⟩)
 go_ret
 rw [hv] at hi1
 exact ⟨A1,n1,c1,l1,rfl,hi1,hr1,((bT _ w).alloc (bR _) _).trans (hb1.mono (by simp))⟩
theorem zEC (A:WP Addr) (n c:Nat) (l:List Nat) (A':WP Addr) (n' c':Nat) (l':List Nat) (w:WM) (h:Rd w A n c l) (h':Rd w A' n' c' l') (ht:Lt l) (ht':Lt l'):
  Calls prog 87 #[.slice A n c, .slice A' n' c'] w fun e w'=>e= .returned (.int .i64 (zAy (val l) (val l')))/\w=w':=by
 have hle:=h.le;have hcap:=h.cap;have hle':=h'.le;have hcap':=h'.cap
 have HN:Hid (l.length=n/\l'.length=n'):=⟨h.len,h'.len⟩
 by_cases hnn:n<n'
 all_goals
  go_enter func87,ntmps87
  go_wp2
  go_loop [5] (fun x=> ∃k:Nat,k<=9223372036854775807/\x= .int .i64 ((k:Int) - 1)/\Hid (∃N,l.length<=N/\l'.length<=N/\k<=N/\ ∀j,k<=j->j<N->lm l j=lm l' j)) (fun x=>(intOf x+1).toNat)
  case atStart=>first|exact ⟨n',by omega,rfl,hid ⟨n',by have:=HN.out;omega,by have:=HN.out;omega,bR _,fun j h1 h2=>by omega⟩⟩|exact ⟨n,by omega,rfl,hid ⟨n,by have:=HN.out;omega,by have:=HN.out;omega,bR _,fun j h1 h2=>by omega⟩⟩
  case round=>
   obtain ⟨k,_hk,rfl,HK⟩:=hrel
   by_cases h0:0<k
   ·have e1:((k:Int) - 1).toNat=k - 1:=by omega
    by_cases h1:lm l (k - 1)<lm l' (k - 1)
    ·have HV:Hid (zAy (val l) (val l')= -1):=by
      obtain ⟨N,a1,a2,a3,a4⟩:=HK.out
      exact zGH (zEy ht a1 a2 h0 a3 a4 h1)
     go_wp2_with (go_at_call 114;first|((with_reducible refine (zAe A n c l _ _ h ht oE).mono ?_);rintro e w1 ⟨rfl,rfl⟩)|((with_reducible refine (zAe A' n' c' l' _ _ h' ht' oE).mono ?_);rintro e w1 ⟨rfl,rfl⟩))
     go_ret
     exact ⟨by rw [HV.out];rfl,rfl⟩
    ·by_cases h2:lm l' (k - 1)<lm l (k - 1)
     ·have HV:Hid (zAy (val l) (val l')=1):=by
       obtain ⟨N,a1,a2,a3,a4⟩:=HK.out
       exact zJ4 (zEy ht' a2 a1 h0 a3 (fun j b1 b2=>(a4 j b1 b2).symm) h2)
      go_wp2_with (go_at_call 114;first|((with_reducible refine (zAe A n c l _ _ h ht oE).mono ?_);rintro e w1 ⟨rfl,rfl⟩)|((with_reducible refine (zAe A' n' c' l' _ _ h' ht' oE).mono ?_);rintro e w1 ⟨rfl,rfl⟩))
      go_ret
      exact ⟨by rw [HV.out];rfl,rfl⟩
     ·go_wp2_with (go_at_call 114;first|((with_reducible refine (zAe A n c l _ _ h ht oE).mono ?_);rintro e w1 ⟨rfl,rfl⟩)|((with_reducible refine (zAe A' n' c' l' _ _ h' ht' oE).mono ?_);rintro e w1 ⟨rfl,rfl⟩))
      go_round
      case rel=>exact ⟨k - 1,by omega,by congr 1;omega,by
       obtain ⟨N,a1,a2,a3,a4⟩:=HK.out
       exact hid ⟨N,a1,a2,by omega,fun j b1 b2=>by
        by_cases e:j=k - 1
        ·subst e;omega
        ·exact a4 j oE b2⟩⟩
      case measure=>simp [intOf];omega
   ·obtain rfl:k=0:=by omega
    have HV:Hid (zAy (val l) (val l')=0):=by
     obtain ⟨N,a1,a2,a3,a4⟩:=HK.out
     exact zJ5 (zIW a1 a2 a4)
    go_wp2
    go_ret
    exact ⟨by rw [HV.out];rfl,rfl⟩
end Go.Proofs.Wd

namespace Go.Proofs.Wd
open Tryz
set_option maxRecDepth 100000
set_option maxHeartbeats 1000000
open Go.RowKit Lb
def zVE (w:WM) (l l':List Nat) (N:Nat) (v o i:WN) (W:WM):Prop:=
 ∃(k u:Nat) (A:WP Addr) (c:Nat) (lo:List Nat),k<=N/\i= .int .i64 k/\o= .int .u64 u/\v= .slice A k c/\u<=1/\yG W w.heap.size 73 (.slice A k c) lo/\lo.length=k/\Lt lo/\
  val lo+u*BB^k=sm (lm l) k+sm (lm l') k/\Below w.heap.size w W
theorem zNI (x y u:Nat) (hx:x<4294967296) (hy:y<4294967296) (hu:u<=1):
  ∃d z u':Nat,(x:Int)+(y:Int)+(u:Int)=(d:Int)/\(d:Int) % 4294967296=(z:Int)/\(d:Int) / 4294967296=(u':Int)/\z<4294967296/\u'<=1/\d<=8589934591/\x+y+u=z+u'*4294967296:=
 ⟨x+y+u,(x+y+u) % 4294967296,(x+y+u) / 4294967296,by omega,by omega,by omega,by omega,by omega,by omega,by omega⟩
theorem zQo (A:WP Addr) (n c:Nat) (l:List Nat) (A':WP Addr) (n' c':Nat) (l':List Nat) (w:WM) (h:Rd w A n c l) (h':Rd w A' n' c' l') (ht:Lt l) (ht':Lt l') (hn:n<=137438953472) (hn':n'<=137438953472):
  Calls prog 112 #[.slice A n c, .slice A' n' c'] w (jH w (val l+val l')):=by
 have hle:=h.le;have hcap:=h.cap;have hle':=h'.le;have hcap':=h'.cap
 obtain ⟨N,HN⟩: ∃N,Hid (((n<n'/\N=n')∨(¬n<n'/\N=n))/\n<=N/\n'<=N/\N<=137438953472/\l.length=n/\l'.length=n'):=by
  by_cases hh:n<n'
  ·exact ⟨n',hid ⟨.inl ⟨hh,rfl⟩,by omega,by omega,by omega,h.len,h'.len⟩⟩
  ·exact ⟨n,hid ⟨.inr ⟨hh,rfl⟩,by omega,by omega,by omega,h.len,h'.len⟩⟩
 by_cases hnn:n<n'
 all_goals
  go_enter func112,ntmps112
  go_wp2
  go_loopw [5,6,7] (zVE w l l' N) (fun _ _ i _=>N - (intOf i).toNat)
  case atStart=>exact ⟨0,0,none,0, [],cJ _,rfl,rfl,rfl,by omega,wU _ _ _,rfl,zCi,by simp [sm],bT _ _⟩
  case round=>
   obtain ⟨k,u,Ao,co,lo,hk,rfl,rfl,rfl,hu1,hown,hlk,hlt,heq,hB⟩:=hrel
   have HQ:=hid heq
   clear heq
   have hr:=h.below hB;have hr':=h'.below hB
   have x1:=qM ht k;have x2:=qM ht' k
   simp only [BB] at x1 x2
   by_cases h0:k<N
   ·have hkn:k<n∨k<n':=by have:=HN.out;omega
    have hkm:k<137438953472:=by have:=HN.out;omega
    obtain ⟨d,z,u',hd,hz,hu',hz1,hu1',hd1,hstep⟩:=zNI (lm l k) (lm l' k) u x1 x2 hu1
    have HS:=hid hstep
    clear hstep
    have hs1:lo.length+ [z].length<=17592186044416:=by simp;omega
    have hl1:(lo++ [z]).length=k+1:=by simp;omega
    go_wp2_with (first|(go_at_call 114;first|((with_reducible refine (zAe A _ c l _ _ hr ht (cL k)).mono ?_);rintro e w1 ⟨rfl,rfl⟩)|((with_reducible refine (zAe A' _ c' l' _ _ hr' ht' (cL k)).mono ?_);rintro e w1 ⟨rfl,rfl⟩))|(at_builtin;refine zX rfl _ _ 23 73 rfl yJ yZ w.heap.size _ lo rfl (yG.alloc hown _) _ 1 1 [z] rfl (Rd.one _ z 73) hs1 (qE hB.size _) ?_;intro v1 w1 hown1 hg1 hat1;obtain ⟨A1,c1,rfl⟩:=hown1.form' hl1))
    go_roundw
    case rel=>exact ⟨k+1,u',A1,c1,lo++ [z],by omega,by go_num,rfl,rfl,hu1',hown1,hl1,zBh hlt hz1,by rw [zAH,hlk];simp only [sm,cG];exact zKh HQ.out HS.out,yG.grown (hB.alloc hB.size _) (yG.alloc hown _) hg1 (bR _) (qE hB.size _)⟩
    case measure=>simp [intOf];omega
   ·obtain rfl:k=N:=by omega
    have hkn: ¬k<n/\ ¬k<n':=by have:=HN.out;omega
    obtain ⟨hkn1,hkn2⟩:=hkn
    have heu:(u:Int) % 4294967296=u:=by omega
    have hkm:k<=137438953472:=by have:=HN.out;omega
    have hs1:lo.length+ [u].length<=17592186044416:=by simp;omega
    have hl1:(lo++ [u]).length=k+1:=by simp;omega
    have hl2:Lt (lo++ [u]):=zBh hlt (by unfold BB;omega)
    have hk1:k+1<=1099511627776:=by omega
    go_wp2_with (first|(at_builtin;refine zX rfl _ _ 23 73 rfl yJ yZ w.heap.size _ lo rfl (yG.alloc hown _) _ 1 1 [u] rfl (Rd.one _ u 73) hs1 (qE hB.size _) ?_;intro v1 w1 hown1 hg1 hat1;obtain ⟨A1,c1,rfl⟩:=hown1.form' hl1)|(go_at_call 54;refine (jL _ _ _ _ _ hown1.rd hl2 hk1).mono ?_;rintro e w2 ⟨A2,n2,c2,l2,rfl,hi2,hr2,hb2⟩))
    go_ret
    have e1:=zA5 (l:=l) (n:=k) (by have:=HN.out;omega)
    have e2:=zA5 (l:=l') (n:=k) (by have:=HN.out;omega)
    have hv:val (lo++ [u])=val l+val l':=by rw [zAH,hlk,HQ.out,e1,e2]
    rw [hv] at hi2
    have hB1:=yG.grown (hB.alloc hB.size _) (yG.alloc hown _) hg1 (bR _) (qE hB.size _)
    exact ⟨A2,n2,c2,l2,rfl,hi2,hr2,hB1.trans (hb2.mono hB1.size)⟩
def zTI (w:WM) (l l':List Nat) (N:Nat) (v o i:WN) (W:WM):Prop:=
 ∃(k u:Nat) (A:WP Addr) (c:Nat) (lo:List Nat),k<=N/\i= .int .i64 k/\o= .int .u64 u/\v= .slice A k c/\u<=1/\yG W w.heap.size 73 (.slice A k c) lo/\lo.length=k/\Lt lo/\
  sm (lm l) k+u*BB^k=val lo+sm (lm l') k/\Below w.heap.size w W
theorem zG6 (x y u:Nat) (hx:x<4294967296) (hy:y<4294967296) (hu:u<=1):
  ∃d z t u':Nat,(x:Int)+4294967296 - (y:Int) - (u:Int)=(d:Int)/\(d:Int) % 4294967296=(z:Int)/\(d:Int) / 4294967296=(t:Int)/\(1:Int) - (t:Int)=(u':Int)/\z<4294967296/\u'<=1/\d<=8589934591/\t<=1/\x+u'*4294967296=z+y+u:=by
 refine ⟨x+4294967296 - y - u,(x+4294967296 - y - u) % 4294967296,(x+4294967296 - y - u) / 4294967296,1 - (x+4294967296 - y - u) / 4294967296, ?_, ?_, ?_, ?_, ?_, ?_, ?_, ?_, ?_⟩<;>omega
theorem zGa (A:WP Addr) (n c:Nat) (l:List Nat) (A':WP Addr) (n' c':Nat) (l':List Nat) (w:WM) (h:Rd w A n c l) (h':Rd w A' n' c' l') (ht:Lt l) (ht':Lt l') (hge:val l'<=val l) (hn:n<=137438953472):
  Calls prog 88 #[.slice A n c, .slice A' n' c'] w fun e w'=> ∃A1 n1 c1 l1,e= .returned (.tuple #[.slice A1 n1 c1, .int .i64 0])/\Is l1 (val l - val l')/\Rd w' A1 n1 c1 l1/\Below w.heap.size w w':=by
 have hle:=h.le;have hcap:=h.cap;have hle':=h'.le;have hcap':=h'.cap
 have hcmp:decide (zAy (val l) (val l')<0)=false:=by
  unfold zAy
  rw [if_neg oE]
  split<;>simp
 have HN:Hid (l.length=n/\sm (lm l') n=val l'):=hid ⟨h.len,zH9 (cZ hge (by have:=qT ht;rwa [h.len] at this))⟩
 have HG:=hid hge
 clear hge
 go_enter func88,ntmps88
 go_wp2_with (go_at_call 87;refine (zEC A n c l A' n' c' l' _ h h' ht ht').mono ?_;rintro e w1 ⟨rfl,rfl⟩)
 go_loopw [6,7,8] (zTI w l l' n) (fun _ _ i _=>n - (intOf i).toNat)
 case atStart=>exact ⟨0,0,none,0, [],cJ _,rfl,rfl,rfl,by omega,wU _ _ _,rfl,zCi,by simp [sm],bT _ _⟩
 case round=>
  obtain ⟨k,u,Ao,co,lo,hk,rfl,rfl,rfl,hu1,hown,hlk,hlt,heq,hB⟩:=hrel
  have HQ:=hid heq
  clear heq
  have hr:=h.below hB;have hr':=h'.below hB
  have x1:=qM ht k;have x2:=qM ht' k
  simp only [BB] at x1 x2
  by_cases h0:k<n
  ·obtain ⟨d,z,t,u',hd,hz,htt,hu',hz1,hu1',hd1,ht1,hstep⟩:=zG6 (lm l k) (lm l' k) u x1 x2 hu1
   have HS:=hid hstep
   clear hstep
   have hs1:lo.length+ [z].length<=17592186044416:=by simp;omega
   have hl1:(lo++ [z]).length=k+1:=by simp;omega
   go_wp2_with (first|(go_at_call 114;first|((with_reducible refine (zAe A _ c l _ _ hr ht (cL k)).mono ?_);rintro e w1 ⟨rfl,rfl⟩)|((with_reducible refine (zAe A' _ c' l' _ _ hr' ht' (cL k)).mono ?_);rintro e w1 ⟨rfl,rfl⟩))|(at_builtin;refine zX rfl _ _ 23 73 rfl yJ yZ w.heap.size _ lo rfl (yG.alloc hown _) _ 1 1 [z] rfl (Rd.one _ z 73) hs1 (qE hB.size _) ?_;intro v1 w1 hown1 hg1 hat1;obtain ⟨A1,c1,rfl⟩:=hown1.form' hl1))
   go_roundw
   case rel=>exact ⟨k+1,u',A1,c1,lo++ [z],by omega,by go_num,rfl,rfl,hu1',hown1,hl1,zBh hlt hz1,by rw [zAH,hlk];simp only [sm,cG];exact zF3 HQ.out HS.out,yG.grown (hB.alloc hB.size _) (yG.alloc hown _) hg1 (bR _) (qE hB.size _)⟩
   case measure=>simp [intOf];omega
  ·obtain rfl:k=n:=by omega
   have hk1:k<=1099511627776:=by omega
   go_wp2_with (go_at_call 54;refine (jL _ _ _ _ _ hown.rd hlt hk1).mono ?_;rintro e w2 ⟨A2,n2,c2,l2,rfl,hi2,hr2,hb2⟩)
   go_ret2
   have e1:=zA5 (l:=l) (n:=k) (by have:=HN.out;omega)
   have e2:=HN.out.2
   have e3:=qT hlt
   have e4:=HQ.out
   have e5:=HG.out
   rw [hlk] at e3
   rw [e1,e2] at e4
   have hu0:u=0:=by
    rcases Nat.lt_or_ge 0 u with h0|h0
    ·have:u=1:=by omega
     subst this
     omega
    ·omega
   subst hu0
   have hv2:val lo=val l - val l':=by omega
   rw [hv2] at hi2
   exact ⟨A2,n2,c2,l2,rfl,hi2,hr2,hB.trans (hb2.mono hB.size)⟩
theorem zE0 (A:WP Addr) (n c:Nat) (l:List Nat) (A':WP Addr) (n' c':Nat) (l':List Nat) (w:WM) (h:Rd w A n c l) (h':Rd w A' n' c' l') (ht:Lt l) (ht':Lt l') (hlt:val l<val l'):
  Calls prog 88 #[.slice A n c, .slice A' n' c'] w fun e w'=>e= .returned (.tuple #[.slice none 0 0, .int .i64 10])/\w=w':=by
 have hcmp:decide (zAy (val l) (val l')<0)=true:=by rw [zGH hlt];rfl
 go_enter func88,ntmps88
 go_wp2_with (go_at_call 87;refine (zEC A n c l A' n' c' l' _ h h' ht ht').mono ?_;rintro e w1 ⟨rfl,rfl⟩)
 go_ret2
 exact ⟨rfl,rfl⟩
def LIM:Nat:=68719476736
def zU5 (w:WM) (ls:List (List Nat)) (n:Nat) (v i:WN) (W:WM):Prop:=
 ∃(k:Nat) (A:WP Addr) (m c:Nat) (lo:List Nat),k<=n/\i= .int .i64 k/\v= .slice A m c/\Rd W A m c lo/\Lt lo/\val lo=zEV ls k/\m<=68719476736+k/\Below w.heap.size w W
theorem zNL {ls:List (List Nat)} {n b:Nat} (h: ∀l,l∈ls->val l<b) (hn:n<=ls.length):zEV ls n<=n*b:=by
 induction n with
 |zero=>rw [zD0];omega
 |succ n ih=>
  have hl:ls[n]?=some ls[n]:=eE oE
  rw [zD1 hl,Nat.add_mul]
  have:=h _ (List.getElem_mem (l:=ls) (n:=n) oE)
  have:=ih oE
  omega
theorem zED (A:WP Addr) (n c:Nat) (ls:List (List Nat)) (w:WM) (h:Rds w A n ls) (hn:n<=1000):
  Calls prog 84 #[.slice A n c] w (jH w (ls.map val).sum):=by
 have HL:Hid (ls.length=n):=hid h.len
 have HT:Hid (∀l,l∈ls->val l<BB^LIM):=hid fun l hl=>by
  obtain ⟨i,hi,rfl⟩:=List.getElem_of_mem hl
  obtain ⟨b,o,Ai,ni,ci,li,_,_,h1,h2,h3,h4⟩:=h.cells i (by rw [<-h.len];exact hi)
  rw [eE hi] at h1
  injection h1 with h1
  rw [h1]
  exact cH (qT h3) (cM y4 (by rw [h2.len];exact h4))
 go_enter func84,ntmps84
 go_wp2
 go_loopw [3,4] (zU5 w ls n) (fun _ i _=>n - (intOf i).toNat)
 case atStart=>exact ⟨0,none,0,0, [],cJ _,rfl,rfl,wL _,zCi,by rw [zD0];rfl,by omega,bT _ _⟩
 case round=>
  obtain ⟨k,Ao,m,co,lo,hk,rfl,rfl,hr,hlt,hv,hm,hB⟩:=hrel
  have HV:=hid hv
  clear hv
  by_cases h0:k<n
  ·obtain ⟨b,o,Ai,ni,ci,la,rfl,hcell,hla,hra,hta,hni⟩:=h.cells k h0
   have hcW:=(hB.cell (p:=⟨b,o+k,none⟩) (z7 hcell)).trans hcell
   have hra1:=hra.below hB
   have HA:=hid hla
   clear hla
   have hm1:m<=137438953472:=by omega
   have hni1:ni<=137438953472:=by omega
   go_wp2_with (go_at_call 112;refine (zQo Ao m co lo Ai ni ci la _ hr hra1 hlt hta hm1 hni1).mono ?_;rintro e w2 ⟨A2,n2,c2,l2,rfl,hi2,hr2,hb2⟩)
   have hsum:val lo+val la=zEV ls (k+1):=by rw [zD1 HA.out,HV.out]
   have hlen:n2<=68719476736+(k+1):=by
    rw [<-hr2.len]
    refine hi2.len ?_
    rw [hsum]
    have h1:=zNL HT.out (show k+1<=ls.length by rw [HL.out];omega)
    have h2:k+1<BB^(k+1):=Nat.lt_pow_self (by decide)
    rw [show 68719476736+(k+1)=LIM+(k+1) from rfl,Nat.pow_add,eB (BB^LIM)]
    exact cZ h1 ((Nat.mul_lt_mul_right (zB1 _)).2 h2)
   go_roundw
   case rel=>exact ⟨k+1,A2,n2,c2,l2,by omega,by go_num,rfl,hr2,hi2.lt,by rw [hi2.val,hsum],hlen,hB.trans (hb2.mono hB.size)⟩
   case measure=>simp [intOf];omega
  ·obtain rfl:k=n:=by omega
   have hm1:m<=1099511627776:=by omega
   go_wp2_with (go_at_call 54;refine (jL _ _ _ _ _ hr hlt hm1).mono ?_;rintro e w2 ⟨A2,n2,c2,l2,rfl,hi2,hr2,hb2⟩)
   go_ret
   rw [HV.out,zGU HL.out] at hi2
   exact ⟨A2,n2,c2,l2,rfl,hi2,hr2,hB.trans (hb2.mono hB.size)⟩
def zRR (l:List Nat) (n:Nat) (v i:WN):Prop:= ∃k x:Nat,k<=n/\i= .int .i64 ((k:Int) - 1)/\v= .int .u64 x/\x=val (l.drop k)
theorem zKp (A:WP Addr) (n c:Nat) (l:List Nat) (w:WM) (h:Rd w A n c l) (ht:Lt l) (hl:n<=1099511627776):
  Calls prog 55 #[.slice A n c] w fun e w'=>e= .returned (.tuple #[.int .u64 (zP (val l):Nat), .bool (y5 (val l))])/\Below w.heap.size w w':=by
 go_enter func55,ntmps55
 go_wp2_with (go_at_call 54;refine (jL _ _ _ _ _ h ht hl).mono ?_;rintro e w2 ⟨A2,n2,c2,l2,rfl,hi2,hr2,hb2⟩)
 ·have h2:(2:Int)<n2:=by assumption
  go_ret2
  have hlen:=hr2.len
  have hne:l2≠ []:=by intro e;subst e;simp at hlen;omega
  have h3:=zGS hi2.tr hne
  have h4:BB^2<=BB^(l2.length - 1):=cM y4 oE
  have h5:BB^2=18446744073709551616:=by decide
  rw [hi2.val] at h3
  refine ⟨?_,hb2⟩
  rw [show zP (val l)=0 from if_neg oE,show y5 (val l)=false from bV oE]
  rfl
 ·have h2:(n2:Int)<=2:=by assumption
  have hlen:=hid hr2.len
  have hle:=hr2.le;have hcap:=hr2.cap
  go_loop [5,6] (zRR l2 n2) (fun _ x=>(intOf x+1).toNat)
  case atStart=>exact ⟨n2,0,bR _,rfl,rfl,by rw [<-hlen.out,List.drop_length];rfl⟩
  case round=>
   obtain ⟨k,x,hk,rfl,rfl,hx⟩:=hrel
   have HX:=hid hx
   clear hx
   by_cases h0:0<k
   ·obtain ⟨b,o,rfl,hc⟩:=hr2.cells (k - 1) oE
    have e1:((k:Int) - 1).toNat=k - 1:=by omega
    have x1:=qM hi2.lt (k - 1)
    have x2:x<BB^1:=by
     rw [HX.out]
     exact cH (zIa hi2.lt k) (cM y4 (by rw [hlen.out];omega))
    simp only [BB,Nat.pow_one] at x1 x2
    go_wp2
    go_round
    case rel=>exact ⟨k - 1,x*4294967296+lm l2 (k - 1),by omega,by congr 1;omega,by congr 1,by
     have hd:=zBm (l:=l2) (k:=k - 1) (by rw [hlen.out];omega)
     rw [show k - 1+1=k from by omega, <-HX.out] at hd
     rw [hd,eB BB]
     simp only [BB]
     omega⟩
    case measure=>simp [intOf];omega
   ·obtain rfl:k=0:=by omega
    go_wp2
    go_ret2
    have h5:=qT hi2.lt
    have h4:BB^l2.length<=BB^2:=cM y4 (by rw [hlen.out];omega)
    have h6:BB^2=18446744073709551616:=by decide
    have h7:=HX.out
    rw [List.drop_zero,hi2.val] at h7
    rw [hi2.val] at h5
    refine ⟨?_,hb2⟩
    rw [show zP (val l)=val l from if_pos oE,show y5 (val l)=true from bU oE, <-h7]
    rfl
theorem zFx (A:WP Addr) (n c k:Nat) (hk:k<=n) (w:WM):
  (Instr.slice 23 (.slice A n c) (some (.int .i64 (k:Int))) none none).run prog w= .ok (.slice (if c=k then A else A.map (·.add k)) (n - k) (c - k)) w:=by
 obtain ⟨i,hi,hz,hs,hb⟩:=info_parts yZ
 simp [Instr.slice,Instr.sliceBounds,run_underlying yJ,sizeOf,typeInfo,hi,hs,go_sem]
 omega
end Go.Proofs.Wd

namespace Go.Proofs.Wd
open Tryz
set_option maxHeartbeats 400000
open Go.RowKit Lb
theorem zOk (k:Nat) (hk2:k<=9223372036854775807) (w:WM):
  Calls prog 27 #[.int .i64 k] w (qS w k):=by
 have hk0:(0:Int)<=k:=cL k
 go_enter func27,ntmps27
 go_wp2_with (go_at_call 53;refine (zIk k oE _).mono ?_;rintro e w1 ⟨A2,n2,c2,l2,rfl,hi2,hr2,hb⟩;have hq:=zKq hb (b:=w.heap.size) rfl;obtain ⟨⟨q0,q1⟩,q2,q3⟩:=hq.facts2)
 obtain ⟨⟨c0,c1⟩,_,_⟩:=((hq.set 0 (.bool (decide ((k:Int)<0)))).set 1 (.slice A2 n2 c2)).facts2
 rw [show (Value.bool false)= .bool (decide ((k:Int)<0)) from by rw [bV oE]] at*
 refine bZ (v:= .agg #[.bool (decide ((k:Int)<0)), .slice A2 n2 c2]) (by simp [results,results27,go_sem,c0,c1]) rfl ?_
 exact zG9 hq (((bT _ w).alloc (bR _) _).trans (hb.mono (by simp))) (by simp) hi2 hr2
theorem zOl (k:Nat) (hk0:0<k) (hk2:k<=9223372036854775808) (w:WM):
  Calls prog 27 #[.int .i64 (-(k:Int))] w (qS w (-(k:Int))):=by
 have hk1:(-(k:Int))<0:=by omega
 have hww: -(-(k:Int)+1)+1=(k:Int):=by omega
 have hw1:=IntWalk.u64_in (k:Int) oE
 have hw2:=IntWalk.u64_in (-(-(k:Int)+1)) oE
 have hw3:=IntWalk.i64_in (-(-(k:Int)+1)) oE
 have hw4:=IntWalk.i64_in (-(k:Int)+1) oE
 go_enter func27,ntmps27
 go_wp2_with (go_at_call 53;refine (zIk k oE _).mono ?_;rintro e w1 ⟨A2,n2,c2,l2,rfl,hi2,hr2,hb⟩;have hq:=zKq hb (b:=w.heap.size) rfl;obtain ⟨⟨q0,q1⟩,q2,q3⟩:=hq.facts2)
 obtain ⟨⟨c0,c1⟩,_,_⟩:=((hq.set 0 (.bool true)).set 1 (.slice A2 n2 c2)).facts2
 refine bZ (v:= .agg #[.bool true, .slice A2 n2 c2]) (by simp [results,results27,go_sem,c0,c1]) rfl ?_
 have e1:decide (-(k:Int)<0)=true:=bU hk1
 have:=zG9 (v:= -(k:Int)) hq (((bT _ w).alloc (bR _) _).trans (hb.mono (by simp))) (by simp) (by simpa using hi2) hr2
 rw [e1] at this
 exact this
theorem zJt (k:Int) (hk: -9223372036854775808<=k) (hk2:k<=9223372036854775807) (w:WM):
  Calls prog 27 #[.int .i64 k] w (qS w k):=by
 rcases (by omega:0<=k∨k<0) with h|h
 ·obtain ⟨m,rfl⟩:=cX h
  exact zOk m oE w
 ·obtain ⟨m,hm⟩:=cX (show 0<=-k by omega)
  obtain rfl:k= -(m:Int):=by omega
  exact zOl m oE oE w
theorem zAq (s:Bool) (A:WP Addr) (n c:Nat) (l:List Nat) (w:WM) (h:Rd w A n c l) (ht:Lt l) (hl:n<=1099511627776):
    Calls prog 30 #[.agg #[.bool s, .slice A n c]] w (qS w (iv s l)):=by
  go_enter func30,ntmps30
  go_wp2_with (go_at_call 54;refine (jL A n c l _ ((h.alloc _).alloc _) ht hl).mono ?_;rintro e w1 ⟨A2,n2,c2,l2,rfl,hi2,hr2,hb⟩;have hq:=zKq hb (b:=w.heap.size+1) (by simp);obtain ⟨⟨q0,q1⟩,q2,q3⟩:=hq.facts2;have hp:=((q7.new w 25 #[.bool s, .slice A n c]).alloc (.cells #[.bool false, .slice none 0 0] 25)).kept hb;obtain ⟨⟨p0,p1⟩,p2,p3⟩:=hp.facts2)
  all_goals
    have hle:=hr2.len;have hz:=hi2.zero_iff
    have hb1:Below w.heap.size w w1:=(((bT _ w).alloc (bR _) _).alloc (by simp) _).trans (hb.mono (by simp;omega))
    have fin: ∀x:Bool,x=decide (iv s l<0)->q7 ((w1.setCell ⟨w.heap.size+1,0,none⟩ (.bool x)).setCell ⟨w.heap.size+1,1,none⟩ (.slice A2 n2 c2)) (w.heap.size+1) 25 #[.bool x, .slice A2 n2 c2]/\qS w (iv s l) (.returned (.agg #[.bool x, .slice A2 n2 c2])) ((w1.setCell ⟨w.heap.size+1,0,none⟩ (.bool x)).setCell ⟨w.heap.size+1,1,none⟩ (.slice A2 n2 c2)):=by
      rintro x rfl
      exact ⟨(hq.set 0 _).set 1 _,zG9 hq hb1 (by simp) (by rw [zJR];exact hi2) hr2⟩
    first
      | (obtain ⟨hbx,hret⟩:=fin false (by rw [<-zMI];simp_all)
         obtain ⟨⟨c0,c1⟩,_,_⟩:=hbx.facts2
         refine bZ (v:= .agg #[.bool false, .slice A2 n2 c2]) (by simp [results,results30,go_sem,c0,c1]) rfl hret)
      | (have hd:decide (0<n2)=(s&& !(val l==0)):=by
           by_cases e:n2=0
           . rw [hz.2 oE,e];simp
           . rw [bU oE,cK.2 (fun h=>e (by have:=hz.1 h;omega))];simp_all
         obtain ⟨hbx,hret⟩:=fin (decide (0<n2)) (by rw [<-zMI];exact hd)
         obtain ⟨⟨c0,c1⟩,_,_⟩:=hbx.facts2
         refine bZ (v:= .agg #[.bool (decide (0<n2)), .slice A2 n2 c2]) (by simp [results,results30,go_sem,c0,c1]) rfl hret)
      |go_show
attribute [local go_sem] Oper.semAt_some qF yI
end Go.Proofs.Wd
