/- Walks of package nat: Sub, Add; The walk of nat.Add; Walks of package  and what it needs. -/
import Derived.Test.YthjkmdblifmkoaaGreatDoorMCQ5
import Derived.Deep.DeepMust
import Derived.Test.YthjkmdblifmkoaaGreatDoorMCQ3
theorem kA {P:Prop} (h:P:=by kernel_rfl):P:=h
theorem oE {P:Prop} (h:P:=by omega):P:=h
theorem fD {α β:Sort _} {γ:α->β->Sort _} {p:(a:α)->(b:β)->γ a b->Prop} (a:α) (b:β) (c:γ a b) (h:p a b c):p a b c:=h
theorem fE {P:Prop} (h:P:=by simp):P:=h
abbrev bH:=@Nat.le_refl
abbrev bI:=@Go.RowKit.Below.refl
abbrev bJ:=@Nat.le_trans
abbrev bK:=@decide_eq_true
abbrev bL:=@decide_eq_false
abbrev bN:=@Go.World.size_alloc
abbrev bO:=@Go.Boxed.new
abbrev bP:=@Go.KeepsOthers.setCell
abbrev bQ:=@Go.bodyPost_ret
abbrev bR:=@Go.Oper.semAt_some
abbrev bT:=@Nat.pow_succ
abbrev bU:=@Nat.lt_of_lt_of_le
abbrev bV:=@Go.CallsIn.mono
abbrev bW:=@Go.callsIn_wide
abbrev bX:=@List.nil_append
abbrev bY:=@Nat.zero_le
abbrev bZ:=@beq_eq_false_iff_ne
abbrev cB:=@Int.natCast_nonneg
abbrev cC:=@Nat.pow_le_pow_right
abbrev cD:=@List.size_toArray
abbrev cE:=@List.length_cons
abbrev cF:=@List.length_nil
abbrev cG:=@Array.replicate_succ
abbrev cH:=@Array.replicate_zero
abbrev cI:=@List.push_toArray
abbrev cJ:=@List.append_toArray
abbrev cK:=@List.cons_append
abbrev cL:=@Bool.false_eq_true
abbrev cM:=@if_false
abbrev cN:=@Int.eq_ofNat_of_zero_le
abbrev cO:=@Go.wpIn_wide
abbrev cP:=@Nat.lt_of_le_of_lt
abbrev cQ:=@Nat.mul_comm
abbrev cR:=@Array.getElem?_eq_some_iff
abbrev cS:=@Decidable.byContradiction
abbrev cT:=@List.getElem?_eq_getElem
abbrev WN:=Go.World
abbrev WO:=Go.Value
abbrev WP:=Go.TypeId
abbrev WQ:=Option
namespace Go.Proofs.Wd
open Tryz
set_option maxRecDepth 100000
set_option maxHeartbeats 1000000
open Go.RowKit Lb
theorem hmix:prog.follows .mixedOrders=true:=by kernel_rfl
theorem zVf:Enters prog 6:=enters_of func6 kA rfl
theorem zVe:Enters prog 7:=enters_of func7 kA rfl
theorem zTQ:Enters prog 8:=enters_of func8 kA rfl
theorem zPn:Enters prog 9:=enters_of func9 kA rfl
theorem zEa:Enters prog 10:=enters_of func10 kA rfl
theorem zSN:Enters prog 11:=enters_of func11 kA rfl
theorem zQ9:Enters prog 12:=enters_of func12 kA rfl
theorem zQ8:Enters prog 13:=enters_of func13 kA rfl
theorem zMm:Enters prog 14:=enters_of func14 kA rfl
theorem zQ7:Enters prog 15:=enters_of func15 kA rfl
theorem zQ6:Enters prog 16:=enters_of func16 kA rfl
theorem zUf:Enters prog 17:=enters_of func17 kA rfl
theorem zQ5:Enters prog 18:=enters_of func18 kA rfl
theorem zUe:Enters prog 19:=enters_of func19 kA rfl
theorem zSB:Enters prog 21:=enters_of func21 kA rfl
theorem zQ4:Enters prog 22:=enters_of func22 kA rfl
theorem zUd:Enters prog 23:=enters_of func23 kA rfl
theorem zOq:Enters prog 24:=enters_of func24 kA rfl
theorem zSA:Enters prog 25:=enters_of func25 kA rfl
theorem zIm:Enters prog 26:=enters_of func26 kA rfl
theorem zUc:Enters prog 27:=enters_of func27 kA rfl
theorem zJ4:Enters prog 28:=enters_of func28 kA rfl
theorem zOp:Enters prog 29:=enters_of func29 kA rfl
theorem zUb:Enters prog 30:=enters_of func30 kA rfl
theorem zQ3:Enters prog 31:=enters_of func31 kA rfl
theorem zJ3:Enters prog 32:=enters_of func32 kA rfl
theorem zSz:Enters prog 33:=enters_of func33 kA rfl
theorem zSy:Enters prog 34:=enters_of func34 kA rfl
theorem zUa:Enters prog 35:=enters_of func35 kA rfl
theorem zT9:Enters prog 36:=enters_of func36 kA rfl
theorem zT8:Enters prog 37:=enters_of func37 kA rfl
theorem zQ2:Enters prog 38:=enters_of func38 kA rfl
theorem zHo:Enters prog 39:=enters_of func39 kA rfl
theorem zOo:Enters prog 40:=enters_of func40 kA rfl
theorem zT7:Enters prog 41:=enters_of func41 kA rfl
theorem zT6:Enters prog 42:=enters_of func42 kA rfl
theorem zT5:Enters prog 43:=enters_of func43 kA rfl
theorem zOn:Enters prog 44:=enters_of func44 kA rfl
theorem zOm:Enters prog 45:=enters_of func45 kA rfl
theorem zT4:Enters prog 46:=enters_of func46 kA rfl
theorem zSx:Enters prog 48:=enters_of func48 kA rfl
theorem zQ1:Enters prog 49:=enters_of func49 kA rfl
theorem zOl:Enters prog 50:=enters_of func50 kA rfl
theorem zT3:Enters prog 51:=enters_of func51 kA rfl
theorem zT2:Enters prog 52:=enters_of func52 kA rfl
theorem zQ0:Enters prog 53:=enters_of func53 kA rfl
theorem zSw:Enters prog 54:=enters_of func54 kA rfl
theorem zT1:Enters prog 55:=enters_of func55 kA rfl
theorem zT0:Enters prog 56:=enters_of func56 kA rfl
theorem zTZ:Enters prog 57:=enters_of func57 kA rfl
theorem zTY:Enters prog 58:=enters_of func58 kA rfl
theorem zOk:Enters prog 59:=enters_of func59 kA rfl
theorem zQZ:Enters prog 60:=enters_of func60 kA rfl
theorem zTX:Enters prog 61:=enters_of func61 kA rfl
theorem zQY:Enters prog 62:=enters_of func62 kA rfl
theorem zMl:Enters prog 63:=enters_of func63 kA rfl
theorem zTW:Enters prog 65:=enters_of func65 kA rfl
theorem zTV:Enters prog 66:=enters_of func66 kA rfl
theorem zMk:Enters prog 67:=enters_of func67 kA rfl
theorem zQX:Enters prog 68:=enters_of func68 kA rfl
theorem zQW:Enters prog 69:=enters_of func69 kA rfl
theorem zTU:Enters prog 70:=enters_of func70 kA rfl
theorem zGp:Enters prog 71:=enters_of func71 kA rfl
theorem zTT:Enters prog 72:=enters_of func72 kA rfl
theorem zSv:Enters prog 76:=enters_of func76 kA rfl
theorem zTS:Enters prog 77:=enters_of func77 kA rfl
theorem zTR:Enters prog 78:=enters_of func78 kA rfl
theorem zSu:Enters prog 79:=enters_of func79 kA rfl
theorem zTP:Enters prog 81:=enters_of func81 kA rfl
theorem zTO:Enters prog 82:=enters_of func82 kA rfl
theorem zTN:Enters prog 84:=enters_of func84 kA rfl
theorem zTM:Enters prog 85:=enters_of func85 kA rfl
theorem zSt:Enters prog 86:=enters_of func86 kA rfl
theorem zTL:Enters prog 87:=enters_of func87 kA rfl
theorem zSs:Enters prog 90:=enters_of func90 kA rfl
theorem zJ2:Enters prog 91:=enters_of func91 kA rfl
theorem zTK:Enters prog 92:=enters_of func92 kA rfl
theorem zTJ:Enters prog 93:=enters_of func93 kA rfl
theorem zTI:Enters prog 94:=enters_of func94 kA rfl
theorem zJ1:Enters prog 95:=enters_of func95 kA rfl
theorem zQV:Enters prog 96:=enters_of func96 kA rfl
theorem zTH:Enters prog 97:=enters_of func97 kA rfl
theorem zOj:Enters prog 98:=enters_of func98 kA rfl
theorem zSQ:Enters prog 100:=enters_of func100 kA rfl
theorem zHp:Enters prog 101:=enters_of func101 kA rfl
theorem zSP:Enters prog 108:=enters_of func108 kA rfl
theorem zSO:Enters prog 109:=enters_of func109 kA rfl
theorem zSM:Enters prog 110:=enters_of func110 kA rfl
theorem zSL:Enters prog 111:=enters_of func111 kA rfl
theorem zSK:Enters prog 112:=enters_of func112 kA rfl
theorem zPp:Enters prog 113:=enters_of func113 kA rfl
theorem zSJ:Enters prog 115:=enters_of func115 kA rfl
theorem zMn:Enters prog 120:=enters_of func120 kA rfl
theorem zSI:Enters prog 121:=enters_of func121 kA rfl
theorem zSH:Enters prog 122:=enters_of func122 kA rfl
theorem zJi:Enters prog 123:=enters_of func123 kA rfl
theorem zPo:Enters prog 124:=enters_of func124 kA rfl
theorem zSG:Enters prog 127:=enters_of func127 kA rfl
theorem zSF:Enters prog 131:=enters_of func131 kA rfl
theorem zSE:Enters prog 133:=enters_of func133 kA rfl
theorem zSD:Enters prog 135:=enters_of func135 kA rfl
theorem zSC:Enters prog 145:=enters_of func145 kA rfl
attribute [local go_sem] Oper.semAt_some qF yF
def zUS (w:WN) (l l':List Nat) (k:Nat) (W:WN):Prop:=
 ∃v lo, ∃u:Nat,Boxed W w.heap.size 25 v/\yA W (w.heap.size+4) 62 v lo/\lo.length=k/\Lt lo/\Boxed W (w.heap.size+1) 91 (.int .u64 u)/\u<=1/\
  sm (lm l) k+u*BB^k=val lo+sm (lm l') k/\Below w.heap.size w W/\w.heap.size+4<=W.heap.size
theorem zIB (w:WN) (l l':List Nat) {C:Nat} (hC:w.heap.size<=C):OwnFrom C (zUS w l l'):=by
 rintro k W W' row ⟨v,lo,u,hv,hown,hlk,hlt,hu,hu1,heq,hB,h4⟩ hg hr
 exact ⟨v,lo,u,qQ hv hg hr,zG4 hown hg hr,hlk,hlt,qQ hu hg hr,hu1,heq,zAo hB hg (bH _) hC hr,bJ h4 hg.size⟩
theorem zNc (x y u:Nat) (hx:x<4294967296) (hy:y<4294967296) (hu:u<=1):
  ∃d z u':Nat,IntKind.u64.wrap (IntKind.u64.wrap ((x:Int) - (y:Int)) - (u:Int))=(d:Int)/\(d:Int) % 4294967296=(z:Int)/\(d:Int) / 9223372036854775808=(u':Int)/\z<4294967296/\u'<=1/\x+u'*4294967296=z+y+u:=by
 have e:IntKind.u64.wrap (IntKind.u64.wrap ((x:Int) - (y:Int)) - (u:Int))=((x:Int) - y - u) % 18446744073709551616:=by
  rw [IntKind.wrap_u64,IntKind.wrap_u64];omega
 by_cases h:y+u<=x
 ·exact ⟨x - y - u,x - y - u,0,by rw [e];omega,by omega,by omega,by omega,by omega,by omega⟩
 ·exact ⟨18446744073709551616+x - y - u,4294967296+x - y - u,1,by rw [e];omega,by omega,by omega,by omega,by omega,by omega⟩
theorem zHI (A:WQ Addr) (n c:Nat) (l:List Nat) (A':WQ Addr) (n' c':Nat) (l':List Nat) (w:WN) (h:Rd w A n c l) (h':Rd w A' n' c' l') (ht:Lt l) (ht':Lt l') (hge:val l'<=val l) (hn:n<=1099511627776) (hn':n'<=1099511627776):
  Calls prog 140 #[.slice A n c, .slice A' n' c'] w fun e w'=> ∃A1 n1 c1 l1,e= .returned (.tuple #[.slice A1 n1 c1, .int .i64 0])/\Is l1 (val l - val l')/\Rd w' A1 n1 c1 l1/\Below w.heap.size w w':=by
 have hle:=h.le;have hcap:=h.cap;have hle':=h'.le;have hcap':=h'.cap
 have hcmp:decide (zAB (val l) (val l')<0)=false:=by
  unfold zAB
  rw [if_neg oE]
  split<;>simp
 obtain ⟨N,hmx,hN⟩: ∃N,((n<n'/\n'=N)∨(¬n<n'/\n=N))/\n<=N/\n'<=N/\N<=1099511627776:=by
  by_cases hh:n<n'
  ·exact ⟨n', .inl ⟨hh,rfl⟩,by omega⟩
  ·exact ⟨n, .inr ⟨hh,rfl⟩,by omega⟩
 refine qZ func140 rfl ?_
 simp only [ntmps140,cD,cE,cF,Nat.reduceAdd,Nat.reduceSub,cG,cH,cI,cJ,bX,cK]
 go_wp2_with (first|(go_at_call 147;refine (zE7 A n c l A' n' c' l' _ h h' ht ht').mono ?_;rintro e w1 ⟨rfl,rfl⟩)|(go_at_call 141;refine (zER A n c A' n' c' _).mono ?_;rintro e w1 ⟨rfl,rfl⟩))
 obtain ⟨W0,hW0⟩: ∃W0,((((w.alloc (.cells #[.slice none 0 0] 25)).alloc (.cells #[.int .u64 0] 91)).alloc (.cells #[.slice A n c] 25)).alloc (.cells #[.slice A' n' c'] 25))=W0:=⟨_,rfl⟩
 have hsz:W0.heap.size=w.heap.size+4:=by rw [<-hW0];simp
 have hB0:Below w.heap.size w W0:=by rw [<-hW0];exact ((((bI _ w).alloc (bH _) _).alloc fE _).alloc (by simp;omega) _).alloc (by simp;omega) _
 have bx0:Boxed W0 w.heap.size 25 (.slice none 0 0):=by rw [<-hW0];exact (((bO w _ _).alloc _).alloc _).alloc _
 have bx1:Boxed W0 (w.heap.size+1) 91 (.int .u64 0):=by
  rw [<-hW0];have:=bO (w.alloc (.cells #[.slice none 0 0] 25)) 91 (.int .u64 0);rw [bN] at this;exact (this.alloc _).alloc _
 have bx2:Boxed W0 (w.heap.size+1+1) 25 (.slice A n c):=by
  rw [<-hW0];have:=bO ((w.alloc (.cells #[.slice none 0 0] 25)).alloc (.cells #[.int .u64 0] 91)) 25 (.slice A n c);rw [bN,bN] at this;exact this.alloc _
 have bx3:Boxed W0 (w.heap.size+1+1+1) 25 (.slice A' n' c'):=by
  rw [<-hW0];have:=bO (((w.alloc (.cells #[.slice none 0 0] 25)).alloc (.cells #[.int .u64 0] 91)).alloc (.cells #[.slice A n c] 25)) 25 (.slice A' n' c');rw [bN,bN,bN] at this;exact this
 rw [hW0]
 clear hW0
 refine zC5 (gf:=148) rfl (enters_of func148 kA rfl) (zCV A n c l A' n' c' l' (w.heap.size+1+1) (w.heap.size+1+1+1) N W0 (h.below hB0) (h'.below hB0) ht ht' bx2.cell bx3.cell hmx (S:=fun b=>b<w.heap.size∨b=w.heap.size+2∨b=w.heap.size+3) (fun b hb=>by omega) (.inr (.inl rfl)) (.inr (.inr rfl)) (fun b o hn e=> .inl (h.in_ b o hn e)) (fun b o hn e=> .inl (h'.in_ b o hn e))) (fun _=>rfl) y5.trans (zCZ (fun b hb=>by omega))
  (zUS w l l') ?hI ?hF wO (fun _ _ _ _ _ _ _ _=>trivial) ?h0
  (fun k=>{ tmps:=#[.slice A n c, .slice A' n' c',undef,undef, .slice none 0 0, .int .i64 0, .pointer (some ⟨w.heap.size,0,none⟩), .pointer (some ⟨w.heap.size+1,0,none⟩), .int .u64 (lm l k:Nat), .int .u64 (lm l' k:Nat),undef, .slice A n c, .slice A' n' c', .int .i64 (zAB (val l) (val l')), .bool false, .slice A n c, .slice A' n' c', .func (.func 148) #[] #[.pointer (some ⟨w.heap.size+1+1,0,none⟩), .pointer (some ⟨w.heap.size+1+1+1,0,none⟩)], .int .u64 (lm l k:Nat), .int .u64 (lm l' k:Nat),undef,undef,undef,undef,undef,undef,undef,undef,undef,undef,undef,undef,undef,undef],defers:= [] }) ?assign ?body ?done
 case hI=>exact zIB w l l' oE
 case hF=>exact zBv (zIB w l l' (bH _))
 case h0=>exact ⟨_, [],0,bx0,wT _ _ _,rfl,zBE,bx1,by omega,by simp [sm],hB0,by omega⟩
 case assign=>
  intro lp k W K hK
  gi_wp2
  exact hK
 case body=>
  rintro lp k W hk ⟨v,lo,u,hv,hown,hlk,hlt,hu,hu1,heq,hB,hW4⟩
  have hcv:=hv.cell;have hfv:=hv.frozen;have hcu:=hu.cell;have hfu:=hu.frozen
  have x1:=qJ ht k;have x2:=qJ ht' k
  simp only [BB] at x1 x2
  obtain ⟨d,z,u',hd,hz,hu',hz1,hu1',hstep⟩:=zNc (lm l k) (lm l' k) u x1 x2 hu1
  have HS:=hid hstep
  have hl1:(lo++ [z]).length=k+1:=by simp;omega
  have hsW:w.heap.size+4<=W.heap.size:=hW4
  have hSS: ∀b,(b<w.heap.size∨b=w.heap.size+2∨b=w.heap.size+3)->b<W.heap.size/\some b≠v.ownBlock:=fun b hb=>⟨by omega,hown.not_in oE⟩
  have hSo: ¬(w.heap.size<w.heap.size∨w.heap.size=w.heap.size+2∨w.heap.size=w.heap.size+3):=by omega
  have hte:25≠62:=by decide
  have hte':91≠62:=by decide
  have hs1:lo.length+ [z].length<=17592186044416:=by simp;omega
  clear hstep
  gi_wp2_with (gi_at_builtin;go_must (refine zAS rfl _ _ 25 62 rfl z7 yT (w.heap.size+4) v lo rfl (yA.alloc hown _) _ 1 1 [z] rfl (Rd.one _ z 62) hs1 (y6 hsW _) ?_;intro v1 w1 hown1 hg1 hat1;obtain ⟨A1,c1,rfl⟩:=hown1.form' hl1;obtain ⟨hv1,hv2,hr2,hk2,hb2⟩:=zGt hte hv hown hB.size (bH _) (Nat.le_add_right _ 4) hown1 hg1;have hk3:=zIg (v':= .slice A1 (k+1) c1) hg1 hSS hSo;have hc1:=hv1.cell;have hf1:=hv1.frozen;have hu2:=zEz hte' hu hown hg1;have hc2:=hu2.cell;have hf2:=hu2.frozen))
  have hu3:=hu2.other (Nat.succ_ne_self w.heap.size) (.slice A1 (k+1) c1)
  refine ⟨(hk2.trans (bP _ _ _)).from _,hk3.setCell (p:=⟨w.heap.size+1,0,none⟩) fE _,_,lo++ [z],u',hv2.other oE _,hr2.other hu3 hte' _,hl1,zA6 hlt hz1,hu3.set _,hu1', ?_,(hB.trans hb2).setCell (p:=⟨w.heap.size+1,0,none⟩) fE _, ?_⟩
  ·rw [zAg,hlk]
   simp only [sm,bT]
   exact zFM heq HS.out
  ·exact bJ hW4 ((hb2.setCell (p:=⟨w.heap.size+1,0,none⟩) fE _).size)
 case done=>
  rintro D W hD ⟨v,lo,u,hv,hown,hlk,hlt,hu,hu1,heq,hB,hW4⟩ _ hd
  obtain ⟨A1,c1,rfl⟩:=hown.form' hlk
  have hcv:=hv.cell;have hfv:=hv.frozen
  go_wp2_with (go_at_call 113;refine (qX _ _ _ _ _ hown.rd hlt oE).mono ?_;rintro e w1 ⟨A2,n2,c2,l2,rfl,hi2,hr2,hb2⟩)
  have hd1:w1.heap[D]?=some (.deferred (some [])):=(hb2.block D (cR.1 hd).1).trans hd
  have e1:=zAM (l:=l) (n:=N) (by rw [h.len];omega)
  have e2:=zAM (l:=l') (n:=N) (by rw [h'.len];omega)
  have e3:=qS hlt
  rw [hlk] at e3
  rw [e1,e2] at heq
  have hu0:u=0:=by
   rcases Nat.lt_or_ge 0 u with h0|h0
   ·have:u=1:=by omega
    subst this
    omega
   ·omega
  subst hu0
  have hv2:val lo=val l - val l':=by omega
  rw [hv2] at hi2
  refine ⟨by simp, .inl ⟨_,_,rfl,run_takeDeferred hd1, ?_⟩⟩
  exact ⟨_,results_tmp2 rfl _ _ _,A2,n2,c2,l2,rfl,hi2,hr2.other _ hd1 rfl,zIp (hB.trans (hb2.mono hB.size)) _ (bJ hB.size hb2.size) oE⟩
end Go.Proofs.Wd

namespace Go.Proofs.Wd
open Tryz
set_option maxRecDepth 100000
set_option maxHeartbeats 2000000
open Go.RowKit Lb
attribute [local go_sem] Oper.semAt_some qF yF
def zEG (ls:List (List Nat)) (k:Nat):Nat:=((ls.take k).map val).sum
theorem zDG (ls:List (List Nat)):zEG ls 0=0:=by simp [zEG]
theorem zCE {ls:List (List Nat)} {k:Nat} {l:List Nat} (h:ls[k]?=some l):zEG ls (k+1)=zEG ls k+val l:=by
 unfold zEG
 rw [List.take_add_one,h]
 simp
theorem zGF {ls:List (List Nat)} {n:Nat} (h:ls.length=n):zEG ls n=(ls.map val).sum:=by
 unfold zEG
 rw [List.take_of_length_le oE]
theorem zJs (x y u:Nat) (hx:x<4294967296) (hy:y<4294967296) (hu:u<=1):
  ∃d z u':Nat,(u:Int)+((x:Int)+(y:Int))=(d:Int)/\(d:Int) % 4294967296=(z:Int)/\(d:Int) / 4294967296=(u':Int)/\z<4294967296/\u'<=1/\d<=8589934591/\x+y+u=z+u'*4294967296:=
 ⟨u+(x+y),(u+(x+y)) % 4294967296,(u+(x+y)) / 4294967296,by omega,by omega,by omega,by omega,by omega,by omega,by omega⟩
theorem zGv {a b lo P x y z u u':Nat} (heq:lo+u*P=a+b) (hs:x+y+u=z+u'*4294967296):lo+z*P+u'*(P*4294967296)=a+x*P+(b+y*P):=by
 have h:=congrArg (·*P) hs
 simp only [Nat.add_mul] at h
 have e:u'*(P*4294967296)=u'*4294967296*P:=by rw [cQ P,Nat.mul_assoc]
 omega
def zFk (s m:Nat) (b:Nat):Prop:=b<s∨b=m+1∨b=m+1+1
def zUG (B s m:Nat) (w W1:WN) (ls la:List Nat) (ds:List Deferred) (Ds:List Nat) (k:Nat) (W:WN):Prop:=
 ∃v lo, ∃u:Nat,Boxed W m 25 v/\yA W (s+1) 62 v lo/\lo.length=k/\Lt lo/\Boxed W s 91 (.int .u64 u)/\u<=1/\
  val lo+u*BB^k=sm (lm ls) k+sm (lm la) k/\Below B w W/\y5 (zFk s m) W1 W/\Marks B W ds Ds/\W1.heap.size<=W.heap.size
theorem zEA {B s m:Nat} {w W1:WN} {ls la:List Nat} {ds:List Deferred} {Ds:List Nat} (hB:B<=w.heap.size) (hsB:B<=s) (hs:s<=m) (hm:m+1+1<W1.heap.size) (hD: ∀D,D∈Ds->D<W1.heap.size):OwnFrom W1.heap.size (zUG B s m w W1 ls la ds Ds):=by
 rintro k W W' row ⟨v,lo,u,hv,hown,hlk,hlt,hu,hu1,heq,hb,hk,hm',h4⟩ hg hr
 refine ⟨v,lo,u,qQ hv hg hr,zG4 hown hg hr,hlk,hlt,qQ hu hg hr,hu1,heq,zAo hb hg hB oE hr,hk.grown hg (fun b hb=>⟨?_,fun e=> ?_⟩),hm'.abide hD hg hr,bJ h4 hg.size⟩
 ·unfold zFk at hb;omega
 ·have:=(hr b e.symm).1;unfold zFk at hb;omega
def zVt (w:WN) (A:WQ Addr) (n c:Nat) (ls:List (List Nat)) (a:Act) (W:WN):Prop:=
 ∃(k:Nat) (v:WO) (ds:List Deferred) (Ds:List Nat) (u4 u5 u6 u7 u8 u12 u13 u14 u15 u16 u17 u18 u19 u20 u21 u22 u23 u24 u25 u26 u27 u28 u29 u30 u31 u32 u33 u34 u35 u36 u37 u38 u39 u40 u41 u42 u43 u44:WO) (As:WQ Addr) (ns cs:Nat) (lo:List Nat),
  a={ tmps:=#[.slice A n c,undef,v,undef,u4,u5,u6,u7,u8, .slice A n c, .int .i64 n, .int .i64 k,u12,u13,u14,u15,u16,u17,u18,u19,u20,u21,u22,u23,u24,u25,u26,u27,u28,u29,u30,u31,u32,u33,u34,u35,u36,u37,u38,u39,u40,u41,u42,u43,u44,undef,undef],defers:=ds }/\k<=n/\v= .slice As ns cs/\Rd W As ns cs lo/\Lt lo/\ns<=68719476736+k/\val lo=zEG ls k/\Below w.heap.size w W/\Marks w.heap.size W ds Ds
theorem zMJ (A:WQ Addr) (n c:Nat) (ls:List (List Nat)) (w:WN) (h:Rds w A n ls) (hn:n<=1000):
  Calls prog 123 #[.slice A n c] w (jL w (ls.map val).sum):=by
 obtain ⟨i0,hi0,hz0,hz1,hz2⟩:=info_parts yT
 refine qZ func123 rfl ?_
 simp only [ntmps123,cD,cE,cF,Nat.reduceAdd,Nat.reduceSub,cG,cH,cI,cJ,bX,cK]
 go_wp2
 refine wp_loop (zVt w A n c ls) (fun a _=>n - (intOf (a.tmps.getD 11 undef)).toNat) ?_ ?_
 ·exact ⟨0,_, [], [],_,_,_,_,_,_,_,_,_,_,_,_,_,_,_,_,_,_,_,_,_,_,_,_,_,_,_,_,_,_,_,_,_,_,_,_,_,_,none,0,0, [],rfl,bY _,rfl,wK _,zBE,by omega,by rw [zDG];rfl,bI _ _,Marks.nil _ _⟩
 rintro a W ⟨k,v,ds,Ds,u4,u5,u6,u7,u8,u12,u13,u14,u15,u16,u17,u18,u19,u20,u21,u22,u23,u24,u25,u26,u27,u28,u29,u30,u31,u32,u33,u34,u35,u36,u37,u38,u39,u40,u41,u42,u43,u44,As,ns,cs,lo,rfl,hk,rfl,hrs,hlt,hns,hval,hB,hM⟩
 by_cases hkn:k<n
 ·obtain ⟨b,o,Ai,ni,ci,la,rfl,hcell,hla,hra,hta,hni⟩:=h.cells k hkn
  have hcW:W.cell? ⟨b,o+k,none⟩=some (.slice Ai ni ci):=(hB.cell (p:=⟨b,o+k,none⟩) (z4 hcell)).trans hcell
  have hraW:=hra.below hB
  obtain ⟨N,hmx,hmx2,hN⟩: ∃N,((ns<ni/\ni=N)∨(¬ns<ni/\ns=N))/\((ni<ns/\N=ns)∨(¬ni<ns/\N=ni))/\ni<=N/\ns<=N/\N<=68719476736+k:=by
   rcases Nat.lt_trichotomy ns ni with hh|hh|hh
   ·exact ⟨ni, .inl ⟨hh,rfl⟩, .inr ⟨by omega,rfl⟩,by omega⟩
   ·exact ⟨ns, .inr ⟨by omega,rfl⟩, .inr ⟨by omega,hh⟩,by omega⟩
   ·exact ⟨ns, .inr ⟨by omega,rfl⟩, .inl ⟨hh,rfl⟩,by omega⟩
  have HX:=hid hmx
  clear hmx
  have hbase:W.heap.size+1<=(W.alloc (.cells #[.int .u64 0] 91)).heap.size:=by simp
  have hbytes:i0.bytes*(N+1)<=281474976710656:=by rw [hz2];omega
  have hmax:N+1<=maxLen:=by unfold maxLen;omega
  rcases hmx2 with ⟨hx,hxe⟩|⟨hx,hxe⟩
  ·have HC:Hid (((ns:Int)+1)=((N+1:Nat):Int)):=hid oE
   have HE:=hid hxe
   clear hxe
   go_wp2_with (first|(at_make;refine wpList_make_own _ rfl _ _ 25 rfl (W.heap.size+1) 62 i0 (.int .u32 0) 1 z7 hi0 hz0 hz1 .i64 .i64 _ (N+1) rfl rfl HC.out hbytes hmax hbase ?_;intro w0 hown0 hgrow0)|(go_at_call 141;refine (zER _ _ _ _ _ _ _).mono ?_;rintro e w1 ⟨rfl,rfl⟩))
   rw [bN] at hown0
   have hm0:W.heap.size+1<w0.heap.size:=(World.ownsRow.lt hown0 _ rfl).2
   obtain ⟨W1,hW1⟩: ∃W1,(((w0.alloc (.cells #[.slice (some ⟨W.heap.size+1,0,none⟩) 0 (N+1)] 25)).alloc (.cells #[.slice As ns cs] 25)).alloc (.cells #[.slice Ai ni ci] 25))=W1:=⟨_,rfl⟩
   have hsz:W1.heap.size=w0.heap.size+3:=by rw [<-hW1];simp
   have hBW:Below W.heap.size W W1:=by
    rw [<-hW1]
    exact (((((bI _ W).alloc (bH _) _).grown hgrow0 fE (fun _ e=>by cases e)).alloc oE _).alloc (by simp;omega) _).alloc (by simp;omega) _
   have hB1:Below w.heap.size w W1:=hB.trans (hBW.mono hB.size)
   have bs:Boxed W1 W.heap.size 91 (.int .u64 0):=by rw [<-hW1];exact ((((bO W _ _).kept hgrow0 fE).alloc _).alloc _).alloc _
   have bm:Boxed W1 w0.heap.size 25 (.slice (some ⟨W.heap.size+1,0,none⟩) 0 (N+1)):=by rw [<-hW1];exact ((bO w0 _ _).alloc _).alloc _
   have bp:Boxed W1 (w0.heap.size+1) 25 (.slice As ns cs):=by
    rw [<-hW1];have:=bO (w0.alloc (.cells #[.slice (some ⟨W.heap.size+1,0,none⟩) 0 (N+1)] 25)) 25 (.slice As ns cs);rw [bN] at this;exact this.alloc _
   have bq:Boxed W1 (w0.heap.size+1+1) 25 (.slice Ai ni ci):=by
    rw [<-hW1];have:=bO ((w0.alloc (.cells #[.slice (some ⟨W.heap.size+1,0,none⟩) 0 (N+1)] 25)).alloc (.cells #[.slice As ns cs] 25)) 25 (.slice Ai ni ci);rw [bN,bN] at this;exact this
   have ho1:yA W1 (W.heap.size+1) 62 (.slice (some ⟨W.heap.size+1,0,none⟩) 0 (N+1)) []:=by
    rw [<-hW1];exact ((World.ownsRow.alloc hown0 _).alloc _).alloc _
   have hM1:=hM.made hBW
   have hD1:=hM1.lt
   rw [hW1]
   clear hW1
   have hSb: ∀b,zFk W.heap.size w0.heap.size b->b<W1.heap.size:=fun b hb=>by unfold zFk at hb;omega
   refine zC5 (gf:=148) rfl (enters_of func148 kA rfl) (zCV As ns cs lo Ai ni ci la (w0.heap.size+1) (w0.heap.size+1+1) N W1 (hrs.below hBW) (hraW.below hBW) hlt hta bp.cell bq.cell HX.out (S:=zFk W.heap.size w0.heap.size) hSb (.inr (.inl rfl)) (.inr (.inr rfl)) (fun b o hn e=> .inl (hrs.in_ b o hn e)) (fun b o hn e=> .inl (hraW.in_ b o hn e))) (fun _=>rfl) y5.trans (zCZ hSb)
    (zUG w.heap.size W.heap.size w0.heap.size w W1 lo la ds Ds) (zEA (bH _) hB.size oE oE hD1) (zBv (zEA (bH _) hB.size oE oE hD1)) wO (fun _ _ _ _ _ _ _ _=>trivial)
    ⟨_, [],0,bm,ho1,rfl,zBE,bs,by omega,by simp [sm],hB1,y5.refl _ _,hM1,bH _⟩
    (fun j=>{ tmps:=#[.slice (some ⟨b,o,none⟩) n c,undef, .slice As ns cs,undef, .slice Ai ni ci, .pointer (some ⟨W.heap.size,0,none⟩), .pointer (some ⟨w0.heap.size,0,none⟩), .int .u64 (lm lo j:Nat), .int .u64 (lm la j:Nat), .slice (some ⟨b,o,none⟩) n c, .int .i64 n, .int .i64 k, .bool true, .pointer (some ⟨b,o+k,none⟩), .slice Ai ni ci, .slice Ai ni ci, .int .i64 ni, .slice As ns cs, .int .i64 ns, .int .i64 ns, .int .i64 ((ns:Int)+1), .slice (some ⟨W.heap.size+1,0,none⟩) 0 (N+1), .slice As ns cs, .slice Ai ni ci, .func (.func 148) #[] #[.pointer (some ⟨w0.heap.size+1,0,none⟩), .pointer (some ⟨w0.heap.size+1+1,0,none⟩)], .int .u64 (lm lo j:Nat), .int .u64 (lm la j:Nat),u27,u28,u29,u30,u31,u32,u33,u34,u35,u36,u37,u38,u39,u40,u41,u42,u43,u44,undef,undef],defers:= [] }) ?_ ?_ ?_
   ·intro lp j W2 K hK
    gi_wp2
    exact hK
   ·rintro lp j W2 hj ⟨v,lv,u,hv,hown,hlk,hlv,hu,hu1,heq,hB2,hK2,hM2,hsz2⟩
    have hcv:=hv.cell;have hfv:=hv.frozen;have hcu:=hu.cell;have hfu:=hu.frozen
    have x1:=qJ hlt j;have x2:=qJ hta j
    simp only [BB] at x1 x2
    obtain ⟨d,z,u',hd,hz,hu',hz1,hu1',hd1,hstep⟩:=zJs (lm lo j) (lm la j) u x1 x2 hu1
    have HS:=hid hstep
    clear hstep
    have hs1:lv.length+ [z].length<=17592186044416:=by simp;omega
    have hl1:(lv++ [z]).length=j+1:=by simp;omega
    have hte:25≠62:=by decide
    have hte':91≠62:=by decide
    have hne:W.heap.size≠w0.heap.size:=by omega
    have hne':w0.heap.size≠W.heap.size:=by omega
    have hbW:W.heap.size+1<=W2.heap.size:=by omega
    have bp2:=hK2.boxed (.inr (.inl rfl)) bp
    have bq2:=hK2.boxed (.inr (.inr rfl)) bq
    have hSS: ∀b,zFk W.heap.size w0.heap.size b->b<W2.heap.size/\some b≠v.ownBlock:=fun b hb=>⟨by have:=hSb b hb;omega,by
     rcases hb with hb|rfl|rfl
     ·exact hown.not_in oE
     ·exact bp2.not_row hte hown
     ·exact bq2.not_row hte hown⟩
    have hSo: ¬zFk W.heap.size w0.heap.size w0.heap.size:=by unfold zFk;omega
    have hSu: ¬zFk W.heap.size w0.heap.size W.heap.size:=by unfold zFk;omega
    have huS:=hu.set (.int .u64 d)
    have hownS:=hown.other hu hte' (.int .u64 d)
    have hvS:=hv.other hne' (.int .u64 d)
    have cvS:=hvS.cell;have fvS:=hvS.frozen;have cuS:=huS.cell;have fuS:=huS.frozen
    have hbS:W.heap.size+1<=(W2.setCell ⟨W.heap.size,0,none⟩ (.int .u64 d)).heap.size:=bJ hbW (bP _ _ _).size
    gi_wp2_with (gi_at_builtin;go_must (refine zAS rfl _ _ 25 62 rfl z7 yT (W.heap.size+1) v lv rfl (yA.alloc hownS _) _ 1 1 [z] rfl (vI _ z 62 (zAO W2 _ _)) hs1 (y6 hbS _) ?_;intro v1 w1 hown1 hg1 hat1;obtain ⟨A1,c1,rfl⟩:=hown1.form' hl1;have hk3:=zIg (v':= .slice A1 (j+1) c1) hg1 (fun b hb=>⟨bU (hSS b hb).1 (bP _ _ _).size,(hSS b hb).2⟩) hSo;obtain ⟨hv1,hv2,hr2,hk2,hb2⟩:=zGt hte hvS hownS hbS (Nat.le_of_lt hm0) (bH _) hown1 hg1;have hc1:=hv1.cell;have hf1:=hv1.frozen;have hu2:=zEz hte' huS hownS hg1;have hc2:=hu2.cell;have hf2:=hu2.frozen))
    have hu3:=hu2.other hne (.slice A1 (j+1) c1)
    have hko:=(bP W2 ⟨W.heap.size,0,none⟩ (.int .u64 d)).trans (hk2.trans (bP _ ⟨W.heap.size,0,none⟩ (.int .u64 u')))
    have hks:=(((y5.refl (zFk W.heap.size w0.heap.size) W2).setCell (p:=⟨W.heap.size,0,none⟩) hSu (.int .u64 d)).trans hk3).setCell (p:=⟨W.heap.size,0,none⟩) hSu (.int .u64 u')
    refine ⟨hko.from _,hks,_,lv++ [z],u',hv2.other hne' _,hr2.other hu3 hte' _,hl1,zA6 hlv hz1,hu3.set _,hu1', ?_,((hB2.setCell (p:=⟨W.heap.size,0,none⟩) hB.size _).trans (hb2.mono (by have:=hB.size;omega))).setCell (p:=⟨W.heap.size,0,none⟩) hB.size _,hK2.trans hks,hM2.others hko,bJ hsz2 hko.size⟩
    rw [zAg,hlk]
    simp only [sm,bT]
    exact zGv heq HS.out
   ·rintro D W3 hD ⟨v,lv,u,hv,hown,hlk,hlv,hu,hu1,heq,hB2,hK2,hM2,hsz2⟩ _ hd
    obtain ⟨A1,c1,rfl⟩:=hown.form' hlk
    have hcv:=hv.cell;have hcu:=hu.cell
    have heu:(u:Int) % 4294967296=u:=by omega
    have hs1:lv.length+ [u].length<=17592186044416:=by simp;omega
    have hl1:(lv++ [u]).length=N+1:=by simp;omega
    have hbW:W.heap.size+1<=W3.heap.size:=by omega
    go_wp2_with (at_builtin;go_must (refine zQ rfl _ _ 25 62 rfl z7 yT (W.heap.size+1) _ lv rfl (yA.alloc hown _) _ 1 1 [u] rfl (Rd.one _ u 62) hs1 (y6 hbW _) ?_;intro v1 w1 hown1 hg1 hat1;obtain ⟨A2,c2,rfl⟩:=hown1.form' hl1))
    have hD2:D ∉ Ds:=fun h=>by have:=hD1 D h;omega
    have hM3:=(hM2.more hD2 (by have:=hB1.size;omega) hd).others (zDt hown hg1)
    refine ⟨⟨k+1,_,_,_,_,_,_,_,_,_,_,_,_,_,_,_,_,_,_,_,_,_,_,_,_,_,_,_,_,_,_,_,_,_,_,_,_,_,_,_,_,_,A2,N+1,c2,lv++ [u],rfl,by omega,rfl,hown1.rd,zA6 hlv (by unfold BB;omega),by omega, ?_,yA.grown (hB2.alloc hB2.size _) (yA.alloc hown _) hg1 (by have:=hB.size;omega) (y6 hB2.size _),hM3⟩, ?_⟩
    ·have e1:=zAM (l:=lo) (n:=N) (by rw [hrs.len];omega)
     have e2:=zAM (l:=la) (n:=N) (by rw [hra.len];omega)
     rw [zCE hla,zAg,hlk,heq,e1,e2,hval]
    ·show n - (intOf (.int .i64 ((k:Int)+1))).toNat<n - (intOf (.int .i64 (k:Int))).toNat
     simp [intOf]
     omega
  ·have HC:Hid (((ni:Int)+1)=((N+1:Nat):Int)):=hid oE
   have HE:=hid hxe
   clear hxe
   go_wp2_with (first|(at_make;refine wpList_make_own _ rfl _ _ 25 rfl (W.heap.size+1) 62 i0 (.int .u32 0) 1 z7 hi0 hz0 hz1 .i64 .i64 _ (N+1) rfl rfl HC.out hbytes hmax hbase ?_;intro w0 hown0 hgrow0)|(go_at_call 141;refine (zER _ _ _ _ _ _ _).mono ?_;rintro e w1 ⟨rfl,rfl⟩))
   rw [bN] at hown0
   have hm0:W.heap.size+1<w0.heap.size:=(World.ownsRow.lt hown0 _ rfl).2
   obtain ⟨W1,hW1⟩: ∃W1,(((w0.alloc (.cells #[.slice (some ⟨W.heap.size+1,0,none⟩) 0 (N+1)] 25)).alloc (.cells #[.slice As ns cs] 25)).alloc (.cells #[.slice Ai ni ci] 25))=W1:=⟨_,rfl⟩
   have hsz:W1.heap.size=w0.heap.size+3:=by rw [<-hW1];simp
   have hBW:Below W.heap.size W W1:=by
    rw [<-hW1]
    exact (((((bI _ W).alloc (bH _) _).grown hgrow0 fE (fun _ e=>by cases e)).alloc oE _).alloc (by simp;omega) _).alloc (by simp;omega) _
   have hB1:Below w.heap.size w W1:=hB.trans (hBW.mono hB.size)
   have bs:Boxed W1 W.heap.size 91 (.int .u64 0):=by rw [<-hW1];exact ((((bO W _ _).kept hgrow0 fE).alloc _).alloc _).alloc _
   have bm:Boxed W1 w0.heap.size 25 (.slice (some ⟨W.heap.size+1,0,none⟩) 0 (N+1)):=by rw [<-hW1];exact ((bO w0 _ _).alloc _).alloc _
   have bp:Boxed W1 (w0.heap.size+1) 25 (.slice As ns cs):=by
    rw [<-hW1];have:=bO (w0.alloc (.cells #[.slice (some ⟨W.heap.size+1,0,none⟩) 0 (N+1)] 25)) 25 (.slice As ns cs);rw [bN] at this;exact this.alloc _
   have bq:Boxed W1 (w0.heap.size+1+1) 25 (.slice Ai ni ci):=by
    rw [<-hW1];have:=bO ((w0.alloc (.cells #[.slice (some ⟨W.heap.size+1,0,none⟩) 0 (N+1)] 25)).alloc (.cells #[.slice As ns cs] 25)) 25 (.slice Ai ni ci);rw [bN,bN] at this;exact this
   have ho1:yA W1 (W.heap.size+1) 62 (.slice (some ⟨W.heap.size+1,0,none⟩) 0 (N+1)) []:=by
    rw [<-hW1];exact ((World.ownsRow.alloc hown0 _).alloc _).alloc _
   have hM1:=hM.made hBW
   have hD1:=hM1.lt
   rw [hW1]
   clear hW1
   have hSb: ∀b,zFk W.heap.size w0.heap.size b->b<W1.heap.size:=fun b hb=>by unfold zFk at hb;omega
   refine zC5 (gf:=148) rfl (enters_of func148 kA rfl) (zCV As ns cs lo Ai ni ci la (w0.heap.size+1) (w0.heap.size+1+1) N W1 (hrs.below hBW) (hraW.below hBW) hlt hta bp.cell bq.cell HX.out (S:=zFk W.heap.size w0.heap.size) hSb (.inr (.inl rfl)) (.inr (.inr rfl)) (fun b o hn e=> .inl (hrs.in_ b o hn e)) (fun b o hn e=> .inl (hraW.in_ b o hn e))) (fun _=>rfl) y5.trans (zCZ hSb)
    (zUG w.heap.size W.heap.size w0.heap.size w W1 lo la ds Ds) (zEA (bH _) hB.size oE oE hD1) (zBv (zEA (bH _) hB.size oE oE hD1)) wO (fun _ _ _ _ _ _ _ _=>trivial)
    ⟨_, [],0,bm,ho1,rfl,zBE,bs,by omega,by simp [sm],hB1,y5.refl _ _,hM1,bH _⟩
    (fun j=>{ tmps:=#[.slice (some ⟨b,o,none⟩) n c,undef, .slice As ns cs,undef, .slice Ai ni ci, .pointer (some ⟨W.heap.size,0,none⟩), .pointer (some ⟨w0.heap.size,0,none⟩), .int .u64 (lm lo j:Nat), .int .u64 (lm la j:Nat), .slice (some ⟨b,o,none⟩) n c, .int .i64 n, .int .i64 k, .bool true, .pointer (some ⟨b,o+k,none⟩), .slice Ai ni ci, .slice Ai ni ci, .int .i64 ni, .slice As ns cs, .int .i64 ns, .int .i64 ni, .int .i64 ((ni:Int)+1), .slice (some ⟨W.heap.size+1,0,none⟩) 0 (N+1), .slice As ns cs, .slice Ai ni ci, .func (.func 148) #[] #[.pointer (some ⟨w0.heap.size+1,0,none⟩), .pointer (some ⟨w0.heap.size+1+1,0,none⟩)], .int .u64 (lm lo j:Nat), .int .u64 (lm la j:Nat),u27,u28,u29,u30,u31,u32,u33,u34,u35,u36,u37,u38,u39,u40,u41,u42,u43,u44,undef,undef],defers:= [] }) ?_ ?_ ?_
   ·intro lp j W2 K hK
    gi_wp2
    exact hK
   ·rintro lp j W2 hj ⟨v,lv,u,hv,hown,hlk,hlv,hu,hu1,heq,hB2,hK2,hM2,hsz2⟩
    have hcv:=hv.cell;have hfv:=hv.frozen;have hcu:=hu.cell;have hfu:=hu.frozen
    have x1:=qJ hlt j;have x2:=qJ hta j
    simp only [BB] at x1 x2
    obtain ⟨d,z,u',hd,hz,hu',hz1,hu1',hd1,hstep⟩:=zJs (lm lo j) (lm la j) u x1 x2 hu1
    have HS:=hid hstep
    clear hstep
    have hs1:lv.length+ [z].length<=17592186044416:=by simp;omega
    have hl1:(lv++ [z]).length=j+1:=by simp;omega
    have hte:25≠62:=by decide
    have hte':91≠62:=by decide
    have hne:W.heap.size≠w0.heap.size:=by omega
    have hne':w0.heap.size≠W.heap.size:=by omega
    have hbW:W.heap.size+1<=W2.heap.size:=by omega
    have bp2:=hK2.boxed (.inr (.inl rfl)) bp
    have bq2:=hK2.boxed (.inr (.inr rfl)) bq
    have hSS: ∀b,zFk W.heap.size w0.heap.size b->b<W2.heap.size/\some b≠v.ownBlock:=fun b hb=>⟨by have:=hSb b hb;omega,by
     rcases hb with hb|rfl|rfl
     ·exact hown.not_in oE
     ·exact bp2.not_row hte hown
     ·exact bq2.not_row hte hown⟩
    have hSo: ¬zFk W.heap.size w0.heap.size w0.heap.size:=by unfold zFk;omega
    have hSu: ¬zFk W.heap.size w0.heap.size W.heap.size:=by unfold zFk;omega
    have huS:=hu.set (.int .u64 d)
    have hownS:=hown.other hu hte' (.int .u64 d)
    have hvS:=hv.other hne' (.int .u64 d)
    have cvS:=hvS.cell;have fvS:=hvS.frozen;have cuS:=huS.cell;have fuS:=huS.frozen
    have hbS:W.heap.size+1<=(W2.setCell ⟨W.heap.size,0,none⟩ (.int .u64 d)).heap.size:=bJ hbW (bP _ _ _).size
    gi_wp2_with (gi_at_builtin;go_must (refine zAS rfl _ _ 25 62 rfl z7 yT (W.heap.size+1) v lv rfl (yA.alloc hownS _) _ 1 1 [z] rfl (vI _ z 62 (zAO W2 _ _)) hs1 (y6 hbS _) ?_;intro v1 w1 hown1 hg1 hat1;obtain ⟨A1,c1,rfl⟩:=hown1.form' hl1;have hk3:=zIg (v':= .slice A1 (j+1) c1) hg1 (fun b hb=>⟨bU (hSS b hb).1 (bP _ _ _).size,(hSS b hb).2⟩) hSo;obtain ⟨hv1,hv2,hr2,hk2,hb2⟩:=zGt hte hvS hownS hbS (Nat.le_of_lt hm0) (bH _) hown1 hg1;have hc1:=hv1.cell;have hf1:=hv1.frozen;have hu2:=zEz hte' huS hownS hg1;have hc2:=hu2.cell;have hf2:=hu2.frozen))
    have hu3:=hu2.other hne (.slice A1 (j+1) c1)
    have hko:=(bP W2 ⟨W.heap.size,0,none⟩ (.int .u64 d)).trans (hk2.trans (bP _ ⟨W.heap.size,0,none⟩ (.int .u64 u')))
    have hks:=(((y5.refl (zFk W.heap.size w0.heap.size) W2).setCell (p:=⟨W.heap.size,0,none⟩) hSu (.int .u64 d)).trans hk3).setCell (p:=⟨W.heap.size,0,none⟩) hSu (.int .u64 u')
    refine ⟨hko.from _,hks,_,lv++ [z],u',hv2.other hne' _,hr2.other hu3 hte' _,hl1,zA6 hlv hz1,hu3.set _,hu1', ?_,((hB2.setCell (p:=⟨W.heap.size,0,none⟩) hB.size _).trans (hb2.mono (by have:=hB.size;omega))).setCell (p:=⟨W.heap.size,0,none⟩) hB.size _,hK2.trans hks,hM2.others hko,bJ hsz2 hko.size⟩
    rw [zAg,hlk]
    simp only [sm,bT]
    exact zGv heq HS.out
   ·rintro D W3 hD ⟨v,lv,u,hv,hown,hlk,hlv,hu,hu1,heq,hB2,hK2,hM2,hsz2⟩ _ hd
    obtain ⟨A1,c1,rfl⟩:=hown.form' hlk
    have hcv:=hv.cell;have hcu:=hu.cell
    have heu:(u:Int) % 4294967296=u:=by omega
    have hs1:lv.length+ [u].length<=17592186044416:=by simp;omega
    have hl1:(lv++ [u]).length=N+1:=by simp;omega
    have hbW:W.heap.size+1<=W3.heap.size:=by omega
    go_wp2_with (at_builtin;go_must (refine zQ rfl _ _ 25 62 rfl z7 yT (W.heap.size+1) _ lv rfl (yA.alloc hown _) _ 1 1 [u] rfl (Rd.one _ u 62) hs1 (y6 hbW _) ?_;intro v1 w1 hown1 hg1 hat1;obtain ⟨A2,c2,rfl⟩:=hown1.form' hl1))
    have hD2:D ∉ Ds:=fun h=>by have:=hD1 D h;omega
    have hM3:=(hM2.more hD2 (by have:=hB1.size;omega) hd).others (zDt hown hg1)
    refine ⟨⟨k+1,_,_,_,_,_,_,_,_,_,_,_,_,_,_,_,_,_,_,_,_,_,_,_,_,_,_,_,_,_,_,_,_,_,_,_,_,_,_,_,_,_,A2,N+1,c2,lv++ [u],rfl,by omega,rfl,hown1.rd,zA6 hlv (by unfold BB;omega),by omega, ?_,yA.grown (hB2.alloc hB2.size _) (yA.alloc hown _) hg1 (by have:=hB.size;omega) (y6 hB2.size _),hM3⟩, ?_⟩
    ·have e1:=zAM (l:=lo) (n:=N) (by rw [hrs.len];omega)
     have e2:=zAM (l:=la) (n:=N) (by rw [hra.len];omega)
     rw [zCE hla,zAg,hlk,heq,e1,e2,hval]
    ·show n - (intOf (.int .i64 ((k:Int)+1))).toNat<n - (intOf (.int .i64 (k:Int))).toNat
     simp [intOf]
     omega
 ·obtain rfl:k=n:=by omega
  go_wp2_with (go_at_call 113;refine (qX _ _ _ _ _ hrs hlt oE).mono ?_;rintro e w1 ⟨A2,n2,c2,l2,rfl,hi2,hr2,hb2⟩)
  refine qD w1 (fun w' _=>results_tmp rfl _ _ w') Ds ds w1 (hM.made hb2) (Oth.refl _ _) ?_
  intro w' ho
  rw [hval,zGF h.len] at hi2
  exact ⟨A2,n2,c2,l2,rfl,hi2,hr2.oth ho,zAf (hB.trans (hb2.mono hB.size)) ho (bH _)⟩
end Go.Proofs.Wd

namespace Go.Proofs.Wd
open Tryz
set_option maxHeartbeats 400000
open Go.RowKit Lb
def iv (s:Bool) (l:List Nat):Int:=if s then -(val l:Int) else val l
def q6 (W:WN) (B:Nat) (t:WP) (vs:Array WO):Prop:=W.heap[B]?=some (.cells vs t (0,0))
theorem q6.lt {W:WN} {B:Nat} {t:WP} {vs:Array WO} (h:q6 W B t vs):B<W.heap.size:=(cR.1 h).1
theorem q6.cell {W:WN} {B:Nat} {t:WP} {vs:Array WO} (h:q6 W B t vs) (i:Nat):W.cell? ⟨B,i,none⟩=vs[i]?:=by simp [World.cell?,show W.heap[B]?=_ from h]
theorem q6.frozen {W:WN} {B:Nat} {t:WP} {vs:Array WO} (h:q6 W B t vs) (i:Nat):W.frozen? ⟨B,i,none⟩=false:=by simp [World.frozen?,show W.heap[B]?=_ from h]
theorem q6.new (W:WN) (t:WP) (vs:Array WO):q6 (W.alloc (.cells vs t)) W.heap.size t vs:=World.alloc_heap_new W _
theorem q6.at_ (W:WN) (t:WP) (vs:Array WO) {b:Nat} (hb:b=W.heap.size):q6 (W.alloc (.cells vs t)) b t vs:=by
 subst hb
 exact q6.new W t vs
theorem q6.kept {W W':WN} {B:Nat} {t:WP} {vs:Array WO} (h:q6 W B t vs) (hb:Below W.heap.size W W'):q6 W' B t vs:=(hb.block _ h.lt).trans h
theorem q6.alloc {W:WN} {B:Nat} {t:WP} {vs:Array WO} (h:q6 W B t vs) (o:Obj):q6 (W.alloc o) B t vs:=h.kept ((bI _ _).alloc (bH _) o)
theorem q6.other {W:WN} {B:Nat} {t:WP} {vs:Array WO} (h:q6 W B t vs) {p:Addr} (hp:B≠p.block) (v:WO):q6 (W.setCell p v) B t vs:=(Below.heap_setCell W p v B hp).trans h
theorem q6.set {W:WN} {B:Nat} {t:WP} {vs:Array WO} (h:q6 W B t vs) (i:Nat) (v:WO):q6 (W.setCell ⟨B,i,none⟩ v) B t (vs.setIfInBounds i v):=by
 obtain ⟨hlt,hk⟩:=cR.1 h
 show (W.heap.modify B _)[B]?=_
 rw [Array.getElem?_eq_getElem (by rw [Array.size_modify];exact hlt),Array.getElem_modify_self,hk]
 rfl
theorem q6.oth {B:Nat} {w w':WN} {b:Nat} {t:WP} {vs:Array WO} (h:q6 w b t vs) (ho:Oth B w w'):q6 w' b t vs:=by
 rcases ho.block b with e|⟨_,⟨o,h1,h2⟩,_⟩
 ·exact e.trans h
 ·rw [show w.heap[b]?=_ from h] at h1
  cases h1
  cases h2
theorem q6.putObj {W:WN} {B D:Nat} {t:WP} {vs:Array WO} (h:q6 W B t vs) {o:Obj} (o':Obj) (hD:W.heap[D]?=some o) (ho:o.isCells=false):q6 (W.putObj D o') B t vs:=by
 refine (World.putObj_heap_other ?_).trans h
 intro e
 subst e
 rw [show W.heap[B]?=_ from h] at hD
 cases hD
 cases ho
theorem Rd.setN {w:WN} {A:WQ Addr} {n c:Nat} {l:List Nat} (h:Rd w A n c l) {b:Nat} {t:WP} {vs:Array WO} (hb:q6 w b t vs) {i:Nat} {u:WO} (hi:vs[i]?=some u) (hu: ∀x,u≠ .int .u32 x) (v:WO):Rd (w.setCell ⟨b,i,none⟩ v) A n c l:=
 ⟨h.len,h.le,h.cap,h.nil,fun k hk=>by
  obtain ⟨b',o,e,hc⟩:=h.cells k hk
  refine ⟨b',o,e,(World.cell?_setCell_other _ _ _ _ ?_).trans hc⟩
  intro he
  simp only [Addr.mk.injEq,and_true] at he
  obtain ⟨rfl,he2⟩:=he
  first|rw [<-he2] at hc|rw [he2] at hc
  rw [hb.cell,hi] at hc
  exact hu _ (Option.some.inj hc)⟩
theorem zL0 {s:Bool} {l:List Nat}:(s&& !(val l==0))=decide (iv s l<0):=by
 unfold iv
 cases s
 ·simp only [Bool.false_and,cL,cM]
  exact (bL oE).symm
 ·simp only [Bool.true_and,if_true]
  by_cases h:val l=0
  ·simp [h]
  ·rw [bZ.2 h]
   exact (bK oE).symm
theorem zL2 (s:Bool) (l:List Nat):(iv s l).natAbs=val l:=by
 unfold iv
 cases s<;>simp
def zAx (W:WN) (B:Nat) (v:Int):Prop:= ∃A n c l,q6 W B 139 #[.bool (decide (v<0)), .slice A n c]/\Is l v.natAbs/\Rd W A n c l
theorem zAx.kept {W W':WN} {B:Nat} {v:Int} (h:zAx W B v) (hb:Below W.heap.size W W'):zAx W' B v:=by
 obtain ⟨A,n,c,l,h1,h2,h3⟩:=h
 exact ⟨A,n,c,l,h1.kept hb,h2,h3.below hb⟩
theorem zAx.lt {W:WN} {B:Nat} {v:Int} (h:zAx W B v):B<W.heap.size:=by
 obtain ⟨A,n,c,l,h1,_⟩:=h
 exact h1.lt
def qR (w:WN) (v:Int):Ending->WN->Prop:=fun e w'=> ∃A n c l,e= .returned (.agg #[.bool (decide (v<0)), .slice A n c])/\Is l v.natAbs/\Rd w' A n c l/\Below w.heap.size w w'
theorem zBX {w w':WN} (h:Below w.heap.size w w'):w.grownBy w' none:=⟨h.os,h.tape,h.output,h.size,fun k hk _=>h.block k hk⟩
theorem qB (w:WN) (a:Addr) (u:WO):w.grownBy (w.setCell a u) (some a.block):=
 ⟨rfl,rfl,rfl,(KeepsWalks.setCell w _ u).size,fun k _ hk=>Below.heap_setCell _ _ _ k (fun e=>hk (by rw [e]))⟩
theorem zAL {w1 w2:WN} {B:Nat} {b:Nat} {w:WN} (h:Below B w w1) (hg:w1.grownBy w2 (some b)) (hB:B<=w1.heap.size) (hb:B<=b):Below B w w2:=h.grown hg hB fun k hk=>by cases hk;exact hb
theorem zDo (B:Nat) (s:Bool) (A:WQ Addr) (n c:Nat) (l:List Nat) (w:WN) (hb:q6 w B 139 #[.bool s, .slice A n c]) (h:Rd w A n c l) (ht:Lt l) (hl:n<=1099511627776):
  Calls prog 137 #[.pointer (some ⟨B,0,none⟩)] w fun e w'=>e= .returned (.pointer (some ⟨B,0,none⟩))/\zAx w' B (iv s l)/\w.grownBy w' (some B):=by
 have g0:w.cell? ⟨B,0,none⟩=some (.bool s):=hb.cell 0
 have g1:w.cell? ⟨B,1,none⟩=some (.slice A n c):=hb.cell 1
 go_enter func137,ntmps137
 go_wp2_with (go_at_call 113;refine (qX _ _ _ _ _ h ht hl).mono ?_;rintro e w2 ⟨A2,n2,c2,l2,rfl,hi2,hr2,hb2⟩;have hbx:=hb.kept hb2;have g2:=hbx.cell 0;have g3:=hbx.cell 1;have g4:=hbx.frozen 0;have g5:=hbx.frozen 1;simp only [List.getElem?_toArray,List.getElem?_cons_zero,List.getElem?_cons_succ] at g2 g3)
 all_goals
  go_ret
  have hle:=hr2.len;have hz:=hi2.zero_iff
  have fin: ∀x:Bool,x=decide (iv s l<0)->zAx ((w2.setCell ⟨B,1,none⟩ (.slice A2 n2 c2)).setCell ⟨B,0,none⟩ (.bool x)) B (iv s l)/\w.grownBy ((w2.setCell ⟨B,1,none⟩ (.slice A2 n2 c2)).setCell ⟨B,0,none⟩ (.bool x)) (some B):=by
   rintro x rfl
   exact ⟨⟨A2,n2,c2,l2,(hbx.set 1 _).set 0 _,by rw [zL2];exact hi2,(hr2.setN hbx (i:=1) rfl (fun _=>by simp) _).setN (hbx.set 1 _) (i:=0) rfl (fun _=>by simp) _⟩,
    ((zBX hb2).but (some B)).trans ((qB w2 ⟨B,1,none⟩ (.slice A2 n2 c2)).trans (qB _ ⟨B,0,none⟩ _))⟩
  refine ⟨rfl,fin _ ?_⟩
  rw [<-zL0]
  simp_all
  try
   by_cases e:n2=0
   ·rw [hz.2 e,e];rfl
   ·rw [bK oE,bZ.2 (fun h=>e (hz.1 h))];rfl
theorem zEI (s:Bool) (A:WQ Addr) (n c:Nat) (l:List Nat) (w:WN) (h:Rd w A n c l) (ht:Lt l) (hl:n<=1099511627776):
  Calls prog 116 #[.agg #[.bool s, .slice A n c]] w fun e w'=> ∃B,e= .returned (.pointer (some ⟨B,0,none⟩))/\w.heap.size<=B/\zAx w' B (iv s l)/\Below w.heap.size w w':=by
 go_enter func116,ntmps116
 go_wp2_with (go_at_call 137;refine (zDo _ s A n c l _ (q6.at_ _ _ _ fE) ((h.alloc _).alloc _) ht hl).mono ?_;rintro e w1 ⟨rfl,hn,hg⟩)
 go_ret
 exact ⟨_,rfl,by simp,hn,zAL (((bI _ w).alloc (bH _) _).alloc fE _) hg (by simp;omega) fE⟩
theorem q6.facts2 {W:WN} {B:Nat} {t:WP} {x y:WO} (h:q6 W B t #[x,y]):(W.cell? ⟨B,0,none⟩=some x/\W.cell? ⟨B,1,none⟩=some y)/\W.frozen? ⟨B,0,none⟩=false/\W.frozen? ⟨B,1,none⟩=false:=⟨⟨h.cell 0,h.cell 1⟩,h.frozen 0,h.frozen 1⟩
theorem zJB {W W':WN} {t:WP} {x y:WO} {b:Nat} (hb:Below (W.alloc (.cells #[x,y] t)).heap.size (W.alloc (.cells #[x,y] t)) W') (e:b=W.heap.size):q6 W' b t #[x,y]:=(q6.at_ W t #[x,y] e).kept hb
theorem zAx.parts {W:WN} {B:Nat} {v:Int} (h:zAx W B v): ∃A n c l,(W.cell? ⟨B,0,none⟩=some (.bool (decide (v<0)))/\W.cell? ⟨B,1,none⟩=some (.slice A n c))/\Is l v.natAbs/\Rd W A n c l:=by
 obtain ⟨A,n,c,l,h1,h2,h3⟩:=h
 exact ⟨A,n,c,l,⟨h1.cell 0,h1.cell 1⟩,h2,h3⟩
theorem zGS {w w1:WN} {v:Int} {b:Nat} {t:WP} {x0:Bool} {A0:WQ Addr} {n0 c0:Nat} {A2:WQ Addr} {n2 c2:Nat} {l2:List Nat} (hq:q6 w1 b t #[.bool x0, .slice A0 n0 c0]) (hb:Below w.heap.size w w1) (hB:w.heap.size<=b) (hi:Is l2 v.natAbs) (hr:Rd w1 A2 n2 c2 l2):
  qR w v (.returned (.agg #[.bool (decide (v<0)), .slice A2 n2 c2])) ((w1.setCell ⟨b,0,none⟩ (.bool (decide (v<0)))).setCell ⟨b,1,none⟩ (.slice A2 n2 c2)):=
 ⟨A2,n2,c2,l2,rfl,hi,(hr.setN hq (i:=0) rfl (fun _=>by simp) _).setN (hq.set 0 _) (i:=1) rfl (fun _=>by simp) _,(hb.setCell (p:=⟨b,0,none⟩) hB _).setCell (p:=⟨b,1,none⟩) hB _⟩
theorem zGI (s:Bool) (A:WQ Addr) (n c:Nat) (l:List Nat) (w:WN) (h:Rd w A n c l) (ht:Lt l) (hl:n<=1099511627776):
  Calls prog 115 #[.agg #[.bool s, .slice A n c]] w (qR w (iv s l)):=by
 go_enter func115,ntmps115
 go_wp2_with (go_at_call 116;refine (zEI s A n c l _ ((h.alloc _).alloc _) ht hl).mono ?_;rintro e w1 ⟨B,rfl,hB,hn,hb⟩;obtain ⟨A2,n2,c2,l2,⟨g0,g1⟩,hi2,hr2⟩:=hn.parts;have hq:=zJB hb (b:=w.heap.size+1) fE;obtain ⟨⟨q0,q1⟩,q2,q3⟩:=hq.facts2)
 obtain ⟨⟨c0,c1⟩,_,_⟩:=((hq.set 0 (.bool (decide (iv s l<0)))).set 1 (.slice A2 n2 c2)).facts2
 refine bQ (v:= .agg #[.bool (decide (iv s l<0)), .slice A2 n2 c2]) (by simp [results,results115,go_sem,c0,c1]) rfl ?_
 exact zGS hq ((((bI _ w).alloc (bH _) _).alloc fE _).trans (hb.mono (by simp;omega))) fE hi2 hr2
theorem zPi (s:Bool) (l:List Nat):iv (!s) l= -iv s l:=by
 unfold iv
 cases s<;>simp
theorem zIH (s:Bool) (A:WQ Addr) (n c:Nat) (l:List Nat) (w:WN) (h:Rd w A n c l) (ht:Lt l) (hl:n<=1099511627776):
  Calls prog 92 #[.agg #[.bool s, .slice A n c]] w (qR w (-iv s l)):=by
 go_enter func92,ntmps92
 go_wp2_with (go_at_call 115;refine (zGI (!s) A n c l _ ((h.alloc _).alloc _) ht hl).mono ?_;rintro e w1 ⟨A2,n2,c2,l2,rfl,hi2,hr2,hb⟩;have hq:=zJB hb (b:=w.heap.size+1) fE;obtain ⟨⟨q0,q1⟩,q2,q3⟩:=hq.facts2)
 obtain ⟨⟨c0,c1⟩,_,_⟩:=((hq.set 0 (.bool (decide (iv (!s) l<0)))).set 1 (.slice A2 n2 c2)).facts2
 refine bQ (v:= .agg #[.bool (decide (iv (!s) l<0)), .slice A2 n2 c2]) (by simp [results,results92,go_sem,c0,c1]) rfl ?_
 rw [<-zPi]
 exact zGS hq ((((bI _ w).alloc (bH _) _).alloc fE _).trans (hb.mono (by simp;omega))) fE hi2 hr2
theorem zNm (B:Nat) (v:Int) (w:WN) (h:zAx w B v):
  Calls prog 117 #[.pointer (some ⟨B,0,none⟩)] w fun e w'=>e= .returned (.int .i64 v.sign)/\Below w.heap.size w w':=by
 obtain ⟨A2,n2,c2,l2,hb,hi2,hr2⟩:=h
 have g0:=fun o=>(hb.alloc o).facts2.1.1
 have g1:=fun o=>(hb.alloc o).facts2.1.2
 have hz:=hi2.zero_iff
 have hlen:=hr2.len
 rw [hlen] at hz
 rcases Int.lt_trichotomy v 0 with hv|rfl|hv
 ·rw [bK hv] at g0
  have hn:(1:Int)<=n2:=by omega
  rw [Int.sign_eq_neg_one_of_neg hv]
  go_enter func117,ntmps117
  go_wp2
  all_goals
   first|done|(go_ret;exact ⟨rfl,(bI _ w).alloc (bH _) _⟩)
 ·obtain rfl:n2=0:=hz.1 rfl
  rw [bL oE] at g0
  go_enter func117,ntmps117
  go_wp2
  all_goals
   first|done|(go_ret;exact ⟨rfl,(bI _ w).alloc (bH _) _⟩)
 ·rw [bL oE] at g0
  rw [Int.sign_eq_one_of_pos hv]
  rcases (by omega:n2=1∨1<n2) with rfl|hn
  all_goals
   go_enter func117,ntmps117
   go_wp2
   all_goals
    first|done|(go_ret;exact ⟨rfl,(bI _ w).alloc (bH _) _⟩)
theorem zGH (s:Bool) (A:WQ Addr) (n c:Nat) (l:List Nat) (w:WN) (h:Rd w A n c l) (ht:Lt l) (hl:n<=1099511627776):
  Calls prog 93 #[.agg #[.bool s, .slice A n c]] w fun e w'=>e= .returned (.int .i64 (iv s l).sign)/\Below w.heap.size w w':=by
 go_enter func93,ntmps93
 go_wp2_with (first|(go_at_call 116;refine (zEI s A n c l _ (h.alloc _) ht hl).mono ?_;rintro e w1 ⟨B,rfl,hB,hn,hb⟩)|(go_at_call 117;refine (zNm _ _ _ hn).mono ?_;rintro e w2 ⟨rfl,hb2⟩))
 go_ret
 have hb3:=((bI _ w).alloc (bH _) (.cells #[.bool s, .slice A n c] 27)).trans (hb.mono fE)
 exact ⟨rfl,hb3.trans (hb2.mono hb3.size)⟩
theorem zNi (k:Nat) (hk2:k<=9223372036854775807) (w:WN):
  Calls prog 61 #[.int .i64 k] w (qR w k):=by
 have hk0:(0:Int)<=k:=cB k
 go_enter func61,ntmps61
 go_wp2_with (go_at_call 88;refine (zI4 k oE _).mono ?_;rintro e w1 ⟨A2,n2,c2,l2,rfl,hi2,hr2,hb⟩;have hq:=zJB hb (b:=w.heap.size) rfl;obtain ⟨⟨q0,q1⟩,q2,q3⟩:=hq.facts2)
 obtain ⟨⟨c0,c1⟩,_,_⟩:=((hq.set 0 (.bool (decide ((k:Int)<0)))).set 1 (.slice A2 n2 c2)).facts2
 rw [show (Value.bool false)= .bool (decide ((k:Int)<0)) from by rw [bL oE]] at*
 refine bQ (v:= .agg #[.bool (decide ((k:Int)<0)), .slice A2 n2 c2]) (by simp [results,results61,go_sem,c0,c1]) rfl ?_
 exact zGS hq (((bI _ w).alloc (bH _) _).trans (hb.mono fE)) fE hi2 hr2
theorem zNj (k:Nat) (hk0:0<k) (hk2:k<=9223372036854775808) (w:WN):
  Calls prog 61 #[.int .i64 (-(k:Int))] w (qR w (-(k:Int))):=by
 have hk1:(-(k:Int))<0:=by omega
 have hww:IntKind.u64.wrap (-IntKind.u64.wrap (-(k:Int)))=(k:Int):=by
  simp only [IntKind.wrap,IntKind.bits,IntKind.signed];simp;omega
 go_enter func61,ntmps61
 go_wp2_with (go_at_call 88;refine (zI4 k oE _).mono ?_;rintro e w1 ⟨A2,n2,c2,l2,rfl,hi2,hr2,hb⟩;have hq:=zJB hb (b:=w.heap.size) rfl;obtain ⟨⟨q0,q1⟩,q2,q3⟩:=hq.facts2)
 obtain ⟨⟨c0,c1⟩,_,_⟩:=((hq.set 0 (.bool true)).set 1 (.slice A2 n2 c2)).facts2
 refine bQ (v:= .agg #[.bool true, .slice A2 n2 c2]) (by simp [results,results61,go_sem,c0,c1]) rfl ?_
 have e1:decide (-(k:Int)<0)=true:=bK hk1
 have:=zGS (v:= -(k:Int)) hq (((bI _ w).alloc (bH _) _).trans (hb.mono fE)) fE (by simpa using hi2) hr2
 rw [e1] at this
 exact this
theorem zIG (k:Int) (hk: -9223372036854775808<=k) (hk2:k<=9223372036854775807) (w:WN):
  Calls prog 61 #[.int .i64 k] w (qR w k):=by
 rcases (by omega:0<=k∨k<0) with h|h
 ·obtain ⟨m,rfl⟩:=cN h
  exact zNi m oE w
 ·obtain ⟨m,hm⟩:=cN (show 0<=-k by omega)
  obtain rfl:k= -(m:Int):=by omega
  exact zNj m oE oE w
end Go.Proofs.Wd

namespace Go.Proofs.Wd
open Tryz
set_option maxRecDepth 100000
set_option maxHeartbeats 1000000
open Go.RowKit Lb
attribute [local go_sem] Oper.semAt_some qF yF
theorem zNd (A:WQ Addr) (n c:Nat) (l:List Nat) (A':WQ Addr) (n' c':Nat) (l':List Nat) (w:WN) (h:Rd w A n c l) (h':Rd w A' n' c' l') (ht:Lt l) (ht':Lt l') (hge:val l<val l'):
  Calls prog 140 #[.slice A n c, .slice A' n' c'] w fun e w'=>e= .returned (.tuple #[.slice none 0 0, .int .i64 10])/\Below w.heap.size w w':=by
 have hcmp:decide (zAB (val l) (val l')<0)=true:=by
  unfold zAB
  rw [if_pos oE]
  rfl
 refine qZ func140 rfl ?_
 simp only [ntmps140,cD,cE,cF,Nat.reduceAdd,Nat.reduceSub,cG,cH,cI,cJ,bX,cK]
 go_wp2_with (go_at_call 147;refine (zE7 A n c l A' n' c' l' _ h h' ht ht').mono ?_;rintro e w1 ⟨rfl,rfl⟩)
 exact qD (B:=w.heap.size) w (fun w' _=>results_tmp2 rfl _ _ w') [] _ _ (Marks.nil _ _) (Oth.refl _ _) fun w' ho=>⟨rfl,zAf (bI _ w) ho (bH _)⟩
theorem zMG (A:WQ Addr) (n c:Nat) (w:WN):
  Calls prog 118 #[.slice A n c] w fun e w'=>e= .returned (.func (.func 138) #[] #[.pointer (some ⟨w.heap.size,0,none⟩)])/\w'=w.alloc (.cells #[.slice A n c] 88):=by
 go_enter func118,ntmps118
 go_wp2
 go_ret
 exact ⟨rfl,rfl⟩
structure IRdM (m:Nat) (w:World) (A:Option Addr) (n:Nat) (is:List (Bool×List Nat)):Prop where
 len:is.length=n
 cells: ∀i,i<n-> ∃b o s Ai ni ci li,A=some ⟨b,o,none⟩/\w.cell? ⟨b,o+i*2,none⟩=some (.bool s)/\w.cell? ⟨b,o+i*2+1,none⟩=some (.slice Ai ni ci)/\is[i]?=some (s,li)/\Rd w Ai ni ci li/\Lt li/\ni<=m
theorem IRdM.keep {m:Nat} {w w':WN} {A:WQ Addr} {n:Nat} {is:List (Bool×List Nat)} (h:IRdM m w A n is) (hk: ∀p:Addr,p.block<w.heap.size->w'.cell? p=w.cell? p):IRdM m w' A n is:=
 ⟨h.len,fun i hi=>by
  obtain ⟨b,o,s,Ai,ni,ci,li,e,hc,hc',h1,h2,h3⟩:=h.cells i hi
  exact ⟨b,o,s,Ai,ni,ci,li,e,(hk _ (World.block_lt_of_cell? w _ hc)).trans hc,(hk _ (World.block_lt_of_cell? w _ hc')).trans hc',h1,h2.keep hk,h3⟩⟩
theorem IRdM.below {m:Nat} {w w':WN} {A:WQ Addr} {n:Nat} {is:List (Bool×List Nat)} (h:IRdM m w A n is) (hb:Below w.heap.size w w'):IRdM m w' A n is:=h.keep fun _ hp=>hb.cell hp
abbrev IRd:=IRdM 1099511627776
def zDP (is:List (Bool×List Nat)) (k:Nat):Int:=(is[k]?.map fun p=>iv p.1 p.2).getD 0
def zVs (N0:Nat) (is:List (Bool×List Nat)) (k:Nat) (xs:Array WO) (W:WN):Prop:= ∃B,xs=#[.pointer (some ⟨B,0,none⟩)]/\N0<=B/\zAx W B (zDP is k)
def zFb (S:Nat->Prop) (A B:WN):Prop:=y5 S A B/\A.heap.size<=B.heap.size
theorem zFb.trans {S:Nat->Prop} {A B C:WN} (h:zFb S A B) (k:zFb S B C):zFb S A C:=⟨h.1.trans k.1,bJ h.2 k.2⟩
theorem zGd {S:Nat->Prop} {n:Nat} (hS: ∀b,S b->b<n) (W:WN) (l:Nat) (o o':Obj) (hl:n<=l) (h1:W.heap[l]?=some o) (h2:o.isCells=false):zFb S W (W.putObj l o'):=
 ⟨zCZ hS W l o o' hl h1 h2,Nat.le_of_eq (World.putObj_size ..).symm⟩
theorem zHy (A:WQ Addr) (n c:Nat) (is:List (Bool×List Nat)) (b1:Nat) (w w0:WN) (h:IRd w A n is) (hw0:Below w.heap.size w w0) (hn:n<=c) (hc:c<=9223372036854775807)
  (hc1:w0.cell? ⟨b1,0,none⟩=some (.slice A n c)) {S:Nat->Prop} (hS: ∀b,S b->b<w0.heap.size) (_hS1:S b1) (hSA: ∀b,b<w.heap.size->S b):
  zOO prog 138 #[.pointer (some ⟨b1,0,none⟩)] (zVs w0.heap.size is) n (zFb S) Mk (fun _=>True) w0:=by
 intro lp J W hW hJ hY h0
 have hl1:=z4 hc1
 have hw1:=(hW.cell (p:=⟨b1,0,none⟩) hl1).trans hc1
 refine zBu func138 rfl ?_
 simp only [ntmps138,cD,cE,cF,Nat.reduceAdd,Nat.reduceSub,cG,cH,cI,cJ,bX,cK]
 gi_wp2
 gi_loopw [7] (fun i wr=> ∃k:Nat,k<=n/\i= .int .i64 k/\J k wr/\y5 S w0 wr/\w0.heap.size<=wr.heap.size) (fun i _=>n - (intOf i).toNat)
 case atStart=>exact ⟨0,bY _,rfl,h0,wP hW hS,hW.size⟩
 case round=>
  obtain ⟨k,hk,rfl,hj,hb,hz⟩:=hrel
  by_cases hkn:k<n
  ·obtain ⟨b,o,s,Ai,ni,ci,li,rfl,p1,p2,hi,hr,hli,hni⟩:=(h.keep (w':=wr) fun p hp=>(hb.cell (hSA _ hp)).trans (hw0.cell hp)).cells k hkn
   have hid1:zDP is k=iv s li:=by simp [zDP,hi]
   have hjk:=hJ k wr
   gi_wp2_with (first|(gi_at_call 116;refine bV (bW.2 (zEI s Ai ni ci li _ (hr.alloc _) hli hni)) ?_;rintro e w2 ⟨B2,rfl,hB2,hn2,hb2⟩;have hmk:Mk wr w2:=((bI _ wr).alloc (bH _) _).trans (hb2.mono fE);obtain ⟨fn,tmps,assign,body,hy,hR⟩:=hY k w2 #[.pointer (some ⟨B2,0,none⟩)] hkn (hjk _ hj hmk) ⟨B2,rfl,bJ hz (bJ fE hB2),by rw [hid1];exact hn2⟩)|(refine hR.mono ?_;rintro e W3 ⟨rfl,hJ3,hk3⟩))
   refine ⟨⟨k+1,by omega,rfl,hJ3,(hb.trans (wP hmk fun b hb=>bU (hS b hb) hz)).trans hk3.1,bJ hz (bJ hmk.size hk3.2)⟩, ?_⟩
   simp [intOf]
   omega
  ·obtain rfl:k=n:=by omega
   gi_wp2
   go_end0
   exact ⟨⟨_,rfl⟩,hj,trivial⟩
end Go.Proofs.Wd

namespace Go.Proofs.Wd
open Tryz
set_option maxRecDepth 100000
set_option maxHeartbeats 1000000
open Go.RowKit Lb
attribute [local go_sem] Oper.semAt_some qF yF
theorem zHa (B B':Nat) (v v':Int) (k:Nat) (w:WN) (h:zAx w B v) (h':zAx w B' v') (_hne:B'≠B) (hv:v.natAbs<BB^k) (hv':v'.natAbs<BB^k) (hk:k<=1000000) (hs:decide (v<0)=decide (v'<0)):
  Calls prog 126 #[.pointer (some ⟨B,0,none⟩), .pointer (some ⟨B',0,none⟩)] w fun e w'=>(∃u,e= .returned u)/\zAx w' B (v+v')/\w.grownBy w' (some B):=by
 obtain ⟨A,n,c,l,hb,hi,hr⟩:=h
 obtain ⟨A',n',c',l',hb',hi',hr'⟩:=h'
 have hn:n<=k:=by rw [<-hr.len];exact hi.len hv
 have hn':n'<=k:=by rw [<-hr'.len];exact hi'.len hv'
 obtain ⟨⟨g0,g1⟩,g2,g3⟩:=hb.facts2
 obtain ⟨⟨k0,k1⟩,k2,k3⟩:=hb'.facts2
 go_enter func126,ntmps126
 have hmix:prog.follows .mixedOrders=true:=by kernel_rfl
 ·go_wp2_with (first|go_region|fail)
  refine (cO (n:=0)).1 ?_
  refine yC 16 (fun W=>(W.cell? ⟨B,0,none⟩=some (.bool (decide (v<0)))/\W.cell? ⟨B,1,none⟩=some (.slice A n c))/\W.cell? ⟨B',0,none⟩=some (.bool (decide (v'<0)))/\W.cell? ⟨B',1,none⟩=some (.slice A' n' c')) hmix ?_
  have d1:=And.intro (And.intro g0 g1) (And.intro k0 k1)
  refine zP (i:=0) (v:= ?vv1) kA kA rfl kA kA kA fD d1 ⟨.inl ⟨rfl, ?yy1⟩,fun _=>rfl⟩ ?_
  case yy1=>
   rintro wx ⟨⟨q1,q2⟩,q3,q4⟩
   go_simp
   first|done|rfl
  refine zP (i:=1) (v:= ?vv2) kA kA rfl kA kA kA fD d1 ⟨.inl ⟨rfl, ?yy2⟩,fun _=>rfl⟩ ?_
  case yy2=>
   rintro wx ⟨⟨q1,q2⟩,q3,q4⟩
   go_simp
   first|done|rfl
  refine zP (i:=2) (v:= ?vv3) kA kA rfl kA kA kA fD d1 ⟨.inl ⟨rfl, ?yy3⟩,fun _=>rfl⟩ ?_
  case yy3=>
   rintro wx ⟨⟨q1,q2⟩,q3,q4⟩
   go_simp
   first|done|rfl
  refine zP (i:=3) (v:= ?vv4) kA kA rfl kA kA kA fD d1 ⟨.inl ⟨rfl, ?yy4⟩,fun _=>rfl⟩ ?_
  case yy4=>
   rintro wx ⟨⟨q1,q2⟩,q3,q4⟩
   go_simp
   first|done|rfl
  refine zP (i:=4) (v:= ?vv5) kA kA rfl kA kA kA fD d1 ⟨.inl ⟨rfl, ?yy5⟩,fun _=>rfl⟩ ?_
  case yy5=>
   rintro wx ⟨⟨q1,q2⟩,q3,q4⟩
   go_simp
   first|done|rfl
  refine zP (i:=5) (v:= ?vv6) kA kA rfl kA kA kA fD d1 ⟨.inl ⟨rfl, ?yy6⟩,fun _=>rfl⟩ ?_
  case yy6=>
   rintro wx ⟨⟨q1,q2⟩,q3,q4⟩
   go_simp
   first|done|rfl
  refine zP (i:=6) (v:= ?vv7) kA kA rfl kA kA kA fD d1 ⟨.inl ⟨rfl, ?yy7⟩,fun _=>rfl⟩ ?_
  case yy7=>
   rintro wx ⟨⟨q1,q2⟩,q3,q4⟩
   go_simp
   first|done|rfl
  refine zP (i:=7) (v:= ?vv8) kA kA rfl kA kA kA fD d1 ⟨.inl ⟨rfl, ?yy8⟩,fun _=>rfl⟩ ?_
  case yy8=>
   rintro wx ⟨⟨q1,q2⟩,q3,q4⟩
   go_simp
   first|done|rfl
  refine zP (i:=8) (v:= ?vv9) kA kA rfl kA kA kA fD d1 ⟨.inl ⟨rfl, ?yy9⟩,fun _=>rfl⟩ ?_
  case yy9=>
   rintro wx ⟨⟨q1,q2⟩,q3,q4⟩
   go_simp
   first|done|rfl
  refine zP (i:=9) (v:= ?vv10) kA kA rfl kA kA kA fD d1 ⟨.inl ⟨rfl, ?yy10⟩,fun _=>rfl⟩ ?_
  case yy10=>
   rintro wx ⟨⟨q1,q2⟩,q3,q4⟩
   go_simp
   first|done|rfl
  refine zP (i:=10) (v:= ?vv11) kA kA rfl kA kA kA fD d1 ⟨.inl ⟨rfl, ?yy11⟩,fun _=>rfl⟩ ?_
  case yy11=>
   rintro wx ⟨⟨q1,q2⟩,q3,q4⟩
   go_simp
   first|done|rfl
  refine zAA (i:=11) kA rfl (fun K hK=> ?_)
  go_simp
  have hW1:Below w.heap.size w (w.alloc (.cells #[.slice A n c, .slice A' n' c'] 25)).drew.drew:=(((bI _ w).alloc (bH _) _).drew).drew
  have hds:Rds (w.alloc (.cells #[.slice A n c, .slice A' n' c'] 25)).drew.drew (some ⟨w.heap.size,0,none⟩) 2 [l,l']:=(Rds.two hr hi.lt oE hr' hi'.lt oE 25).below (((bI _ _).drew).drew)
  generalize hW:(w.alloc (.cells #[.slice A n c, .slice A' n' c'] 25)).drew.drew=W1 at*
  have hb1:=hb.kept hW1;have hb1':=hb'.kept hW1
  refine hK _ _ (.inr ⟨hb1.facts2.1,hb1'.facts2.1⟩) ?_
  clear hK K
  refine zAA (i:=12) kA rfl (fun K hK=> ?_)
  go_simp
  refine bV (bW.2 (zMJ _ 2 2 _ W1 hds oE)) ?_
  rintro e w2 ⟨A2,n2,c2,l2,rfl,hi2,hr2,hb2⟩
  have hB2:Below w.heap.size w w2:=hW1.trans (hb2.mono hW1.size)
  have hb3:=hb.kept hB2;have hb3':=hb'.kept hB2
  obtain ⟨⟨m0,m1⟩,m2,m3⟩:=hb3.facts2
  have d3:=And.intro hb3.facts2.1 hb3'.facts2.1
  refine hK _ _ (.inr ⟨hb3.facts2.1,hb3'.facts2.1⟩) ?_
  clear hK K
  refine zAA (i:=13) kA rfl (fun K hK=> ?_)
  go_simp
  refine hK _ _ (.inr d3) ?_
  clear hK K
  refine zAA (i:=14) kA rfl (fun K hK=> ?_)
  go_simp
  refine hK _ _ (.inr d3) ?_
  clear hK K
  refine zAA (i:=15) kA rfl (fun K hK=> ?_)
  go_simp
  refine hK _ _ (.inr d3) ?_
  clear hK K
  refine zAA (i:=16) kA rfl (fun K hK=> ?_)
  go_simp
  refine hK _ _ (.inl rfl) ?_
  clear hK K
  refine zCb kA ?_
  have hv2:iv (decide (v<0)) l2=v+v':=by
   unfold iv
   rw [hi2.val]
   simp only [List.map_cons,List.map_nil,List.sum_cons,List.sum_nil,hi.val,hi'.val]
   by_cases h0:v<0
   ·have h1:v'<0:=by rw [bK h0] at hs;exact of_decide_eq_true hs.symm
    rw [bK h0]
    simp only [if_true]
    omega
   ·have h1: ¬v'<0:=by rw [bL h0] at hs;exact of_decide_eq_false hs.symm
    rw [bL h0]
    simp only [cL,cM]
    omega
  have hn2:n2<=k+1:=by
   rw [<-hr2.len]
   refine hi2.len ?_
   simp only [List.map_cons,List.map_nil,List.sum_cons,List.sum_nil,hi.val,hi'.val,bT]
   unfold BB at*
   omega
  go_wp2_with (go_at_call 137;refine (zDo B _ A2 n2 c2 l2 _ (hb3.set 1 _) (hr2.setN hb3 (i:=1) rfl (fun _=>by simp) _) hi2.lt oE).mono ?_;rintro e w4 ⟨rfl,hn4,hg4⟩)
  refine bQ (results_none rfl _ _ _) rfl ⟨⟨_,rfl⟩,by rw [hv2] at hn4;exact hn4,((zBX hB2).but (some B)).trans ((qB w2 ⟨B,1,none⟩ _).trans hg4)⟩
end Go.Proofs.Wd

namespace Go.Proofs.Wd
open Tryz
set_option maxRecDepth 100000
set_option maxHeartbeats 1000000
open Go.RowKit Lb
attribute [local go_sem] Oper.semAt_some qF yF
theorem zJR (B B':Nat) (v v':Int) (k:Nat) (w:WN) (h:zAx w B v) (h':zAx w B' v') (_hne:B'≠B) (hv:v.natAbs<BB^k) (hv':v'.natAbs<BB^k) (hk:k<=1000000) (hs:(decide (v<0)==decide (v'<0))=false) (hlt:v'.natAbs<=v.natAbs):
  Calls prog 126 #[.pointer (some ⟨B,0,none⟩), .pointer (some ⟨B',0,none⟩)] w fun e w'=>(∃u,e= .returned u)/\zAx w' B (v+v')/\w.grownBy w' (some B):=by
 obtain ⟨A,n,c,l,hb,hi,hr⟩:=h
 obtain ⟨A',n',c',l',hb',hi',hr'⟩:=h'
 have hn:n<=k:=by rw [<-hr.len];exact hi.len hv
 have hn':n'<=k:=by rw [<-hr'.len];exact hi'.len hv'
 obtain ⟨⟨g0,g1⟩,g2,g3⟩:=hb.facts2
 obtain ⟨⟨k0,k1⟩,k2,k3⟩:=hb'.facts2
 have hmix:prog.follows .mixedOrders=true:=by kernel_rfl
 go_enter func126,ntmps126
 go_wp2_with (first|go_region|fail)
 have d1:=And.intro (And.intro g0 g1) (And.intro k0 k1)
 refine (cO (n:=0)).1 ?_
 refine yC 100 (fun W=>(W.cell? ⟨B,0,none⟩=some (.bool (decide (v<0)))/\W.cell? ⟨B,1,none⟩=some (.slice A n c))/\W.cell? ⟨B',0,none⟩=some (.bool (decide (v'<0)))/\W.cell? ⟨B',1,none⟩=some (.slice A' n' c')) hmix ?_
 refine zP (i:=0) (v:= ?vv1) kA kA rfl kA kA kA fD d1 ⟨.inl ⟨rfl, ?yy1⟩,fun _=>rfl⟩ ?_
 case yy1=>
  rintro wx ⟨⟨q1,q2⟩,q3,q4⟩
  go_simp
  first|done|rfl
 refine zP (i:=1) (v:= ?vv2) kA kA rfl kA kA kA fD d1 ⟨.inl ⟨rfl, ?yy2⟩,fun _=>rfl⟩ ?_
 case yy2=>
  rintro wx ⟨⟨q1,q2⟩,q3,q4⟩
  go_simp
  first|done|rfl
 refine zP (i:=2) (v:= ?vv3) kA kA rfl kA kA kA fD d1 ⟨.inl ⟨rfl, ?yy3⟩,fun _=>rfl⟩ ?_
 case yy3=>
  rintro wx ⟨⟨q1,q2⟩,q3,q4⟩
  go_simp
  first|done|rfl
 refine zP (i:=3) (v:= ?vv4) kA kA rfl kA kA kA fD d1 ⟨.inl ⟨rfl, ?yy4⟩,fun _=>rfl⟩ ?_
 case yy4=>
  rintro wx ⟨⟨q1,q2⟩,q3,q4⟩
  go_simp
  first|done|rfl
 refine zP (i:=4) (v:= ?vv5) kA kA rfl kA kA kA fD d1 ⟨.inl ⟨rfl, ?yy5⟩,fun _=>rfl⟩ ?_
 case yy5=>
  rintro wx ⟨⟨q1,q2⟩,q3,q4⟩
  go_simp
  first|done|rfl
 refine zP (i:=5) (v:= ?vv6) kA kA rfl kA kA kA fD d1 ⟨.inl ⟨rfl, ?yy6⟩,fun _=>rfl⟩ ?_
 case yy6=>
  rintro wx ⟨⟨q1,q2⟩,q3,q4⟩
  go_simp
  first|done|rfl
 refine zP (i:=6) (v:= ?vv7) kA kA rfl kA kA kA fD d1 ⟨.inl ⟨rfl, ?yy7⟩,fun _=>rfl⟩ ?_
 case yy7=>
  rintro wx ⟨⟨q1,q2⟩,q3,q4⟩
  go_simp
  first|done|rfl
 refine zP (i:=7) (v:= ?vv8) kA kA rfl kA kA kA fD d1 ⟨.inl ⟨rfl, ?yy8⟩,fun _=>rfl⟩ ?_
 case yy8=>
  rintro wx ⟨⟨q1,q2⟩,q3,q4⟩
  go_simp
  first|done|rfl
 refine zP (i:=8) (v:= ?vv9) kA kA rfl kA kA kA fD d1 ⟨.inl ⟨rfl, ?yy9⟩,fun _=>rfl⟩ ?_
 case yy9=>
  rintro wx ⟨⟨q1,q2⟩,q3,q4⟩
  go_simp
  first|done|rfl
 refine zP (i:=9) (v:= ?vv10) kA kA rfl kA kA kA fD d1 ⟨.inl ⟨rfl, ?yy10⟩,fun _=>rfl⟩ ?_
 case yy10=>
  rintro wx ⟨⟨q1,q2⟩,q3,q4⟩
  go_simp
  first|done|rfl
 refine zAA (i:=10) kA rfl (fun K hK=> ?_)
 go_simp
 refine bV (bW.2 (zHI A n c l A' n' c' l' _ (hr.below (((bI _ w).drew).drew)) (hr'.below (((bI _ w).drew).drew)) hi.lt hi'.lt (by rw [hi.val,hi'.val];exact hlt) oE oE)) ?_
 rintro e w2 ⟨A2,n2,c2,l2,rfl,hi2,hr2,hb2⟩
 have hB2:Below w.heap.size w w2:=(((bI _ w).drew).drew).trans hb2
 have hb3:=hb.kept hB2;have hb3':=hb'.kept hB2
 obtain ⟨⟨m0,m1⟩,m2,m3⟩:=hb3.facts2
 obtain ⟨⟨p0,p1⟩,p2,p3⟩:=hb3'.facts2
 have d3:=And.intro hb3.facts2.1 hb3'.facts2.1
 refine hK _ _ (.inr d3) ?_
 clear hK K
 refine zAA (i:=11) kA rfl (fun K hK=> ?_)
 go_simp
 refine hK _ _ (.inr d3) ?_
 clear hK K
 refine zP (i:=12) (v:= ?vv11) kA kA rfl kA kA kA fD d3 ⟨.inl ⟨rfl, ?yy11⟩,fun _=>rfl⟩ ?_
 case yy11=>
  rintro wx ⟨⟨q1,q2⟩,q3,q4⟩
  go_simp
  first|done|rfl
 refine zP (i:=13) (v:= ?vv12) kA kA rfl kA kA kA fD d3 ⟨.inl ⟨rfl, ?yy12⟩,fun _=>rfl⟩ ?_
 case yy12=>
  rintro wx ⟨⟨q1,q2⟩,q3,q4⟩
  go_simp
  first|done|rfl
 refine zP (i:=14) (v:= ?vv13) kA kA rfl kA kA kA fD d3 ⟨.inl ⟨rfl, ?yy13⟩,fun _=>rfl⟩ ?_
 case yy13=>
  rintro wx ⟨⟨q1,q2⟩,q3,q4⟩
  go_simp
  first|done|rfl
 refine zP (i:=15) (v:= ?vv14) kA kA rfl kA kA kA fD d3 ⟨.inl ⟨rfl, ?yy14⟩,fun _=>rfl⟩ ?_
 case yy14=>
  rintro wx ⟨⟨q1,q2⟩,q3,q4⟩
  go_simp
  first|done|rfl
 refine zCb kA ?_
 have hv2:iv (decide (v<0)) l2=v+v':=by
  unfold iv
  rw [hi2.val,hi.val,hi'.val]
  have hs':=bZ.1 hs
  by_cases h0:v<0
  ·have h1: ¬v'<0:=fun h1=>hs' (by rw [bK h0,bK h1])
   rw [bK h0]
   simp only [if_true]
   omega
  ·have h1:v'<0:=cS fun h1=>hs' (by rw [bL h0,bL h1])
   rw [bL h0]
   simp only [cL,cM]
   omega
 have hn2:n2<=k:=by
  rw [<-hr2.len]
  exact hi2.len (cP (Nat.sub_le _ _) (by rw [hi.val];exact hv))
 go_wp2_with (go_at_call 137;refine (zDo B _ A2 n2 c2 l2 _ (hb3.set 1 _) (hr2.setN hb3 (i:=1) rfl (fun _=>by simp) _) hi2.lt oE).mono ?_;rintro e w4 ⟨rfl,hn4,hg4⟩)
 go_end0
 exact ⟨⟨_,rfl⟩,by rw [hv2] at hn4;exact hn4,((zBX hB2).but (some B)).trans ((qB w2 ⟨B,1,none⟩ _).trans hg4)⟩
theorem zJQ (B B':Nat) (v v':Int) (k:Nat) (w:WN) (h:zAx w B v) (h':zAx w B' v') (_hne:B'≠B) (hv:v.natAbs<BB^k) (hv':v'.natAbs<BB^k) (hk:k<=1000000) (hs:(decide (v<0)==decide (v'<0))=false) (hlt:v.natAbs<v'.natAbs):
  Calls prog 126 #[.pointer (some ⟨B,0,none⟩), .pointer (some ⟨B',0,none⟩)] w fun e w'=>(∃u,e= .returned u)/\zAx w' B (v+v')/\w.grownBy w' (some B):=by
 obtain ⟨A,n,c,l,hb,hi,hr⟩:=h
 obtain ⟨A',n',c',l',hb',hi',hr'⟩:=h'
 have hn:n<=k:=by rw [<-hr.len];exact hi.len hv
 have hn':n'<=k:=by rw [<-hr'.len];exact hi'.len hv'
 obtain ⟨⟨g0,g1⟩,g2,g3⟩:=hb.facts2
 obtain ⟨⟨k0,k1⟩,k2,k3⟩:=hb'.facts2
 have hmix:prog.follows .mixedOrders=true:=by kernel_rfl
 go_enter func126,ntmps126
 go_wp2_with (first|go_region|fail)
 have d1:=And.intro (And.intro g0 g1) (And.intro k0 k1)
 refine (cO (n:=0)).1 ?_
 refine yC 100 (fun W=>(W.cell? ⟨B,0,none⟩=some (.bool (decide (v<0)))/\W.cell? ⟨B,1,none⟩=some (.slice A n c))/\W.cell? ⟨B',0,none⟩=some (.bool (decide (v'<0)))/\W.cell? ⟨B',1,none⟩=some (.slice A' n' c')) hmix ?_
 refine zP (i:=0) (v:= ?vv15) kA kA rfl kA kA kA fD d1 ⟨.inl ⟨rfl, ?yy15⟩,fun _=>rfl⟩ ?_
 case yy15=>
  rintro wx ⟨⟨q1,q2⟩,q3,q4⟩
  go_simp
  first|done|rfl
 refine zP (i:=1) (v:= ?vv16) kA kA rfl kA kA kA fD d1 ⟨.inl ⟨rfl, ?yy16⟩,fun _=>rfl⟩ ?_
 case yy16=>
  rintro wx ⟨⟨q1,q2⟩,q3,q4⟩
  go_simp
  first|done|rfl
 refine zP (i:=2) (v:= ?vv17) kA kA rfl kA kA kA fD d1 ⟨.inl ⟨rfl, ?yy17⟩,fun _=>rfl⟩ ?_
 case yy17=>
  rintro wx ⟨⟨q1,q2⟩,q3,q4⟩
  go_simp
  first|done|rfl
 refine zP (i:=3) (v:= ?vv18) kA kA rfl kA kA kA fD d1 ⟨.inl ⟨rfl, ?yy18⟩,fun _=>rfl⟩ ?_
 case yy18=>
  rintro wx ⟨⟨q1,q2⟩,q3,q4⟩
  go_simp
  first|done|rfl
 refine zP (i:=4) (v:= ?vv19) kA kA rfl kA kA kA fD d1 ⟨.inl ⟨rfl, ?yy19⟩,fun _=>rfl⟩ ?_
 case yy19=>
  rintro wx ⟨⟨q1,q2⟩,q3,q4⟩
  go_simp
  first|done|rfl
 refine zP (i:=5) (v:= ?vv20) kA kA rfl kA kA kA fD d1 ⟨.inl ⟨rfl, ?yy20⟩,fun _=>rfl⟩ ?_
 case yy20=>
  rintro wx ⟨⟨q1,q2⟩,q3,q4⟩
  go_simp
  first|done|rfl
 refine zP (i:=6) (v:= ?vv21) kA kA rfl kA kA kA fD d1 ⟨.inl ⟨rfl, ?yy21⟩,fun _=>rfl⟩ ?_
 case yy21=>
  rintro wx ⟨⟨q1,q2⟩,q3,q4⟩
  go_simp
  first|done|rfl
 refine zP (i:=7) (v:= ?vv22) kA kA rfl kA kA kA fD d1 ⟨.inl ⟨rfl, ?yy22⟩,fun _=>rfl⟩ ?_
 case yy22=>
  rintro wx ⟨⟨q1,q2⟩,q3,q4⟩
  go_simp
  first|done|rfl
 refine zP (i:=8) (v:= ?vv23) kA kA rfl kA kA kA fD d1 ⟨.inl ⟨rfl, ?yy23⟩,fun _=>rfl⟩ ?_
 case yy23=>
  rintro wx ⟨⟨q1,q2⟩,q3,q4⟩
  go_simp
  first|done|rfl
 refine zP (i:=9) (v:= ?vv24) kA kA rfl kA kA kA fD d1 ⟨.inl ⟨rfl, ?yy24⟩,fun _=>rfl⟩ ?_
 case yy24=>
  rintro wx ⟨⟨q1,q2⟩,q3,q4⟩
  go_simp
  first|done|rfl
 refine zAA (i:=10) kA rfl (fun K hK=> ?_)
 go_simp
 refine bV (bW.2 (zNd A n c l A' n' c' l' _ (hr.below (((bI _ w).drew).drew)) (hr'.below (((bI _ w).drew).drew)) hi.lt hi'.lt (by rw [hi.val,hi'.val];exact hlt))) ?_
 rintro e w2 ⟨rfl,hb2⟩
 have hB2:Below w.heap.size w w2:=(((bI _ w).drew).drew).trans hb2
 have hb3:=hb.kept hB2;have hb3':=hb'.kept hB2
 obtain ⟨⟨m0,m1⟩,m2,m3⟩:=hb3.facts2
 obtain ⟨⟨p0,p1⟩,p2,p3⟩:=hb3'.facts2
 have d3:=And.intro hb3.facts2.1 hb3'.facts2.1
 refine hK _ _ (.inr d3) ?_
 clear hK K
 refine zAA (i:=11) kA rfl (fun K hK=> ?_)
 go_simp
 refine hK _ _ (.inr d3) ?_
 clear hK K
 refine zP (i:=12) (v:= ?vv25) kA kA rfl kA kA kA fD d3 ⟨.inl ⟨rfl, ?yy25⟩,fun _=>rfl⟩ ?_
 case yy25=>
  rintro wx ⟨⟨q1,q2⟩,q3,q4⟩
  go_simp
  first|done|rfl
 refine zP (i:=13) (v:= ?vv26) kA kA rfl kA kA kA fD d3 ⟨.inl ⟨rfl, ?yy26⟩,fun _=>rfl⟩ ?_
 case yy26=>
  rintro wx ⟨⟨q1,q2⟩,q3,q4⟩
  go_simp
  first|done|rfl
 refine zP (i:=14) (v:= ?vv27) kA kA rfl kA kA kA fD d3 ⟨.inl ⟨rfl, ?yy27⟩,fun _=>rfl⟩ ?_
 case yy27=>
  rintro wx ⟨⟨q1,q2⟩,q3,q4⟩
  go_simp
  first|done|rfl
 refine zP (i:=15) (v:= ?vv28) kA kA rfl kA kA kA fD d3 ⟨.inl ⟨rfl, ?yy28⟩,fun _=>rfl⟩ ?_
 case yy28=>
  rintro wx ⟨⟨q1,q2⟩,q3,q4⟩
  go_simp
  first|done|rfl
 refine zCb kA ?_
 go_wp2
 refine (cO (n:=0)).1 ?_
 refine yC 100 (fun W=>(W.cell? ⟨B,0,none⟩=some (.bool (decide (v<0)))/\W.cell? ⟨B,1,none⟩=some (.slice A n c))/\W.cell? ⟨B',0,none⟩=some (.bool (decide (v'<0)))/\W.cell? ⟨B',1,none⟩=some (.slice A' n' c')) hmix ?_
 refine zP (i:=0) (v:= ?vv29) kA kA rfl kA kA kA fD d3 ⟨.inl ⟨rfl, ?yy29⟩,fun _=>rfl⟩ ?_
 case yy29=>
  rintro wx ⟨⟨q1,q2⟩,q3,q4⟩
  go_simp
  first|done|rfl
 refine zP (i:=1) (v:= ?vv30) kA kA rfl kA kA kA fD d3 ⟨.inl ⟨rfl, ?yy30⟩,fun _=>rfl⟩ ?_
 case yy30=>
  rintro wx ⟨⟨q1,q2⟩,q3,q4⟩
  go_simp
  first|done|rfl
 refine zP (i:=2) (v:= ?vv31) kA kA rfl kA kA kA fD d3 ⟨.inl ⟨rfl, ?yy31⟩,fun _=>rfl⟩ ?_
 case yy31=>
  rintro wx ⟨⟨q1,q2⟩,q3,q4⟩
  go_simp
  first|done|rfl
 refine zP (i:=3) (v:= ?vv32) kA kA rfl kA kA kA fD d3 ⟨.inl ⟨rfl, ?yy32⟩,fun _=>rfl⟩ ?_
 case yy32=>
  rintro wx ⟨⟨q1,q2⟩,q3,q4⟩
  go_simp
  first|done|rfl
 refine zP (i:=4) (v:= ?vv33) kA kA rfl kA kA kA fD d3 ⟨.inl ⟨rfl, ?yy33⟩,fun _=>rfl⟩ ?_
 case yy33=>
  rintro wx ⟨⟨q1,q2⟩,q3,q4⟩
  go_simp
  first|done|rfl
 refine zP (i:=5) (v:= ?vv34) kA kA rfl kA kA kA fD d3 ⟨.inl ⟨rfl, ?yy34⟩,fun _=>rfl⟩ ?_
 case yy34=>
  rintro wx ⟨⟨q1,q2⟩,q3,q4⟩
  go_simp
  first|done|rfl
 refine zP (i:=6) (v:= ?vv35) kA kA rfl kA kA kA fD d3 ⟨.inl ⟨rfl, ?yy35⟩,fun _=>rfl⟩ ?_
 case yy35=>
  rintro wx ⟨⟨q1,q2⟩,q3,q4⟩
  go_simp
  first|done|rfl
 refine zP (i:=7) (v:= ?vv36) kA kA rfl kA kA kA fD d3 ⟨.inl ⟨rfl, ?yy36⟩,fun _=>rfl⟩ ?_
 case yy36=>
  rintro wx ⟨⟨q1,q2⟩,q3,q4⟩
  go_simp
  first|done|rfl
 refine zP (i:=8) (v:= ?vv37) kA kA rfl kA kA kA fD d3 ⟨.inl ⟨rfl, ?yy37⟩,fun _=>rfl⟩ ?_
 case yy37=>
  rintro wx ⟨⟨q1,q2⟩,q3,q4⟩
  go_simp
  first|done|rfl
 refine zP (i:=9) (v:= ?vv38) kA kA rfl kA kA kA fD d3 ⟨.inl ⟨rfl, ?yy38⟩,fun _=>rfl⟩ ?_
 case yy38=>
  rintro wx ⟨⟨q1,q2⟩,q3,q4⟩
  go_simp
  first|done|rfl
 refine zAA (i:=10) kA rfl (fun K hK=> ?_)
 go_simp
 have hB2d:=hB2.drew
 refine bV (bW.2 (zHI A' n' c' l' A n c l _ (hr'.below hB2d) (hr.below hB2d) hi'.lt hi.lt (by rw [hi.val,hi'.val];omega) oE oE)) ?_
 rintro e w3 ⟨A2,n2,c2,l2,rfl,hi2,hr2,hb4⟩
 have hB3:Below w.heap.size w w3:=hB2d.trans (hb4.mono hB2d.size)
 have hb5:=hb.kept hB3;have hb5':=hb'.kept hB3
 obtain ⟨⟨s0,s1⟩,s2,s3⟩:=hb5.facts2
 obtain ⟨⟨t0,t1⟩,t2,t3⟩:=hb5'.facts2
 have d5:=And.intro hb5.facts2.1 hb5'.facts2.1
 refine hK _ _ (.inr d5) ?_
 clear hK K
 refine zAA (i:=11) kA rfl (fun K hK=> ?_)
 go_simp
 refine hK _ _ (.inr d5) ?_
 clear hK K
 refine zP (i:=12) (v:= ?vv39) kA kA rfl kA kA kA fD d5 ⟨.inl ⟨rfl, ?yy39⟩,fun _=>rfl⟩ ?_
 case yy39=>
  rintro wx ⟨⟨q1,q2⟩,q3,q4⟩
  go_simp
  first|done|rfl
 refine zP (i:=13) (v:= ?vv40) kA kA rfl kA kA kA fD d5 ⟨.inl ⟨rfl, ?yy40⟩,fun _=>rfl⟩ ?_
 case yy40=>
  rintro wx ⟨⟨q1,q2⟩,q3,q4⟩
  go_simp
  first|done|rfl
 refine zP (i:=14) (v:= ?vv41) kA kA rfl kA kA kA fD d5 ⟨.inl ⟨rfl, ?yy41⟩,fun _=>rfl⟩ ?_
 case yy41=>
  rintro wx ⟨⟨q1,q2⟩,q3,q4⟩
  go_simp
  first|done|rfl
 refine zCb kA ?_
 have hv2:iv (decide (v'<0)) l2=v+v':=by
  unfold iv
  rw [hi2.val,hi.val,hi'.val]
  have hs':=bZ.1 hs
  by_cases h0:v<0
  ·have h1: ¬v'<0:=fun h1=>hs' (by rw [bK h0,bK h1])
   rw [bL h1]
   simp only [cL,cM]
   omega
  ·have h1:v'<0:=cS fun h1=>hs' (by rw [bL h0,bL h1])
   rw [bK h1]
   simp only [if_true]
   omega
 have hn2:n2<=k:=by
  rw [<-hr2.len]
  exact hi2.len (cP (Nat.sub_le _ _) (by rw [hi'.val];exact hv'))
 go_wp2_with (go_at_call 137;refine (zDo B _ A2 n2 c2 l2 _ ((hb5.set 0 _).set 1 _) ((hr2.setN hb5 (i:=0) rfl (fun _=>by simp) _).setN (hb5.set 0 _) (i:=1) rfl (fun _=>by simp) _) hi2.lt oE).mono ?_;rintro e w4 ⟨rfl,hn4,hg4⟩)
 go_end0
 exact ⟨⟨_,rfl⟩,by rw [hv2] at hn4;exact hn4,((zBX hB3).but (some B)).trans ((qB w3 ⟨B,0,none⟩ _).trans ((qB _ ⟨B,1,none⟩ _).trans hg4))⟩
end Go.Proofs.Wd

namespace Go.Proofs.Wd
open Tryz
set_option maxRecDepth 100000
set_option maxHeartbeats 1000000
open Go.RowKit Lb
attribute [local go_sem] Oper.semAt_some qF yF
theorem num_add (B B':Nat) (v v':Int) (k:Nat) (w:WN) (h:zAx w B v) (h':zAx w B' v') (hne:B'≠B) (hv:v.natAbs<BB^k) (hv':v'.natAbs<BB^k) (hk:k<=1000000):
  Calls prog 126 #[.pointer (some ⟨B,0,none⟩), .pointer (some ⟨B',0,none⟩)] w fun e w'=>(∃u,e= .returned u)/\zAx w' B (v+v')/\w.grownBy w' (some B):=by
 by_cases hs:decide (v<0)=decide (v'<0)
 ·exact zHa B B' v v' k w h h' hne hv hv' hk hs
 ·have hs':=bZ.2 hs
  by_cases hlt:v'.natAbs<=v.natAbs
  ·exact zJR B B' v v' k w h h' hne hv hv' hk hs' hlt
  ·exact zJQ B B' v v' k w h h' hne hv hv' hk hs' oE
theorem zFB {W W':WN} {row:WQ Nat} {C:Nat} {p:Addr} {v:WO} (h:W.cell? p=some v) (hg:W.grownBy W' row) (hr: ∀r,row=some r->C<=r/\ ∃o:Obj,W.heap[r]?=some o/\o.isCells=false):W'.cell? p=some v:=by
 refine (World.cell?_of_block (hg.block _ (z4 h) ?_)).trans h
 intro e
 obtain ⟨_,o,ho,hc⟩:=hr _ e.symm
 rw [zDC ho hc] at h
 cases h
theorem Rd.abide {W W':WN} {row:WQ Nat} {C:Nat} {A:WQ Addr} {n c:Nat} {l:List Nat} (h:Rd W A n c l) (hg:W.grownBy W' row) (hr: ∀r,row=some r->C<=r/\ ∃o:Obj,W.heap[r]?=some o/\o.isCells=false):Rd W' A n c l:=
 ⟨h.len,h.le,h.cap,h.nil,fun i hi=>by
  obtain ⟨b,o,e,hc⟩:=h.cells i hi
  exact ⟨b,o,e,zFB hc hg hr⟩⟩
theorem q6.abide {W W':WN} {row:WQ Nat} {C B:Nat} {t:WP} {vs:Array WO} (h:q6 W B t vs) (hg:W.grownBy W' row) (hr: ∀r,row=some r->C<=r/\ ∃o:Obj,W.heap[r]?=some o/\o.isCells=false):q6 W' B t vs:=by
 refine (hg.block B h.lt ?_).trans h
 intro e
 obtain ⟨_,o,ho,hc⟩:=hr B e.symm
 rw [show W.heap[B]?=_ from h] at ho
 cases ho
 cases hc
theorem zAx.abide {W W':WN} {row:WQ Nat} {C B:Nat} {v:Int} (h:zAx W B v) (hg:W.grownBy W' row) (hr: ∀r,row=some r->C<=r/\ ∃o:Obj,W.heap[r]?=some o/\o.isCells=false):zAx W' B v:=by
 obtain ⟨A,n,c,l,h1,h2,h3⟩:=h
 exact ⟨A,n,c,l,h1.abide hg hr,h2,h3.abide hg hr⟩
def zDF (is:List (Bool×List Nat)):Nat->Int
 |0=>0
 |k+1=>zDF is k+zDP is k
def zBW (is:List (Bool×List Nat)):Nat->Int
 |0=>1
 |k+1=>zBW is k*zDP is k
theorem zFy {is:List (Bool×List Nat)} {m:Nat} (h: ∀k,(zDP is k).natAbs<BB^m): ∀k,(zDF is k).natAbs<=k*BB^m
 |0=>by simp [zDF]
 |k+1=>by
  have h1:=zFy h k;have h2:=h k
  rw [Nat.add_mul,Nat.one_mul]
  show (zDF is k+zDP is k).natAbs<=_
  omega
def zS1 (w:WN) (B0 P:Nat) (is:List (Bool×List Nat)) (k:Nat) (W:WN):Prop:=
 zAx W B0 (zDF is k)/\Boxed W P 131 (.pointer (some ⟨B0,0,none⟩))/\q6 W w.heap.size 27 #[.bool false, .slice none 0 0]/\Below w.heap.size w W/\P+2<=W.heap.size
theorem zGO (w:WN) (B0 P:Nat) (is:List (Bool×List Nat)) {C:Nat} (hC:w.heap.size<=C):OwnFrom C (zS1 w B0 P is):=by
 rintro k W W' row ⟨h1,h2,h3,h4,h5⟩ hg hr
 exact ⟨h1.abide hg hr,qQ h2 hg hr,h3.abide hg hr,zAo h4 hg (bH _) hC hr,bJ h5 hg.size⟩
theorem zIM (A:WQ Addr) (n c:Nat) (is:List (Bool×List Nat)) (m:Nat) (w:WN) (h:IRd w A n is) (hn:n<=c) (hc:c<=9223372036854775807) (hm:m<=900000) (hv: ∀k,(zDP is k).natAbs<BB^m) (hnn:n<=1000000:=by first|omega|decide):
  Calls prog 100 #[.slice A n c] w (qR w (zDF is n)):=by
 refine qZ func100 rfl ?_
 simp only [ntmps100,cD,cE,cF,Nat.reduceAdd,Nat.reduceSub,cG,cH,cI,cJ,bX,cK]
 go_wp2_with (first|(go_at_call 116;refine (zEI false none 0 0 [] _ (wK _) zBE oE).mono ?_;rintro e w1 ⟨B0,rfl,hB0,hn0,hb0⟩)|(go_at_call 118;refine (zMG A n c _).mono ?_;rintro e w2 ⟨rfl,rfl⟩))
 have hiv0:iv false []=0:=rfl
 rw [hiv0] at hn0
 obtain ⟨W0,hW0⟩: ∃W0,((w1.alloc (.cells #[.pointer (some ⟨B0,0,none⟩)] 131)).alloc (.cells #[.slice A n c] 88))=W0:=⟨_,rfl⟩
 have hsz:W0.heap.size=w1.heap.size+2:=by rw [<-hW0];simp
 have hB0l:=hn0.lt
 have hB0g:w.heap.size<B0:=bU fE hB0
 have hbw1:Below w.heap.size w w1:=((bI _ w).alloc (bH _) _).trans (hb0.mono fE)
 have hB1:Below w.heap.size w W0:=by rw [<-hW0];exact (hbw1.alloc hbw1.size _).alloc (by simp;exact Nat.le_succ_of_le hbw1.size) _
 have x0:zAx W0 B0 0:=by rw [<-hW0];exact hn0.kept (((bI _ w1).alloc (bH _) _).alloc fE _)
 have x1:Boxed W0 w1.heap.size 131 (.pointer (some ⟨B0,0,none⟩)):=by rw [<-hW0];exact (bO w1 _ _).alloc _
 have x2:Boxed W0 (w1.heap.size+1) 88 (.slice A n c):=by rw [<-hW0];exact zAw _ _ _ fE
 have x3:q6 W0 w.heap.size 27 #[.bool false, .slice none 0 0]:=by rw [<-hW0];exact ((zJB hb0 rfl).alloc _).alloc _
 rw [hW0]
 clear hW0
 have hSb: ∀b,(b<w.heap.size∨b=w1.heap.size+1)->b<W0.heap.size:=fun b hb=>by have:=hbw1.size;omega
 refine zCc (gf:=138) rfl (enters_of func138 kA rfl) (zHy A n c is (w1.heap.size+1) w W0 h hB1 hn hc x2.cell (S:=fun b=>b<w.heap.size∨b=w1.heap.size+1) hSb (.inr rfl) (fun b hb=> .inl hb)) ?hE ?hps zFb.trans (zGd hSb)
  (zS1 w B0 w1.heap.size is) (zGO w B0 _ is hB1.size) (zBv (zGO w B0 _ is (bH _))) wO (fun _ _ _ _ _ _ _ _=>trivial) ⟨x0,x1,x3,hB1,Nat.le_of_eq hsz.symm⟩
  (fun xs=>{ tmps:=#[.slice A n c,undef, .pointer (some ⟨w.heap.size,0,none⟩), .pointer (some ⟨w1.heap.size,0,none⟩),xs.getD 0 undef, .agg #[.bool false, .slice none 0 0], .pointer (some ⟨B0,0,none⟩), .slice A n c, .func (.func 138) #[] #[.pointer (some ⟨w1.heap.size+1,0,none⟩)],xs.getD 0 undef,undef,undef,undef,undef,undef,undef,undef],defers:= [] }) ?assign ?body ?done
 case hE=>
  rintro k xs W l o o' ⟨B,rfl,h1,h2⟩ ho hc
  exact ⟨B,rfl,h1,h2.abide (C:=0) (grownBy_putObj' W l o') (fun r e=>by cases e;exact ⟨bY _,o,ho,hc⟩)⟩
 case hps=>
  rintro k xs W ⟨B,rfl,_⟩
  rfl
 case assign=>
  rintro lp k xs W K ⟨B,rfl,h1,h2⟩ hK
  gi_wp2
  exact hK
 case body=>
  rintro lp k xs W hk ⟨h1,h2,h3,h4,h5⟩ ⟨B,rfl,hB,hnb⟩
  have hc2:=h2.cell
  have hne:B≠B0:=by omega
  have hkm:k<=1000000:=by omega
  have hbd:(zDF is k).natAbs<BB^(m+1):=by
   refine cP (zFy hv k) ?_
   rw [bT,cQ]
   exact Nat.mul_lt_mul_of_pos_left (by unfold BB;omega) (Nat.pow_pos (by unfold BB;omega))
  have hbd2:(zDP is k).natAbs<BB^(m+1):=bU (hv k) (cC (by unfold BB;omega) (Nat.le_succ m))
  gi_wp2_with (gi_at_call 126;refine bV (bW.2 (num_add B0 B _ _ (m+1) W h1 hnb hne hbd hbd2 oE)) ?_;rintro e w3 ⟨⟨u,rfl⟩,hn3,hg3⟩)
  have hbx: ∃vs t,q6 W B0 t vs:=by obtain ⟨_,_,_,_,g,_⟩:=h1;exact ⟨_,_,g⟩
  obtain ⟨vs,t,g⟩:=hbx
  refine ⟨(KeepsOthers.of_grownBy hg3 (fun j o e ho=>by cases e;rw [show W.heap[B0]?=_ from g] at ho;cases ho;rfl)).from _,⟨(y5.refl _ _).grown hg3 (fun b hb=>⟨by have:=hSb b hb;omega,fun e=>by cases e;omega⟩),hg3.size⟩,hn3,h2.kept hg3 (fun e=>by cases e;omega),(hg3.block _ h3.lt (fun e=>by cases e;omega)).trans h3,zAL h4 hg3 h4.size oE,bJ h5 hg3.size⟩
 case done=>
  rintro D W hD ⟨h1,h2,h3,h4,h5⟩ _ hd
  obtain ⟨A2,n2,c2,l2,⟨g0,g1⟩,hi2,hr2⟩:=h1.parts
  have hc2:=h2.cell
  obtain ⟨⟨q0,q1⟩,q2,q3⟩:=h3.facts2
  go_wp2
  have hb5:=(h3.set 0 (.bool (decide (zDF is n<0)))).set 1 (.slice A2 n2 c2)
  have hM:Marks w.heap.size ((W.setCell ⟨w.heap.size,0,none⟩ (.bool (decide (zDF is n<0)))).setCell ⟨w.heap.size,1,none⟩ (.slice A2 n2 c2)) [mark D] [D]:=((Marks.nil w.heap.size W).more (D:=D) fE (by have:=hB1.size;omega) hd).others ((bP _ _ _).trans (bP _ _ _))
  obtain ⟨A3,n3,c3,l3,e3,hi3,hr3,hb3⟩:=zGS h3 h4 (bH _) hi2 hr2
  cases e3
  refine qD _ (v:= .agg #[.bool (decide (zDF is n<0)), .slice A2 n2 c2]) (fun w' ho'=> ?_) [D] _ _ hM (Oth.refl _ _) ?_
  ·obtain ⟨⟨c0,c1⟩,_,_⟩:=(hb5.oth ho').facts2
   simp [results,results100,go_sem,c0,c1]
  ·intro w' ho
   exact ⟨A2,n2,c2,l3,rfl,hi3,hr3.oth ho,zAf hb3 ho (bH _)⟩
end Go.Proofs.Wd

namespace Go.Proofs.Wd
open Tryz
set_option maxRecDepth 100000
set_option maxHeartbeats 1000000
open Go.RowKit Lb
attribute [local go_sem] Oper.semAt_some qF yF
theorem zCu {v:Int} {l:List Nat} (h:Is l v.natAbs):iv (decide (v<0)) l=v:=by
 unfold iv
 rw [h.val]
 by_cases h0:v<0
 ·rw [bK h0];simp only [if_true];omega
 ·rw [bL h0];simp only [cL,cM];omega
theorem IRd.two {m:Nat} {w:WN} {s s':Bool} {A:WQ Addr} {n c:Nat} {l:List Nat} (h:Rd w A n c l) (ht:Lt l) (hn:n<=m) {A':WQ Addr} {n' c':Nat} {l':List Nat} (h':Rd w A' n' c' l') (ht':Lt l') (hn':n'<=m) (t:WP):
  IRdM m (w.alloc (.cells #[.bool s, .slice A n c, .bool s', .slice A' n' c'] t)) (some ⟨w.heap.size,0,none⟩) 2 [(s,l),(s',l')]:=
 ⟨rfl,fun i hi=>by
  rcases (by omega:i=0∨i=1) with rfl|rfl
  ·exact ⟨_,_,s,A,n,c,l,rfl,zBt w _ t 0,zBt w _ t 1,rfl,h.alloc _,ht,hn⟩
  ·exact ⟨_,_,s',A',n',c',l',rfl,zBt w _ t 2,zBt w _ t 3,rfl,h'.alloc _,ht',hn'⟩⟩
theorem zAt {s:Bool} {l:List Nat} {n m:Nat} (ht:Lt l) (hl:l.length=n) (hn:n<=m):(iv s l).natAbs<BB^m:=by
 rw [zL2]
 exact bU (qS ht) (cC (by unfold BB;omega) oE)
theorem zJb (p q:Bool×List Nat) (m:Nat) (hp:(iv p.1 p.2).natAbs<BB^m) (hq:(iv q.1 q.2).natAbs<BB^m) (k:Nat):(zDP [p,q] k).natAbs<BB^m:=by
 have h0:0<BB^m:=Nat.pow_pos (by unfold BB;omega)
 unfold zDP
 match k with
 |0=>simpa using hp
 |1=>simpa using hq
 |k+2=>simpa using h0
theorem zNf (s:Bool) (A:WQ Addr) (n c:Nat) (l:List Nat) (s':Bool) (A':WQ Addr) (n' c':Nat) (l':List Nat) (w:WN) (h:Rd w A n c l) (ht:Lt l) (h':Rd w A' n' c' l') (ht':Lt l') (m:Nat) (hl:n<=m) (hl':n'<=m) (hm:m<=100000):
  Calls prog 125 #[.agg #[.bool s, .slice A n c], .agg #[.bool s', .slice A' n' c']] w (qR w (iv s l - iv s' l')):=by
 have hmix:prog.follows .mixedOrders=true:=by kernel_rfl
 go_enter func125,ntmps125
 go_wp2
 refine (cO (n:=0)).1 ?_
 obtain ⟨W0,hW0⟩: ∃W0,(((w.alloc (.cells #[.bool s, .slice A n c] 27)).alloc (.cells #[.bool s', .slice A' n' c'] 27)).alloc (.cells #[.bool false, .slice none 0 0] 27))=W0:=⟨_,rfl⟩
 have x0:q6 W0 w.heap.size 27 #[.bool s, .slice A n c]:=by rw [<-hW0];exact ((q6.new w _ _).alloc _).alloc _
 have x1:q6 W0 (w.heap.size+1) 27 #[.bool s', .slice A' n' c']:=by rw [<-hW0];exact (q6.at_ _ _ _ fE).alloc _
 have x2:q6 W0 (w.heap.size+1+1) 27 #[.bool false, .slice none 0 0]:=by rw [<-hW0];exact q6.at_ _ _ _ fE
 have hB0:Below w.heap.size w W0:=by rw [<-hW0];exact (((bI _ w).alloc (bH _) _).alloc fE _).alloc (by simp;omega) _
 rw [hW0]
 clear hW0
 refine yC 100 (fun W=>(W.cell? ⟨w.heap.size,0,none⟩=some (.bool s)/\W.cell? ⟨w.heap.size,1,none⟩=some (.slice A n c))/\W.cell? ⟨w.heap.size+1,0,none⟩=some (.bool s')/\W.cell? ⟨w.heap.size+1,1,none⟩=some (.slice A' n' c')) hmix ?_
 have d1:=And.intro x0.facts2.1 x1.facts2.1
 refine zP (i:=0) (v:= ?vv1) kA kA rfl kA kA kA fD d1 ⟨.inl ⟨rfl, ?yy1⟩,fun _=>rfl⟩ ?_
 case yy1=>
  rintro wx ⟨⟨q1,q2⟩,q3,q4⟩
  go_simp
  first|done|rfl
 refine zP (i:=1) (v:= ?vv2) kA kA rfl kA kA kA fD d1 ⟨.inl ⟨rfl, ?yy2⟩,fun _=>rfl⟩ ?_
 case yy2=>
  rintro wx ⟨⟨q1,q2⟩,q3,q4⟩
  go_simp
  first|done|rfl
 refine zAA (i:=2) kA rfl (fun K hK=> ?_)
 go_simp
 have hneg:=zIH s' A' n' c' l' _ ((h'.below hB0).drew) ht' oE
 obtain ⟨v2,hv2⟩: ∃v2,-iv s' l'=v2:=⟨_,rfl⟩
 rw [hv2] at hneg
 refine bV (bW.2 hneg) ?_
 rintro e w2 ⟨A2,n2,c2,l2,rfl,hi2,hr2,hb2⟩
 have hB2:Below W0.heap.size W0 w2:=((bI _ W0).drew).trans hb2
 have d2:=And.intro (x0.kept hB2).facts2.1 (x1.kept hB2).facts2.1
 have hn2:n2<=m:=by
  rw [<-hr2.len]
  refine hi2.len ?_
  rw [<-hv2,Int.natAbs_neg]
  exact zAt ht' h'.len hl'
 refine hK _ _ (.inr d2) ?_
 clear hK K
 refine zAA (i:=3) kA rfl (fun K hK=> ?_)
 go_simp
 have hds:IRd _ _ _ _:=IRd.two (s:=s) (s':=decide (v2<0)) (h.below (hB0.trans (hB2.mono hB0.size))) ht oE hr2 hi2.lt oE 27
 have hW3:Below W0.heap.size W0 (w2.alloc (.cells #[.bool s, .slice A n c, .bool (decide (v2<0)), .slice A2 n2 c2] 27)):=hB2.alloc hB2.size _
 refine hK _ _ (.inr ⟨(x0.kept hW3).facts2.1,(x1.kept hW3).facts2.1⟩) ?_
 clear hK K
 refine zAA (i:=4) kA rfl (fun K hK=> ?_)
 go_simp
 have hvm:=zJb (s,l) (decide (v2<0),l2) m (zAt ht h.len hl) (zAt hi2.lt hr2.len hn2)
 have hsum:zDF [(s,l),(decide (v2<0),l2)] 2=iv s l - iv s' l':=by
  show (0+iv s l)+iv (decide (v2<0)) l2=_
  rw [zCu hi2]
  omega
 have hadd:=zIM _ 2 2 _ m _ hds oE oE oE hvm
 rw [hsum] at hadd
 refine bV (bW.2 hadd) ?_
 rintro e w3 ⟨A3,n3,c3,l3,rfl,hi3,hr3,hb3⟩
 have hB3:Below W0.heap.size W0 w3:=hW3.trans (hb3.mono hW3.size)
 have hq:=x2.kept hB3
 obtain ⟨⟨m0,m1⟩,m2,m3⟩:=hq.facts2
 refine hK _ _ (.inr ⟨(x0.kept hB3).facts2.1,(x1.kept hB3).facts2.1⟩) ?_
 clear hK K
 obtain ⟨v3,hv3⟩: ∃v3,iv s l - iv s' l'=v3:=⟨_,rfl⟩
 rw [hv3] at hi3
 simp only [hv3]
 refine zAA (i:=5) kA rfl (fun K hK=> ?_)
 go_simp
 refine hK _ _ (.inr ⟨((x0.kept hB3).other (p:=⟨w.heap.size+1+1,0,none⟩) (by simp;omega) _|>.other (p:=⟨w.heap.size+1+1,1,none⟩) (by simp;omega) _).facts2.1,((x1.kept hB3).other (p:=⟨w.heap.size+1+1,0,none⟩) fE _|>.other (p:=⟨w.heap.size+1+1,1,none⟩) fE _).facts2.1⟩) ?_
 clear hK K
 refine zCb kA ?_
 obtain ⟨⟨c0,c1⟩,_,_⟩:=((hq.set 0 (.bool (decide (v3<0)))).set 1 (.slice A3 n3 c3)).facts2
 go_wp2
 refine bQ (v:= .agg #[.bool (decide (v3<0)), .slice A3 n3 c3]) (by simp [results,results125,go_sem,c0,c1]) rfl ?_
 rw [hv3]
 exact zGS hq (hB0.trans (hB3.mono hB0.size)) oE hi3 hr3
theorem zNo (s:Bool) (A:WQ Addr) (n c:Nat) (l:List Nat) (s':Bool) (A':WQ Addr) (n' c':Nat) (l':List Nat) (w:WN) (h:Rd w A n c l) (ht:Lt l) (h':Rd w A' n' c' l') (ht':Lt l') (m:Nat) (hl:n<=m) (hl':n'<=m) (hm:m<=100000):
  Calls prog 97 #[.agg #[.bool s, .slice A n c], .agg #[.bool s', .slice A' n' c']] w fun e w'=>e= .returned (.int .i64 (iv s l - iv s' l').sign)/\Below w.heap.size w w':=by
 have hb1:=((bI _ w).alloc (bH _) (.cells #[.bool s, .slice A n c] 27)).alloc fE (.cells #[.bool s', .slice A' n' c'] 27)
 have hsub:=zNf s A n c l s' A' n' c' l' _ (h.below hb1) ht (h'.below hb1) ht' m hl hl' hm
 obtain ⟨v3,hv3⟩: ∃v3,iv s l - iv s' l'=v3:=⟨_,rfl⟩
 have hbd:v3.natAbs<BB^(m+1):=by
  have e1:=zAt (s:=s) ht h.len hl;have e2:=zAt (s:=s') ht' h'.len hl'
  rw [bT]
  unfold BB at*
  omega
 rw [hv3] at hsub
 rw [hv3]
 go_enter func97,ntmps97
 go_wp2_with (first|(go_at_call 125;refine hsub.mono ?_;rintro e w2 ⟨A2,n2,c2,l2,rfl,hi2,hr2,hb2⟩)|(go_at_call 93;refine (zGH _ A2 n2 c2 l2 _ hr2 hi2.lt (by rw [<-hr2.len];exact bJ (hi2.len hbd) oE)).mono ?_;rintro e w3 ⟨rfl,hb3⟩))
 go_ret
 have hb4:=hb1.trans (hb2.mono hb1.size)
 exact ⟨by rw [zCu hi2];rfl,hb4.trans (hb3.mono hb4.size)⟩
def UV (W:WN) (m:Nat) (v:WO) (k:Int):Prop:= ∃s A n c l,v= .agg #[.bool s, .slice A n c]/\Rd W A n c l/\Lt l/\n<=m/\iv s l=k
def NV (W:WN) (v:WO) (k:Int):Prop:= ∃A n c l,v= .agg #[.bool (decide (k<0)), .slice A n c]/\Is l k.natAbs/\Rd W A n c l
theorem NV.uv {W:WN} {v:WO} {k:Int} (h:NV W v k) {m:Nat} (hk:k.natAbs<BB^m):UV W m v k:=by
 obtain ⟨A,n,c,l,rfl,h1,h2⟩:=h
 exact ⟨_,A,n,c,l,rfl,h2,h1.lt,by rw [<-h2.len];exact h1.len hk,zCu h1⟩
theorem UV.bound {W:WN} {m:Nat} {v:WO} {k:Int} (h:UV W m v k):k.natAbs<BB^m:=by
 obtain ⟨s,A,n,c,l,rfl,h1,h2,h3,rfl⟩:=h
 exact zAt h2 h1.len h3
theorem UV.mono {W:WN} {m m':Nat} {v:WO} {k:Int} (h:UV W m v k) (hm:m<=m'):UV W m' v k:=by
 obtain ⟨s,A,n,c,l,rfl,h1,h2,h3,rfl⟩:=h
 exact ⟨s,A,n,c,l,rfl,h1,h2,by omega,rfl⟩
def zGA (w:WN) (k:Int):Ending->WN->Prop:=fun e w'=> ∃v,e= .returned v/\NV w' v k/\Below w.heap.size w w'
theorem qR.v {w:WN} {k:Int} {e:Ending} {w':WN} (h:qR w k e w'):zGA w k e w':=by
 obtain ⟨A,n,c,l,rfl,h1,h2,h3⟩:=h
 exact ⟨_,rfl,⟨A,n,c,l,rfl,h1,h2⟩,h3⟩
theorem zTu {W:WN} {m:Nat} {v:WO} {k:Int} (h:UV W m v k) (hm:m<=100000):Calls prog 92 #[v] W (zGA W (-k)):=by
 obtain ⟨s,A,n,c,l,rfl,h1,h2,h3,rfl⟩:=h
 exact (zIH s A n c l W h1 h2 oE).mono fun _ _=>qR.v
theorem zSb {W:WN} {m:Nat} {v:WO} {k:Int} (h:UV W m v k) (hm:m<=100000):Calls prog 115 #[v] W (zGA W k):=by
 obtain ⟨s,A,n,c,l,rfl,h1,h2,h3,rfl⟩:=h
 exact (zGI s A n c l W h1 h2 oE).mono fun _ _=>qR.v
theorem zRG {W:WN} {m:Nat} {v:WO} {k:Int} (h:UV W m v k) (hm:m<=100000):Calls prog 93 #[v] W fun e w'=>e= .returned (.int .i64 k.sign)/\Below W.heap.size W w':=by
 obtain ⟨s,A,n,c,l,rfl,h1,h2,h3,rfl⟩:=h
 exact zGH s A n c l W h1 h2 oE
theorem zUm {W:WN} {m:Nat} {v v':WO} {k k':Int} (h:UV W m v k) (h':UV W m v' k') (hm:m<=100000):Calls prog 97 #[v,v'] W fun e w'=>e= .returned (.int .i64 (k - k').sign)/\Below W.heap.size W w':=by
 obtain ⟨s,A,n,c,l,rfl,h1,h2,h3,rfl⟩:=h
 obtain ⟨s',A',n',c',l',rfl,h1',h2',h3',rfl⟩:=h'
 exact zNo s A n c l s' A' n' c' l' W h1 h2 h1' h2' m h3 h3' hm
def IS (W:WN) (m:Nat) (v:WO) (is:List (Bool×List Nat)):Prop:= ∃A c,v= .slice A is.length c/\is.length<=c/\c<=9223372036854775807/\IRdM m W A is.length is
theorem IS.below {W W':WN} {m:Nat} {v:WO} {is:List (Bool×List Nat)} (h:IS W m v is) (hb:Below W.heap.size W W'):IS W' m v is:=by
 obtain ⟨A,c,h1,h3,h4,h2⟩:=h
 exact ⟨A,c,h1,h3,h4,h2.below hb⟩
theorem IRdM.mono {m m':Nat} {w:WN} {A:WQ Addr} {n:Nat} {is:List (Bool×List Nat)} (h:IRdM m w A n is) (hm:m<=m'):IRdM m' w A n is:=
 ⟨h.len,fun i hi=>by
  obtain ⟨b,o,s,Ai,ni,ci,li,e,hc,hc',h1,h2,h3,h4⟩:=h.cells i hi
  exact ⟨b,o,s,Ai,ni,ci,li,e,hc,hc',h1,h2,h3,by omega⟩⟩
theorem zGe {m:Nat} {w:WN} {A:WQ Addr} {n:Nat} {is:List (Bool×List Nat)} (h:IRdM m w A n is) (k:Nat):(zDP is k).natAbs<BB^m:=by
 by_cases hk:k<n
 ·obtain ⟨b,o,s,Ai,ni,ci,li,e,hc,hc',h1,h2,h3,h4⟩:=h.cells k hk
  unfold zDP
  rw [h1]
  exact zAt h3 h2.len h4
 ·have:is[k]?=none:=List.getElem?_eq_none (by rw [h.len];omega)
  unfold zDP
  rw [this]
  exact Nat.pow_pos (by unfold BB;omega)
theorem zUx {W:WN} {m:Nat} {v:WO} {is:List (Bool×List Nat)} (h:IS W m v is) (hm:m<=100000) (hn:is.length<=100000):Calls prog 100 #[v] W (zGA W (zDF is is.length)):=by
 obtain ⟨A,c,rfl,h3,h4,h2⟩:=h
 exact (zIM A is.length c is m W (IRdM.mono h2 oE) h3 h4 oE (fun k=>zGe h2 k)).mono fun _ _=>qR.v
theorem IS.two {m:Nat} {w:WN} {s s':Bool} {A:WQ Addr} {n c:Nat} {l:List Nat} (h:Rd w A n c l) (ht:Lt l) (hn:n<=m) {A':WQ Addr} {n' c':Nat} {l':List Nat} (h':Rd w A' n' c' l') (ht':Lt l') (hn':n'<=m) (t:WP):
  IS (w.alloc (.cells #[.bool s, .slice A n c, .bool s', .slice A' n' c'] t)) m (.slice (some ⟨w.heap.size,0,none⟩) 2 2) [(s,l),(s',l')]:=⟨_,2,rfl,bH _,by decide,IRd.two h ht hn h' ht' hn' t⟩
end Go.Proofs.Wd

namespace Go.Proofs.Wd
open Tryz
set_option maxHeartbeats 400000
open Go.RowKit Lb
theorem zAd (A:WQ Addr) (n c:Nat) (l:List Nat) (i:Int) (w:WN) (h:Rd w A n c l) (ht:Lt l) (h0:0<=i):
  Calls prog 130 #[.slice A n c, .int .i64 i] w fun e w'=>e= .returned (.int .u64 (lm l i.toNat))/\w=w':=by
 obtain ⟨k,rfl⟩:=cN h0
 rw [Int.toNat_natCast]
 have hle:=h.le;have hcap:=h.cap
 have x:=qJ ht k
 simp only [BB] at x
 by_cases hi:k<n
 ·obtain ⟨b,o,rfl,hc⟩:=h.cells k hi
  go_enter func130,ntmps130
  go_wp2
  go_ret
  exact ⟨rfl,rfl⟩
 ·rw [zDr (by rw [h.len];omega)]
  go_enter func130,ntmps130
  go_wp2
  go_ret
  exact ⟨rfl,rfl⟩
theorem jQ (A:WQ Addr) (n c:Nat) (l:List Nat) (w:WN) (h:Rd w A n c l) (ht:Lt l) (hl:n<=1099511627776):
  Calls prog 24 #[.slice A n c] w (jL w (val l)):=by
 have hle:=h.le;have hcap:=h.cap;have hlen:=h.len
 have hown:yA (w.alloc (.cells #[] 62)) w.heap.size 62 (.slice (some ⟨w.heap.size,0,none⟩) 0 0) []:=World.ownsRow_made (base:=w.heap.size) (e:=62) (size:=1) w #[] 0 (bH _) (by unfold maxLen;omega) rfl
 have hbs:w.heap.size<=(w.alloc (.cells #[] 62)).heap.size:=by simp
 go_enter func24,ntmps24
 go_wp2
 go_loop [3] (fun x=> ∃k:Nat,k<=n/\x= .int .i64 k/\(∀i,k<=i->i<l.length->lm l i=0)) (fun x=>(intOf x).toNat)
 case atStart=>exact ⟨n,bH _,rfl,fun i h1 h2=>by omega⟩
 case round=>
  obtain ⟨k,hk,rfl,hz⟩:=hrel
  have HZ:=hid hz
  clear hz
  have hfin: ∀w1 A1 c1,yA w1 w.heap.size 62 (.slice A1 k c1) ([]++l.take k)->(k=0∨lm l (k - 1)≠0)->(w.alloc (.cells #[] 62)).grownBy w1 (Value.ownBlock (.slice (some ⟨w.heap.size,0,none⟩) 0 0))->jL w (val l) (.returned (.slice A1 k c1)) w1:=by
   intro w1 A1 c1 h1 h2 h3
   rw [bX] at h1
   exact ⟨A1,k,c1,l.take k,rfl,⟨zBD ht _,zBT l k oE HZ.out h2,jN oE HZ.out⟩,h1.rd,yA.grown ((bI w.heap.size w).alloc (bH _) _) hown h3 (bH _) hbs⟩
  have HF:=hid hfin
  clear hfin
  have hs1:([]:List Nat).length+(l.take k).length<=17592186044416:=by simp;omega
  have hl1:([]++l.take k).length=k:=by simp;omega
  by_cases h0:0<k
  ·obtain ⟨b,o,rfl,hc⟩:=h.cells (k - 1) oE
   have e1:((k:Int) - 1).toNat=k - 1:=by omega
   by_cases hx:lm l (k - 1)=0
   ·go_wp2
    go_round
    case rel=>exact ⟨k - 1,by omega,by congr 1;omega,fun i h1 h2=>by
     by_cases e:i=k - 1
     ·subst e;exact hx
     ·exact HZ.out i oE h2⟩
    case measure=>simp [intOf];omega
   ·have hx2:((lm l (k - 1):Int)==0)=false:=by simpa using hx
    have HX:=hid hx
    clear hx
    have hr1:Rd (w.alloc (.cells #[] 62)) (some ⟨b,o,none⟩) k c (l.take k):=(h.take hk oE (bH _)).alloc _
    go_wp2_with (at_builtin;go_must (refine zQ rfl _ _ 25 62 rfl z7 yT w.heap.size _ [] rfl hown _ k c (l.take k) rfl hr1 hs1 hbs ?_;intro v1 w1 hown1 hg1 hat1;obtain ⟨A1,c1,rfl⟩:=hown1.form' hl1))
    go_ret
    exact HF.out w1 A1 c1 hown1 (.inr HX.out) hg1
  ·obtain rfl:k=0:=by omega
   cases A with
   |none=>
    obtain ⟨rfl,rfl,rfl⟩:=h.empty
    go_wp2_with (at_builtin;go_must (refine zQ rfl _ _ 25 62 rfl z7 yT w.heap.size _ [] rfl hown _ 0 0 [] rfl (wK _) hs1 hbs ?_;intro v1 w1 hown1 hg1 hat1;obtain ⟨A1,c1,rfl⟩:=hown1.form' hl1))
    go_ret
    exact HF.out w1 A1 c1 hown1 (.inl fE) hg1
   |some ad=>
    have hr1:Rd (w.alloc (.cells #[] 62)) (some ad) 0 c (l.take 0):=(h.take hk oE (bH _)).alloc _
    go_wp2_with (at_builtin;go_must (refine zQ rfl _ _ 25 62 rfl z7 yT w.heap.size _ [] rfl hown _ 0 c (l.take 0) rfl hr1 hs1 hbs ?_;intro v1 w1 hown1 hg1 hat1;obtain ⟨A1,c1,rfl⟩:=hown1.form' hl1))
    go_ret
    exact HF.out w1 A1 c1 hown1 (.inl fE) hg1
theorem zHP (x:Nat) (hx:x<18446744073709551616) (w:WN):
  Calls prog 54 #[.int .u64 x] w (jL w x):=by
 have hr:=Rd.new w [x % 4294967296,x / 4294967296] 62 #[.int .u32 ((x:Int) % 4294967296), .int .u32 ((x:Int) / 4294967296)] (by simp [zBo]) fE
 have hlt:Lt [x % 4294967296,x / 4294967296]:=by
  intro y hy
  simp at hy
  rcases hy with rfl|rfl<;>unfold BB<;>omega
 have hv:val [x % 4294967296,x / 4294967296]=x:=by rw [zKl];omega
 go_enter func54,ntmps54
 go_wp2_with (go_at_call 24;refine (jQ _ 2 2 _ _ hr hlt oE).mono ?_;rintro e w1 ⟨A1,n1,c1,l1,rfl,hi1,hr1,hb1⟩)
 go_ret
 rw [hv] at hi1
 exact ⟨A1,n1,c1,l1,rfl,hi1,hr1,((bI _ w).alloc (bH _) _).trans (hb1.mono fE)⟩
theorem zEf (A:WQ Addr) (n c:Nat) (l:List Nat) (A':WQ Addr) (n' c':Nat) (l':List Nat) (w:WN) (h:Rd w A n c l) (h':Rd w A' n' c' l') (ht:Lt l) (ht':Lt l'):
  Calls prog 105 #[.slice A n c, .slice A' n' c'] w fun e w'=>e= .returned (.int .i64 (zAB (val l) (val l')))/\w=w':=by
 have hle:=h.le;have hcap:=h.cap;have hle':=h'.le;have hcap':=h'.cap
 have HN:Hid (l.length=n/\l'.length=n'):=⟨h.len,h'.len⟩
 by_cases hnn:n<n'
 all_goals
  go_enter func105,ntmps105
  go_wp2
  go_loop [5] (fun x=> ∃k:Nat,k<=9223372036854775807/\x= .int .i64 ((k:Int) - 1)/\Hid (∃N,l.length<=N/\l'.length<=N/\k<=N/\ ∀j,k<=j->j<N->lm l j=lm l' j)) (fun x=>(intOf x+1).toNat)
  case atStart=>first|exact ⟨n',by omega,rfl,hid ⟨n',by have:=HN.out;omega,by have:=HN.out;omega,bH _,fun j h1 h2=>by omega⟩⟩|exact ⟨n,by omega,rfl,hid ⟨n,by have:=HN.out;omega,by have:=HN.out;omega,bH _,fun j h1 h2=>by omega⟩⟩
  case round=>
   obtain ⟨k,_hk,rfl,HK⟩:=hrel
   by_cases h0:0<k
   ·have e1:((k:Int) - 1).toNat=k - 1:=by omega
    by_cases h1:lm l (k - 1)<lm l' (k - 1)
    ·have HV:Hid (zAB (val l) (val l')= -1):=by
      obtain ⟨N,a1,a2,a3,a4⟩:=HK.out
      exact zGq (zEb ht a1 a2 h0 a3 a4 h1)
     go_wp2_with (go_at_call 130;first|((with_reducible refine (zAd A n c l _ _ h ht oE).mono ?_);rintro e w1 ⟨rfl,rfl⟩)|((with_reducible refine (zAd A' n' c' l' _ _ h' ht' oE).mono ?_);rintro e w1 ⟨rfl,rfl⟩))
     go_ret
     exact ⟨by rw [HV.out];rfl,rfl⟩
    ·by_cases h2:lm l' (k - 1)<lm l (k - 1)
     ·have HV:Hid (zAB (val l) (val l')=1):=by
       obtain ⟨N,a1,a2,a3,a4⟩:=HK.out
       exact zJl (zEb ht' a2 a1 h0 a3 (fun j b1 b2=>(a4 j b1 b2).symm) h2)
      go_wp2_with (go_at_call 130;first|((with_reducible refine (zAd A n c l _ _ h ht oE).mono ?_);rintro e w1 ⟨rfl,rfl⟩)|((with_reducible refine (zAd A' n' c' l' _ _ h' ht' oE).mono ?_);rintro e w1 ⟨rfl,rfl⟩))
      go_ret
      exact ⟨by rw [HV.out];rfl,rfl⟩
     ·go_wp2_with (go_at_call 130;first|((with_reducible refine (zAd A n c l _ _ h ht oE).mono ?_);rintro e w1 ⟨rfl,rfl⟩)|((with_reducible refine (zAd A' n' c' l' _ _ h' ht' oE).mono ?_);rintro e w1 ⟨rfl,rfl⟩))
      go_round
      case rel=>exact ⟨k - 1,by omega,by congr 1;omega,by
       obtain ⟨N,a1,a2,a3,a4⟩:=HK.out
       exact hid ⟨N,a1,a2,by omega,fun j b1 b2=>by
        by_cases e:j=k - 1
        ·subst e;omega
        ·exact a4 j oE b2⟩⟩
      case measure=>simp [intOf];omega
   ·obtain rfl:k=0:=by omega
    have HV:Hid (zAB (val l) (val l')=0):=by
     obtain ⟨N,a1,a2,a3,a4⟩:=HK.out
     exact zJm (zIt a1 a2 a4)
    go_wp2
    go_ret
    exact ⟨by rw [HV.out];rfl,rfl⟩
end Go.Proofs.Wd

namespace Go.Proofs.Wd
open Tryz
set_option maxRecDepth 100000
set_option maxHeartbeats 1000000
open Go.RowKit Lb
def zVm (w:WN) (l l':List Nat) (N:Nat) (v o i:WO) (W:WN):Prop:=
 ∃(k u:Nat) (A:WQ Addr) (c:Nat) (lo:List Nat),k<=N/\i= .int .i64 k/\o= .int .u64 u/\v= .slice A k c/\u<=1/\yA W w.heap.size 62 (.slice A k c) lo/\lo.length=k/\Lt lo/\
  val lo+u*BB^k=sm (lm l) k+sm (lm l') k/\Below w.heap.size w W
theorem zM5 (x y u:Nat) (hx:x<4294967296) (hy:y<4294967296) (hu:u<=1):
  ∃d z u':Nat,(x:Int)+(y:Int)+(u:Int)=(d:Int)/\(d:Int) % 4294967296=(z:Int)/\(d:Int) / 4294967296=(u':Int)/\z<4294967296/\u'<=1/\d<=8589934591/\x+y+u=z+u'*4294967296:=
 ⟨x+y+u,(x+y+u) % 4294967296,(x+y+u) / 4294967296,by omega,by omega,by omega,by omega,by omega,by omega,by omega⟩
theorem zPJ (A:WQ Addr) (n c:Nat) (l:List Nat) (A':WQ Addr) (n' c':Nat) (l':List Nat) (w:WN) (h:Rd w A n c l) (h':Rd w A' n' c' l') (ht:Lt l) (ht':Lt l') (hn:n<=137438953472) (hn':n'<=137438953472):
  Calls prog 128 #[.slice A n c, .slice A' n' c'] w (jL w (val l+val l')):=by
 have hle:=h.le;have hcap:=h.cap;have hle':=h'.le;have hcap':=h'.cap
 obtain ⟨N,HN⟩: ∃N,Hid (((n<n'/\N=n')∨(¬n<n'/\N=n))/\n<=N/\n'<=N/\N<=137438953472/\l.length=n/\l'.length=n'):=by
  by_cases hh:n<n'
  ·exact ⟨n',hid ⟨.inl ⟨hh,rfl⟩,by omega,by omega,by omega,h.len,h'.len⟩⟩
  ·exact ⟨n,hid ⟨.inr ⟨hh,rfl⟩,by omega,by omega,by omega,h.len,h'.len⟩⟩
 by_cases hnn:n<n'
 all_goals
  go_enter func128,ntmps128
  go_wp2
  go_loopw [5,6,7] (zVm w l l' N) (fun _ _ i _=>N - (intOf i).toNat)
  case atStart=>exact ⟨0,0,none,0, [],bY _,rfl,rfl,rfl,by omega,wT _ _ _,rfl,zBE,by simp [sm],bI _ _⟩
  case round=>
   obtain ⟨k,u,Ao,co,lo,hk,rfl,rfl,rfl,hu1,hown,hlk,hlt,heq,hB⟩:=hrel
   have HQ:=hid heq
   clear heq
   have hr:=h.below hB;have hr':=h'.below hB
   have x1:=qJ ht k;have x2:=qJ ht' k
   simp only [BB] at x1 x2
   by_cases h0:k<N
   ·have hkn:k<n∨k<n':=by have:=HN.out;omega
    have hkm:k<137438953472:=by have:=HN.out;omega
    obtain ⟨d,z,u',hd,hz,hu',hz1,hu1',hd1,hstep⟩:=zM5 (lm l k) (lm l' k) u x1 x2 hu1
    have HS:=hid hstep
    clear hstep
    have hs1:lo.length+ [z].length<=17592186044416:=by simp;omega
    have hl1:(lo++ [z]).length=k+1:=by simp;omega
    go_wp2_with (first|(go_at_call 130;first|((with_reducible refine (zAd A _ c l _ _ hr ht (cB k)).mono ?_);rintro e w1 ⟨rfl,rfl⟩)|((with_reducible refine (zAd A' _ c' l' _ _ hr' ht' (cB k)).mono ?_);rintro e w1 ⟨rfl,rfl⟩))|(at_builtin;refine zQ rfl _ _ 25 62 rfl z7 yT w.heap.size _ lo rfl (yA.alloc hown _) _ 1 1 [z] rfl (Rd.one _ z 62) hs1 (y6 hB.size _) ?_;intro v1 w1 hown1 hg1 hat1;obtain ⟨A1,c1,rfl⟩:=hown1.form' hl1))
    go_roundw
    case rel=>exact ⟨k+1,u',A1,c1,lo++ [z],by omega,by go_num,rfl,rfl,hu1',hown1,hl1,zA6 hlt hz1,by rw [zAg,hlk];simp only [sm,bT];exact zGv HQ.out HS.out,yA.grown (hB.alloc hB.size _) (yA.alloc hown _) hg1 (bH _) (y6 hB.size _)⟩
    case measure=>simp [intOf];omega
   ·obtain rfl:k=N:=by omega
    have hkn: ¬k<n/\ ¬k<n':=by have:=HN.out;omega
    obtain ⟨hkn1,hkn2⟩:=hkn
    have heu:(u:Int) % 4294967296=u:=by omega
    have hkm:k<=137438953472:=by have:=HN.out;omega
    have hs1:lo.length+ [u].length<=17592186044416:=by simp;omega
    have hl1:(lo++ [u]).length=k+1:=by simp;omega
    have hl2:Lt (lo++ [u]):=zA6 hlt (by unfold BB;omega)
    have hk1:k+1<=1099511627776:=by omega
    go_wp2_with (first|(at_builtin;refine zQ rfl _ _ 25 62 rfl z7 yT w.heap.size _ lo rfl (yA.alloc hown _) _ 1 1 [u] rfl (Rd.one _ u 62) hs1 (y6 hB.size _) ?_;intro v1 w1 hown1 hg1 hat1;obtain ⟨A1,c1,rfl⟩:=hown1.form' hl1)|(go_at_call 24;refine (jQ _ _ _ _ _ hown1.rd hl2 hk1).mono ?_;rintro e w2 ⟨A2,n2,c2,l2,rfl,hi2,hr2,hb2⟩))
    go_ret
    have e1:=zAM (l:=l) (n:=k) (by have:=HN.out;omega)
    have e2:=zAM (l:=l') (n:=k) (by have:=HN.out;omega)
    have hv:val (lo++ [u])=val l+val l':=by rw [zAg,hlk,HQ.out,e1,e2]
    rw [hv] at hi2
    have hB1:=yA.grown (hB.alloc hB.size _) (yA.alloc hown _) hg1 (bH _) (y6 hB.size _)
    exact ⟨A2,n2,c2,l2,rfl,hi2,hr2,hB1.trans (hb2.mono hB1.size)⟩
def zS2 (w:WN) (l l':List Nat) (N:Nat) (v o i:WO) (W:WN):Prop:=
 ∃(k u:Nat) (A:WQ Addr) (c:Nat) (lo:List Nat),k<=N/\i= .int .i64 k/\o= .int .u64 u/\v= .slice A k c/\u<=1/\yA W w.heap.size 62 (.slice A k c) lo/\lo.length=k/\Lt lo/\
  sm (lm l) k+u*BB^k=val lo+sm (lm l') k/\Below w.heap.size w W
theorem zGQ (x y u:Nat) (hx:x<4294967296) (hy:y<4294967296) (hu:u<=1):
  ∃d z t u':Nat,(x:Int)+4294967296 - (y:Int) - (u:Int)=(d:Int)/\(d:Int) % 4294967296=(z:Int)/\(d:Int) / 4294967296=(t:Int)/\(1:Int) - (t:Int)=(u':Int)/\z<4294967296/\u'<=1/\d<=8589934591/\t<=1/\x+u'*4294967296=z+y+u:=by
 refine ⟨x+4294967296 - y - u,(x+4294967296 - y - u) % 4294967296,(x+4294967296 - y - u) / 4294967296,1 - (x+4294967296 - y - u) / 4294967296, ?_, ?_, ?_, ?_, ?_, ?_, ?_, ?_, ?_⟩<;>omega
theorem zFU (A:WQ Addr) (n c:Nat) (l:List Nat) (A':WQ Addr) (n' c':Nat) (l':List Nat) (w:WN) (h:Rd w A n c l) (h':Rd w A' n' c' l') (ht:Lt l) (ht':Lt l') (hge:val l'<=val l) (hn:n<=137438953472):
  Calls prog 106 #[.slice A n c, .slice A' n' c'] w fun e w'=> ∃A1 n1 c1 l1,e= .returned (.tuple #[.slice A1 n1 c1, .int .i64 0])/\Is l1 (val l - val l')/\Rd w' A1 n1 c1 l1/\Below w.heap.size w w':=by
 have hle:=h.le;have hcap:=h.cap;have hle':=h'.le;have hcap':=h'.cap
 have hcmp:decide (zAB (val l) (val l')<0)=false:=by
  unfold zAB
  rw [if_neg oE]
  split<;>simp
 have HN:Hid (l.length=n/\sm (lm l') n=val l'):=hid ⟨h.len,zHD (cP hge (by have:=qS ht;rwa [h.len] at this))⟩
 have HG:=hid hge
 clear hge
 go_enter func106,ntmps106
 go_wp2_with (go_at_call 105;refine (zEf A n c l A' n' c' l' _ h h' ht ht').mono ?_;rintro e w1 ⟨rfl,rfl⟩)
 go_loopw [6,7,8] (zS2 w l l' n) (fun _ _ i _=>n - (intOf i).toNat)
 case atStart=>exact ⟨0,0,none,0, [],bY _,rfl,rfl,rfl,by omega,wT _ _ _,rfl,zBE,by simp [sm],bI _ _⟩
 case round=>
  obtain ⟨k,u,Ao,co,lo,hk,rfl,rfl,rfl,hu1,hown,hlk,hlt,heq,hB⟩:=hrel
  have HQ:=hid heq
  clear heq
  have hr:=h.below hB;have hr':=h'.below hB
  have x1:=qJ ht k;have x2:=qJ ht' k
  simp only [BB] at x1 x2
  by_cases h0:k<n
  ·obtain ⟨d,z,t,u',hd,hz,htt,hu',hz1,hu1',hd1,ht1,hstep⟩:=zGQ (lm l k) (lm l' k) u x1 x2 hu1
   have HS:=hid hstep
   clear hstep
   have hs1:lo.length+ [z].length<=17592186044416:=by simp;omega
   have hl1:(lo++ [z]).length=k+1:=by simp;omega
   go_wp2_with (first|(go_at_call 130;first|((with_reducible refine (zAd A _ c l _ _ hr ht (cB k)).mono ?_);rintro e w1 ⟨rfl,rfl⟩)|((with_reducible refine (zAd A' _ c' l' _ _ hr' ht' (cB k)).mono ?_);rintro e w1 ⟨rfl,rfl⟩))|(at_builtin;refine zQ rfl _ _ 25 62 rfl z7 yT w.heap.size _ lo rfl (yA.alloc hown _) _ 1 1 [z] rfl (Rd.one _ z 62) hs1 (y6 hB.size _) ?_;intro v1 w1 hown1 hg1 hat1;obtain ⟨A1,c1,rfl⟩:=hown1.form' hl1))
   go_roundw
   case rel=>exact ⟨k+1,u',A1,c1,lo++ [z],by omega,by go_num,rfl,rfl,hu1',hown1,hl1,zA6 hlt hz1,by rw [zAg,hlk];simp only [sm,bT];exact zFM HQ.out HS.out,yA.grown (hB.alloc hB.size _) (yA.alloc hown _) hg1 (bH _) (y6 hB.size _)⟩
   case measure=>simp [intOf];omega
  ·obtain rfl:k=n:=by omega
   have hk1:k<=1099511627776:=by omega
   go_wp2_with (go_at_call 24;refine (jQ _ _ _ _ _ hown.rd hlt hk1).mono ?_;rintro e w2 ⟨A2,n2,c2,l2,rfl,hi2,hr2,hb2⟩)
   go_ret2
   have e1:=zAM (l:=l) (n:=k) (by have:=HN.out;omega)
   have e2:=HN.out.2
   have e3:=qS hlt
   have e4:=HQ.out
   have e5:=HG.out
   rw [hlk] at e3
   rw [e1,e2] at e4
   have hu0:u=0:=by
    rcases Nat.lt_or_ge 0 u with h0|h0
    ·have:u=1:=by omega
     subst this
     omega
    ·omega
   subst hu0
   have hv2:val lo=val l - val l':=by omega
   rw [hv2] at hi2
   exact ⟨A2,n2,c2,l2,rfl,hi2,hr2,hB.trans (hb2.mono hB.size)⟩
theorem zEK (A:WQ Addr) (n c:Nat) (l:List Nat) (A':WQ Addr) (n' c':Nat) (l':List Nat) (w:WN) (h:Rd w A n c l) (h':Rd w A' n' c' l') (ht:Lt l) (ht':Lt l') (hlt:val l<val l'):
  Calls prog 106 #[.slice A n c, .slice A' n' c'] w fun e w'=>e= .returned (.tuple #[.slice none 0 0, .int .i64 10])/\w=w':=by
 have hcmp:decide (zAB (val l) (val l')<0)=true:=by rw [zGq hlt];rfl
 go_enter func106,ntmps106
 go_wp2_with (go_at_call 105;refine (zEf A n c l A' n' c' l' _ h h' ht ht').mono ?_;rintro e w1 ⟨rfl,rfl⟩)
 go_ret2
 exact ⟨rfl,rfl⟩
def LIM:Nat:=68719476736
def zUC (w:WN) (ls:List (List Nat)) (n:Nat) (v i:WO) (W:WN):Prop:=
 ∃(k:Nat) (A:WQ Addr) (m c:Nat) (lo:List Nat),k<=n/\i= .int .i64 k/\v= .slice A m c/\Rd W A m c lo/\Lt lo/\val lo=zEG ls k/\m<=68719476736+k/\Below w.heap.size w W
theorem zNb {ls:List (List Nat)} {n b:Nat} (h: ∀l,l∈ls->val l<b) (hn:n<=ls.length):zEG ls n<=n*b:=by
 induction n with
 |zero=>rw [zDG];omega
 |succ n ih=>
  have hl:ls[n]?=some ls[n]:=cT oE
  rw [zCE hl,Nat.add_mul]
  have:=h _ (List.getElem_mem (l:=ls) (n:=n) oE)
  have:=ih oE
  omega
theorem zEg (A:WQ Addr) (n c:Nat) (ls:List (List Nat)) (w:WN) (h:Rds w A n ls) (hn:n<=1000):
  Calls prog 102 #[.slice A n c] w (jL w (ls.map val).sum):=by
 have HL:Hid (ls.length=n):=hid h.len
 have HT:Hid (∀l,l∈ls->val l<BB^LIM):=hid fun l hl=>by
  obtain ⟨i,hi,rfl⟩:=List.getElem_of_mem hl
  obtain ⟨b,o,Ai,ni,ci,li,_,_,h1,h2,h3,h4⟩:=h.cells i (by rw [<-h.len];exact hi)
  rw [cT hi] at h1
  injection h1 with h1
  rw [h1]
  exact bU (qS h3) (cC y8 (by rw [h2.len];exact h4))
 go_enter func102,ntmps102
 go_wp2
 go_loopw [3,4] (zUC w ls n) (fun _ i _=>n - (intOf i).toNat)
 case atStart=>exact ⟨0,none,0,0, [],bY _,rfl,rfl,wK _,zBE,by rw [zDG];rfl,by omega,bI _ _⟩
 case round=>
  obtain ⟨k,Ao,m,co,lo,hk,rfl,rfl,hr,hlt,hv,hm,hB⟩:=hrel
  have HV:=hid hv
  clear hv
  by_cases h0:k<n
  ·obtain ⟨b,o,Ai,ni,ci,la,rfl,hcell,hla,hra,hta,hni⟩:=h.cells k h0
   have hcW:=(hB.cell (p:=⟨b,o+k,none⟩) (z4 hcell)).trans hcell
   have hra1:=hra.below hB
   have HA:=hid hla
   clear hla
   have hm1:m<=137438953472:=by omega
   have hni1:ni<=137438953472:=by omega
   go_wp2_with (go_at_call 128;refine (zPJ Ao m co lo Ai ni ci la _ hr hra1 hlt hta hm1 hni1).mono ?_;rintro e w2 ⟨A2,n2,c2,l2,rfl,hi2,hr2,hb2⟩)
   have hsum:val lo+val la=zEG ls (k+1):=by rw [zCE HA.out,HV.out]
   have hlen:n2<=68719476736+(k+1):=by
    rw [<-hr2.len]
    refine hi2.len ?_
    rw [hsum]
    have h1:=zNb HT.out (show k+1<=ls.length by rw [HL.out];omega)
    have h2:k+1<BB^(k+1):=Nat.lt_pow_self (by decide)
    rw [show 68719476736+(k+1)=LIM+(k+1) from rfl,Nat.pow_add,cQ (BB^LIM)]
    exact cP h1 ((Nat.mul_lt_mul_right (zB1 _)).2 h2)
   go_roundw
   case rel=>exact ⟨k+1,A2,n2,c2,l2,by omega,by go_num,rfl,hr2,hi2.lt,by rw [hi2.val,hsum],hlen,hB.trans (hb2.mono hB.size)⟩
   case measure=>simp [intOf];omega
  ·obtain rfl:k=n:=by omega
   have hm1:m<=1099511627776:=by omega
   go_wp2_with (go_at_call 24;refine (jQ _ _ _ _ _ hr hlt hm1).mono ?_;rintro e w2 ⟨A2,n2,c2,l2,rfl,hi2,hr2,hb2⟩)
   go_ret
   rw [HV.out,zGF HL.out] at hi2
   exact ⟨A2,n2,c2,l2,rfl,hi2,hr2,hB.trans (hb2.mono hB.size)⟩
def zRf (l:List Nat) (n:Nat) (v i:WO):Prop:= ∃k x:Nat,k<=n/\i= .int .i64 ((k:Int) - 1)/\v= .int .u64 x/\x=val (l.drop k)
theorem zJA (A:WQ Addr) (n c:Nat) (l:List Nat) (w:WN) (h:Rd w A n c l) (ht:Lt l) (hl:n<=1099511627776):
  Calls prog 76 #[.slice A n c] w fun e w'=>e= .returned (.tuple #[.int .u64 (zL (val l):Nat), .bool (y4 (val l))])/\Below w.heap.size w w':=by
 go_enter func76,ntmps76
 go_wp2_with (go_at_call 24;refine (jQ _ _ _ _ _ h ht hl).mono ?_;rintro e w2 ⟨A2,n2,c2,l2,rfl,hi2,hr2,hb2⟩)
 ·have h2:(2:Int)<n2:=by assumption
  go_ret2
  have hlen:=hr2.len
  have hne:l2≠ []:=by intro e;subst e;simp at hlen;omega
  have h3:=zGD hi2.tr hne
  have h4:BB^2<=BB^(l2.length - 1):=cC y8 oE
  have h5:BB^2=18446744073709551616:=by decide
  rw [hi2.val] at h3
  refine ⟨?_,hb2⟩
  rw [show zL (val l)=0 from if_neg oE,show y4 (val l)=false from bL oE]
  rfl
 ·have h2:(n2:Int)<=2:=by assumption
  have hlen:=hid hr2.len
  have hle:=hr2.le;have hcap:=hr2.cap
  go_loop [5,6] (zRf l2 n2) (fun _ x=>(intOf x+1).toNat)
  case atStart=>exact ⟨n2,0,bH _,rfl,rfl,by rw [<-hlen.out,List.drop_length];rfl⟩
  case round=>
   obtain ⟨k,x,hk,rfl,rfl,hx⟩:=hrel
   have HX:=hid hx
   clear hx
   by_cases h0:0<k
   ·obtain ⟨b,o,rfl,hc⟩:=hr2.cells (k - 1) oE
    have e1:((k:Int) - 1).toNat=k - 1:=by omega
    have x1:=qJ hi2.lt (k - 1)
    have x2:x<BB^1:=by
     rw [HX.out]
     exact bU (zHE hi2.lt k) (cC y8 (by rw [hlen.out];omega))
    simp only [BB,Nat.pow_one] at x1 x2
    go_wp2
    go_round
    case rel=>exact ⟨k - 1,x*4294967296+lm l2 (k - 1),by omega,by congr 1;omega,by congr 1,by
     have hd:=zBq (l:=l2) (k:=k - 1) (by rw [hlen.out];omega)
     rw [show k - 1+1=k from by omega, <-HX.out] at hd
     rw [hd,cQ BB]
     simp only [BB]
     omega⟩
    case measure=>simp [intOf];omega
   ·obtain rfl:k=0:=by omega
    go_wp2
    go_ret2
    have h5:=qS hi2.lt
    have h4:BB^l2.length<=BB^2:=cC y8 (by rw [hlen.out];omega)
    have h6:BB^2=18446744073709551616:=by decide
    have h7:=HX.out
    rw [List.drop_zero,hi2.val] at h7
    rw [hi2.val] at h5
    refine ⟨?_,hb2⟩
    rw [show zL (val l)=val l from if_pos oE,show y4 (val l)=true from bK oE, <-h7]
    rfl
theorem zFe (A:WQ Addr) (n c k:Nat) (hk:k<=n) (w:WN):
  (Instr.slice 25 (.slice A n c) (some (.int .i64 (k:Int))) none none).run prog w= .ok (.slice (if c=k then A else A.map (·.add k)) (n - k) (c - k)) w:=by
 obtain ⟨i,hi,hz,hs,hb⟩:=info_parts yT
 simp [Instr.slice,Instr.sliceBounds,run_underlying z7,sizeOf,typeInfo,hi,hs,go_sem]
 omega
end Go.Proofs.Wd

namespace Go.Proofs.Wd
open Tryz
set_option maxHeartbeats 400000
open Go.RowKit Lb
theorem zNG (k:Nat) (hk2:k<=9223372036854775807) (w:WN):
  Calls prog 30 #[.int .i64 k] w (qR w k):=by
 have hk0:(0:Int)<=k:=cB k
 go_enter func30,ntmps30
 go_wp2_with (go_at_call 54;refine (zHP k oE _).mono ?_;rintro e w1 ⟨A2,n2,c2,l2,rfl,hi2,hr2,hb⟩;have hq:=zJB hb (b:=w.heap.size) rfl;obtain ⟨⟨q0,q1⟩,q2,q3⟩:=hq.facts2)
 obtain ⟨⟨c0,c1⟩,_,_⟩:=((hq.set 0 (.bool (decide ((k:Int)<0)))).set 1 (.slice A2 n2 c2)).facts2
 rw [show (Value.bool false)= .bool (decide ((k:Int)<0)) from by rw [bL oE]] at*
 refine bQ (v:= .agg #[.bool (decide ((k:Int)<0)), .slice A2 n2 c2]) (by simp [results,results30,go_sem,c0,c1]) rfl ?_
 exact zGS hq (((bI _ w).alloc (bH _) _).trans (hb.mono fE)) fE hi2 hr2
theorem zNH (k:Nat) (hk0:0<k) (hk2:k<=9223372036854775808) (w:WN):
  Calls prog 30 #[.int .i64 (-(k:Int))] w (qR w (-(k:Int))):=by
 have hk1:(-(k:Int))<0:=by omega
 have hww: -(-(k:Int)+1)+1=(k:Int):=by omega
 have hw1:=IntWalk.u64_in (k:Int) oE
 have hw2:=IntWalk.u64_in (-(-(k:Int)+1)) oE
 have hw3:=IntWalk.i64_in (-(-(k:Int)+1)) oE
 have hw4:=IntWalk.i64_in (-(k:Int)+1) oE
 go_enter func30,ntmps30
 go_wp2_with (go_at_call 54;refine (zHP k oE _).mono ?_;rintro e w1 ⟨A2,n2,c2,l2,rfl,hi2,hr2,hb⟩;have hq:=zJB hb (b:=w.heap.size) rfl;obtain ⟨⟨q0,q1⟩,q2,q3⟩:=hq.facts2)
 obtain ⟨⟨c0,c1⟩,_,_⟩:=((hq.set 0 (.bool true)).set 1 (.slice A2 n2 c2)).facts2
 refine bQ (v:= .agg #[.bool true, .slice A2 n2 c2]) (by simp [results,results30,go_sem,c0,c1]) rfl ?_
 have e1:decide (-(k:Int)<0)=true:=bK hk1
 have:=zGS (v:= -(k:Int)) hq (((bI _ w).alloc (bH _) _).trans (hb.mono fE)) fE (by simpa using hi2) hr2
 rw [e1] at this
 exact this
theorem zIT (k:Int) (hk: -9223372036854775808<=k) (hk2:k<=9223372036854775807) (w:WN):
  Calls prog 30 #[.int .i64 k] w (qR w k):=by
 rcases (by omega:0<=k∨k<0) with h|h
 ·obtain ⟨m,rfl⟩:=cN h
  exact zNG m oE w
 ·obtain ⟨m,hm⟩:=cN (show 0<=-k by omega)
  obtain rfl:k= -(m:Int):=by omega
  exact zNH m oE oE w
theorem zAr (s:Bool) (A:WQ Addr) (n c:Nat) (l:List Nat) (w:WN) (h:Rd w A n c l) (ht:Lt l) (hl:n<=1099511627776):
    Calls prog 49 #[.agg #[.bool s, .slice A n c]] w (qR w (iv s l)):=by
  go_enter func49,ntmps49
  go_wp2_with (go_at_call 24;refine (jQ A n c l _ ((h.alloc _).alloc _) ht hl).mono ?_;rintro e w1 ⟨A2,n2,c2,l2,rfl,hi2,hr2,hb⟩;have hq:=zJB hb (b:=w.heap.size+1) fE;obtain ⟨⟨q0,q1⟩,q2,q3⟩:=hq.facts2;have hp:=((q6.new w 27 #[.bool s, .slice A n c]).alloc (.cells #[.bool false, .slice none 0 0] 27)).kept hb;obtain ⟨⟨p0,p1⟩,p2,p3⟩:=hp.facts2)
  all_goals
    have hle:=hr2.len;have hz:=hi2.zero_iff
    have hb1:Below w.heap.size w w1:=(((bI _ w).alloc (bH _) _).alloc fE _).trans (hb.mono (by simp;omega))
    have fin: ∀x:Bool,x=decide (iv s l<0)->q6 ((w1.setCell ⟨w.heap.size+1,0,none⟩ (.bool x)).setCell ⟨w.heap.size+1,1,none⟩ (.slice A2 n2 c2)) (w.heap.size+1) 27 #[.bool x, .slice A2 n2 c2]/\qR w (iv s l) (.returned (.agg #[.bool x, .slice A2 n2 c2])) ((w1.setCell ⟨w.heap.size+1,0,none⟩ (.bool x)).setCell ⟨w.heap.size+1,1,none⟩ (.slice A2 n2 c2)):=by
      rintro x rfl
      exact ⟨(hq.set 0 _).set 1 _,zGS hq hb1 fE (by rw [zL2];exact hi2) hr2⟩
    first
      | (obtain ⟨hbx,hret⟩:=fin false (by rw [<-zL0];simp_all)
         obtain ⟨⟨c0,c1⟩,_,_⟩:=hbx.facts2
         refine bQ (v:= .agg #[.bool false, .slice A2 n2 c2]) (by simp [results,results49,go_sem,c0,c1]) rfl hret)
      | (have hd:decide (0<n2)=(s&& !(val l==0)):=by
           by_cases e:n2=0
           . rw [hz.2 oE,e];simp
           . rw [bK oE,bZ.2 (fun h=>e (by have:=hz.1 h;omega))];simp_all
         obtain ⟨hbx,hret⟩:=fin (decide (0<n2)) (by rw [<-zL0];exact hd)
         obtain ⟨⟨c0,c1⟩,_,_⟩:=hbx.facts2
         refine bQ (v:= .agg #[.bool (decide (0<n2)), .slice A2 n2 c2]) (by simp [results,results49,go_sem,c0,c1]) rfl hret)
      |go_show
attribute [local go_sem] Oper.semAt_some qF yF
end Go.Proofs.Wd
