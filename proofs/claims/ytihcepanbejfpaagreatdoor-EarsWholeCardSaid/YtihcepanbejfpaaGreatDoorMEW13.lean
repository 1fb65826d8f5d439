/- prod.Mul; The walk of num.mul; The walk of sint.Mul; Integers as value and what it needs. -/
import Derived.Test.YtihcepanbejfpaaGreatDoorMEW11
import Derived.Laws.EntriesVeiled
abbrev rB:=@Rat.mul_pos
abbrev rC:=@Classical.byContradiction
abbrev rD:=@Rat.mul_nonneg
abbrev rE:=@Rat.le_of_lt
abbrev rF:=@Prod.ext
abbrev rG:=@List.getD_eq_getElem?_getD
abbrev rH:=@Rat.mul_eq_zero
abbrev rI:=@Rat.le_refl
abbrev rJ:=@Rat.div_mul_cancel
abbrev rK:=@or_false
abbrev rL:=@List.not_mem_nil
abbrev rM:=@Rat.le_total
abbrev rN:=@Rat.le_trans
abbrev rO:=@List.perm_append_comm
abbrev rP:=@Nat.div_le_self
abbrev rQ:=@List.map_append
abbrev rR:=@decide_eq_decide
abbrev rS:=@Nat.not_lt_zero
abbrev rT:=@List.take_length
abbrev rU:=@Rat.intCast_mul
abbrev rV:=@Rat.div_def
abbrev rW:=@List.nodup_append
abbrev rX:=@Int.natAbs_natCast
abbrev rY:=@Rat.num_nonneg
abbrev rZ:=@Rat.mkRat_zero
abbrev sC:=@Rat.mul_comm
abbrev sD:=@List.sum_append
abbrev sE:=@Rat.mkRat_self
abbrev sF:=@Rat.intCast_sub
abbrev sG:=@List.eq_nil_or_concat
abbrev sI:=@Rat.divInt_ofNat
abbrev sJ:=@Rat.sub_eq_add_neg
abbrev sK:=@Int.sign_eq_zero_iff_zero
abbrev sL:=@Rat.intCast_natCast
abbrev sO:=@not_false_eq_true
abbrev sP:=@List.append_of_mem
abbrev sQ:=@List.concat_eq_append
abbrev sS:=@List.mem_of_mem_erase
theorem fF{P:Prop}(h:P:=by grind):P:=h
theorem fQ{P:Prop}(h:P:=by simp only;grind):P:=h
theorem fT{P:Sort _}{Q:P->Prop}(h:∀e,Q e:=by intro e;cases e):∀e,Q e:=h
namespace Go.Proofs.Wd
open Tryz
variable {k:Int}{i m m' n:Nat}{W:WB}{ks:List Int}{B C al be d d' ga q s t:Rat}{G:Rat->Rat}
set_option maxRecDepth 100000
set_option maxHeartbeats 2000000
open Go.RowKit Lb
attribute [local go_sem] Oper.semAt_some qL yG
theorem zOx(A:Option Addr)(n c:Nat)(l:List Nat)(A':Option Addr)(n' c':Nat)(l':List Nat)(w:WB)(h:Rd w A n c l)(h':Rd w A' n' c' l')(ht:Lt l)(ht':Lt l')(hn:n<=40000)(hn':n'<=40000):
  Calls prog 106 #[.slice A n c,.slice A' n' c'] w (jH w (val l*val l')):=by
 have hmix:prog.follows .mixedOrders=true:=fJ
 obtain⟨W0,hW0⟩:∃W0,w.alloc (Obj.cells #[zCr w.heap.size] 81)=W0:=⟨_,rfl⟩
 have bA:bW w W0:=hW0▸(xG _ w).alloc (vQ _) _
 have cA:W0.cell? ⟨w.heap.size,0,none⟩=some (zCr w.heap.size):=by
  rw[<-hW0]
  rw[World.cell?_alloc_new]
  rfl
 unfold zCr at hW0
 have hcl:∀W,bW W0 W->W.cell? ⟨w.heap.size,0,none⟩=some (zCr w.heap.size):=fun W hb=>(hb.cell (p:=⟨w.heap.size,0,none⟩) (z7 cA)).trans cA
 obtain⟨mb,hmb⟩:∃mb,w.heap.size=mb:=⟨_,rfl⟩
 go_enter func106,ntmps106
 go_wp2
 rw[hmb]at cA hcl hW0
 erw[hW0]
 refine(bL (n:=0)).1<|yF 100 (fun W=>W.cell? ⟨mb,0,none⟩=some (.func (.func 129) #[] #[pO mb 0])) hmix ?_
 have b0:bW W0 W0.drew:=(xG _ W0).drew
 have c0:=hcl _ b0
 unfold zCr at c0
 refine zP (i:=0) (v:=?vv1) kA kA rfl kA kA kA (fun _ _ _ h=>h) c0 ⟨.inl ⟨rfl,?yy1⟩,fun _=>rfl⟩ ?_
 case yy1=>
  rintro wx q1
  go_simp
  first|done|rfl
 refine zP (i:=1) (v:=?vv2) kA kA rfl kA kA kA (fun _ _ _ h=>h) c0 ⟨.inl ⟨rfl,?yy2⟩,fun _=>rfl⟩ ?_
 case yy2=>
  rintro wx q1
  go_simp
  first|done|rfl
 refine zP (i:=3) (v:=?vv3) kA kA rfl kA kA kA (fun _ _ _ h=>h) c0 ⟨.inl ⟨rfl,?yy3⟩,fun _=>rfl⟩ ?_
 case yy3=>
  rintro wx q1
  go_simp
  first|done|rfl
 have bw0:bW w W0.drew:=bA.drew
 have i1:=qX A n c l W0.drew (h.below bw0) ht oA
 refine zAL (i:=2) kA rfl (fun K hK=>?_)
 go_simp
 refine bG (bB.2 i1) ?_
 rintro e W1 ⟨A1,n1,c1,l1,rfl,hi1,hr1,hb1⟩
 have b1:=b0.trans (hb1.mono b0.size)
 have c1':=hcl _ b1
 unfold zCr at c1'
 refine hK _ _ (.inr c1') ?_
 clear hK K i1
 have bw1:=bw0.trans (hb1.mono bw0.size)
 have i2:=qX A' n' c' l' W1 (h'.below bw1) ht' oA
 refine zAL (i:=4) kA rfl (fun K hK=>?_)
 go_simp
 refine bG (bB.2 i2) ?_
 rintro e W2 ⟨A2,n2,c2,l2,rfl,hi2,hr2,hb2⟩
 have b2:=b1.trans (hb2.mono b1.size)
 have c2':=hcl _ b2
 have c2'':=c2'
 unfold zCr at c2'
 refine hK _ _ (.inr c2') ?_
 clear hK K i2
 have bw2:=bw1.trans (hb2.mono bw1.size)
 have hn1:n1<=40000:=by
  rw[<-hr1.len]
  exact xR (hi1.len (k:=n) (by have:=qV ht;rwa [h.len]at this)) hn
 have hn2:n2<=40000:=by
  rw[<-hr2.len]
  exact xR (hi2.len (k:=n') (by have:=qV ht';rwa [h'.len]at this)) hn'
 have i3:=zRr 40000 oA mb A1 n1 c1 l1 A2 n2 c2 l2 W2 (hr1.below hb2) hr2 hi1.lt hi2.lt hn1 hn2 c2''
 rw[hi1.val,hi2.val]at i3
 refine zAL (i:=5) kA rfl (fun K hK=>?_)
 go_simp
 refine bG (bB.2 i3) ?_
 rintro e W3 ⟨A3,n3,c3,l3,rfl,hi3,hr3,hb3⟩
 have b3:=b2.trans (hb3.mono b2.size)
 have c3':=hcl _ b3
 unfold zCr at c3'
 refine hK _ _ (.inr c3') ?_
 clear hK K i3
 refine zAL (i:=6) kA rfl (fun K hK=>?_)
 go_simp
 refine hK _ _ (.inr c3') ?_
 clear hK K
 refine zCW kA ?_
 have bw3:=bw2.trans (hb3.mono bw2.size)
 go_wp2
 all_goals
  go_ret
  exact⟨A3,n3,c3,l3,rfl,hi3,hr3,bw3⟩
attribute [local go_sem] Oper.semAt_some qL yG
theorem zTA{v v':Int}{l:List Nat}(h:val l=v.natAbs*v'.natAbs):iv (!(decide (v<0)==decide (v'<0))) l=v*v':=by
 unfold iv
 rw[h]
 rcases Int.lt_or_le v 0 with I|I<;>rcases Int.lt_or_le v' 0 with h2|h2
 all_goals simp only[I,h2,decide_true,decide_false,Int.not_lt.2 I,Int.not_lt.2 h2,beq_self_eq_true,fY,Bool.not_false,xL,cG,xJ,pC,show(true==false)=false from rfl,show(false==true)=false from rfl]
 all_goals first|rw[Int.ofNat_natAbs_of_nonneg I]|rw[Int.ofNat_natAbs_of_nonpos (Int.le_of_lt I)]
 all_goals first|rw[Int.ofNat_natAbs_of_nonneg h2]|rw[Int.ofNat_natAbs_of_nonpos (Int.le_of_lt h2)]
 all_goals simp[Int.neg_mul,Int.mul_neg]
theorem zUt(B B':Nat)(v v':Int)(k:Nat)(w:WB)(h:zAI w B v)(h':zAI w B' v')(hv:v.natAbs<BB^k)(hv':v'.natAbs<BB^k)(hk:k<=40000):
  Calls prog 128 #[pO B 0,pO B' 0] w fun e w'=>(∃u,e=.returned u)/\zAI w' B (v*v')/\w.grownBy w' (some B):=by
 obtain⟨A,n,c,l,hb,hi,hr⟩:=h
 obtain⟨A',n',c',l',hb',hi',hr'⟩:=h'
 have hn:n<=k:=by rw[<-hr.len];exact hi.len hv
 have hn':n'<=k:=by rw[<-hr'.len];exact hi'.len hv'
 have hmix:prog.follows .mixedOrders=true:=fJ
 have cf:∀W,bW w W->(W.cell? ⟨B,0,none⟩=some (.bool (decide (v<0)))/\W.cell? ⟨B,1,none⟩=some (.slice A n c))/\W.cell? ⟨B',0,none⟩=some (.bool (decide (v'<0)))/\W.cell? ⟨B',1,none⟩=some (.slice A' n' c'):=fun W hb1=>⟨(hb.kept hb1).facts2.1,(hb'.kept hb1).facts2.1⟩
 go_enter func128,ntmps128
 go_wp2
 refine(bL (n:=0)).1<|yF 31 (fun _=>True) hmix<|zP (i:=1) (v:=?vv1) kA kA rfl kA kA kA (fun _ _ _ h=>h) trivial ⟨.inl ⟨rfl,?yy1⟩,fun _=>rfl⟩ ?_
 case yy1=>
  rintro wx _
  go_simp
  first|done|rfl
 refine zIk (k:=24) (fun _=>false) (fun iz vz Wz=>match iz with
  |0=>vz= pO B 0
  |1=>vz= pO B 0
  |2=>vz= pO B 0
  |3=>vz= pO B 0
  |4=>vz= pO B 0
  |5=>vz= pO B 0
  |6=>vz=.bool (decide (v<0))
  |7=>vz= pO B' 0
  |8=>vz= pO B' 0
  |9=>vz= pO B' 0
  |10=>vz= pO B' 0
  |11=>vz=.bool (decide (v'<0))
  |12=>vz=.bool (!(decide (v<0)==decide (v'<0)))
  |13=>vz= pO B 0
  |14=>vz= pO B 0
  |15=>vz= pO B 0
  |16=>vz= pO B 1
  |17=>vz=.slice A n c
  |18=>vz= pO B' 0
  |19=>vz= pO B' 0
  |20=>vz= pO B' 0
  |21=>vz= pO B' 1
  |22=>vz=.slice A' n' c'
  |23=>qN Wz vz (v.natAbs*v'.natAbs)
  |_=>True) (fun W=>bW w W) kA kA kA kA kA kA kA kA kA (fun _ _ h hb=>h.trans (hb.mono h.size)) ?stab ((xG _ w).drew) ?spec ?fin
 case stab=>
  intro iz vz Wz Wy h hb
  split at h<;>first|exact h|exact qN.below h hb|trivial
 case spec=>
  refine yN ?_ ?h23
  refine yN ?_ ?h22
  refine yN ?_ ?h21
  refine yN ?_ ?h20
  refine yN ?_ ?h19
  refine yN ?_ ?h18
  refine yN ?_ ?h17
  refine yN ?_ ?h16
  refine yN ?_ ?h15
  refine yN ?_ ?h14
  refine yN ?_ ?h13
  refine yN ?_ ?h12
  refine yN ?_ ?h11
  refine yN ?_ ?h10
  refine yN ?_ ?h9
  refine yN ?_ ?h8
  refine yN ?_ ?h7
  refine yN ?_ ?h6
  refine yN ?_ ?h5
  refine yN ?_ ?h4
  refine yN ?_ ?h3
  refine yN ?_ ?h2
  refine yN ?_ ?h1
  refine yN ?_ ?h0
  exact fun i h _=>absurd h (rS i)
  case h0=>
   intro _ o hi b5 W5 hf K hK
   cases hi
   have k0:b5.tmps[0]?.getD undef= (pO B 0):=(xV ..).symm.trans ((hf.at_.keep 0 kA).trans kA)
   refine bT rfl (fun K' hK'=>?_)
   go_simp
   exact hK' _ _ (hK _ _ rfl (xG _ _) fT)
  case h1=>
   intro h
   exact absurd h fH
  case h2=>
   intro _ o hi b5 W5 hf K hK
   cases hi
   have k0:b5.tmps[0]?.getD undef= (pO B 0):=(xV ..).symm.trans ((hf.at_.keep 0 kA).trans kA)
   refine bT rfl (fun K' hK'=>?_)
   go_simp
   exact hK' _ _ (hK _ _ rfl (xG _ _) fT)
  case h3=>
   intro _ o hi b5 W5 hf K hK
   cases hi
   have k6:b5.tmps[6]?.getD undef= (pO B 0):=(xV ..).symm.trans (hf.at_.vals 2 _ 6 ⟨fH,⟨2,.data⟩,fG,fJ,rfl⟩ rfl rfl)
   refine bT rfl (fun K' hK'=>?_)
   go_simp
   exact hK' _ _ (hK _ _ rfl (xG _ _) fT)
  case h4=>
   intro _ o hi b5 W5 hf K hK
   cases hi
   have k7:b5.tmps[7]?.getD undef= (pO B 0):=(xV ..).symm.trans (hf.at_.vals 3 _ 7 ⟨fH,⟨3,.data⟩,fG,fJ,rfl⟩ rfl rfl)
   refine bT rfl (fun K' hK'=>?_)
   go_simp
   exact hK' _ _ (hK _ _ rfl (xG _ _) fT)
  case h5=>
   intro _ o hi b5 W5 hf K hK
   cases hi
   have k8:b5.tmps[8]?.getD undef= (pO B 0):=(xV ..).symm.trans (hf.at_.vals 4 _ 8 ⟨fH,⟨4,.data⟩,fG,fJ,rfl⟩ rfl rfl)
   refine bT rfl (fun K' hK'=>?_)
   go_simp
   exact hK' _ _ (hK _ _ rfl (xG _ _) fT)
  case h6=>
   intro _ o hi b5 W5 hf K hK
   cases hi
   have k9:b5.tmps[9]?.getD undef= (pO B 0):=(xV ..).symm.trans (hf.at_.vals 5 _ 9 ⟨fH,⟨5,.data⟩,fG,fJ,rfl⟩ rfl rfl)
   obtain⟨⟨q1,q2⟩,q3,q4⟩:=cf W5 hf.at_.cls
   refine bT rfl (fun K' hK'=>?_)
   go_simp
   exact hK' _ _ (hK _ _ rfl (xG _ _) fT)
  case h7=>
   intro _ o hi b5 W5 hf K hK
   cases hi
   have k1:b5.tmps[1]?.getD undef= (pO B' 0):=(xV ..).symm.trans ((hf.at_.keep 1 kA).trans kA)
   refine bT rfl (fun K' hK'=>?_)
   go_simp
   exact hK' _ _ (hK _ _ rfl (xG _ _) fT)
  case h8=>
   intro _ o hi b5 W5 hf K hK
   cases hi
   have k11:b5.tmps[11]?.getD undef= (pO B' 0):=(xV ..).symm.trans (hf.at_.vals 7 _ 11 ⟨fH,⟨7,.data⟩,fG,fJ,rfl⟩ rfl rfl)
   refine bT rfl (fun K' hK'=>?_)
   go_simp
   exact hK' _ _ (hK _ _ rfl (xG _ _) fT)
  case h9=>
   intro _ o hi b5 W5 hf K hK
   cases hi
   have k12:b5.tmps[12]?.getD undef= (pO B' 0):=(xV ..).symm.trans (hf.at_.vals 8 _ 12 ⟨fH,⟨8,.data⟩,fG,fJ,rfl⟩ rfl rfl)
   refine bT rfl (fun K' hK'=>?_)
   go_simp
   exact hK' _ _ (hK _ _ rfl (xG _ _) fT)
  case h10=>
   intro _ o hi b5 W5 hf K hK
   cases hi
   have k13:b5.tmps[13]?.getD undef= (pO B' 0):=(xV ..).symm.trans (hf.at_.vals 9 _ 13 ⟨fH,⟨9,.data⟩,fG,fJ,rfl⟩ rfl rfl)
   refine bT rfl (fun K' hK'=>?_)
   go_simp
   exact hK' _ _ (hK _ _ rfl (xG _ _) fT)
  case h11=>
   intro _ o hi b5 W5 hf K hK
   cases hi
   have k14:b5.tmps[14]?.getD undef= (pO B' 0):=(xV ..).symm.trans (hf.at_.vals 10 _ 14 ⟨fH,⟨10,.data⟩,fG,fJ,rfl⟩ rfl rfl)
   obtain⟨⟨q1,q2⟩,q3,q4⟩:=cf W5 hf.at_.cls
   refine bT rfl (fun K' hK'=>?_)
   go_simp
   exact hK' _ _ (hK _ _ rfl (xG _ _) fT)
  case h12=>
   intro _ o hi b5 W5 hf K hK
   cases hi
   have k10:b5.tmps[10]?.getD undef=.bool (decide (v<0)):=(xV ..).symm.trans (hf.at_.vals 6 _ 10 ⟨fH,⟨6,.data⟩,fG,fJ,rfl⟩ rfl rfl)
   have k15:b5.tmps[15]?.getD undef=.bool (decide (v'<0)):=(xV ..).symm.trans (hf.at_.vals 11 _ 15 ⟨fH,⟨11,.data⟩,fG,fJ,rfl⟩ rfl rfl)
   refine bT rfl (fun K' hK'=>?_)
   go_simp
   exact hK' _ _ (hK _ _ rfl (xG _ _) fT)
  case h13=>
   intro _ o hi b5 W5 hf K hK
   cases hi
   have k0:b5.tmps[0]?.getD undef= (pO B 0):=(xV ..).symm.trans ((hf.at_.keep 0 kA).trans kA)
   refine bT rfl (fun K' hK'=>?_)
   go_simp
   exact hK' _ _ (hK _ _ rfl (xG _ _) fT)
  case h14=>
   intro _ o hi b5 W5 hf K hK
   cases hi
   have k17:b5.tmps[17]?.getD undef= (pO B 0):=(xV ..).symm.trans (hf.at_.vals 13 _ 17 ⟨fH,⟨13,.data⟩,fG,fJ,rfl⟩ rfl rfl)
   refine bT rfl (fun K' hK'=>?_)
   go_simp
   exact hK' _ _ (hK _ _ rfl (xG _ _) fT)
  case h15=>
   intro _ o hi b5 W5 hf K hK
   cases hi
   have k18:b5.tmps[18]?.getD undef= (pO B 0):=(xV ..).symm.trans (hf.at_.vals 14 _ 18 ⟨fH,⟨14,.data⟩,fG,fJ,rfl⟩ rfl rfl)
   refine bT rfl (fun K' hK'=>?_)
   go_simp
   exact hK' _ _ (hK _ _ rfl (xG _ _) fT)
  case h16=>
   intro _ o hi b5 W5 hf K hK
   cases hi
   have k19:b5.tmps[19]?.getD undef= (pO B 0):=(xV ..).symm.trans (hf.at_.vals 15 _ 19 ⟨fH,⟨15,.data⟩,fG,fJ,rfl⟩ rfl rfl)
   refine bT rfl (fun K' hK'=>?_)
   go_simp
   exact hK' _ _ (hK _ _ rfl (xG _ _) fT)
  case h17=>
   intro _ o hi b5 W5 hf K hK
   cases hi
   have k20:b5.tmps[20]?.getD undef= (pO B 1):=(xV ..).symm.trans (hf.at_.vals 16 _ 20 ⟨fH,⟨16,.data⟩,fG,fJ,rfl⟩ rfl rfl)
   obtain⟨⟨q1,q2⟩,q3,q4⟩:=cf W5 hf.at_.cls
   refine bT rfl (fun K' hK'=>?_)
   go_simp
   exact hK' _ _ (hK _ _ rfl (xG _ _) fT)
  case h18=>
   intro _ o hi b5 W5 hf K hK
   cases hi
   have k1:b5.tmps[1]?.getD undef= (pO B' 0):=(xV ..).symm.trans ((hf.at_.keep 1 kA).trans kA)
   refine bT rfl (fun K' hK'=>?_)
   go_simp
   exact hK' _ _ (hK _ _ rfl (xG _ _) fT)
  case h19=>
   intro _ o hi b5 W5 hf K hK
   cases hi
   have k22:b5.tmps[22]?.getD undef= (pO B' 0):=(xV ..).symm.trans (hf.at_.vals 18 _ 22 ⟨fH,⟨18,.data⟩,fG,fJ,rfl⟩ rfl rfl)
   refine bT rfl (fun K' hK'=>?_)
   go_simp
   exact hK' _ _ (hK _ _ rfl (xG _ _) fT)
  case h20=>
   intro _ o hi b5 W5 hf K hK
   cases hi
   have k23:b5.tmps[23]?.getD undef= (pO B' 0):=(xV ..).symm.trans (hf.at_.vals 19 _ 23 ⟨fH,⟨19,.data⟩,fG,fJ,rfl⟩ rfl rfl)
   refine bT rfl (fun K' hK'=>?_)
   go_simp
   exact hK' _ _ (hK _ _ rfl (xG _ _) fT)
  case h21=>
   intro _ o hi b5 W5 hf K hK
   cases hi
   have k24:b5.tmps[24]?.getD undef= (pO B' 0):=(xV ..).symm.trans (hf.at_.vals 20 _ 24 ⟨fH,⟨20,.data⟩,fG,fJ,rfl⟩ rfl rfl)
   refine bT rfl (fun K' hK'=>?_)
   go_simp
   exact hK' _ _ (hK _ _ rfl (xG _ _) fT)
  case h22=>
   intro _ o hi b5 W5 hf K hK
   cases hi
   have k25:b5.tmps[25]?.getD undef= (pO B' 1):=(xV ..).symm.trans (hf.at_.vals 21 _ 25 ⟨fH,⟨21,.data⟩,fG,fJ,rfl⟩ rfl rfl)
   obtain⟨⟨q1,q2⟩,q3,q4⟩:=cf W5 hf.at_.cls
   refine bT rfl (fun K' hK'=>?_)
   go_simp
   exact hK' _ _ (hK _ _ rfl (xG _ _) fT)
  case h23=>
   intro _ o hi b5 W5 hf K hK
   cases hi
   have k21:b5.tmps[21]?.getD undef=.slice A n c:=(xV ..).symm.trans (hf.at_.vals 17 _ 21 ⟨fH,⟨17,.data⟩,fG,fJ,rfl⟩ rfl rfl)
   have k26:b5.tmps[26]?.getD undef=.slice A' n' c':=(xV ..).symm.trans (hf.at_.vals 22 _ 26 ⟨fH,⟨22,.data⟩,fG,fJ,rfl⟩ rfl rfl)
   refine bT rfl (fun K' hK'=>?_)
   go_simp
   have hm:=zOx A n c l A' n' c' l' W5 (hr.below hf.at_.cls) (hr'.below hf.at_.cls) hi.lt hi'.lt oA oA
   rw[hi.val,hi'.val]at hm
   refine bG (bB.2 hm) ?_
   rintro e W' ⟨A7,n7,c7,l7,rfl,hi7,hr7,hb7⟩
   exact hK' _ _ (hK _ _ ⟨A7,n7,c7,l7,rfl,hi7,hr7⟩ hb7 fT)
 case fin=>
  intro b5 W5 hf
  have e4:b5.tmps.getD 4 undef= (pO B 0):=hf.at_.vals 0 _ 4 ⟨fH,fH⟩ rfl rfl
  have e6:b5.tmps.getD 6 undef= (pO B 0):=hf.at_.vals 2 _ 6 ⟨fH,fH⟩ rfl rfl
  have e7:b5.tmps.getD 7 undef= (pO B 0):=hf.at_.vals 3 _ 7 ⟨fH,fH⟩ rfl rfl
  have e8:b5.tmps.getD 8 undef= (pO B 0):=hf.at_.vals 4 _ 8 ⟨fH,fH⟩ rfl rfl
  have e9:b5.tmps.getD 9 undef= (pO B 0):=hf.at_.vals 5 _ 9 ⟨fH,fH⟩ rfl rfl
  have e10:b5.tmps.getD 10 undef=.bool (decide (v<0)):=hf.at_.vals 6 _ 10 ⟨fH,fH⟩ rfl rfl
  have e11:b5.tmps.getD 11 undef= (pO B' 0):=hf.at_.vals 7 _ 11 ⟨fH,fH⟩ rfl rfl
  have e12:b5.tmps.getD 12 undef= (pO B' 0):=hf.at_.vals 8 _ 12 ⟨fH,fH⟩ rfl rfl
  have e13:b5.tmps.getD 13 undef= (pO B' 0):=hf.at_.vals 9 _ 13 ⟨fH,fH⟩ rfl rfl
  have e14:b5.tmps.getD 14 undef= (pO B' 0):=hf.at_.vals 10 _ 14 ⟨fH,fH⟩ rfl rfl
  have e15:b5.tmps.getD 15 undef=.bool (decide (v'<0)):=hf.at_.vals 11 _ 15 ⟨fH,fH⟩ rfl rfl
  have e16:b5.tmps.getD 16 undef=.bool (!(decide (v<0)==decide (v'<0))):=hf.at_.vals 12 _ 16 ⟨fH,fH⟩ rfl rfl
  have e17:b5.tmps.getD 17 undef= (pO B 0):=hf.at_.vals 13 _ 17 ⟨fH,fH⟩ rfl rfl
  have e18:b5.tmps.getD 18 undef= (pO B 0):=hf.at_.vals 14 _ 18 ⟨fH,fH⟩ rfl rfl
  have e19:b5.tmps.getD 19 undef= (pO B 0):=hf.at_.vals 15 _ 19 ⟨fH,fH⟩ rfl rfl
  have e20:b5.tmps.getD 20 undef= (pO B 1):=hf.at_.vals 16 _ 20 ⟨fH,fH⟩ rfl rfl
  have e21:b5.tmps.getD 21 undef=.slice A n c:=hf.at_.vals 17 _ 21 ⟨fH,fH⟩ rfl rfl
  have e22:b5.tmps.getD 22 undef= (pO B' 0):=hf.at_.vals 18 _ 22 ⟨fH,fH⟩ rfl rfl
  have e23:b5.tmps.getD 23 undef= (pO B' 0):=hf.at_.vals 19 _ 23 ⟨fH,fH⟩ rfl rfl
  have e24:b5.tmps.getD 24 undef= (pO B' 0):=hf.at_.vals 20 _ 24 ⟨fH,fH⟩ rfl rfl
  have e25:b5.tmps.getD 25 undef= (pO B' 1):=hf.at_.vals 21 _ 25 ⟨fH,fH⟩ rfl rfl
  have e26:b5.tmps.getD 26 undef=.slice A' n' c':=hf.at_.vals 22 _ 26 ⟨fH,fH⟩ rfl rfl
  have v27:=hf.at_.vals 23 _ 27 ⟨fH,fH⟩ rfl rfl
  have hE:=zLN [4,6,7,8,9,10,11,12,13,14,15,16,17,18,19,20,21,22,23,24,25,26,27,28,29,30,31,32,33] hf.at_.size (fun t ht5=>hf.at_.keep t (zUu (by rw[show zPj _ _=[4,6,7,8,9,10,11,12,13,14,15,16,17,18,19,20,21,22,23,24,25,26,27,28,29,30,31,32,33]from fJ];exact ht5)))
  have hcl5:=hf.at_.cls
  obtain⟨tm,df⟩:=b5
  obtain rfl:df=_:=hf.at_.defers
  clear hf
  simp only[eQ,List.foldl_nil]at hE
  rw[show tm.getD 4 undef=_ from e4]at hE;clear e4
  rw[show tm.getD 6 undef=_ from e6]at hE;clear e6
  rw[show tm.getD 7 undef=_ from e7]at hE;clear e7
  rw[show tm.getD 8 undef=_ from e8]at hE;clear e8
  rw[show tm.getD 9 undef=_ from e9]at hE;clear e9
  rw[show tm.getD 10 undef=_ from e10]at hE;clear e10
  rw[show tm.getD 11 undef=_ from e11]at hE;clear e11
  rw[show tm.getD 12 undef=_ from e12]at hE;clear e12
  rw[show tm.getD 13 undef=_ from e13]at hE;clear e13
  rw[show tm.getD 14 undef=_ from e14]at hE;clear e14
  rw[show tm.getD 15 undef=_ from e15]at hE;clear e15
  rw[show tm.getD 16 undef=_ from e16]at hE;clear e16
  rw[show tm.getD 17 undef=_ from e17]at hE;clear e17
  rw[show tm.getD 18 undef=_ from e18]at hE;clear e18
  rw[show tm.getD 19 undef=_ from e19]at hE;clear e19
  rw[show tm.getD 20 undef=_ from e20]at hE;clear e20
  rw[show tm.getD 21 undef=_ from e21]at hE;clear e21
  rw[show tm.getD 22 undef=_ from e22]at hE;clear e22
  rw[show tm.getD 23 undef=_ from e23]at hE;clear e23
  rw[show tm.getD 24 undef=_ from e24]at hE;clear e24
  rw[show tm.getD 25 undef=_ from e25]at hE;clear e25
  rw[show tm.getD 26 undef=_ from e26]at hE;clear e26
  obtain⟨x27,hx27⟩:∃x,tm.getD 27 undef=x:=⟨_,rfl⟩;rw[hx27]at hE;rw[show tm.getD 27 undef=_ from hx27]at v27;clear hx27
  obtain⟨u28,hu28⟩:∃x,tm.getD 28 undef=x:=⟨_,rfl⟩;rw[hu28]at hE;clear hu28
  obtain⟨u29,hu29⟩:∃x,tm.getD 29 undef=x:=⟨_,rfl⟩;rw[hu29]at hE;clear hu29
  obtain⟨u30,hu30⟩:∃x,tm.getD 30 undef=x:=⟨_,rfl⟩;rw[hu30]at hE;clear hu30
  obtain⟨u31,hu31⟩:∃x,tm.getD 31 undef=x:=⟨_,rfl⟩;rw[hu31]at hE;clear hu31
  obtain⟨u32,hu32⟩:∃x,tm.getD 32 undef=x:=⟨_,rfl⟩;rw[hu32]at hE;clear hu32
  obtain⟨u33,hu33⟩:∃x,tm.getD 33 undef=x:=⟨_,rfl⟩;rw[hu33]at hE;clear hu33
  rewrite [hE]
  clear hE
  obtain⟨A2,n2,c2,l2,rfl,hi2,hr2⟩:=v27
  have hb3:=hb.kept hcl5
  obtain⟨⟨m0,m1⟩,m2,m3⟩:=hb3.facts2
  go_simp
  refine zAL (i:=24) kA rfl (fun K hK=>?_)
  go_simp
  refine hK _ _ (.inr trivial) ?_
  clear hK K
  refine zAL (i:=25) kA rfl (fun K hK=>?_)
  go_simp
  refine hK _ _ (.inr trivial) ?_
  clear hK K
  refine zAL (i:=26) kA rfl (fun K hK=>?_)
  go_simp
  refine hK _ _ (.inr trivial) ?_
  clear hK K
  refine zAL (i:=27) kA rfl (fun K hK=>?_)
  go_simp
  refine hK _ _ (.inr trivial) ?_
  clear hK K
  have hb4:=hb3.set 0 (.bool (!(decide (v<0)==decide (v'<0))))
  obtain⟨⟨m0,m1⟩,m2,m3⟩:=hb4.facts2
  refine zAL (i:=28) kA rfl (fun K hK=>?_)
  go_simp
  refine hK _ _ (.inr trivial) ?_
  clear hK K
  refine zAL (i:=29) kA rfl (fun K hK=>?_)
  go_simp
  refine hK _ _ (.inr trivial) ?_
  clear hK K
  refine zAL (i:=30) kA rfl (fun K hK=>?_)
  go_simp
  refine hK _ _ (.inr trivial) ?_
  clear hK K
  refine zAL (i:=31) kA rfl (fun K hK=>?_)
  go_simp
  refine hK _ _ (.inr trivial) ?_
  clear hK K
  refine zCW kA ?_
  have hv2:iv (!(decide (v<0)==decide (v'<0))) l2=v*v':=zTA hi2.val
  have hn2:n2<=80000:=by rw[<-hr2.len];exact xR (hi2.len (k:=k+k) (by rw[uC];exact pL hv (nL hv') (uO qC))) oA
  go_wp2_with (go_at_call 144;refine(zEr B _ A2 n2 c2 l2 _ (hb4.set 1 _) ((hr2.setN hb3 (i:=0) rfl (fun _=>fG) _).setN hb4 (i:=1) rfl (fun _=>fG) _) hi2.lt oA).mono ?_;rintro e w4 ⟨rfl,hn4,hg4⟩)
  refine bodyPost_end (results_none rfl _ _ _) rfl<|⟨⟨_,rfl⟩,?_,?_⟩
  .rw[hv2]at hn4;exact hn4
  .exact((zCE hcl5).but (some B)).trans ((qD W5 ⟨B,0,none⟩ _).trans ((qD _ ⟨B,1,none⟩ _).trans hg4))
attribute [local go_sem] Oper.semAt_some qL yG
theorem zWe(w:WB):Calls prog 76 #[.int .i64 1] w fun e w'=>∃A n c l,e=.returned (.agg #[.bool false,.slice A n c])/\Is l 1/\Rd w' A n c l/\n<=1/\bW w w':=
 (zKY 1 oA oA w).mono fun e w' ⟨A,n,c,l,J,h2,h3,I⟩=>⟨A,n,c,l,J,h2,h3,by rw[<-h3.len];exact h2.len (k:=1) fH,I⟩
def zXm(w:WB)(B0 P:Nat)(is:List (Bool×List Nat))(k:Nat)(W:WB):Prop:=
 zAI W B0 (zCB is k)/\Boxed W P 135 (pO B0 0)/\q7 W w.heap.size 26 #[.bool false, sN]/\bW w W/\P+2<=W.heap.size
theorem zIK(w:WB)(B0 P:Nat)(is:List (Bool×List Nat)){C:Nat}(hC:w.heap.size<=C):OwnFrom C (zXm w B0 P is):=by
 rintro k W W' row ⟨U,h2,h3,O,h5⟩ I J
 exact⟨U.abide I J,qR h2 I J,h3.abide I J,zAA O I (vQ _) hC J,xR h5 I.size⟩
theorem zQh(A:Option Addr)(n c:Nat)(is:List (Bool×List Nat))(M:Nat)(w:WB)(h:IRd w A n is)(hn:n<=c)(hc:c<=9223372036854775807)(hM:M<=40000)(hv:∀k,(zE0 is k).natAbs<BB^M)(hp:∀k,k<=n->(zCB is k).natAbs<BB^M)(hnn:n<=1000000:=by first|omega|decide):
  Calls prog 104 #[.slice A n c] w (qT w (zCB is n)):=by
 refine q6 func104 rfl ?_
 simp only[ntmps104,bN,lU,mP,Nat.reduceAdd,Nat.reduceSub,mQ,mR,mS,mT,lS,mM]
 go_wp2_with (first|(go_at_call 76;refine(zWe _).mono ?_;rintro e w1 ⟨A1,n1,c1,l1,rfl,hi1,hr1,hn1,hb1⟩)|(go_at_call 125;refine(zFV false A1 n1 c1 l1 _ hr1 hi1.lt oA).mono ?_;rintro e w2 ⟨B0,rfl,hB0,hn0,hb0⟩)|(go_at_call 126;refine(zPG A n c _).mono ?_;rintro e w3 ⟨rfl,rfl⟩))
 have hiv0:iv false l1=1:=by unfold iv;rw[hi1.val];rfl
 rw[hiv0]at hn0
 obtain⟨W0,hW0⟩:∃W0,((w2.alloc (.cells #[pO B0 0] 135)).alloc (.cells #[.slice A n c] 109))=W0:=⟨_,rfl⟩
 have hsz:W0.heap.size=w2.heap.size+2:=by rw[<-hW0];simp
 have hB0l:=hn0.lt
 have hbw1:bW w w1:=((xG _ w).alloc (vQ _) _).trans (hb1.mono fC)
 have hsz1:w.heap.size<w1.heap.size:=vV fC hb1.size
 have hB0g:w.heap.size<B0:=vV hsz1 hB0
 have hbw2:bW w w2:=hbw1.trans (hb0.mono hbw1.size)
 have hB1:bW w W0:=by rw[<-hW0];exact(hbw2.alloc hbw2.size _).alloc (by simp;exact Nat.le_succ_of_le hbw2.size) _
 have x0:zAI W0 B0 1:=by rw[<-hW0];exact hn0.kept (((xG _ w2).alloc (vQ _) _).alloc fC _)
 have x1:Boxed W0 w2.heap.size 135 (pO B0 0):=by rw[<-hW0];exact(cJ w2 _ _).alloc _
 have x2:Boxed W0 (w2.heap.size+1) 109 (.slice A n c):=by rw[<-hW0];exact zAG _ _ _ fC
 have x3:q7 W0 w.heap.size 26 #[.bool false, sN]:=by rw[<-hW0];exact(((zMj hb1 rfl).kept hb0).alloc _).alloc _
 rw[hW0]
 clear hW0
 have hSb:∀b,(b<w.heap.size∨b=w2.heap.size+1)->b<W0.heap.size:=fun b hb=>by have:=hbw2.size;omega
 refine zCt (gf:=145) rfl (enters_of func145 kA rfl) (zJK A n c is (w2.heap.size+1) w W0 h hB1 hn hc x2.cell (S:=fun b=>b<w.heap.size∨b=w2.heap.size+1) hSb (.inr rfl) (fun b hb=>.inl hb)) ?hE ?hps zGA.trans (zH8 hSb)
  (zXm w B0 w2.heap.size is) (zIK w B0 _ is hB1.size) (zCo (zIK w B0 _ is (vQ _))) wT (fun _ _ _ _ _ _ _ _=>trivial) ⟨x0,x1,x3,hB1,nV hsz.symm⟩
  (fun _ xs=>{ tmps:=#[.slice A n c,undef,pO w.heap.size 0,pO w2.heap.size 0,xs.getD 0 undef,.agg #[.bool false,.slice A1 n1 c1],pO B0 0,.slice A n c,.func (.func 145) #[] #[.pointer (some ⟨w2.heap.size+1,0,none⟩)],xs.getD 0 undef,undef,undef,undef,undef,undef,undef,undef],defers:=[] }) ?assign ?body ?done
 case hE=>
  rintro k xs W l o o' ⟨B,rfl,h1,h2⟩ ho hc
  exact⟨B,rfl,h1,h2.abide (C:=0) (eO W l o') (fun r e=>by cases e;exact⟨vS _,o,ho,hc⟩)⟩
 case hps=>
  rintro k xs W ⟨B,rfl,_⟩
  rfl
 case assign=>
  rintro lp k xs W K ⟨B,rfl,h1,h2⟩ hK
  gi_wp2
  exact hK
 case body=>
  rintro lp k xs W hk ⟨h1,h2,h3,h4,h5⟩ ⟨B,rfl,hB,hnb⟩
  have hc2:=h2.cell
  have hne:B≠B0:=oA
  have hkm:k<=1000000:=oA
  have hbd:=hp k (nL hk)
  have hbd2:=hv k
  gi_wp2_with (gi_at_call 128;refine bG (bB.2 (zUt B0 B _ _ M W h1 hnb hbd hbd2 hM)) ?_;rintro e w3 ⟨⟨u,rfl⟩,hn3,hg3⟩)
  have hbx:∃vs t,q7 W B0 t vs:=by obtain⟨_,_,_,_,g,_⟩:=h1;exact⟨_,_,g⟩
  obtain⟨vs,t,g⟩:=hbx
  refine⟨(eJ hg3 (fun j o e ho=>by cases e;rw[show W.heap[B0]?=_ from g]at ho;cases ho;rfl)).from _,⟨(y8.refl _ _).grown hg3 (fun b hb=>⟨by have:=hSb b hb;omega,fun e=>by cases e;omega⟩),hg3.size⟩,hn3,h2.kept hg3 (fun e=>by cases e;omega),(hg3.block _ h3.lt (fun e=>by cases e;omega)).trans h3,zA3 h4 hg3 h4.size oA,xR h5 hg3.size⟩
 case done=>
  rintro D W hD ⟨h1,h2,h3,h4,h5⟩ _ hd
  obtain⟨A2,n2,c2,l2,⟨g0,g1⟩,hi2,hr2⟩:=h1.parts
  have hc2:=h2.cell
  obtain⟨⟨q0,q1⟩,q2,q3⟩:=h3.facts2
  go_wp2
  have hb5:=(h3.set 0 (.bool (decide (zCB is n<0)))).set 1 (.slice A2 n2 c2)
  have hM:Marks w.heap.size ((W.setCell ⟨w.heap.size,0,none⟩ (.bool (decide (zCB is n<0)))).setCell ⟨w.heap.size,1,none⟩ (.slice A2 n2 c2)) [mark D] [D]:=((Marks.nil w.heap.size W).more (D:=D) fC (by have:=hB1.size;omega) hd).others ((bR _ _ _).trans (bR _ _ _))
  obtain⟨A3,n3,c3,l3,e3,hi3,hr3,hb3⟩:=zIV h3 h4 (vQ _) hi2 hr2
  cases e3
  refine qH _ (v:=.agg #[.bool (decide (zCB is n<0)),.slice A2 n2 c2]) (fun w' ho'=>?_) [D] _ _ hM (Oth.refl _ _) ?_
  .obtain⟨⟨c0,c1⟩,_,_⟩:=(hb5.oth ho').facts2
   simp[results,results104,go_sem,c0,c1]
  .intro w' ho
   exact⟨A2,n2,c2,l3,rfl,hi3,hr3.oth ho,zAh hb3 ho (vQ _)⟩
def Bd(k:Int)(m:Nat):Prop:=k.natAbs<BB^m
theorem Bd.mono(h:Bd k m)(I:m<=m'):Bd k m':=vV h (vZ qC I)
theorem Bd.add{a b:Int}(h:Bd a m)(h':Bd b m):Bd (a+b) (m+1):=by
 unfold Bd at*
 rw[uA]
 unfold BB at*
 omega
theorem Bd.neg{a:Int}(h:Bd a m):Bd (-a) m:=by
 unfold Bd at*
 rwa [Int.natAbs_neg]
theorem Bd.sub{a b:Int}(h:Bd a m)(I:Bd b m):Bd (a-b) (m+1):=by
 rw[Int.sub_eq_add_neg]
 exact h.add I.neg
theorem Bd.mul{a b:Int}(h:Bd a m)(I:Bd b n):Bd (a*b) (m+n):=by
 unfold Bd at*
 rw[Int.natAbs_mul,uC]
 exact pL h (nL I) (uO qC)
theorem UV.bd{v:Value}(h:UV W m v k):Bd k m:=h.bound
theorem NV.uv'{v:Value}(h:NV W v k){m:Nat}(I:Bd k m):UV W m v k:=h.uv I
def ISV(W:WB)(m:Nat)(v:Value)(ks:List Int):Prop:=∃is:List (Bool×List Nat),IS W m v is/\is.map (fun p=>iv p.1 p.2)=ks
theorem ISV.below{W':WB}{v:Value}(h:ISV W m v ks)(hb:bW W W'):ISV W' m v ks:=by
 obtain⟨is,I,h2⟩:=h
 exact⟨is,I.below hb,h2⟩
theorem zR1{s:Bool}{A:Option Addr}{c:Nat}(h:UV W m (.agg #[.bool s,.slice A n c]) k):∃l,Rd W A n c l/\Lt l/\n<=m/\iv s l=k:=by
 obtain⟨s',A',n',c',l,I,O,h2,h3,J⟩:=h
 injection I with I
 injection I with I
 injection I with e1 I
 injection I with e2 _
 injection e1 with e1
 injection e2 with f1 f2 f3
 subst e1;subst f1;subst f2;subst f3
 exact⟨l,O,h2,h3,J⟩
theorem ISV.two{s:Bool}{A:Option Addr}{c:Nat}(h:UV W m (.agg #[.bool s,.slice A n c]) k){s':Bool}{A':Option Addr}{n' c':Nat}{k':Int}(U:UV W m (.agg #[.bool s',.slice A' n' c']) k')(t:TypeId):
  ISV (W.alloc (.cells #[.bool s,.slice A n c,.bool s',.slice A' n' c'] t)) m (.slice (some ⟨W.heap.size,0,none⟩) 2 2) [k,k']:=by
 obtain⟨l,h1,h2,h3,rfl⟩:=zR1 h
 obtain⟨l',I,O,J,rfl⟩:=zR1 U
 exact⟨[(s,l),(s',l')],IS.two h1 h2 h3 I O J t,rfl⟩
theorem zGm(is:List (Bool×List Nat)):∀k,k<=is.length->zEL is k=((is.take k).map fun p=>iv p.1 p.2).sum
 |0,_=>rfl
 |k+1,h=>by
  have I:=zGm is k oA
  show zEL is k+zE0 is k=_
  rw[I,mF oA,rQ,sD]
  unfold zE0
  rw[nE oA]
  simp
theorem zE1(is:List (Bool×List Nat)):∀k,k<=is.length->zCB is k=((is.take k).map fun p=>iv p.1 p.2).foldl (·*·) 1
 |0,_=>rfl
 |k+1,h=>by
  have I:=zE1 is k oA
  show zCB is k*zE0 is k=_
  rw[I,mF oA,rQ,List.foldl_append]
  unfold zE0
  rw[nE oA]
  simp
theorem zIg{m:Nat}{w:WB}{A:Option Addr}{n:Nat}{is:List (Bool×List Nat)}(h:IRdM m w A n is):∀k,Bd (zCB is k) (m*k+1)
 |0=>by
  show(1:Int).natAbs<BB^(0+1)
  decide
 |k+1=>by
  have I:=(zIg h k).mul (show Bd (zE0 is k) m from zIa h k)
  show Bd (zCB is k*zE0 is k) _
  exact I.mono (by rw[uH];omega)
theorem zYX{v:Value}(h:ISV W m v ks)(U:m<=100000)(O:ks.length<=1000)(I:ks.sum=k):Calls prog 103 #[v] W (zIz W k):=by
 obtain⟨is,J,h2⟩:=h
 have:=zYY J U (by rw[<-h2,bF]at O;omega)
 rw[zGm is is.length (vQ _),rT,h2,I]at this
 exact this
theorem zOw{v:Value}(h:ISV W m v ks)(U:m*ks.length+m+1<=40000)(J:ks.foldl (·*·) 1=k)(hl:ks.length<=1000):Calls prog 104 #[v] W (zIz W k):=by
 obtain⟨is,⟨A,c,rfl,h3,O,I⟩,h2⟩:=h
 have hl2:is.length=ks.length:=by rw[<-h2,bF]
 have:=(zQh A is.length c is (m*ks.length+m+1) W (IRdM.mono I oA) h3 O U (fun k=>vV (zIa I k) (vZ qC oA)) (fun k J=>(zIg I k).mono (by
  have:m*k<=m*ks.length:=uS _ oA
  omega))).mono fun _ _=>qT.v
 rw[zE1 is is.length (vQ _),rT,h2,J]at this
 exact this
theorem zJq(n:Int)(d:Nat):(mkRat n d).num.natAbs<=n.natAbs:=by
 rw[Rat.num_mkRat]
 split
 .simp
 .have I:((d.gcd n.natAbs:Nat):Int)∣n:=Int.natAbs_dvd_natAbs.1 (by simpa using gZ d n.natAbs)
  rw[Int.natAbs_ediv_of_dvd I]
  simp only[rX]
  exact rP _ _
theorem zJr(n:Int)(d:Nat)(h:0<d):(mkRat n d).den<=d:=by
 rw[Rat.den_mkRat,if_neg oA]
 exact rP _ _
theorem zEt(n:Int)(d:Nat)(h:0<d):(mkRat n d).num.natAbs=n.natAbs/Nat.gcd n.natAbs d:=by
 rw[Rat.num_mkRat,if_neg oA]
 have I:((d.gcd n.natAbs:Nat):Int)∣n:=Int.natAbs_dvd_natAbs.1 (by simpa using gZ d n.natAbs)
 rw[Int.natAbs_ediv_of_dvd I,uQ]
 simp only[rX]
theorem zDa(n:Int)(d:Nat)(h:0<d):(mkRat n d).den=d/Nat.gcd n.natAbs d:=by
 rw[Rat.den_mkRat,if_neg oA,uQ]
theorem zCM(n:Int)(d:Nat)(h:0<d):decide ((mkRat n d).num<0)=decide (n<0):=by
 have I:=@Rat.divInt_nonneg_iff_of_pos_right n d oA
 rw[sI,<-rY]at I
 rw[rR]
 omega
def QB(q:Rat)(m:Nat):Prop:=Bd q.num m/\q.den<BB^m
theorem QB.mono(h:QB q m)(I:m<=m'):QB q m':=⟨h.1.mono I,vV h.2 (vZ qC I)⟩
theorem vF{d:Nat}(J:Bd k m)(I:d<BB^m)(hm:0<m):QB (mkRat k d) m:=by
 refine⟨nD (zJq k d) J,?_⟩
 rcases uJ d with rfl|h
 .rw[rZ]
  show 1<BB^m
  exact Nat.one_lt_pow oA (by unfold BB;omega)
 .exact nD (zJr k d h) I
theorem QB.pos(h:QB q m):0<m:=by
 rcases uJ m with rfl|I
 .have:=h.2
  rw[Nat.pow_zero]at this
  have:=q.den_pos
  omega
 .exact I
theorem jF{x:Nat}(h:x<BB^m):Bd (x:Int) m:=by unfold Bd;rwa [rX]
theorem zEV{a b:Nat}(h:a<BB^m)(I:b<BB^n):a*b<BB^(m+n):=by
 rw[uC]
 exact pL h (nL I) (uO qC)
theorem QB.num_add{p:Rat}(h:QB p m)(I:QB q n):Bd (p.num*q.den+q.num*p.den) (m+n+1):=
 (h.1.mul (jF I.2)).add ((I.1.mul (jF h.2)).mono oA)
theorem QB.den_mul{p:Rat}(h:QB p m)(I:QB q n):p.den*q.den<BB^(m+n):=zEV h.2 I.2
theorem QB.add{p:Rat}(h:QB p m)(I:QB q n):QB (p+q) (m+n+1):=by
 rw[Rat.add_def']
 exact vF (h.num_add I) (vV (h.den_mul I) (vZ qC oA)) oA
theorem QB.mul{p:Rat}(h:QB p m)(I:QB q n):QB (p*q) (m+n):=by
 rw[Rat.mul_def']
 exact vF (h.1.mul I.1) (h.den_mul I) (by have:=h.pos;omega)
theorem QB.neg(h:QB q m):QB (-q) m:=⟨by rw[Rat.neg_num];exact h.1.neg,h.2⟩
theorem QB.sub{p:Rat}(h:QB p m)(I:QB q n):QB (p-q) (m+n+1):=by
 rw[sJ]
 exact h.add I.neg
theorem zEo(h:0<m):1<BB^m:=Nat.one_lt_pow oA (by unfold BB;omega)
theorem QB.int{z:Int}(h:Bd z m)(I:0<m):QB (z:Rat) m:=⟨h,zEo I⟩
theorem zTR(p q:Rat):p.num*q.den-q.num*p.den<0↔p<q:=by rw[Rat.lt_iff];omega
theorem zQD(p q:Rat):p.num*q.den-q.num*p.den=0↔p=q:=by rw[Rat.eq_iff_mul_eq_mul];omega
def qsg(p q:Rat):Int:=(p.num*q.den-q.num*p.den).sign
theorem zI6{p:Rat}:qsg p q= -1↔p<q:=by
 unfold qsg
 rw[<-zTR,Int.sign_eq_neg_one_iff_neg]
theorem zCS{p:Rat}:qsg p q=0↔p=q:=by
 unfold qsg
 rw[<-zQD,sK]
theorem zJ6(p q:Rat):qsg q p= - qsg p q:=by
 unfold qsg
 rw[<-Int.sign_neg]
 congr 1
 omega
theorem zG0{p:Rat}:qsg p q=1↔q<p:=by
 rw[<-zI6,zJ6 p q]
 omega
theorem zEU(p q:Rat):qsg p q= -1∨qsg p q=0∨qsg p q=1:=by
 unfold qsg
 have:=Int.sign_trichotomy (p.num*q.den-q.num*p.den)
 omega
abbrev V2:=Rat×Rat
variable {A c l l':List V2}{a b p u w x y z:V2}{E F:List (V2×V2)}{e:V2×V2}
structure Aff where
 a:Rat
 b:Rat
 c:Rat
variable {g:Aff}
def Aff.v(f:Aff)(p:V2):Rat:=f.a*p.1+f.b*p.2+f.c
def crs(a b p:V2):Rat:=(b.1-a.1)*(p.2-a.2)-(b.2-a.2)*(p.1-a.1)
def lin(a b:V2):Aff:=⟨-(b.2-a.2),b.1-a.1,(b.2-a.2)*a.1-(b.1-a.1)*a.2⟩
theorem yO(a b p:V2):(lin a b).v p=crs a b p:=by unfold lin Aff.v crs;grind
theorem zXw{U O J p4 v1 v2 v3 v4:Rat}(h1:0<=U)(h2:0<=O)(h3:0<=J)(h4:0<=p4)(hs:0<U+O+J+p4)(g1:U≠0->0<v1)(g2:O≠0->0<v2)(g3:J≠0->0<v3)(g4:p4≠0->0<v4):0<U*v1+O*v2+J*v3+p4*v4:=by
 have I:∀{p v:Rat},0<=p->(p≠0->0<v)->0<=p*v/\(0<p->0<p*v):=fun {p v} hp hv=>by
  by_cases e:p=0
  .subst e;exact⟨fF,fun h=>absurd h fF⟩
  .have h5:0<p:=fF
   have:=rB h5 (hv e)
   exact⟨fF,fun _=>this⟩
 have k1:=I h1 g1;have k2:=I h2 g2;have k3:=I h3 g3;have k4:=I h4 g4
 by_cases e1:0<U
 .have:=k1.2 e1;grind
 by_cases e2:0<O
 .have:=k2.2 e2;grind
 by_cases e3:0<J
 .have:=k3.2 e3;grind
 have:=k4.2 fF;grind
theorem zCy{x:Rat}(J:0<s)(h:0<x*s):0<x:=by
 rcases(rM:x<=0∨0<=x)with I|I
 .have:=rD (show 0<=-x from fF) (rE J)
  grind
 .by_cases e:x=0
  .subst e;grind
  .grind
def at_(l:List V2)(i:Nat):V2:=l.getD i (0,0)
abbrev tn(l:List V2)(k:Nat):V2:=at_ l ((k+1)%l.length)
theorem zFg(h:p∈l):∃i,i<l.length/\at_ l i=p:=by
 obtain⟨i,hi,e⟩:=nY h
 exact⟨i,hi,by unfold at_;rw[rG,nE hi];exact e⟩
theorem jZ(h:i<l.length):at_ l i∈l:=by
 unfold at_;rw[rG,nE h];exact uZ h
theorem zUT(f:Aff)(p q r x:V2):crs p q r*(f.v x-f.v q)=crs p q x*(f.v r-f.v q)+crs q r x*(f.v p-f.v q):=by unfold crs Aff.v;grind
def ch(R:V2->V2->Prop):List V2->Prop
 |p::q::r=>R p q/\ch R (q::r)
 |_=>True
def zZQ(R:V2->V2->Prop)(l:List V2):Prop:=∃p t,l=p::t/\ch R (p::(t++ [p]))
def seg(p q:V2)(t:Rat):V2:=(p.1+(q.1-p.1)*t,p.2+(q.2-p.2)*t)
def zZP(z p q:V2):Prop:=0<crs p q z
def zX4(f:Aff):Aff:=⟨-f.a,-f.b,-f.c⟩
theorem zOv(f:Aff)(p:V2):(zX4 f).v p= -f.v p:=by unfold zX4 Aff.v;grind
theorem zLS{q r:V2}(h:a≠b)(hp:crs a b p=0)(hq:crs a b q=0)(hr:crs a b r=0):crs p q r=0:=by
 have J:a.1≠b.1∨a.2≠b.2:=by
  by_cases e:a.1=b.1
  .exact .inr fun e'=>h (rF e e')
  .exact .inl e
 unfold crs at*
 rcases J with h|h
 .have:(b.1-a.1)*((q.1-p.1)*(r.2-p.2)-(q.2-p.2)*(r.1-p.1))=0:=fF
  rcases rH.1 this with I|I
  .grind
  .exact I
 .have:(b.2-a.2)*((q.1-p.1)*(r.2-p.2)-(q.2-p.2)*(r.1-p.1))=0:=fF
  rcases rH.1 this with I|I
  .grind
  .exact I
def zFb(l:List V2)(k:Nat):List V2:=l.drop k++l.take k
theorem zHF(l:List V2)(k:Nat):(zFb l k).length=l.length:=by simp[zFb];omega
theorem zTI(l:List V2)(k:Nat)(p:V2):p∈zFb l k↔p∈l:=by
 unfold zFb
 rw[vW,Or.comm,<-vW,gB]
theorem zPB{k:Nat}(hk:k<l.length)(hi:i<l.length):at_ (zFb l k) i=at_ l ((i+k)%l.length):=by
 unfold at_ zFb
 rw[rG,rG]
 congr 1
 by_cases h:i+k<l.length
 .rw[gC (by rw[uK];omega),uX,uD h,gO]
 .have e:(i+k)%l.length=i+k-l.length:=by
   rw[Nat.mod_eq_sub_mod oA,uD oA]
  rw[gE (by rw[uK];omega),uK,e,uU,if_pos oA]
  congr 1
  omega
def fl(q:Rat):Int:=q.num/(q.den:Int)
theorem zLA(q:Rat):(q.num:Rat)=q*(q.den:Rat):=by
 have h:=sE q
 rw[Rat.mkRat_eq_div]at h
 have hd:(q.den:Rat)≠0:=fun h=>q.den_nz (by exact_mod_cast h)
 grind
theorem vE{X D:Int}(hm:0<m)(h:q*(D:Rat)=(X:Rat))(hD:D≠0)(hX:Bd X m)(J:Bd D m):QB q m:=by
 have e0:=zLA q
 have e1:((q.num*D:Int):Rat)=((X*(q.den:Int):Int):Rat):=by
  rw[rU,rU,e0,<-h]
  show q*(q.den:Rat)*(D:Rat)=q*(D:Rat)*((q.den:Int):Rat)
  rw[sL]
  grind
 have e2:q.num*D=X*(q.den:Int):=by exact_mod_cast e1
 have O:q.num.natAbs*D.natAbs=X.natAbs*q.den:=by
  have:=vR Int.natAbs e2
  rwa [Int.natAbs_mul,Int.natAbs_mul,rX]at this
 have hc:Nat.Coprime q.den q.num.natAbs:=q.reduced.symm
 have hd:q.den∣D.natAbs:=hc.dvd_of_dvd_mul_left (by rw[O];exact Nat.dvd_mul_left _ _)
 have hDp:0<D.natAbs:=Int.natAbs_pos.2 hD
 obtain⟨k,U⟩:=hd
 have I:0<k:=by
  rcases uJ k with h|h;· rw[h]at U;omega
  .exact h
 refine⟨?_,nD ?_ J⟩
 .have:q.num.natAbs*k=X.natAbs:=by
   rw[U,<-vX,vT q.num.natAbs,vX,vT q.den]at O
   exact Nat.eq_of_mul_eq_mul_right q.den_pos O
  refine nD ?_ hX
  rw[<-this]
  exact Nat.le_mul_of_pos_right _ I
 .rw[U];exact Nat.le_mul_of_pos_right _ I
def PB(p:V2)(m:Nat):Prop:=QB p.1 m/\QB p.2 m
structure Ln where
 A:Int
 B:Int
 C:Int
def Ln.bd(l:Ln)(m:Nat):Prop:=Bd l.A m/\Bd l.B m/\Bd l.C m
def Ln.on(l:Ln)(p:V2):Prop:=(l.A:Rat)*p.1+(l.B:Rat)*p.2+(l.C:Rat)=0
theorem zZA(I:PB a m)(hb:PB b m):∃l:Ln,l.bd (4*m+1)/\∃s:Rat,s≠0/\∀p:V2,(l.A:Rat)*p.1+(l.B:Rat)*p.2+(l.C:Rat)=s*crs a b p:=by
 refine⟨⟨-(b.2.num*a.2.den-a.2.num*b.2.den)*(a.1.den*b.1.den),(b.1.num*a.1.den-a.1.num*b.1.den)*(a.2.den*b.2.den),b.2.num*a.1.num*(b.1.den*a.2.den)-b.1.num*a.2.num*(a.1.den*b.2.den)⟩,?_,(a.1.den:Rat)*b.1.den*(a.2.den*b.2.den),?_,fun p=>?_⟩
 .have O:=jF I.1.2;have U:=jF I.2.2;have J:=jF hb.1.2;have d4:=jF hb.2.2
  refine⟨?_,?_,?_⟩
  .exact(((((hb.2.1.mul U).add ((I.2.1.mul d4).neg.mono oA)).neg.mul (O.mul J)).mono (m':=4*m+1) oA):_)
  .exact((((hb.1.1.mul O).add ((I.1.1.mul J).neg.mono oA)).mul (U.mul d4)).mono oA)
  .exact(((hb.2.1.mul I.1.1).mul (J.mul U)).add ((((hb.1.1.mul I.2.1).mul (O.mul d4)).neg).mono oA)).mono oA
 .have:∀q:Rat,(q.den:Rat)≠0:=fun q h=>q.den_nz (by exact_mod_cast h)
  have h1:=this a.1;have h2:=this a.2;have h3:=this b.1;have h4:=this b.2
  intro h
  rcases rH.1 h with h|h<;>rcases rH.1 h with h|h<;>contradiction
 .simp only[rU,sF,Rat.intCast_neg,sL,zLA]
  unfold crs
  grind
theorem zRK{l l':Ln}{q:V2}(hm:0<m)(O:l.bd m)(I:l'.bd m)(h1:l.on p)(h2:l.on q)(h3:l'.on p)(hq: ¬l'.on q)(h0:l.A≠0∨l.B≠0):PB p (2*m+1):=by
 unfold Ln.on at*
 have U:l.A*l'.B-l'.A*l.B≠0:=fun e=>by
  have e':(l.A:Rat)*l'.B-(l'.A:Rat)*l.B=0:=by exact_mod_cast e
  apply hq
  rcases h0 with h0|h0
  .have J:(l.A:Rat)≠0:=fun h=>h0 (by exact_mod_cast h)
   have:(l.A:Rat)*((l'.A:Rat)*q.1+(l'.B:Rat)*q.2+(l'.C:Rat))=0:=fF
   rcases rH.1 this with h|h
   .exact absurd h J
   .exact h
  .have J:(l.B:Rat)≠0:=fun h=>h0 (by exact_mod_cast h)
   have:(l.B:Rat)*((l'.A:Rat)*q.1+(l'.B:Rat)*q.2+(l'.C:Rat))=0:=fF
   rcases rH.1 this with h|h
   .exact absurd h J
   .exact h
 have bD:Bd (l.A*l'.B-l'.A*l.B) (2*m+1):=((O.1.mul I.2.1).add ((I.1.mul O.2.1).neg.mono oA)).mono oA
 constructor
 .refine vE (X:=l.B*l'.C-l'.B*l.C) oA ?_ U (((O.2.1.mul I.2.2).add ((I.2.1.mul O.2.2).neg.mono oA)).mono oA) bD
  simp only[rU,sF]
  grind
 .refine vE (X:=l.C*l'.A-l'.C*l.A) oA ?_ U (((O.2.2.mul I.1).add ((I.2.2.mul O.1).neg.mono oA)).mono oA) bD
  simp only[rU,sF]
  grind
theorem zXa(h:a≠b)(l:Ln)(s:Rat)(hs:s≠0)(he:∀p:V2,(l.A:Rat)*p.1+(l.B:Rat)*p.2+(l.C:Rat)=s*crs a b p):l.A≠0∨l.B≠0:=by
 apply rC
 intro hn
 have hA:l.A=0:=rC fun h=>hn (.inl h)
 have hB:l.B=0:=rC fun h=>hn (.inr h)
 have J:=he a
 have O:=he (a.1-(b.2-a.2),a.2+(b.1-a.1))
 rw[hA,hB]at J O
 have z1:crs a b a=0:=by unfold crs;grind
 have z2:crs a b (a.1-(b.2-a.2),a.2+(b.1-a.1))=(b.1-a.1)*(b.1-a.1)+(b.2-a.2)*(b.2-a.2):=by unfold crs;grind
 rw[z1]at J
 have I:s*crs a b (a.1-(b.2-a.2),a.2+(b.1-a.1))=0:=by rw[<-O,show((0:Int):Rat)=0 from rfl];rw[show((0:Int):Rat)=0 from rfl]at J;grind
 rcases rH.1 I with I|I
 .exact hs I
 .rw[z2]at I
  have U:∀x:Rat,0<=x*x/\(x*x=0->x=0):=fun x=>⟨by
   rcases(rM:0<=x∨x<=0)with h|h
   .exact rD h h
   .have:=rD (show 0<=-x from fF) (show 0<=-x from fF);grind,fun h=>by rcases rH.1 h with h|h<;>exact h⟩
  have s1:=U (b.1-a.1);have s2:=U (b.2-a.2)
  have x1:=s1.2 fF
  have x2:=s2.2 fF
  exact h (rF fF fF)
structure SRing(z:V2)(l:List V2):Prop where
 nd:l.Nodup
 ring:zZQ (zZP z) l
 strict:∀i,i<l.length->∀r,r∈l->r≠at_ l i->r≠at_ l ((i+1)%l.length)->0<crs (at_ l i) (at_ l ((i+1)%l.length)) r
theorem zL2(h:l.Nodup){i j:Nat}(hi:i<l.length)(I:j<l.length)(e:at_ l i=at_ l j):i=j:=by
 unfold at_ at e
 rw[rG,rG,nE hi,nE I]at e
 exact(List.getElem_inj h).1 e
section
variable {z:V2}{l:List V2}(S:SRing z l)(h:Aff)
include S
end
inductive PL(F:Rat->Rat):Rat->Rat->Prop
 |aff {c d:Rat} (A B:Rat) (h:∀y,c<=y->y<=d->F y=A*y+B):PL F c d
 |split {c d:Rat} (e:Rat) (h1:c<=e) (h2:e<=d) (a:PL F c e) (b:PL F e d):PL F c d
theorem PL.part{F:Rat->Rat}{c:Rat}(h:PL F c d):∀{c' d':Rat},c<=c'->c'<=d'->d'<=d->PL F c' d':=by
 induction h with
 |aff A B h=>exact fun U _ h3=>.aff A B fun y I J=>h y (rN U I) (rN J h3)
 | split e U h2 a b iha ihb=>
  intro c' d' I J O
  by_cases k1:d'<=e
  .exact iha I J k1
  .by_cases k2:e<=c'
   .exact ihb k2 J O
   .exact .split e fF fF (iha I fF rI) (ihb rI fF O)
theorem PL.sub{F:Rat->Rat}{c:Rat}(h:PL F c d):PL G c d->c<=d->PL (fun y=>F y-G y) c d:=by
 induction h with
 |@aff c d A B h=>
  intro g O
  induction g with
  |aff A' B' h'=>exact .aff (A-A') (B-B') fun y I J=>by rw[h y I J,h' y I J];grind
  |split e h1 h2 a b iha ihb=>exact .split e h1 h2 (iha (fun y I J=>h y I (rN J h2)) h1) (ihb (fun y I J=>h y (rN h1 I) J) h2)
 |split e h1 h2 a b iha ihb=>exact fun g O=>.split e h1 h2 (iha (g.part rI h1 h2) h1) (ihb (g.part h1 h2 rI) h2)
theorem PL.zero{F:Rat->Rat}{c:Rat}(h:PL F c d):c<=d->F c<0->0<=F d->∃y,c<=y/\y<=d/\F y=0:=by
 induction h with
 | @aff c d A B h=>
  intro J I h2
  rw[h c rI J]at I
  rw[h d J rI]at h2
  have hA:A≠0:=fun e=>by rw[e]at I h2;grind
  have h0:0<A:=by
   apply rC
   intro hn
   have k:=rD (show 0<=-A from fF) (show 0<=d-c from fF)
   grind
  have e1:A*(-B/A)= -B:=by rw[sC,rJ hA]
  have low:∀{p q:Rat},A*p<=A*q->p<=q:=fun {p q} hpq=>by
   apply rC
   intro hn
   have k:=rB h0 (show 0<p-q from fF)
   grind
  have k1:c<=-B/A:=low (by rw[e1];grind)
  have k2: -B/A<=d:=low (by rw[e1];grind)
  exact⟨-B/A,k1,k2,by rw[h _ k1 k2,e1];grind⟩
 | split e I h2 a b iha ihb=>
  intro _ g1 g2
  by_cases k:0<=‹Rat->Rat› e
  .obtain⟨y,y1,U,O⟩:=iha I g1 k
   exact⟨y,y1,rN U h2,O⟩
  .obtain⟨y,y1,U,O⟩:=ihb h2 fF g2
   exact⟨y,rN I y1,U,O⟩
theorem PL.order{F:Rat->Rat}{c:Rat}(hF:PL F c d)(hG:PL G c d)(J:∀y,c<=y->y<=d->F y≠G y){y z:Rat}(I:c<=y/\y<=d)(hz:c<=z/\z<=d)(h:F y<G y):F z<G z:=by
 apply rC
 intro hn
 rcases(rM:y<=z∨z<=y)with k|k
 .obtain⟨x,U,O,x3⟩:=((hF.sub hG (rN I.1 I.2)).part I.1 k hz.2).zero k (show F y-G y<0 from fF) (show 0<=F z-G z from fF)
  exact J x (rN I.1 U) (rN O hz.2) fF
 .obtain⟨x,U,O,x3⟩:=((hG.sub hF (rN I.1 I.2)).part hz.1 k I.2).zero k (show G z-F z<0 by have:=J z hz.1 hz.2;grind) (show 0<=G y-F y from fF)
  exact J x (rN hz.1 U) (rN O I.2) fF
def ipt(a b:V2)(y:Rat):Rat:=a.1+(b.1-a.1)*((y-a.2)/(b.2-a.2))
theorem zSF(_:a.2<b.2):ipt a b a.2=a.1:=by
 unfold ipt
 rw[show a.2-a.2=0 from fF,rV,Rat.zero_mul]
 grind
theorem zSG(h:a.2<b.2):ipt a b b.2=b.1:=by
 unfold ipt
 rw[show(b.2-a.2)/(b.2-a.2)=1 by rw[rV,Rat.mul_inv_cancel _ fF]]
 grind
theorem zUD(h:a.2<b.2)(y:Rat):ipt a b y=(b.1-a.1)/(b.2-a.2)*y+(a.1-(b.1-a.1)/(b.2-a.2)*a.2):=by
 unfold ipt
 simp only[rV]
 grind
def OnE(a b z:V2):Prop:=∃t:Rat,0<=t/\t<=1/\z=(a.1+(b.1-a.1)*t,a.2+(b.2-a.2)*t)
theorem zG6(h:a.2<b.2){y:Rat}(h1:a.2<=y)(h2:y<=b.2):OnE a b (ipt a b y,y):=by
 have I:b.2-a.2≠0:=fF
 have e:(b.2-a.2)*((y-a.2)/(b.2-a.2))=y-a.2:=by rw[sC,rJ I]
 have low:∀{p q:Rat},(b.2-a.2)*p<=(b.2-a.2)*q->p<=q:=fun {p q} hpq=>by
  apply rC
  intro hn
  have k:=rB (show 0<b.2-a.2 from fF) (show 0<p-q from fF)
  grind
 exact⟨(y-a.2)/(b.2-a.2),low (by rw[e];grind),low (by rw[e];grind),rF rfl (by show y=a.2+(b.2-a.2)*((y-a.2)/(b.2-a.2));rw[e];grind)⟩
theorem OnE.symm(h:OnE a b z):OnE b a z:=by
 obtain⟨t,h0,h1,rfl⟩:=h
 exact⟨1-t,fF,fF,rF (by show _=_;simp only;grind) (by show _=_;simp only;grind)⟩
structure Arc(w:Nat->V2)(F:Rat->Rat)(S:Nat->Prop)(B b t T:V2):Prop where
 pl:PL F B.2 T.2
 on:∀y,B.2<=y->y<=T.2->∃k,S k/\OnE (w k) (w (k+1)) (F y,y)
 lo:F B.2=B.1
 hi:F T.2=T.1
 bot:∀y,B.2<=y->y<=b.2->F y=ipt B b y
 top:∀y,t.2<=y->y<=T.2->F y=ipt t T y
 hb:B.2<b.2
 hb':b.2<=T.2
 ht:t.2<T.2
 ht':B.2<=t.2
theorem zWp(h:a.2<b.2)(y:Rat):(ipt a b y-b.1)*(b.2-a.2)=(b.1-a.1)*(y-b.2):=by
 have e:(y-a.2)/(b.2-a.2)*(b.2-a.2)=y-a.2:=rJ fF
 unfold ipt
 have:(a.1+(b.1-a.1)*((y-a.2)/(b.2-a.2))-b.1)*(b.2-a.2)=(a.1-b.1)*(b.2-a.2)+(b.1-a.1)*((y-a.2)/(b.2-a.2)*(b.2-a.2)):=fF
 rw[this,e]
 grind
theorem zKl(h:a.2<b.2)(y:Rat):(ipt a b y-a.1)*(b.2-a.2)=(b.1-a.1)*(y-a.2):=by
 have:=zWp h y
 grind
theorem zOE{x y:Rat}(I:0<d)(h:x*d<y*d):x<y:=by
 apply rC
 intro hn
 have k:=rD (show 0<=x-y from fF) (rE I)
 grind
theorem zUY{t B s:V2}(ht:B.2<t.2)(U:B.2<s.2)(I:0<crs t B s){y:Rat}(hy:B.2<y):ipt B t y<ipt B s y:=by
 have h1:=zKl ht y
 have h2:=zKl U y
 refine zOE (show 0<(t.2-B.2)*(s.2-B.2)from rB fF fF) ?_
 have h3:=rB I (show 0<y-B.2 from fF)
 generalize ipt B s y=p at*
 generalize ipt B t y=q at*
 have O:p*((t.2-B.2)*(s.2-B.2))=((s.1-B.1)*(y-B.2))*(t.2-B.2)+B.1*((t.2-B.2)*(s.2-B.2)):=fF
 have J:q*((t.2-B.2)*(s.2-B.2))=((t.1-B.1)*(y-B.2))*(s.2-B.2)+B.1*((t.2-B.2)*(s.2-B.2)):=fF
 rw[O,J]
 unfold crs at h3
 grind
theorem max2(a b:Rat):∃c,a<=c/\b<=c/\(c=a∨c=b):=by
 rcases(rM:a<=b∨b<=a)with h|h
 .exact⟨b,h,rI,.inr rfl⟩
 .exact⟨a,rI,h,.inl rfl⟩
theorem min2(a b:Rat):∃c,c<=a/\c<=b/\(c=a∨c=b):=by
 rcases(rM:a<=b∨b<=a)with h|h
 .exact⟨a,rI,h,.inl rfl⟩
 .exact⟨b,h,rI,.inr rfl⟩
theorem zXl{w:Nat->V2}{F:Rat->Rat}{S R:Nat->Prop}{B t T b' t' T':V2}(hF:Arc w F S B b t T)(J:Arc w G R B b' t' T')(hc:0<crs b B b'){d:Rat}(h1:d<=T.2)(h2:d<=T'.2)
  (h0:∀y,B.2<y->y<=d->F y≠G y){y:Rat}(hy:B.2<y)(hy':y<=d):F y<G y:=by
 obtain⟨e1,a1,a2,a3⟩:=min2 b.2 b'.2
 obtain⟨e,O,k2,k3⟩:=min2 y e1
 have I:B.2<e:=by have:=hF.hb;have:=J.hb;grind
 have U:F e<G e:=by
  rw[hF.bot e (rE I) fF,J.bot e (rE I) fF]
  exact zUY hF.hb J.hb hc I
 have pF:=hF.pl.part (c':=e) (d':=y) (rE I) O fF
 have pG:=J.pl.part (c':=e) (d':=y) (rE I) O fF
 exact pF.order pG (fun z z1 z2 h=>h0 z fF fF h) ⟨rI,O⟩ ⟨O,rI⟩ U
theorem OnE.crs(h:OnE a b z):crs a b z=0:=by
 obtain⟨t,_,_,rfl⟩:=h
 unfold Wd.crs
 grind
theorem zCv:∀(L:List (Rat×Rat)),∃d:Rat,0<d/\∀p,p∈L->0<p.1->∀e,-d<=e->e<=d->0<p.1+e*p.2
 | []=>⟨1,fH,fun p J=>absurd J fC⟩
 | q::L=>by
  obtain⟨d,d0,hd⟩:=zCv L
  by_cases hq:0<q.1
  .have hb:∃M:Rat,0<M/\q.2<=M/\-q.2<=M:=by
    rcases(rM:0<=q.2∨q.2<=0)with k|k
    .exact⟨q.2+1,fF,fF,fF⟩
    .exact⟨-q.2+1,fF,fF,fF⟩
   obtain⟨M,M0,M1,M2⟩:=hb
   have e1:q.1/(2*M)*(2*M)=q.1:=rJ fF
   have c0:0<q.1/(2*M):=zCy (s:=2*M) fF (by rw[e1];exact hq)
   generalize q.1/(2*M)=c at*
   obtain⟨m,m1,m2,m3⟩:=min2 d c
   refine⟨m,fF,fun p J I e U O=>?_⟩
   rcases xS.1 J with rfl|J
   .have a1:=rD (show 0<=c-e from fF) (show 0<=M+p.2 from fF)
    have a2:=rD (show 0<=c+e from fF) (show 0<=M-p.2 from fF)
    have a3:=rD (show 0<=c-e from fF) (show 0<=M-p.2 from fF)
    have a4:=rD (show 0<=c+e from fF) (show 0<=M+p.2 from fF)
    grind
   .exact hd p J I e fF fF
  .exact⟨d,d0,fun p J I e U O=>by
    rcases xS.1 J with rfl|J
    .exact absurd I hq
    .exact hd p J I e U O⟩
def cI(e:V2×V2)(p:V2):Int:=(if e.1.2<=p.2/\p.2<e.2.2/\0<crs e.1 e.2 p then 1 else 0)-(if e.2.2<=p.2/\p.2<e.1.2/\crs e.1 e.2 p<0 then 1 else 0)
def wE(E:List (V2×V2))(p:V2):Int:=(E.map fun e=>cI e p).sum
def Clo(E:List (V2×V2)):Prop:=∀g:V2->Int,(E.map fun e=>g e.2-g e.1).sum=0
def zIu(e:V2×V2)(p q:V2):Prop:=∀z,OnE e.1 e.2 z->OnE p q z->False
theorem zDF(a b p:V2):crs b a p= -crs a b p:=by unfold crs;grind
theorem zDi(a b p:V2):cI (b,a) p= -cI (a,b) p:=by
 unfold cI
 simp only[zDF a b p]
 have I:(-crs a b p<0)↔0<crs a b p:=by constructor<;>intro h<;>grind
 have h2:(0< -crs a b p)↔crs a b p<0:=by constructor<;>intro h<;>grind
 simp only[I,h2]
 omega
theorem zIb{P Q:Prop} [Decidable P] [Decidable Q] (h:P↔Q):(if P then(1:Int)else 0)=if Q then 1 else 0:=by
 by_cases hp:P
 .rw[if_pos hp,if_pos (h.1 hp)]
 .rw[if_neg hp,if_neg (fun I=>hp (h.2 I))]
def cU(a b p:V2):Int:=if a.2<=p.2/\p.2<b.2/\0<crs a b p then 1 else 0
theorem zJH(h:a.2<=b.2)(p:V2):cI (a,b) p=cU a b p:=by
 unfold cI cU
 have: ¬(b.2<=p.2/\p.2<a.2/\crs a b p<0):=by rintro⟨h1,h2,_⟩;grind
 simp only[this,xJ]
 omega
theorem zKB(h:b.2<=a.2)(p:V2):cI (a,b) p= -cU b a p:=by
 rw[zDi b a p,zJH h]
theorem zD5(h:a.2=b.2)(p:V2):cI (a,b) p=0:=by
 unfold cI
 have I: ¬(a.2<=p.2/\p.2<b.2/\0<crs a b p):=by rintro⟨I,h2,_⟩;grind
 have h2: ¬(b.2<=p.2/\p.2<a.2/\crs a b p<0):=by rintro⟨I,h2,_⟩;grind
 simp only[I,h2,xJ]
 rfl
theorem zIf(h:a.2<b.2)(p:V2):crs a b p=(b.2-a.2)*(ipt a b p.2-p.1):=by
 have:=zKl h p.2
 unfold crs
 grind
theorem zDe(h:a.2<b.2)(p:V2):0<crs a b p↔p.1<ipt a b p.2:=by
 rw[zIf h]
 constructor
 .intro k
  apply rC
  intro hn
  have:=rD (show 0<=b.2-a.2 from fF) (show 0<=p.1-ipt a b p.2 from fF)
  grind
 .intro k
  have:=rB (show 0<b.2-a.2 from fF) (show 0<ipt a b p.2-p.1 from fF)
  grind
theorem zIe(h:a.2<b.2)(p:V2):crs a b p<0↔ipt a b p.2<p.1:=by
 rw[zIf h]
 constructor
 .intro k
  apply rC
  intro hn
  have:=rD (show 0<=b.2-a.2 from fF) (show 0<=ipt a b p.2-p.1 from fF)
  grind
 .intro k
  have:=rB (show 0<b.2-a.2 from fF) (show 0<p.1-ipt a b p.2 from fF)
  grind
theorem zSE(h:a.2<b.2)(c d:Rat):PL (ipt a b) c d:=.aff _ _ fun y _ _=>zUD h y
def rgt(p q v:V2):Int:=if p.2<v.2/\v.2<=q.2/\crs p q v<0 then 1 else 0
theorem zSt{y x:Rat}(h1:a.2=y)(h2:b.2=y)(h:(a.1<=x/\x<=b.1)∨(b.1<=x/\x<=a.1)):OnE a b (x,y):=by
 by_cases e:a.1=b.1
 .exact⟨0,fH,fH,rF (by show x=a.1+(b.1-a.1)*0;grind) (by show y=a.2+(b.2-a.2)*0;grind)⟩
 .have I:b.1-a.1≠0:=fF
  have O:(x-a.1)/(b.1-a.1)*(b.1-a.1)=x-a.1:=rJ I
  refine⟨(x-a.1)/(b.1-a.1),?_,?_,rF (by show x=a.1+(b.1-a.1)*((x-a.1)/(b.1-a.1));rw[sC,O];grind) (by show y=a.2+(b.2-a.2)*((x-a.1)/(b.1-a.1));rw[h1,h2];grind)⟩
  .apply rC
   intro J
   generalize(x-a.1)/(b.1-a.1)=t at*
   rcases h with h|h
   .have:=rB (show 0< -t from fF) (show 0<b.1-a.1 from fF)
    grind
   .have:=rB (show 0< -t from fF) (show 0<a.1-b.1 from fF)
    grind
  .apply rC
   intro J
   generalize(x-a.1)/(b.1-a.1)=t at*
   rcases h with h|h
   .have:=rB (show 0<t-1 from fF) (show 0<b.1-a.1 from fF)
    grind
   .have:=rB (show 0<t-1 from fF) (show 0<a.1-b.1 from fF)
    grind
theorem zS0{q:V2}(I:a.2<b.2)(J:p.2<q.2)(hm:zIu (a,b) p q):cU a b p-cU a b q=rgt p q b-rgt p q a:=by
 have hF:=zSE I;have hG:=zSE J
 have h5:∀y z,a.2<=y->y<=b.2->p.2<=y->y<=q.2->a.2<=z->z<=b.2->p.2<=z->z<=q.2->ipt p q y<ipt a b y->ipt p q z<ipt a b z:=by
  intro y z y1 y2 y3 y4 z1 z2 z3 z4 h
  obtain⟨c,c1,c2,c3⟩:=max2 a.2 p.2
  obtain⟨d,d1,d2,d3⟩:=min2 b.2 q.2
  have hy:c<=y/\y<=d:=fF
  have hz:c<=z/\z<=d:=fF
  refine PL.order (hG c d) (hF c d) (fun x x1 x2 e=>?_) hy hz h
  have a1:a.2<=x:=rN c1 x1
  have a2:x<=b.2:=rN x2 d1
  have a3:p.2<=x:=rN c2 x1
  have a4:x<=q.2:=rN x2 d2
  exact hm (ipt a b x,x) (zG6 I a1 a2) (by rw[<-e];exact zG6 J a3 a4)
 unfold cU rgt
 have h1:=zDe I p;have U:=zDe I q
 have h0:=zIe J b;have h4:=zIe J a
 have ep:=zSF J;have eq:=zSG J;have ea:=zSF I;have eb:=zSG I
 rw[<-ep]at h1;rw[<-eq]at U;rw[<-eb]at h0;rw[<-ea]at h4
 simp only[h1,U,h0,h4]
 by_cases hS:∃y,a.2<=y/\y<=b.2/\p.2<=y/\y<=q.2/\ipt p q y<ipt a b y
 .obtain⟨y,y1,y2,y3,y4,y5⟩:=hS
  have O:∀z,a.2<=z->z<=b.2->p.2<=z->z<=q.2->ipt p q z<ipt a b z:=fun z z1 z2 z3 z4=>h5 y z y1 y2 y3 y4 z1 z2 z3 z4 y5
  have i1:(a.2<=p.2/\p.2<b.2/\ipt p q p.2<ipt a b p.2)↔(a.2<=p.2/\p.2<b.2):=⟨fun h=>⟨h.1,h.2.1⟩,fun h=>⟨h.1,h.2,O _ h.1 fF rI fF⟩⟩
  have i2:(a.2<=q.2/\q.2<b.2/\ipt p q q.2<ipt a b q.2)↔(a.2<=q.2/\q.2<b.2):=⟨fun h=>⟨h.1,h.2.1⟩,fun h=>⟨h.1,h.2,O _ h.1 fF fF rI⟩⟩
  have i3:(p.2<b.2/\b.2<=q.2/\ipt p q b.2<ipt a b b.2)↔(p.2<b.2/\b.2<=q.2):=⟨fun h=>⟨h.1,h.2.1⟩,fun h=>⟨h.1,h.2,O _ fF rI fF h.2⟩⟩
  have i4:(p.2<a.2/\a.2<=q.2/\ipt p q a.2<ipt a b a.2)↔(p.2<a.2/\a.2<=q.2):=⟨fun h=>⟨h.1,h.2.1⟩,fun h=>⟨h.1,h.2,O _ rI fF fF h.2⟩⟩
  simp only[i1,i2,i3,i4]
  clear h5 O h1 U h0 h4 ep eq ea eb i1 i2 i3 i4 hF hG hm y5
  by_cases k1:a.2<=p.2<;>by_cases k2:p.2<b.2<;>by_cases k3:a.2<=q.2<;>by_cases k4:b.2<=q.2<;>(
   have e1:(p.2<a.2)↔ ¬(a.2<=p.2):=by constructor<;>intro h<;>grind
   have e2:(q.2<b.2)↔ ¬(b.2<=q.2):=by constructor<;>intro h<;>grind
   simp only[e1,e2,k1,k2,k3,k4,not_true_eq_false,sO,nP,and_false,cG,xJ]
   all_goals first|rfl|(exfalso;grind))
 .have no:∀z,a.2<=z->z<=b.2->p.2<=z->z<=q.2-> ¬ipt p q z<ipt a b z:=fun z z1 z2 z3 z4 h=>hS ⟨z,z1,z2,z3,z4,h⟩
  rw[if_neg (fun h=>no _ h.1 fF rI fF h.2.2),if_neg (fun h=>no _ h.1 fF fF rI h.2.2),if_neg (fun h=>no _ fF rI fF h.2.1 h.2.2),if_neg (fun h=>no _ rI fF fF h.2.1 h.2.2)]
theorem zIu.swap{q:V2}(h:zIu (a,b) p q):zIu (b,a) p q:=fun z I h2=>h z I.symm h2
theorem zIu.back{q:V2}(h:zIu e p q):zIu e q p:=fun z I h2=>h z I h2.symm
theorem zXd{q:V2}(I:p.2<q.2)(J:zIu e p q):cI e p-cI e q=rgt p q e.2-rgt p q e.1:=by
 obtain⟨a,b⟩:=e
 rcases(fF:a.2<b.2∨b.2<a.2∨a.2=b.2)with h|h|h
 .rw[zJH (rE h),zJH (rE h)]
  exact zS0 h I J
 .rw[zKB (rE h),zKB (rE h)]
  have:=zS0 h I J.swap
  show -cU b a p - -cU b a q=rgt p q b-rgt p q a
  omega
 .rw[zD5 h,zD5 h]
  show(0:Int)-0=rgt p q b-rgt p q a
  have O:=zIe I a;have hb:=zIe I b
  unfold rgt
  simp only[O,hb,h]
  by_cases k:p.2<b.2/\b.2<=q.2
  .have no: ¬((a.1<=ipt p q b.2/\ipt p q b.2<=b.1)∨(b.1<=ipt p q b.2/\ipt p q b.2<=a.1)):=fun U=>J (ipt p q b.2,b.2) (zSt h rfl U) (zG6 I fF k.2)
   have:(ipt p q b.2<b.1)↔(ipt p q b.2<a.1):=by constructor<;>intro g<;>grind
   simp only[this]
   try omega
  .rw[if_neg (fun g=>k ⟨g.1,g.2.1⟩),if_neg (fun g=>k ⟨g.1,g.2.1⟩)]
theorem zXf{q:V2}(I:p.2=q.2)(J:zIu e p q):cI e p=cI e q:=by
 have up:∀a b:V2,a.2<b.2->zIu (a,b) p q->cU a b p=cU a b q:=by
  intro a b h J
  unfold cU
  have U:=zDe h p;have h2:=zDe h q
  simp only[U,h2,I]
  by_cases k:a.2<=q.2/\q.2<b.2
  .have no: ¬((p.1<=ipt a b q.2/\ipt a b q.2<=q.1)∨(q.1<=ipt a b q.2/\ipt a b q.2<=p.1)):=fun O=>J (ipt a b q.2,q.2) (zG6 h k.1 fF) (zSt I rfl O)
   exact zIb ⟨fun g=>⟨g.1,g.2.1,fF⟩,fun g=>⟨g.1,g.2.1,fF⟩⟩
  .rw[if_neg (fun g=>k ⟨g.1,g.2.1⟩),if_neg (fun g=>k ⟨g.1,g.2.1⟩)]
 obtain⟨a,b⟩:=e
 rcases(fF:a.2<b.2∨b.2<a.2∨a.2=b.2)with h|h|h
 .rw[zJH (rE h),zJH (rE h),up a b h J]
 .rw[zKB (rE h),zKB (rE h),up b a h J.swap]
 .rw[zD5 h,zD5 h]
theorem zNe(E:List (V2×V2)){p q:V2}(I:p.2<q.2)(J:∀e,e∈E->zIu e p q):wE E p-wE E q=(E.map fun e=>rgt p q e.2-rgt p q e.1).sum:=by
 induction E with
 |nil=>rfl
 |cons e E ih=>
  have h1:=zXd I (J e fC)
  have h2:=ih fun e O=>J e (by simp[O])
  unfold wE at*
  simp only[xY,nG]at*
  omega
theorem zCf(O:Clo E){p q:V2}(I:∀e,e∈E->zIu e p q):wE E p=wE E q:=by
 rcases(fF:p.2<q.2∨q.2<p.2∨p.2=q.2)with h|h|h
 .have:=zNe E h I
  rw[O (rgt p q)]at this
  omega
 .have:=zNe E h fun e J=>(I e J).back
  rw[O (rgt q p)]at this
  omega
 .unfold wE
  exact vR List.sum (List.map_congr_left fun e J=>zXf h (I e J))
theorem zL1(a b c p:V2):crs b c p+crs c a p+crs a b p=crs a b c:=by unfold crs;grind
theorem zFK(a b c p:V2):crs b c p*(a.2-p.2)+crs c a p*(b.2-p.2)+crs a b p*(c.2-p.2)=0:=by unfold crs;grind
def zCV(a b c:V2):List (V2×V2):=[(a,b),(b,c),(c,a)]
theorem zTm{A:Rat}(h:al*A+be*B+ga*C=0)(hs:0<al+be+ga)(hA:A<=0)(hC:C<=0)(J:0<B):
  (0<al->0<be->0<ga->(if 0<ga then(1:Int)else 0)-(if al<0 then 1 else 0)=1)/\(al<0∨be<0∨ga<0->(if 0<ga then(1:Int)else 0)-(if al<0 then 1 else 0)=0):=by
 refine⟨fun h1 h2 h3=>?_,fun ho=>?_⟩
 .rw[if_pos h3,if_neg fF];rfl
 .by_cases g:0<ga
  .by_cases a:al<0
   .rw[if_pos g,if_pos a];rfl
   .exfalso
    have O:=rD (show 0<=al from fF) (show 0<=-A from fF)
    have U:=rD (show 0<=ga from fF) (show 0<=-C from fF)
    have I:be<0:=fF
    have:=rB (show 0< -be from fF) J
    grind
  .by_cases a:al<0
   .exfalso
    have O:=rD (show 0<=-al from fF) (show 0<=-A from fF)
    have U:=rD (show 0<=-ga from fF) (show 0<=-C from fF)
    have I:0<be:=fF
    have:=rB I J
    grind
   .rw[if_neg g,if_neg a];rfl
theorem zTn{A:Rat}(h:al*A+be*B+ga*C=0)(hs:0<al+be+ga)(I:0<A)(U:0<C)(hB:B<=0):
  (0<al->0<be->0<ga->(if 0<al then(1:Int)else 0)-(if ga<0 then 1 else 0)=1)/\(al<0∨be<0∨ga<0->(if 0<al then(1:Int)else 0)-(if ga<0 then 1 else 0)=0):=by
 refine⟨fun O h2 h3=>?_,fun ho=>?_⟩
 .rw[if_pos O,if_neg fF];rfl
 .by_cases g:0<al
  .by_cases a:ga<0
   .rw[if_pos g,if_pos a];rfl
   .exfalso
    have k1:=rB g I
    have k2:=rD (show 0<=ga from fF) (show 0<=C from fF)
    have J:be<0:=fF
    have:=rD (show 0<=-be from fF) (show 0<=-B from fF)
    grind
  .by_cases a:ga<0
   .exfalso
    have k1:=rD (show 0<=-al from fF) (show 0<=A from fF)
    have k2:=rB (show 0< -ga from fF) U
    have J:0<be:=fF
    have:=rD (show 0<=be from fF) (show 0<=-B from fF)
    grind
   .rw[if_neg g,if_neg a];rfl
theorem zDj(h:(a.2<=p.2/\b.2<=p.2)∨(p.2<a.2/\p.2<b.2)):cI (a,b) p=0:=by
 unfold cI
 rw[if_neg (by rintro⟨I,h2,_⟩;grind),if_neg (by rintro⟨I,h2,_⟩;grind)]
 rfl
theorem zKz(h1:a.2<=p.2)(h2:p.2<b.2):cI (a,b) p=if 0<crs a b p then 1 else 0:=by
 unfold cI
 rw[if_neg (c:=_/\_/\crs _ _ _<0) (by rintro⟨h1,h2,_⟩;grind),zIb (Q:=0<crs a b p) ⟨fun h=>h.2.2,fun h=>⟨h1,h2,h⟩⟩]
 omega
theorem zKA(h1:b.2<=p.2)(h2:p.2<a.2):cI (a,b) p= -(if crs a b p<0 then 1 else 0):=by
 unfold cI
 rw[if_neg (c:=_/\_/\0<crs _ _ _) (by rintro⟨h1,h2,_⟩;grind),zIb (P:=_/\_/\crs _ _ _<0) (Q:=crs a b p<0) ⟨fun h=>h.2.2,fun h=>⟨h1,h2,h⟩⟩]
 omega
theorem zHm(a b c p:V2):wE (zCV b c a) p=wE (zCV a b c) p:=by unfold wE zCV;simp;omega
theorem zID{c:V2}(h:0<crs a b c)(p:V2):(0<crs b c p->0<crs c a p->0<crs a b p->wE (zCV a b c) p=1)/\(crs b c p<0∨crs c a p<0∨crs a b p<0->wE (zCV a b c) p=0):=by
 have top:∀a b c:V2,0<crs a b c->a.2<=p.2->p.2<b.2->c.2<=p.2->(0<crs b c p->0<crs c a p->0<crs a b p->wE (zCV a b c) p=1)/\(crs b c p<0∨crs c a p<0∨crs a b p<0->wE (zCV a b c) p=0):=by
  intro a b c h ha hb U
  have e:wE (zCV a b c) p=(if 0<crs a b p then(1:Int)else 0)-(if crs b c p<0 then 1 else 0):=by
   unfold wE zCV
   simp only[xY,bP,nG,nN]
   rw[zKz ha hb,zKA U hb,zDj (.inl ⟨U,ha⟩)]
   omega
  rw[e]
  exact zTm (zFK a b c p) (by rw[zL1];exact h) fF fF fF
 have bot:∀a b c:V2,0<crs a b c->p.2<a.2->b.2<=p.2->p.2<c.2->(0<crs b c p->0<crs c a p->0<crs a b p->wE (zCV a b c) p=1)/\(crs b c p<0∨crs c a p<0∨crs a b p<0->wE (zCV a b c) p=0):=by
  intro a b c h ha hb U
  have e:wE (zCV a b c) p=(if 0<crs b c p then(1:Int)else 0)-(if crs a b p<0 then 1 else 0):=by
   unfold wE zCV
   simp only[xY,bP,nG,nN]
   rw[zKA hb ha,zKz hb U,zDj (.inr ⟨U,ha⟩)]
   omega
  rw[e]
  exact zTn (zFK a b c p) (by rw[zL1];exact h) fF fF fF
 have h2:0<crs b c a:=by
  have:crs b c a=crs a b c:=by unfold crs;grind
  rw[this];exact h
 have h3:0<crs c a b:=by
  have:crs c a b=crs a b c:=by unfold crs;grind
  rw[this];exact h
 have none:((a.2<=p.2/\b.2<=p.2/\c.2<=p.2)∨(p.2<a.2/\p.2<b.2/\p.2<c.2))->wE (zCV a b c) p=0:=by
  intro hf
  unfold wE zCV
  simp only[xY,bP,nG,nN]
  rw[zDj fF,zDj fF,zDj fF]
  rfl
 by_cases ka:a.2<=p.2<;>by_cases kb:b.2<=p.2<;>by_cases kc:c.2<=p.2
 .refine⟨fun I J O=>?_,fun _=>none (.inl ⟨ka,kb,kc⟩)⟩
  exfalso
  have:=zFK a b c p
  have m1:=rD (rE I) (show 0<=p.2-a.2 from fF)
  have m2:=rD (rE J) (show 0<=p.2-b.2 from fF)
  have m3:=rD (rE O) (show 0<=p.2-c.2 from fF)
  have z:∀{x y:Rat},0<x->x*y=0->y=0:=fun {x y} hx hxy=>by
   rcases rH.1 hxy with e|e
   .grind
   .exact e
  have e1:=z I (show crs b c p*(p.2-a.2)=0 from fF)
  have e2:=z J (show crs c a p*(p.2-b.2)=0 from fF)
  have e3:=z O (show crs a b p*(p.2-c.2)=0 from fF)
  have:crs a b c=0:=by unfold crs;rw[show b.2=a.2 from fF,show c.2=a.2 from fF];grind
  grind
 .have:=bot b c a h2|>fun _=>top b c a h2 kb fF ka
  rw[zHm a b c p]at this
  exact⟨fun I J O=>this.1 J O I,fun g=>this.2 fF⟩
 .exact top a b c h ka fF kc
 .have:=bot c a b h3 fF ka fF
  rw[<-zHm c a b p]at this
  exact⟨fun I J O=>this.1 O I J,fun g=>this.2 fF⟩
 .have:=top c a b h3 kc fF kb
  rw[<-zHm c a b p]at this
  exact⟨fun I J O=>this.1 O I J,fun g=>this.2 fF⟩
 .exact bot a b c h fF kb fF
 .have:=bot b c a h2 fF kc fF
  rw[zHm a b c p]at this
  exact⟨fun I J O=>this.1 J O I,fun g=>this.2 fF⟩
 .refine⟨fun I J O=>?_,fun _=>none (.inr ⟨fF,fF,fF⟩)⟩
  exfalso
  have:=zFK a b c p
  have m1:=rB I (show 0<a.2-p.2 from fF)
  have m2:=rB J (show 0<b.2-p.2 from fF)
  have m3:=rB O (show 0<c.2-p.2 from fF)
  grind
theorem zUW{v:V2}(h0:0<t)(h1:t<1)(I:v=(a.1+(b.1-a.1)*t,a.2+(b.2-a.2)*t))(p:V2):cI (a,b) p=cI (a,v) p+cI (v,b) p:=by
 have up:∀(a b v:V2) (t:Rat),0<t->t<1->v=(a.1+(b.1-a.1)*t,a.2+(b.2-a.2)*t)->a.2<b.2->cU a b p=cU a v p+cU v b p/\a.2<v.2/\v.2<b.2:=by
  intro a b v t h0 h1 I h
  have m1:=rB (show 0<b.2-a.2 from fF) h0
  have m2:=rB (show 0<b.2-a.2 from fF) (show 0<1-t from fF)
  have U:v.2=a.2+(b.2-a.2)*t:=by rw[I]
  have v1:v.1=a.1+(b.1-a.1)*t:=by rw[I]
  have O:a.2<v.2:=fF
  have J:v.2<b.2:=fF
  have c1:crs a v p=t*crs a b p:=by unfold crs;rw[v1,U];grind
  have c2:crs v b p=(1-t)*crs a b p:=by unfold crs;rw[v1,U];grind
  have i1:0<crs a v p↔0<crs a b p:=by
   rw[c1]
   constructor
   .intro k;exact zCy h0 (by rw[sC];exact k)
   .intro k;exact rB h0 k
  have i2:0<crs v b p↔0<crs a b p:=by
   rw[c2]
   constructor
   .intro k;exact zCy (s:=1-t) fF (by rw[sC];exact k)
   .intro k;exact rB fF k
  refine⟨?_,O,J⟩
  unfold cU
  simp only[i1,i2]
  by_cases k:0<crs a b p
  .simp only[k,nP]
   by_cases k1:a.2<=p.2<;>by_cases k2:p.2<b.2<;>by_cases k3:v.2<=p.2<;>(
    have e1:(p.2<v.2)↔ ¬(v.2<=p.2):=by constructor<;>intro h<;>grind
    simp only[e1,k1,k2,k3,not_true_eq_false,sO,nP,and_false,cG,xJ]
    all_goals first|rfl|(exfalso;grind))
  .simp only[k,and_false,xJ]
   rfl
 rcases(fF:a.2<b.2∨b.2<a.2∨a.2=b.2)with h|h|h
 .obtain⟨e,O,J⟩:=up a b v t h0 h1 I h
  rw[zJH (rE h),zJH (rE O),zJH (rE J),e]
 .obtain⟨e,O,J⟩:=up b a v (1-t) fF fF (by rw[I];exact rF (by show _=_;simp only;grind) (by show _=_;simp only;grind)) h
  rw[zKB (rE h),zKB (rE O),zKB (rE J),e]
  omega
 .have:v.2=b.2:=by rw[I];show a.2+(b.2-a.2)*t=b.2;rw[h];grind
  rw[zD5 h,zD5 (h.trans this.symm),zD5 this]
  rfl
theorem zOi(g:Aff){a b z:V2}(h:OnE a b z):∃t:Rat,0<=t/\t<=1/\g.v z=g.v a*(1-t)+g.v b*t:=by
 obtain⟨t,I,J,rfl⟩:=h
 exact⟨t,I,J,by unfold Aff.v;grind⟩
theorem zDM(h:OnE a b z)(I:0<g.v a)(hb:0<g.v b):0<g.v z:=by
 obtain⟨t,h0,h1,e⟩:=zOi g h
 rw[e]
 by_cases k:t=0
 .subst k;grind
 .have m1:=rD (rE I) (show 0<=1-t from fF)
  have m2:=rB hb (show 0<t from fF)
  grind
theorem zGF(h:OnE a b z)(I:0<=g.v a)(hb:0<=g.v b):0<=g.v z:=by
 obtain⟨t,J,h1,e⟩:=zOi g h
 rw[e]
 have m1:=rD I (show 0<=1-t from fF)
 have m2:=rD hb J
 grind
theorem zUh(h:OnE a b z)(ha:g.v a<=0)(hb:g.v b<=0):g.v z<=0:=by
 have:=zGF (g:=zX4 g) h (by rw[zOv];grind) (by rw[zOv];grind)
 rw[zOv]at this
 grind
theorem zDU(h:u≠(0,0)):0<u.1*u.1+u.2*u.2:=by
 have I:∀x:Rat,0<=x*x/\(x≠0->0<x*x):=fun x=>by
  rcases(fF:0<x∨x<0∨x=0)with k|k|k
  .have:=rB k k;exact⟨fF,fun _=>this⟩
  .have:=rB (show 0< -x from fF) (show 0< -x from fF);exact⟨fF,fun _=>fF⟩
  .subst k;exact⟨fF,fun h=>absurd rfl h⟩
 have J:=I u.1;have h2:=I u.2
 by_cases k:u.1=0
 .have:u.2≠0:=fun O=>h (rF k O)
  have:=h2.2 this
  grind
 .have:=J.2 k
  grind
theorem zHW(a b:V2):OnE a b a:=⟨0,fH,fH,rF (by show a.1=a.1+(b.1-a.1)*0;grind) (by show a.2=a.2+(b.2-a.2)*0;grind)⟩
theorem zLy(a b:V2):OnE a b b:=⟨1,fH,fH,rF (by show b.1=a.1+(b.1-a.1)*1;grind) (by show b.2=a.2+(b.2-a.2)*1;grind)⟩
theorem zGv(h0:crs a b p=0)(h1:(p.1-a.1)*(p.1-b.1)+(p.2-a.2)*(p.2-b.2)<=0):OnE a b p:=by
 by_cases hab:a=b
 .subst hab
  have e1:p.1=a.1/\p.2=a.2:=by
   by_cases k:(p.1-a.1,p.2-a.2)=((0,0):V2)
   .have:=vR Prod.fst k;have:=vR Prod.snd k
    simp only at*
    constructor<;>grind
   .have:=zDU k
    simp only at this
    grind
  exact⟨0,fH,fH,rF (by show p.1=a.1+(a.1-a.1)*0;grind) (by show p.2=a.2+(a.2-a.2)*0;grind)⟩
 .have I:0<(b.1-a.1)*(b.1-a.1)+(b.2-a.2)*(b.2-a.2):=by
   have:=zDU (u:=(b.1-a.1,b.2-a.2)) (fun e=>hab (rF (by have:=vR Prod.fst e;simp only at this;grind) (by have:=vR Prod.snd e;simp only at this;grind)))
   exact this
  have e1:((p.1-a.1)*(b.1-a.1)+(p.2-a.2)*(b.2-a.2))/((b.1-a.1)*(b.1-a.1)+(b.2-a.2)*(b.2-a.2))*((b.1-a.1)*(b.1-a.1)+(b.2-a.2)*(b.2-a.2))=(p.1-a.1)*(b.1-a.1)+(p.2-a.2)*(b.2-a.2):=rJ fF
  generalize ht:((p.1-a.1)*(b.1-a.1)+(p.2-a.2)*(b.2-a.2))/((b.1-a.1)*(b.1-a.1)+(b.2-a.2)*(b.2-a.2))=t at e1
  clear ht
  have cz:∀{x y D:Rat},0<D->x*D=y*D->x=y:=fun {x y D} hD hxy=>by
   have:(x-y)*D=0:=fF
   rcases rH.1 this with k|k<;>grind
  unfold crs at h0
  have J:p.1=a.1+(b.1-a.1)*t:=cz I fF
  have O:p.2=a.2+(b.2-a.2)*t:=cz I fF
  have q3:t*(t-1)*((b.1-a.1)*(b.1-a.1)+(b.2-a.2)*(b.2-a.2))<=0:=by rw[J,O]at h1;grind
  have q4:t*(t-1)<=0:=by
   apply rC
   intro U
   have:=rB (show 0<t*(t-1)from fF) I
   grind
  refine⟨t,?_,?_,rF J O⟩
  .apply rC
   intro U
   have:=rB (show 0< -t from fF) (show 0<1-t from fF)
   grind
  .apply rC
   intro U
   have:=rB (show 0<t from fF) (show 0<t-1 from fF)
   grind
theorem zZB(u x y:V2):(u.1*u.1+u.2*u.2)*(x.1*y.1+x.2*y.2)=(u.1*x.1+u.2*x.2)*(u.1*y.1+u.2*y.2)+(u.1*x.2-u.2*x.1)*(u.1*y.2-u.2*y.1):=fF
theorem qW{a b:Rat}(ha:0<a)(hb:0<b):∃c:Rat,0<c/\c<=a/\c<=b:=by
 obtain⟨m,J,I,m3⟩:=min2 a b
 exact⟨m,fF,J,I⟩
def zJL(k:Rat)(s:Rat)(g:Aff):Aff:=⟨s*g.a,s*g.b,k+s*g.c⟩
theorem zH9(k s:Rat)(g:Aff)(p:V2):(zJL k s g).v p=k+s*g.v p:=by unfold zJL Aff.v;grind
theorem zR4{A:Rat}(hne:A≠B)(h1: ¬(0<A/\0<B))(h2: ¬(A<0/\B<0)):∃t:Rat,0<=t/\t<=1/\t*(A-B)=A:=by
 have e:A/(A-B)*(A-B)=A:=rJ fF
 refine⟨A/(A-B),?_,?_,e⟩
 .generalize A/(A-B)=t at e
  apply rC
  intro I
  rcases(fF:0<A-B∨A-B<0)with k|k
  .have:=rB (show 0< -t from fF) k
   grind
  .have:=rB (show 0< -t from fF) (show 0<B-A from fF)
   grind
 .generalize A/(A-B)=t at e
  apply rC
  intro I
  rcases(fF:0<A-B∨A-B<0)with k|k
  .have:=rB (show 0<t-1 from fF) k
   grind
  .have:=rB (show 0<t-1 from fF) (show 0<B-A from fF)
   grind
theorem zDy{x y D:Rat}(hD:D≠0)(h:x*D=y*D):x=y:=by
 have:(x-y)*D=0:=fF
 rcases rH.1 this with k|k<;>grind
theorem zTD{c d:V2}(hne:crs c d a≠crs c d b)(U:t*(crs c d a-crs c d b)=crs c d a)(es:s* -(crs c d a-crs c d b)=crs a b c):
  a.1+(b.1-a.1)*t=c.1+(d.1-c.1)*s/\a.2+(b.2-a.2)*t=c.2+(d.2-c.2)*s:=by
 have O:crs c d a-crs c d b≠0:=fF
 refine⟨zDy O ?_,zDy O ?_⟩
 .have J:(a.1+(b.1-a.1)*t)*(crs c d a-crs c d b)=a.1*(crs c d a-crs c d b)+(b.1-a.1)*(t*(crs c d a-crs c d b)):=fF
  have I:(c.1+(d.1-c.1)*s)*(crs c d a-crs c d b)=c.1*(crs c d a-crs c d b)-(d.1-c.1)*(s* -(crs c d a-crs c d b)):=fF
  rw[J,I,U,es]
  unfold crs
  grind
 .have J:(a.2+(b.2-a.2)*t)*(crs c d a-crs c d b)=a.2*(crs c d a-crs c d b)+(b.2-a.2)*(t*(crs c d a-crs c d b)):=fF
  have I:(c.2+(d.2-c.2)*s)*(crs c d a-crs c d b)=c.2*(crs c d a-crs c d b)-(d.2-c.2)*(s* -(crs c d a-crs c d b)):=fF
  rw[J,I,U,es]
  unfold crs
  grind
theorem sep{c d:V2}(I:c≠d)(O:zIu (c,d) a b):∃g:Aff,0<g.v a/\0<g.v b/\g.v c<=0/\g.v d<=0:=by
 have aa:crs a b a=0:=by unfold crs;grind
 have bb:crs a b b=0:=by unfold crs;grind
 have cc:crs c d c=0:=by unfold crs;grind
 have U:crs c d d=0:=by unfold crs;grind
 by_cases k1:0<crs a b c/\0<crs a b d
 .obtain⟨m,m0,m1,m2⟩:=qW k1.1 k1.2
  refine⟨zJL m (-1) (lin a b),?_,?_,?_,?_⟩<;>rw[zH9,yO]<;>grind
 by_cases k2:crs a b c<0/\crs a b d<0
 .obtain⟨m,m0,m1,m2⟩:=qW (show 0< -crs a b c from fF) (show 0< -crs a b d from fF)
  refine⟨zJL m 1 (lin a b),?_,?_,?_,?_⟩<;>rw[zH9,yO]<;>grind
 by_cases k3:0<crs c d a/\0<crs c d b
 .refine⟨zJL 0 1 (lin c d),?_,?_,?_,?_⟩<;>rw[zH9,yO]<;>grind
 by_cases k4:crs c d a<0/\crs c d b<0
 .refine⟨zJL 0 (-1) (lin c d),?_,?_,?_,?_⟩<;>rw[zH9,yO]<;>grind
 by_cases k5:crs c d a=crs c d b
 .have ca:crs c d a=0:=fF
  have cb:crs c d b=0:=fF
  have hu:0<(d.1-c.1)*(d.1-c.1)+(d.2-c.2)*(d.2-c.2):=zDU (u:=(d.1-c.1,d.2-c.2)) (fun e=>I (rF (by have:=vR Prod.fst e;simp only at this;grind) (by have:=vR Prod.snd e;simp only at this;grind)))
  -- along the line
  obtain⟨pi,hpi⟩:∃pi:V2->Rat,∀x,pi x=(d.1-c.1)*x.1+(d.2-c.2)*x.2:=⟨_,fun _=>rfl⟩
  have J:∀x y z:V2,crs c d x=0->crs c d y=0->crs c d z=0->((d.1-c.1)*(d.1-c.1)+(d.2-c.2)*(d.2-c.2))*((x.1-y.1)*(x.1-z.1)+(x.2-y.2)*(x.2-z.2))=(pi x-pi y)*(pi x-pi z):=by
   intro x y z hx hy hz
   have:=zZB (d.1-c.1,d.2-c.2) (x.1-y.1,x.2-y.2) (x.1-z.1,x.2-z.2)
   simp only at this
   rw[this,hpi,hpi,hpi]
   have e1:(d.1-c.1)*(x.2-y.2)-(d.2-c.2)*(x.1-y.1)=0:=by unfold crs at hx hy;grind
   rw[e1]
   grind
  have pos:∀x y z:V2,crs c d x=0->crs c d y=0->crs c d z=0-> ¬OnE y z x->crs y z x=0->0<(pi x-pi y)*(pi x-pi z):=by
   intro x y z hx hy hz hn h0
   rw[<-J x y z hx hy hz]
   apply rC
   intro hc
   refine hn (zGv h0 ?_)
   apply rC
   intro hd
   have:=rB hu (show 0<(x.1-y.1)*(x.1-z.1)+(x.2-y.2)*(x.2-z.2)from fF)
   grind
  have l1:crs a b c=0:=zLS I ca cb cc
  have l2:crs a b d=0:=zLS I ca cb U
  have p1:=pos c a b cc ca cb (fun h=>O c (zHW c d) h) l1
  have p2:=pos d a b U ca cb (fun h=>O d (zLy c d) h) l2
  have p3:=pos a c d ca cc U (fun h=>O a h (zHW a b)) ca
  have p4:=pos b c d cb cc U (fun h=>O b h (zLy a b)) cb
  have sg:∀{x y:Rat},0<x*y->(0<x/\0<y)∨(x<0/\y<0):=fun {x y} h=>by
   rcases(fF:0<x∨x<0∨x=0)with k|k|k
   .refine .inl ⟨k,?_⟩
    apply rC
    intro hn
    have:=rD (rE k) (show 0<=-y from fF)
    grind
   .refine .inr ⟨k,?_⟩
    apply rC
    intro hn
    have:=rD (show 0<=-x from fF) (show 0<=y from fF)
    grind
   .subst k;rw[Rat.zero_mul]at h;grind
  have vv:∀(k s:Rat) (x:V2),(zJL k s ⟨d.1-c.1,d.2-c.2,0⟩).v x=k+s*pi x:=by intro k s x;rw[zH9,hpi];unfold Aff.v;grind
  rcases sg p1 with⟨q1,q2⟩|⟨q1,q2⟩
  .obtain⟨m,m1,m2,m3⟩:=min2 (pi c) (pi d)
   refine⟨zJL m (-1) ⟨d.1-c.1,d.2-c.2,0⟩,?_,?_,?_,?_⟩<;>rw[vv]
   .rcases sg p3 with r|r<;>grind
   .rcases sg p4 with r|r<;>grind
   .grind
   .grind
  .obtain⟨m,m1,m2,m3⟩:=max2 (pi c) (pi d)
   refine⟨zJL (-m) 1 ⟨d.1-c.1,d.2-c.2,0⟩,?_,?_,?_,?_⟩<;>rw[vv]
   .rcases sg p3 with r|r<;>grind
   .rcases sg p4 with r|r<;>grind
   .grind
   .grind
 .exfalso
  have hD:crs a b c-crs a b d= -(crs c d a-crs c d b):=by unfold crs;grind
  obtain⟨t,t0,t1,et⟩:=zR4 k5 k3 k4
  obtain⟨s,s0,s1,es⟩:=zR4 (A:=crs a b c) (B:=crs a b d) (fun h=>k5 fF) k1 k2
  rw[hD]at es
  obtain⟨x1,x2⟩:=zTD k5 et es
  exact O (a.1+(b.1-a.1)*t,a.2+(b.2-a.2)*t) ⟨s,s0,s1,rF x1 x2⟩ ⟨t,t0,t1,rfl⟩
def Nr(d:Rat)(s x:V2):Prop:=s.1-d<=x.1/\x.1<=s.1+d/\s.2-d<=x.2/\x.2<=s.2+d
theorem Nr.mono(h:d<=d'){s x:V2}(I:Nr d s x):Nr d' s x:=by obtain⟨h1,h2,h3,h4⟩:=I;exact⟨fF,fF,fF,fF⟩
theorem Nr.self(h:0<d)(s:V2):Nr d s s:=⟨fF,fF,fF,fF⟩
theorem Nr.add{s:V2}(h:Nr d s x)(I:Nr d' x y):Nr (d+d') s y:=by
 obtain⟨h1,h2,h3,h4⟩:=h;obtain⟨g1,g2,g3,g4⟩:=I;exact⟨fF,fF,fF,fF⟩
theorem zCn{s:V2}(h:0<g.v s):∃d:Rat,0<d/\∀x,Nr d s x->0<g.v x:=by
 obtain⟨d,U,I⟩:=zCv [(g.v s,2*g.a),(g.v s,2*g.b)]
 refine⟨d,U,fun x J=>?_⟩
 obtain⟨h1,h2,h3,h4⟩:=J
 have O:=I (g.v s,2*g.a) fC h (x.1-s.1) fF fF
 have k2:=I (g.v s,2*g.b) fC h (x.2-s.2) fF fF
 unfold Aff.v at*
 simp only at O k2
 grind
theorem nbh{a b:V2}:∀(E:List (V2×V2)),(∀e,e∈E->e.1≠e.2)->(∀e,e∈E->zIu e a b)->∃d:Rat,0<d/\∀x y,Nr d a x->Nr d b y->∀e,e∈E->zIu e x y
 | [],_,_=>⟨1,fH,fun x y _ _ e J=>by cases J⟩
 | e::E,hne,hm=>by
  obtain⟨d,d0,hd⟩:=nbh E (fun e J=>hne e (by simp[J])) (fun e J=>hm e (by simp[J]))
  obtain⟨g,ga,gb,gc,gd⟩:=sep (hne e fC) (hm e fC)
  obtain⟨d1,p1,h1⟩:=zCn ga
  obtain⟨d2,p2,h2⟩:=zCn gb
  obtain⟨m,m0,m1,m2⟩:=qW p1 p2
  obtain⟨n,n0,n1,n2⟩:=qW d0 m0
  refine⟨n,n0,fun x y U hy f O z hz I=>?_⟩
  rcases xS.1 O with rfl|O
  .have k1:=zDM I (h1 x (U.mono fF)) (h2 y (hy.mono fF))
   have k2:=zUh hz gc gd
   grind
  .exact hd x y (U.mono n1) (hy.mono n1) f O z hz I
theorem zKU(h:E.Perm F)(g:V2×V2->Int):(E.map g).sum=(F.map g).sum:=by
 induction h with
 |nil=>rfl
 |cons x _ ih=>simp[ih]
 |swap x y l=>simp;omega
 |trans _ _ ih1 ih2=>exact ih1.trans ih2
theorem zEM(h:E.Perm F)(p:V2):wE E p=wE F p:=zKU h _
theorem Clo.perm(h:Clo E)(I:E.Perm F):Clo F:=fun g=>by rw[<-zKU I];exact h g
theorem zB3(e:V2×V2)(E:List (V2×V2))(p:V2):wE (e::E) p=cI e p+wE E p:=by unfold wE;simp
structure Own(E:List (V2×V2))(e:V2×V2)(F:List (V2×V2)):Prop where
 pm:E.Perm (e::F)
 clo:Clo E
 ne:e.1≠e.2
 fne:∀f,f∈F->f.1≠f.2
 only:∀f,f∈F->∀z,OnE f.1 f.2 z->OnE e.1 e.2 z->z=e.1∨z=e.2
theorem Own.mem(h:Own E e F){f:V2×V2}(I:f∈E):f=e∨f∈F:=by
 have:=h.pm.mem_iff.1 I
 simpa using this
theorem zAt(g:Aff)(a b:V2)(t:Rat):g.v (seg a b t)=g.v a*(1-t)+g.v b*t:=by unfold seg Aff.v;grind
theorem zIO(J:a≠b){t:Rat}(h0:0<t)(h1:t<1):seg a b t≠a/\seg a b t≠b:=by
 have k:b.1-a.1≠0∨b.2-a.2≠0:=by
  by_cases k:b.1-a.1=0
  .exact .inr fun k2=>J (rF fF fF)
  .exact .inl k
 constructor
 .intro e
  have O:=vR Prod.fst e;have I:=vR Prod.snd e
  simp only[seg]at O I
  rcases k with k|k
  .rcases rH.1 (show(b.1-a.1)*t=0 from fF)with q|q<;>grind
  .rcases rH.1 (show(b.2-a.2)*t=0 from fF)with q|q<;>grind
 .intro e
  have O:=vR Prod.fst e;have I:=vR Prod.snd e
  simp only[seg]at O I
  rcases k with k|k
  .rcases rH.1 (show(b.1-a.1)*(1-t)=0 from fF)with q|q<;>grind
  .rcases rH.1 (show(b.2-a.2)*(1-t)=0 from fF)with q|q<;>grind
theorem zFZ(h0:0<=t)(h1:t<=1):OnE a b (seg a b t):=⟨t,h0,h1,rfl⟩
theorem zNq(ht:0<t/\t<1)(I:0<s/\s<1)(h:OnE (seg a b t) (seg a b s) z):∃r:Rat,0<r/\r<1/\z=seg a b r:=by
 obtain⟨q,O,q1,rfl⟩:=h
 refine⟨t+(s-t)*q,?_,?_,rF (by simp only[seg];grind) (by simp only[seg];grind)⟩
 .have J:=rD (rE ht.1) (show 0<=1-q from fF)
  have m2:=rD (rE I.1) O
  by_cases k:q=0
  .subst k;grind
  .have:=rB I.1 (show 0<q from fF);grind
 .have J:=rD (show 0<=1-t from fF) (show 0<=1-q from fF)
  by_cases k:q=0
  .subst k;grind
  .have:=rB (show 0<1-s from fF) (show 0<q from fF);grind
theorem zUg(h:OnE a b z)(I:g.v a=0)(hb:g.v b=0):g.v z=0:=by
 obtain⟨t,_,_,e⟩:=zOi g h
 rw[e,I,hb];grind
def sd(s:Rat)(e:V2×V2):Aff:=zJL 0 s (lin e.1 e.2)
theorem zFa(s:Rat)(e:V2×V2)(x:V2):(sd s e).v x=s*crs e.1 e.2 x:=by unfold sd;rw[zH9,yO];grind
theorem zCc(a b:V2):crs a b a=0:=by unfold crs;grind
theorem zCQ(a b:V2):crs a b b=0:=by unfold crs;grind
theorem zZp(s:Rat)(e:V2×V2):(sd s e).v e.1=0:=by rw[zFa,zCc];grind
theorem zZo(s:Rat)(e:V2×V2):(sd s e).v e.2=0:=by rw[zFa,zCQ];grind
theorem Own.miss(h:Own E e F){t r:Rat}(ht:0<t/\t<1)(hr:0<r/\r<1):∀f,f∈F->zIu f (seg e.1 e.2 t) (seg e.1 e.2 r):=by
 intro f U z hz I
 obtain⟨q,J,O,rfl⟩:=zNq ht hr I
 have:=zIO h.ne J O
 rcases h.only f U _ hz (zFZ (rE J) (rE O))with e|e
 .exact this.1 e
 .exact this.2 e
theorem zBD(U:0<(sd s e).v x)(J:0<(sd s e).v y):zIu e x y:=fun z O I=>by
 have k1:=zUg O (zZp s e) (zZo s e)
 have k2:=zDM I U J
 grind
theorem Own.slide(h:Own E e F){t r:Rat}(ht:0<t/\t<1)(hr:0<r/\r<1)(s:Rat):∃d:Rat,0<d/\∀x y,Nr d (seg e.1 e.2 t) x->Nr d (seg e.1 e.2 r) y->0<(sd s e).v x->0<(sd s e).v y->wE E x=wE E y:=by
 obtain⟨d,d0,U⟩:=nbh F h.fne (h.miss ht hr)
 refine⟨d,d0,fun x y O hy J ky=>zCf h.clo fun f I=>?_⟩
 rcases h.mem I with rfl|I
 .exact zBD J ky
 .exact U x y O hy f I
theorem zIm(h:a≠b):0<(b.1-a.1)*(b.1-a.1)+(b.2-a.2)*(b.2-a.2):=zDU (u:=(b.1-a.1,b.2-a.2)) (fun e=>h (rF (by have:=vR Prod.fst e;simp only at this;grind) (by have:=vR Prod.snd e;simp only at this;grind)))
def off(e:V2×V2)(c:Rat)(m:V2):V2:=(m.1-c*(e.2.2-e.1.2),m.2+c*(e.2.1-e.1.1))
theorem zUr(e:V2×V2)(c:Rat)(m:V2):crs e.1 e.2 (off e c m)=crs e.1 e.2 m+c*((e.2.1-e.1.1)*(e.2.1-e.1.1)+(e.2.2-e.1.2)*(e.2.2-e.1.2)):=by unfold crs off;grind
theorem zRa(e:V2×V2){d:Rat}(I:0<d)(m:V2):∃c:Rat,0<c/\∀c',-c<=c'->c'<=c->Nr d m (off e c' m):=by
 obtain⟨c,U,J⟩:=zCv [(d,e.2.2-e.1.2),(d,-(e.2.2-e.1.2)),(d,e.2.1-e.1.1),(d,-(e.2.1-e.1.1))]
 refine⟨c,U,fun c' O h2=>?_⟩
 have k1:=J (d,e.2.2-e.1.2) fC I c' O h2
 have k2:=J (d,-(e.2.2-e.1.2)) fC I c' O h2
 have k3:=J (d,e.2.1-e.1.1) fC I c' O h2
 have k4:=J (d,-(e.2.1-e.1.1)) fC I c' O h2
 unfold off Nr
 simp only at*
 exact⟨fF,fF,fF,fF⟩
theorem zAo(I:e.1≠e.2){s:Rat}(U:s=1∨s= -1){d:Rat}(hd:0<d){m:V2}(J:crs e.1 e.2 m=0):∃x,Nr d m x/\0<(sd s e).v x:=by
 obtain⟨c,c0,O⟩:=zRa e hd m
 have hq:=rB c0 (zIm I)
 rcases U with rfl|rfl
 .exact⟨off e c m,O c fF fF,by rw[zFa,zUr,J];grind⟩
 .exact⟨off e (-c) m,O (-c) fF fF,by rw[zFa,zUr,J];grind⟩
theorem zAl(e:V2×V2)(t:Rat):crs e.1 e.2 (seg e.1 e.2 t)=0:=by unfold crs seg;grind
def zCU(E:List (V2×V2))(e:V2×V2)(s:Rat)(k:Int):Prop:=∀t:Rat,0<t->t<1->∃d:Rat,0<d/\∀x,Nr d (seg e.1 e.2 t) x->0<(sd s e).v x->wE E x=k
theorem Own.side(h:Own E e F){s:Rat}(O:s=1∨s= -1):∃k,zCU E e s k:=by
 have I:(0:Rat)<1/2/\(1/2:Rat)<1:=by constructor<;>grind
 obtain⟨d0,U,h0⟩:=h.slide I I s
 obtain⟨y,y1,y2⟩:=zAo h.ne O U (zAl e (1/2))
 refine⟨wE E y,fun t t0 t1=>?_⟩
 obtain⟨d,J,hd⟩:=h.slide ⟨t0,t1⟩ I s
 obtain⟨m,m0,m1,m2⟩:=qW U J
 obtain⟨z,z1,z2⟩:=zAo h.ne O m0 (zAl e (1/2))
 exact⟨d,J,fun x hx kx=>(hd x z hx (z1.mono m2) kx z2).trans (h0 z y (z1.mono m1) y1 z2 y2)⟩
theorem wU(J:e.1≠e.2){s:Rat}(hs:s=1∨s= -1){k k':Int}(h:zCU E e s k)(h':zCU E e s k'):k=k':=by
 obtain⟨d,d0,hd⟩:=h (1/2) fF fF
 obtain⟨d',I,O⟩:=h' (1/2) fF fF
 obtain⟨m,m0,m1,m2⟩:=qW d0 I
 obtain⟨x,x1,U⟩:=zAo J hs m0 (zAl e (1/2))
 rw[<-hd x (x1.mono m1) U,<-O x (x1.mono m2) U]
theorem Own.jump(h:Own E e F){k:Int}(hk:zCU E e 1 k):zCU E e (-1) (k-1):=by
 obtain⟨k',h1⟩:=h.side (s:= -1) (.inr rfl)
 obtain⟨a,b⟩:=e
 have J:a≠b:=h.ne
 have hD:=zIm J
 have O:(0:Rat)<1/2/\(1/2:Rat)<1:=by constructor<;>grind
 obtain⟨x0,hx0⟩:∃x0,x0=off (a,b) 1 (seg a b (1/2)):=⟨_,rfl⟩
 have c0:0<crs a b x0:=by
  have:=zUr (a,b) 1 (seg a b (1/2))
  rw[<-hx0]at this
  have e2:=zAl (a,b) (1/2)
  simp only at this e2
  rw[this,e2]
  grind
 have m0:crs a b (seg a b (1/2))=0:=zAl (a,b) (1/2)
 have ax:a≠x0:=fun e=>by rw[<-e,zCc]at c0;grind
 have xb:x0≠b:=fun e=>by rw[e,zCQ]at c0;grind
 -- the chain that goes round by x0
 have hj:Clo ((a,x0)::(x0,b)::F):=fun g=>by
  have:=(h.clo.perm h.pm) g
  simp only[xY,nG]at this ⊢
  omega
 have hw:∀p,wE E p=wE ((a,x0)::(x0,b)::F) p+wE (zCV a b x0) p:=fun p=>by
  rw[zEM h.pm,zB3,zB3,zB3]
  unfold wE zCV
  simp only[xY,bP,nG,nN]
  rw[zDi b x0 p,zDi x0 a p]
  rw[zDi x0 b p]
  rw[zDi a x0 p]
  omega
 have ms:∀f,f∈(a,x0)::(x0,b)::F->zIu f (seg a b (1/2)) (seg a b (1/2)):=by
  intro f I
  rcases xS.1 I with rfl|I
  .intro z hz U
   have zm:z=seg a b (1/2):=by obtain⟨q,_,_,rfl⟩:=U;exact rF fQ fQ
   obtain⟨q,_,_,e⟩:=hz
   have:=zAt (lin a b) a x0 q
   rw[show seg a x0 q=z from e.symm,zm,yO,yO,yO,m0,zCc]at this
   rcases rH.1 (show crs a b x0*q=0 from fF)with k|k
   .grind
   .subst k
    refine(zIO J O.1 O.2).1 (zm.symm.trans (e.trans ?_))
    exact rF fQ fQ
  .rcases xS.1 I with rfl|I
   .intro z hz U
    have zm:z=seg a b (1/2):=by obtain⟨q,_,_,rfl⟩:=U;exact rF fQ fQ
    obtain⟨q,_,_,e⟩:=hz
    have:=zAt (lin a b) x0 b q
    rw[show seg x0 b q=z from e.symm,zm,yO,yO,yO,m0,zCQ]at this
    rcases rH.1 (show crs a b x0*(1-q)=0 from fF)with k|k
    .grind
    .have:q=1:=fF
     subst this
     refine(zIO J O.1 O.2).2 (zm.symm.trans (e.trans ?_))
     exact rF fQ fQ
   .exact h.miss O O f I
 have fne:∀f,f∈(a,x0)::(x0,b)::F->f.1≠f.2:=by
  intro f I
  rcases xS.1 I with rfl|I
  .exact ax
  .rcases xS.1 I with rfl|I
   .exact xb
   .exact h.fne f I
 obtain⟨d1,he,hn⟩:=nbh _ fne ms
 have g1:0<(lin b x0).v (seg a b (1/2)):=by
  rw[yO]
  have:crs b x0 (seg a b (1/2))=crs a b x0*(1/2):=by unfold crs seg;grind
  rw[this];exact rB c0 fF
 have g2:0<(lin x0 a).v (seg a b (1/2)):=by
  rw[yO]
  have:crs x0 a (seg a b (1/2))=crs a b x0*(1/2):=by unfold crs seg;grind
  rw[this];exact rB c0 fF
 obtain⟨d2,hg,h9⟩:=zCn g1
 obtain⟨d3,ha,hc⟩:=zCn g2
 obtain⟨d4,hd,hp⟩:=hk (1/2) O.1 O.2
 obtain⟨d5,ho,h8⟩:=h1 (1/2) O.1 O.2
 obtain⟨n1,hl,n11,n12⟩:=qW he hg
 obtain⟨n2,h7,n21,n22⟩:=qW ha hd
 obtain⟨n3,hm,n31,n32⟩:=qW hl h7
 obtain⟨n,np,n41,n42⟩:=qW hm ho
 obtain⟨q,q1,q2⟩:=zAo (e:=(a,b)) J (s:=1) (.inl rfl) np m0
 obtain⟨r,r1,r2⟩:=zAo (e:=(a,b)) J (s:= -1) (.inr rfl) np m0
 have w1:=hp q (q1.mono fF) q2
 have w2:=h8 r (r1.mono fF) r2
 have w3:wE ((a,x0)::(x0,b)::F) q=wE ((a,x0)::(x0,b)::F) r:=zCf hj (hn q r (q1.mono fF) (r1.mono fF))
 rw[zFa]at q2 r2
 have t1:=(zID c0 q).1 (by have:=h9 q (q1.mono fF);rwa [yO]at this) (by have:=hc q (q1.mono fF);rwa [yO]at this) fF
 have t2:=(zID c0 r).2 (.inr (.inr fF))
 have k1:=hw q;have k2:=hw r
 have:k'=k-1:=oA
 rw[<-this]
 exact h1
def pe:List V2->List (V2×V2)
 |a::b::t=>(a,b)::pe (b::t)
 |_=> []
def eds:List V2->List (V2×V2)
 | []=> []
 |a::t=>pe (a::(t++ [a]))
theorem zOa:∀(x:List V2) (m:V2) (y:List V2),pe (x++m::y)=pe (x++ [m])++pe (m::y)
 | [],m,y=>by simp[pe]
 | [a],m,y=>by simp[pe]
 |a::b::x,m,y=>by
  have:=zOa (b::x) m y
  simp only[mM]at this ⊢
  simp only[pe,this,mM]
theorem zGa(x:List V2)(m z:V2):pe (x++ [m,z])=pe (x++ [m])++ [(m,z)]:=by rw[zOa x m [z]];rfl
theorem zN9:∀(x:List V2) (m:V2),(pe (x++ [m])).map (·.1)=x
 | [],m=>rfl
 | [a],m=>rfl
 |a::b::x,m=>by
  have:=zN9 (b::x) m
  simp only[mM]at this ⊢
  simp only[pe,xY,this]
theorem zN8:∀(m:V2) (x:List V2),(pe (m::x)).map (·.2)=x
 |m, []=>rfl
 |m,a::x=>by simp only[pe,xY,zN8 a x]
theorem zIq(l:List V2):(eds l).map (·.1)=l:=by
 cases l with
 |nil=>rfl
 |cons a t=>exact zN9 (a::t) a
theorem zPf(a:V2)(t:List V2):(eds (a::t)).map (·.2)=t++ [a]:=zN8 a (t++ [a])
theorem zRE(a:V2)(t:List V2):(eds (t++ [a])).Perm (eds (a::t)):=by
 cases t with
 |nil=>exact .refl _
 |cons b t=>
  show(pe (b::(t++ [a]++ [b]))).Perm (pe (a::b::(t++ [a])))
  have e:b::(t++ [a]++ [b])=(b::t)++ [a,b]:=fG
  rw[e,zGa]
  show(pe (b::t++ [a])++ [(a,b)]).Perm ((a,b)::pe (b::(t++ [a])))
  exact rO
theorem jQ:∀(x y:List V2),(eds (y++x)).Perm (eds (x++y))
 | [],y=>fG
 |a::x,y=>by
  have I:=jQ x (y++ [a])
  have h2:=zRE a (x++y)
  have O:y++ [a]++x=y++a::x:=fG
  have J:x++(y++ [a])=x++y++ [a]:=fG
  rw[O,J]at I
  exact I.trans h2
theorem zSr(g:V2->Int):∀(x:List V2) (a z:V2),((pe (a::(x++ [z]))).map fun e=>g e.2-g e.1).sum=g z-g a
 | [],a,z=>by simp[pe]
 |b::x,a,z=>by
  have:=zSr g x b z
  simp only[mM,pe,xY,nG,this]
  omega
theorem zBO(l:List V2):Clo (eds l):=fun g=>by
 cases l with
 |nil=>rfl
 |cons a t=>rw[show eds (a::t)=pe (a::(t++ [a]))from rfl,zSr];omega
theorem zSs:∀{l:List V2} {e:V2×V2},e∈pe l->e.1∈l/\e.2∈l
 | [],e,h=>by simp[pe]at h
 | [a],e,h=>by simp[pe]at h
 | a::b::t,e,h=>by
  simp only[pe,xS]at h
  rcases h with rfl|h
  .simp
  .have:=zSs h
   exact⟨bZ _ this.1,bZ _ this.2⟩
theorem zV6:∀{l:List V2} {e:V2×V2},l.Nodup->e∈pe l->e.1≠e.2
 | [],e,_,h=>by simp[pe]at h
 | [a],e,_,h=>by simp[pe]at h
 | a::b::t,e,hn,h=>by
  simp only[pe,xS]at h
  rcases h with rfl|h
  .intro k
   simp only at k
   subst k
   simp at hn
  .exact zV6 (bU.1 hn).2 h
theorem zBj(h:e∈eds l):e.1∈l/\e.2∈l:=by
 cases l with
 |nil=>simp[eds]at h
 |cons a t=>
  have:=zSs h
  simp only[xS,vW,rL,rK]at this ⊢
  constructor
  .rcases this.1 with k|k|k<;>simp[k]
  .rcases this.2 with k|k|k<;>simp[k]
theorem zCL{α β:Type}{f:α->β}:∀{L:List α},(L.map f).Nodup->∀{x y:α},x∈L->y∈L->f x=f y->x=y
 | [],_,x,_,hx,_,_=>by cases hx
 |z::L,h,x,y,hx,hy,e=>by
  rw[xY,bU]at h
  rcases xS.1 hx with rfl|I<;>rcases xS.1 hy with rfl|J
  .rfl
  .exact absurd (xH.2 ⟨y,J,e.symm⟩) h.1
  .exact absurd (xH.2 ⟨x,I,e⟩) h.1
  .exact zCL h.2 I J e
theorem zFe{α β:Type}{f:α->β}:∀{L:List α},(L.map f).Nodup->L.Nodup
 | [],_=>.nil
 |z::L,h=>by
  rw[xY,bU]at h
  exact bU.2 ⟨fun k=>h.1 (xH.2 ⟨z,k,rfl⟩),zFe h.2⟩
structure Sim(l:List V2):Prop where
 three:3<=l.length
 nod:l.Nodup
 meet:∀e f,e∈eds l->f∈eds l->e≠f->∀z,OnE e.1 e.2 z->OnE f.1 f.2 z->(z=e.2/\z=f.1)∨(z=e.1/\z=f.2)
theorem Sim.of_perm(h:Sim l)(I:l.Perm l')(J:(eds l).Perm (eds l')):Sim l':=
 ⟨by rw[<-I.length_eq];exact h.three,I.nodup_iff.1 h.nod,fun e f O h2=>h.meet e f (J.mem_iff.2 O) (J.mem_iff.2 h2)⟩
theorem Sim.rot{x y:List V2}(h:Sim (x++y)):Sim (y++x):=h.of_perm rO (jQ x y).symm
theorem Sim.fst(h:Sim l){e f:V2×V2}(J:e∈eds l)(I:f∈eds l)(k:e.1=f.1):e=f:=zCL (f:=(·.1)) (by rw[zIq];exact h.nod) J I k
theorem Sim.snd(h:Sim l){e f:V2×V2}(I:e∈eds l)(J:f∈eds l)(k:e.2=f.2):e=f:=by
 cases l with
 |nil=>simp[eds]at I
 |cons a t=>
  refine zCL (f:=(·.2)) ?_ I J k
  rw[zPf]
  exact(rO (l₁:=t) (l₂:=[a])).nodup_iff.2 h.nod
theorem Sim.nodE(h:Sim l):(eds l).Nodup:=zFe (f:=(·.1)) (by rw[zIq];exact h.nod)
theorem Sim.ne(h:Sim l){e:V2×V2}(I:e∈eds l):e.1≠e.2:=by
 obtain⟨h3,J,_⟩:=h
 cases l with
 |nil=>simp[eds]at I
 | cons a t=>
  rcases sG t with rfl|⟨s,z,rfl⟩
  .simp at h3
  .have O:eds (a::s.concat z)=pe (a::s++ [z])++ [(z,a)]:=by
    show pe (a::(s.concat z++ [a]))=_
    rw[<-zGa]
    simp
   rw[O]at I
   rcases vW.1 I with I|I
   .exact zV6 (by simpa using J) I
   .obtain rfl:e=(z,a):=by simpa using I
    intro k
    simp only at k
    subst k
    simp at J
theorem zXb(h:Sim l){v:V2}(J:v∈l):∃b c a x y,l=x++y/\y++x=v::b::(c++ [a]):=by
 obtain⟨x,y,rfl⟩:=sP J
 have h3:=h.three
 have I:2<=(y++x).length:=by simp at h3 ⊢;omega
 cases hm:y++x with
 |nil=>rw[hm]at I;simp at I
 |cons b m=>
  rcases sG m with rfl|⟨c,a,rfl⟩
  .rw[hm]at I;simp at I
  .exact⟨b,c,a,x,v::y,rfl,by rw[mM,hm,sQ]⟩
theorem zAg(v b a:V2)(c:List V2):eds (v::b::(c++ [a]))=(v,b)::(pe (b::(c++ [a]))++ [(a,v)]):=by
 show pe (v::b::(c++ [a]++ [v]))=_
 have e:b::(c++ [a]++ [v])=(b::c)++ [a,v]:=fG
 rw[show pe (v::b::(c++ [a]++ [v]))=(v,b)::pe (b::(c++ [a]++ [v]))from rfl,e,zGa]
 rfl
theorem Sim.own(h:Sim l){e:V2×V2}(J:e∈eds l):Own (eds l) e ((eds l).erase e) where
 pm:=List.perm_cons_erase J
 clo:=zBO l
 ne:=h.ne J
 fne f hf:=h.ne (sS hf)
 only f hf z hz hz':=by
  have I:e≠f:=fun k=>by subst k;exact h.nodE.not_mem_erase hf
  rcases h.meet e f J (sS hf) I z hz' hz with k|k
  .exact .inr k.1
  .exact .inl k.1
theorem Sim.nxt(h:Sim l){a v b:V2}(h1:(a,v)∈eds l)(h2:(v,b)∈eds l):a≠b:=by
 obtain⟨b',c,O,x,y,rfl,e⟩:=zXb h (zBj h1).2
 have I:=h.rot
 have J:=jQ x y
 rw[e]at I J
 have k1:=J.mem_iff.2 h1;have k2:=J.mem_iff.2 h2
 have q1:((v,b'):V2×V2)∈eds (v::b'::(c++ [O])):=by rw[zAg];simp
 have q2:((O,v):V2×V2)∈eds (v::b'::(c++ [O])):=by rw[zAg];simp
 have U:=vR Prod.snd (I.fst k2 q1 rfl)
 have r2:=vR Prod.fst (I.snd k1 q2 rfl)
 simp only at U r2
 subst U r2
 intro k
 subst k
 have:=I.nod
 simp at this
theorem zTk(a v b:V2):((b.1-a.1)*(b.1-v.1)+(b.2-a.2)*(b.2-v.2))*((a.1-v.1)*(a.1-b.1)+(a.2-v.2)*(a.2-b.2))+((v.1-a.1)*(v.1-b.1)+(v.2-a.2)*(v.2-b.2))*((b.1-a.1)*(b.1-a.1)+(b.2-a.2)*(b.2-a.2))=((v.1-a.1)*(b.2-a.2)-(v.2-a.2)*(b.1-a.1))*((v.1-a.1)*(b.2-a.2)-(v.2-a.2)*(b.1-a.1)):=fF
theorem Sim.turns(h:Sim l){a v b:V2}(h1:(a,v)∈eds l)(h2:(v,b)∈eds l)(h0:crs a v b=0):∃t:Rat,0<t/\t<1/\v=seg a b t:=by
 have J:a≠v:=h.ne h1
 have O:v≠b:=h.ne h2
 have I:=h.nxt h1 h2
 have U:((a,v):V2×V2)≠(v,b):=fun k=>J (vR Prod.fst k)
 have h4: ¬OnE a v b:=fun k=>by
  rcases h.meet (a,v) (v,b) h1 h2 U b k (zLy v b)with q|q
  .exact O q.1.symm
  .exact I q.1.symm
 have h5: ¬OnE v b a:=fun k=>by
  rcases h.meet (a,v) (v,b) h1 h2 U a (zHW a v) k with q|q
  .exact J q.1
  .exact I q.2
 have p1:0<(b.1-a.1)*(b.1-v.1)+(b.2-a.2)*(b.2-v.2):=by
  apply rC
  intro hn
  exact h4 (zGv h0 fF)
 have p2:0<(a.1-v.1)*(a.1-b.1)+(a.2-v.2)*(a.2-b.2):=by
  apply rC
  intro hn
  exact h5 (zGv (by unfold crs at h0 ⊢;grind) fF)
 have p3:(v.1-a.1)*(v.1-b.1)+(v.2-a.2)*(v.2-b.2)<=0:=by
  apply rC
  intro hn
  have q1:=rB p1 p2
  have q2:0<(v.1-a.1)*(v.1-b.1)+(v.2-a.2)*(v.2-b.2):=fF
  have q3:=rB q2 (zIm I)
  have hz:(v.1-a.1)*(b.2-a.2)-(v.2-a.2)*(b.1-a.1)=0:=by unfold crs at h0;grind
  have:=zTk a v b
  rw[hz]at this
  clear h0 hz h4 h5 p1 p2 q2 hn
  grind
 obtain⟨t,t0,t1,e⟩:=zGv (a:=a) (b:=b) (p:=v) (by unfold crs at h0 ⊢;grind) p3
 refine⟨t,?_,?_,e⟩
 .apply rC
  intro hn
  have:t=0:=fF
  subst this
  exact J (by rw[e];exact rF fQ fQ)
 .apply rC
  intro hn
  have:t=1:=fF
  subst this
  exact O (by rw[e];exact rF fQ fQ)
theorem zCU.half(h:Own E e F){s:Rat}(U:s=1∨s= -1){k:Int}(hk:zCU E e s k)(g:Aff){t:Rat}(t0:0<t)(t1:t<1)
  (O:0<g.v (seg e.1 e.2 t)∨ ∃la:Rat,0<la/\∀x,g.v x=la*(sd s e).v x){d:Rat}(hd:0<d):∃x,Nr d (seg e.1 e.2 t) x/\0<(sd s e).v x/\0<g.v x/\wE E x=k:=by
 obtain⟨d1,p1,h1⟩:=hk t t0 t1
 obtain⟨m,m0,m1,m2⟩:=qW hd p1
 rcases O with O|⟨la,l0,O⟩
 .obtain⟨d2,p2,h2⟩:=zCn O
  obtain⟨n,n0,n1,n2⟩:=qW m0 p2
  obtain⟨x,J,I⟩:=zAo h.ne U n0 (zAl e t)
  exact⟨x,J.mono fF,I,h2 x (J.mono n2),h1 x (J.mono fF) I⟩
 .obtain⟨x,J,I⟩:=zAo h.ne U m0 (zAl e t)
  exact⟨x,J.mono m1,I,by rw[O];exact rB l0 I,h1 x (J.mono m2) I⟩
theorem zJo(a b:V2){d:Rat}(I:0<d):∃t:Rat,0<t/\t<1/\Nr d b (seg a b t):=by
 obtain⟨c,O,J⟩:=zCv [(d,b.1-a.1),(d,-(b.1-a.1)),(d,b.2-a.2),(d,-(b.2-a.2))]
 obtain⟨m,m0,m1,m2⟩:=qW O (show(0:Rat)<1/2 from fF)
 have k1:=J (d,b.1-a.1) fC I m fF fF
 have k2:=J (d,-(b.1-a.1)) fC I m fF fF
 have k3:=J (d,b.2-a.2) fC I m fF fF
 have k4:=J (d,-(b.2-a.2)) fC I m fF fF
 refine⟨1-m,fF,fF,?_⟩
 unfold Nr seg
 simp only at*
 exact⟨fF,fF,fF,fF⟩
theorem zHy(a b:V2)(t:Rat):seg a b t=seg b a (1-t):=rF (by simp only[seg];grind) (by simp only[seg];grind)
theorem zGh(a b:V2){d:Rat}(I:0<d):∃t:Rat,0<t/\t<1/\Nr d a (seg a b t):=by
 obtain⟨t,t0,t1,h⟩:=zJo b a I
 exact⟨1-t,fF,fF,by rw[zHy a b];rw[show 1-(1-t)=t from fF];exact h⟩
theorem zJG{F1 F2:List (V2×V2)}{v:V2}(h1:Own E (a,v) F1)(h2:Own E (v,b) F2)(hF:∀f,f∈E->f=(a,v)∨f=(v,b)∨f∈F)(fne:∀f,f∈F->f.1≠f.2)(fv:∀f,f∈F-> ¬OnE f.1 f.2 v)
  {s:Rat}(hs:s=1∨s= -1)(H:0<s*crs a v b∨ ∃t:Rat,0<t/\t<1/\v=seg a b t){k:Int}(hk:zCU E (a,v) s k):zCU E (v,b) s k:=by
 obtain⟨k',h4⟩:=h2.side hs
 obtain⟨d,d0,hd⟩:=nbh (a:=v) (b:=v) F fne (fun f O z hz h6=>fv f O (by
  obtain⟨q,_,_,rfl⟩:=h6
  have:((v.1+(v.1-v.1)*q,v.2+(v.2-v.2)*q):V2)=v:=rF fQ fQ
  rwa [this]at hz))
 have I:0<d/2:=fF
 obtain⟨t,t0,t1,ht⟩:=zJo a v I
 obtain⟨r,r0,r1,hr⟩:=zGh v b I
 have A:0<(sd s (v,b)).v (seg a v t)∨ ∃la:Rat,0<la/\∀x,(sd s (v,b)).v x=la*(sd s (a,v)).v x:=by
  rcases H with H|⟨q,q0,q1,H⟩
  .left
   have e:(sd s (v,b)).v (seg a v t)=(1-t)*(s*crs a v b):=by rw[zFa];unfold crs seg;grind
   rw[e];exact rB fF H
  .right
   have J:(1-q)/q*q=1-q:=rJ fF
   have U:v.1=a.1+(b.1-a.1)*q:=by rw[H];rfl
   have v2:v.2=a.2+(b.2-a.2)*q:=by rw[H];rfl
   refine⟨(1-q)/q,zCy q0 (by rw[J];grind),fun x=>?_⟩
   have c1:crs a v x=q*crs a b x:=by unfold crs;rw[U,v2];grind
   have c2:crs v b x=(1-q)*crs a b x:=by unfold crs;rw[U,v2];grind
   rw[zFa,zFa]
   show s*crs v b x=(1-q)/q*(s*crs a v x)
   rw[c1,c2]
   generalize(1-q)/q=l at J
   rw[<-J]
   grind
 have B:0<(sd s (a,v)).v (seg v b r)∨ ∃la:Rat,0<la/\∀x,(sd s (a,v)).v x=la*(sd s (v,b)).v x:=by
  rcases H with H|⟨q,q0,q1,H⟩
  .left
   have e:(sd s (a,v)).v (seg v b r)=r*(s*crs a v b):=by rw[zFa];unfold crs seg;grind
   rw[e];exact rB r0 H
  .right
   have J:q/(1-q)*(1-q)=q:=rJ fF
   have U:v.1=a.1+(b.1-a.1)*q:=by rw[H];rfl
   have v2:v.2=a.2+(b.2-a.2)*q:=by rw[H];rfl
   refine⟨q/(1-q),zCy (s:=1-q) fF (by rw[J];grind),fun x=>?_⟩
   have c1:crs a v x=q*crs a b x:=by unfold crs;rw[U,v2];grind
   have c2:crs v b x=(1-q)*crs a b x:=by unfold crs;rw[U,v2];grind
   rw[zFa,zFa]
   show s*crs a v x=q/(1-q)*(s*crs v b x)
   rw[c1,c2]
   generalize q/(1-q)=l at J
   have:q*crs a b x=l*(1-q)*crs a b x:=by rw[J]
   rw[this]
   grind
 obtain⟨x,x1,x2,x3,x4⟩:=hk.half h1 hs (sd s (v,b)) t0 t1 A I
 obtain⟨y,y1,y2,y3,y4⟩:=h4.half h2 hs (sd s (a,v)) r0 r1 B I
 have nx:Nr d v x:=(ht.add x1).mono fF
 have ny:Nr d v y:=(hr.add y1).mono fF
 have:wE E x=wE E y:=zCf h1.clo fun f O=>by
  rcases hF f O with rfl|rfl|O
  .exact zBD x2 y3
  .exact zBD x3 y2
  .exact hd x y nx ny f O
 have:k=k':=oA
 rw[this]
 exact h4
theorem Sim.off_corner(h:Sim l){a v b:V2}(h1:(a,v)∈eds l)(h2:(v,b)∈eds l){f:V2×V2}(I:f∈eds l)(O:f≠(a,v))(J:f≠(v,b)): ¬OnE f.1 f.2 v:=fun U=>by
 rcases h.meet (a,v) f h1 I (fun k=>O k.symm) v (zLy a v) U with q|q
 .exact J (h.fst I h2 q.2.symm)
 .exact h.ne h1 q.1.symm
theorem Sim.next(h:Sim l){a v b:V2}(h1:(a,v)∈eds l)(h2:(v,b)∈eds l){k:Int}(O:zCU (eds l) (a,v) 1 k):zCU (eds l) (v,b) 1 k:=by
 have o1:=h.own h1;have U:=h.own h2
 have hF:∀f,f∈eds l->f=(a,v)∨f=(v,b)∨f∈(eds l).filter fun f=>decide (f≠(a,v))&&decide (f≠(v,b)):=fun f I=>by
  by_cases k1:f=(a,v)
  .exact .inl k1
  .by_cases k2:f=(v,b)
   .exact .inr (.inl k2)
   .exact .inr (.inr (lR.2 ⟨I,by simp[k1,k2]⟩))
 have fm:∀f,f∈((eds l).filter fun f=>decide (f≠(a,v))&&decide (f≠(v,b)))->f∈eds l/\f≠(a,v)/\f≠(v,b):=fun f I=>by
  obtain⟨g1,g2⟩:=lR.1 I
  rw[xW,bY,bY]at g2
  exact⟨g1,g2⟩
 have C:=fun {s:Rat} (hs:s=1∨s= -1) H {k:Int} O=>zJG (k:=k) o1 U hF (fun f I=>h.ne (fm f I).1) (fun f I=>h.off_corner h1 h2 (fm f I).1 (fm f I).2.1 (fm f I).2.2) hs H O
 rcases(fF:0<crs a v b∨crs a v b<0∨crs a v b=0)with c|c|c
 .exact C (.inl rfl) (.inl fF) O
 .have r1:=o1.jump O
  have r2:=C (s:= -1) (.inr rfl) (.inl fF) r1
  obtain⟨k',J⟩:=U.side (s:=1) (.inl rfl)
  have:=wU U.ne (.inr rfl) r2 (U.jump J)
  have:k=k':=oA
  rw[this];exact J
 .exact C (.inl rfl) (.inr (h.turns h1 h2 c)) O
theorem zLq{E:List (V2×V2)}{R:V2×V2->Prop}(J:∀a v b,(a,v)∈E->(v,b)∈E->R (a,v)->R (v,b)):∀(t:List V2) (a b:V2),(∀e,e∈pe (a::b::t)->e∈E)->R (a,b)->∀e,e∈pe (a::b::t)->R e
 | [],a,b,_,h,e,I=>by
  obtain rfl:e=(a,b):=by simpa[pe]using I
  exact h
 | c::t,a,b,hE,h,e,I=>by
  simp only[pe,xS]at I
  rcases I with rfl|I
  .exact h
  .refine zLq J t b c (fun e I=>hE e (by rw[pe];exact .tail _ I)) (J a b c (hE _ (by simp[pe])) (hE _ (by simp[pe])) h) e ?_
   rw[pe]
   simpa using I
theorem Sim.sides(h:Sim l):∃k:Int,∀e,e∈eds l->zCU (eds l) e 1 k/\zCU (eds l) e (-1) (k-1):=by
 have J:∃a b t,l=a::b::t:=by
  have:=h.three
  match l,this with
  |a::b::t,_=>exact⟨a,b,t,rfl⟩
 obtain⟨a,b,t,rfl⟩:=J
 have m0:((a,b):V2×V2)∈eds (a::b::t):=by
  show(a,b)∈pe (a::b::(t++ [a]))
  simp[pe]
 obtain⟨k,U⟩:=(h.own m0).side (s:=1) (.inl rfl)
 refine⟨k,fun e I=>?_⟩
 have:=zLq (E:=eds (a::b::t)) (R:=fun e=>zCU (eds (a::b::t)) e 1 k) (fun a v b O h2 h3=>h.next O h2 h3) (t++ [a]) a b (fun e I=>I) U e I
 exact⟨this,(h.own I).jump this⟩
theorem zUX(h:(e.1.2<p.2/\e.2.2<p.2)∨(p.2<e.1.2/\p.2<e.2.2)):cI e p=0:=by
 obtain⟨a,b⟩:=e
 simp only at h
 exact zDj (h.imp (fun g=>⟨rE g.1,rE g.2⟩) id)
theorem zMW(h:∀e,e∈E->cI e p=0):wE E p=0:=by
 induction E with
 |nil=>rfl
 |cons e E ih=>
  rw[zB3,h e fC,ih fun e I=>h e (by simp[I])]
  rfl
theorem zKg(f:V2->Rat):∀l:List V2,∃M:Rat,∀v,v∈l->f v<M
 | []=>⟨0,fun v I=>by cases I⟩
 |a::l=>by
  obtain⟨M,J⟩:=zKg f l
  obtain⟨c,c1,c2,_⟩:=max2 M (f a+1)
  refine⟨c,fun v I=>?_⟩
  rcases xS.1 I with rfl|I
  .grind
  .have:=J v I;grind
theorem zGz(L:Aff){p:V2}(hp:∀u,u∈l->L.v u<L.v p):wE (eds l) p=0:=by
 -- a point far above or below, still beyond
 obtain⟨q,hq,hh⟩:∃q:V2,L.v p<=L.v q/\((∀u,u∈l->u.2<q.2)∨(∀u,u∈l->q.2<u.2)):=by
  obtain⟨M,hM⟩:=zKg (fun v=>v.2) l
  obtain⟨M',O⟩:=zKg (fun v=> -v.2) l
  rcases(fF:0<=L.b∨L.b<0)with k|k
  .obtain⟨c,c1,c2,_⟩:=max2 M p.2
   refine⟨(p.1,c),?_,.inl fun u U=>by have:=hM u U;simp only at this ⊢;grind⟩
   have:=rD k (show 0<=c-p.2 from fF)
   unfold Aff.v;simp only;grind
  .obtain⟨c,c1,c2,_⟩:=min2 (-M') p.2
   refine⟨(p.1,c),?_,.inr fun u U=>by have:=O u U;simp only at this ⊢;grind⟩
   have:=rD (show 0<=-L.b from fF) (show 0<=p.2-c from fF)
   unfold Aff.v;simp only;grind
 have h1:wE (eds l) p=wE (eds l) q:=zCf (zBO l) fun e I z hz J=>by
  have I:=zBj I
  have k1:0<(zJL (-(L.v p)) 1 L).v z∨(zJL (-(L.v p)) 1 L).v z=0:=by
   have:=zGF (g:=zJL (-(L.v p)) 1 L) J (by rw[zH9];grind) (by rw[zH9];grind)
   grind
  have k2:=zDM (g:=zJL (L.v p) (-1) L) hz (by rw[zH9];have:=hp _ I.1;grind) (by rw[zH9];have:=hp _ I.2;grind)
  rw[zH9]at k1 k2
  grind
 rw[h1]
 exact zMW fun e I=>zUX (hh.imp (fun g=>⟨g _ (zBj I).1,g _ (zBj I).2⟩) fun g=>⟨g _ (zBj I).1,g _ (zBj I).2⟩)
theorem Sim.extreme(h:Sim l){k:Int}(hk:∀e,e∈eds l->zCU (eds l) e 1 k/\zCU (eds l) e (-1) (k-1))(L:Aff){a v b:V2}(h1:(a,v)∈eds l)(h2:(v,b)∈eds l)(hL:∀u,u∈l->u≠v->L.v u<L.v v):
  (0<crs a v b/\k=1)∨(crs a v b<0/\k=0):=by
 have hE:a≠v:=h.ne h1
 have hx:v≠b:=h.ne h2
 have La:L.v a<L.v v:=hL a (zBj h1).1 hE
 have Lb:L.v b<L.v v:=hL b (zBj h2).2 (fun e=>hx e.symm)
 have hnz:crs a v b≠0:=fun c=>by
  obtain⟨t,t0,t1,e⟩:=h.turns h1 h2 c
  have:=zAt L a b t
  rw[<-e]at this
  have m1:=rB (show 0<L.v v-L.v a from fF) (show 0<1-t from fF)
  have m2:=rB (show 0<L.v v-L.v b from fF) t0
  grind
 have h0:∀s:Rat,(s=1∨s= -1)->0<s*crs a v b->zCU (eds l) (a,v) (-s) 0∨zCU (eds l) (v,b) (-s) 0:=by
  intro s hs hc
  have U: -s=1∨-s= -1:=by rcases hs with rfl|rfl<;>grind
  have fn:∀f,f∈(eds l).filter (fun f=>decide (f≠(a,v))&&decide (f≠(v,b)))->f∈eds l/\f≠(a,v)/\f≠(v,b):=fun f I=>by
   obtain⟨g1,g2⟩:=lR.1 I
   rw[xW,bY,bY]at g2
   exact⟨g1,g2⟩
  obtain⟨d,d0,hd⟩:=nbh (a:=v) (b:=v) ((eds l).filter fun f=>decide (f≠(a,v))&&decide (f≠(v,b))) (fun f I=>h.ne (fn f I).1) (fun f I z hz J=>h.off_corner h1 h2 (fn f I).1 (fn f I).2.1 (fn f I).2.2 (by
   obtain⟨q,_,_,rfl⟩:=J
   have:((v.1+(v.1-v.1)*q,v.2+(v.2-v.2)*q):V2)=v:=rF fQ fQ
   rwa [this]at hz))
  have hm:∀f,f∈eds l->f=(a,v)∨f=(v,b)∨f∈(eds l).filter (fun f=>decide (f≠(a,v))&&decide (f≠(v,b))):=fun f I=>by
   by_cases k1:f=(a,v)
   .exact .inl k1
   .by_cases k2:f=(v,b)
    .exact .inr (.inl k2)
    .exact .inr (.inr (lR.2 ⟨I,by simp[k1,k2]⟩))
  -- a point beyond the zJG
  obtain⟨p,h7,hC⟩:∃p,Nr d v p/\L.v v<L.v p:=by
   have hu:0<L.a*L.a+L.b*L.b:=zDU (u:=(L.a,L.b)) (fun e=>by
    have e1:L.a=0:=vR Prod.fst e
    have e2:L.b=0:=vR Prod.snd e
    unfold Aff.v at La
    rw[e1,e2]at La
    grind)
   obtain⟨c,c0,hc⟩:=zCv [(d,L.a),(d,-L.a),(d,L.b),(d,-L.b)]
   have k1:=hc (d,L.a) fC d0 c fF fF
   have k2:=hc (d,-L.a) fC d0 c fF fF
   have k3:=hc (d,L.b) fC d0 c fF fF
   have k4:=hc (d,-L.b) fC d0 c fF fF
   have:=rB c0 hu
   refine⟨(v.1+c*L.a,v.2+c*L.b),?_,?_⟩
   .unfold Nr;simp only at*;exact⟨fF,fF,fF,fF⟩
   .unfold Aff.v;simp only;grind
  have wp:wE (eds l) p=0:=zGz L fun u hu=>by
   by_cases e:u=v
   .subst e;exact hC
   .have:=hL u hu e;grind
  have id:=zUT L a v b p
  have out:s*crs a v p<0∨s*crs v b p<0:=by
   apply rC
   intro hn
   have g1:0<=s*crs a v p:=fF
   have g2:0<=s*crs v b p:=fF
   have m1:=rD g1 (show 0<=L.v v-L.v b from fF)
   have m2:=rD g2 (show 0<=L.v v-L.v a from fF)
   have m3:=rB hc (show 0<L.v p-L.v v from fF)
   have:s*(crs a v b*(L.v p-L.v v))=s*(crs a v p*(L.v b-L.v v)+crs v b p*(L.v a-L.v v)):=by rw[id]
   grind
  have O:0<d/2:=fF
  rcases out with o|o
  .left
   obtain⟨q,hq⟩:=(h.own h1).side U
   obtain⟨t,t0,t1,ht⟩:=zJo a v O
   obtain⟨d1,p1,h5⟩:=hq t t0 t1
   obtain⟨m,m0,m1,m2⟩:=qW O p1
   obtain⟨x,x1,x2⟩:=zAo (h.own h1).ne U m0 (zAl (a,v) t)
   have wx:=h5 x (x1.mono m2) x2
   have:wE (eds l) p=wE (eds l) x:=zCf (zBO l) fun f I=>by
    have px:0<(sd (-s) (a,v)).v p:=by rw[zFa];show 0< -s*crs a v p;grind
    rcases hm f I with rfl|rfl|I
    .exact zBD px x2
    .intro z hz J
     have k1:=zUh (g:=sd (-s) (a,v)) hz (by rw[zFa];show -s*crs a v v<=0;rw[zCQ];grind) (by rw[zFa];show -s*crs a v b<=0;grind)
     have k2:=zDM J px x2
     grind
    .exact hd p x h7 ((ht.add (x1.mono m1)).mono fF) f I
   have:q=0:=oA
   rw[<-this];exact hq
  .right
   obtain⟨q,hq⟩:=(h.own h2).side U
   obtain⟨t,t0,t1,ht⟩:=zGh v b O
   obtain⟨d1,p1,h5⟩:=hq t t0 t1
   obtain⟨m,m0,m1,m2⟩:=qW O p1
   obtain⟨x,x1,x2⟩:=zAo (h.own h2).ne U m0 (zAl (v,b) t)
   have wx:=h5 x (x1.mono m2) x2
   have:wE (eds l) p=wE (eds l) x:=zCf (zBO l) fun f I=>by
    have px:0<(sd (-s) (v,b)).v p:=by rw[zFa];show 0< -s*crs v b p;grind
    rcases hm f I with rfl|rfl|I
    .intro z hz J
     have k1:=zUh (g:=sd (-s) (v,b)) hz (by
      rw[zFa];show -s*crs v b a<=0;have:crs v b a=crs a v b:=by unfold crs;grind
      rw[this];grind) (by rw[zFa];show -s*crs v b v<=0;rw[zCc];grind)
     have k2:=zDM J px x2
     grind
    .exact zBD px x2
    .exact hd p x h7 ((ht.add (x1.mono m1)).mono fF) f I
   have:q=0:=oA
   rw[<-this];exact hq
 rcases(fF:0<crs a v b∨crs a v b<0)with c|c
 .refine .inl ⟨c,?_⟩
  rcases h0 1 (.inl rfl) fF with q|q
  .have:=wU (h.ne h1) (.inr rfl) q (hk _ h1).2;omega
  .have:=wU (h.ne h2) (.inr rfl) q (hk _ h2).2;omega
 .refine .inr ⟨c,?_⟩
  rcases h0 (-1) (.inr rfl) fF with q|q
  .have:=wU (h.ne h1) (.inl rfl) (by rw[show(1:Rat)= - -1 from fF];exact q) (hk _ h1).1;omega
  .have:=wU (h.ne h2) (.inl rfl) (by rw[show(1:Rat)= - -1 from fF];exact q) (hk _ h2).1;omega
theorem zGq(y:Rat):∀(l:List V2) (d:Rat),0<d->∃c:Rat,0<c/\c<=d/\∀v,v∈l->v.2<=y∨y+c<v.2
 | [],d,hd=>⟨d,hd,rI,fun v I=>by cases I⟩
 | a::l,d,hd=>by
  by_cases k:a.2<=y
  .obtain⟨c,O,c1,J⟩:=zGq y l d hd
   exact⟨c,O,c1,fun v I=>by
    rcases xS.1 I with rfl|I
    .exact .inl k
    .exact J v I⟩
  .obtain⟨m,U,m1,m2⟩:=qW hd (show 0<(a.2-y)/2 from fF)
   obtain⟨c,O,c1,J⟩:=zGq y l m U
   exact⟨c,O,fF,fun v I=>by
    rcases xS.1 I with rfl|I
    .exact .inr fF
    .exact J v I⟩
theorem zH5{α:Type}(f:α->Rat):∀(L:List α),L≠ []->∃x,x∈L/\∀y,y∈L->f x<=f y
 | [],h=>absurd rfl h
 | [a],_=>⟨a,fG,fun y I=>by
  obtain rfl:y=a:=by simpa using I
  exact rI⟩
 |a::b::L,_=>by
  obtain⟨x,J,h⟩:=zH5 f (b::L) fC
  by_cases k:f a<=f x
  .exact⟨a,fG,fun y I=>by
    rcases xS.1 I with rfl|I
    .exact rI
    .have:=h y I;grind⟩
  .exact⟨x,.tail _ J,fun y I=>by
    rcases xS.1 I with rfl|I
    .grind
    .exact h y I⟩
theorem zH6{α:Type}(f:α->Rat)(L:List α)(h:L≠ []):∃x,x∈L/\∀y,y∈L->f y<=f x:=by
 obtain⟨x,O,J⟩:=zH5 (fun x=> -f x) L h
 exact⟨x,O,fun y I=>by have:=J y I;grind⟩
theorem zUi{y:Rat}(h:OnE a b z)(I:a.2=y)(hb:b.2=y):z.2=y:=by
 obtain⟨t,_,_,rfl⟩:=h
 simp only
 rw[I,hb];grind
def xat(e:V2×V2)(y:Rat):Rat:=if e.1.2<e.2.2 then ipt e.1 e.2 y else ipt e.2 e.1 y
theorem zX0(h:OnE e.1 e.2 u)(O:(e.1.2<u.2/\u.2<e.2.2)∨(e.2.2<u.2/\u.2<e.1.2)):u.1=xat e u.2:=by
 have I:crs e.1 e.2 u=0:=by obtain⟨t,_,_,rfl⟩:=h;unfold crs;grind
 unfold xat
 rcases O with⟨J,h2⟩|⟨J,h2⟩
 .rw[if_pos fF]
  have:=zIf (show e.1.2<e.2.2 from fF) u
  rw[I]at this
  rcases rH.1 this.symm with k|k<;>grind
 .rw[if_neg fF]
  have:=zIf (show e.2.2<e.1.2 from fF) u
  rw[zDF,I]at this
  rcases rH.1 (show(e.1.2-e.2.2)*(ipt e.2 e.1 u.2-u.1)=0 from fF)with k|k<;>grind
theorem zYV{y:Rat}(J:(e.1.2<y/\y<e.2.2)∨(e.2.2<y/\y<e.1.2)):OnE e.1 e.2 (xat e y,y):=by
 unfold xat
 rcases J with⟨I,h2⟩|⟨I,h2⟩
 .rw[if_pos fF];exact zG6 fF fF fF
 .rw[if_neg fF];exact(zG6 (a:=e.2) (b:=e.1) fF fF fF).symm
theorem zXg(J:e.1.2≠p.2)(I:e.2.2≠p.2):cI e p≠0↔((e.1.2<p.2/\p.2<e.2.2)∨(e.2.2<p.2/\p.2<e.1.2))/\p.1<xat e p.2:=by
 obtain⟨a,b⟩:=e
 simp only at J I ⊢
 unfold xat
 simp only
 by_cases k1:a.2<p.2<;>by_cases k2:b.2<p.2
 .rw[zDj (.inl ⟨rE k1,rE k2⟩)]
  exact⟨fun h=>absurd rfl h,fun h=>by exfalso;rcases h.1 with g|g<;>grind⟩
 .rw[zKz (rE k1) fF,if_pos (fF:a.2<b.2)]
  have:=zDe (show a.2<b.2 from fF) p
  by_cases c:0<crs a b p
  .rw[if_pos c];exact⟨fun _=>⟨.inl ⟨k1,fF⟩,this.1 c⟩,fun _=>fH⟩
  .rw[if_neg c];exact⟨fun h=>absurd rfl h,fun h=>absurd (this.2 h.2) c⟩
 .rw[zKA (rE k2) fF,if_neg (fF: ¬a.2<b.2)]
  have:=zDe (show b.2<a.2 from fF) p
  rw[zDF]at this
  by_cases c:crs a b p<0
  .rw[if_pos c];exact⟨fun _=>⟨.inr ⟨k2,fF⟩,this.1 fF⟩,fun _=>fH⟩
  .rw[if_neg c];exact⟨fun h=>absurd rfl h,fun h=>absurd (this.2 h.2) fF⟩
 .rw[zDj (.inr ⟨fF,fF⟩)]
  exact⟨fun h=>absurd rfl h,fun h=>by exfalso;rcases h.1 with g|g<;>grind⟩
theorem zOh(h:OnE p p z):z=p:=by
 obtain⟨q,_,_,rfl⟩:=h
 exact rF fQ fQ
theorem Sim.off(h:Sim l){k:Int}(hk:∀e,e∈eds l->zCU (eds l) e 1 k/\zCU (eds l) e (-1) (k-1)){p:V2}(hp:∀e,e∈eds l-> ¬OnE e.1 e.2 p):wE (eds l) p=0∨wE (eds l) p=k∨wE (eds l) p=k-1:=by
 obtain⟨d,d0,hd⟩:=nbh (a:=p) (b:=p) (eds l) (fun e I=>h.ne I) (fun e I z hz hJ=>hp e I (by rw[<-zOh hJ];exact hz))
 obtain⟨c,c0,c1,hc⟩:=zGq p.2 l d d0
 obtain⟨q,hq⟩:∃q:V2,q=(p.1,p.2+c):=⟨_,rfl⟩
 have q1:q.1=p.1:=by rw[hq]
 have q2:q.2=p.2+c:=by rw[hq]
 have nq:Nr d p q:=⟨fF,fF,fF,fF⟩
 have U:∀v,v∈l->v.2≠q.2:=fun v U=>by have:=hc v U;grind
 have wq:wE (eds l) p=wE (eds l) q:=zCf (zBO l) (hd p q (.self d0 p) nq)
 have oq:∀e,e∈eds l-> ¬OnE e.1 e.2 q:=fun e I hz=>hd q q nq nq e I q hz (zHW q q)
 rw[wq]
 clear wq
 by_cases hz:∀e,e∈eds l->cI e q=0
 .exact .inl (zMW hz)
 right
 have h9:(eds l).filter (fun e=>decide (cI e q≠0))≠ []:=fun e=>hz fun f O=>by
  apply rC
  intro hn
  have:f∈(eds l).filter (fun e=>decide (cI e q≠0)):=lR.2 ⟨O,by simp[hn]⟩
  rw[e]at this
  cases this
 obtain⟨e,I,h6⟩:=zH5 (fun e=>xat e q.2) _ h9
 obtain⟨I,h0⟩:=lR.1 I
 have h0:cI e q≠0:=by simpa using h0
 have me:=zBj I
 obtain⟨hs,hx⟩:=(zXg (U _ me.1) (U _ me.2)).1 h0
 have hj:=zYV hs
 obtain⟨z,hzz⟩:∃z:V2,z=(xat e q.2,q.2):=⟨_,rfl⟩
 rw[<-hzz]at hj
 have z1:z.1=xat e q.2:=by rw[hzz]
 have z2:z.2=q.2:=by rw[hzz]
 obtain⟨t,t0,t1,zt⟩:=hj
 have hB:z=seg e.1 e.2 t:=zt
 have hg:z≠e.1:=fun k=>U _ me.1 (by rw[<-k];exact z2)
 have hh:z≠e.2:=fun k=>U _ me.2 (by rw[<-k];exact z2)
 have hM:0<t:=by
  apply rC
  intro hn
  have:t=0:=fF
  subst this
  exact hg (by rw[zt];exact rF fQ fQ)
 have hA:t<1:=by
  apply rC
  intro hn
  have:t=1:=fF
  subst this
  exact hh (by rw[zt];exact rF fQ fQ)
 have o:=h.own I
 have ms:∀f,f∈(eds l).erase e->zIu f q z:=by
  intro f O u hu h4
  have h1:=sS O
  have h9:e≠f:=fun k=>by subst k;exact h.nodE.not_mem_erase O
  have mf:=zBj h1
  have u2:u.2=q.2:=zUi h4 rfl z2
  have n1:=U _ mf.1;have n2:=U _ mf.2
  have sp:(f.1.2<u.2/\u.2<f.2.2)∨(f.2.2<u.2/\u.2<f.1.2):=by
   by_cases k1:f.1.2<q.2<;>by_cases k2:f.2.2<q.2
   .have:=zDM (g:=⟨0,-1,q.2⟩) hu (by unfold Aff.v;simp only;grind) (by unfold Aff.v;simp only;grind)
    unfold Aff.v at this;simp only at this;grind
   .exact .inl ⟨fF,fF⟩
   .exact .inr ⟨fF,fF⟩
   .have:=zDM (g:=⟨0,1,-q.2⟩) hu (by unfold Aff.v;simp only;grind) (by unfold Aff.v;simp only;grind)
    unfold Aff.v at this;simp only at this;grind
  have ux:=zX0 hu sp
  have ub:q.1<=u.1/\u.1<=z.1:=by
   have k1:=zGF (g:=⟨1,0,-q.1⟩) h4 (by unfold Aff.v;simp only;grind) (by unfold Aff.v;simp only;grind)
   have k2:=zGF (g:=⟨-1,0,z.1⟩) h4 (by unfold Aff.v;simp only;grind) (by unfold Aff.v;simp only;grind)
   unfold Aff.v at k1 k2;simp only at k1 k2
   exact⟨fF,fF⟩
  have un:u.1≠q.1:=fun k=>oq f h1 (by rw[<-show u=q from rF k u2];exact hu)
  have hL:cI f q≠0:=(zXg n1 n2).2 ⟨by rw[<-u2];exact sp,by rw[<-u2,<-ux];grind⟩
  have:=h6 f (lR.2 ⟨h1,by simp[hL]⟩)
  rw[u2]at ux
  have uz:u=z:=rF fF (u2.trans z2.symm)
  subst uz
  rcases o.only f O u hu ⟨t,t0,t1,zt⟩with k|k
  .exact hg k
  .exact hh k
 obtain⟨d1,p1,hG⟩:=nbh _ o.fne ms
 have h7:∀s:Rat,(s=1∨s= -1)->(∀x:V2,x.2=q.2->x.1<z.1->0<(sd s e).v x)->∀k',zCU (eds l) e s k'->wE (eds l) q=k':=by
  intro s hs J k' hK
  obtain⟨d2,p2,hC⟩:=hK t hM hA
  obtain⟨m,m0,m1,m2⟩:=qW p1 p2
  obtain⟨n,n0,n1,n2⟩:=qW m0 (show 0<(z.1-q.1)/2 from fF)
  have nx:Nr n z (z.1-n,z.2):=⟨fF,fF,fF,fF⟩
  have sx:=J (z.1-n,z.2) z2 (by show z.1-n<z.1;grind)
  have sq:=J q rfl fF
  rw[<-hC (z.1-n,z.2) (by rw[<-hB];exact nx.mono fF) sx]
  refine zCf (zBO l) fun f O=>?_
  rcases o.mem O with rfl|O
  .exact zBD sq sx
  .exact hG q _ (.self p1 q) (nx.mono fF) f O
 rcases hs with⟨g1,g2⟩|⟨g1,g2⟩
 .left
  refine h7 1 (.inl rfl) (fun x x2 x1=>?_) k (hk e I).1
  have:=(zDe (a:=e.1) (b:=e.2) fF x).2 (by rw[x2];unfold xat at z1;rw[if_pos fF]at z1;grind)
  rw[zFa];grind
 .right
  refine h7 (-1) (.inr rfl) (fun x x2 x1=>?_) (k-1) (hk e I).2
  have:=(zDe (a:=e.2) (b:=e.1) fF x).2 (by rw[x2];unfold xat at z1;rw[if_neg fF]at z1;grind)
  rw[zDF]at this
  rw[zFa];grind
theorem zGR(g:Aff)(hg:0<g.a*g.a+g.b*g.b){l:List V2}(hl:l≠ []):∃v,v∈l/\(∀u,u∈l->g.v u<=g.v v)/\∃L:Aff,∀u,u∈l->u≠v->L.v u<L.v v:=by
 obtain⟨w,hw,h0⟩:=zH6 (fun u=>g.v u) l hl
 obtain⟨h,hh⟩:∃h:Aff,h=⟨-g.b,g.a,0⟩:=⟨_,rfl⟩
 have J:l.filter (fun u=>decide (g.v u=g.v w))≠ []:=fun e=>by
  have:w∈l.filter (fun u=>decide (g.v u=g.v w)):=lR.2 ⟨hw,fG⟩
  rw[e]at this
  cases this
 obtain⟨v,hv,h4⟩:=zH6 (fun u=>h.v u) _ J
 obtain⟨h1,I⟩:=lR.1 hv
 have I:g.v v=g.v w:=by simpa using I
 have O:∀u,u∈l->g.v u<=g.v v:=fun u U=>by rw[I];exact h0 u U
 obtain⟨c,c0,hc⟩:=zCv (l.map fun u=>(g.v v-g.v u,h.v v-h.v u))
 refine⟨v,h1,O,⟨g.a+c*h.a,g.b+c*h.b,g.c+c*h.c⟩,fun u U J=>?_⟩
 have lv:∀x:V2,(⟨g.a+c*h.a,g.b+c*h.b,g.c+c*h.c⟩:Aff).v x=g.v x+c*h.v x:=fun x=>by unfold Aff.v;grind
 rw[lv,lv]
 rcases(by have:=O u U;grind:g.v u<g.v v∨g.v u=g.v v)with k|k
 .have:=hc (g.v v-g.v u,h.v v-h.v u) (xH.2 ⟨u,U,rfl⟩) fQ c fF fF
  simp only at this
  grind
 .have k2:=h4 u (lR.2 ⟨U,by simp[k,I]⟩)
  have k3:h.v u≠h.v v:=fun e=>by
   have e1:g.a*(u.1-v.1)+g.b*(u.2-v.2)=0:=by unfold Aff.v at k;grind
   have e2:g.a*(u.2-v.2)-g.b*(u.1-v.1)=0:=by rw[hh]at e;unfold Aff.v at e;simp only at e;grind
   have e3:(g.a*g.a+g.b*g.b)*(u.1-v.1)=0:=by
    have:(g.a*g.a+g.b*g.b)*(u.1-v.1)=g.a*(g.a*(u.1-v.1)+g.b*(u.2-v.2))-g.b*(g.a*(u.2-v.2)-g.b*(u.1-v.1)):=fF
    rw[this,e1,e2];grind
   have e4:(g.a*g.a+g.b*g.b)*(u.2-v.2)=0:=by
    have:(g.a*g.a+g.b*g.b)*(u.2-v.2)=g.b*(g.a*(u.1-v.1)+g.b*(u.2-v.2))+g.a*(g.a*(u.2-v.2)-g.b*(u.1-v.1)):=fF
    rw[this,e1,e2];grind
   refine J (rF ?_ ?_)
   .rcases rH.1 e3 with q|q<;>grind
   .rcases rH.1 e4 with q|q<;>grind
  have:=rB c0 (show 0<h.v v-h.v u from fF)
  grind
theorem Sim.at_corner(h:Sim l){v:V2}(J:v∈l):∃a b,(a,v)∈eds l/\(v,b)∈eds l:=by
 obtain⟨b,c,a,x,y,rfl,e⟩:=zXb h J
 have I:=jQ x y
 rw[e]at I
 exact⟨a,b,I.mem_iff.1 (by rw[zAg];simp),I.mem_iff.1 (by rw[zAg];simp)⟩
theorem Sim.kind(h:Sim l):∃k:Int,(k=0∨k=1)/\∀e,e∈eds l->zCU (eds l) e 1 k/\zCU (eds l) e (-1) (k-1):=by
 obtain⟨k,I⟩:=h.sides
 refine⟨k,?_,I⟩
 obtain⟨v,U,_,L,O⟩:=zGR ⟨1,0,0⟩ fQ (l:=l) (fun e=>by have:=h.three;rw[e]at this;simp at this)
 obtain⟨a,b,J,h2⟩:=h.at_corner U
 rcases h.extreme I L J h2 O with q|q
 .exact .inr q.2
 .exact .inl q.2
structure PO(l:List V2):Prop where
 sim:Sim l
 side:∀e,e∈eds l->zCU (eds l) e 1 1/\zCU (eds l) e (-1) 0
theorem PO.w01(h:PO l){p:V2}(I:∀e,e∈eds l-> ¬OnE e.1 e.2 p):wE (eds l) p=0∨wE (eds l) p=1:=by
 rcases h.sim.off (k:=1) h.side I with q|q|q
 .exact .inl q
 .exact .inr q
 .exact .inl q
theorem zEF(a v b x:V2):crs a v x+crs v b x+crs b a x=crs a v b:=by unfold crs;grind
theorem zLu(h:OnE a b z)(I:OnE z a y):OnE a b y:=by
 obtain⟨t,J,t1,rfl⟩:=h
 obtain⟨r,r0,r1,rfl⟩:=I
 have O:=rD J (show 0<=1-r from fF)
 have m2:=rD (show 0<=1-t from fF) (show 0<=1-r from fF)
 exact⟨t*(1-r),O,fF,rF fQ fQ⟩
theorem zKc(h:OnE a b z)(I:OnE z b y):OnE a b y:=(zLu h.symm I).symm
theorem zAC{v:V2}(I:0<crs a v b)(h0:crs a v y=0)(h1:0<=crs v b y)(h2:0<=crs b a y):OnE a v y:=by
 have hs:=zEF a v b y
 have e:crs b a y/crs a v b*crs a v b=crs b a y:=rJ fF
 generalize crs b a y/crs a v b=t at e
 have q:∀t:Rat,0<=t*crs a v b->0<=t:=fun t h=>by
  apply rC
  intro hn
  have:=rB (show 0< -t from fF) I
  grind
 refine⟨t,q t (by rw[e];exact h2),?_,rF (zDy (D:=crs a v b) fF ?_) (zDy (D:=crs a v b) fF ?_)⟩
 .have:=q (1-t) fF
  grind
 .show y.1*crs a v b=(a.1+(v.1-a.1)*t)*crs a v b
  rw[show(a.1+(v.1-a.1)*t)*crs a v b=a.1*crs a v b+(v.1-a.1)*(t*crs a v b)from fF,e]
  unfold crs at*
  grind
 .show y.2*crs a v b=(a.2+(v.2-a.2)*t)*crs a v b
  rw[show(a.2+(v.2-a.2)*t)*crs a v b=a.2*crs a v b+(v.2-a.2)*(t*crs a v b)from fF,e]
  unfold crs at*
  grind
theorem zWk(f g:Aff){z c:V2}(f0:0<=f.v z)(g0:0<=g.v z)(h:f.v c<0∨g.v c<0):∃y,OnE z c y/\0<=f.v y/\0<=g.v y/\(f.v y=0∨g.v y=0):=by
 have one:∀f g:Aff,0<=f.v z->0<=g.v z->f.v c<0->(0<=g.v c∨f.v z*(g.v z-g.v c)<=g.v z*(f.v z-f.v c))->∃y,OnE z c y/\0<=f.v y/\0<=g.v y/\f.v y=0:=by
  intro f g f0 g0 fc hg
  have hd:0<f.v z-f.v c:=fF
  have e:f.v z/(f.v z-f.v c)*(f.v z-f.v c)=f.v z:=rJ fF
  generalize f.v z/(f.v z-f.v c)=t at e
  have q:∀t:Rat,0<=t*(f.v z-f.v c)->0<=t:=fun t h=>by
   apply rC
   intro hn
   have:=rB (show 0< -t from fF) hd
   grind
  have t0:=q t fF
  have t1:=q (1-t) fF
  have ef:=zAt f z c t
  have eg:=zAt g z c t
  refine⟨seg z c t,zFZ t0 fF,fF,?_,fF⟩
  rw[eg]
  rcases hg with hg|hg
  .have m1:=rD g0 (show 0<=1-t from fF)
   have m2:=rD hg t0
   grind
  .apply q
   have:(g.v z*(1-t)+g.v c*t)*(f.v z-f.v c)=g.v z*(f.v z-f.v c)-(g.v z-g.v c)*(t*(f.v z-f.v c)):=fF
   rw[this,e]
   grind
 by_cases k1:f.v c<0<;>by_cases k2:g.v c<0
 .rcases(rM:f.v z*(g.v z-g.v c)<=g.v z*(f.v z-f.v c)∨g.v z*(f.v z-f.v c)<=f.v z*(g.v z-g.v c))with k|k
  .obtain⟨y,I,O,J,U⟩:=one f g f0 g0 k1 (.inr k)
   exact⟨y,I,O,J,.inl U⟩
  .obtain⟨y,I,O,J,U⟩:=one g f g0 f0 k2 (.inr k)
   exact⟨y,I,J,O,.inr U⟩
 .obtain⟨y,I,O,J,U⟩:=one f g f0 g0 k1 (.inl fF)
  exact⟨y,I,O,J,.inl U⟩
 .obtain⟨y,I,O,J,U⟩:=one g f g0 f0 k2 (.inl fF)
  exact⟨y,I,J,O,.inr U⟩
 .rcases h with h|h<;>grind
theorem zTE{v:V2}(hD:0<crs a v b)(h1:crs a v x=crs a v y)(h2:crs b a x=crs b a y):x=y:=by
 have I:crs a v b≠0:=fF
 refine rF (zDy I ?_) (zDy I ?_)<;>unfold crs at* <;>grind
theorem Sim.exits(h:Sim l){a v b:V2}(h1:(a,v)∈eds l)(h2:(v,b)∈eds l)(hD:0<crs a v b){la:Rat}(h0:0<=la)
  (hc:∀u,u∈l->u≠v->0<=crs a v u->0<=crs v b u->crs b a u<=la){f:V2×V2}(hf:f∈eds l)(n1:f≠(a,v))(n2:f≠(v,b)){z:V2}(hz:OnE f.1 f.2 z)
  (z1:0<=crs a v z)(z2:0<=crs v b z)(z3:la<crs b a z):False:=by
 have U:=h.off_corner h1 h2 hf n1 n2
 have mf:=zBj hf
 have hd:f.1≠v:=fun e=>U (by rw[<-e];exact zHW _ _)
 have ha:f.2≠v:=fun e=>U (by rw[<-e];exact zLy _ _)
 -- an end above the level
 have one:∀c,c∈l->c≠v->(∀y,OnE z c y->OnE f.1 f.2 y)->la<crs b a c->False:=by
  intro c h7 h6 J hcg
  have I:crs a v c<0∨crs v b c<0:=by
   apply rC
   intro hn
   have:=hc c h7 h6 fF fF
   grind
  obtain⟨y,y1,y2,y3,y4⟩:=zWk (lin a v) (lin v b) (z:=z) (c:=c) (by rw[yO];exact z1) (by rw[yO];exact z2) (by rw[yO,yO];exact I)
  rw[yO]at y2 y3
  rw[yO,yO]at y4
  have yg:0<crs b a y:=by
   have:=zDM (g:=zJL (-la) 1 (lin b a)) y1 (by rw[zH9,yO];grind) (by rw[zH9,yO];grind)
   rw[zH9,yO]at this
   grind
  have O:=J y y1
  rcases y4 with k|k
  .have on:=zAC hD k y3 (rE yg)
   rcases h.meet (a,v) f h1 hf (fun e=>n1 e.symm) y on O with q|q
   .exact U (by rw[<-show y=v from q.1];exact O)
   .have:y=a:=q.1
    rw[this,zCQ]at yg
    grind
  .have h9:0<crs v b a:=by
    have:crs v b a=crs a v b:=by unfold crs;grind
    rw[this];exact hD
   have on:OnE v b y:=zAC h9 k (rE yg) y2
   rcases h.meet (v,b) f h2 hf (fun e=>n2 e.symm) y on O with q|q
   .have:y=b:=q.1
    rw[this,zCc]at yg
    grind
   .exact U (by rw[<-show y=v from q.1];exact O)
 by_cases k:la<crs b a f.1
 .exact one f.1 mf.1 hd (fun y hy=>zLu hz hy) k
 .by_cases k':la<crs b a f.2
  .exact one f.2 mf.2 ha (fun y hy=>zKc hz hy) k'
  .have:=zGF (g:=zJL la (-1) (lin b a)) hz (by rw[zH9,yO];grind) (by rw[zH9,yO];grind)
   rw[zH9,yO]at this
   grind
structure EarP(l:List V2)(a v b:V2):Prop where
 i:(a,v)∈eds l
 o:(v,b)∈eds l
 pos:0<crs a v b
 out:∀u,u∈l->u≠a->u≠v->u≠b->crs a v u<0∨crs v b u<0∨crs b a u<0
theorem EarP.level{v:V2}(O:EarP l a v b):∀u,u∈l->u≠v->0<=crs a v u->0<=crs v b u->crs b a u<=0:=fun u I J h1 h2=>by
 by_cases ka:u=a
 .rw[ka,zCQ];grind
 .by_cases kb:u=b
  .rw[kb,zCc];grind
  .rcases O.out u I ka J kb with k|k|k<;>grind
theorem EarP.exits(h:Sim l){a v b:V2}(I:EarP l a v b){f:V2×V2}(J:f∈eds l)(n1:f≠(a,v))(n2:f≠(v,b)){z:V2}(hz:OnE f.1 f.2 z)(z1:0<=crs a v z)(O:0<=crs v b z)(U:0<crs b a z):False:=
 h.exits I.i I.o I.pos (rI) I.level J n1 n2 hz z1 O U
theorem EarP.base(h:Sim l){a v b:V2}(I:EarP l a v b){f:V2×V2}(hf:f∈eds l)(n1:f≠(a,v))(n2:f≠(v,b))(n3:f≠(b,a)){z:V2}(hz:OnE f.1 f.2 z)(hb:OnE a b z):z=a∨z=b:=by
 apply rC
 intro J
 have za:z≠a:=fun e=>J (.inl e)
 have zb:z≠b:=fun e=>J (.inr e)
 have fv:=h.off_corner I.i I.o hf n1 n2
 have mf:=zBj hf
 have h1:f.1≠v:=fun e=>fv (by rw[<-e];exact zHW _ _)
 have h0:f.2≠v:=fun e=>fv (by rw[<-e];exact zLy _ _)
 obtain⟨t,t0,t1,e⟩:=id hb
 have hD:0<t:=by
  apply rC
  intro J
  have:t=0:=fF
  subst this
  exact za (by rw[e];exact rF fQ fQ)
 have t1':t<1:=by
  apply rC
  intro J
  have:t=1:=fF
  subst this
  exact zb (by rw[e];exact rF fQ fQ)
 have hv:∀g:Aff,g.v z=g.v a*(1-t)+g.v b*t:=fun g=>by rw[e];unfold Aff.v;grind
 have A:0<crs a v z:=by
  have:=hv (lin a v)
  rw[yO,yO,yO,zCc]at this
  have:=rB I.pos hD
  grind
 have B:0<crs v b z:=by
  have:=hv (lin v b)
  rw[yO,yO,yO,zCQ]at this
  have e2:crs v b a=crs a v b:=by unfold crs;grind
  have:=rB I.pos (show 0<1-t from fF)
  grind
 have C:crs b a z=0:=by
  have:=hv (lin b a)
  rw[yO,yO,yO,zCc,zCQ]at this
  grind
 have h9:∀u,u∈l->u≠v->z≠u:=fun u hu U k=>by
  subst k
  rcases I.out z hu za U zb with k|k|k<;>grind
 -- no end above the base
 have up:∀c,c∈l->c≠v->(∀y,OnE z c y->OnE f.1 f.2 y)-> ¬0<crs b a c:=by
  intro c hcl hcv hc hp
  obtain⟨d1,p1,hx⟩:=zCn (g:=lin a v) (s:=z) (by rw[yO];exact A)
  obtain⟨d2,p2,hq⟩:=zCn (g:=lin v b) (s:=z) (by rw[yO];exact B)
  obtain⟨m,m0,m1,m2⟩:=qW p1 p2
  obtain⟨r,O,r1,hr⟩:=zGh z c m0
  have y1:=hx _ (hr.mono m1);have y2:=hq _ (hr.mono m2)
  rw[yO]at y1 y2
  have y3:=zAt (lin b a) z c r
  rw[yO,yO,yO,C]at y3
  have:=rB hp O
  exact I.exits h hf n1 n2 (hc _ (zFZ (rE O) (rE r1))) (rE y1) (rE y2) fF
 have u1:=up f.1 mf.1 h1 (fun y hy=>zLu hz hy)
 have u2:=up f.2 mf.2 h0 (fun y hy=>zKc hz hy)
 obtain⟨r,O,r1,er⟩:=id hz
 have hC:0<r:=by
  apply rC
  intro J
  have:r=0:=fF
  subst this
  exact h9 f.1 mf.1 h1 (by rw[er];exact rF fQ fQ)
 have r1':r<1:=by
  apply rC
  intro J
  have:r=1:=fF
  subst this
  exact h9 f.2 mf.2 h0 (by rw[er];exact rF fQ fQ)
 have hr:crs b a z=crs b a f.1*(1-r)+crs b a f.2*r:=by
  have:=zAt (lin b a) f.1 f.2 r
  rw[yO,yO,yO]at this
  rw[<-this,er];rfl
 have m1:=rD (show 0<=-crs b a f.1 from fF) (show 0<=1-r from fF)
 have m2:=rD (show 0<=-crs b a f.2 from fF) (rE hC)
 have f1:crs b a f.1=0:=by
  rcases rH.1 (show crs b a f.1*(1-r)=0 from fF)with k|k<;>grind
 have f2:crs b a f.2=0:=by
  rcases rH.1 (show crs b a f.2*r=0 from fF)with k|k<;>grind
 -- both ends on the base's line, not inside it: the base lies in the edge
 have s1:=zEF a v b f.1;have s2:=zEF a v b f.2
 have hd:∀u,u∈l->u≠v->crs b a u=0->u=a∨u=b∨crs a v u<0∨crs v b u<0:=fun u hu U k=>by
  by_cases ka:u=a
  .exact .inl ka
  .by_cases kb:u=b
   .exact .inr (.inl kb)
   .rcases I.out u hu ka U kb with q|q|q
    .exact .inr (.inr (.inl q))
    .exact .inr (.inr (.inr q))
    .grind
 have w1:crs a v z=crs a v f.1*(1-r)+crs a v f.2*r:=by
  have:=zAt (lin a v) f.1 f.2 r
  rw[yO,yO,yO]at this
  rw[<-this,er];rfl
 -- the place along the base: crs a v is nought at a, the whole at b
 have hj:crs a v f.1<=0∨crs a v b<=crs a v f.1:=by
  rcases hd f.1 mf.1 h1 f1 with q|q|q|q
  .left;rw[q,zCc];grind
  .right;rw[q];grind
  .left;grind
  .right;grind
 have hh:crs a v f.2<=0∨crs a v b<=crs a v f.2:=by
  rcases hd f.2 mf.2 h0 f2 with q|q|q|q
  .left;rw[q,zCc];grind
  .right;rw[q];grind
  .left;grind
  .right;grind
 have zs:crs a v z<crs a v b:=by have:=zEF a v b z;grind
 have hk:=I.pos
 -- a and b lie on the edge
 have on:OnE f.1 f.2 a/\OnE f.1 f.2 b:=by
  have hne:crs a v f.1≠crs a v f.2:=fun k=>by
   rw[<-k]at w1
   grind
  have mk:∀u:V2,crs b a u=0->(crs a v f.1<=crs a v u/\crs a v u<=crs a v f.2∨crs a v f.2<=crs a v u/\crs a v u<=crs a v f.1)->OnE f.1 f.2 u:=by
   intro u hu h7
   have eq:(crs a v u-crs a v f.1)/(crs a v f.2-crs a v f.1)*(crs a v f.2-crs a v f.1)=crs a v u-crs a v f.1:=rJ fF
   generalize(crs a v u-crs a v f.1)/(crs a v f.2-crs a v f.1)=q at eq
   have q0:0<=q:=by
    apply rC
    intro J
    rcases h7 with k|k
    .have:=rB (show 0< -q from fF) (show 0<crs a v f.2-crs a v f.1 from fF);grind
    .have:=rB (show 0< -q from fF) (show 0<crs a v f.1-crs a v f.2 from fF);grind
   have q1:q<=1:=by
    apply rC
    intro J
    rcases h7 with k|k
    .have:=rB (show 0<q-1 from fF) (show 0<crs a v f.2-crs a v f.1 from fF);grind
    .have:=rB (show 0<q-1 from fF) (show 0<crs a v f.1-crs a v f.2 from fF);grind
   have x1:crs a v (seg f.1 f.2 q)=crs a v u:=by
    have:=zAt (lin a v) f.1 f.2 q
    rw[yO,yO,yO]at this
    grind
   have x2:crs b a (seg f.1 f.2 q)=crs b a u:=by
    have:=zAt (lin b a) f.1 f.2 q
    rw[yO,yO,yO]at this
    grind
   have:=zTE hk x1 x2
   rw[<-this]
   exact zFZ q0 q1
  refine⟨mk a (zCQ b a) ?_,mk b (zCc b a) ?_⟩
  .rw[zCc]
   rcases hj with k1|k1<;>rcases hh with k2|k2
   .exfalso
    have m1:=rD (show 0<=-crs a v f.1 from fF) (show 0<=1-r from fF)
    have m2:=rD (show 0<=-crs a v f.2 from fF) O
    grind
   .left;exact⟨k1,fF⟩
   .right;exact⟨k2,fF⟩
   .exfalso
    have m1:=rD (show 0<=crs a v f.1-crs a v b from fF) (show 0<=1-r from fF)
    have m2:=rD (show 0<=crs a v f.2-crs a v b from fF) O
    grind
  .rcases hj with k1|k1<;>rcases hh with k2|k2
   .exfalso
    have m1:=rD (show 0<=-crs a v f.1 from fF) (show 0<=1-r from fF)
    have m2:=rD (show 0<=-crs a v f.2 from fF) O
    grind
   .left;exact⟨fF,k2⟩
   .right;exact⟨fF,k1⟩
   .exfalso
    have m1:=rD (show 0<=crs a v f.1-crs a v b from fF) (show 0<=1-r from fF)
    have m2:=rD (show 0<=crs a v f.2-crs a v b from fF) O
    grind
 have ea:a=f.2:=by
  rcases h.meet (a,v) f I.i hf (fun e=>n1 e.symm) a (zHW a v) on.1 with q|q
  .exact absurd q.1 (h.ne I.i)
  .exact q.2
 have eb:b=f.1:=by
  rcases h.meet (v,b) f I.o hf (fun e=>n2 e.symm) b (zLy v b) on.2 with q|q
  .exact q.2
  .exact absurd q.1.symm (h.ne I.o)
 exact n3 (rF eb.symm ea.symm)
theorem PO.wedge(h:PO l){a v b:V2}(h1:(a,v)∈eds l)(h2:(v,b)∈eds l)(hD:0<crs a v b):∃d:Rat,0<d/\∀x,Nr d v x->0<crs a v x->0<crs v b x->wE (eds l) x=1:=by
 have O:=h.sim
 have fn:∀f,f∈(eds l).filter (fun f=>decide (f≠(a,v))&&decide (f≠(v,b)))->f∈eds l/\f≠(a,v)/\f≠(v,b):=fun f I=>by
  obtain⟨g1,g2⟩:=lR.1 I
  rw[xW,bY,bY]at g2
  exact⟨g1,g2⟩
 obtain⟨d,d0,hd⟩:=nbh (a:=v) (b:=v) ((eds l).filter fun f=>decide (f≠(a,v))&&decide (f≠(v,b))) (fun f I=>O.ne (fn f I).1) (fun f I z hz U=>O.off_corner h1 h2 (fn f I).1 (fn f I).2.1 (fn f I).2.2 (by rw[<-zOh U];exact hz))
 have hm:∀f,f∈eds l->f=(a,v)∨f=(v,b)∨f∈(eds l).filter (fun f=>decide (f≠(a,v))&&decide (f≠(v,b))):=fun f I=>by
  by_cases k1:f=(a,v)
  .exact .inl k1
  .by_cases k2:f=(v,b)
   .exact .inr (.inl k2)
   .exact .inr (.inr (lR.2 ⟨I,by simp[k1,k2]⟩))
 have J:0<d/2:=fF
 obtain⟨t,t0,t1,ht⟩:=zJo a v J
 obtain⟨y,y1,y2,y3,y4⟩:=(h.side _ h1).1.half (O.own h1) (.inl rfl) (lin v b) t0 t1 (.inl (by
  rw[yO]
  have e:crs v b (seg a v t)=(1-t)*crs a v b:=by unfold crs seg;grind
  rw[e];exact rB fF hD)) J
 have ny:Nr d v y:=(ht.add y1).mono fF
 rw[yO]at y3
 refine⟨d,d0,fun x hx x1 x2=>?_⟩
 rw[<-y4]
 have s1:0<(sd 1 (a,v)).v x:=by rw[zFa];show 0<1*crs a v x;grind
 have s2:0<(sd 1 (v,b)).v x:=by rw[zFa];show 0<1*crs v b x;grind
 have s3:0<(sd 1 (v,b)).v y:=by rw[zFa];show 0<1*crs v b y;grind
 refine zCf (zBO l) fun f I=>?_
 rcases hm f I with rfl|rfl|I
 .exact zBD s1 y2
 .exact zBD s2 s3
 .exact hd x y hx ny f I
theorem EarP.inside(h:PO l){a v b:V2}(J:EarP l a v b){w:V2}(hw:∀f,f∈eds l-> ¬OnE f.1 f.2 w)(w1:0<=crs a v w)(w2:0<=crs v b w)(w3:0<=crs b a w):wE (eds l) w=1:=by
 have U:=J.pos
 have A:0<crs a v w:=by
  apply rC
  intro hn
  exact hw _ J.i (zAC U fF w2 w3)
 have B:0<crs v b w:=by
  apply rC
  intro hn
  have h5:0<crs v b a:=by
   have:crs v b a=crs a v b:=by unfold crs;grind
   rw[this];exact U
  exact hw _ J.o (zAC h5 fF w3 w1)
 obtain⟨d,d0,hd⟩:=h.wedge J.i J.o U
 obtain⟨t,t0,t1,ht⟩:=zGh v w d0
 have ev:∀g:Aff,g.v (seg v w t)=g.v v*(1-t)+g.v w*t:=fun g=>zAt g v w t
 have y1:=ev (lin a v);have y2:=ev (lin v b);have y3:=ev (lin b a)
 rw[yO,yO,yO]at y1 y2 y3
 rw[zCQ]at y1
 rw[zCc]at y2
 have e3:crs b a v=crs a v b:=by unfold crs;grind
 have m1:=rB A t0;have m2:=rB B t0
 have m3:=rB U (show 0<1-t from fF)
 have m4:=rD w3 (rE t0)
 have Y1:0<crs a v (seg v w t):=fF
 have Y2:0<crs v b (seg v w t):=fF
 have Y3:0<crs b a (seg v w t):=by
  rw[y3,e3]
  clear hd hw
  grind
 rw[<-hd _ ht Y1 Y2]
 refine zCf (zBO l) fun f hf z O I=>?_
 have z1:=zDM (g:=lin a v) I (by rw[yO];exact A) (by rw[yO];exact Y1)
 have z2:=zDM (g:=lin v b) I (by rw[yO];exact B) (by rw[yO];exact Y2)
 rw[yO]at z1 z2
 by_cases n1:f=(a,v)
 .subst n1
  have:crs a v z=0:=by obtain⟨t,_,_,rfl⟩:=O;unfold crs;grind
  grind
 by_cases n2:f=(v,b)
 .subst n2
  have:crs v b z=0:=by obtain⟨t,_,_,rfl⟩:=O;unfold crs;grind
  grind
 by_cases k:z=w
 .rw[k]at O;exact hw f hf O
 have z3:0<crs b a z:=by
  obtain⟨r,r0,r1,e⟩:=I
  have h7:0<r:=by
   apply rC
   intro hn
   have:r=0:=fF
   subst this
   exact k (by rw[e];exact rF fQ fQ)
  have:crs b a z=crs b a w*(1-r)+crs b a (seg v w t)*r:=by
   have:=zAt (lin b a) w (seg v w t) r
   rw[yO,yO,yO]at this
   rw[<-this,e];rfl
  have:=rB Y3 h7
  have:=rD w3 (show 0<=1-r from fF)
  grind
 exact J.exits h.sim hf n1 n2 O (rE z1) (rE z2) z3
theorem qF(x y:V2)(A:List V2):eds (x::(A++ [y]))=pe (x::(A++ [y]))++ [(y,x)]:=by
 show pe (x::(A++ [y]++ [x]))=_
 have e:x::(A++ [y]++ [x])=(x::A)++ [y,x]:=fG
 rw[e,zGa]
 rfl
theorem zCk(h:e∈pe (x::(A++ [y]))):e.1∈x::A:=by
 have:=zN9 (x::A) y
 rw[<-this]
 exact xH.2 ⟨e,h,rfl⟩
theorem zDv(h:e∈pe (x::(A++ [y]))):e.2∈A++ [y]:=by
 have:=zN8 x (A++ [y])
 rw[<-this]
 exact xH.2 ⟨e,h,rfl⟩
theorem zHt(h:Sim l){x y:V2}{A:List V2}(hA:A≠ [])(hn:(x::(A++ [y])).Nodup)(hE:∀f,f∈pe (x::(A++ [y]))->f∈eds l)(hd:∀f,f∈pe (x::(A++ [y]))->∀w,OnE f.1 f.2 w->OnE y x w->w=x∨w=y):Sim (x::(A++ [y])):=by
 have yA:y ∉ x::A:=fun k=>by
  have e:x::(A++ [y])=(x::A)++ [y]:=rfl
  rw[e,rW]at hn
  exact hn.2.2 y k y fC rfl
 have xA:x ∉ A++ [y]:=(bU.1 hn).1
 have one:∀e,e∈pe (x::(A++ [y]))->∀w,OnE e.1 e.2 w->OnE y x w->(w=e.2/\w=y)∨(w=e.1/\w=x):=by
  intro e I w hw h5
  rcases hd e I w hw h5 with rfl|rfl
  .right
   refine⟨?_,rfl⟩
   cases A with
   |nil=>exact absurd rfl hA
   | cons m A=>
    have ho:((w,m):V2×V2)∈pe (w::(m::A++ [y])):=by simp[pe]
    by_cases k:e=(w,m)
    .rw[k]
    .rcases h.meet e (w,m) (hE e I) (hE _ ho) k w hw (zHW w m)with q|q
     .exact absurd (by rw[q.1];exact zDv I) xA
     .exact q.1
  .left
   refine⟨?_,rfl⟩
   rcases sG A with rfl|⟨A,m,rfl⟩
   .exact absurd rfl hA
   .have ho:((m,w):V2×V2)∈pe (x::(A.concat m++ [w])):=by
     have e1:x::(A.concat m++ [w])=(x::A)++ [m,w]:=fG
     rw[e1,zGa]
     simp
    by_cases k:e=(m,w)
    .rw[k]
    .rcases h.meet e (m,w) (hE e I) (hE _ ho) k w hw (zLy m w)with q|q
     .exact q.1
     .exact absurd (by rw[q.1];exact zCk I) yA
 refine⟨by have:=gF.2 hA;simp;omega,hn,fun e f I J U z hz O=>?_⟩
 rw[qF]at I J
 rcases vW.1 I with I|I<;>rcases vW.1 J with J|J
 .exact h.meet e f (hE e I) (hE f J) U z hz O
 .obtain rfl:f=(y,x):=by simpa using J
  exact one e I z hz O
 .obtain rfl:e=(y,x):=by simpa using I
  rcases one f J z O hz with q|q
  .exact .inr ⟨q.2,q.1⟩
  .exact .inl ⟨q.2,q.1⟩
 .obtain rfl:f=(y,x):=by simpa using J
  obtain rfl:e=(y,x):=by simpa using I
  exact absurd rfl U
theorem zCU.perm{I:List (V2×V2)}(hp:E.Perm I){e:V2×V2}{s:Rat}{k:Int}(h:zCU E e s k):zCU I e s k:=fun t t0 t1=>by
 obtain⟨d,d0,U⟩:=h t t0 t1
 exact⟨d,d0,fun x O J=>by rw[<-zEM hp];exact U x O J⟩
theorem PO.of_perm(h:PO l)(J:l.Perm l')(I:(eds l).Perm (eds l')):PO l':=
 ⟨h.sim.of_perm J I,fun e O=>by have:=h.side e (I.mem_iff.2 O);exact⟨this.1.perm I,this.2.perm I⟩⟩
theorem PO.rot{x y:List V2}(h:PO (x++y)):PO (y++x):=h.of_perm rO (jQ x y).symm
theorem EarP.of_perm{v:V2}(h:EarP l a v b)(J:l.Perm l')(I:(eds l).Perm (eds l')):EarP l' a v b:=
 ⟨I.mem_iff.1 h.i,I.mem_iff.1 h.o,h.pos,fun u O=>h.out u (J.mem_iff.2 O)⟩
theorem zE4(v z:V2)(A B:List V2):eds (v::(A++z::B))=pe (v::(A++ [z]))++pe (z::(B++ [v])):=by
 show pe (v::(A++z::B++ [v]))=_
 have e:v::(A++z::B++ [v])=(v::A)++z::(B++ [v]):=fG
 rw[e,zOa]
 rfl
theorem zE9(E F:List (V2×V2))(p:V2):wE (E++F) p=wE E p+wE F p:=by unfold wE;simp
theorem zVm(v z:V2)(A B:List V2)(p:V2):wE (eds (v::(A++z::B))) p=wE (eds (v::(A++ [z]))) p+wE (eds (z::(B++ [v]))) p:=by
 rw[zE4,qF,qF,zE9,zE9,zE9]
 have:wE [(z,v)] p= -wE [(v,z)] p:=by
  rw[zB3,zB3,zDi v z p]
  unfold wE
  simp
 omega
def zPU(l:List V2)(v z:V2):Prop:=∀f,f∈eds l->∀w,OnE f.1 f.2 w->OnE v z w->w=v∨w=z
theorem zOu{v:V2}{B:List V2}(h:(v::(A++z::B)).Nodup):(v::(A++ [z])).Nodup/\(z::(B++ [v])).Nodup/\v≠z:=by
 simp only[bU,rW,vW,xS,rL,rK,not_or,List.nodup_nil,sO,nP]at h ⊢
 obtain⟨⟨U,h2,h3⟩,O,⟨h5,h6⟩,h7⟩:=h
 exact⟨⟨⟨U,h2⟩,O,trivial,fun x I y J=>h7 x I y (.inl J)⟩,⟨⟨h5,fun e=>h2 e.symm⟩,h6,trivial,fun x I y J e=>h3 (by rw[<-J,<-e];exact I)⟩,h2⟩
theorem PO.split{v:V2}{B:List V2}(h:PO (v::(A++z::B)))(hA:A≠ [])(hB:B≠ [])(hd:zPU (v::(A++z::B)) v z){a b:V2}(h1:(a,v)∈eds (v::(A++z::B)))(h2:(v,b)∈eds (v::(A++z::B)))(hD:0<crs a v b)(z1:0<crs a v z)(z2:0<crs v b z):
  PO (v::(A++ [z]))/\PO (z::(B++ [v])):=by
 have hs:=h.sim
 obtain⟨n1,n2,h5⟩:=zOu hs.nod
 have m1:∀f,f∈pe (v::(A++ [z]))->f∈eds (v::(A++z::B)):=fun f I=>by rw[zE4];exact vW.2 (.inl I)
 have m2:∀f,f∈pe (z::(B++ [v]))->f∈eds (v::(A++z::B)):=fun f I=>by rw[zE4];exact vW.2 (.inr I)
 have s1:Sim (v::(A++ [z])):=zHt hs hA n1 m1 fun f I w U O=>hd f (m1 f I) w U O.symm
 have s2:Sim (z::(B++ [v])):=zHt hs hB n2 m2 fun f I w U O=>(hd f (m2 f I) w U O).symm
 have J:(0:Rat)<1/2/\(1/2:Rat)<1:=by constructor<;>grind
 have h4:∀r:Rat,0<r->r<1->∀f,f∈eds (v::(A++z::B))-> ¬OnE f.1 f.2 (seg v z r):=fun r r0 r1 f I U=>by
  have:=zIO h5 r0 r1
  rcases hd f I _ U (zFZ (rE r0) (rE r1))with k|k
  .exact this.1 k
  .exact this.2 k
 -- inside, on the diagonal
 have wm:wE (eds (v::(A++z::B))) (seg v z (1/2))=1:=by
  obtain⟨d,d0,U⟩:=h.wedge h1 h2 hD
  obtain⟨t,t0,t1,ht⟩:=zGh v z d0
  have y1:=zAt (lin a v) v z t;have y2:=zAt (lin v b) v z t
  rw[yO,yO,yO,zCQ]at y1
  rw[yO,yO,yO,zCc]at y2
  have k1:=rB z1 t0;have k2:=rB z2 t0
  rw[<-U _ ht fF fF]
  refine zCf (zBO _) fun f I u hu h0=>?_
  obtain⟨r,r0,r1,rfl⟩:=zNq J ⟨t0,t1⟩ h0
  exact h4 r r0 r1 f I hu
 obtain⟨k1,e1,S1⟩:=s1.kind
 obtain⟨k2,e2,S2⟩:=s2.kind
 have i1:((z,v):V2×V2)∈eds (v::(A++ [z])):=by rw[qF];simp
 have i2:((v,z):V2×V2)∈eds (z::(B++ [v])):=by rw[qF];simp
 obtain⟨d1,p1,hj⟩:=(S1 _ i1).1 (1/2) J.1 J.2
 obtain⟨d2,p2,ha⟩:=(S2 _ i2).2 (1/2) J.1 J.2
 obtain⟨d3,p3,he⟩:=nbh (a:=seg v z (1/2)) (b:=seg v z (1/2)) _ (fun f I=>hs.ne I) (fun f I u hu h0=>h4 (1/2) J.1 J.2 f I (by rw[<-zOh h0];exact hu))
 obtain⟨m,m0,m11,m12⟩:=qW p1 p2
 obtain⟨n,n0,n11,h9⟩:=qW m0 p3
 have sb:seg z v (1/2)=seg v z (1/2):=by rw[zHy z v];rw[show(1:Rat)-1/2=1/2 from fF]
 obtain⟨q,q1,q2⟩:=zAo (e:=(z,v)) (fun k=>h5 k.symm) (s:=1) (.inl rfl) n0 (m:=seg v z (1/2)) (by rw[<-sb];exact zAl (z,v) (1/2))
 have a1:=hj q (by show Nr d1 (seg z v (1/2)) q;rw[sb];exact q1.mono fF) q2
 have a2:=ha q (q1.mono fF) (by
  rw[zFa]at q2 ⊢;show 0< -1*crs v z q;have:0<1*crs z v q:=q2
  rw[zDF]at this;grind)
 have a3:wE (eds (v::(A++z::B))) (seg v z (1/2))=wE (eds (v::(A++z::B))) q:=zCf (zBO _) (he _ q (.self p3 _) (q1.mono h9))
 have a4:=zVm v z A B q
 have b1:k1=1:=oA
 have b2:k2=1:=oA
 subst b1 b2
 exact⟨⟨s1,S1⟩,s2,S2⟩
theorem zPi{v:V2}{B:List V2}(h:PO (v::(A++z::B)))(h1:PO (v::(A++ [z])))(h2:PO (z::(B++ [v])))(hd:zPU (v::(A++z::B)) v z){a u b:V2}(O:EarP (z::(B++ [v])) a u b)(uv:u≠v)(uz:u≠z):EarP (v::(A++z::B)) a u b/\u∈B:=by
 have U:=h.sim
 have hn:=U.nod
 have m2:∀f,f∈pe (z::(B++ [v]))->f∈eds (v::(A++z::B)):=fun f I=>by rw[zE4];exact vW.2 (.inr I)
 have hi:(a,u)∈pe (z::(B++ [v])):=by
  have:=O.i
  rw[qF]at this
  rcases vW.1 this with k|k
  .exact k
  .have:((a,u):V2×V2)=(v,z):=by simpa using k
   exact absurd (vR Prod.snd this) uz
 have ho:(u,b)∈pe (z::(B++ [v])):=by
  have:=O.o
  rw[qF]at this
  rcases vW.1 this with k|k
  .exact k
  .have:((u,b):V2×V2)=(v,z):=by simpa using k
   exact absurd (vR Prod.fst this) uv
 have uB:u∈B:=by
  rcases vW.1 (zDv hi)with k|k
  .exact k
  .exact absurd (by simpa using k) uv
 refine⟨⟨m2 _ hi,m2 _ ho,O.pos,fun w hw wa wu wb=>?_⟩,uB⟩
 by_cases hw2:w∈z::(B++ [v])
 .exact O.out w hw2 wa wu wb
 have wv:w≠v:=fun e=>hw2 (by rw[e];simp)
 have wz:w≠z:=fun e=>hw2 (by rw[e];simp)
 have wB:w ∉ B:=fun e=>hw2 (by simp[e])
 apply rC
 intro hno
 obtain⟨_,c,_,J⟩:=U.at_corner hw
 have hc:(w,c)∈pe (v::(A++ [z])):=by
  rw[zE4]at J
  rcases vW.1 J with k|k
  .exact k
  .rcases xS.1 (zCk k)with q|q
   .exact absurd q wz
   .exact absurd q wB
 have off:∀f,f∈eds (z::(B++ [v]))-> ¬OnE f.1 f.2 w:=by
  intro f I hz
  rw[qF]at I
  rcases vW.1 I with I|I
  .have n1:f≠(w,c):=fun k=>by
    have:=zCk I
    rw[k]at this
    rcases xS.1 this with q|q
    .exact wz q
    .exact wB q
   rcases U.meet f (w,c) (m2 f I) J n1 w hz (zHW w c)with q|q
   .have:=zDv I
    rw[<-q.1]at this
    rcases vW.1 this with k|k
    .exact wB k
    .exact wv (by simpa using k)
   .have:=zCk I
    rw[<-q.1]at this
    rcases xS.1 this with k|k
    .exact wz k
    .exact wB k
  .obtain rfl:f=(v,z):=by simpa using I
   rcases hd (w,c) J w (zHW w c) hz with k|k
   .exact wv k
   .exact wz k
 have w1:wE (eds (z::(B++ [v]))) w=1:=O.inside h2 off fF fF fF
 obtain⟨d,d0,h7⟩:=nbh (a:=w) (b:=w) _ (fun f I=>h2.sim.ne I) (fun f I u hu h8=>off f I (by rw[<-zOh h8];exact hu))
 have d2:0<d/2:=fF
 obtain⟨t,t0,t1,ht⟩:=zGh w c d2
 obtain⟨d3,p3,h5⟩:=(h.side _ J).1 t t0 t1
 obtain⟨d4,p4,ha⟩:=(h1.side (w,c) (by rw[qF];exact vW.2 (.inl hc))).1 t t0 t1
 obtain⟨m,m0,m11,m12⟩:=qW d2 p3
 obtain⟨n,n0,n11,n12⟩:=qW m0 p4
 obtain⟨q,q1,q2⟩:=zAo (U.ne J) (s:=1) (.inl rfl) n0 (zAl (w,c) t)
 have a1:=h5 q (q1.mono fF) q2
 have a2:=ha q (q1.mono fF) q2
 have a3:=zVm v z A B q
 have a4:wE (eds (z::(B++ [v]))) w=wE (eds (z::(B++ [v]))) q:=zCf (zBO _) (h7 w q (.self d0 w) ((ht.add q1).mono fF))
 omega
theorem zPU.symm{v:V2}(h:zPU l v z):zPU l z v:=fun f J w O I=>(h f J w O I.symm).symm
theorem zPU.of_perm{v:V2}(h:zPU l v z)(J:(eds l).Perm (eds l')):zPU l' v z:=fun f I=>h f (J.mem_iff.2 I)
theorem zG9:∀(n:Nat) (l:List V2),l.length<=n->PO l->∀e,e∈eds l->∃a v b,v≠e.1/\v≠e.2/\EarP l a v b
 |0,l,U,h,e,he=>by have:=h.sim.three;omega
 | n+1,l,U,h,e,he=>by
  have hs:=h.sim
  have hr:=hs.ne he
  have hD0:=zIm hr
  -- some zJG lies left of the edge
  have ha:∃u,u∈l/\0<crs e.1 e.2 u:=by
   apply rC
   intro hh
   have hh:∀u,u∈l->crs e.1 e.2 u<=0:=fun u O=>by
    apply rC
    intro U
    exact hh ⟨u,O,fF⟩
   obtain⟨d,d0,hd⟩:=(h.side e he).1 (1/2) fF fF
   obtain⟨q,q1,q2⟩:=zAo hr (s:=1) (.inl rfl) d0 (zAl e (1/2))
   have w1:=hd q q1 q2
   rw[zFa]at q2
   have:=zGz (lin e.1 e.2) (l:=l) (p:=q) (fun u O=>by rw[yO,yO];have:=hh u O;grind)
   omega
  obtain⟨v,hv,hJ,L,hL⟩:=zGR (lin e.1 e.2) (by unfold lin;simp only;grind) (l:=l) (fun k=>by rw[k]at he;simp[eds]at he)
  have hG:0<crs e.1 e.2 v:=by
   obtain⟨u,O,hu'⟩:=ha
   have:=hJ u O
   rw[yO,yO]at this
   grind
  have qa:v≠e.1:=fun k=>by rw[k,zCc]at hG;grind
  have hY:v≠e.2:=fun k=>by rw[k,zCQ]at hG;grind
  obtain⟨a,b,h1,h2⟩:=hs.at_corner hv
  have hD:0<crs a v b:=by
   rcases hs.extreme (k:=1) h.side L h1 h2 hL with q|q
   .exact q.1
   .exact absurd q.2 fH
  by_cases hear:∀u,u∈l->u≠a->u≠v->u≠b->crs a v u<0∨crs v b u<0∨crs b a u<0
  .exact⟨a,v,b,qa,hY,h1,h2,hD,hear⟩
  -- the zJG in the triangle that is farthest from the base
  have hZ:l.filter (fun u=>decide (u≠a/\u≠v/\u≠b/\0<=crs a v u/\0<=crs v b u/\0<=crs b a u))≠ []:=fun k=>hear fun u O ua uv ub=>by
   apply rC
   intro U
   have:u∈l.filter (fun u=>decide (u≠a/\u≠v/\u≠b/\0<=crs a v u/\0<=crs v b u/\0<=crs b a u)):=lR.2 ⟨O,lH ⟨ua,uv,ub,fF,fF,fF⟩⟩
   rw[k]at this
   cases this
  obtain⟨z,hz,hW⟩:=zH6 (fun u=>crs b a u) _ hZ
  obtain⟨hK,hS⟩:=lR.1 hz
  obtain⟨za,zv,zb,z1,z2,z3⟩:=xX hS
  obtain⟨_,c,_,hg⟩:=hs.at_corner hK
  have hk:0<crs a v z:=by
   apply rC
   intro U
   have on:=zAC hD fF z2 z3
   rcases hs.meet (a,v) (z,c) h1 hg (fun k=>za (vR Prod.fst k).symm) z on (zHW z c)with q|q
   .exact zv q.1
   .exact za q.1
  have hE:0<crs v b z:=by
   apply rC
   intro U
   have q5:0<crs v b a:=by
    have:crs v b a=crs a v b:=by unfold crs;grind
    rw[this];exact hD
   have on:=zAC q5 fF z3 z1
   rcases hs.meet (v,b) (z,c) h2 hg (fun k=>zv (vR Prod.fst k).symm) z on (zHW z c)with q|q
   .exact zb q.1
   .exact zv q.1
  have hV:∀u,u∈l->u≠v->0<=crs a v u->0<=crs v b u->crs b a u<=crs b a z:=fun u O uv u1 u2=>by
   by_cases ua:u=a
   .rw[ua,zCQ];exact z3
   .by_cases ub:u=b
    .rw[ub,zCc];exact z3
    .by_cases u3:0<=crs b a u
     .exact hW u (lR.2 ⟨O,lH ⟨ua,uv,ub,u1,u2,u3⟩⟩)
     .grind
  have hR:zPU l v z:=by
   intro f hf w hw hX
   apply rC
   intro U
   have wv:w≠v:=fun k=>U (.inl k)
   obtain⟨r,r0,r1,er⟩:=id hX
   have hq:0<r:=by
    apply rC
    intro U
    have:r=0:=fF
    subst this
    exact wv (by rw[er];exact rF fQ fQ)
   have r1':r<1:=by
    apply rC
    intro hn'
    have:r=1:=fF
    subst this
    exact U (.inr (by rw[er];exact rF fQ fQ))
   have es:w=seg v z r:=er
   have y1:=zAt (lin a v) v z r;have y2:=zAt (lin v b) v z r;have y3:=zAt (lin b a) v z r
   rw[<-es,yO,yO,yO]at y1 y2 y3
   rw[zCQ]at y1
   rw[zCc]at y2
   have e3:crs b a v=crs a v b:=by unfold crs;grind
   rw[e3]at y3
   have k1:=rB hk hq;have k2:=rB hE hq
   have zs:=zEF a v b z
   have k3:=rB (show 0<crs a v b-crs b a z from fF) (show 0<1-r from fF)
   by_cases n1:f=(a,v)
   .subst n1
    have:crs a v w=0:=by obtain⟨t,_,_,rfl⟩:=hw;unfold crs;grind
    grind
   by_cases n2:f=(v,b)
   .subst n2
    have:crs v b w=0:=by obtain⟨t,_,_,rfl⟩:=hw;unfold crs;grind
    grind
   exact hs.exits h1 h2 hD z3 hV hf n1 n2 hw fF fF fF
  -- turned so that the zJG is first
  obtain⟨X,Y,rfl⟩:=sP hv
  have hp:=jQ X (v::Y)
  have hc:(X++v::Y).Perm (v::(Y++X)):=rO
  have h':PO (v::(Y++X)):=h.rot
  have zm:z∈Y++X:=by
   rcases xS.1 (hc.mem_iff.1 hK)with k|k
   .exact absurd k zv
   .exact k
  have h0:=hp.mem_iff.2 h1
  have h5:=hp.mem_iff.2 h2
  have h4:=hp.mem_iff.2 he
  have J:zPU (v::(Y++X)) v z:=hR.of_perm hp.symm
  have h6:(v::(Y++X)).length<=n+1:=by rw[<-hc.length_eq];exact U
  have back:∀{a v' b:V2},EarP (v::(Y++X)) a v' b->EarP (X++v::Y) a v' b:=fun k=>k.of_perm hc.symm hp
  simp only[mM]at h0 h5 h4
  obtain⟨A,B,hm⟩:=sP zm
  rw[hm]at h' h0 h5 h4 J h6 back
  have hA:A≠ []:=fun k=>by
   subst k
   have:((v,z):V2×V2)∈eds (v::([]++z::B)):=by
    show(v,z)∈pe (v::(z::B++ [v]))
    simp[pe]
   exact zb (vR Prod.snd (h'.sim.fst this h5 rfl))
  have hB:B≠ []:=fun k=>by
   subst k
   have:((z,v):V2×V2)∈eds (v::(A++ [z])):=by rw[qF];simp
   exact za (vR Prod.fst (h'.sim.snd this h0 rfl))
  obtain⟨P1,P2⟩:=h'.split hA hB J h0 h5 hD hk hE
  have I:=h'.sim.nod
  have lA:=gF.2 hA
  have lB:=gF.2 hB
  simp only[lU,uG]at h6
  rw[zE4]at h4
  rcases vW.1 h4 with k|k
  .obtain⟨a',u,b',u1,u2,O⟩:=zG9 n (z::(B++ [v])) fM P2 (v,z) (by rw[qF];simp)
   obtain⟨g1,g2⟩:=zPi h' P1 P2 J O u1 u2
   refine⟨a',u,b',fun q=>?_,fun q=>?_,back g1⟩
   .have:=zCk k
    rw[<-q]at this
    simp only[bU,rW,vW,xS]at I
    rcases xS.1 this with r|r
    .exact u1 r
    .exact I.2.2.2 u r u (.inr g2) rfl
   .have:=zDv k
    rw[<-q]at this
    simp only[bU,rW,vW,xS]at I
    rcases vW.1 this with r|r
    .exact I.2.2.2 u r u (.inr g2) rfl
    .exact u2 (by simpa using r)
  .have hx:=jQ (v::A) (z::B)
   have hI:(v::(A++z::B)).Perm (z::(B++v::A)):=rO (l₁:=v::A) (l₂:=z::B)
   have hU:PO (z::(B++v::A)):=PO.rot (x:=v::A) (y:=z::B) h'
   obtain⟨a',u,b',u1,u2,O⟩:=zG9 n (v::(A++ [z])) fM P1 (z,v) (by rw[qF];simp)
   obtain⟨g1,g2⟩:=zPi hU P2 P1 (J.symm.of_perm hx.symm) O u1 u2
   refine⟨a',u,b',fun q=>?_,fun q=>?_,back (g1.of_perm hI.symm hx)⟩
   .have:=zCk k
    rw[<-q]at this
    simp only[bU,rW,vW,xS]at I
    rcases xS.1 this with r|r
    .exact u1 r
    .exact I.2.2.2 u g2 u (.inr r) rfl
   .have:=zDv k
    rw[<-q]at this
    simp only[bU,rW,vW,xS]at I
    rcases vW.1 this with r|r
    .exact I.2.2.2 u g2 u (.inr r) rfl
    .exact u2 (by simpa using r)
theorem jN{v:V2}:((a,v):V2×V2)∈eds (v::b::(c++ [a]))/\((v,b):V2×V2)∈eds (v::b::(c++ [a])):=by
 rw[zAg]
 exact⟨fG,fG⟩
theorem zAz{v:V2}(h:(v::b::(c++ [a])).Nodup){f:V2×V2}(I:f∈pe (b::(c++ [a]))):f∈eds (v::b::(c++ [a]))/\f≠(a,v)/\f≠(v,b):=by
 refine⟨by rw[zAg];simp[I],fun k=>?_,fun k=>?_⟩
 .have:=zDv I
  rw[k]at this
  simp only[bU,xS]at h
  exact h.1 (.inr this)
 .have:=zCk I
  rw[k]at this
  simp only[bU,xS,vW]at h
  rcases xS.1 this with q|q
  .exact h.1 (.inl q)
  .exact h.1 (.inr (.inl q))
theorem zOc{v:V2}(I:(v::b::(c++ [a])).Nodup)(O:c≠ []){f:V2×V2}(J:f∈pe (b::(c++ [a]))):f≠(b,a):=fun k=>by
 cases c with
 |nil=>exact O rfl
 | cons m c=>
  rw[k]at J
  rcases xS.1 (show((b,a):V2×V2)∈(b,m)::pe (m::(c++ [a]))from J)with q|q
  .have e:a=m:=vR Prod.snd q
   subst e
   simp at I
  .have:=zCk (x:=m) q
   simp only[bU,xS,vW,mM]at I
   rcases xS.1 this with r|r
   .exact I.2.1 (.inl r)
   .exact I.2.1 (.inr (.inl r))
theorem zUv(h:OnE x y p){d:Rat}(I:0<d):∃t:Rat,0<t/\t<1/\Nr d p (seg x y t):=by
 obtain⟨r,r0,r1,e⟩:=h
 by_cases k:r=0
 .have:p=x:=by subst k;rw[e];exact rF fQ fQ
  rw[this];exact zGh x y I
 .by_cases k':r=1
  .have:p=y:=by subst k';rw[e];exact rF fQ fQ
   rw[this];exact zJo x y I
  .exact⟨r,fF,fF,by rw[show seg x y r=p from e.symm];exact .self I p⟩
theorem PO.cut{v:V2}(h:PO (v::b::(c++ [a])))(hc:c≠ [])(O:EarP (v::b::(c++ [a])) a v b):
  PO (b::(c++ [a]))/\∀p,wE (eds (v::b::(c++ [a]))) p=wE (eds (b::(c++ [a]))) p+wE (zCV a v b) p:=by
 have J:=h.sim
 have hn:=J.nod
 have hw:∀p,wE (eds (v::b::(c++ [a]))) p=wE (eds (b::(c++ [a]))) p+wE (zCV a v b) p:=fun p=>by
  rw[zAg,qF,zB3,zE9,zE9]
  unfold wE zCV
  simp only[xY,bP,nG,nN]
  rw[zDi a b p]
  omega
 have n3:∀f,f∈pe (b::(c++ [a]))->f≠(b,a):=fun f U k=>zOc hn hc U k
 have s':Sim (b::(c++ [a])):=zHt J hc (bU.1 hn).2 (fun f U=>(zAz hn U).1) fun f U w hw hy=>
  (O.base J (zAz hn U).1 (zAz hn U).2.1 (zAz hn U).2.2 (n3 f U) hw hy).symm
 refine⟨?_,hw⟩
 obtain⟨k,_,hk⟩:=s'.kind
 -- an edge that is kept
 obtain⟨m,hm⟩:∃m,(b,m)∈pe (b::(c++ [a])):=by
  cases c with
  |nil=>exact absurd rfl hc
  |cons m c=>exact⟨m,by simp[pe]⟩
 obtain⟨g1,g2,g3⟩:=zAz hn hm
 have hh:(0:Rat)<1/2/\(1/2:Rat)<1:=by constructor<;>grind
 have hg:=zIO (J.ne g1) hh.1 hh.2
 have h1:OnE b m (seg b m (1/2)):=zFZ (rE hh.1) (rE hh.2)
 have hj:crs v b (seg b m (1/2))<0∨crs b a (seg b m (1/2))<0∨crs a v (seg b m (1/2))<0:=by
  apply rC
  intro hno
  have q1:0<=crs a v (seg b m (1/2)):=fF
  have q2:0<=crs v b (seg b m (1/2)):=fF
  by_cases q3:0<crs b a (seg b m (1/2))
  .exact O.exits J g1 g2 g3 h1 q1 q2 q3
  .have hz:0<crs b a v:=by
    have:crs b a v=crs a v b:=by unfold crs;grind
    rw[this];exact O.pos
   have on:=zAC hz (y:=seg b m (1/2)) fF q1 q2
   rcases O.base J g1 g2 g3 (n3 _ hm) h1 on.symm with k|k
   .rcases J.meet (a,v) (b,m) O.i g1 (fun e=>g2 e.symm) a (zHW a v) (by rw[<-k];exact h1)with r|r
    .exact J.ne O.i r.1
    .exact hg.2 (k.trans r.2)
   .exact hg.1 k
 obtain⟨d1,p1,hd1⟩:∃d:Rat,0<d/\∀x,Nr d (seg b m (1/2)) x->wE (zCV a v b) x=0:=by
  have I:∀x y:V2,crs x y (seg b m (1/2))<0->∃d:Rat,0<d/\∀q,Nr d (seg b m (1/2)) q->crs x y q<0:=fun x y hx=>by
   obtain⟨d,d0,hd⟩:=zCn (g:=zJL 0 (-1) (lin x y)) (s:=seg b m (1/2)) (by rw[zH9,yO];grind)
   exact⟨d,d0,fun q hq=>by have:=hd q hq;rw[zH9,yO]at this;grind⟩
  rcases hj with k|k|k
  .obtain⟨d,d0,hd⟩:=I v b k
   exact⟨d,d0,fun x hx=>(zID O.pos x).2 (.inl (hd x hx))⟩
  .obtain⟨d,d0,hd⟩:=I b a k
   exact⟨d,d0,fun x hx=>(zID O.pos x).2 (.inr (.inl (hd x hx)))⟩
  .obtain⟨d,d0,hd⟩:=I a v k
   exact⟨d,d0,fun x hx=>(zID O.pos x).2 (.inr (.inr (hd x hx)))⟩
 obtain⟨d2,p2,ho⟩:=(h.side _ g1).1 (1/2) hh.1 hh.2
 obtain⟨d3,p3,hr⟩:=(hk (b,m) (by rw[qF];exact vW.2 (.inl hm))).1 (1/2) hh.1 hh.2
 obtain⟨u,u0,u1,u2⟩:=qW p1 p2
 obtain⟨w,w0,w1,w2⟩:=qW u0 p3
 obtain⟨q,q1,q2⟩:=zAo (J.ne g1) (s:=1) (.inl rfl) w0 (zAl (b,m) (1/2))
 have a1:=hd1 q (q1.mono fF)
 have a2:=ho q (q1.mono fF) q2
 have a3:=hr q (q1.mono fF) q2
 have a4:=hw q
 have:k=1:=oA
 subst this
 exact⟨s',hk⟩
theorem zIN{v:V2}(O:0<t)(t1:t<1)(U:v=seg a b t)(hw:OnE a b w):OnE a v w∨OnE v b w:=by
 obtain⟨r,r0,r1,rfl⟩:=hw
 have v1:v.1=a.1+(b.1-a.1)*t:=by rw[U];rfl
 have v2:v.2=a.2+(b.2-a.2)*t:=by rw[U];rfl
 by_cases k:r<=t
 .left
  have e:r/t*t=r:=rJ fF
  generalize r/t=q at e
  refine⟨q,?_,?_,rF ?_ ?_⟩
  .apply rC;intro I
   have:=rB (show 0< -q from fF) O;grind
  .apply rC;intro I
   have:=rB (show 0<q-1 from fF) O;grind
  .show a.1+(b.1-a.1)*r=a.1+(v.1-a.1)*q;rw[v1,<-e];grind
  .show a.2+(b.2-a.2)*r=a.2+(v.2-a.2)*q;rw[v2,<-e];grind
 .right
  have e:(r-t)/(1-t)*(1-t)=r-t:=rJ fF
  generalize(r-t)/(1-t)=q at e
  have J:r=t+q*(1-t):=fF
  refine⟨q,?_,?_,rF ?_ ?_⟩
  .apply rC;intro I
   have:=rB (show 0< -q from fF) (show 0<1-t from fF);grind
  .apply rC;intro I
   have:=rB (show 0<q-1 from fF) (show 0<1-t from fF);grind
  .show a.1+(b.1-a.1)*r=v.1+(b.1-v.1)*q;rw[v1,J];grind
  .show a.2+(b.2-a.2)*r=v.2+(b.2-v.2)*q;rw[v2,J];grind
theorem zK6{v:V2}(U:0<t)(J:t<1)(O:v=seg a b t)(I:OnE a v w∨OnE v b w):OnE a b w:=by
 have on:OnE a b v:=by rw[O];exact zFZ (rE U) (rE J)
 rcases I with I|I
 .exact zLu on I.symm
 .exact zKc on I
theorem PO.flat{v:V2}(h:PO (v::b::(c++ [a])))(hc:c≠ [])(h0:crs a v b=0):
  PO (b::(c++ [a]))/\(∀p,wE (eds (v::b::(c++ [a]))) p=wE (eds (b::(c++ [a]))) p)/\∀p,(∃e,e∈eds (v::b::(c++ [a]))/\OnE e.1 e.2 p)↔ ∃e,e∈eds (b::(c++ [a]))/\OnE e.1 e.2 p:=by
 have J:=h.sim
 have hn:=J.nod
 have h1:((a,v):V2×V2)∈eds (v::b::(c++ [a])):=jN.1
 have h2:((v,b):V2×V2)∈eds (v::b::(c++ [a])):=jN.2
 obtain⟨t,t0,t1,hv⟩:=J.turns h1 h2 h0
 have O:∀p,wE (eds (v::b::(c++ [a]))) p=wE (eds (b::(c++ [a]))) p:=fun p=>by
  rw[zAg,qF,zB3,zE9,zE9]
  unfold wE
  simp only[xY,bP,nG,nN]
  rw[zUW t0 t1 hv p]
  omega
 have s':Sim (b::(c++ [a])):=zHt J hc (bU.1 hn).2 (fun f hf=>(zAz hn hf).1) fun f hf w O hg=>by
  obtain⟨g1,g2,g3⟩:=zAz hn hf
  have fv:=J.off_corner h1 h2 g1 g2 g3
  rcases zIN t0 t1 hv hg with k|k
  .rcases J.meet (a,v) f h1 g1 (fun e=>g2 e.symm) w k O with q|q
   .exact absurd (by rw[<-show w=v from q.1];exact O) fv
   .exact .inr q.1
  .rcases J.meet (v,b) f h2 g1 (fun e=>g3 e.symm) w k O with q|q
   .exact .inl q.1
   .exact absurd (by rw[<-show w=v from q.1];exact O) fv
 refine⟨?_,O,fun p=>?_⟩
 .obtain⟨k,_,hk⟩:=s'.kind
  obtain⟨m,hm⟩:∃m,(b,m)∈pe (b::(c++ [a])):=by
   cases c with
   |nil=>exact absurd rfl hc
   |cons m c=>exact⟨m,by simp[pe]⟩
  have g1:=(zAz hn hm).1
  have hh:=(hk (b,m) (by rw[qF];exact vW.2 (.inl hm))).1
  have:zCU (eds (b::(c++ [a]))) (b,m) 1 1:=fun r r0 r1=>by
   obtain⟨d,d0,hd⟩:=(h.side _ g1).1 r r0 r1
   exact⟨d,d0,fun x hx kx=>by rw[<-O];exact hd x hx kx⟩
  have e:=wU (J.ne g1) (.inl rfl) hh this
  subst e
  exact⟨s',hk⟩
 .rw[zAg,qF]
  constructor
  .rintro⟨e,I,U⟩
   rcases xS.1 I with rfl|I
   .exact⟨(a,b),fG,zK6 t0 t1 hv (.inr U)⟩
   .rcases vW.1 I with I|I
    .exact⟨e,by simp[I],U⟩
    .obtain rfl:e=(a,v):=by simpa using I
     exact⟨(a,b),fG,zK6 t0 t1 hv (.inl U)⟩
  .rintro⟨e,I,U⟩
   rcases vW.1 I with I|I
   .exact⟨e,by simp[I],U⟩
   .obtain rfl:e=(a,b):=by simpa using I
    rcases zIN t0 t1 hv U with k|k
    .exact⟨(a,v),fG,k⟩
    .exact⟨(v,b),fG,k⟩
theorem PO.cut_pt{v:V2}(h:PO (v::b::(c++ [a])))(hc:c≠ [])(U:EarP (v::b::(c++ [a])) a v b)(p:V2):
  -- strictly in the ear
  (0<crs a v p->0<crs v b p->0<crs b a p->(∀e,e∈eds (v::b::(c++ [a]))-> ¬OnE e.1 e.2 p)/\wE (eds (v::b::(c++ [a]))) p=1/\(∀e,e∈eds (b::(c++ [a]))-> ¬OnE e.1 e.2 p)/\wE (eds (b::(c++ [a]))) p=0)/\
  -- beyond it
  (crs a v p<0∨crs v b p<0∨crs b a p<0->((∃e,e∈eds (v::b::(c++ [a]))/\OnE e.1 e.2 p)↔ ∃e,e∈eds (b::(c++ [a]))/\OnE e.1 e.2 p)/\wE (eds (v::b::(c++ [a]))) p=wE (eds (b::(c++ [a]))) p)/\
  -- on its border
  (0<=crs a v p->0<=crs v b p->0<=crs b a p->(crs a v p=0∨crs v b p=0∨crs b a p=0)->
   ((∃e,e∈eds (v::b::(c++ [a]))/\OnE e.1 e.2 p)/\((∃e,e∈eds (b::(c++ [a]))/\OnE e.1 e.2 p)∨((∀e,e∈eds (b::(c++ [a]))-> ¬OnE e.1 e.2 p)/\wE (eds (b::(c++ [a]))) p=0)))∨
   ((∀e,e∈eds (v::b::(c++ [a]))-> ¬OnE e.1 e.2 p)/\wE (eds (v::b::(c++ [a]))) p=1/\∃e,e∈eds (b::(c++ [a]))/\OnE e.1 e.2 p)):=by
 obtain⟨P',hw⟩:=h.cut hc U
 have hs:=h.sim
 have hn:=hs.nod
 have hD:=U.pos
 have hA:0<crs v b a:=by
  have:crs v b a=crs a v b:=by unfold crs;grind
  rw[this];exact hD
 have hF:0<crs b a v:=by
  have:crs b a v=crs a v b:=by unfold crs;grind
  rw[this];exact hD
 have z0:∀{x y w:V2},OnE x y w->crs x y w=0:=fun {x y w} h=>by obtain⟨t,_,_,rfl⟩:=h;unfold crs;grind
 -- the triangle's edges lie in it
 have hp:∀w,OnE a v w∨OnE v b w∨OnE a b w->0<=crs a v w/\0<=crs v b w/\0<=crs b a w:=by
  intro w hw
  have k:∀x y:V2,(x=a∨x=v∨x=b)->(y=a∨y=v∨y=b)->OnE x y w->0<=crs a v w/\0<=crs v b w/\0<=crs b a w:=by
   intro x y hx hy O
   have c1:∀x,(x=a∨x=v∨x=b)->0<=crs a v x/\0<=crs v b x/\0<=crs b a x:=by
    rintro x (rfl|rfl|rfl)
    .rw[zCc,zCQ];exact⟨fF,fF,fF⟩
    .rw[zCQ,zCc];exact⟨fF,fF,fF⟩
    .rw[zCQ,zCc];exact⟨fF,fF,fF⟩
   have x1:=c1 x hx;have y1:=c1 y hy
   have g1:=zGF (g:=lin a v) O (by rw[yO];exact x1.1) (by rw[yO];exact y1.1)
   have g2:=zGF (g:=lin v b) O (by rw[yO];exact x1.2.1) (by rw[yO];exact y1.2.1)
   have g3:=zGF (g:=lin b a) O (by rw[yO];exact x1.2.2) (by rw[yO];exact y1.2.2)
   rw[yO]at g1 g2 g3
   exact⟨g1,g2,g3⟩
  rcases hw with hw|hw|hw
  .exact k a v (.inl rfl) (.inr (.inl rfl)) hw
  .exact k v b (.inr (.inl rfl)) (.inr (.inr rfl)) hw
  .exact k a b (.inl rfl) (.inr (.inr rfl)) hw
 have m1:∀e,e∈eds (v::b::(c++ [a]))->e=(v,b)∨e∈pe (b::(c++ [a]))∨e=(a,v):=fun e U=>by
  rw[zAg]at U
  rcases xS.1 U with k|k
  .exact .inl k
  .rcases vW.1 k with k|k
   .exact .inr (.inl k)
   .exact .inr (.inr (by simpa using k))
 have m2:∀e,e∈eds (b::(c++ [a]))->e∈pe (b::(c++ [a]))∨e=(a,b):=fun e U=>by
  rw[qF]at U
  rcases vW.1 U with k|k
  .exact .inl k
  .exact .inr (by simpa using k)
 have i1:((a,b):V2×V2)∈eds (b::(c++ [a])):=by rw[qF];simp
 have i2:∀e,e∈pe (b::(c++ [a]))->e∈eds (b::(c++ [a])):=fun e h=>by rw[qF];simp[h]
 have n3:∀f,f∈pe (b::(c++ [a]))->f≠(b,a):=fun f hf k=>zOc hn hc hf k
 have ht:=zID hD p
 refine⟨fun p1 p2 p3=>?_,fun ho=>?_,fun p1 p2 p3 p4=>?_⟩
 .have off:∀e,e∈pe (b::(c++ [a]))-> ¬OnE e.1 e.2 p:=fun e J I=>by
   obtain⟨g1,g2,g3⟩:=zAz hn J
   exact U.exits hs g1 g2 g3 I (rE p1) (rE p2) p3
  have o1:∀e,e∈eds (v::b::(c++ [a]))-> ¬OnE e.1 e.2 p:=fun e J I=>by
   rcases m1 e J with rfl|k|rfl
   .have:=z0 I;grind
   .exact off e k I
   .have:=z0 I;grind
  have o2:∀e,e∈eds (b::(c++ [a]))-> ¬OnE e.1 e.2 p:=fun e J I=>by
   rcases m2 e J with k|rfl
   .exact off e k I
   .have:=z0 I.symm;grind
  have w1:=U.inside h o1 (rE p1) (rE p2) (rE p3)
  have w2:=ht.1 p2 p3 p1
  have:=hw p
  exact⟨o1,w1,o2,oA⟩
 .have no:∀x y:V2,((x,y)=(a,v)∨(x,y)=(v,b)∨(x,y)=(a,b))-> ¬OnE x y p:=fun x y O I=>by
   have:0<=crs a v p/\0<=crs v b p/\0<=crs b a p:=hp p (by
    rcases O with k|k|k
    .cases k;exact .inl I
    .cases k;exact .inr (.inl I)
    .cases k;exact .inr (.inr I))
   grind
  refine⟨⟨?_,?_⟩,?_⟩
  .rintro⟨e,J,I⟩
   rcases m1 e J with rfl|k|rfl
   .exact absurd I (no v b (.inr (.inl rfl)))
   .exact⟨e,i2 e k,I⟩
   .exact absurd I (no a v (.inl rfl))
  .rintro⟨e,J,I⟩
   rcases m2 e J with k|rfl
   .exact⟨e,(zAz hn k).1,I⟩
   .exact absurd I (no a b (.inr (.inr rfl)))
  .have w2:=ht.2 fF
   have:=hw p
   omega
 .by_cases k:crs a v p=0∨crs v b p=0
  .left
   have hb:∃x y,(x,y)∈eds (v::b::(c++ [a]))/\((x,y)=(a,v)∨(x,y)=(v,b))/\OnE x y p:=by
    rcases k with k|k
    .exact⟨a,v,U.i,.inl rfl,zAC hD k p2 p3⟩
    .exact⟨v,b,U.o,.inr rfl,zAC hA k p3 p1⟩
   obtain⟨x,y,O,h5,I⟩:=hb
   refine⟨⟨(x,y),O,I⟩,?_⟩
   by_cases hex:∃e,e∈eds (b::(c++ [a]))/\OnE e.1 e.2 p
   .exact .inl hex
   .right
    have off:∀e,e∈eds (b::(c++ [a]))-> ¬OnE e.1 e.2 p:=fun e h1 h2=>hex ⟨e,h1,h2⟩
    refine⟨off,?_⟩
    -- just right of the edge
    obtain⟨d,d0,hd⟩:=nbh (a:=p) (b:=p) _ (fun f hf=>P'.sim.ne hf) (fun f hf u hu hG=>off f hf (by rw[<-zOh hG];exact hu))
    have d2:0<d/2:=fF
    obtain⟨r,r0,r1,hr⟩:=zUv I d2
    obtain⟨d1,hq,hE⟩:=(h.side _ O).2 r r0 r1
    obtain⟨m,m0,hm,hz⟩:=qW d2 hq
    obtain⟨q,q1,q2⟩:=zAo (hs.ne O) (s:= -1) (.inr rfl) m0 (zAl (x,y) r)
    have a1:=hE q (q1.mono hz) q2
    have a2:wE (eds (b::(c++ [a]))) p=wE (eds (b::(c++ [a]))) q:=zCf (zBO _) (hd p q (.self d0 p) ((hr.add (q1.mono hm)).mono fF))
    rw[zFa]at q2
    have q3:crs x y q<0:=by
     have:0< -1*crs x y q:=q2
     grind
    have a3:=(zID hD q).2 (by
     rcases h5 with k|k
     .cases k;exact .inr (.inr q3)
     .cases k;exact .inl q3)
    have a4:=hw q
    omega
  .right
   have k1:0<crs a v p:=fF
   have k2:0<crs v b p:=fF
   have k3:crs b a p=0:=fF
   have on:=zAC hF k3 p1 p2
   have off:∀e,e∈eds (v::b::(c++ [a]))-> ¬OnE e.1 e.2 p:=fun e J I=>by
    rcases m1 e J with rfl|q|rfl
    .have:=z0 I;grind
    .obtain⟨g1,g2,g3⟩:=zAz hn q
     rcases U.base hs g1 g2 g3 (n3 e q) I on.symm with r|r
     .rw[r,zCc]at k1;grind
     .rw[r,zCQ]at k2;grind
    .have:=z0 I;grind
   exact⟨off,U.inside h off p1 p2 p3,(a,b),i1,on.symm⟩
theorem zVz(h:u≠(0,0)):0<u.1*u.1+u.2*u.2:=by
 have I:∀x:Rat,0<=x*x/\(x≠0->0<x*x):=fun x=>by
  rcases(rM:0<=x∨x<=0)with k|k
  .exact⟨rD k k,fun h=>rB fF fF⟩
  .have a:=rD (show 0<=-x from fF) (show 0<=-x from fF)
   exact⟨fF,fun h=>by have:=rB (show 0< -x from fF) (show 0< -x from fF);grind⟩
 have O:=I u.1
 have U:=I u.2
 by_cases e:u.1=0
 .have:=U.2 (fun J=>h (rF e J));grind
 .have:=O.2 e;grind
end Go.Proofs.Wd
