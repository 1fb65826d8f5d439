/- prod.Mul; The walk of num.mul; The walk of sint.Mul; Integers as value and what it needs. -/
import Derived.Test.YtihcepanbejfpaaGreatDoorMEU11
import Derived.Laws.EntriesVeiled
abbrev rC:=@Rat.mul_pos
abbrev rD:=@Classical.byContradiction
abbrev rE:=@Rat.mul_nonneg
abbrev rF:=@Prod.ext
abbrev rG:=@Rat.le_of_lt
abbrev rH:=@List.getD_eq_getElem?_getD
abbrev rI:=@Rat.mul_eq_zero
abbrev rJ:=@Rat.le_refl
abbrev rK:=@Rat.div_mul_cancel
abbrev rL:=@Rat.le_total
abbrev rM:=@Rat.le_trans
abbrev rN:=@or_false
abbrev rO:=@List.not_mem_nil
abbrev rP:=@Nat.div_le_self
abbrev rQ:=@List.perm_append_comm
abbrev rR:=@List.map_append
abbrev rS:=@decide_eq_decide
abbrev rT:=@Nat.not_lt_zero
abbrev rU:=@List.take_length
abbrev rV:=@Rat.intCast_mul
abbrev rW:=@Rat.div_def
abbrev rX:=@List.nodup_append
abbrev rY:=@Int.natAbs_natCast
abbrev rZ:=@Rat.mkRat_zero
abbrev sC:=@Rat.mul_comm
abbrev sD:=@Rat.num_nonneg
abbrev sE:=@Rat.mkRat_self
abbrev sF:=@Rat.intCast_sub
abbrev sG:=@List.eq_nil_or_concat
abbrev sI:=@List.sum_append
abbrev sJ:=@Rat.divInt_ofNat
abbrev sK:=@Rat.sub_eq_add_neg
abbrev sL:=@Rat.intCast_natCast
abbrev sO:=@not_false_eq_true
abbrev sP:=@List.append_of_mem
abbrev sQ:=@List.concat_eq_append
namespace Go.Proofs.Wd
open Tryz
variable {k:Int}{i m m' n:Nat}{W:WB}{ks:List Int}{B C al be d d' ga q s t:Rat}{G:Rat->Rat}
set_option maxRecDepth 100000
set_option maxHeartbeats 2000000
open Go.RowKit Lb
attribute [local go_sem] Oper.semAt_some qL yG
theorem zNU(A:Option Addr)(n c:Nat)(l:List Nat)(A':Option Addr)(n' c':Nat)(l':List Nat)(w:WB)(h:Rd w A n c l)(h':Rd w A' n' c' l')(ht:Lt l)(ht':Lt l')(hn:n<=40000)(hn':n'<=40000):
  Calls prog 106 #[.slice A n c,.slice A' n' c'] w (jK w (val l*val l')):=by
 have hmix:prog.follows .mixedOrders=true:=by kernel_rfl
 obtain⟨W0,hW0⟩:∃W0,w.alloc (Obj.cells #[zCk w.heap.size] 81)=W0:=⟨_,rfl⟩
 have bA:bW w W0:=hW0▸(xF _ w).alloc (vP _) _
 have cA:W0.cell? ⟨w.heap.size,0,none⟩=some (zCk w.heap.size):=by
  rw[<-hW0]
  rw[World.cell?_alloc_new]
  rfl
 unfold zCk at hW0
 have hcl:∀W,bW W0 W->W.cell? ⟨w.heap.size,0,none⟩=some (zCk w.heap.size):=fun W hb=>(hb.cell (p:=⟨w.heap.size,0,none⟩) (zZ cA)).trans cA
 obtain⟨mb,hmb⟩:∃mb,w.heap.size=mb:=⟨_,rfl⟩
 go_enter func106,ntmps106
 go_wp2
 rw[hmb]at cA hcl hW0
 erw[hW0]
 refine(bL (n:=0)).1<|yC 100 (fun W=>W.cell? ⟨mb,0,none⟩=some (.func (.func 129) #[] #[pO mb 0])) hmix ?_
 have b0:bW W0 W0.drew:=(xF _ W0).drew
 have c0:=hcl _ b0
 unfold zCk at c0
 refine zP (i:=0) (v:=?vv1) kA kA rfl kA kA kA (fun _ _ _ h=>h) c0 ⟨.inl ⟨rfl,?yy1⟩,fun _=>rfl⟩ ?_
 case yy1=>
  rintro wx q1
  go_simp
  first|done|rfl
 refine zP (i:=1) (v:=?vv2) kA kA rfl kA kA kA (fun _ _ _ h=>h) c0 ⟨.inl ⟨rfl,?yy2⟩,fun _=>rfl⟩ ?_
 case yy2=>
  rintro wx q1
  go_simp
  first|done|rfl
 refine zP (i:=3) (v:=?vv3) kA kA rfl kA kA kA (fun _ _ _ h=>h) c0 ⟨.inl ⟨rfl,?yy3⟩,fun _=>rfl⟩ ?_
 case yy3=>
  rintro wx q1
  go_simp
  first|done|rfl
 have bw0:bW w W0.drew:=bA.drew
 have i1:=q9 A n c l W0.drew (h.below bw0) ht oA
 refine zAN (i:=2) kA rfl (fun K hK=>?_)
 go_simp
 refine bG (xZ.2 i1) ?_
 rintro e W1 ⟨A1,n1,c1,l1,rfl,hi1,hr1,hb1⟩
 have b1:=b0.trans (hb1.mono b0.size)
 have c1':=hcl _ b1
 unfold zCk at c1'
 refine hK _ _ (.inr c1') ?_
 clear hK K i1
 have bw1:=bw0.trans (hb1.mono bw0.size)
 have i2:=q9 A' n' c' l' W1 (h'.below bw1) ht' oA
 refine zAN (i:=4) kA rfl (fun K hK=>?_)
 go_simp
 refine bG (xZ.2 i2) ?_
 rintro e W2 ⟨A2,n2,c2,l2,rfl,hi2,hr2,hb2⟩
 have b2:=b1.trans (hb2.mono b1.size)
 have c2':=hcl _ b2
 have c2'':=c2'
 unfold zCk at c2'
 refine hK _ _ (.inr c2') ?_
 clear hK K i2
 have bw2:=bw1.trans (hb2.mono bw1.size)
 have hn1:n1<=40000:=by
  rw[<-hr1.len]
  exact xQ (hi1.len (k:=n) (by have:=q8 ht;rwa [h.len]at this)) hn
 have hn2:n2<=40000:=by
  rw[<-hr2.len]
  exact xQ (hi2.len (k:=n') (by have:=q8 ht';rwa [h'.len]at this)) hn'
 have i3:=zQL 40000 oA mb A1 n1 c1 l1 A2 n2 c2 l2 W2 (hr1.below hb2) hr2 hi1.lt hi2.lt hn1 hn2 c2''
 rw[hi1.val,hi2.val]at i3
 refine zAN (i:=5) kA rfl (fun K hK=>?_)
 go_simp
 refine bG (xZ.2 i3) ?_
 rintro e W3 ⟨A3,n3,c3,l3,rfl,hi3,hr3,hb3⟩
 have b3:=b2.trans (hb3.mono b2.size)
 have c3':=hcl _ b3
 unfold zCk at c3'
 refine hK _ _ (.inr c3') ?_
 clear hK K i3
 refine zAN (i:=6) kA rfl (fun K hK=>?_)
 go_simp
 refine hK _ _ (.inr c3') ?_
 clear hK K
 refine zCR kA ?_
 have bw3:=bw2.trans (hb3.mono bw2.size)
 go_wp2
 all_goals
  go_ret
  exact⟨A3,n3,c3,l3,rfl,hi3,hr3,bw3⟩
attribute [local go_sem] Oper.semAt_some qL yG
theorem zSO{v v':Int}{l:List Nat}(h:val l=v.natAbs*v'.natAbs):iv (!(decide (v<0)==decide (v'<0))) l=v*v':=by
 unfold iv
 rw[h]
 rcases Int.lt_or_le v 0 with I|I<;>rcases Int.lt_or_le v' 0 with h2|h2
 all_goals simp only[I,h2,decide_true,decide_false,Int.not_lt.2 I,Int.not_lt.2 h2,beq_self_eq_true,fX,Bool.not_false,xK,cG,xI,pE,show(true==false)=false from rfl,show(false==true)=false from rfl]
 all_goals first|rw[Int.ofNat_natAbs_of_nonneg I]|rw[Int.ofNat_natAbs_of_nonpos (Int.le_of_lt I)]
 all_goals first|rw[Int.ofNat_natAbs_of_nonneg h2]|rw[Int.ofNat_natAbs_of_nonpos (Int.le_of_lt h2)]
 all_goals simp[Int.neg_mul,Int.mul_neg]
theorem zTM(B B':Nat)(v v':Int)(k:Nat)(w:WB)(h:zAJ w B v)(h':zAJ w B' v')(hv:v.natAbs<BB^k)(hv':v'.natAbs<BB^k)(hk:k<=40000):
  Calls prog 128 #[pO B 0,pO B' 0] w fun e w'=>(∃u,e=.returned u)/\zAJ w' B (v*v')/\w.grownBy w' (some B):=by
 obtain⟨A,n,c,l,hb,hi,hr⟩:=h
 obtain⟨A',n',c',l',hb',hi',hr'⟩:=h'
 have hn:n<=k:=by rw[<-hr.len];exact hi.len hv
 have hn':n'<=k:=by rw[<-hr'.len];exact hi'.len hv'
 have hmix:prog.follows .mixedOrders=true:=by kernel_rfl
 have cf:∀W,bW w W->(W.cell? ⟨B,0,none⟩=some (.bool (decide (v<0)))/\W.cell? ⟨B,1,none⟩=some (.slice A n c))/\W.cell? ⟨B',0,none⟩=some (.bool (decide (v'<0)))/\W.cell? ⟨B',1,none⟩=some (.slice A' n' c'):=fun W hb1=>⟨(hb.kept hb1).facts2.1,(hb'.kept hb1).facts2.1⟩
 go_enter func128,ntmps128
 go_wp2
 refine(bL (n:=0)).1<|yC 31 (fun _=>True) hmix<|zP (i:=1) (v:=?vv1) kA kA rfl kA kA kA (fun _ _ _ h=>h) trivial ⟨.inl ⟨rfl,?yy1⟩,fun _=>rfl⟩ ?_
 case yy1=>
  rintro wx _
  go_simp
  first|done|rfl
 refine zHV (k:=24) (fun _=>false) (fun iz vz Wz=>match iz with
  |0=>vz= pO B 0
  |1=>vz= pO B 0
  |2=>vz= pO B 0
  |3=>vz= pO B 0
  |4=>vz= pO B 0
  |5=>vz= pO B 0
  |6=>vz=.bool (decide (v<0))
  |7=>vz= pO B' 0
  |8=>vz= pO B' 0
  |9=>vz= pO B' 0
  |10=>vz= pO B' 0
  |11=>vz=.bool (decide (v'<0))
  |12=>vz=.bool (!(decide (v<0)==decide (v'<0)))
  |13=>vz= pO B 0
  |14=>vz= pO B 0
  |15=>vz= pO B 0
  |16=>vz= pO B 1
  |17=>vz=.slice A n c
  |18=>vz= pO B' 0
  |19=>vz= pO B' 0
  |20=>vz= pO B' 0
  |21=>vz= pO B' 1
  |22=>vz=.slice A' n' c'
  |23=>qQ Wz vz (v.natAbs*v'.natAbs)
  |_=>True) (fun W=>bW w W) kA kA kA kA kA kA kA kA kA (fun _ _ h hb=>h.trans (hb.mono h.size)) ?stab ((xF _ w).drew) ?spec ?fin
 case stab=>
  intro iz vz Wz Wy h hb
  split at h<;>first|exact h|exact qQ.below h hb|trivial
 case spec=>
  refine yK ?_ ?h23
  refine yK ?_ ?h22
  refine yK ?_ ?h21
  refine yK ?_ ?h20
  refine yK ?_ ?h19
  refine yK ?_ ?h18
  refine yK ?_ ?h17
  refine yK ?_ ?h16
  refine yK ?_ ?h15
  refine yK ?_ ?h14
  refine yK ?_ ?h13
  refine yK ?_ ?h12
  refine yK ?_ ?h11
  refine yK ?_ ?h10
  refine yK ?_ ?h9
  refine yK ?_ ?h8
  refine yK ?_ ?h7
  refine yK ?_ ?h6
  refine yK ?_ ?h5
  refine yK ?_ ?h4
  refine yK ?_ ?h3
  refine yK ?_ ?h2
  refine yK ?_ ?h1
  refine yK ?_ ?h0
  exact fun i h _=>absurd h (rT i)
  case h0=>
   intro _ o hi b5 W5 hf K hK
   cases hi
   have k0:b5.tmps[0]?.getD undef= (pO B 0):=(xU ..).symm.trans ((hf.at_.keep 0 kA).trans kA)
   refine bT rfl (fun K' hK'=>?_)
   go_simp
   exact hK' _ _ (hK _ _ rfl (xF _ _) (fun h=>by cases h))
  case h1=>
   intro h
   exact absurd h (by decide)
  case h2=>
   intro _ o hi b5 W5 hf K hK
   cases hi
   have k0:b5.tmps[0]?.getD undef= (pO B 0):=(xU ..).symm.trans ((hf.at_.keep 0 kA).trans kA)
   refine bT rfl (fun K' hK'=>?_)
   go_simp
   exact hK' _ _ (hK _ _ rfl (xF _ _) (fun h=>by cases h))
  case h3=>
   intro _ o hi b5 W5 hf K hK
   cases hi
   have k6:b5.tmps[6]?.getD undef= (pO B 0):=(xU ..).symm.trans (hf.at_.vals 2 _ 6 ⟨by decide,⟨2,.data⟩,by simp,by kernel_rfl,rfl⟩ rfl rfl)
   refine bT rfl (fun K' hK'=>?_)
   go_simp
   exact hK' _ _ (hK _ _ rfl (xF _ _) (fun h=>by cases h))
  case h4=>
   intro _ o hi b5 W5 hf K hK
   cases hi
   have k7:b5.tmps[7]?.getD undef= (pO B 0):=(xU ..).symm.trans (hf.at_.vals 3 _ 7 ⟨by decide,⟨3,.data⟩,by simp,by kernel_rfl,rfl⟩ rfl rfl)
   refine bT rfl (fun K' hK'=>?_)
   go_simp
   exact hK' _ _ (hK _ _ rfl (xF _ _) (fun h=>by cases h))
  case h5=>
   intro _ o hi b5 W5 hf K hK
   cases hi
   have k8:b5.tmps[8]?.getD undef= (pO B 0):=(xU ..).symm.trans (hf.at_.vals 4 _ 8 ⟨by decide,⟨4,.data⟩,by simp,by kernel_rfl,rfl⟩ rfl rfl)
   refine bT rfl (fun K' hK'=>?_)
   go_simp
   exact hK' _ _ (hK _ _ rfl (xF _ _) (fun h=>by cases h))
  case h6=>
   intro _ o hi b5 W5 hf K hK
   cases hi
   have k9:b5.tmps[9]?.getD undef= (pO B 0):=(xU ..).symm.trans (hf.at_.vals 5 _ 9 ⟨by decide,⟨5,.data⟩,by simp,by kernel_rfl,rfl⟩ rfl rfl)
   obtain⟨⟨q1,q2⟩,q3,q4⟩:=cf W5 hf.at_.cls
   refine bT rfl (fun K' hK'=>?_)
   go_simp
   exact hK' _ _ (hK _ _ rfl (xF _ _) (fun h=>by cases h))
  case h7=>
   intro _ o hi b5 W5 hf K hK
   cases hi
   have k1:b5.tmps[1]?.getD undef= (pO B' 0):=(xU ..).symm.trans ((hf.at_.keep 1 kA).trans kA)
   refine bT rfl (fun K' hK'=>?_)
   go_simp
   exact hK' _ _ (hK _ _ rfl (xF _ _) (fun h=>by cases h))
  case h8=>
   intro _ o hi b5 W5 hf K hK
   cases hi
   have k11:b5.tmps[11]?.getD undef= (pO B' 0):=(xU ..).symm.trans (hf.at_.vals 7 _ 11 ⟨by decide,⟨7,.data⟩,by simp,by kernel_rfl,rfl⟩ rfl rfl)
   refine bT rfl (fun K' hK'=>?_)
   go_simp
   exact hK' _ _ (hK _ _ rfl (xF _ _) (fun h=>by cases h))
  case h9=>
   intro _ o hi b5 W5 hf K hK
   cases hi
   have k12:b5.tmps[12]?.getD undef= (pO B' 0):=(xU ..).symm.trans (hf.at_.vals 8 _ 12 ⟨by decide,⟨8,.data⟩,by simp,by kernel_rfl,rfl⟩ rfl rfl)
   refine bT rfl (fun K' hK'=>?_)
   go_simp
   exact hK' _ _ (hK _ _ rfl (xF _ _) (fun h=>by cases h))
  case h10=>
   intro _ o hi b5 W5 hf K hK
   cases hi
   have k13:b5.tmps[13]?.getD undef= (pO B' 0):=(xU ..).symm.trans (hf.at_.vals 9 _ 13 ⟨by decide,⟨9,.data⟩,by simp,by kernel_rfl,rfl⟩ rfl rfl)
   refine bT rfl (fun K' hK'=>?_)
   go_simp
   exact hK' _ _ (hK _ _ rfl (xF _ _) (fun h=>by cases h))
  case h11=>
   intro _ o hi b5 W5 hf K hK
   cases hi
   have k14:b5.tmps[14]?.getD undef= (pO B' 0):=(xU ..).symm.trans (hf.at_.vals 10 _ 14 ⟨by decide,⟨10,.data⟩,by simp,by kernel_rfl,rfl⟩ rfl rfl)
   obtain⟨⟨q1,q2⟩,q3,q4⟩:=cf W5 hf.at_.cls
   refine bT rfl (fun K' hK'=>?_)
   go_simp
   exact hK' _ _ (hK _ _ rfl (xF _ _) (fun h=>by cases h))
  case h12=>
   intro _ o hi b5 W5 hf K hK
   cases hi
   have k10:b5.tmps[10]?.getD undef=.bool (decide (v<0)):=(xU ..).symm.trans (hf.at_.vals 6 _ 10 ⟨by decide,⟨6,.data⟩,by simp,by kernel_rfl,rfl⟩ rfl rfl)
   have k15:b5.tmps[15]?.getD undef=.bool (decide (v'<0)):=(xU ..).symm.trans (hf.at_.vals 11 _ 15 ⟨by decide,⟨11,.data⟩,by simp,by kernel_rfl,rfl⟩ rfl rfl)
   refine bT rfl (fun K' hK'=>?_)
   go_simp
   exact hK' _ _ (hK _ _ rfl (xF _ _) (fun h=>by cases h))
  case h13=>
   intro _ o hi b5 W5 hf K hK
   cases hi
   have k0:b5.tmps[0]?.getD undef= (pO B 0):=(xU ..).symm.trans ((hf.at_.keep 0 kA).trans kA)
   refine bT rfl (fun K' hK'=>?_)
   go_simp
   exact hK' _ _ (hK _ _ rfl (xF _ _) (fun h=>by cases h))
  case h14=>
   intro _ o hi b5 W5 hf K hK
   cases hi
   have k17:b5.tmps[17]?.getD undef= (pO B 0):=(xU ..).symm.trans (hf.at_.vals 13 _ 17 ⟨by decide,⟨13,.data⟩,by simp,by kernel_rfl,rfl⟩ rfl rfl)
   refine bT rfl (fun K' hK'=>?_)
   go_simp
   exact hK' _ _ (hK _ _ rfl (xF _ _) (fun h=>by cases h))
  case h15=>
   intro _ o hi b5 W5 hf K hK
   cases hi
   have k18:b5.tmps[18]?.getD undef= (pO B 0):=(xU ..).symm.trans (hf.at_.vals 14 _ 18 ⟨by decide,⟨14,.data⟩,by simp,by kernel_rfl,rfl⟩ rfl rfl)
   refine bT rfl (fun K' hK'=>?_)
   go_simp
   exact hK' _ _ (hK _ _ rfl (xF _ _) (fun h=>by cases h))
  case h16=>
   intro _ o hi b5 W5 hf K hK
   cases hi
   have k19:b5.tmps[19]?.getD undef= (pO B 0):=(xU ..).symm.trans (hf.at_.vals 15 _ 19 ⟨by decide,⟨15,.data⟩,by simp,by kernel_rfl,rfl⟩ rfl rfl)
   refine bT rfl (fun K' hK'=>?_)
   go_simp
   exact hK' _ _ (hK _ _ rfl (xF _ _) (fun h=>by cases h))
  case h17=>
   intro _ o hi b5 W5 hf K hK
   cases hi
   have k20:b5.tmps[20]?.getD undef= (pO B 1):=(xU ..).symm.trans (hf.at_.vals 16 _ 20 ⟨by decide,⟨16,.data⟩,by simp,by kernel_rfl,rfl⟩ rfl rfl)
   obtain⟨⟨q1,q2⟩,q3,q4⟩:=cf W5 hf.at_.cls
   refine bT rfl (fun K' hK'=>?_)
   go_simp
   exact hK' _ _ (hK _ _ rfl (xF _ _) (fun h=>by cases h))
  case h18=>
   intro _ o hi b5 W5 hf K hK
   cases hi
   have k1:b5.tmps[1]?.getD undef= (pO B' 0):=(xU ..).symm.trans ((hf.at_.keep 1 kA).trans kA)
   refine bT rfl (fun K' hK'=>?_)
   go_simp
   exact hK' _ _ (hK _ _ rfl (xF _ _) (fun h=>by cases h))
  case h19=>
   intro _ o hi b5 W5 hf K hK
   cases hi
   have k22:b5.tmps[22]?.getD undef= (pO B' 0):=(xU ..).symm.trans (hf.at_.vals 18 _ 22 ⟨by decide,⟨18,.data⟩,by simp,by kernel_rfl,rfl⟩ rfl rfl)
   refine bT rfl (fun K' hK'=>?_)
   go_simp
   exact hK' _ _ (hK _ _ rfl (xF _ _) (fun h=>by cases h))
  case h20=>
   intro _ o hi b5 W5 hf K hK
   cases hi
   have k23:b5.tmps[23]?.getD undef= (pO B' 0):=(xU ..).symm.trans (hf.at_.vals 19 _ 23 ⟨by decide,⟨19,.data⟩,by simp,by kernel_rfl,rfl⟩ rfl rfl)
   refine bT rfl (fun K' hK'=>?_)
   go_simp
   exact hK' _ _ (hK _ _ rfl (xF _ _) (fun h=>by cases h))
  case h21=>
   intro _ o hi b5 W5 hf K hK
   cases hi
   have k24:b5.tmps[24]?.getD undef= (pO B' 0):=(xU ..).symm.trans (hf.at_.vals 20 _ 24 ⟨by decide,⟨20,.data⟩,by simp,by kernel_rfl,rfl⟩ rfl rfl)
   refine bT rfl (fun K' hK'=>?_)
   go_simp
   exact hK' _ _ (hK _ _ rfl (xF _ _) (fun h=>by cases h))
  case h22=>
   intro _ o hi b5 W5 hf K hK
   cases hi
   have k25:b5.tmps[25]?.getD undef= (pO B' 1):=(xU ..).symm.trans (hf.at_.vals 21 _ 25 ⟨by decide,⟨21,.data⟩,by simp,by kernel_rfl,rfl⟩ rfl rfl)
   obtain⟨⟨q1,q2⟩,q3,q4⟩:=cf W5 hf.at_.cls
   refine bT rfl (fun K' hK'=>?_)
   go_simp
   exact hK' _ _ (hK _ _ rfl (xF _ _) (fun h=>by cases h))
  case h23=>
   intro _ o hi b5 W5 hf K hK
   cases hi
   have k21:b5.tmps[21]?.getD undef=.slice A n c:=(xU ..).symm.trans (hf.at_.vals 17 _ 21 ⟨by decide,⟨17,.data⟩,by simp,by kernel_rfl,rfl⟩ rfl rfl)
   have k26:b5.tmps[26]?.getD undef=.slice A' n' c':=(xU ..).symm.trans (hf.at_.vals 22 _ 26 ⟨by decide,⟨22,.data⟩,by simp,by kernel_rfl,rfl⟩ rfl rfl)
   refine bT rfl (fun K' hK'=>?_)
   go_simp
   have hm:=zNU A n c l A' n' c' l' W5 (hr.below hf.at_.cls) (hr'.below hf.at_.cls) hi.lt hi'.lt oA oA
   rw[hi.val,hi'.val]at hm
   refine bG (xZ.2 hm) ?_
   rintro e W' ⟨A7,n7,c7,l7,rfl,hi7,hr7,hb7⟩
   exact hK' _ _ (hK _ _ ⟨A7,n7,c7,l7,rfl,hi7,hr7⟩ hb7 (fun h=>by cases h))
 case fin=>
  intro b5 W5 hf
  have e4:b5.tmps.getD 4 undef= (pO B 0):=hf.at_.vals 0 _ 4 ⟨by decide,by decide⟩ rfl rfl
  have e6:b5.tmps.getD 6 undef= (pO B 0):=hf.at_.vals 2 _ 6 ⟨by decide,by decide⟩ rfl rfl
  have e7:b5.tmps.getD 7 undef= (pO B 0):=hf.at_.vals 3 _ 7 ⟨by decide,by decide⟩ rfl rfl
  have e8:b5.tmps.getD 8 undef= (pO B 0):=hf.at_.vals 4 _ 8 ⟨by decide,by decide⟩ rfl rfl
  have e9:b5.tmps.getD 9 undef= (pO B 0):=hf.at_.vals 5 _ 9 ⟨by decide,by decide⟩ rfl rfl
  have e10:b5.tmps.getD 10 undef=.bool (decide (v<0)):=hf.at_.vals 6 _ 10 ⟨by decide,by decide⟩ rfl rfl
  have e11:b5.tmps.getD 11 undef= (pO B' 0):=hf.at_.vals 7 _ 11 ⟨by decide,by decide⟩ rfl rfl
  have e12:b5.tmps.getD 12 undef= (pO B' 0):=hf.at_.vals 8 _ 12 ⟨by decide,by decide⟩ rfl rfl
  have e13:b5.tmps.getD 13 undef= (pO B' 0):=hf.at_.vals 9 _ 13 ⟨by decide,by decide⟩ rfl rfl
  have e14:b5.tmps.getD 14 undef= (pO B' 0):=hf.at_.vals 10 _ 14 ⟨by decide,by decide⟩ rfl rfl
  have e15:b5.tmps.getD 15 undef=.bool (decide (v'<0)):=hf.at_.vals 11 _ 15 ⟨by decide,by decide⟩ rfl rfl
  have e16:b5.tmps.getD 16 undef=.bool (!(decide (v<0)==decide (v'<0))):=hf.at_.vals 12 _ 16 ⟨by decide,by decide⟩ rfl rfl
  have e17:b5.tmps.getD 17 undef= (pO B 0):=hf.at_.vals 13 _ 17 ⟨by decide,by decide⟩ rfl rfl
  have e18:b5.tmps.getD 18 undef= (pO B 0):=hf.at_.vals 14 _ 18 ⟨by decide,by decide⟩ rfl rfl
  have e19:b5.tmps.getD 19 undef= (pO B 0):=hf.at_.vals 15 _ 19 ⟨by decide,by decide⟩ rfl rfl
  have e20:b5.tmps.getD 20 undef= (pO B 1):=hf.at_.vals 16 _ 20 ⟨by decide,by decide⟩ rfl rfl
  have e21:b5.tmps.getD 21 undef=.slice A n c:=hf.at_.vals 17 _ 21 ⟨by decide,by decide⟩ rfl rfl
  have e22:b5.tmps.getD 22 undef= (pO B' 0):=hf.at_.vals 18 _ 22 ⟨by decide,by decide⟩ rfl rfl
  have e23:b5.tmps.getD 23 undef= (pO B' 0):=hf.at_.vals 19 _ 23 ⟨by decide,by decide⟩ rfl rfl
  have e24:b5.tmps.getD 24 undef= (pO B' 0):=hf.at_.vals 20 _ 24 ⟨by decide,by decide⟩ rfl rfl
  have e25:b5.tmps.getD 25 undef= (pO B' 1):=hf.at_.vals 21 _ 25 ⟨by decide,by decide⟩ rfl rfl
  have e26:b5.tmps.getD 26 undef=.slice A' n' c':=hf.at_.vals 22 _ 26 ⟨by decide,by decide⟩ rfl rfl
  have v27:=hf.at_.vals 23 _ 27 ⟨by decide,by decide⟩ rfl rfl
  have hE:=zLk [4,6,7,8,9,10,11,12,13,14,15,16,17,18,19,20,21,22,23,24,25,26,27,28,29,30,31,32,33] hf.at_.size (fun t ht5=>hf.at_.keep t (zTN (by rw[show zOG _ _=[4,6,7,8,9,10,11,12,13,14,15,16,17,18,19,20,21,22,23,24,25,26,27,28,29,30,31,32,33]from by kernel_rfl];exact ht5)))
  have hcl5:=hf.at_.cls
  obtain⟨tm,df⟩:=b5
  obtain rfl:df=_:=hf.at_.defers
  clear hf
  simp only[eW,List.foldl_nil]at hE
  rw[show tm.getD 4 undef=_ from e4]at hE;clear e4
  rw[show tm.getD 6 undef=_ from e6]at hE;clear e6
  rw[show tm.getD 7 undef=_ from e7]at hE;clear e7
  rw[show tm.getD 8 undef=_ from e8]at hE;clear e8
  rw[show tm.getD 9 undef=_ from e9]at hE;clear e9
  rw[show tm.getD 10 undef=_ from e10]at hE;clear e10
  rw[show tm.getD 11 undef=_ from e11]at hE;clear e11
  rw[show tm.getD 12 undef=_ from e12]at hE;clear e12
  rw[show tm.getD 13 undef=_ from e13]at hE;clear e13
  rw[show tm.getD 14 undef=_ from e14]at hE;clear e14
  rw[show tm.getD 15 undef=_ from e15]at hE;clear e15
  rw[show tm.getD 16 undef=_ from e16]at hE;clear e16
  rw[show tm.getD 17 undef=_ from e17]at hE;clear e17
  rw[show tm.getD 18 undef=_ from e18]at hE;clear e18
  rw[show tm.getD 19 undef=_ from e19]at hE;clear e19
  rw[show tm.getD 20 undef=_ from e20]at hE;clear e20
  rw[show tm.getD 21 undef=_ from e21]at hE;clear e21
  rw[show tm.getD 22 undef=_ from e22]at hE;clear e22
  rw[show tm.getD 23 undef=_ from e23]at hE;clear e23
  rw[show tm.getD 24 undef=_ from e24]at hE;clear e24
  rw[show tm.getD 25 undef=_ from e25]at hE;clear e25
  rw[show tm.getD 26 undef=_ from e26]at hE;clear e26
  obtain⟨x27,hx27⟩:∃x,tm.getD 27 undef=x:=⟨_,rfl⟩;rw[hx27]at hE;rw[show tm.getD 27 undef=_ from hx27]at v27;clear hx27
  obtain⟨u28,hu28⟩:∃x,tm.getD 28 undef=x:=⟨_,rfl⟩;rw[hu28]at hE;clear hu28
  obtain⟨u29,hu29⟩:∃x,tm.getD 29 undef=x:=⟨_,rfl⟩;rw[hu29]at hE;clear hu29
  obtain⟨u30,hu30⟩:∃x,tm.getD 30 undef=x:=⟨_,rfl⟩;rw[hu30]at hE;clear hu30
  obtain⟨u31,hu31⟩:∃x,tm.getD 31 undef=x:=⟨_,rfl⟩;rw[hu31]at hE;clear hu31
  obtain⟨u32,hu32⟩:∃x,tm.getD 32 undef=x:=⟨_,rfl⟩;rw[hu32]at hE;clear hu32
  obtain⟨u33,hu33⟩:∃x,tm.getD 33 undef=x:=⟨_,rfl⟩;rw[hu33]at hE;clear hu33
  rewrite [hE]
  clear hE
  obtain⟨A2,n2,c2,l2,rfl,hi2,hr2⟩:=v27
  have hb3:=hb.kept hcl5
  obtain⟨⟨m0,m1⟩,m2,m3⟩:=hb3.facts2
  go_simp
  refine zAN (i:=24) kA rfl (fun K hK=>?_)
  go_simp
  refine hK _ _ (.inr trivial) ?_
  clear hK K
  refine zAN (i:=25) kA rfl (fun K hK=>?_)
  go_simp
  refine hK _ _ (.inr trivial) ?_
  clear hK K
  refine zAN (i:=26) kA rfl (fun K hK=>?_)
  go_simp
  refine hK _ _ (.inr trivial) ?_
  clear hK K
  refine zAN (i:=27) kA rfl (fun K hK=>?_)
  go_simp
  refine hK _ _ (.inr trivial) ?_
  clear hK K
  have hb4:=hb3.set 0 (.bool (!(decide (v<0)==decide (v'<0))))
  obtain⟨⟨m0,m1⟩,m2,m3⟩:=hb4.facts2
  refine zAN (i:=28) kA rfl (fun K hK=>?_)
  go_simp
  refine hK _ _ (.inr trivial) ?_
  clear hK K
  refine zAN (i:=29) kA rfl (fun K hK=>?_)
  go_simp
  refine hK _ _ (.inr trivial) ?_
  clear hK K
  refine zAN (i:=30) kA rfl (fun K hK=>?_)
  go_simp
  refine hK _ _ (.inr trivial) ?_
  clear hK K
  refine zAN (i:=31) kA rfl (fun K hK=>?_)
  go_simp
  refine hK _ _ (.inr trivial) ?_
  clear hK K
  refine zCR kA ?_
  have hv2:iv (!(decide (v<0)==decide (v'<0))) l2=v*v':=zSO hi2.val
  have hn2:n2<=80000:=by rw[<-hr2.len];exact xQ (hi2.len (k:=k+k) (by rw[uA];exact pN hv (nL hv') (uN qC))) oA
  go_wp2_with (go_at_call 144;refine(zD9 B _ A2 n2 c2 l2 _ (hb4.set 1 _) ((hr2.setN hb3 (i:=0) rfl (fun _=>by simp) _).setN hb4 (i:=1) rfl (fun _=>by simp) _) hi2.lt oA).mono ?_;rintro e w4 ⟨rfl,hn4,hg4⟩)
  refine bodyPost_end (results_none rfl _ _ _) rfl<|⟨⟨_,rfl⟩,?_,?_⟩
  .rw[hv2]at hn4;exact hn4
  .exact((zCv hcl5).but (some B)).trans ((qF W5 ⟨B,0,none⟩ _).trans ((qF _ ⟨B,1,none⟩ _).trans hg4))
attribute [local go_sem] Oper.semAt_some qL yG
theorem zVv(w:WB):Calls prog 76 #[.int .i64 1] w fun e w'=>∃A n c l,e=.returned (.agg #[.bool false,.slice A n c])/\Is l 1/\Rd w' A n c l/\n<=1/\bW w w':=
 (zKq 1 oA oA w).mono fun e w' ⟨A,n,c,l,I,h2,h3,J⟩=>⟨A,n,c,l,I,h2,h3,by rw[<-h3.len];exact h2.len (k:=1) (by decide),J⟩
def zWB(w:WB)(B0 P:Nat)(is:List (Bool×List Nat))(k:Nat)(W:WB):Prop:=
 zAJ W B0 (zCt is k)/\Boxed W P 135 (pO B0 0)/\jD W w.heap.size 26 #[.bool false, sN]/\bW w W/\P+2<=W.heap.size
theorem zIj(w:WB)(B0 P:Nat)(is:List (Bool×List Nat)){C:Nat}(O:w.heap.size<=C):OwnFrom C (zWB w B0 P is):=by
 rintro k W W' row ⟨U,h2,h3,h4,h5⟩ I J
 exact⟨U.abide I J,qZ h2 I J,h3.abide I J,zAB h4 I (vP _) O J,xQ h5 I.size⟩
theorem zPu(A:Option Addr)(n c:Nat)(is:List (Bool×List Nat))(M:Nat)(w:WB)(h:IRd w A n is)(hn:n<=c)(hc:c<=9223372036854775807)(hM:M<=40000)(hv:∀k,(zEF is k).natAbs<BB^M)(hp:∀k,k<=n->(zCt is k).natAbs<BB^M)(hnn:n<=1000000:=by first|omega|decide):
  Calls prog 104 #[.slice A n c] w (q6 w (zCt is n)):=by
 refine jC func104 rfl ?_
 simp only[ntmps104,bP,lW,mR,Nat.reduceAdd,Nat.reduceSub,mS,mT,mU,mV,lT,mO]
 go_wp2_with (first|(go_at_call 76;refine(zVv _).mono ?_;rintro e w1 ⟨A1,n1,c1,l1,rfl,hi1,hr1,hn1,hb1⟩)|(go_at_call 125;refine(zFx false A1 n1 c1 l1 _ hr1 hi1.lt oA).mono ?_;rintro e w2 ⟨B0,rfl,hB0,hn0,hb0⟩)|(go_at_call 126;refine(zOV A n c _).mono ?_;rintro e w3 ⟨rfl,rfl⟩))
 have hiv0:iv false l1=1:=by unfold iv;rw[hi1.val];rfl
 rw[hiv0]at hn0
 obtain⟨W0,hW0⟩:∃W0,((w2.alloc (.cells #[pO B0 0] 135)).alloc (.cells #[.slice A n c] 109))=W0:=⟨_,rfl⟩
 have hsz:W0.heap.size=w2.heap.size+2:=by rw[<-hW0];simp
 have hB0l:=hn0.lt
 have hbw1:bW w w1:=((xF _ w).alloc (vP _) _).trans (hb1.mono fC)
 have hsz1:w.heap.size<w1.heap.size:=vU fC hb1.size
 have hB0g:w.heap.size<B0:=vU hsz1 hB0
 have hbw2:bW w w2:=hbw1.trans (hb0.mono hbw1.size)
 have hB1:bW w W0:=by rw[<-hW0];exact(hbw2.alloc hbw2.size _).alloc (by simp;exact Nat.le_succ_of_le hbw2.size) _
 have x0:zAJ W0 B0 1:=by rw[<-hW0];exact hn0.kept (((xF _ w2).alloc (vP _) _).alloc fC _)
 have x1:Boxed W0 w2.heap.size 135 (pO B0 0):=by rw[<-hW0];exact(bZ w2 _ _).alloc _
 have x2:Boxed W0 (w2.heap.size+1) 109 (.slice A n c):=by rw[<-hW0];exact zAI _ _ _ fC
 have x3:jD W0 w.heap.size 26 #[.bool false, sN]:=by rw[<-hW0];exact(((zLL hb1 rfl).kept hb0).alloc _).alloc _
 rw[hW0]
 clear hW0
 have hSb:∀b,(b<w.heap.size∨b=w2.heap.size+1)->b<W0.heap.size:=fun b hb=>by have:=hbw2.size;omega
 refine zCS (gf:=145) rfl (enters_of func145 kA rfl) (zJd A n c is (w2.heap.size+1) w W0 h hB1 hn hc x2.cell (S:=fun b=>b<w.heap.size∨b=w2.heap.size+1) hSb (.inr rfl) (fun b hb=>.inl hb)) ?hE ?hps zF9.trans (zHH hSb)
  (zWB w B0 w2.heap.size is) (zIj w B0 _ is hB1.size) (zBU (zIj w B0 _ is (vP _))) wS (fun _ _ _ _ _ _ _ _=>trivial) ⟨x0,x1,x3,hB1,nX hsz.symm⟩
  (fun xs=>{ tmps:=#[.slice A n c,undef,pO w.heap.size 0,pO w2.heap.size 0,xs.getD 0 undef,.agg #[.bool false,.slice A1 n1 c1],pO B0 0,.slice A n c,.func (.func 145) #[] #[.pointer (some ⟨w2.heap.size+1,0,none⟩)],xs.getD 0 undef,undef,undef,undef,undef,undef,undef,undef],defers:=[] }) ?assign ?body ?done
 case hE=>
  rintro k xs W l o o' ⟨B,rfl,h1,h2⟩ ho hc
  exact⟨B,rfl,h1,h2.abide (C:=0) (eU W l o') (fun r e=>by cases e;exact⟨vR _,o,ho,hc⟩)⟩
 case hps=>
  rintro k xs W ⟨B,rfl,_⟩
  rfl
 case assign=>
  rintro lp k xs W K ⟨B,rfl,h1,h2⟩ hK
  gi_wp2
  exact hK
 case body=>
  rintro lp k xs W hk ⟨h1,h2,h3,h4,h5⟩ ⟨B,rfl,hB,hnb⟩
  have hc2:=h2.cell
  have hne:B≠B0:=by omega
  have hkm:k<=1000000:=by omega
  have hbd:=hp k (nL hk)
  have hbd2:=hv k
  gi_wp2_with (gi_at_call 128;refine bG (xZ.2 (zTM B0 B _ _ M W h1 hnb hbd hbd2 hM)) ?_;rintro e w3 ⟨⟨u,rfl⟩,hn3,hg3⟩)
  have hbx:∃vs t,jD W B0 t vs:=by obtain⟨_,_,_,_,g,_⟩:=h1;exact⟨_,_,g⟩
  obtain⟨vs,t,g⟩:=hbx
  refine⟨(eH hg3 (fun j o e ho=>by cases e;rw[show W.heap[B0]?=_ from g]at ho;cases ho;rfl)).from _,⟨(yZ.refl _ _).grown hg3 (fun b hb=>⟨by have:=hSb b hb;omega,fun e=>by cases e;omega⟩),hg3.size⟩,hn3,h2.kept hg3 (fun e=>by cases e;omega),(hg3.block _ h3.lt (fun e=>by cases e;omega)).trans h3,zAY h4 hg3 h4.size oA,xQ h5 hg3.size⟩
 case done=>
  rintro D W hD ⟨h1,h2,h3,h4,h5⟩ _ hd
  obtain⟨A2,n2,c2,l2,⟨g0,g1⟩,hi2,hr2⟩:=h1.parts
  have hc2:=h2.cell
  obtain⟨⟨q0,q1⟩,q2,q3⟩:=h3.facts2
  go_wp2
  have hb5:=(h3.set 0 (.bool (decide (zCt is n<0)))).set 1 (.slice A2 n2 c2)
  have hM:Marks w.heap.size ((W.setCell ⟨w.heap.size,0,none⟩ (.bool (decide (zCt is n<0)))).setCell ⟨w.heap.size,1,none⟩ (.slice A2 n2 c2)) [mark D] [D]:=((Marks.nil w.heap.size W).more (D:=D) fC (by have:=hB1.size;omega) hd).others ((bO _ _ _).trans (bO _ _ _))
  obtain⟨A3,n3,c3,l3,e3,hi3,hr3,hb3⟩:=zIt h3 h4 (vP _) hi2 hr2
  cases e3
  refine qH _ (v:=.agg #[.bool (decide (zCt is n<0)),.slice A2 n2 c2]) (fun w' ho'=>?_) [D] _ _ hM (Oth.refl _ _) ?_
  .obtain⟨⟨c0,c1⟩,_,_⟩:=(hb5.oth ho').facts2
   simp[results,results104,go_sem,c0,c1]
  .intro w' ho
   exact⟨A2,n2,c2,l3,rfl,hi3,hr3.oth ho,zAj hb3 ho (vP _)⟩
def Bd(k:Int)(m:Nat):Prop:=k.natAbs<BB^m
theorem Bd.mono(h:Bd k m)(I:m<=m'):Bd k m':=vU h (vZ qC I)
theorem Bd.add{a b:Int}(h:Bd a m)(h':Bd b m):Bd (a+b) (m+1):=by
 unfold Bd at*
 rw[vY]
 unfold BB at*
 omega
theorem Bd.neg{a:Int}(h:Bd a m):Bd (-a) m:=by
 unfold Bd at*
 rwa [Int.natAbs_neg]
theorem Bd.sub{a b:Int}(h:Bd a m)(I:Bd b m):Bd (a-b) (m+1):=by
 rw[Int.sub_eq_add_neg]
 exact h.add I.neg
theorem Bd.mul{a b:Int}(h:Bd a m)(I:Bd b n):Bd (a*b) (m+n):=by
 unfold Bd at*
 rw[Int.natAbs_mul,uA]
 exact pN h (nL I) (uN qC)
theorem UV.bd{v:Value}(h:UV W m v k):Bd k m:=h.bound
theorem NV.uv'{v:Value}(h:NV W v k){m:Nat}(I:Bd k m):UV W m v k:=h.uv I
def ISV(W:WB)(m:Nat)(v:Value)(ks:List Int):Prop:=∃is:List (Bool×List Nat),IS W m v is/\is.map (fun p=>iv p.1 p.2)=ks
theorem ISV.below{W':WB}{v:Value}(h:ISV W m v ks)(hb:bW W W'):ISV W' m v ks:=by
 obtain⟨is,I,h2⟩:=h
 exact⟨is,I.below hb,h2⟩
theorem zRj{s:Bool}{A:Option Addr}{c:Nat}(h:UV W m (.agg #[.bool s,.slice A n c]) k):∃l,Rd W A n c l/\Lt l/\n<=m/\iv s l=k:=by
 obtain⟨s',A',n',c',l,I,J,h2,h3,O⟩:=h
 injection I with I
 injection I with I
 injection I with e1 I
 injection I with e2 _
 injection e1 with e1
 injection e2 with f1 f2 f3
 subst e1;subst f1;subst f2;subst f3
 exact⟨l,J,h2,h3,O⟩
theorem ISV.two{s:Bool}{A:Option Addr}{c:Nat}(h:UV W m (.agg #[.bool s,.slice A n c]) k){s':Bool}{A':Option Addr}{n' c':Nat}{k':Int}(h':UV W m (.agg #[.bool s',.slice A' n' c']) k')(t:TypeId):
  ISV (W.alloc (.cells #[.bool s,.slice A n c,.bool s',.slice A' n' c'] t)) m (.slice (some ⟨W.heap.size,0,none⟩) 2 2) [k,k']:=by
 obtain⟨l,U,h2,h3,rfl⟩:=zRj h
 obtain⟨l',O,J,I,rfl⟩:=zRj h'
 exact⟨[(s,l),(s',l')],IS.two U h2 h3 O J I t,rfl⟩
theorem zFZ(is:List (Bool×List Nat)):∀k,k<=is.length->zEt is k=((is.take k).map fun p=>iv p.1 p.2).sum
 |0,_=>rfl
 |k+1,h=>by
  have I:=zFZ is k oA
  show zEt is k+zEF is k=_
  rw[I,mN oA,rR,sI]
  unfold zEF
  rw[nG oA]
  simp
theorem zEG(is:List (Bool×List Nat)):∀k,k<=is.length->zCt is k=((is.take k).map fun p=>iv p.1 p.2).foldl (·*·) 1
 |0,_=>rfl
 |k+1,h=>by
  have I:=zEG is k oA
  show zCt is k*zEF is k=_
  rw[I,mN oA,rR,List.foldl_append]
  unfold zEF
  rw[nG oA]
  simp
theorem zHP{m:Nat}{w:WB}{A:Option Addr}{n:Nat}{is:List (Bool×List Nat)}(h:IRdM m w A n is):∀k,Bd (zCt is k) (m*k+1)
 |0=>by
  show(1:Int).natAbs<BB^(0+1)
  decide
 |k+1=>by
  have I:=(zHP h k).mul (show Bd (zEF is k) m from zHJ h k)
  show Bd (zCt is k*zEF is k) _
  exact I.mono (by rw[uG];omega)
theorem zYb{v:Value}(h:ISV W m v ks)(I:m<=100000)(J:ks.length<=1000)(U:ks.sum=k):Calls prog 103 #[v] W (zH8 W k):=by
 obtain⟨is,O,h2⟩:=h
 have:=zYc O I (by rw[<-h2,bC]at J;omega)
 rw[zFZ is is.length (vP _),rU,h2,U]at this
 exact this
theorem zNT{v:Value}(h:ISV W m v ks)(O:m*ks.length+m+1<=40000)(J:ks.foldl (·*·) 1=k)(hl:ks.length<=1000):Calls prog 104 #[v] W (zH8 W k):=by
 obtain⟨is,⟨A,c,rfl,h3,U,I⟩,h2⟩:=h
 have hl2:is.length=ks.length:=by rw[<-h2,bC]
 have:=(zPu A is.length c is (m*ks.length+m+1) W (IRdM.mono I oA) h3 U O (fun k=>vU (zHJ I k) (vZ qC oA)) (fun k J=>(zHP I k).mono (by
  have:m*k<=m*ks.length:=uR _ oA
  omega))).mono fun _ _=>q6.v
 rw[zEG is is.length (vP _),rU,h2,J]at this
 exact this
theorem zIS(n:Int)(d:Nat):(mkRat n d).num.natAbs<=n.natAbs:=by
 rw[Rat.num_mkRat]
 split
 .simp
 .have I:((d.gcd n.natAbs:Nat):Int)∣n:=Int.natAbs_dvd_natAbs.1 (by simpa using gY d n.natAbs)
  rw[Int.natAbs_ediv_of_dvd I]
  simp only[rY]
  exact rP _ _
theorem zIT(n:Int)(d:Nat)(h:0<d):(mkRat n d).den<=d:=by
 rw[Rat.den_mkRat,if_neg oA]
 exact rP _ _
theorem zEb(n:Int)(d:Nat)(h:0<d):(mkRat n d).num.natAbs=n.natAbs/Nat.gcd n.natAbs d:=by
 rw[Rat.num_mkRat,if_neg oA]
 have I:((d.gcd n.natAbs:Nat):Int)∣n:=Int.natAbs_dvd_natAbs.1 (by simpa using gY d n.natAbs)
 rw[Int.natAbs_ediv_of_dvd I,uP]
 simp only[rY]
theorem zC5(n:Int)(d:Nat)(h:0<d):(mkRat n d).den=d/Nat.gcd n.natAbs d:=by
 rw[Rat.den_mkRat,if_neg oA,uP]
theorem zCJ(n:Int)(d:Nat)(h:0<d):decide ((mkRat n d).num<0)=decide (n<0):=by
 have I:=@Rat.divInt_nonneg_iff_of_pos_right n d oA
 rw[sJ,<-sD]at I
 rw[rS]
 omega
def QB(q:Rat)(m:Nat):Prop:=Bd q.num m/\q.den<BB^m
theorem QB.mono(h:QB q m)(I:m<=m'):QB q m':=⟨h.1.mono I,vU h.2 (vZ qC I)⟩
theorem vF{d:Nat}(J:Bd k m)(I:d<BB^m)(hm:0<m):QB (mkRat k d) m:=by
 refine⟨nF (zIS k d) J,?_⟩
 rcases uH d with rfl|h
 .rw[rZ]
  show 1<BB^m
  exact Nat.one_lt_pow oA (by unfold BB;omega)
 .exact nF (zIT k d h) I
theorem QB.pos(h:QB q m):0<m:=by
 rcases uH m with rfl|I
 .have:=h.2
  rw[Nat.pow_zero]at this
  have:=q.den_pos
  omega
 .exact I
theorem jI{x:Nat}(h:x<BB^m):Bd (x:Int) m:=by unfold Bd;rwa [rY]
theorem zEB{a b:Nat}(h:a<BB^m)(I:b<BB^n):a*b<BB^(m+n):=by
 rw[uA]
 exact pN h (nL I) (uN qC)
theorem QB.num_add{p:Rat}(h:QB p m)(I:QB q n):Bd (p.num*q.den+q.num*p.den) (m+n+1):=
 (h.1.mul (jI I.2)).add ((I.1.mul (jI h.2)).mono oA)
theorem QB.den_mul{p:Rat}(h:QB p m)(I:QB q n):p.den*q.den<BB^(m+n):=zEB h.2 I.2
theorem QB.add{p:Rat}(h:QB p m)(I:QB q n):QB (p+q) (m+n+1):=by
 rw[Rat.add_def']
 exact vF (h.num_add I) (vU (h.den_mul I) (vZ qC oA)) oA
theorem QB.mul{p:Rat}(h:QB p m)(I:QB q n):QB (p*q) (m+n):=by
 rw[Rat.mul_def']
 exact vF (h.1.mul I.1) (h.den_mul I) (by have:=h.pos;omega)
theorem QB.neg(h:QB q m):QB (-q) m:=⟨by rw[Rat.neg_num];exact h.1.neg,h.2⟩
theorem QB.sub{p:Rat}(h:QB p m)(I:QB q n):QB (p-q) (m+n+1):=by
 rw[sK]
 exact h.add I.neg
theorem zD6(h:0<m):1<BB^m:=Nat.one_lt_pow oA (by unfold BB;omega)
theorem QB.int{z:Int}(h:Bd z m)(I:0<m):QB (z:Rat) m:=⟨h,zD6 I⟩
theorem zS9(p q:Rat):p.num*q.den-q.num*p.den<0↔p<q:=by rw[Rat.lt_iff];omega
theorem zPS(p q:Rat):p.num*q.den-q.num*p.den=0↔p=q:=by rw[Rat.eq_iff_mul_eq_mul];omega
def qsg(p q:Rat):Int:=(p.num*q.den-q.num*p.den).sign
theorem zKH{p:Rat}:qsg p q= -1↔p<q:=by
 unfold qsg
 rw[<-zS9,Int.sign_eq_neg_one_iff_neg]
theorem zCQ{p:Rat}:qsg p q=0↔p=q:=by
 unfold qsg
 rw[<-zPS,Int.sign_eq_zero_iff_zero]
theorem zTr(p q:Rat):qsg q p= - qsg p q:=by
 unfold qsg
 rw[<-Int.sign_neg]
 congr 1
 omega
theorem zKI{p:Rat}:qsg p q=1↔q<p:=by
 rw[<-zKH,zTr p q]
 omega
theorem zHp(p q:Rat):qsg p q= -1∨qsg p q=0∨qsg p q=1:=by
 unfold qsg
 have:=Int.sign_trichotomy (p.num*q.den-q.num*p.den)
 omega
abbrev V2:=Rat×Rat
variable {A c l l':List V2}{a b p u w x y z:V2}{E F:List (V2×V2)}{e:V2×V2}
structure Aff where
 a:Rat
 b:Rat
 c:Rat
variable {g:Aff}
def Aff.v(f:Aff)(p:V2):Rat:=f.a*p.1+f.b*p.2+f.c
def crs(a b p:V2):Rat:=(b.1-a.1)*(p.2-a.2)-(b.2-a.2)*(p.1-a.1)
def lin(a b:V2):Aff:=⟨-(b.2-a.2),b.1-a.1,(b.2-a.2)*a.1-(b.1-a.1)*a.2⟩
theorem yR(a b p:V2):(lin a b).v p=crs a b p:=by unfold lin Aff.v crs;grind
theorem zWL{O U J p4 v1 v2 v3 v4:Rat}(h1:0<=O)(h2:0<=U)(h3:0<=J)(h4:0<=p4)(hs:0<O+U+J+p4)(g1:O≠0->0<v1)(g2:U≠0->0<v2)(g3:J≠0->0<v3)(g4:p4≠0->0<v4):0<O*v1+U*v2+J*v3+p4*v4:=by
 have I:∀{p v:Rat},0<=p->(p≠0->0<v)->0<=p*v/\(0<p->0<p*v):=fun {p v} hp hv=>by
  by_cases e:p=0
  .subst e;exact⟨by grind,fun h=>absurd h (by grind)⟩
  .have h5:0<p:=by grind
   have:=rC h5 (hv e)
   exact⟨by grind,fun _=>this⟩
 have k1:=I h1 g1;have k2:=I h2 g2;have k3:=I h3 g3;have k4:=I h4 g4
 by_cases e1:0<O
 .have:=k1.2 e1;grind
 by_cases e2:0<U
 .have:=k2.2 e2;grind
 by_cases e3:0<J
 .have:=k3.2 e3;grind
 have:=k4.2 (by grind);grind
theorem zCq{x:Rat}(I:0<s)(h:0<x*s):0<x:=by
 rcases(rL:x<=0∨0<=x)with J|J
 .have:=rE (show 0<=-x by grind) (rG I)
  grind
 .by_cases e:x=0
  .subst e;grind
  .grind
def at_(l:List V2)(i:Nat):V2:=l.getD i (0,0)
abbrev tn(l:List V2)(k:Nat):V2:=at_ l ((k+1)%l.length)
theorem zFX(h:p∈l):∃i,i<l.length/\at_ l i=p:=by
 obtain⟨i,hi,e⟩:=pA h
 exact⟨i,hi,by unfold at_;rw[rH,nG hi];exact e⟩
theorem zA7(h:i<l.length):at_ l i∈l:=by
 unfold at_;rw[rH,nG h];exact uY h
theorem zUd(f:Aff)(p q r x:V2):crs p q r*(f.v x-f.v q)=crs p q x*(f.v r-f.v q)+crs q r x*(f.v p-f.v q):=by unfold crs Aff.v;grind
def ch(R:V2->V2->Prop):List V2->Prop
 |p::q::r=>R p q/\ch R (q::r)
 |_=>True
def zY2(R:V2->V2->Prop)(l:List V2):Prop:=∃p t,l=p::t/\ch R (p::(t++ [p]))
def seg(p q:V2)(t:Rat):V2:=(p.1+(q.1-p.1)*t,p.2+(q.2-p.2)*t)
def zY1(z p q:V2):Prop:=0<crs p q z
def zXh(f:Aff):Aff:=⟨-f.a,-f.b,-f.c⟩
theorem zNS(f:Aff)(p:V2):(zXh f).v p= -f.v p:=by unfold zXh Aff.v;grind
theorem zLr{q r:V2}(h:a≠b)(hp:crs a b p=0)(hq:crs a b q=0)(hr:crs a b r=0):crs p q r=0:=by
 have J:a.1≠b.1∨a.2≠b.2:=by
  by_cases e:a.1=b.1
  .exact .inr fun e'=>h (rF e e')
  .exact .inl e
 unfold crs at*
 rcases J with h|h
 .have:(b.1-a.1)*((q.1-p.1)*(r.2-p.2)-(q.2-p.2)*(r.1-p.1))=0:=by grind
  rcases rI.1 this with I|I
  .grind
  .exact I
 .have:(b.2-a.2)*((q.1-p.1)*(r.2-p.2)-(q.2-p.2)*(r.1-p.1))=0:=by grind
  rcases rI.1 this with I|I
  .grind
  .exact I
def zCa(l:List V2)(k:Nat):List V2:=l.drop k++l.take k
theorem zAv(l:List V2)(k:Nat):(zCa l k).length=l.length:=by simp[zCa];omega
theorem zSY(l:List V2)(k:Nat)(p:V2):p∈zCa l k↔p∈l:=by
 unfold zCa
 rw[vV,Or.comm,<-vV,gA]
theorem zDC{k:Nat}(hk:k<l.length)(hi:i<l.length):at_ (zCa l k) i=at_ l ((i+k)%l.length):=by
 unfold at_ zCa
 rw[rH,rH]
 congr 1
 by_cases h:i+k<l.length
 .rw[gB (by rw[uJ];omega),uW,uC h,gJ]
 .have e:(i+k)%l.length=i+k-l.length:=by
   rw[Nat.mod_eq_sub_mod oA,uC oA]
  rw[gD (by rw[uJ];omega),uJ,e,uT,if_pos oA]
  congr 1
  omega
def fl(q:Rat):Int:=q.num/(q.den:Int)
theorem zK4(q:Rat):(q.num:Rat)=q*(q.den:Rat):=by
 have h:=sE q
 rw[Rat.mkRat_eq_div]at h
 have hd:(q.den:Rat)≠0:=fun h=>q.den_nz (by exact_mod_cast h)
 grind
theorem vE{X D:Int}(_hm:0<m)(h:q*(D:Rat)=(X:Rat))(hD:D≠0)(hX:Bd X m)(O:Bd D m):QB q m:=by
 have e0:=zK4 q
 have e1:((q.num*D:Int):Rat)=((X*(q.den:Int):Int):Rat):=by
  rw[rV,rV,e0,<-h]
  show q*(q.den:Rat)*(D:Rat)=q*(D:Rat)*((q.den:Int):Rat)
  rw[sL]
  grind
 have e2:q.num*D=X*(q.den:Int):=by exact_mod_cast e1
 have U:q.num.natAbs*D.natAbs=X.natAbs*q.den:=by
  have:=vQ Int.natAbs e2
  rwa [Int.natAbs_mul,Int.natAbs_mul,rY]at this
 have hc:Nat.Coprime q.den q.num.natAbs:=q.reduced.symm
 have hd:q.den∣D.natAbs:=hc.dvd_of_dvd_mul_left (by rw[U];exact Nat.dvd_mul_left _ _)
 have hDp:0<D.natAbs:=Int.natAbs_pos.2 hD
 obtain⟨k,J⟩:=hd
 have I:0<k:=by
  rcases uH k with h|h;· rw[h]at J;omega
  .exact h
 refine⟨?_,nF ?_ O⟩
 .have:q.num.natAbs*k=X.natAbs:=by
   rw[J,<-vX,vS q.num.natAbs,vX,vS q.den]at U
   exact Nat.eq_of_mul_eq_mul_right q.den_pos U
  refine nF ?_ hX
  rw[<-this]
  exact Nat.le_mul_of_pos_right _ I
 .rw[J];exact Nat.le_mul_of_pos_right _ I
def PB(p:V2)(m:Nat):Prop:=QB p.1 m/\QB p.2 m
structure Ln where
 A:Int
 B:Int
 C:Int
def Ln.bd(l:Ln)(m:Nat):Prop:=Bd l.A m/\Bd l.B m/\Bd l.C m
def Ln.on(l:Ln)(p:V2):Prop:=(l.A:Rat)*p.1+(l.B:Rat)*p.2+(l.C:Rat)=0
theorem zYN(I:PB a m)(hb:PB b m):∃l:Ln,l.bd (4*m+1)/\∃s:Rat,s≠0/\∀p:V2,(l.A:Rat)*p.1+(l.B:Rat)*p.2+(l.C:Rat)=s*crs a b p:=by
 refine⟨⟨-(b.2.num*a.2.den-a.2.num*b.2.den)*(a.1.den*b.1.den),(b.1.num*a.1.den-a.1.num*b.1.den)*(a.2.den*b.2.den),b.2.num*a.1.num*(b.1.den*a.2.den)-b.1.num*a.2.num*(a.1.den*b.2.den)⟩,?_,(a.1.den:Rat)*b.1.den*(a.2.den*b.2.den),?_,fun p=>?_⟩
 .have O:=jI I.1.2;have d2:=jI I.2.2;have U:=jI hb.1.2;have J:=jI hb.2.2
  refine⟨?_,?_,?_⟩
  .exact(((((hb.2.1.mul d2).add ((I.2.1.mul J).neg.mono oA)).neg.mul (O.mul U)).mono (m':=4*m+1) oA):_)
  .exact((((hb.1.1.mul O).add ((I.1.1.mul U).neg.mono oA)).mul (d2.mul J)).mono oA)
  .exact(((hb.2.1.mul I.1.1).mul (U.mul d2)).add ((((hb.1.1.mul I.2.1).mul (O.mul J)).neg).mono oA)).mono oA
 .have:∀q:Rat,(q.den:Rat)≠0:=fun q h=>q.den_nz (by exact_mod_cast h)
  have h1:=this a.1;have h2:=this a.2;have h3:=this b.1;have h4:=this b.2
  intro h
  rcases rI.1 h with h|h<;>rcases rI.1 h with h|h<;>contradiction
 .simp only[rV,sF,Rat.intCast_neg,sL,zK4]
  unfold crs
  grind
theorem zQ7{l l':Ln}{q:V2}(hm:0<m)(O:l.bd m)(I:l'.bd m)(h1:l.on p)(h2:l.on q)(h3:l'.on p)(hq: ¬l'.on q)(h0:l.A≠0∨l.B≠0):PB p (2*m+1):=by
 unfold Ln.on at*
 have U:l.A*l'.B-l'.A*l.B≠0:=fun e=>by
  have e':(l.A:Rat)*l'.B-(l'.A:Rat)*l.B=0:=by exact_mod_cast e
  apply hq
  rcases h0 with h0|h0
  .have J:(l.A:Rat)≠0:=fun h=>h0 (by exact_mod_cast h)
   have:(l.A:Rat)*((l'.A:Rat)*q.1+(l'.B:Rat)*q.2+(l'.C:Rat))=0:=by grind
   rcases rI.1 this with h|h
   .exact absurd h J
   .exact h
  .have J:(l.B:Rat)≠0:=fun h=>h0 (by exact_mod_cast h)
   have:(l.B:Rat)*((l'.A:Rat)*q.1+(l'.B:Rat)*q.2+(l'.C:Rat))=0:=by grind
   rcases rI.1 this with h|h
   .exact absurd h J
   .exact h
 have bD:Bd (l.A*l'.B-l'.A*l.B) (2*m+1):=((O.1.mul I.2.1).add ((I.1.mul O.2.1).neg.mono oA)).mono oA
 constructor
 .refine vE (X:=l.B*l'.C-l'.B*l.C) oA ?_ U (((O.2.1.mul I.2.2).add ((I.2.1.mul O.2.2).neg.mono oA)).mono oA) bD
  simp only[rV,sF]
  grind
 .refine vE (X:=l.C*l'.A-l'.C*l.A) oA ?_ U (((O.2.2.mul I.1).add ((I.2.2.mul O.1).neg.mono oA)).mono oA) bD
  simp only[rV,sF]
  grind
theorem zWq(h:a≠b)(l:Ln)(s:Rat)(hs:s≠0)(he:∀p:V2,(l.A:Rat)*p.1+(l.B:Rat)*p.2+(l.C:Rat)=s*crs a b p):l.A≠0∨l.B≠0:=by
 apply rD
 intro O
 have hA:l.A=0:=rD fun h=>O (.inl h)
 have hB:l.B=0:=rD fun h=>O (.inr h)
 have J:=he a
 have e2:=he (a.1-(b.2-a.2),a.2+(b.1-a.1))
 rw[hA,hB]at J e2
 have z1:crs a b a=0:=by unfold crs;grind
 have z2:crs a b (a.1-(b.2-a.2),a.2+(b.1-a.1))=(b.1-a.1)*(b.1-a.1)+(b.2-a.2)*(b.2-a.2):=by unfold crs;grind
 rw[z1]at J
 have I:s*crs a b (a.1-(b.2-a.2),a.2+(b.1-a.1))=0:=by rw[<-e2,show((0:Int):Rat)=0 from rfl];rw[show((0:Int):Rat)=0 from rfl]at J;grind
 rcases rI.1 I with I|I
 .exact hs I
 .rw[z2]at I
  have U:∀x:Rat,0<=x*x/\(x*x=0->x=0):=fun x=>⟨by
   rcases(rL:0<=x∨x<=0)with h|h
   .exact rE h h
   .have:=rE (show 0<=-x by grind) (show 0<=-x by grind);grind,fun h=>by rcases rI.1 h with h|h<;>exact h⟩
  have s1:=U (b.1-a.1);have s2:=U (b.2-a.2)
  have x1:=s1.2 (by grind)
  have x2:=s2.2 (by grind)
  exact h (rF (by grind) (by grind))
structure SRing(z:V2)(l:List V2):Prop where
 nd:l.Nodup
 ring:zY2 (zY1 z) l
 strict:∀i,i<l.length->∀r,r∈l->r≠at_ l i->r≠at_ l ((i+1)%l.length)->0<crs (at_ l i) (at_ l ((i+1)%l.length)) r
theorem zJc(h:l.Nodup){i j:Nat}(hi:i<l.length)(I:j<l.length)(e:at_ l i=at_ l j):i=j:=by
 unfold at_ at e
 rw[rH,rH,nG hi,nG I]at e
 exact(List.getElem_inj h).1 e
section
variable {z:V2}{l:List V2}(S:SRing z l)(h:Aff)
include S
end
inductive PL(F:Rat->Rat):Rat->Rat->Prop
 |aff {c d:Rat} (A B:Rat) (h:∀y,c<=y->y<=d->F y=A*y+B):PL F c d
 |split {c d:Rat} (e:Rat) (h1:c<=e) (h2:e<=d) (a:PL F c e) (b:PL F e d):PL F c d
theorem PL.part{F:Rat->Rat}{c:Rat}(h:PL F c d):∀{c' d':Rat},c<=c'->c'<=d'->d'<=d->PL F c' d':=by
 induction h with
 |aff A B h=>exact fun U _ h3=>.aff A B fun y I J=>h y (rM U I) (rM J h3)
 | split e U h2 a b iha ihb=>
  intro c' d' I J O
  by_cases k1:d'<=e
  .exact iha I J k1
  .by_cases k2:e<=c'
   .exact ihb k2 J O
   .exact .split e (by grind) (by grind) (iha I (by grind) rJ) (ihb rJ (by grind) O)
theorem PL.sub{F:Rat->Rat}{c:Rat}(h:PL F c d):PL G c d->c<=d->PL (fun y=>F y-G y) c d:=by
 induction h with
 |@aff c d A B h=>
  intro g O
  induction g with
  |aff A' B' h'=>exact .aff (A-A') (B-B') fun y I J=>by rw[h y I J,h' y I J];grind
  |split e h1 h2 a b iha ihb=>exact .split e h1 h2 (iha (fun y I J=>h y I (rM J h2)) h1) (ihb (fun y I J=>h y (rM h1 I) J) h2)
 |split e h1 h2 a b iha ihb=>exact fun g O=>.split e h1 h2 (iha (g.part rJ h1 h2) h1) (ihb (g.part h1 h2 rJ) h2)
theorem PL.zero{F:Rat->Rat}{c:Rat}(h:PL F c d):c<=d->F c<0->0<=F d->∃y,c<=y/\y<=d/\F y=0:=by
 induction h with
 | @aff c d A B h=>
  intro I J h2
  rw[h c rJ I]at J
  rw[h d I rJ]at h2
  have hA:A≠0:=fun e=>by rw[e]at J h2;grind
  have h5:0<A:=by
   apply rD
   intro hn
   have k:=rE (show 0<=-A by grind) (show 0<=d-c by grind)
   grind
  have e1:A*(-B/A)= -B:=by rw[sC,rK hA]
  have low:∀{p q:Rat},A*p<=A*q->p<=q:=fun {p q} hpq=>by
   apply rD
   intro hn
   have k:=rC h5 (show 0<p-q by grind)
   grind
  have k1:c<=-B/A:=low (by rw[e1];grind)
  have k2: -B/A<=d:=low (by rw[e1];grind)
  exact⟨-B/A,k1,k2,by rw[h _ k1 k2,e1];grind⟩
 | split e J h2 a b iha ihb=>
  intro _ g1 g2
  by_cases k:0<=‹Rat->Rat› e
  .obtain⟨y,U,O,y3⟩:=iha J g1 k
   exact⟨y,U,rM O h2,y3⟩
  .obtain⟨y,U,O,y3⟩:=ihb h2 (by grind) g2
   exact⟨y,rM J U,O,y3⟩
theorem PL.order{F:Rat->Rat}{c:Rat}(hF:PL F c d)(hG:PL G c d)(J:∀y,c<=y->y<=d->F y≠G y){y z:Rat}(I:c<=y/\y<=d)(hz:c<=z/\z<=d)(h:F y<G y):F z<G z:=by
 apply rD
 intro hn
 rcases(rL:y<=z∨z<=y)with k|k
 .obtain⟨x,U,O,x3⟩:=((hF.sub hG (rM I.1 I.2)).part I.1 k hz.2).zero k (show F y-G y<0 by grind) (show 0<=F z-G z by grind)
  exact J x (rM I.1 U) (rM O hz.2) (by grind)
 .obtain⟨x,U,O,x3⟩:=((hG.sub hF (rM I.1 I.2)).part hz.1 k I.2).zero k (show G z-F z<0 by have:=J z hz.1 hz.2;grind) (show 0<=G y-F y by grind)
  exact J x (rM hz.1 U) (rM O I.2) (by grind)
def ipt(a b:V2)(y:Rat):Rat:=a.1+(b.1-a.1)*((y-a.2)/(b.2-a.2))
theorem zRT(_:a.2<b.2):ipt a b a.2=a.1:=by
 unfold ipt
 rw[show a.2-a.2=0 by grind,rW,Rat.zero_mul]
 grind
theorem zRU(h:a.2<b.2):ipt a b b.2=b.1:=by
 unfold ipt
 rw[show(b.2-a.2)/(b.2-a.2)=1 by rw[rW,Rat.mul_inv_cancel _ (by grind)]]
 grind
theorem zTV(_h:a.2<b.2)(y:Rat):ipt a b y=(b.1-a.1)/(b.2-a.2)*y+(a.1-(b.1-a.1)/(b.2-a.2)*a.2):=by
 unfold ipt
 simp only[rW]
 grind
def OnE(a b z:V2):Prop:=∃t:Rat,0<=t/\t<=1/\z=(a.1+(b.1-a.1)*t,a.2+(b.2-a.2)*t)
theorem zLi(h:a.2<b.2){y:Rat}(h1:a.2<=y)(h2:y<=b.2):OnE a b (ipt a b y,y):=by
 have I:b.2-a.2≠0:=by grind
 have e:(b.2-a.2)*((y-a.2)/(b.2-a.2))=y-a.2:=by rw[sC,rK I]
 have low:∀{p q:Rat},(b.2-a.2)*p<=(b.2-a.2)*q->p<=q:=fun {p q} hpq=>by
  apply rD
  intro hn
  have k:=rC (show 0<b.2-a.2 by grind) (show 0<p-q by grind)
  grind
 exact⟨(y-a.2)/(b.2-a.2),low (by rw[e];grind),low (by rw[e];grind),rF rfl (by show y=a.2+(b.2-a.2)*((y-a.2)/(b.2-a.2));rw[e];grind)⟩
theorem OnE.symm(h:OnE a b z):OnE b a z:=by
 obtain⟨t,h0,h1,rfl⟩:=h
 exact⟨1-t,by grind,by grind,rF (by show _=_;simp only;grind) (by show _=_;simp only;grind)⟩
structure Arc(w:Nat->V2)(F:Rat->Rat)(S:Nat->Prop)(B b t T:V2):Prop where
 pl:PL F B.2 T.2
 on:∀y,B.2<=y->y<=T.2->∃k,S k/\OnE (w k) (w (k+1)) (F y,y)
 lo:F B.2=B.1
 hi:F T.2=T.1
 bot:∀y,B.2<=y->y<=b.2->F y=ipt B b y
 top:∀y,t.2<=y->y<=T.2->F y=ipt t T y
 hb:B.2<b.2
 hb':b.2<=T.2
 ht:t.2<T.2
 ht':B.2<=t.2
theorem zVH(h:a.2<b.2)(y:Rat):(ipt a b y-b.1)*(b.2-a.2)=(b.1-a.1)*(y-b.2):=by
 have e:(y-a.2)/(b.2-a.2)*(b.2-a.2)=y-a.2:=rK (by grind)
 unfold ipt
 have:(a.1+(b.1-a.1)*((y-a.2)/(b.2-a.2))-b.1)*(b.2-a.2)=(a.1-b.1)*(b.2-a.2)+(b.1-a.1)*((y-a.2)/(b.2-a.2)*(b.2-a.2)):=by grind
 rw[this,e]
 grind
theorem zJS(h:a.2<b.2)(y:Rat):(ipt a b y-a.1)*(b.2-a.2)=(b.1-a.1)*(y-a.2):=by
 have:=zVH h y
 grind
theorem zN1{x y:Rat}(I:0<d)(h:x*d<y*d):x<y:=by
 apply rD
 intro hn
 have k:=rE (show 0<=x-y by grind) (rG I)
 grind
theorem zUg{t B s:V2}(ht:B.2<t.2)(I:B.2<s.2)(J:0<crs t B s){y:Rat}(hy:B.2<y):ipt B t y<ipt B s y:=by
 have h1:=zJS ht y
 have h2:=zJS I y
 refine zN1 (show 0<(t.2-B.2)*(s.2-B.2)from rC (by grind) (by grind)) ?_
 have h3:=rC J (show 0<y-B.2 by grind)
 generalize ipt B s y=p at*
 generalize ipt B t y=q at*
 have O:p*((t.2-B.2)*(s.2-B.2))=((s.1-B.1)*(y-B.2))*(t.2-B.2)+B.1*((t.2-B.2)*(s.2-B.2)):=by grind
 have U:q*((t.2-B.2)*(s.2-B.2))=((t.1-B.1)*(y-B.2))*(s.2-B.2)+B.1*((t.2-B.2)*(s.2-B.2)):=by grind
 rw[O,U]
 unfold crs at h3
 grind
theorem max2(a b:Rat):∃c,a<=c/\b<=c/\(c=a∨c=b):=by
 rcases(rL:a<=b∨b<=a)with h|h
 .exact⟨b,h,rJ,.inr rfl⟩
 .exact⟨a,rJ,h,.inl rfl⟩
theorem min2(a b:Rat):∃c,c<=a/\c<=b/\(c=a∨c=b):=by
 rcases(rL:a<=b∨b<=a)with h|h
 .exact⟨a,rJ,h,.inl rfl⟩
 .exact⟨b,h,rJ,.inr rfl⟩
theorem zWA{w:Nat->V2}{F:Rat->Rat}{S R:Nat->Prop}{B t T b' t' T':V2}(hF:Arc w F S B b t T)(J:Arc w G R B b' t' T')(hc:0<crs b B b'){d:Rat}(h1:d<=T.2)(h2:d<=T'.2)
  (U:∀y,B.2<y->y<=d->F y≠G y){y:Rat}(hy:B.2<y)(hy':y<=d):F y<G y:=by
 obtain⟨e1,a1,a2,a3⟩:=min2 b.2 b'.2
 obtain⟨e,O,k2,k3⟩:=min2 y e1
 have I:B.2<e:=by have:=hF.hb;have:=J.hb;grind
 have h0:F e<G e:=by
  rw[hF.bot e (rG I) (by grind),J.bot e (rG I) (by grind)]
  exact zUg hF.hb J.hb hc I
 have pF:=hF.pl.part (c':=e) (d':=y) (rG I) O (by grind)
 have pG:=J.pl.part (c':=e) (d':=y) (rG I) O (by grind)
 exact pF.order pG (fun z z1 z2 h=>U z (by grind) (by grind) h) ⟨rJ,O⟩ ⟨O,rJ⟩ h0
theorem OnE.crs(h:OnE a b z):crs a b z=0:=by
 obtain⟨t,_,_,rfl⟩:=h
 unfold Wd.crs
 grind
theorem zCn:∀(L:List (Rat×Rat)),∃d:Rat,0<d/\∀p,p∈L->0<p.1->∀e,-d<=e->e<=d->0<p.1+e*p.2
 | []=>⟨1,by decide,fun p J=>absurd J fC⟩
 | q::L=>by
  obtain⟨d,d0,hd⟩:=zCn L
  by_cases hq:0<q.1
  .have hb:∃M:Rat,0<M/\q.2<=M/\-q.2<=M:=by
    rcases(rL:0<=q.2∨q.2<=0)with k|k
    .exact⟨q.2+1,by grind,by grind,by grind⟩
    .exact⟨-q.2+1,by grind,by grind,by grind⟩
   obtain⟨M,M0,M1,M2⟩:=hb
   have e1:q.1/(2*M)*(2*M)=q.1:=rK (by grind)
   have c0:0<q.1/(2*M):=zCq (s:=2*M) (by grind) (by rw[e1];exact hq)
   generalize q.1/(2*M)=c at*
   obtain⟨m,m1,m2,m3⟩:=min2 d c
   refine⟨m,by grind,fun p J I e O U=>?_⟩
   rcases xS.1 J with rfl|J
   .have a1:=rE (show 0<=c-e by grind) (show 0<=M+p.2 by grind)
    have a2:=rE (show 0<=c+e by grind) (show 0<=M-p.2 by grind)
    have a3:=rE (show 0<=c-e by grind) (show 0<=M-p.2 by grind)
    have a4:=rE (show 0<=c+e by grind) (show 0<=M+p.2 by grind)
    grind
   .exact hd p J I e (by grind) (by grind)
  .exact⟨d,d0,fun p J I e O U=>by
    rcases xS.1 J with rfl|J
    .exact absurd I hq
    .exact hd p J I e O U⟩
def cI(e:V2×V2)(p:V2):Int:=(if e.1.2<=p.2/\p.2<e.2.2/\0<crs e.1 e.2 p then 1 else 0)-(if e.2.2<=p.2/\p.2<e.1.2/\crs e.1 e.2 p<0 then 1 else 0)
def wE(E:List (V2×V2))(p:V2):Int:=(E.map fun e=>cI e p).sum
def Clo(E:List (V2×V2)):Prop:=∀g:V2->Int,(E.map fun e=>g e.2-g e.1).sum=0
def zH9(e:V2×V2)(p q:V2):Prop:=∀z,OnE e.1 e.2 z->OnE p q z->False
theorem zH2(a b p:V2):crs b a p= -crs a b p:=by unfold crs;grind
theorem zDd(a b p:V2):cI (b,a) p= -cI (a,b) p:=by
 unfold cI
 simp only[zH2 a b p]
 have I:(-crs a b p<0)↔0<crs a b p:=by constructor<;>intro h<;>grind
 have h2:(0< -crs a b p)↔crs a b p<0:=by constructor<;>intro h<;>grind
 simp only[I,h2]
 omega
theorem zHK{P Q:Prop} [Decidable P] [Decidable Q] (h:P↔Q):(if P then(1:Int)else 0)=if Q then 1 else 0:=by
 by_cases hp:P
 .rw[if_pos hp,if_pos (h.1 hp)]
 .rw[if_neg hp,if_neg (fun I=>hp (h.2 I))]
def cU(a b p:V2):Int:=if a.2<=p.2/\p.2<b.2/\0<crs a b p then 1 else 0
theorem zI9(h:a.2<=b.2)(p:V2):cI (a,b) p=cU a b p:=by
 unfold cI cU
 have: ¬(b.2<=p.2/\p.2<a.2/\crs a b p<0):=by rintro⟨h1,h2,_⟩;grind
 simp only[this,xI]
 omega
theorem zJ3(h:b.2<=a.2)(p:V2):cI (a,b) p= -cU b a p:=by
 rw[zDd b a p,zI9 h]
theorem zDO(h:a.2=b.2)(p:V2):cI (a,b) p=0:=by
 unfold cI
 have I: ¬(a.2<=p.2/\p.2<b.2/\0<crs a b p):=by rintro⟨I,h2,_⟩;grind
 have h2: ¬(b.2<=p.2/\p.2<a.2/\crs a b p<0):=by rintro⟨I,h2,_⟩;grind
 simp only[I,h2,xI]
 rfl
theorem zOj(h:a.2<b.2)(p:V2):crs a b p=(b.2-a.2)*(ipt a b p.2-p.1):=by
 have:=zJS h p.2
 unfold crs
 grind
theorem zHN(h:a.2<b.2)(p:V2):0<crs a b p↔p.1<ipt a b p.2:=by
 rw[zOj h]
 constructor
 .intro k
  apply rD
  intro hn
  have:=rE (show 0<=b.2-a.2 by grind) (show 0<=p.1-ipt a b p.2 by grind)
  grind
 .intro k
  have:=rC (show 0<b.2-a.2 by grind) (show 0<ipt a b p.2-p.1 by grind)
  grind
theorem zHO(h:a.2<b.2)(p:V2):crs a b p<0↔ipt a b p.2<p.1:=by
 rw[zOj h]
 constructor
 .intro k
  apply rD
  intro hn
  have:=rE (show 0<=b.2-a.2 by grind) (show 0<=ipt a b p.2-p.1 by grind)
  grind
 .intro k
  have:=rC (show 0<b.2-a.2 by grind) (show 0<p.1-ipt a b p.2 by grind)
  grind
theorem zRS(h:a.2<b.2)(c d:Rat):PL (ipt a b) c d:=.aff _ _ fun y _ _=>zTV h y
def rgt(p q v:V2):Int:=if p.2<v.2/\v.2<=q.2/\crs p q v<0 then 1 else 0
theorem zRK{y x:Rat}(h1:a.2=y)(h2:b.2=y)(h:(a.1<=x/\x<=b.1)∨(b.1<=x/\x<=a.1)):OnE a b (x,y):=by
 by_cases e:a.1=b.1
 .exact⟨0,by decide,by decide,rF (by show x=a.1+(b.1-a.1)*0;grind) (by show y=a.2+(b.2-a.2)*0;grind)⟩
 .have I:b.1-a.1≠0:=by grind
  have O:(x-a.1)/(b.1-a.1)*(b.1-a.1)=x-a.1:=rK I
  refine⟨(x-a.1)/(b.1-a.1),?_,?_,rF (by show x=a.1+(b.1-a.1)*((x-a.1)/(b.1-a.1));rw[sC,O];grind) (by show y=a.2+(b.2-a.2)*((x-a.1)/(b.1-a.1));rw[h1,h2];grind)⟩
  .apply rD
   intro J
   generalize(x-a.1)/(b.1-a.1)=t at*
   rcases h with h|h
   .have:=rC (show 0< -t by grind) (show 0<b.1-a.1 by grind)
    grind
   .have:=rC (show 0< -t by grind) (show 0<a.1-b.1 by grind)
    grind
  .apply rD
   intro J
   generalize(x-a.1)/(b.1-a.1)=t at*
   rcases h with h|h
   .have:=rC (show 0<t-1 by grind) (show 0<b.1-a.1 by grind)
    grind
   .have:=rC (show 0<t-1 by grind) (show 0<a.1-b.1 by grind)
    grind
theorem zSe{q:V2}(J:a.2<b.2)(I:p.2<q.2)(hm:zH9 (a,b) p q):cU a b p-cU a b q=rgt p q b-rgt p q a:=by
 have hF:=zRS J;have hG:=zRS I
 have h5:∀y z,a.2<=y->y<=b.2->p.2<=y->y<=q.2->a.2<=z->z<=b.2->p.2<=z->z<=q.2->ipt p q y<ipt a b y->ipt p q z<ipt a b z:=by
  intro y z y1 y2 y3 y4 z1 z2 z3 z4 h
  obtain⟨c,c1,c2,c3⟩:=max2 a.2 p.2
  obtain⟨d,d1,d2,d3⟩:=min2 b.2 q.2
  have hy:c<=y/\y<=d:=by grind
  have hz:c<=z/\z<=d:=by grind
  refine PL.order (hG c d) (hF c d) (fun x x1 x2 e=>?_) hy hz h
  have a1:a.2<=x:=rM c1 x1
  have a2:x<=b.2:=rM x2 d1
  have a3:p.2<=x:=rM c2 x1
  have a4:x<=q.2:=rM x2 d2
  exact hm (ipt a b x,x) (zLi J a1 a2) (by rw[<-e];exact zLi I a3 a4)
 unfold cU rgt
 have U:=zHN J p;have h1:=zHN J q
 have h4:=zHO I b;have h0:=zHO I a
 have ep:=zRT I;have eq:=zRU I;have ea:=zRT J;have eb:=zRU J
 rw[<-ep]at U;rw[<-eq]at h1;rw[<-eb]at h4;rw[<-ea]at h0
 simp only[U,h1,h4,h0]
 by_cases hS:∃y,a.2<=y/\y<=b.2/\p.2<=y/\y<=q.2/\ipt p q y<ipt a b y
 .obtain⟨y,y1,y2,y3,y4,y5⟩:=hS
  have O:∀z,a.2<=z->z<=b.2->p.2<=z->z<=q.2->ipt p q z<ipt a b z:=fun z z1 z2 z3 z4=>h5 y z y1 y2 y3 y4 z1 z2 z3 z4 y5
  have i1:(a.2<=p.2/\p.2<b.2/\ipt p q p.2<ipt a b p.2)↔(a.2<=p.2/\p.2<b.2):=⟨fun h=>⟨h.1,h.2.1⟩,fun h=>⟨h.1,h.2,O _ h.1 (by grind) rJ (by grind)⟩⟩
  have i2:(a.2<=q.2/\q.2<b.2/\ipt p q q.2<ipt a b q.2)↔(a.2<=q.2/\q.2<b.2):=⟨fun h=>⟨h.1,h.2.1⟩,fun h=>⟨h.1,h.2,O _ h.1 (by grind) (by grind) rJ⟩⟩
  have i3:(p.2<b.2/\b.2<=q.2/\ipt p q b.2<ipt a b b.2)↔(p.2<b.2/\b.2<=q.2):=⟨fun h=>⟨h.1,h.2.1⟩,fun h=>⟨h.1,h.2,O _ (by grind) rJ (by grind) h.2⟩⟩
  have i4:(p.2<a.2/\a.2<=q.2/\ipt p q a.2<ipt a b a.2)↔(p.2<a.2/\a.2<=q.2):=⟨fun h=>⟨h.1,h.2.1⟩,fun h=>⟨h.1,h.2,O _ rJ (by grind) (by grind) h.2⟩⟩
  simp only[i1,i2,i3,i4]
  clear h5 O U h1 h4 h0 ep eq ea eb i1 i2 i3 i4 hF hG hm y5
  by_cases k1:a.2<=p.2<;>by_cases k2:p.2<b.2<;>by_cases k3:a.2<=q.2<;>by_cases k4:b.2<=q.2<;>(
   have e1:(p.2<a.2)↔ ¬(a.2<=p.2):=by constructor<;>intro h<;>grind
   have e2:(q.2<b.2)↔ ¬(b.2<=q.2):=by constructor<;>intro h<;>grind
   simp only[e1,e2,k1,k2,k3,k4,not_true_eq_false,sO,nR,and_false,cG,xI]
   all_goals first|rfl|(exfalso;grind))
 .have no:∀z,a.2<=z->z<=b.2->p.2<=z->z<=q.2-> ¬ipt p q z<ipt a b z:=fun z z1 z2 z3 z4 h=>hS ⟨z,z1,z2,z3,z4,h⟩
  rw[if_neg (fun h=>no _ h.1 (by grind) rJ (by grind) h.2.2),if_neg (fun h=>no _ h.1 (by grind) (by grind) rJ h.2.2),if_neg (fun h=>no _ (by grind) rJ (by grind) h.2.1 h.2.2),if_neg (fun h=>no _ rJ (by grind) (by grind) h.2.1 h.2.2)]
theorem zH9.swap{q:V2}(h:zH9 (a,b) p q):zH9 (b,a) p q:=fun z I h2=>h z I.symm h2
theorem zH9.back{q:V2}(h:zH9 e p q):zH9 e q p:=fun z I h2=>h z I h2.symm
theorem zWu{q:V2}(I:p.2<q.2)(J:zH9 e p q):cI e p-cI e q=rgt p q e.2-rgt p q e.1:=by
 obtain⟨a,b⟩:=e
 rcases(by grind:a.2<b.2∨b.2<a.2∨a.2=b.2)with h|h|h
 .rw[zI9 (rG h),zI9 (rG h)]
  exact zSe h I J
 .rw[zJ3 (rG h),zJ3 (rG h)]
  have:=zSe h I J.swap
  show -cU b a p - -cU b a q=rgt p q b-rgt p q a
  omega
 .rw[zDO h,zDO h]
  show(0:Int)-0=rgt p q b-rgt p q a
  have O:=zHO I a;have hb:=zHO I b
  unfold rgt
  simp only[O,hb,h]
  by_cases k:p.2<b.2/\b.2<=q.2
  .have no: ¬((a.1<=ipt p q b.2/\ipt p q b.2<=b.1)∨(b.1<=ipt p q b.2/\ipt p q b.2<=a.1)):=fun U=>J (ipt p q b.2,b.2) (zRK h rfl U) (zLi I (by grind) k.2)
   have:(ipt p q b.2<b.1)↔(ipt p q b.2<a.1):=by constructor<;>intro g<;>grind
   simp only[this]
   try omega
  .rw[if_neg (fun g=>k ⟨g.1,g.2.1⟩),if_neg (fun g=>k ⟨g.1,g.2.1⟩)]
theorem zWv{q:V2}(I:p.2=q.2)(J:zH9 e p q):cI e p=cI e q:=by
 have up:∀a b:V2,a.2<b.2->zH9 (a,b) p q->cU a b p=cU a b q:=by
  intro a b h J
  unfold cU
  have U:=zHN h p;have h2:=zHN h q
  simp only[U,h2,I]
  by_cases k:a.2<=q.2/\q.2<b.2
  .have no: ¬((p.1<=ipt a b q.2/\ipt a b q.2<=q.1)∨(q.1<=ipt a b q.2/\ipt a b q.2<=p.1)):=fun O=>J (ipt a b q.2,q.2) (zLi h k.1 (by grind)) (zRK I rfl O)
   exact zHK ⟨fun g=>⟨g.1,g.2.1,by grind⟩,fun g=>⟨g.1,g.2.1,by grind⟩⟩
  .rw[if_neg (fun g=>k ⟨g.1,g.2.1⟩),if_neg (fun g=>k ⟨g.1,g.2.1⟩)]
 obtain⟨a,b⟩:=e
 rcases(by grind:a.2<b.2∨b.2<a.2∨a.2=b.2)with h|h|h
 .rw[zI9 (rG h),zI9 (rG h),up a b h J]
 .rw[zJ3 (rG h),zJ3 (rG h),up b a h J.swap]
 .rw[zDO h,zDO h]
theorem zMF(E:List (V2×V2)){p q:V2}(I:p.2<q.2)(J:∀e,e∈E->zH9 e p q):wE E p-wE E q=(E.map fun e=>rgt p q e.2-rgt p q e.1).sum:=by
 induction E with
 |nil=>rfl
 |cons e E ih=>
  have h1:=zWu I (J e fC)
  have h2:=ih fun e O=>J e (by simp[O])
  unfold wE at*
  simp only[xX,nI]at*
  omega
theorem zCU(O:Clo E){p q:V2}(I:∀e,e∈E->zH9 e p q):wE E p=wE E q:=by
 rcases(by grind:p.2<q.2∨q.2<p.2∨p.2=q.2)with h|h|h
 .have:=zMF E h I
  rw[O (rgt p q)]at this
  omega
 .have:=zMF E h fun e J=>(I e J).back
  rw[O (rgt q p)]at this
  omega
 .unfold wE
  exact vQ List.sum (List.map_congr_left fun e J=>zWv h (I e J))
theorem zLy(a b c p:V2):crs b c p+crs c a p+crs a b p=crs a b c:=by unfold crs;grind
theorem zFl(a b c p:V2):crs b c p*(a.2-p.2)+crs c a p*(b.2-p.2)+crs a b p*(c.2-p.2)=0:=by unfold crs;grind
def zEu(a b c:V2):List (V2×V2):=[(a,b),(b,c),(c,a)]
theorem zSB{A:Rat}(h:al*A+be*B+ga*C=0)(hs:0<al+be+ga)(hA:A<=0)(hC:C<=0)(I:0<B):
  (0<al->0<be->0<ga->(if 0<ga then(1:Int)else 0)-(if al<0 then 1 else 0)=1)/\(al<0∨be<0∨ga<0->(if 0<ga then(1:Int)else 0)-(if al<0 then 1 else 0)=0):=by
 refine⟨fun h1 h2 h3=>?_,fun ho=>?_⟩
 .rw[if_pos h3,if_neg (by grind)];rfl
 .by_cases g:0<ga
  .by_cases a:al<0
   .rw[if_pos g,if_pos a];rfl
   .exfalso
    have U:=rE (show 0<=al by grind) (show 0<=-A by grind)
    have O:=rE (show 0<=ga by grind) (show 0<=-C by grind)
    have J:be<0:=by grind
    have:=rC (show 0< -be by grind) I
    grind
  .by_cases a:al<0
   .exfalso
    have U:=rE (show 0<=-al by grind) (show 0<=-A by grind)
    have O:=rE (show 0<=-ga by grind) (show 0<=-C by grind)
    have J:0<be:=by grind
    have:=rC J I
    grind
   .rw[if_neg g,if_neg a];rfl
theorem zSC{A:Rat}(h:al*A+be*B+ga*C=0)(hs:0<al+be+ga)(O:0<A)(I:0<C)(hB:B<=0):
  (0<al->0<be->0<ga->(if 0<al then(1:Int)else 0)-(if ga<0 then 1 else 0)=1)/\(al<0∨be<0∨ga<0->(if 0<al then(1:Int)else 0)-(if ga<0 then 1 else 0)=0):=by
 refine⟨fun J h2 h3=>?_,fun ho=>?_⟩
 .rw[if_pos J,if_neg (by grind)];rfl
 .by_cases g:0<al
  .by_cases a:ga<0
   .rw[if_pos g,if_pos a];rfl
   .exfalso
    have k1:=rC g O
    have U:=rE (show 0<=ga by grind) (show 0<=C by grind)
    have k3:be<0:=by grind
    have:=rE (show 0<=-be by grind) (show 0<=-B by grind)
    grind
  .by_cases a:ga<0
   .exfalso
    have k1:=rE (show 0<=-al by grind) (show 0<=A by grind)
    have U:=rC (show 0< -ga by grind) I
    have k3:0<be:=by grind
    have:=rE (show 0<=be by grind) (show 0<=-B by grind)
    grind
   .rw[if_neg g,if_neg a];rfl
theorem zEM(h:(a.2<=p.2/\b.2<=p.2)∨(p.2<a.2/\p.2<b.2)):cI (a,b) p=0:=by
 unfold cI
 rw[if_neg (by rintro⟨I,h2,_⟩;grind),if_neg (by rintro⟨I,h2,_⟩;grind)]
 rfl
theorem zOP(h1:a.2<=p.2)(h2:p.2<b.2):cI (a,b) p=if 0<crs a b p then 1 else 0:=by
 unfold cI
 rw[if_neg (c:=_/\_/\crs _ _ _<0) (by rintro⟨h1,h2,_⟩;grind),zHK (Q:=0<crs a b p) ⟨fun h=>h.2.2,fun h=>⟨h1,h2,h⟩⟩]
 omega
theorem zOQ(h1:b.2<=p.2)(h2:p.2<a.2):cI (a,b) p= -(if crs a b p<0 then 1 else 0):=by
 unfold cI
 rw[if_neg (c:=_/\_/\0<crs _ _ _) (by rintro⟨h1,h2,_⟩;grind),zHK (P:=_/\_/\crs _ _ _<0) (Q:=crs a b p<0) ⟨fun h=>h.2.2,fun h=>⟨h1,h2,h⟩⟩]
 omega
theorem zGV(a b c p:V2):wE (zEu b c a) p=wE (zEu a b c) p:=by unfold wE zEu;simp;omega
theorem zMv{c:V2}(h:0<crs a b c)(p:V2):(0<crs b c p->0<crs c a p->0<crs a b p->wE (zEu a b c) p=1)/\(crs b c p<0∨crs c a p<0∨crs a b p<0->wE (zEu a b c) p=0):=by
 have top:∀a b c:V2,0<crs a b c->a.2<=p.2->p.2<b.2->c.2<=p.2->(0<crs b c p->0<crs c a p->0<crs a b p->wE (zEu a b c) p=1)/\(crs b c p<0∨crs c a p<0∨crs a b p<0->wE (zEu a b c) p=0):=by
  intro a b c h U hb hc
  have e:wE (zEu a b c) p=(if 0<crs a b p then(1:Int)else 0)-(if crs b c p<0 then 1 else 0):=by
   unfold wE zEu
   simp only[xX,bV,nI,nP]
   rw[zOP U hb,zOQ hc hb,zEM (.inl ⟨hc,U⟩)]
   omega
  rw[e]
  exact zSB (zFl a b c p) (by rw[zLy];exact h) (by grind) (by grind) (by grind)
 have bot:∀a b c:V2,0<crs a b c->p.2<a.2->b.2<=p.2->p.2<c.2->(0<crs b c p->0<crs c a p->0<crs a b p->wE (zEu a b c) p=1)/\(crs b c p<0∨crs c a p<0∨crs a b p<0->wE (zEu a b c) p=0):=by
  intro a b c h U hb hc
  have e:wE (zEu a b c) p=(if 0<crs b c p then(1:Int)else 0)-(if crs a b p<0 then 1 else 0):=by
   unfold wE zEu
   simp only[xX,bV,nI,nP]
   rw[zOQ hb U,zOP hb hc,zEM (.inr ⟨hc,U⟩)]
   omega
  rw[e]
  exact zSC (zFl a b c p) (by rw[zLy];exact h) (by grind) (by grind) (by grind)
 have h2:0<crs b c a:=by
  have:crs b c a=crs a b c:=by unfold crs;grind
  rw[this];exact h
 have h3:0<crs c a b:=by
  have:crs c a b=crs a b c:=by unfold crs;grind
  rw[this];exact h
 have none:((a.2<=p.2/\b.2<=p.2/\c.2<=p.2)∨(p.2<a.2/\p.2<b.2/\p.2<c.2))->wE (zEu a b c) p=0:=by
  intro hf
  unfold wE zEu
  simp only[xX,bV,nI,nP]
  rw[zEM (by grind),zEM (by grind),zEM (by grind)]
  rfl
 by_cases ka:a.2<=p.2<;>by_cases kb:b.2<=p.2<;>by_cases kc:c.2<=p.2
 .refine⟨fun J I O=>?_,fun _=>none (.inl ⟨ka,kb,kc⟩)⟩
  exfalso
  have:=zFl a b c p
  have m1:=rE (rG J) (show 0<=p.2-a.2 by grind)
  have m2:=rE (rG I) (show 0<=p.2-b.2 by grind)
  have m3:=rE (rG O) (show 0<=p.2-c.2 by grind)
  have z:∀{x y:Rat},0<x->x*y=0->y=0:=fun {x y} hx hxy=>by
   rcases rI.1 hxy with e|e
   .grind
   .exact e
  have e1:=z J (show crs b c p*(p.2-a.2)=0 by grind)
  have e2:=z I (show crs c a p*(p.2-b.2)=0 by grind)
  have e3:=z O (show crs a b p*(p.2-c.2)=0 by grind)
  have:crs a b c=0:=by unfold crs;rw[show b.2=a.2 by grind,show c.2=a.2 by grind];grind
  grind
 .have:=bot b c a h2|>fun _=>top b c a h2 kb (by grind) ka
  rw[zGV a b c p]at this
  exact⟨fun J I O=>this.1 I O J,fun g=>this.2 (by grind)⟩
 .exact top a b c h ka (by grind) kc
 .have:=bot c a b h3 (by grind) ka (by grind)
  rw[<-zGV c a b p]at this
  exact⟨fun J I O=>this.1 O J I,fun g=>this.2 (by grind)⟩
 .have:=top c a b h3 kc (by grind) kb
  rw[<-zGV c a b p]at this
  exact⟨fun J I O=>this.1 O J I,fun g=>this.2 (by grind)⟩
 .exact bot a b c h (by grind) kb (by grind)
 .have:=bot b c a h2 (by grind) kc (by grind)
  rw[zGV a b c p]at this
  exact⟨fun J I O=>this.1 I O J,fun g=>this.2 (by grind)⟩
 .refine⟨fun J I O=>?_,fun _=>none (.inr ⟨by grind,by grind,by grind⟩)⟩
  exfalso
  have:=zFl a b c p
  have m1:=rC J (show 0<a.2-p.2 by grind)
  have m2:=rC I (show 0<b.2-p.2 by grind)
  have m3:=rC O (show 0<c.2-p.2 by grind)
  grind
theorem zUe{v:V2}(h0:0<t)(h1:t<1)(I:v=(a.1+(b.1-a.1)*t,a.2+(b.2-a.2)*t))(p:V2):cI (a,b) p=cI (a,v) p+cI (v,b) p:=by
 have up:∀(a b v:V2) (t:Rat),0<t->t<1->v=(a.1+(b.1-a.1)*t,a.2+(b.2-a.2)*t)->a.2<b.2->cU a b p=cU a v p+cU v b p/\a.2<v.2/\v.2<b.2:=by
  intro a b v t h0 h1 I h
  have m1:=rC (show 0<b.2-a.2 by grind) h0
  have m2:=rC (show 0<b.2-a.2 by grind) (show 0<1-t by grind)
  have U:v.2=a.2+(b.2-a.2)*t:=by rw[I]
  have v1:v.1=a.1+(b.1-a.1)*t:=by rw[I]
  have J:a.2<v.2:=by grind
  have O:v.2<b.2:=by grind
  have c1:crs a v p=t*crs a b p:=by unfold crs;rw[v1,U];grind
  have c2:crs v b p=(1-t)*crs a b p:=by unfold crs;rw[v1,U];grind
  have i1:0<crs a v p↔0<crs a b p:=by
   rw[c1]
   constructor
   .intro k;exact zCq h0 (by rw[sC];exact k)
   .intro k;exact rC h0 k
  have i2:0<crs v b p↔0<crs a b p:=by
   rw[c2]
   constructor
   .intro k;exact zCq (s:=1-t) (by grind) (by rw[sC];exact k)
   .intro k;exact rC (by grind) k
  refine⟨?_,J,O⟩
  unfold cU
  simp only[i1,i2]
  by_cases k:0<crs a b p
  .simp only[k,nR]
   by_cases k1:a.2<=p.2<;>by_cases k2:p.2<b.2<;>by_cases k3:v.2<=p.2<;>(
    have e1:(p.2<v.2)↔ ¬(v.2<=p.2):=by constructor<;>intro h<;>grind
    simp only[e1,k1,k2,k3,not_true_eq_false,sO,nR,and_false,cG,xI]
    all_goals first|rfl|(exfalso;grind))
  .simp only[k,and_false,xI]
   rfl
 rcases(by grind:a.2<b.2∨b.2<a.2∨a.2=b.2)with h|h|h
 .obtain⟨e,J,O⟩:=up a b v t h0 h1 I h
  rw[zI9 (rG h),zI9 (rG J),zI9 (rG O),e]
 .obtain⟨e,J,O⟩:=up b a v (1-t) (by grind) (by grind) (by rw[I];exact rF (by show _=_;simp only;grind) (by show _=_;simp only;grind)) h
  rw[zJ3 (rG h),zJ3 (rG J),zJ3 (rG O),e]
  omega
 .have:v.2=b.2:=by rw[I];show a.2+(b.2-a.2)*t=b.2;rw[h];grind
  rw[zDO h,zDO (h.trans this.symm),zDO this]
  rfl
theorem zNG(g:Aff){a b z:V2}(h:OnE a b z):∃t:Rat,0<=t/\t<=1/\g.v z=g.v a*(1-t)+g.v b*t:=by
 obtain⟨t,I,J,rfl⟩:=h
 exact⟨t,I,J,by unfold Aff.v;grind⟩
theorem zEP(h:OnE a b z)(I:0<g.v a)(hb:0<g.v b):0<g.v z:=by
 obtain⟨t,h0,h1,e⟩:=zNG g h
 rw[e]
 by_cases k:t=0
 .subst k;grind
 .have m1:=rE (rG I) (show 0<=1-t by grind)
  have m2:=rC hb (show 0<t by grind)
  grind
theorem zTC(h:OnE a b z)(I:0<=g.v a)(hb:0<=g.v b):0<=g.v z:=by
 obtain⟨t,J,h1,e⟩:=zNG g h
 rw[e]
 have m1:=rE I (show 0<=1-t by grind)
 have m2:=rE hb J
 grind
theorem zTB(h:OnE a b z)(ha:g.v a<=0)(hb:g.v b<=0):g.v z<=0:=by
 have:=zTC (g:=zXh g) h (by rw[zNS];grind) (by rw[zNS];grind)
 rw[zNS]at this
 grind
theorem zDF(h:u≠(0,0)):0<u.1*u.1+u.2*u.2:=by
 have I:∀x:Rat,0<=x*x/\(x≠0->0<x*x):=fun x=>by
  rcases(by grind:0<x∨x<0∨x=0)with k|k|k
  .have:=rC k k;exact⟨by grind,fun _=>this⟩
  .have:=rC (show 0< -x by grind) (show 0< -x by grind);exact⟨by grind,fun _=>by grind⟩
  .subst k;exact⟨by grind,fun h=>absurd rfl h⟩
 have O:=I u.1;have h2:=I u.2
 by_cases k:u.1=0
 .have:u.2≠0:=fun J=>h (rF k J)
  have:=h2.2 this
  grind
 .have:=O.2 k
  grind
theorem zH7(a b:V2):OnE a b a:=⟨0,by decide,by decide,rF (by show a.1=a.1+(b.1-a.1)*0;grind) (by show a.2=a.2+(b.2-a.2)*0;grind)⟩
theorem zK1(a b:V2):OnE a b b:=⟨1,by decide,by decide,rF (by show b.1=a.1+(b.1-a.1)*1;grind) (by show b.2=a.2+(b.2-a.2)*1;grind)⟩
theorem zGH(h0:crs a b p=0)(h1:(p.1-a.1)*(p.1-b.1)+(p.2-a.2)*(p.2-b.2)<=0):OnE a b p:=by
 by_cases hab:a=b
 .subst hab
  have e1:p.1=a.1/\p.2=a.2:=by
   by_cases k:(p.1-a.1,p.2-a.2)=((0,0):V2)
   .have:=vQ Prod.fst k;have:=vQ Prod.snd k
    simp only at*
    constructor<;>grind
   .have:=zDF k
    simp only at this
    grind
  exact⟨0,by decide,by decide,rF (by show p.1=a.1+(a.1-a.1)*0;grind) (by show p.2=a.2+(a.2-a.2)*0;grind)⟩
 .have I:0<(b.1-a.1)*(b.1-a.1)+(b.2-a.2)*(b.2-a.2):=by
   have:=zDF (u:=(b.1-a.1,b.2-a.2)) (fun e=>hab (rF (by have:=vQ Prod.fst e;simp only at this;grind) (by have:=vQ Prod.snd e;simp only at this;grind)))
   exact this
  have e1:((p.1-a.1)*(b.1-a.1)+(p.2-a.2)*(b.2-a.2))/((b.1-a.1)*(b.1-a.1)+(b.2-a.2)*(b.2-a.2))*((b.1-a.1)*(b.1-a.1)+(b.2-a.2)*(b.2-a.2))=(p.1-a.1)*(b.1-a.1)+(p.2-a.2)*(b.2-a.2):=rK (by grind)
  generalize ht:((p.1-a.1)*(b.1-a.1)+(p.2-a.2)*(b.2-a.2))/((b.1-a.1)*(b.1-a.1)+(b.2-a.2)*(b.2-a.2))=t at e1
  clear ht
  have O:∀{x y D:Rat},0<D->x*D=y*D->x=y:=fun {x y D} hD hxy=>by
   have:(x-y)*D=0:=by grind
   rcases rI.1 this with k|k<;>grind
  unfold crs at h0
  have J:p.1=a.1+(b.1-a.1)*t:=O I (by grind)
  have q2:p.2=a.2+(b.2-a.2)*t:=O I (by grind)
  have q3:t*(t-1)*((b.1-a.1)*(b.1-a.1)+(b.2-a.2)*(b.2-a.2))<=0:=by rw[J,q2]at h1;grind
  have q4:t*(t-1)<=0:=by
   apply rD
   intro U
   have:=rC (show 0<t*(t-1) by grind) I
   grind
  refine⟨t,?_,?_,rF J q2⟩
  .apply rD
   intro U
   have:=rC (show 0< -t by grind) (show 0<1-t by grind)
   grind
  .apply rD
   intro U
   have:=rC (show 0<t by grind) (show 0<t-1 by grind)
   grind
theorem zYO(u x y:V2):(u.1*u.1+u.2*u.2)*(x.1*y.1+x.2*y.2)=(u.1*x.1+u.2*x.2)*(u.1*y.1+u.2*y.2)+(u.1*x.2-u.2*x.1)*(u.1*y.2-u.2*y.1):=by grind
theorem jL{a b:Rat}(ha:0<a)(hb:0<b):∃c:Rat,0<c/\c<=a/\c<=b:=by
 obtain⟨m,J,I,m3⟩:=min2 a b
 exact⟨m,by grind,J,I⟩
def affK(k:Rat)(s:Rat)(g:Aff):Aff:=⟨s*g.a,s*g.b,k+s*g.c⟩
theorem zHI(k s:Rat)(g:Aff)(p:V2):(affK k s g).v p=k+s*g.v p:=by unfold affK Aff.v;grind
theorem zRl{A:Rat}(hne:A≠B)(h1: ¬(0<A/\0<B))(h2: ¬(A<0/\B<0)):∃t:Rat,0<=t/\t<=1/\t*(A-B)=A:=by
 have e:A/(A-B)*(A-B)=A:=rK (by grind)
 refine⟨A/(A-B),?_,?_,e⟩
 .generalize A/(A-B)=t at e
  apply rD
  intro I
  rcases(by grind:0<A-B∨A-B<0)with k|k
  .have:=rC (show 0< -t by grind) k
   grind
  .have:=rC (show 0< -t by grind) (show 0<B-A by grind)
   grind
 .generalize A/(A-B)=t at e
  apply rD
  intro I
  rcases(by grind:0<A-B∨A-B<0)with k|k
  .have:=rC (show 0<t-1 by grind) k
   grind
  .have:=rC (show 0<t-1 by grind) (show 0<B-A by grind)
   grind
theorem zDt{x y D:Rat}(hD:D≠0)(h:x*D=y*D):x=y:=by
 have:(x-y)*D=0:=by grind
 rcases rI.1 this with k|k<;>grind
theorem zSR{c d:V2}(hne:crs c d a≠crs c d b)(O:t*(crs c d a-crs c d b)=crs c d a)(es:s* -(crs c d a-crs c d b)=crs a b c):
  a.1+(b.1-a.1)*t=c.1+(d.1-c.1)*s/\a.2+(b.2-a.2)*t=c.2+(d.2-c.2)*s:=by
 have U:crs c d a-crs c d b≠0:=by grind
 refine⟨zDt U ?_,zDt U ?_⟩
 .have J:(a.1+(b.1-a.1)*t)*(crs c d a-crs c d b)=a.1*(crs c d a-crs c d b)+(b.1-a.1)*(t*(crs c d a-crs c d b)):=by grind
  have I:(c.1+(d.1-c.1)*s)*(crs c d a-crs c d b)=c.1*(crs c d a-crs c d b)-(d.1-c.1)*(s* -(crs c d a-crs c d b)):=by grind
  rw[J,I,O,es]
  unfold crs
  grind
 .have J:(a.2+(b.2-a.2)*t)*(crs c d a-crs c d b)=a.2*(crs c d a-crs c d b)+(b.2-a.2)*(t*(crs c d a-crs c d b)):=by grind
  have I:(c.2+(d.2-c.2)*s)*(crs c d a-crs c d b)=c.2*(crs c d a-crs c d b)-(d.2-c.2)*(s* -(crs c d a-crs c d b)):=by grind
  rw[J,I,O,es]
  unfold crs
  grind
theorem sep{c d:V2}(I:c≠d)(J:zH9 (c,d) a b):∃g:Aff,0<g.v a/\0<g.v b/\g.v c<=0/\g.v d<=0:=by
 have aa:crs a b a=0:=by unfold crs;grind
 have bb:crs a b b=0:=by unfold crs;grind
 have cc:crs c d c=0:=by unfold crs;grind
 have U:crs c d d=0:=by unfold crs;grind
 by_cases k1:0<crs a b c/\0<crs a b d
 .obtain⟨m,m0,m1,m2⟩:=jL k1.1 k1.2
  refine⟨affK m (-1) (lin a b),?_,?_,?_,?_⟩<;>rw[zHI,yR]<;>grind
 by_cases k2:crs a b c<0/\crs a b d<0
 .obtain⟨m,m0,m1,m2⟩:=jL (show 0< -crs a b c by grind) (show 0< -crs a b d by grind)
  refine⟨affK m 1 (lin a b),?_,?_,?_,?_⟩<;>rw[zHI,yR]<;>grind
 by_cases k3:0<crs c d a/\0<crs c d b
 .refine⟨affK 0 1 (lin c d),?_,?_,?_,?_⟩<;>rw[zHI,yR]<;>grind
 by_cases k4:crs c d a<0/\crs c d b<0
 .refine⟨affK 0 (-1) (lin c d),?_,?_,?_,?_⟩<;>rw[zHI,yR]<;>grind
 by_cases k5:crs c d a=crs c d b
 .have ca:crs c d a=0:=by grind
  have cb:crs c d b=0:=by grind
  have hu:0<(d.1-c.1)*(d.1-c.1)+(d.2-c.2)*(d.2-c.2):=zDF (u:=(d.1-c.1,d.2-c.2)) (fun e=>I (rF (by have:=vQ Prod.fst e;simp only at this;grind) (by have:=vQ Prod.snd e;simp only at this;grind)))
  -- along the line
  obtain⟨pi,hpi⟩:∃pi:V2->Rat,∀x,pi x=(d.1-c.1)*x.1+(d.2-c.2)*x.2:=⟨_,fun _=>rfl⟩
  have O:∀x y z:V2,crs c d x=0->crs c d y=0->crs c d z=0->((d.1-c.1)*(d.1-c.1)+(d.2-c.2)*(d.2-c.2))*((x.1-y.1)*(x.1-z.1)+(x.2-y.2)*(x.2-z.2))=(pi x-pi y)*(pi x-pi z):=by
   intro x y z hx hy hz
   have:=zYO (d.1-c.1,d.2-c.2) (x.1-y.1,x.2-y.2) (x.1-z.1,x.2-z.2)
   simp only at this
   rw[this,hpi,hpi,hpi]
   have e1:(d.1-c.1)*(x.2-y.2)-(d.2-c.2)*(x.1-y.1)=0:=by unfold crs at hx hy;grind
   rw[e1]
   grind
  have pos:∀x y z:V2,crs c d x=0->crs c d y=0->crs c d z=0-> ¬OnE y z x->crs y z x=0->0<(pi x-pi y)*(pi x-pi z):=by
   intro x y z hx hy hz hn h0
   rw[<-O x y z hx hy hz]
   apply rD
   intro hc
   refine hn (zGH h0 ?_)
   apply rD
   intro hd
   have:=rC hu (show 0<(x.1-y.1)*(x.1-z.1)+(x.2-y.2)*(x.2-z.2) by grind)
   grind
  have l1:crs a b c=0:=zLr I ca cb cc
  have l2:crs a b d=0:=zLr I ca cb U
  have p1:=pos c a b cc ca cb (fun h=>J c (zH7 c d) h) l1
  have p2:=pos d a b U ca cb (fun h=>J d (zK1 c d) h) l2
  have p3:=pos a c d ca cc U (fun h=>J a h (zH7 a b)) ca
  have p4:=pos b c d cb cc U (fun h=>J b h (zK1 a b)) cb
  have sg:∀{x y:Rat},0<x*y->(0<x/\0<y)∨(x<0/\y<0):=fun {x y} h=>by
   rcases(by grind:0<x∨x<0∨x=0)with k|k|k
   .refine .inl ⟨k,?_⟩
    apply rD
    intro hn
    have:=rE (rG k) (show 0<=-y by grind)
    grind
   .refine .inr ⟨k,?_⟩
    apply rD
    intro hn
    have:=rE (show 0<=-x by grind) (show 0<=y by grind)
    grind
   .subst k;rw[Rat.zero_mul]at h;grind
  have vv:∀(k s:Rat) (x:V2),(affK k s ⟨d.1-c.1,d.2-c.2,0⟩).v x=k+s*pi x:=by intro k s x;rw[zHI,hpi];unfold Aff.v;grind
  rcases sg p1 with⟨q1,q2⟩|⟨q1,q2⟩
  .obtain⟨m,m1,m2,m3⟩:=min2 (pi c) (pi d)
   refine⟨affK m (-1) ⟨d.1-c.1,d.2-c.2,0⟩,?_,?_,?_,?_⟩<;>rw[vv]
   .rcases sg p3 with r|r<;>grind
   .rcases sg p4 with r|r<;>grind
   .grind
   .grind
  .obtain⟨m,m1,m2,m3⟩:=max2 (pi c) (pi d)
   refine⟨affK (-m) 1 ⟨d.1-c.1,d.2-c.2,0⟩,?_,?_,?_,?_⟩<;>rw[vv]
   .rcases sg p3 with r|r<;>grind
   .rcases sg p4 with r|r<;>grind
   .grind
   .grind
 .exfalso
  have hD:crs a b c-crs a b d= -(crs c d a-crs c d b):=by unfold crs;grind
  obtain⟨t,t0,t1,et⟩:=zRl k5 k3 k4
  obtain⟨s,s0,s1,es⟩:=zRl (A:=crs a b c) (B:=crs a b d) (fun h=>k5 (by grind)) k1 k2
  rw[hD]at es
  obtain⟨x1,x2⟩:=zSR k5 et es
  exact J (a.1+(b.1-a.1)*t,a.2+(b.2-a.2)*t) ⟨s,s0,s1,rF x1 x2⟩ ⟨t,t0,t1,rfl⟩
def Nr(d:Rat)(s x:V2):Prop:=s.1-d<=x.1/\x.1<=s.1+d/\s.2-d<=x.2/\x.2<=s.2+d
theorem Nr.mono(h:d<=d'){s x:V2}(I:Nr d s x):Nr d' s x:=by obtain⟨h1,h2,h3,h4⟩:=I;exact⟨by grind,by grind,by grind,by grind⟩
theorem Nr.self(h:0<d)(s:V2):Nr d s s:=⟨by grind,by grind,by grind,by grind⟩
theorem Nr.add{s:V2}(h:Nr d s x)(I:Nr d' x y):Nr (d+d') s y:=by
 obtain⟨h1,h2,h3,h4⟩:=h;obtain⟨g1,g2,g3,g4⟩:=I;exact⟨by grind,by grind,by grind,by grind⟩
theorem zCh{s:V2}(h:0<g.v s):∃d:Rat,0<d/\∀x,Nr d s x->0<g.v x:=by
 obtain⟨d,d0,I⟩:=zCn [(g.v s,2*g.a),(g.v s,2*g.b)]
 refine⟨d,d0,fun x J=>?_⟩
 obtain⟨h1,h2,h3,h4⟩:=J
 have U:=I (g.v s,2*g.a) fC h (x.1-s.1) (by grind) (by grind)
 have O:=I (g.v s,2*g.b) fC h (x.2-s.2) (by grind) (by grind)
 unfold Aff.v at*
 simp only at U O
 grind
theorem nbh{a b:V2}:∀(E:List (V2×V2)),(∀e,e∈E->e.1≠e.2)->(∀e,e∈E->zH9 e a b)->∃d:Rat,0<d/\∀x y,Nr d a x->Nr d b y->∀e,e∈E->zH9 e x y
 | [],_,_=>⟨1,by decide,fun x y _ _ e J=>by cases J⟩
 | e::E,hne,hm=>by
  obtain⟨d,d0,hd⟩:=nbh E (fun e J=>hne e (by simp[J])) (fun e J=>hm e (by simp[J]))
  obtain⟨g,ga,gb,gc,gd⟩:=sep (hne e fC) (hm e fC)
  obtain⟨d1,p1,h1⟩:=zCh ga
  obtain⟨d2,p2,h2⟩:=zCh gb
  obtain⟨m,m0,m1,m2⟩:=jL p1 p2
  obtain⟨n,n0,U,n2⟩:=jL d0 m0
  refine⟨n,n0,fun x y hx hy f O z hz I=>?_⟩
  rcases xS.1 O with rfl|O
  .have k1:=zEP I (h1 x (hx.mono (by grind))) (h2 y (hy.mono (by grind)))
   have k2:=zTB hz gc gd
   grind
  .exact hd x y (hx.mono U) (hy.mono U) f O z hz I
theorem zKm(h:E.Perm F)(g:V2×V2->Int):(E.map g).sum=(F.map g).sum:=by
 induction h with
 |nil=>rfl
 |cons x _ ih=>simp[ih]
 |swap x y l=>simp;omega
 |trans _ _ ih1 ih2=>exact ih1.trans ih2
theorem zJj(h:E.Perm F)(p:V2):wE E p=wE F p:=zKm h _
theorem Clo.perm(h:Clo E)(I:E.Perm F):Clo F:=fun g=>by rw[<-zKm I];exact h g
theorem zCi(e:V2×V2)(E:List (V2×V2))(p:V2):wE (e::E) p=cI e p+wE E p:=by unfold wE;simp
structure Own(E:List (V2×V2))(e:V2×V2)(F:List (V2×V2)):Prop where
 pm:E.Perm (e::F)
 clo:Clo E
 ne:e.1≠e.2
 fne:∀f,f∈F->f.1≠f.2
 only:∀f,f∈F->∀z,OnE f.1 f.2 z->OnE e.1 e.2 z->z=e.1∨z=e.2
theorem Own.mem(h:Own E e F){f:V2×V2}(I:f∈E):f=e∨f∈F:=by
 have:=h.pm.mem_iff.1 I
 simpa using this
theorem zAt(g:Aff)(a b:V2)(t:Rat):g.v (seg a b t)=g.v a*(1-t)+g.v b*t:=by unfold seg Aff.v;grind
theorem zIn(J:a≠b){t:Rat}(h0:0<t)(h1:t<1):seg a b t≠a/\seg a b t≠b:=by
 have k:b.1-a.1≠0∨b.2-a.2≠0:=by
  by_cases k:b.1-a.1=0
  .exact .inr fun k2=>J (rF (by grind) (by grind))
  .exact .inl k
 constructor
 .intro e
  have O:=vQ Prod.fst e;have I:=vQ Prod.snd e
  simp only[seg]at O I
  rcases k with k|k
  .rcases rI.1 (show(b.1-a.1)*t=0 by grind)with q|q<;>grind
  .rcases rI.1 (show(b.2-a.2)*t=0 by grind)with q|q<;>grind
 .intro e
  have O:=vQ Prod.fst e;have I:=vQ Prod.snd e
  simp only[seg]at O I
  rcases k with k|k
  .rcases rI.1 (show(b.1-a.1)*(1-t)=0 by grind)with q|q<;>grind
  .rcases rI.1 (show(b.2-a.2)*(1-t)=0 by grind)with q|q<;>grind
theorem zFB(h0:0<=t)(h1:t<=1):OnE a b (seg a b t):=⟨t,h0,h1,rfl⟩
theorem zMS(ht:0<t/\t<1)(I:0<s/\s<1)(h:OnE (seg a b t) (seg a b s) z):∃r:Rat,0<r/\r<1/\z=seg a b r:=by
 obtain⟨q,J,q1,rfl⟩:=h
 refine⟨t+(s-t)*q,?_,?_,rF (by simp only[seg];grind) (by simp only[seg];grind)⟩
 .have O:=rE (rG ht.1) (show 0<=1-q by grind)
  have m2:=rE (rG I.1) J
  by_cases k:q=0
  .subst k;grind
  .have:=rC I.1 (show 0<q by grind);grind
 .have O:=rE (show 0<=1-t by grind) (show 0<=1-q by grind)
  by_cases k:q=0
  .subst k;grind
  .have:=rC (show 0<1-s by grind) (show 0<q by grind);grind
theorem zTz(h:OnE a b z)(I:g.v a=0)(hb:g.v b=0):g.v z=0:=by
 obtain⟨t,_,_,e⟩:=zNG g h
 rw[e,I,hb];grind
def sd(s:Rat)(e:V2×V2):Aff:=affK 0 s (lin e.1 e.2)
theorem zFC(s:Rat)(e:V2×V2)(x:V2):(sd s e).v x=s*crs e.1 e.2 x:=by unfold sd;rw[zHI,yR];grind
theorem zDa(a b:V2):crs a b a=0:=by unfold crs;grind
theorem zEo(a b:V2):crs a b b=0:=by unfold crs;grind
theorem zYA(s:Rat)(e:V2×V2):(sd s e).v e.1=0:=by rw[zFC,zDa];grind
theorem zYz(s:Rat)(e:V2×V2):(sd s e).v e.2=0:=by rw[zFC,zEo];grind
theorem Own.miss(h:Own E e F){t r:Rat}(ht:0<t/\t<1)(hr:0<r/\r<1):∀f,f∈F->zH9 f (seg e.1 e.2 t) (seg e.1 e.2 r):=by
 intro f U z hz I
 obtain⟨q,J,O,rfl⟩:=zMS ht hr I
 have:=zIn h.ne J O
 rcases h.only f U _ hz (zFB (rG J) (rG O))with e|e
 .exact this.1 e
 .exact this.2 e
theorem zBW(U:0<(sd s e).v x)(O:0<(sd s e).v y):zH9 e x y:=fun z J I=>by
 have k1:=zTz J (zYA s e) (zYz s e)
 have k2:=zEP I U O
 grind
theorem Own.slide(h:Own E e F){t r:Rat}(ht:0<t/\t<1)(J:0<r/\r<1)(s:Rat):∃d:Rat,0<d/\∀x y,Nr d (seg e.1 e.2 t) x->Nr d (seg e.1 e.2 r) y->0<(sd s e).v x->0<(sd s e).v y->wE E x=wE E y:=by
 obtain⟨d,d0,hd⟩:=nbh F h.fne (h.miss ht J)
 refine⟨d,d0,fun x y O hy kx U=>zCU h.clo fun f I=>?_⟩
 rcases h.mem I with rfl|I
 .exact zBW kx U
 .exact hd x y O hy f I
theorem zHW(h:a≠b):0<(b.1-a.1)*(b.1-a.1)+(b.2-a.2)*(b.2-a.2):=zDF (u:=(b.1-a.1,b.2-a.2)) (fun e=>h (rF (by have:=vQ Prod.fst e;simp only at this;grind) (by have:=vQ Prod.snd e;simp only at this;grind)))
def off(e:V2×V2)(c:Rat)(m:V2):V2:=(m.1-c*(e.2.2-e.1.2),m.2+c*(e.2.1-e.1.1))
theorem zTK(e:V2×V2)(c:Rat)(m:V2):crs e.1 e.2 (off e c m)=crs e.1 e.2 m+c*((e.2.1-e.1.1)*(e.2.1-e.1.1)+(e.2.2-e.1.2)*(e.2.2-e.1.2)):=by unfold crs off;grind
theorem zQt(e:V2×V2){d:Rat}(J:0<d)(m:V2):∃c:Rat,0<c/\∀c',-c<=c'->c'<=c->Nr d m (off e c' m):=by
 obtain⟨c,U,I⟩:=zCn [(d,e.2.2-e.1.2),(d,-(e.2.2-e.1.2)),(d,e.2.1-e.1.1),(d,-(e.2.1-e.1.1))]
 refine⟨c,U,fun c' O h2=>?_⟩
 have k1:=I (d,e.2.2-e.1.2) fC J c' O h2
 have k2:=I (d,-(e.2.2-e.1.2)) fC J c' O h2
 have k3:=I (d,e.2.1-e.1.1) fC J c' O h2
 have k4:=I (d,-(e.2.1-e.1.1)) fC J c' O h2
 unfold off Nr
 simp only at*
 exact⟨by grind,by grind,by grind,by grind⟩
theorem zAF(I:e.1≠e.2){s:Rat}(U:s=1∨s= -1){d:Rat}(hd:0<d){m:V2}(O:crs e.1 e.2 m=0):∃x,Nr d m x/\0<(sd s e).v x:=by
 obtain⟨c,c0,J⟩:=zQt e hd m
 have hq:=rC c0 (zHW I)
 rcases U with rfl|rfl
 .exact⟨off e c m,J c (by grind) (by grind),by rw[zFC,zTK,O];grind⟩
 .exact⟨off e (-c) m,J (-c) (by grind) (by grind),by rw[zFC,zTK,O];grind⟩
theorem zAD(e:V2×V2)(t:Rat):crs e.1 e.2 (seg e.1 e.2 t)=0:=by unfold crs seg;grind
def zDf(E:List (V2×V2))(e:V2×V2)(s:Rat)(k:Int):Prop:=∀t:Rat,0<t->t<1->∃d:Rat,0<d/\∀x,Nr d (seg e.1 e.2 t) x->0<(sd s e).v x->wE E x=k
theorem Own.side(h:Own E e F){s:Rat}(O:s=1∨s= -1):∃k,zDf E e s k:=by
 have I:(0:Rat)<1/2/\(1/2:Rat)<1:=by constructor<;>grind
 obtain⟨d0,p0,h0⟩:=h.slide I I s
 obtain⟨y,y1,y2⟩:=zAF h.ne O p0 (zAD e (1/2))
 refine⟨wE E y,fun t t0 t1=>?_⟩
 obtain⟨d,dp,hd⟩:=h.slide ⟨t0,t1⟩ I s
 obtain⟨m,m0,m1,m2⟩:=jL p0 dp
 obtain⟨z,J,U⟩:=zAF h.ne O m0 (zAD e (1/2))
 exact⟨d,dp,fun x hx kx=>(hd x z hx (J.mono m2) kx U).trans (h0 z y (J.mono m1) y1 U y2)⟩
theorem wU(I:e.1≠e.2){s:Rat}(hs:s=1∨s= -1){k k':Int}(h:zDf E e s k)(h':zDf E e s k'):k=k':=by
 obtain⟨d,d0,hd⟩:=h (1/2) (by grind) (by grind)
 obtain⟨d',O,J⟩:=h' (1/2) (by grind) (by grind)
 obtain⟨m,m0,m1,m2⟩:=jL d0 O
 obtain⟨x,x1,U⟩:=zAF I hs m0 (zAD e (1/2))
 rw[<-hd x (x1.mono m1) U,<-J x (x1.mono m2) U]
theorem Own.jump(h:Own E e F){k:Int}(hk:zDf E e 1 k):zDf E e (-1) (k-1):=by
 obtain⟨k',h4⟩:=h.side (s:= -1) (.inr rfl)
 obtain⟨a,b⟩:=e
 have J:a≠b:=h.ne
 have hD:=zHW J
 have O:(0:Rat)<1/2/\(1/2:Rat)<1:=by constructor<;>grind
 obtain⟨x0,hx0⟩:∃x0,x0=off (a,b) 1 (seg a b (1/2)):=⟨_,rfl⟩
 have c0:0<crs a b x0:=by
  have:=zTK (a,b) 1 (seg a b (1/2))
  rw[<-hx0]at this
  have e2:=zAD (a,b) (1/2)
  simp only at this e2
  rw[this,e2]
  grind
 have m0:crs a b (seg a b (1/2))=0:=zAD (a,b) (1/2)
 have ax:a≠x0:=fun e=>by rw[<-e,zDa]at c0;grind
 have xb:x0≠b:=fun e=>by rw[e,zEo]at c0;grind
 -- the chain that goes round by x0
 have hj:Clo ((a,x0)::(x0,b)::F):=fun g=>by
  have:=(h.clo.perm h.pm) g
  simp only[xX,nI]at this ⊢
  omega
 have hw:∀p,wE E p=wE ((a,x0)::(x0,b)::F) p+wE (zEu a b x0) p:=fun p=>by
  rw[zJj h.pm,zCi,zCi,zCi]
  unfold wE zEu
  simp only[xX,bV,nI,nP]
  rw[zDd b x0 p,zDd x0 a p]
  rw[zDd x0 b p]
  rw[zDd a x0 p]
  omega
 have ms:∀f,f∈(a,x0)::(x0,b)::F->zH9 f (seg a b (1/2)) (seg a b (1/2)):=by
  intro f I
  rcases xS.1 I with rfl|I
  .intro z hz U
   have zm:z=seg a b (1/2):=by obtain⟨q,_,_,rfl⟩:=U;exact rF (by simp only;grind) (by simp only;grind)
   obtain⟨q,_,_,e⟩:=hz
   have:=zAt (lin a b) a x0 q
   rw[show seg a x0 q=z from e.symm,zm,yR,yR,yR,m0,zDa]at this
   rcases rI.1 (show crs a b x0*q=0 by grind)with k|k
   .grind
   .subst k
    refine(zIn J O.1 O.2).1 (zm.symm.trans (e.trans ?_))
    exact rF (by simp only;grind) (by simp only;grind)
  .rcases xS.1 I with rfl|I
   .intro z hz U
    have zm:z=seg a b (1/2):=by obtain⟨q,_,_,rfl⟩:=U;exact rF (by simp only;grind) (by simp only;grind)
    obtain⟨q,_,_,e⟩:=hz
    have:=zAt (lin a b) x0 b q
    rw[show seg x0 b q=z from e.symm,zm,yR,yR,yR,m0,zEo]at this
    rcases rI.1 (show crs a b x0*(1-q)=0 by grind)with k|k
    .grind
    .have:q=1:=by grind
     subst this
     refine(zIn J O.1 O.2).2 (zm.symm.trans (e.trans ?_))
     exact rF (by simp only;grind) (by simp only;grind)
   .exact h.miss O O f I
 have fne:∀f,f∈(a,x0)::(x0,b)::F->f.1≠f.2:=by
  intro f I
  rcases xS.1 I with rfl|I
  .exact ax
  .rcases xS.1 I with rfl|I
   .exact xb
   .exact h.fne f I
 obtain⟨d1,h9,ho⟩:=nbh _ fne ms
 have g1:0<(lin b x0).v (seg a b (1/2)):=by
  rw[yR]
  have:crs b x0 (seg a b (1/2))=crs a b x0*(1/2):=by unfold crs seg;grind
  rw[this];exact rC c0 (by grind)
 have g2:0<(lin x0 a).v (seg a b (1/2)):=by
  rw[yR]
  have:crs x0 a (seg a b (1/2))=crs a b x0*(1/2):=by unfold crs seg;grind
  rw[this];exact rC c0 (by grind)
 obtain⟨d2,hn,ha⟩:=zCh g1
 obtain⟨d3,hl,h7⟩:=zCh g2
 obtain⟨d4,hd,hq⟩:=hk (1/2) O.1 O.2
 obtain⟨d5,hm,he⟩:=h4 (1/2) O.1 O.2
 obtain⟨n1,hc,n11,n12⟩:=jL h9 hn
 obtain⟨n2,h8,n21,n22⟩:=jL hl hd
 obtain⟨n3,hg,n31,n32⟩:=jL hc h8
 obtain⟨n,np,n41,n42⟩:=jL hg hm
 obtain⟨q,q1,q2⟩:=zAF (e:=(a,b)) J (s:=1) (.inl rfl) np m0
 obtain⟨r,r1,r2⟩:=zAF (e:=(a,b)) J (s:= -1) (.inr rfl) np m0
 have w1:=hq q (q1.mono (by grind)) q2
 have w2:=he r (r1.mono (by grind)) r2
 have w3:wE ((a,x0)::(x0,b)::F) q=wE ((a,x0)::(x0,b)::F) r:=zCU hj (ho q r (q1.mono (by grind)) (r1.mono (by grind)))
 rw[zFC]at q2 r2
 have t1:=(zMv c0 q).1 (by have:=ha q (q1.mono (by grind));rwa [yR]at this) (by have:=h7 q (q1.mono (by grind));rwa [yR]at this) (by grind)
 have t2:=(zMv c0 r).2 (.inr (.inr (by grind)))
 have k1:=hw q;have k2:=hw r
 have:k'=k-1:=by omega
 rw[<-this]
 exact h4
def pe:List V2->List (V2×V2)
 |a::b::t=>(a,b)::pe (b::t)
 |_=> []
def eds:List V2->List (V2×V2)
 | []=> []
 |a::t=>pe (a::(t++ [a]))
theorem zNB:∀(x:List V2) (m:V2) (y:List V2),pe (x++m::y)=pe (x++ [m])++pe (m::y)
 | [],m,y=>by simp[pe]
 | [a],m,y=>by simp[pe]
 |a::b::x,m,y=>by
  have:=zNB (b::x) m y
  simp only[mO]at this ⊢
  simp only[pe,this,mO]
theorem zFQ(x:List V2)(m z:V2):pe (x++ [m,z])=pe (x++ [m])++ [(m,z)]:=by rw[zNB x m [z]];rfl
theorem zNA:∀(x:List V2) (m:V2),(pe (x++ [m])).map (·.1)=x
 | [],m=>rfl
 | [a],m=>rfl
 |a::b::x,m=>by
  have:=zNA (b::x) m
  simp only[mO]at this ⊢
  simp only[pe,xX,this]
theorem zNz:∀(m:V2) (x:List V2),(pe (m::x)).map (·.2)=x
 |m, []=>rfl
 |m,a::x=>by simp only[pe,xX,zNz a x]
theorem zH1(l:List V2):(eds l).map (·.1)=l:=by
 cases l with
 |nil=>rfl
 |cons a t=>exact zNA (a::t) a
theorem zOE(a:V2)(t:List V2):(eds (a::t)).map (·.2)=t++ [a]:=zNz a (t++ [a])
theorem zQ3(a:V2)(t:List V2):(eds (t++ [a])).Perm (eds (a::t)):=by
 cases t with
 |nil=>exact .refl _
 |cons b t=>
  show(pe (b::(t++ [a]++ [b]))).Perm (pe (a::b::(t++ [a])))
  have e:b::(t++ [a]++ [b])=(b::t)++ [a,b]:=by simp
  rw[e,zFQ]
  show(pe (b::t++ [a])++ [(a,b)]).Perm ((a,b)::pe (b::(t++ [a])))
  exact rQ
theorem zAO:∀(x y:List V2),(eds (y++x)).Perm (eds (x++y))
 | [],y=>by simp
 |a::x,y=>by
  have I:=zAO x (y++ [a])
  have h2:=zQ3 a (x++y)
  have O:y++ [a]++x=y++a::x:=by simp
  have J:x++(y++ [a])=x++y++ [a]:=by simp
  rw[O,J]at I
  exact I.trans h2
theorem zRI(g:V2->Int):∀(x:List V2) (a z:V2),((pe (a::(x++ [z]))).map fun e=>g e.2-g e.1).sum=g z-g a
 | [],a,z=>by simp[pe]
 |b::x,a,z=>by
  have:=zRI g x b z
  simp only[mO,pe,xX,nI,this]
  omega
theorem zCM(l:List V2):Clo (eds l):=fun g=>by
 cases l with
 |nil=>rfl
 |cons a t=>rw[show eds (a::t)=pe (a::(t++ [a]))from rfl,zRI];omega
theorem zRJ:∀{l:List V2} {e:V2×V2},e∈pe l->e.1∈l/\e.2∈l
 | [],e,h=>by simp[pe]at h
 | [a],e,h=>by simp[pe]at h
 | a::b::t,e,h=>by
  simp only[pe,xS]at h
  rcases h with rfl|h
  .simp
  .have:=zRJ h
   exact⟨cK _ this.1,cK _ this.2⟩
theorem zVp:∀{l:List V2} {e:V2×V2},l.Nodup->e∈pe l->e.1≠e.2
 | [],e,_,h=>by simp[pe]at h
 | [a],e,_,h=>by simp[pe]at h
 | a::b::t,e,hn,h=>by
  simp only[pe,xS]at h
  rcases h with rfl|h
  .intro k
   simp only at k
   subst k
   simp at hn
  .exact zVp (bX.1 hn).2 h
theorem zB2(h:e∈eds l):e.1∈l/\e.2∈l:=by
 cases l with
 |nil=>simp[eds]at h
 |cons a t=>
  have:=zRJ h
  simp only[xS,vV,rO,rN]at this ⊢
  constructor
  .rcases this.1 with k|k|k<;>simp[k]
  .rcases this.2 with k|k|k<;>simp[k]
theorem zCI{α β:Type}{f:α->β}:∀{L:List α},(L.map f).Nodup->∀{x y:α},x∈L->y∈L->f x=f y->x=y
 | [],_,x,_,hx,_,_=>by cases hx
 |z::L,h,x,y,hx,hy,e=>by
  rw[xX,bX]at h
  rcases xS.1 hx with rfl|I<;>rcases xS.1 hy with rfl|J
  .rfl
  .exact absurd (xG.2 ⟨y,J,e.symm⟩) h.1
  .exact absurd (xG.2 ⟨x,I,e⟩) h.1
  .exact zCI h.2 I J e
theorem zEQ{α β:Type}{f:α->β}:∀{L:List α},(L.map f).Nodup->L.Nodup
 | [],_=>.nil
 |z::L,h=>by
  rw[xX,bX]at h
  exact bX.2 ⟨fun k=>h.1 (xG.2 ⟨z,k,rfl⟩),zEQ h.2⟩
structure Sim(l:List V2):Prop where
 three:3<=l.length
 nod:l.Nodup
 meet:∀e f,e∈eds l->f∈eds l->e≠f->∀z,OnE e.1 e.2 z->OnE f.1 f.2 z->(z=e.2/\z=f.1)∨(z=e.1/\z=f.2)
theorem Sim.of_perm(h:Sim l)(I:l.Perm l')(J:(eds l).Perm (eds l')):Sim l':=
 ⟨by rw[<-I.length_eq];exact h.three,I.nodup_iff.1 h.nod,fun e f O h2=>h.meet e f (J.mem_iff.2 O) (J.mem_iff.2 h2)⟩
theorem Sim.rot{x y:List V2}(h:Sim (x++y)):Sim (y++x):=h.of_perm rQ (zAO x y).symm
theorem Sim.fst(h:Sim l){e f:V2×V2}(J:e∈eds l)(I:f∈eds l)(k:e.1=f.1):e=f:=zCI (f:=(·.1)) (by rw[zH1];exact h.nod) J I k
theorem Sim.snd(h:Sim l){e f:V2×V2}(I:e∈eds l)(J:f∈eds l)(k:e.2=f.2):e=f:=by
 cases l with
 |nil=>simp[eds]at I
 |cons a t=>
  refine zCI (f:=(·.2)) ?_ I J k
  rw[zOE]
  exact(rQ (l₁:=t) (l₂:=[a])).nodup_iff.2 h.nod
theorem Sim.nodE(h:Sim l):(eds l).Nodup:=zEQ (f:=(·.1)) (by rw[zH1];exact h.nod)
theorem Sim.ne(h:Sim l){e:V2×V2}(I:e∈eds l):e.1≠e.2:=by
 obtain⟨h3,J,_⟩:=h
 cases l with
 |nil=>simp[eds]at I
 | cons a t=>
  rcases sG t with rfl|⟨s,z,rfl⟩
  .simp at h3
  .have O:eds (a::s.concat z)=pe (a::s++ [z])++ [(z,a)]:=by
    show pe (a::(s.concat z++ [a]))=_
    rw[<-zFQ]
    simp
   rw[O]at I
   rcases vV.1 I with I|I
   .exact zVp (by simpa using J) I
   .obtain rfl:e=(z,a):=by simpa using I
    intro k
    simp only at k
    subst k
    simp at J
theorem zWt(h:Sim l){v:V2}(J:v∈l):∃b c a x y,l=x++y/\y++x=v::b::(c++ [a]):=by
 obtain⟨x,y,rfl⟩:=sP J
 have h3:=h.three
 have I:2<=(y++x).length:=by simp at h3 ⊢;omega
 cases hm:y++x with
 |nil=>rw[hm]at I;simp at I
 |cons b m=>
  rcases sG m with rfl|⟨c,a,rfl⟩
  .rw[hm]at I;simp at I
  .exact⟨b,c,a,x,v::y,rfl,by rw[mO,hm,sQ]⟩
theorem zAA(v b a:V2)(c:List V2):eds (v::b::(c++ [a]))=(v,b)::(pe (b::(c++ [a]))++ [(a,v)]):=by
 show pe (v::b::(c++ [a]++ [v]))=_
 have e:b::(c++ [a]++ [v])=(b::c)++ [a,v]:=by simp
 rw[show pe (v::b::(c++ [a]++ [v]))=(v,b)::pe (b::(c++ [a]++ [v]))from rfl,e,zFQ]
 rfl
theorem Sim.own(h:Sim l){e:V2×V2}(J:e∈eds l):Own (eds l) e ((eds l).erase e) where
 pm:=List.perm_cons_erase J
 clo:=zCM l
 ne:=h.ne J
 fne f hf:=h.ne (List.mem_of_mem_erase hf)
 only f hf z hz hz':=by
  have I:e≠f:=fun k=>by subst k;exact h.nodE.not_mem_erase hf
  rcases h.meet e f J (List.mem_of_mem_erase hf) I z hz' hz with k|k
  .exact .inr k.1
  .exact .inl k.1
theorem Sim.nxt(h:Sim l){a v b:V2}(h1:(a,v)∈eds l)(h2:(v,b)∈eds l):a≠b:=by
 obtain⟨b',c,O,x,y,rfl,e⟩:=zWt h (zB2 h1).2
 have I:=h.rot
 have J:=zAO x y
 rw[e]at I J
 have k1:=J.mem_iff.2 h1;have k2:=J.mem_iff.2 h2
 have q1:((v,b'):V2×V2)∈eds (v::b'::(c++ [O])):=by rw[zAA];simp
 have q2:((O,v):V2×V2)∈eds (v::b'::(c++ [O])):=by rw[zAA];simp
 have r1:=vQ Prod.snd (I.fst k2 q1 rfl)
 have U:=vQ Prod.fst (I.snd k1 q2 rfl)
 simp only at r1 U
 subst r1 U
 intro k
 subst k
 have:=I.nod
 simp at this
theorem zSz(a v b:V2):((b.1-a.1)*(b.1-v.1)+(b.2-a.2)*(b.2-v.2))*((a.1-v.1)*(a.1-b.1)+(a.2-v.2)*(a.2-b.2))+((v.1-a.1)*(v.1-b.1)+(v.2-a.2)*(v.2-b.2))*((b.1-a.1)*(b.1-a.1)+(b.2-a.2)*(b.2-a.2))=((v.1-a.1)*(b.2-a.2)-(v.2-a.2)*(b.1-a.1))*((v.1-a.1)*(b.2-a.2)-(v.2-a.2)*(b.1-a.1)):=by grind
theorem Sim.turns(h:Sim l){a v b:V2}(h1:(a,v)∈eds l)(h2:(v,b)∈eds l)(h0:crs a v b=0):∃t:Rat,0<t/\t<1/\v=seg a b t:=by
 have J:a≠v:=h.ne h1
 have U:v≠b:=h.ne h2
 have I:=h.nxt h1 h2
 have O:((a,v):V2×V2)≠(v,b):=fun k=>J (vQ Prod.fst k)
 have h6: ¬OnE a v b:=fun k=>by
  rcases h.meet (a,v) (v,b) h1 h2 O b k (zK1 v b)with q|q
  .exact U q.1.symm
  .exact I q.1.symm
 have h4: ¬OnE v b a:=fun k=>by
  rcases h.meet (a,v) (v,b) h1 h2 O a (zH7 a v) k with q|q
  .exact J q.1
  .exact I q.2
 have p1:0<(b.1-a.1)*(b.1-v.1)+(b.2-a.2)*(b.2-v.2):=by
  apply rD
  intro hn
  exact h6 (zGH h0 (by grind))
 have p2:0<(a.1-v.1)*(a.1-b.1)+(a.2-v.2)*(a.2-b.2):=by
  apply rD
  intro hn
  exact h4 (zGH (by unfold crs at h0 ⊢;grind) (by grind))
 have p3:(v.1-a.1)*(v.1-b.1)+(v.2-a.2)*(v.2-b.2)<=0:=by
  apply rD
  intro hn
  have q1:=rC p1 p2
  have q2:0<(v.1-a.1)*(v.1-b.1)+(v.2-a.2)*(v.2-b.2):=by grind
  have q3:=rC q2 (zHW I)
  have hz:(v.1-a.1)*(b.2-a.2)-(v.2-a.2)*(b.1-a.1)=0:=by unfold crs at h0;grind
  have:=zSz a v b
  rw[hz]at this
  clear h0 hz h6 h4 p1 p2 q2 hn
  grind
 obtain⟨t,t0,t1,e⟩:=zGH (a:=a) (b:=b) (p:=v) (by unfold crs at h0 ⊢;grind) p3
 refine⟨t,?_,?_,e⟩
 .apply rD
  intro hn
  have:t=0:=by grind
  subst this
  exact J (by rw[e];exact rF (by simp only;grind) (by simp only;grind))
 .apply rD
  intro hn
  have:t=1:=by grind
  subst this
  exact U (by rw[e];exact rF (by simp only;grind) (by simp only;grind))
theorem zDf.half(h:Own E e F){s:Rat}(hs:s=1∨s= -1){k:Int}(hk:zDf E e s k)(g:Aff){t:Rat}(t0:0<t)(t1:t<1)
  (O:0<g.v (seg e.1 e.2 t)∨ ∃la:Rat,0<la/\∀x,g.v x=la*(sd s e).v x){d:Rat}(hd:0<d):∃x,Nr d (seg e.1 e.2 t) x/\0<(sd s e).v x/\0<g.v x/\wE E x=k:=by
 obtain⟨d1,p1,U⟩:=hk t t0 t1
 obtain⟨m,m0,m1,m2⟩:=jL hd p1
 rcases O with O|⟨la,l0,O⟩
 .obtain⟨d2,p2,h2⟩:=zCh O
  obtain⟨n,n0,n1,n2⟩:=jL m0 p2
  obtain⟨x,J,I⟩:=zAF h.ne hs n0 (zAD e t)
  exact⟨x,J.mono (by grind),I,h2 x (J.mono n2),U x (J.mono (by grind)) I⟩
 .obtain⟨x,J,I⟩:=zAF h.ne hs m0 (zAD e t)
  exact⟨x,J.mono m1,I,by rw[O];exact rC l0 I,U x (J.mono m2) I⟩
theorem zK7(a b:V2){d:Rat}(J:0<d):∃t:Rat,0<t/\t<1/\Nr d b (seg a b t):=by
 obtain⟨c,O,I⟩:=zCn [(d,b.1-a.1),(d,-(b.1-a.1)),(d,b.2-a.2),(d,-(b.2-a.2))]
 obtain⟨m,m0,m1,m2⟩:=jL O (show(0:Rat)<1/2 by grind)
 have k1:=I (d,b.1-a.1) fC J m (by grind) (by grind)
 have k2:=I (d,-(b.1-a.1)) fC J m (by grind) (by grind)
 have k3:=I (d,b.2-a.2) fC J m (by grind) (by grind)
 have k4:=I (d,-(b.2-a.2)) fC J m (by grind) (by grind)
 refine⟨1-m,by grind,by grind,?_⟩
 unfold Nr seg
 simp only at*
 exact⟨by grind,by grind,by grind,by grind⟩
theorem zG9(a b:V2)(t:Rat):seg a b t=seg b a (1-t):=rF (by simp only[seg];grind) (by simp only[seg];grind)
theorem zGC(a b:V2){d:Rat}(I:0<d):∃t:Rat,0<t/\t<1/\Nr d a (seg a b t):=by
 obtain⟨t,t0,t1,h⟩:=zK7 b a I
 exact⟨1-t,by grind,by grind,by rw[zG9 a b];rw[show 1-(1-t)=t by grind];exact h⟩
theorem zI8{F1 F2:List (V2×V2)}{v:V2}(h1:Own E (a,v) F1)(h2:Own E (v,b) F2)(hF:∀f,f∈E->f=(a,v)∨f=(v,b)∨f∈F)(fne:∀f,f∈F->f.1≠f.2)(fv:∀f,f∈F-> ¬OnE f.1 f.2 v)
  {s:Rat}(hs:s=1∨s= -1)(H:0<s*crs a v b∨ ∃t:Rat,0<t/\t<1/\v=seg a b t){k:Int}(hk:zDf E (a,v) s k):zDf E (v,b) s k:=by
 obtain⟨k',U⟩:=h2.side hs
 obtain⟨d,d0,hd⟩:=nbh (a:=v) (b:=v) F fne (fun f hf z hz h5=>fv f hf (by
  obtain⟨q,_,_,rfl⟩:=h5
  have:((v.1+(v.1-v.1)*q,v.2+(v.2-v.2)*q):V2)=v:=rF (by simp only;grind) (by simp only;grind)
  rwa [this]at hz))
 have I:0<d/2:=by grind
 obtain⟨t,t0,t1,ht⟩:=zK7 a v I
 obtain⟨r,r0,r1,hr⟩:=zGC v b I
 have A:0<(sd s (v,b)).v (seg a v t)∨ ∃la:Rat,0<la/\∀x,(sd s (v,b)).v x=la*(sd s (a,v)).v x:=by
  rcases H with H|⟨q,q0,q1,H⟩
  .left
   have e:(sd s (v,b)).v (seg a v t)=(1-t)*(s*crs a v b):=by rw[zFC];unfold crs seg;grind
   rw[e];exact rC (by grind) H
  .right
   have J:(1-q)/q*q=1-q:=rK (by grind)
   have v1:v.1=a.1+(b.1-a.1)*q:=by rw[H];rfl
   have O:v.2=a.2+(b.2-a.2)*q:=by rw[H];rfl
   refine⟨(1-q)/q,zCq q0 (by rw[J];grind),fun x=>?_⟩
   have c1:crs a v x=q*crs a b x:=by unfold crs;rw[v1,O];grind
   have c2:crs v b x=(1-q)*crs a b x:=by unfold crs;rw[v1,O];grind
   rw[zFC,zFC]
   show s*crs v b x=(1-q)/q*(s*crs a v x)
   rw[c1,c2]
   generalize(1-q)/q=l at J
   rw[<-J]
   grind
 have B:0<(sd s (a,v)).v (seg v b r)∨ ∃la:Rat,0<la/\∀x,(sd s (a,v)).v x=la*(sd s (v,b)).v x:=by
  rcases H with H|⟨q,q0,q1,H⟩
  .left
   have e:(sd s (a,v)).v (seg v b r)=r*(s*crs a v b):=by rw[zFC];unfold crs seg;grind
   rw[e];exact rC r0 H
  .right
   have J:q/(1-q)*(1-q)=q:=rK (by grind)
   have v1:v.1=a.1+(b.1-a.1)*q:=by rw[H];rfl
   have O:v.2=a.2+(b.2-a.2)*q:=by rw[H];rfl
   refine⟨q/(1-q),zCq (s:=1-q) (by grind) (by rw[J];grind),fun x=>?_⟩
   have c1:crs a v x=q*crs a b x:=by unfold crs;rw[v1,O];grind
   have c2:crs v b x=(1-q)*crs a b x:=by unfold crs;rw[v1,O];grind
   rw[zFC,zFC]
   show s*crs a v x=q/(1-q)*(s*crs v b x)
   rw[c1,c2]
   generalize q/(1-q)=l at J
   have:q*crs a b x=l*(1-q)*crs a b x:=by rw[J]
   rw[this]
   grind
 obtain⟨x,x1,x2,x3,x4⟩:=hk.half h1 hs (sd s (v,b)) t0 t1 A I
 obtain⟨y,y1,y2,y3,y4⟩:=U.half h2 hs (sd s (a,v)) r0 r1 B I
 have nx:Nr d v x:=(ht.add x1).mono (by grind)
 have ny:Nr d v y:=(hr.add y1).mono (by grind)
 have:wE E x=wE E y:=zCU h1.clo fun f hf=>by
  rcases hF f hf with rfl|rfl|hf
  .exact zBW x2 y3
  .exact zBW x3 y2
  .exact hd x y nx ny f hf
 have:k=k':=by omega
 rw[this]
 exact U
theorem Sim.off_corner(h:Sim l){a v b:V2}(h1:(a,v)∈eds l)(h2:(v,b)∈eds l){f:V2×V2}(I:f∈eds l)(J:f≠(a,v))(U:f≠(v,b)): ¬OnE f.1 f.2 v:=fun O=>by
 rcases h.meet (a,v) f h1 I (fun k=>J k.symm) v (zK1 a v) O with q|q
 .exact U (h.fst I h2 q.2.symm)
 .exact h.ne h1 q.1.symm
theorem Sim.next(h:Sim l){a v b:V2}(h1:(a,v)∈eds l)(h2:(v,b)∈eds l){k:Int}(J:zDf (eds l) (a,v) 1 k):zDf (eds l) (v,b) 1 k:=by
 have o1:=h.own h1;have o2:=h.own h2
 have hF:∀f,f∈eds l->f=(a,v)∨f=(v,b)∨f∈(eds l).filter fun f=>decide (f≠(a,v))&&decide (f≠(v,b)):=fun f I=>by
  by_cases k1:f=(a,v)
  .exact .inl k1
  .by_cases k2:f=(v,b)
   .exact .inr (.inl k2)
   .exact .inr (.inr (lV.2 ⟨I,by simp[k1,k2]⟩))
 have U:∀f,f∈((eds l).filter fun f=>decide (f≠(a,v))&&decide (f≠(v,b)))->f∈eds l/\f≠(a,v)/\f≠(v,b):=fun f I=>by
  obtain⟨g1,g2⟩:=lV.1 I
  rw[xV,cE,cE]at g2
  exact⟨g1,g2⟩
 have C:=fun {s:Rat} (hs:s=1∨s= -1) H {k:Int} J=>zI8 (k:=k) o1 o2 hF (fun f I=>h.ne (U f I).1) (fun f I=>h.off_corner h1 h2 (U f I).1 (U f I).2.1 (U f I).2.2) hs H J
 rcases(by grind:0<crs a v b∨crs a v b<0∨crs a v b=0)with c|c|c
 .exact C (.inl rfl) (.inl (by grind)) J
 .have r1:=o1.jump J
  have r2:=C (s:= -1) (.inr rfl) (.inl (by grind)) r1
  obtain⟨k',O⟩:=o2.side (s:=1) (.inl rfl)
  have:=wU o2.ne (.inr rfl) r2 (o2.jump O)
  have:k=k':=by omega
  rw[this];exact O
 .exact C (.inl rfl) (.inr (h.turns h1 h2 c)) J
theorem zKQ{E:List (V2×V2)}{R:V2×V2->Prop}(J:∀a v b,(a,v)∈E->(v,b)∈E->R (a,v)->R (v,b)):∀(t:List V2) (a b:V2),(∀e,e∈pe (a::b::t)->e∈E)->R (a,b)->∀e,e∈pe (a::b::t)->R e
 | [],a,b,_,h,e,I=>by
  obtain rfl:e=(a,b):=by simpa[pe]using I
  exact h
 | c::t,a,b,hE,h,e,I=>by
  simp only[pe,xS]at I
  rcases I with rfl|I
  .exact h
  .refine zKQ J t b c (fun e I=>hE e (by rw[pe];exact .tail _ I)) (J a b c (hE _ (by simp[pe])) (hE _ (by simp[pe])) h) e ?_
   rw[pe]
   simpa using I
theorem Sim.sides(h:Sim l):∃k:Int,∀e,e∈eds l->zDf (eds l) e 1 k/\zDf (eds l) e (-1) (k-1):=by
 have U:∃a b t,l=a::b::t:=by
  have:=h.three
  match l,this with
  |a::b::t,_=>exact⟨a,b,t,rfl⟩
 obtain⟨a,b,t,rfl⟩:=U
 have m0:((a,b):V2×V2)∈eds (a::b::t):=by
  show(a,b)∈pe (a::b::(t++ [a]))
  simp[pe]
 obtain⟨k,O⟩:=(h.own m0).side (s:=1) (.inl rfl)
 refine⟨k,fun e I=>?_⟩
 have:=zKQ (E:=eds (a::b::t)) (R:=fun e=>zDf (eds (a::b::t)) e 1 k) (fun a v b J h2 h3=>h.next J h2 h3) (t++ [a]) a b (fun e I=>I) O e I
 exact⟨this,(h.own I).jump this⟩
theorem zUf(h:(e.1.2<p.2/\e.2.2<p.2)∨(p.2<e.1.2/\p.2<e.2.2)):cI e p=0:=by
 obtain⟨a,b⟩:=e
 simp only at h
 exact zEM (h.imp (fun g=>⟨rG g.1,rG g.2⟩) id)
theorem zSs(h:∀e,e∈E->cI e p=0):wE E p=0:=by
 induction E with
 |nil=>rfl
 |cons e E ih=>
  rw[zCi,h e fC,ih fun e I=>h e (by simp[I])]
  rfl
theorem zJM(f:V2->Rat):∀l:List V2,∃M:Rat,∀v,v∈l->f v<M
 | []=>⟨0,fun v I=>by cases I⟩
 |a::l=>by
  obtain⟨M,J⟩:=zJM f l
  obtain⟨c,c1,c2,_⟩:=max2 M (f a+1)
  refine⟨c,fun v I=>?_⟩
  rcases xS.1 I with rfl|I
  .grind
  .have:=J v I;grind
theorem zF8(L:Aff){p:V2}(hp:∀u,u∈l->L.v u<L.v p):wE (eds l) p=0:=by
 -- a point far above or below, still beyond
 obtain⟨q,hq,hh⟩:∃q:V2,L.v p<=L.v q/\((∀u,u∈l->u.2<q.2)∨(∀u,u∈l->q.2<u.2)):=by
  obtain⟨M,hM⟩:=zJM (fun v=>v.2) l
  obtain⟨M',O⟩:=zJM (fun v=> -v.2) l
  rcases(by grind:0<=L.b∨L.b<0)with k|k
  .obtain⟨c,c1,c2,_⟩:=max2 M p.2
   refine⟨(p.1,c),?_,.inl fun u U=>by have:=hM u U;simp only at this ⊢;grind⟩
   have:=rE k (show 0<=c-p.2 by grind)
   unfold Aff.v;simp only;grind
  .obtain⟨c,c1,c2,_⟩:=min2 (-M') p.2
   refine⟨(p.1,c),?_,.inr fun u U=>by have:=O u U;simp only at this ⊢;grind⟩
   have:=rE (show 0<=-L.b by grind) (show 0<=p.2-c by grind)
   unfold Aff.v;simp only;grind
 have h1:wE (eds l) p=wE (eds l) q:=zCU (zCM l) fun e I z hz J=>by
  have I:=zB2 I
  have k1:0<(affK (-(L.v p)) 1 L).v z∨(affK (-(L.v p)) 1 L).v z=0:=by
   have:=zTC (g:=affK (-(L.v p)) 1 L) J (by rw[zHI];grind) (by rw[zHI];grind)
   grind
  have k2:=zEP (g:=affK (L.v p) (-1) L) hz (by rw[zHI];have:=hp _ I.1;grind) (by rw[zHI];have:=hp _ I.2;grind)
  rw[zHI]at k1 k2
  grind
 rw[h1]
 exact zSs fun e I=>zUf (hh.imp (fun g=>⟨g _ (zB2 I).1,g _ (zB2 I).2⟩) fun g=>⟨g _ (zB2 I).1,g _ (zB2 I).2⟩)
theorem Sim.extreme(h:Sim l){k:Int}(hk:∀e,e∈eds l->zDf (eds l) e 1 k/\zDf (eds l) e (-1) (k-1))(L:Aff){a v b:V2}(h1:(a,v)∈eds l)(h2:(v,b)∈eds l)(hL:∀u,u∈l->u≠v->L.v u<L.v v):
  (0<crs a v b/\k=1)∨(crs a v b<0/\k=0):=by
 have hF:a≠v:=h.ne h1
 have hy:v≠b:=h.ne h2
 have La:L.v a<L.v v:=hL a (zB2 h1).1 hF
 have Lb:L.v b<L.v v:=hL b (zB2 h2).2 (fun e=>hy e.symm)
 have hnz:crs a v b≠0:=fun c=>by
  obtain⟨t,t0,t1,e⟩:=h.turns h1 h2 c
  have:=zAt L a b t
  rw[<-e]at this
  have m1:=rC (show 0<L.v v-L.v a by grind) (show 0<1-t by grind)
  have m2:=rC (show 0<L.v v-L.v b by grind) t0
  grind
 have h0:∀s:Rat,(s=1∨s= -1)->0<s*crs a v b->zDf (eds l) (a,v) (-s) 0∨zDf (eds l) (v,b) (-s) 0:=by
  intro s hs hc
  have U: -s=1∨-s= -1:=by rcases hs with rfl|rfl<;>grind
  have fn:∀f,f∈(eds l).filter (fun f=>decide (f≠(a,v))&&decide (f≠(v,b)))->f∈eds l/\f≠(a,v)/\f≠(v,b):=fun f I=>by
   obtain⟨g1,g2⟩:=lV.1 I
   rw[xV,cE,cE]at g2
   exact⟨g1,g2⟩
  obtain⟨d,d0,hd⟩:=nbh (a:=v) (b:=v) ((eds l).filter fun f=>decide (f≠(a,v))&&decide (f≠(v,b))) (fun f I=>h.ne (fn f I).1) (fun f I z hz J=>h.off_corner h1 h2 (fn f I).1 (fn f I).2.1 (fn f I).2.2 (by
   obtain⟨q,_,_,rfl⟩:=J
   have:((v.1+(v.1-v.1)*q,v.2+(v.2-v.2)*q):V2)=v:=rF (by simp only;grind) (by simp only;grind)
   rwa [this]at hz))
  have hm:∀f,f∈eds l->f=(a,v)∨f=(v,b)∨f∈(eds l).filter (fun f=>decide (f≠(a,v))&&decide (f≠(v,b))):=fun f I=>by
   by_cases k1:f=(a,v)
   .exact .inl k1
   .by_cases k2:f=(v,b)
    .exact .inr (.inl k2)
    .exact .inr (.inr (lV.2 ⟨I,by simp[k1,k2]⟩))
  -- a point beyond the zI8
  obtain⟨p,h7,hE⟩:∃p,Nr d v p/\L.v v<L.v p:=by
   have hu:0<L.a*L.a+L.b*L.b:=zDF (u:=(L.a,L.b)) (fun e=>by
    have e1:L.a=0:=vQ Prod.fst e
    have e2:L.b=0:=vQ Prod.snd e
    unfold Aff.v at La
    rw[e1,e2]at La
    grind)
   obtain⟨c,c0,hc⟩:=zCn [(d,L.a),(d,-L.a),(d,L.b),(d,-L.b)]
   have k1:=hc (d,L.a) fC d0 c (by grind) (by grind)
   have k2:=hc (d,-L.a) fC d0 c (by grind) (by grind)
   have k3:=hc (d,L.b) fC d0 c (by grind) (by grind)
   have k4:=hc (d,-L.b) fC d0 c (by grind) (by grind)
   have:=rC c0 hu
   refine⟨(v.1+c*L.a,v.2+c*L.b),?_,?_⟩
   .unfold Nr;simp only at*;exact⟨by grind,by grind,by grind,by grind⟩
   .unfold Aff.v;simp only;grind
  have wp:wE (eds l) p=0:=zF8 L fun u hu=>by
   by_cases e:u=v
   .subst e;exact hE
   .have:=hL u hu e;grind
  have id:=zUd L a v b p
  have out:s*crs a v p<0∨s*crs v b p<0:=by
   apply rD
   intro hn
   have g1:0<=s*crs a v p:=by grind
   have g2:0<=s*crs v b p:=by grind
   have m1:=rE g1 (show 0<=L.v v-L.v b by grind)
   have m2:=rE g2 (show 0<=L.v v-L.v a by grind)
   have m3:=rC hc (show 0<L.v p-L.v v by grind)
   have:s*(crs a v b*(L.v p-L.v v))=s*(crs a v p*(L.v b-L.v v)+crs v b p*(L.v a-L.v v)):=by rw[id]
   grind
  have O:0<d/2:=by grind
  rcases out with o|o
  .left
   obtain⟨q,hq⟩:=(h.own h1).side U
   obtain⟨t,t0,t1,ht⟩:=zK7 a v O
   obtain⟨d1,p1,h5⟩:=hq t t0 t1
   obtain⟨m,m0,m1,m2⟩:=jL O p1
   obtain⟨x,x1,x2⟩:=zAF (h.own h1).ne U m0 (zAD (a,v) t)
   have wx:=h5 x (x1.mono m2) x2
   have:wE (eds l) p=wE (eds l) x:=zCU (zCM l) fun f I=>by
    have px:0<(sd (-s) (a,v)).v p:=by rw[zFC];show 0< -s*crs a v p;grind
    rcases hm f I with rfl|rfl|I
    .exact zBW px x2
    .intro z hz J
     have k1:=zTB (g:=sd (-s) (a,v)) hz (by rw[zFC];show -s*crs a v v<=0;rw[zEo];grind) (by rw[zFC];show -s*crs a v b<=0;grind)
     have k2:=zEP J px x2
     grind
    .exact hd p x h7 ((ht.add (x1.mono m1)).mono (by grind)) f I
   have:q=0:=by omega
   rw[<-this];exact hq
  .right
   obtain⟨q,hq⟩:=(h.own h2).side U
   obtain⟨t,t0,t1,ht⟩:=zGC v b O
   obtain⟨d1,p1,h5⟩:=hq t t0 t1
   obtain⟨m,m0,m1,m2⟩:=jL O p1
   obtain⟨x,x1,x2⟩:=zAF (h.own h2).ne U m0 (zAD (v,b) t)
   have wx:=h5 x (x1.mono m2) x2
   have:wE (eds l) p=wE (eds l) x:=zCU (zCM l) fun f I=>by
    have px:0<(sd (-s) (v,b)).v p:=by rw[zFC];show 0< -s*crs v b p;grind
    rcases hm f I with rfl|rfl|I
    .intro z hz J
     have k1:=zTB (g:=sd (-s) (v,b)) hz (by
      rw[zFC];show -s*crs v b a<=0;have:crs v b a=crs a v b:=by unfold crs;grind
      rw[this];grind) (by rw[zFC];show -s*crs v b v<=0;rw[zDa];grind)
     have k2:=zEP J px x2
     grind
    .exact zBW px x2
    .exact hd p x h7 ((ht.add (x1.mono m1)).mono (by grind)) f I
   have:q=0:=by omega
   rw[<-this];exact hq
 rcases(by grind:0<crs a v b∨crs a v b<0)with c|c
 .refine .inl ⟨c,?_⟩
  rcases h0 1 (.inl rfl) (by grind)with q|q
  .have:=wU (h.ne h1) (.inr rfl) q (hk _ h1).2;omega
  .have:=wU (h.ne h2) (.inr rfl) q (hk _ h2).2;omega
 .refine .inr ⟨c,?_⟩
  rcases h0 (-1) (.inr rfl) (by grind)with q|q
  .have:=wU (h.ne h1) (.inl rfl) (by rw[show(1:Rat)= - -1 by grind];exact q) (hk _ h1).1;omega
  .have:=wU (h.ne h2) (.inl rfl) (by rw[show(1:Rat)= - -1 by grind];exact q) (hk _ h2).1;omega
theorem zLe{α:Type}(f:α->Rat):∀(L:List α),L≠ []->∃x,x∈L/\∀y,y∈L->f x<=f y
 | [],h=>absurd rfl h
 | [a],_=>⟨a,by simp,fun y I=>by
  obtain rfl:y=a:=by simpa using I
  exact rJ⟩
 |a::b::L,_=>by
  obtain⟨x,J,h⟩:=zLe f (b::L) fC
  by_cases k:f a<=f x
  .exact⟨a,by simp,fun y I=>by
    rcases xS.1 I with rfl|I
    .exact rJ
    .have:=h y I;grind⟩
  .exact⟨x,.tail _ J,fun y I=>by
    rcases xS.1 I with rfl|I
    .grind
    .exact h y I⟩
theorem zHG{α:Type}(f:α->Rat)(L:List α)(h:L≠ []):∃x,x∈L/\∀y,y∈L->f y<=f x:=by
 obtain⟨x,O,I⟩:=zLe (fun x=> -f x) L h
 exact⟨x,O,fun y J=>by have:=I y J;grind⟩
theorem zTA(h:OnE p p z):z=p:=by
 obtain⟨q,_,_,rfl⟩:=h
 exact rF (by simp only;grind) (by simp only;grind)
theorem zGo(g:Aff)(hg:0<g.a*g.a+g.b*g.b){l:List V2}(hl:l≠ []):∃v,v∈l/\(∀u,u∈l->g.v u<=g.v v)/\∃L:Aff,∀u,u∈l->u≠v->L.v u<L.v v:=by
 obtain⟨w,hw,O⟩:=zHG (fun u=>g.v u) l hl
 obtain⟨h,hh⟩:∃h:Aff,h=⟨-g.b,g.a,0⟩:=⟨_,rfl⟩
 have J:l.filter (fun u=>decide (g.v u=g.v w))≠ []:=fun e=>by
  have:w∈l.filter (fun u=>decide (g.v u=g.v w)):=lV.2 ⟨hw,by simp⟩
  rw[e]at this
  cases this
 obtain⟨v,hv,h1⟩:=zHG (fun u=>h.v u) _ J
 obtain⟨h4,I⟩:=lV.1 hv
 have I:g.v v=g.v w:=by simpa using I
 have h0:∀u,u∈l->g.v u<=g.v v:=fun u U=>by rw[I];exact O u U
 obtain⟨c,c0,hc⟩:=zCn (l.map fun u=>(g.v v-g.v u,h.v v-h.v u))
 refine⟨v,h4,h0,⟨g.a+c*h.a,g.b+c*h.b,g.c+c*h.c⟩,fun u U J=>?_⟩
 have lv:∀x:V2,(⟨g.a+c*h.a,g.b+c*h.b,g.c+c*h.c⟩:Aff).v x=g.v x+c*h.v x:=fun x=>by unfold Aff.v;grind
 rw[lv,lv]
 rcases(by have:=h0 u U;grind:g.v u<g.v v∨g.v u=g.v v)with k|k
 .have:=hc (g.v v-g.v u,h.v v-h.v u) (xG.2 ⟨u,U,rfl⟩) (by simp only;grind) c (by grind) (by grind)
  simp only at this
  grind
 .have k2:=h1 u (lV.2 ⟨U,by simp[k,I]⟩)
  have k3:h.v u≠h.v v:=fun e=>by
   have e1:g.a*(u.1-v.1)+g.b*(u.2-v.2)=0:=by unfold Aff.v at k;grind
   have e2:g.a*(u.2-v.2)-g.b*(u.1-v.1)=0:=by rw[hh]at e;unfold Aff.v at e;simp only at e;grind
   have e3:(g.a*g.a+g.b*g.b)*(u.1-v.1)=0:=by
    have:(g.a*g.a+g.b*g.b)*(u.1-v.1)=g.a*(g.a*(u.1-v.1)+g.b*(u.2-v.2))-g.b*(g.a*(u.2-v.2)-g.b*(u.1-v.1)):=by grind
    rw[this,e1,e2];grind
   have e4:(g.a*g.a+g.b*g.b)*(u.2-v.2)=0:=by
    have:(g.a*g.a+g.b*g.b)*(u.2-v.2)=g.b*(g.a*(u.1-v.1)+g.b*(u.2-v.2))+g.a*(g.a*(u.2-v.2)-g.b*(u.1-v.1)):=by grind
    rw[this,e1,e2];grind
   refine J (rF ?_ ?_)
   .rcases rI.1 e3 with q|q<;>grind
   .rcases rI.1 e4 with q|q<;>grind
  have:=rC c0 (show 0<h.v v-h.v u by grind)
  grind
theorem Sim.at_corner(h:Sim l){v:V2}(J:v∈l):∃a b,(a,v)∈eds l/\(v,b)∈eds l:=by
 obtain⟨b,c,a,x,y,rfl,e⟩:=zWt h J
 have I:=zAO x y
 rw[e]at I
 exact⟨a,b,I.mem_iff.1 (by rw[zAA];simp),I.mem_iff.1 (by rw[zAA];simp)⟩
theorem Sim.kind(h:Sim l):∃k:Int,(k=0∨k=1)/\∀e,e∈eds l->zDf (eds l) e 1 k/\zDf (eds l) e (-1) (k-1):=by
 obtain⟨k,I⟩:=h.sides
 refine⟨k,?_,I⟩
 obtain⟨v,J,_,L,O⟩:=zGo ⟨1,0,0⟩ (by simp only;grind) (l:=l) (fun e=>by have:=h.three;rw[e]at this;simp at this)
 obtain⟨a,b,U,h2⟩:=h.at_corner J
 rcases h.extreme I L U h2 O with q|q
 .exact .inr q.2
 .exact .inl q.2
structure PO(l:List V2):Prop where
 sim:Sim l
 side:∀e,e∈eds l->zDf (eds l) e 1 1/\zDf (eds l) e (-1) 0
theorem zEn(a v b x:V2):crs a v x+crs v b x+crs b a x=crs a v b:=by unfold crs;grind
theorem zKU(h:OnE a b z)(O:OnE z a y):OnE a b y:=by
 obtain⟨t,J,t1,rfl⟩:=h
 obtain⟨r,r0,r1,rfl⟩:=O
 have I:=rE J (show 0<=1-r by grind)
 have m2:=rE (show 0<=1-t by grind) (show 0<=1-r by grind)
 exact⟨t*(1-r),I,by grind,rF (by simp only;grind) (by simp only;grind)⟩
theorem zJJ(h:OnE a b z)(I:OnE z b y):OnE a b y:=(zKU h.symm I).symm
theorem zCA{v:V2}(I:0<crs a v b)(h0:crs a v y=0)(h1:0<=crs v b y)(h2:0<=crs b a y):OnE a v y:=by
 have hs:=zEn a v b y
 have e:crs b a y/crs a v b*crs a v b=crs b a y:=rK (by grind)
 generalize crs b a y/crs a v b=t at e
 have q:∀t:Rat,0<=t*crs a v b->0<=t:=fun t h=>by
  apply rD
  intro hn
  have:=rC (show 0< -t by grind) I
  grind
 refine⟨t,q t (by rw[e];exact h2),?_,rF (zDt (D:=crs a v b) (by grind) ?_) (zDt (D:=crs a v b) (by grind) ?_)⟩
 .have:=q (1-t) (by grind)
  grind
 .show y.1*crs a v b=(a.1+(v.1-a.1)*t)*crs a v b
  rw[show(a.1+(v.1-a.1)*t)*crs a v b=a.1*crs a v b+(v.1-a.1)*(t*crs a v b) by grind,e]
  unfold crs at*
  grind
 .show y.2*crs a v b=(a.2+(v.2-a.2)*t)*crs a v b
  rw[show(a.2+(v.2-a.2)*t)*crs a v b=a.2*crs a v b+(v.2-a.2)*(t*crs a v b) by grind,e]
  unfold crs at*
  grind
theorem zVC(f g:Aff){z c:V2}(f0:0<=f.v z)(g0:0<=g.v z)(h:f.v c<0∨g.v c<0):∃y,OnE z c y/\0<=f.v y/\0<=g.v y/\(f.v y=0∨g.v y=0):=by
 have one:∀f g:Aff,0<=f.v z->0<=g.v z->f.v c<0->(0<=g.v c∨f.v z*(g.v z-g.v c)<=g.v z*(f.v z-f.v c))->∃y,OnE z c y/\0<=f.v y/\0<=g.v y/\f.v y=0:=by
  intro f g f0 g0 fc hg
  have hd:0<f.v z-f.v c:=by grind
  have e:f.v z/(f.v z-f.v c)*(f.v z-f.v c)=f.v z:=rK (by grind)
  generalize f.v z/(f.v z-f.v c)=t at e
  have q:∀t:Rat,0<=t*(f.v z-f.v c)->0<=t:=fun t h=>by
   apply rD
   intro hn
   have:=rC (show 0< -t by grind) hd
   grind
  have t0:=q t (by grind)
  have t1:=q (1-t) (by grind)
  have ef:=zAt f z c t
  have eg:=zAt g z c t
  refine⟨seg z c t,zFB t0 (by grind),by grind,?_,by grind⟩
  rw[eg]
  rcases hg with hg|hg
  .have m1:=rE g0 (show 0<=1-t by grind)
   have m2:=rE hg t0
   grind
  .apply q
   have:(g.v z*(1-t)+g.v c*t)*(f.v z-f.v c)=g.v z*(f.v z-f.v c)-(g.v z-g.v c)*(t*(f.v z-f.v c)):=by grind
   rw[this,e]
   grind
 by_cases k1:f.v c<0<;>by_cases k2:g.v c<0
 .rcases(rL:f.v z*(g.v z-g.v c)<=g.v z*(f.v z-f.v c)∨g.v z*(f.v z-f.v c)<=f.v z*(g.v z-g.v c))with k|k
  .obtain⟨y,U,I,O,J⟩:=one f g f0 g0 k1 (.inr k)
   exact⟨y,U,I,O,.inl J⟩
  .obtain⟨y,U,I,O,J⟩:=one g f g0 f0 k2 (.inr k)
   exact⟨y,U,O,I,.inr J⟩
 .obtain⟨y,U,I,O,J⟩:=one f g f0 g0 k1 (.inl (by grind))
  exact⟨y,U,I,O,.inl J⟩
 .obtain⟨y,U,I,O,J⟩:=one g f g0 f0 k2 (.inl (by grind))
  exact⟨y,U,O,I,.inr J⟩
 .rcases h with h|h<;>grind
theorem zSS{v:V2}(hD:0<crs a v b)(h1:crs a v x=crs a v y)(h2:crs b a x=crs b a y):x=y:=by
 have I:crs a v b≠0:=by grind
 refine rF (zDt I ?_) (zDt I ?_)<;>unfold crs at* <;>grind
theorem Sim.exits(h:Sim l){a v b:V2}(h1:(a,v)∈eds l)(h2:(v,b)∈eds l)(hD:0<crs a v b){la:Rat}(h0:0<=la)
  (hc:∀u,u∈l->u≠v->0<=crs a v u->0<=crs v b u->crs b a u<=la){f:V2×V2}(hf:f∈eds l)(n1:f≠(a,v))(n2:f≠(v,b)){z:V2}(hz:OnE f.1 f.2 z)
  (z1:0<=crs a v z)(z2:0<=crs v b z)(z3:la<crs b a z):False:=by
 have O:=h.off_corner h1 h2 hf n1 n2
 have mf:=zB2 hf
 have h9:f.1≠v:=fun e=>O (by rw[<-e];exact zH7 _ _)
 have h7:f.2≠v:=fun e=>O (by rw[<-e];exact zK1 _ _)
 -- an end above the level
 have one:∀c,c∈l->c≠v->(∀y,OnE z c y->OnE f.1 f.2 y)->la<crs b a c->False:=by
  intro c h8 hd J hcg
  have I:crs a v c<0∨crs v b c<0:=by
   apply rD
   intro hn
   have:=hc c h8 hd (by grind) (by grind)
   grind
  obtain⟨y,y1,y2,y3,y4⟩:=zVC (lin a v) (lin v b) (z:=z) (c:=c) (by rw[yR];exact z1) (by rw[yR];exact z2) (by rw[yR,yR];exact I)
  rw[yR]at y2 y3
  rw[yR,yR]at y4
  have yg:0<crs b a y:=by
   have:=zEP (g:=affK (-la) 1 (lin b a)) y1 (by rw[zHI,yR];grind) (by rw[zHI,yR];grind)
   rw[zHI,yR]at this
   grind
  have U:=J y y1
  rcases y4 with k|k
  .have on:=zCA hD k y3 (rG yg)
   rcases h.meet (a,v) f h1 hf (fun e=>n1 e.symm) y on U with q|q
   .exact O (by rw[<-show y=v from q.1];exact U)
   .have:y=a:=q.1
    rw[this,zEo]at yg
    grind
  .have h6:0<crs v b a:=by
    have:crs v b a=crs a v b:=by unfold crs;grind
    rw[this];exact hD
   have on:OnE v b y:=zCA h6 k (rG yg) y2
   rcases h.meet (v,b) f h2 hf (fun e=>n2 e.symm) y on U with q|q
   .have:y=b:=q.1
    rw[this,zDa]at yg
    grind
   .exact O (by rw[<-show y=v from q.1];exact U)
 by_cases k:la<crs b a f.1
 .exact one f.1 mf.1 h9 (fun y hy=>zKU hz hy) k
 .by_cases k':la<crs b a f.2
  .exact one f.2 mf.2 h7 (fun y hy=>zJJ hz hy) k'
  .have:=zTC (g:=affK la (-1) (lin b a)) hz (by rw[zHI,yR];grind) (by rw[zHI,yR];grind)
   rw[zHI,yR]at this
   grind
structure EarP(l:List V2)(a v b:V2):Prop where
 i:(a,v)∈eds l
 o:(v,b)∈eds l
 pos:0<crs a v b
 out:∀u,u∈l->u≠a->u≠v->u≠b->crs a v u<0∨crs v b u<0∨crs b a u<0
theorem EarP.level{v:V2}(O:EarP l a v b):∀u,u∈l->u≠v->0<=crs a v u->0<=crs v b u->crs b a u<=0:=fun u I J h1 h2=>by
 by_cases ka:u=a
 .rw[ka,zEo];grind
 .by_cases kb:u=b
  .rw[kb,zDa];grind
  .rcases O.out u I ka J kb with k|k|k<;>grind
theorem EarP.exits(h:Sim l){a v b:V2}(I:EarP l a v b){f:V2×V2}(J:f∈eds l)(n1:f≠(a,v))(n2:f≠(v,b)){z:V2}(hz:OnE f.1 f.2 z)(O:0<=crs a v z)(U:0<=crs v b z)(z3:0<crs b a z):False:=
 h.exits I.i I.o I.pos (rJ) I.level J n1 n2 hz O U z3
theorem EarP.base(h:Sim l){a v b:V2}(I:EarP l a v b){f:V2×V2}(hf:f∈eds l)(n1:f≠(a,v))(n2:f≠(v,b))(n3:f≠(b,a)){z:V2}(hz:OnE f.1 f.2 z)(hb:OnE a b z):z=a∨z=b:=by
 apply rD
 intro J
 have za:z≠a:=fun e=>J (.inl e)
 have zb:z≠b:=fun e=>J (.inr e)
 have fv:=h.off_corner I.i I.o hf n1 n2
 have mf:=zB2 hf
 have h0:f.1≠v:=fun e=>fv (by rw[<-e];exact zH7 _ _)
 have O:f.2≠v:=fun e=>fv (by rw[<-e];exact zK1 _ _)
 obtain⟨t,t0,t1,e⟩:=id hb
 have hA:0<t:=by
  apply rD
  intro J
  have:t=0:=by grind
  subst this
  exact za (by rw[e];exact rF (by simp only;grind) (by simp only;grind))
 have t1':t<1:=by
  apply rD
  intro J
  have:t=1:=by grind
  subst this
  exact zb (by rw[e];exact rF (by simp only;grind) (by simp only;grind))
 have hv:∀g:Aff,g.v z=g.v a*(1-t)+g.v b*t:=fun g=>by rw[e];unfold Aff.v;grind
 have A:0<crs a v z:=by
  have:=hv (lin a v)
  rw[yR,yR,yR,zDa]at this
  have:=rC I.pos hA
  grind
 have B:0<crs v b z:=by
  have:=hv (lin v b)
  rw[yR,yR,yR,zEo]at this
  have e2:crs v b a=crs a v b:=by unfold crs;grind
  have:=rC I.pos (show 0<1-t by grind)
  grind
 have C:crs b a z=0:=by
  have:=hv (lin b a)
  rw[yR,yR,yR,zDa,zEo]at this
  grind
 have hh:∀u,u∈l->u≠v->z≠u:=fun u hu h1 k=>by
  subst k
  rcases I.out z hu za h1 zb with k|k|k<;>grind
 -- no end above the base
 have up:∀c,c∈l->c≠v->(∀y,OnE z c y->OnE f.1 f.2 y)-> ¬0<crs b a c:=by
  intro c hcl hcv hk hq
  obtain⟨d1,p1,hB⟩:=zCh (g:=lin a v) (s:=z) (by rw[yR];exact A)
  obtain⟨d2,p2,hs⟩:=zCh (g:=lin v b) (s:=z) (by rw[yR];exact B)
  obtain⟨m,m0,m1,m2⟩:=jL p1 p2
  obtain⟨r,U,r1,hr⟩:=zGC z c m0
  have y1:=hB _ (hr.mono m1);have y2:=hs _ (hr.mono m2)
  rw[yR]at y1 y2
  have y3:=zAt (lin b a) z c r
  rw[yR,yR,yR,C]at y3
  have:=rC hq U
  exact I.exits h hf n1 n2 (hk _ (zFB (rG U) (rG r1))) (rG y1) (rG y2) (by grind)
 have u1:=up f.1 mf.1 h0 (fun y hy=>zKU hz hy)
 have u2:=up f.2 mf.2 O (fun y hy=>zJJ hz hy)
 obtain⟨r,U,r1,er⟩:=id hz
 have hp:0<r:=by
  apply rD
  intro J
  have:r=0:=by grind
  subst this
  exact hh f.1 mf.1 h0 (by rw[er];exact rF (by simp only;grind) (by simp only;grind))
 have r1':r<1:=by
  apply rD
  intro J
  have:r=1:=by grind
  subst this
  exact hh f.2 mf.2 O (by rw[er];exact rF (by simp only;grind) (by simp only;grind))
 have hr:crs b a z=crs b a f.1*(1-r)+crs b a f.2*r:=by
  have:=zAt (lin b a) f.1 f.2 r
  rw[yR,yR,yR]at this
  rw[<-this,er];rfl
 have m1:=rE (show 0<=-crs b a f.1 by grind) (show 0<=1-r by grind)
 have m2:=rE (show 0<=-crs b a f.2 by grind) (rG hp)
 have f1:crs b a f.1=0:=by
  rcases rI.1 (show crs b a f.1*(1-r)=0 by grind)with k|k<;>grind
 have f2:crs b a f.2=0:=by
  rcases rI.1 (show crs b a f.2*r=0 by grind)with k|k<;>grind
 -- both ends on the base's line, not inside it: the base lies in the edge
 have s1:=zEn a v b f.1;have s2:=zEn a v b f.2
 have hg:∀u,u∈l->u≠v->crs b a u=0->u=a∨u=b∨crs a v u<0∨crs v b u<0:=fun u hu h1 k=>by
  by_cases ka:u=a
  .exact .inl ka
  .by_cases kb:u=b
   .exact .inr (.inl kb)
   .rcases I.out u hu ka h1 kb with q|q|q
    .exact .inr (.inr (.inl q))
    .exact .inr (.inr (.inr q))
    .grind
 have w1:crs a v z=crs a v f.1*(1-r)+crs a v f.2*r:=by
  have:=zAt (lin a v) f.1 f.2 r
  rw[yR,yR,yR]at this
  rw[<-this,er];rfl
 -- the place along the base: crs a v is nought at a, the whole at b
 have h8:crs a v f.1<=0∨crs a v b<=crs a v f.1:=by
  rcases hg f.1 mf.1 h0 f1 with q|q|q|q
  .left;rw[q,zDa];grind
  .right;rw[q];grind
  .left;grind
  .right;grind
 have h7:crs a v f.2<=0∨crs a v b<=crs a v f.2:=by
  rcases hg f.2 mf.2 O f2 with q|q|q|q
  .left;rw[q,zDa];grind
  .right;rw[q];grind
  .left;grind
  .right;grind
 have zs:crs a v z<crs a v b:=by have:=zEn a v b z;grind
 have hc:=I.pos
 -- a and b lie on the edge
 have on:OnE f.1 f.2 a/\OnE f.1 f.2 b:=by
  have hne:crs a v f.1≠crs a v f.2:=fun k=>by
   rw[<-k]at w1
   grind
  have mk:∀u:V2,crs b a u=0->(crs a v f.1<=crs a v u/\crs a v u<=crs a v f.2∨crs a v f.2<=crs a v u/\crs a v u<=crs a v f.1)->OnE f.1 f.2 u:=by
   intro u hu h9
   have eq:(crs a v u-crs a v f.1)/(crs a v f.2-crs a v f.1)*(crs a v f.2-crs a v f.1)=crs a v u-crs a v f.1:=rK (by grind)
   generalize(crs a v u-crs a v f.1)/(crs a v f.2-crs a v f.1)=q at eq
   have q0:0<=q:=by
    apply rD
    intro J
    rcases h9 with k|k
    .have:=rC (show 0< -q by grind) (show 0<crs a v f.2-crs a v f.1 by grind);grind
    .have:=rC (show 0< -q by grind) (show 0<crs a v f.1-crs a v f.2 by grind);grind
   have q1:q<=1:=by
    apply rD
    intro J
    rcases h9 with k|k
    .have:=rC (show 0<q-1 by grind) (show 0<crs a v f.2-crs a v f.1 by grind);grind
    .have:=rC (show 0<q-1 by grind) (show 0<crs a v f.1-crs a v f.2 by grind);grind
   have x1:crs a v (seg f.1 f.2 q)=crs a v u:=by
    have:=zAt (lin a v) f.1 f.2 q
    rw[yR,yR,yR]at this
    grind
   have x2:crs b a (seg f.1 f.2 q)=crs b a u:=by
    have:=zAt (lin b a) f.1 f.2 q
    rw[yR,yR,yR]at this
    grind
   have:=zSS hc x1 x2
   rw[<-this]
   exact zFB q0 q1
  refine⟨mk a (zEo b a) ?_,mk b (zDa b a) ?_⟩
  .rw[zDa]
   rcases h8 with k1|k1<;>rcases h7 with k2|k2
   .exfalso
    have m1:=rE (show 0<=-crs a v f.1 by grind) (show 0<=1-r by grind)
    have m2:=rE (show 0<=-crs a v f.2 by grind) U
    grind
   .left;exact⟨k1,by grind⟩
   .right;exact⟨k2,by grind⟩
   .exfalso
    have m1:=rE (show 0<=crs a v f.1-crs a v b by grind) (show 0<=1-r by grind)
    have m2:=rE (show 0<=crs a v f.2-crs a v b by grind) U
    grind
  .rcases h8 with k1|k1<;>rcases h7 with k2|k2
   .exfalso
    have m1:=rE (show 0<=-crs a v f.1 by grind) (show 0<=1-r by grind)
    have m2:=rE (show 0<=-crs a v f.2 by grind) U
    grind
   .left;exact⟨by grind,k2⟩
   .right;exact⟨by grind,k1⟩
   .exfalso
    have m1:=rE (show 0<=crs a v f.1-crs a v b by grind) (show 0<=1-r by grind)
    have m2:=rE (show 0<=crs a v f.2-crs a v b by grind) U
    grind
 have ea:a=f.2:=by
  rcases h.meet (a,v) f I.i hf (fun e=>n1 e.symm) a (zH7 a v) on.1 with q|q
  .exact absurd q.1 (h.ne I.i)
  .exact q.2
 have eb:b=f.1:=by
  rcases h.meet (v,b) f I.o hf (fun e=>n2 e.symm) b (zK1 v b) on.2 with q|q
  .exact q.2
  .exact absurd q.1.symm (h.ne I.o)
 exact n3 (rF eb.symm ea.symm)
theorem PO.wedge(h:PO l){a v b:V2}(h1:(a,v)∈eds l)(h2:(v,b)∈eds l)(hD:0<crs a v b):∃d:Rat,0<d/\∀x,Nr d v x->0<crs a v x->0<crs v b x->wE (eds l) x=1:=by
 have U:=h.sim
 have fn:∀f,f∈(eds l).filter (fun f=>decide (f≠(a,v))&&decide (f≠(v,b)))->f∈eds l/\f≠(a,v)/\f≠(v,b):=fun f I=>by
  obtain⟨g1,g2⟩:=lV.1 I
  rw[xV,cE,cE]at g2
  exact⟨g1,g2⟩
 obtain⟨d,d0,hd⟩:=nbh (a:=v) (b:=v) ((eds l).filter fun f=>decide (f≠(a,v))&&decide (f≠(v,b))) (fun f I=>U.ne (fn f I).1) (fun f I z hz O=>U.off_corner h1 h2 (fn f I).1 (fn f I).2.1 (fn f I).2.2 (by rw[<-zTA O];exact hz))
 have hm:∀f,f∈eds l->f=(a,v)∨f=(v,b)∨f∈(eds l).filter (fun f=>decide (f≠(a,v))&&decide (f≠(v,b))):=fun f I=>by
  by_cases k1:f=(a,v)
  .exact .inl k1
  .by_cases k2:f=(v,b)
   .exact .inr (.inl k2)
   .exact .inr (.inr (lV.2 ⟨I,by simp[k1,k2]⟩))
 have J:0<d/2:=by grind
 obtain⟨t,t0,t1,ht⟩:=zK7 a v J
 obtain⟨y,y1,y2,y3,y4⟩:=(h.side _ h1).1.half (U.own h1) (.inl rfl) (lin v b) t0 t1 (.inl (by
  rw[yR]
  have e:crs v b (seg a v t)=(1-t)*crs a v b:=by unfold crs seg;grind
  rw[e];exact rC (by grind) hD)) J
 have ny:Nr d v y:=(ht.add y1).mono (by grind)
 rw[yR]at y3
 refine⟨d,d0,fun x hx x1 x2=>?_⟩
 rw[<-y4]
 have s1:0<(sd 1 (a,v)).v x:=by rw[zFC];show 0<1*crs a v x;grind
 have s2:0<(sd 1 (v,b)).v x:=by rw[zFC];show 0<1*crs v b x;grind
 have s3:0<(sd 1 (v,b)).v y:=by rw[zFC];show 0<1*crs v b y;grind
 refine zCU (zCM l) fun f I=>?_
 rcases hm f I with rfl|rfl|I
 .exact zBW s1 y2
 .exact zBW s2 s3
 .exact hd x y hx ny f I
theorem EarP.inside(h:PO l){a v b:V2}(J:EarP l a v b){w:V2}(hw:∀f,f∈eds l-> ¬OnE f.1 f.2 w)(w1:0<=crs a v w)(w2:0<=crs v b w)(w3:0<=crs b a w):wE (eds l) w=1:=by
 have U:=J.pos
 have A:0<crs a v w:=by
  apply rD
  intro hn
  exact hw _ J.i (zCA U (by grind) w2 w3)
 have B:0<crs v b w:=by
  apply rD
  intro hn
  have h5:0<crs v b a:=by
   have:crs v b a=crs a v b:=by unfold crs;grind
   rw[this];exact U
  exact hw _ J.o (zCA h5 (by grind) w3 w1)
 obtain⟨d,d0,hd⟩:=h.wedge J.i J.o U
 obtain⟨t,t0,t1,ht⟩:=zGC v w d0
 have ev:∀g:Aff,g.v (seg v w t)=g.v v*(1-t)+g.v w*t:=fun g=>zAt g v w t
 have y1:=ev (lin a v);have y2:=ev (lin v b);have y3:=ev (lin b a)
 rw[yR,yR,yR]at y1 y2 y3
 rw[zEo]at y1
 rw[zDa]at y2
 have e3:crs b a v=crs a v b:=by unfold crs;grind
 have m1:=rC A t0;have m2:=rC B t0
 have m3:=rC U (show 0<1-t by grind)
 have m4:=rE w3 (rG t0)
 have Y1:0<crs a v (seg v w t):=by grind
 have Y2:0<crs v b (seg v w t):=by grind
 have Y3:0<crs b a (seg v w t):=by
  rw[y3,e3]
  clear hd hw
  grind
 rw[<-hd _ ht Y1 Y2]
 refine zCU (zCM l) fun f hf z O I=>?_
 have z1:=zEP (g:=lin a v) I (by rw[yR];exact A) (by rw[yR];exact Y1)
 have z2:=zEP (g:=lin v b) I (by rw[yR];exact B) (by rw[yR];exact Y2)
 rw[yR]at z1 z2
 by_cases n1:f=(a,v)
 .subst n1
  have:crs a v z=0:=by obtain⟨t,_,_,rfl⟩:=O;unfold crs;grind
  grind
 by_cases n2:f=(v,b)
 .subst n2
  have:crs v b z=0:=by obtain⟨t,_,_,rfl⟩:=O;unfold crs;grind
  grind
 by_cases k:z=w
 .rw[k]at O;exact hw f hf O
 have z3:0<crs b a z:=by
  obtain⟨r,r0,r1,e⟩:=I
  have h4:0<r:=by
   apply rD
   intro hn
   have:r=0:=by grind
   subst this
   exact k (by rw[e];exact rF (by simp only;grind) (by simp only;grind))
  have:crs b a z=crs b a w*(1-r)+crs b a (seg v w t)*r:=by
   have:=zAt (lin b a) w (seg v w t) r
   rw[yR,yR,yR]at this
   rw[<-this,e];rfl
  have:=rC Y3 h4
  have:=rE w3 (show 0<=1-r by grind)
  grind
 exact J.exits h.sim hf n1 n2 O (rG z1) (rG z2) z3
theorem qT(x y:V2)(A:List V2):eds (x::(A++ [y]))=pe (x::(A++ [y]))++ [(y,x)]:=by
 show pe (x::(A++ [y]++ [x]))=_
 have e:x::(A++ [y]++ [x])=(x::A)++ [y,x]:=by simp
 rw[e,zFQ]
 rfl
theorem zCc(h:e∈pe (x::(A++ [y]))):e.1∈x::A:=by
 have:=zNA (x::A) y
 rw[<-this]
 exact xG.2 ⟨e,h,rfl⟩
theorem zDq(h:e∈pe (x::(A++ [y]))):e.2∈A++ [y]:=by
 have:=zNz x (A++ [y])
 rw[<-this]
 exact xG.2 ⟨e,h,rfl⟩
theorem zG3(h:Sim l){x y:V2}{A:List V2}(hA:A≠ [])(hn:(x::(A++ [y])).Nodup)(hE:∀f,f∈pe (x::(A++ [y]))->f∈eds l)(hd:∀f,f∈pe (x::(A++ [y]))->∀w,OnE f.1 f.2 w->OnE y x w->w=x∨w=y):Sim (x::(A++ [y])):=by
 have yA:y ∉ x::A:=fun k=>by
  have e:x::(A++ [y])=(x::A)++ [y]:=rfl
  rw[e,rX]at hn
  exact hn.2.2 y k y fC rfl
 have xA:x ∉ A++ [y]:=(bX.1 hn).1
 have one:∀e,e∈pe (x::(A++ [y]))->∀w,OnE e.1 e.2 w->OnE y x w->(w=e.2/\w=y)∨(w=e.1/\w=x):=by
  intro e I w hw h7
  rcases hd e I w hw h7 with rfl|rfl
  .right
   refine⟨?_,rfl⟩
   cases A with
   |nil=>exact absurd rfl hA
   | cons m A=>
    have ho:((w,m):V2×V2)∈pe (w::(m::A++ [y])):=by simp[pe]
    by_cases k:e=(w,m)
    .rw[k]
    .rcases h.meet e (w,m) (hE e I) (hE _ ho) k w hw (zH7 w m)with q|q
     .exact absurd (by rw[q.1];exact zDq I) xA
     .exact q.1
  .left
   refine⟨?_,rfl⟩
   rcases sG A with rfl|⟨A,m,rfl⟩
   .exact absurd rfl hA
   .have ho:((m,w):V2×V2)∈pe (x::(A.concat m++ [w])):=by
     have e1:x::(A.concat m++ [w])=(x::A)++ [m,w]:=by simp
     rw[e1,zFQ]
     simp
    by_cases k:e=(m,w)
    .rw[k]
    .rcases h.meet e (m,w) (hE e I) (hE _ ho) k w hw (zK1 m w)with q|q
     .exact q.1
     .exact absurd (by rw[q.1];exact zCc I) yA
 refine⟨by have:=gE.2 hA;simp;omega,hn,fun e f I J U z hz O=>?_⟩
 rw[qT]at I J
 rcases vV.1 I with I|I<;>rcases vV.1 J with J|J
 .exact h.meet e f (hE e I) (hE f J) U z hz O
 .obtain rfl:f=(y,x):=by simpa using J
  exact one e I z hz O
 .obtain rfl:e=(y,x):=by simpa using I
  rcases one f J z O hz with q|q
  .exact .inr ⟨q.2,q.1⟩
  .exact .inl ⟨q.2,q.1⟩
 .obtain rfl:f=(y,x):=by simpa using J
  obtain rfl:e=(y,x):=by simpa using I
  exact absurd rfl U
theorem zDf.perm{I:List (V2×V2)}(hp:E.Perm I){e:V2×V2}{s:Rat}{k:Int}(h:zDf E e s k):zDf I e s k:=fun t J t1=>by
 obtain⟨d,d0,O⟩:=h t J t1
 exact⟨d,d0,fun x U kx=>by rw[<-zJj hp];exact O x U kx⟩
theorem PO.of_perm(h:PO l)(J:l.Perm l')(I:(eds l).Perm (eds l')):PO l':=
 ⟨h.sim.of_perm J I,fun e O=>by have:=h.side e (I.mem_iff.2 O);exact⟨this.1.perm I,this.2.perm I⟩⟩
theorem PO.rot{x y:List V2}(h:PO (x++y)):PO (y++x):=h.of_perm rQ (zAO x y).symm
theorem EarP.of_perm{v:V2}(h:EarP l a v b)(O:l.Perm l')(I:(eds l).Perm (eds l')):EarP l' a v b:=
 ⟨I.mem_iff.1 h.i,I.mem_iff.1 h.o,h.pos,fun u J=>h.out u (O.mem_iff.2 J)⟩
theorem zEK(v z:V2)(A B:List V2):eds (v::(A++z::B))=pe (v::(A++ [z]))++pe (z::(B++ [v])):=by
 show pe (v::(A++z::B++ [v]))=_
 have e:v::(A++z::B++ [v])=(v::A)++z::(B++ [v]):=by simp
 rw[e,zNB]
 rfl
theorem zFp(E F:List (V2×V2))(p:V2):wE (E++F) p=wE E p+wE F p:=by unfold wE;simp
theorem zUD(v z:V2)(A B:List V2)(p:V2):wE (eds (v::(A++z::B))) p=wE (eds (v::(A++ [z]))) p+wE (eds (z::(B++ [v]))) p:=by
 rw[zEK,qT,qT,zFp,zFp,zFp]
 have:wE [(z,v)] p= -wE [(v,z)] p:=by
  rw[zCi,zCi,zDd v z p]
  unfold wE
  simp
 omega
def zO9(l:List V2)(v z:V2):Prop:=∀f,f∈eds l->∀w,OnE f.1 f.2 w->OnE v z w->w=v∨w=z
theorem zNR{v:V2}{B:List V2}(h:(v::(A++z::B)).Nodup):(v::(A++ [z])).Nodup/\(z::(B++ [v])).Nodup/\v≠z:=by
 simp only[bX,rX,vV,xS,rO,rN,not_or,List.nodup_nil,sO,nR]at h ⊢
 obtain⟨⟨O,h2,h3⟩,U,⟨h5,h6⟩,h7⟩:=h
 exact⟨⟨⟨O,h2⟩,U,trivial,fun x I y J=>h7 x I y (.inl J)⟩,⟨⟨h5,fun e=>h2 e.symm⟩,h6,trivial,fun x I y J e=>h3 (by rw[<-J,<-e];exact I)⟩,h2⟩
theorem PO.split{v:V2}{B:List V2}(h:PO (v::(A++z::B)))(hA:A≠ [])(hB:B≠ [])(hd:zO9 (v::(A++z::B)) v z){a b:V2}(h1:(a,v)∈eds (v::(A++z::B)))(h2:(v,b)∈eds (v::(A++z::B)))(hD:0<crs a v b)(z1:0<crs a v z)(z2:0<crs v b z):
  PO (v::(A++ [z]))/\PO (z::(B++ [v])):=by
 have hs:=h.sim
 obtain⟨n1,n2,h4⟩:=zNR hs.nod
 have m1:∀f,f∈pe (v::(A++ [z]))->f∈eds (v::(A++z::B)):=fun f I=>by rw[zEK];exact vV.2 (.inl I)
 have m2:∀f,f∈pe (z::(B++ [v]))->f∈eds (v::(A++z::B)):=fun f I=>by rw[zEK];exact vV.2 (.inr I)
 have s1:Sim (v::(A++ [z])):=zG3 hs hA n1 m1 fun f I w hw U=>hd f (m1 f I) w hw U.symm
 have s2:Sim (z::(B++ [v])):=zG3 hs hB n2 m2 fun f I w hw U=>(hd f (m2 f I) w hw U).symm
 have O:(0:Rat)<1/2/\(1/2:Rat)<1:=by constructor<;>grind
 have h5:∀r:Rat,0<r->r<1->∀f,f∈eds (v::(A++z::B))-> ¬OnE f.1 f.2 (seg v z r):=fun r r0 r1 f I hw=>by
  have:=zIn h4 r0 r1
  rcases hd f I _ hw (zFB (rG r0) (rG r1))with k|k
  .exact this.1 k
  .exact this.2 k
 -- inside, on the diagonal
 have wm:wE (eds (v::(A++z::B))) (seg v z (1/2))=1:=by
  obtain⟨d,d0,hw⟩:=h.wedge h1 h2 hD
  obtain⟨t,t0,t1,ht⟩:=zGC v z d0
  have y1:=zAt (lin a v) v z t;have y2:=zAt (lin v b) v z t
  rw[yR,yR,yR,zEo]at y1
  rw[yR,yR,yR,zDa]at y2
  have k1:=rC z1 t0;have k2:=rC z2 t0
  rw[<-hw _ ht (by grind) (by grind)]
  refine zCU (zCM _) fun f I u hu J=>?_
  obtain⟨r,r0,r1,rfl⟩:=zMS O ⟨t0,t1⟩ J
  exact h5 r r0 r1 f I hu
 obtain⟨k1,e1,S1⟩:=s1.kind
 obtain⟨k2,e2,S2⟩:=s2.kind
 have i1:((z,v):V2×V2)∈eds (v::(A++ [z])):=by rw[qT];simp
 have i2:((v,z):V2×V2)∈eds (z::(B++ [v])):=by rw[qT];simp
 obtain⟨d1,p1,hl⟩:=(S1 _ i1).1 (1/2) O.1 O.2
 obtain⟨d2,p2,hc⟩:=(S2 _ i2).2 (1/2) O.1 O.2
 obtain⟨d3,p3,h9⟩:=nbh (a:=seg v z (1/2)) (b:=seg v z (1/2)) _ (fun f I=>hs.ne I) (fun f I u hu J=>h5 (1/2) O.1 O.2 f I (by rw[<-zTA J];exact hu))
 obtain⟨m,m0,m11,m12⟩:=jL p1 p2
 obtain⟨n,n0,n11,hm⟩:=jL m0 p3
 have sb:seg z v (1/2)=seg v z (1/2):=by rw[zG9 z v];rw[show(1:Rat)-1/2=1/2 by grind]
 obtain⟨q,q1,q2⟩:=zAF (e:=(z,v)) (fun k=>h4 k.symm) (s:=1) (.inl rfl) n0 (m:=seg v z (1/2)) (by rw[<-sb];exact zAD (z,v) (1/2))
 have a1:=hl q (by show Nr d1 (seg z v (1/2)) q;rw[sb];exact q1.mono (by grind)) q2
 have a2:=hc q (q1.mono (by grind)) (by
  rw[zFC]at q2 ⊢;show 0< -1*crs v z q;have:0<1*crs z v q:=q2
  rw[zH2]at this;grind)
 have a3:wE (eds (v::(A++z::B))) (seg v z (1/2))=wE (eds (v::(A++z::B))) q:=zCU (zCM _) (h9 _ q (.self p3 _) (q1.mono hm))
 have a4:=zUD v z A B q
 have b1:k1=1:=by omega
 have b2:k2=1:=by omega
 subst b1 b2
 exact⟨⟨s1,S1⟩,s2,S2⟩
theorem zOF{v:V2}{B:List V2}(h:PO (v::(A++z::B)))(h1:PO (v::(A++ [z])))(h2:PO (z::(B++ [v])))(hd:zO9 (v::(A++z::B)) v z){a u b:V2}(O:EarP (z::(B++ [v])) a u b)(uv:u≠v)(uz:u≠z):EarP (v::(A++z::B)) a u b/\u∈B:=by
 have U:=h.sim
 have hn:=U.nod
 have m2:∀f,f∈pe (z::(B++ [v]))->f∈eds (v::(A++z::B)):=fun f I=>by rw[zEK];exact vV.2 (.inr I)
 have hi:(a,u)∈pe (z::(B++ [v])):=by
  have:=O.i
  rw[qT]at this
  rcases vV.1 this with k|k
  .exact k
  .have:((a,u):V2×V2)=(v,z):=by simpa using k
   exact absurd (vQ Prod.snd this) uz
 have ho:(u,b)∈pe (z::(B++ [v])):=by
  have:=O.o
  rw[qT]at this
  rcases vV.1 this with k|k
  .exact k
  .have:((u,b):V2×V2)=(v,z):=by simpa using k
   exact absurd (vQ Prod.fst this) uv
 have uB:u∈B:=by
  rcases vV.1 (zDq hi)with k|k
  .exact k
  .exact absurd (by simpa using k) uv
 refine⟨⟨m2 _ hi,m2 _ ho,O.pos,fun w hw wa wu wb=>?_⟩,uB⟩
 by_cases hw2:w∈z::(B++ [v])
 .exact O.out w hw2 wa wu wb
 have wv:w≠v:=fun e=>hw2 (by rw[e];simp)
 have wz:w≠z:=fun e=>hw2 (by rw[e];simp)
 have wB:w ∉ B:=fun e=>hw2 (by simp[e])
 apply rD
 intro hno
 obtain⟨_,c,_,J⟩:=U.at_corner hw
 have h9:(w,c)∈pe (v::(A++ [z])):=by
  rw[zEK]at J
  rcases vV.1 J with k|k
  .exact k
  .rcases xS.1 (zCc k)with q|q
   .exact absurd q wz
   .exact absurd q wB
 have off:∀f,f∈eds (z::(B++ [v]))-> ¬OnE f.1 f.2 w:=by
  intro f I hz
  rw[qT]at I
  rcases vV.1 I with I|I
  .have n1:f≠(w,c):=fun k=>by
    have:=zCc I
    rw[k]at this
    rcases xS.1 this with q|q
    .exact wz q
    .exact wB q
   rcases U.meet f (w,c) (m2 f I) J n1 w hz (zH7 w c)with q|q
   .have:=zDq I
    rw[<-q.1]at this
    rcases vV.1 this with k|k
    .exact wB k
    .exact wv (by simpa using k)
   .have:=zCc I
    rw[<-q.1]at this
    rcases xS.1 this with k|k
    .exact wz k
    .exact wB k
  .obtain rfl:f=(v,z):=by simpa using I
   rcases hd (w,c) J w (zH7 w c) hz with k|k
   .exact wv k
   .exact wz k
 have w1:wE (eds (z::(B++ [v]))) w=1:=O.inside h2 off (by grind) (by grind) (by grind)
 obtain⟨d,d0,ha⟩:=nbh (a:=w) (b:=w) _ (fun f I=>h2.sim.ne I) (fun f I u hu h7=>off f I (by rw[<-zTA h7];exact hu))
 have d2:0<d/2:=by grind
 obtain⟨t,t0,t1,ht⟩:=zGC w c d2
 obtain⟨d3,p3,h5⟩:=(h.side _ J).1 t t0 t1
 obtain⟨d4,p4,hc⟩:=(h1.side (w,c) (by rw[qT];exact vV.2 (.inl h9))).1 t t0 t1
 obtain⟨m,m0,m11,m12⟩:=jL d2 p3
 obtain⟨n,n0,n11,n12⟩:=jL m0 p4
 obtain⟨q,q1,q2⟩:=zAF (U.ne J) (s:=1) (.inl rfl) n0 (zAD (w,c) t)
 have a1:=h5 q (q1.mono (by grind)) q2
 have a2:=hc q (q1.mono (by grind)) q2
 have a3:=zUD v z A B q
 have a4:wE (eds (z::(B++ [v]))) w=wE (eds (z::(B++ [v]))) q:=zCU (zCM _) (ha w q (.self d0 w) ((ht.add q1).mono (by grind)))
 omega
theorem zO9.symm{v:V2}(h:zO9 l v z):zO9 l z v:=fun f J w O I=>(h f J w O I.symm).symm
theorem zO9.of_perm{v:V2}(h:zO9 l v z)(J:(eds l).Perm (eds l')):zO9 l' v z:=fun f I=>h f (J.mem_iff.2 I)
theorem zLp:∀(n:Nat) (l:List V2),l.length<=n->PO l->∀e,e∈eds l->∃a v b,v≠e.1/\v≠e.2/\EarP l a v b
 |0,l,U,h,e,he=>by have:=h.sim.three;omega
 | n+1,l,U,h,e,he=>by
  have hs:=h.sim
  have hI:=hs.ne he
  have hD0:=zHW hI
  -- some zI8 lies left of the edge
  have ha:∃u,u∈l/\0<crs e.1 e.2 u:=by
   apply rD
   intro hc
   have hc:∀u,u∈l->crs e.1 e.2 u<=0:=fun u O=>by
    apply rD
    intro U
    exact hc ⟨u,O,by grind⟩
   obtain⟨d,d0,hd⟩:=(h.side e he).1 (1/2) (by grind) (by grind)
   obtain⟨q,q1,q2⟩:=zAF hI (s:=1) (.inl rfl) d0 (zAD e (1/2))
   have w1:=hd q q1 q2
   rw[zFC]at q2
   have:=zF8 (lin e.1 e.2) (l:=l) (p:=q) (fun u O=>by rw[yR,yR];have:=hc u O;grind)
   omega
  obtain⟨v,hv,hE,L,hL⟩:=zGo (lin e.1 e.2) (by unfold lin;simp only;grind) (l:=l) (fun k=>by rw[k]at he;simp[eds]at he)
  have hC:0<crs e.1 e.2 v:=by
   obtain⟨u,O,hu'⟩:=ha
   have:=hE u O
   rw[yR,yR]at this
   grind
  have hW:v≠e.1:=fun k=>by rw[k,zDa]at hC;grind
  have q5:v≠e.2:=fun k=>by rw[k,zEo]at hC;grind
  obtain⟨a,b,h1,h2⟩:=hs.at_corner hv
  have hD:0<crs a v b:=by
   rcases hs.extreme (k:=1) h.side L h1 h2 hL with q|q
   .exact q.1
   .exact absurd q.2 (by decide)
  by_cases hear:∀u,u∈l->u≠a->u≠v->u≠b->crs a v u<0∨crs v b u<0∨crs b a u<0
  .exact⟨a,v,b,hW,q5,h1,h2,hD,hear⟩
  -- the zI8 in the triangle that is farthest from the base
  have hZ:l.filter (fun u=>decide (u≠a/\u≠v/\u≠b/\0<=crs a v u/\0<=crs v b u/\0<=crs b a u))≠ []:=fun k=>hear fun u O ua uv ub=>by
   apply rD
   intro U
   have:u∈l.filter (fun u=>decide (u≠a/\u≠v/\u≠b/\0<=crs a v u/\0<=crs v b u/\0<=crs b a u)):=lV.2 ⟨O,lI ⟨ua,uv,ub,by grind,by grind,by grind⟩⟩
   rw[k]at this
   cases this
  obtain⟨z,hz,q4⟩:=zHG (fun u=>crs b a u) _ hZ
  obtain⟨hJ,hX⟩:=lV.1 hz
  obtain⟨za,zv,zb,z1,z2,z3⟩:=xW hX
  obtain⟨_,c,_,hg⟩:=hs.at_corner hJ
  have hG:0<crs a v z:=by
   apply rD
   intro U
   have on:=zCA hD (by grind) z2 z3
   rcases hs.meet (a,v) (z,c) h1 hg (fun k=>za (vQ Prod.fst k).symm) z on (zH7 z c)with q|q
   .exact zv q.1
   .exact za q.1
  have hx:0<crs v b z:=by
   apply rD
   intro U
   have hS:0<crs v b a:=by
    have:crs v b a=crs a v b:=by unfold crs;grind
    rw[this];exact hD
   have on:=zCA hS (by grind) z3 z1
   rcases hs.meet (v,b) (z,c) h2 hg (fun k=>zv (vQ Prod.fst k).symm) z on (zH7 z c)with q|q
   .exact zb q.1
   .exact zv q.1
  have q3:∀u,u∈l->u≠v->0<=crs a v u->0<=crs v b u->crs b a u<=crs b a z:=fun u O uv u1 u2=>by
   by_cases ua:u=a
   .rw[ua,zEo];exact z3
   .by_cases ub:u=b
    .rw[ub,zDa];exact z3
    .by_cases u3:0<=crs b a u
     .exact q4 u (lV.2 ⟨O,lI ⟨ua,uv,ub,u1,u2,u3⟩⟩)
     .grind
  have hU:zO9 l v z:=by
   intro f hf w hw hY
   apply rD
   intro U
   have wv:w≠v:=fun k=>U (.inl k)
   obtain⟨r,r0,r1,er⟩:=id hY
   have hl:0<r:=by
    apply rD
    intro U
    have:r=0:=by grind
    subst this
    exact wv (by rw[er];exact rF (by simp only;grind) (by simp only;grind))
   have r1':r<1:=by
    apply rD
    intro hn'
    have:r=1:=by grind
    subst this
    exact U (.inr (by rw[er];exact rF (by simp only;grind) (by simp only;grind)))
   have es:w=seg v z r:=er
   have y1:=zAt (lin a v) v z r;have y2:=zAt (lin v b) v z r;have y3:=zAt (lin b a) v z r
   rw[<-es,yR,yR,yR]at y1 y2 y3
   rw[zEo]at y1
   rw[zDa]at y2
   have e3:crs b a v=crs a v b:=by unfold crs;grind
   rw[e3]at y3
   have k1:=rC hG hl;have k2:=rC hx hl
   have zs:=zEn a v b z
   have k3:=rC (show 0<crs a v b-crs b a z by grind) (show 0<1-r by grind)
   by_cases n1:f=(a,v)
   .subst n1
    have:crs a v w=0:=by obtain⟨t,_,_,rfl⟩:=hw;unfold crs;grind
    grind
   by_cases n2:f=(v,b)
   .subst n2
    have:crs v b w=0:=by obtain⟨t,_,_,rfl⟩:=hw;unfold crs;grind
    grind
   exact hs.exits h1 h2 hD z3 q3 hf n1 n2 hw (by grind) (by grind) (by grind)
  -- turned so that the zI8 is first
  obtain⟨X,Y,rfl⟩:=sP hv
  have hp:=zAO X (v::Y)
  have hh:(X++v::Y).Perm (v::(Y++X)):=rQ
  have h':PO (v::(Y++X)):=h.rot
  have zm:z∈Y++X:=by
   rcases xS.1 (hh.mem_iff.1 hJ)with k|k
   .exact absurd k zv
   .exact k
  have h0:=hp.mem_iff.2 h1
  have h5:=hp.mem_iff.2 h2
  have h4:=hp.mem_iff.2 he
  have J:zO9 (v::(Y++X)) v z:=hU.of_perm hp.symm
  have h6:(v::(Y++X)).length<=n+1:=by rw[<-hh.length_eq];exact U
  have back:∀{a v' b:V2},EarP (v::(Y++X)) a v' b->EarP (X++v::Y) a v' b:=fun k=>k.of_perm hh.symm hp
  simp only[mO]at h0 h5 h4
  obtain⟨A,B,hm⟩:=sP zm
  rw[hm]at h' h0 h5 h4 J h6 back
  have hA:A≠ []:=fun k=>by
   subst k
   have:((v,z):V2×V2)∈eds (v::([]++z::B)):=by
    show(v,z)∈pe (v::(z::B++ [v]))
    simp[pe]
   exact zb (vQ Prod.snd (h'.sim.fst this h5 rfl))
  have hB:B≠ []:=fun k=>by
   subst k
   have:((z,v):V2×V2)∈eds (v::(A++ [z])):=by rw[qT];simp
   exact za (vQ Prod.fst (h'.sim.snd this h0 rfl))
  obtain⟨P1,P2⟩:=h'.split hA hB J h0 h5 hD hG hx
  have I:=h'.sim.nod
  have lA:=gE.2 hA
  have lB:=gE.2 hB
  simp only[lW,uF]at h6
  rw[zEK]at h4
  rcases vV.1 h4 with k|k
  .obtain⟨a',u,b',u1,u2,O⟩:=zLp n (z::(B++ [v])) (by simp;omega) P2 (v,z) (by rw[qT];simp)
   obtain⟨g1,g2⟩:=zOF h' P1 P2 J O u1 u2
   refine⟨a',u,b',fun q=>?_,fun q=>?_,back g1⟩
   .have:=zCc k
    rw[<-q]at this
    simp only[bX,rX,vV,xS]at I
    rcases xS.1 this with r|r
    .exact u1 r
    .exact I.2.2.2 u r u (.inr g2) rfl
   .have:=zDq k
    rw[<-q]at this
    simp only[bX,rX,vV,xS]at I
    rcases vV.1 this with r|r
    .exact I.2.2.2 u r u (.inr g2) rfl
    .exact u2 (by simpa using r)
  .have hK:=zAO (v::A) (z::B)
   have hr:(v::(A++z::B)).Perm (z::(B++v::A)):=rQ (l₁:=v::A) (l₂:=z::B)
   have q0:PO (z::(B++v::A)):=PO.rot (x:=v::A) (y:=z::B) h'
   obtain⟨a',u,b',u1,u2,O⟩:=zLp n (v::(A++ [z])) (by simp;omega) P1 (z,v) (by rw[qT];simp)
   obtain⟨g1,g2⟩:=zOF q0 P2 P1 (J.symm.of_perm hK.symm) O u1 u2
   refine⟨a',u,b',fun q=>?_,fun q=>?_,back (g1.of_perm hr.symm hK)⟩
   .have:=zCc k
    rw[<-q]at this
    simp only[bX,rX,vV,xS]at I
    rcases xS.1 this with r|r
    .exact u1 r
    .exact I.2.2.2 u g2 u (.inr r) rfl
   .have:=zDq k
    rw[<-q]at this
    simp only[bX,rX,vV,xS]at I
    rcases vV.1 this with r|r
    .exact I.2.2.2 u g2 u (.inr r) rfl
    .exact u2 (by simpa using r)
theorem zAi{v:V2}:((a,v):V2×V2)∈eds (v::b::(c++ [a]))/\((v,b):V2×V2)∈eds (v::b::(c++ [a])):=by
 rw[zAA]
 exact⟨by simp,by simp⟩
theorem zBD{v:V2}(h:(v::b::(c++ [a])).Nodup){f:V2×V2}(I:f∈pe (b::(c++ [a]))):f∈eds (v::b::(c++ [a]))/\f≠(a,v)/\f≠(v,b):=by
 refine⟨by rw[zAA];simp[I],fun k=>?_,fun k=>?_⟩
 .have:=zDq I
  rw[k]at this
  simp only[bX,xS]at h
  exact h.1 (.inr this)
 .have:=zCc I
  rw[k]at this
  simp only[bX,xS,vV]at h
  rcases xS.1 this with q|q
  .exact h.1 (.inl q)
  .exact h.1 (.inr (.inl q))
theorem zTw{v:V2}(I:(v::b::(c++ [a])).Nodup)(O:c≠ []){f:V2×V2}(J:f∈pe (b::(c++ [a]))):f≠(b,a):=fun k=>by
 cases c with
 |nil=>exact O rfl
 | cons m c=>
  rw[k]at J
  rcases xS.1 (show((b,a):V2×V2)∈(b,m)::pe (m::(c++ [a]))from J)with q|q
  .have e:a=m:=vQ Prod.snd q
   subst e
   simp at I
  .have:=zCc (x:=m) q
   simp only[bX,xS,vV,mO]at I
   rcases xS.1 this with r|r
   .exact I.2.1 (.inl r)
   .exact I.2.1 (.inr (.inl r))
theorem PO.cut{v:V2}(h:PO (v::b::(c++ [a])))(hc:c≠ [])(O:EarP (v::b::(c++ [a])) a v b):
  PO (b::(c++ [a]))/\∀p,wE (eds (v::b::(c++ [a]))) p=wE (eds (b::(c++ [a]))) p+wE (zEu a v b) p:=by
 have J:=h.sim
 have hn:=J.nod
 have hw:∀p,wE (eds (v::b::(c++ [a]))) p=wE (eds (b::(c++ [a]))) p+wE (zEu a v b) p:=fun p=>by
  rw[zAA,qT,zCi,zFp,zFp]
  unfold wE zEu
  simp only[xX,bV,nI,nP]
  rw[zDd a b p]
  omega
 have n3:∀f,f∈pe (b::(c++ [a]))->f≠(b,a):=fun f hf k=>zTw hn hc hf k
 have s':Sim (b::(c++ [a])):=zG3 J hc (bX.1 hn).2 (fun f hf=>(zBD hn hf).1) fun f hf w hw hy=>
  (O.base J (zBD hn hf).1 (zBD hn hf).2.1 (zBD hn hf).2.2 (n3 f hf) hw hy).symm
 refine⟨?_,hw⟩
 obtain⟨k,_,hk⟩:=s'.kind
 -- an edge that is kept
 obtain⟨m,hm⟩:∃m,(b,m)∈pe (b::(c++ [a])):=by
  cases c with
  |nil=>exact absurd rfl hc
  |cons m c=>exact⟨m,by simp[pe]⟩
 obtain⟨g1,g2,g3⟩:=zBD hn hm
 have U:(0:Rat)<1/2/\(1/2:Rat)<1:=by constructor<;>grind
 have hg:=zIn (J.ne g1) U.1 U.2
 have h1:OnE b m (seg b m (1/2)):=zFB (rG U.1) (rG U.2)
 have hj:crs v b (seg b m (1/2))<0∨crs b a (seg b m (1/2))<0∨crs a v (seg b m (1/2))<0:=by
  apply rD
  intro hno
  have q1:0<=crs a v (seg b m (1/2)):=by grind
  have q2:0<=crs v b (seg b m (1/2)):=by grind
  by_cases q3:0<crs b a (seg b m (1/2))
  .exact O.exits J g1 g2 g3 h1 q1 q2 q3
  .have hr:0<crs b a v:=by
    have:crs b a v=crs a v b:=by unfold crs;grind
    rw[this];exact O.pos
   have on:=zCA hr (y:=seg b m (1/2)) (by grind) q1 q2
   rcases O.base J g1 g2 g3 (n3 _ hm) h1 on.symm with k|k
   .rcases J.meet (a,v) (b,m) O.i g1 (fun e=>g2 e.symm) a (zH7 a v) (by rw[<-k];exact h1)with r|r
    .exact J.ne O.i r.1
    .exact hg.2 (k.trans r.2)
   .exact hg.1 k
 obtain⟨d1,p1,hd1⟩:∃d:Rat,0<d/\∀x,Nr d (seg b m (1/2)) x->wE (zEu a v b) x=0:=by
  have I:∀x y:V2,crs x y (seg b m (1/2))<0->∃d:Rat,0<d/\∀q,Nr d (seg b m (1/2)) q->crs x y q<0:=fun x y hx=>by
   obtain⟨d,d0,hd⟩:=zCh (g:=affK 0 (-1) (lin x y)) (s:=seg b m (1/2)) (by rw[zHI,yR];grind)
   exact⟨d,d0,fun q hq=>by have:=hd q hq;rw[zHI,yR]at this;grind⟩
  rcases hj with k|k|k
  .obtain⟨d,d0,hd⟩:=I v b k
   exact⟨d,d0,fun x hx=>(zMv O.pos x).2 (.inl (hd x hx))⟩
  .obtain⟨d,d0,hd⟩:=I b a k
   exact⟨d,d0,fun x hx=>(zMv O.pos x).2 (.inr (.inl (hd x hx)))⟩
  .obtain⟨d,d0,hd⟩:=I a v k
   exact⟨d,d0,fun x hx=>(zMv O.pos x).2 (.inr (.inr (hd x hx)))⟩
 obtain⟨d2,p2,hu⟩:=(h.side _ g1).1 (1/2) U.1 U.2
 obtain⟨d3,p3,ho⟩:=(hk (b,m) (by rw[qT];exact vV.2 (.inl hm))).1 (1/2) U.1 U.2
 obtain⟨u,u0,u1,u2⟩:=jL p1 p2
 obtain⟨w,w0,w1,w2⟩:=jL u0 p3
 obtain⟨q,q1,q2⟩:=zAF (J.ne g1) (s:=1) (.inl rfl) w0 (zAD (b,m) (1/2))
 have a1:=hd1 q (q1.mono (by grind))
 have a2:=hu q (q1.mono (by grind)) q2
 have a3:=ho q (q1.mono (by grind)) q2
 have a4:=hw q
 have:k=1:=by omega
 subst this
 exact⟨s',hk⟩
theorem zIm{v:V2}(J:0<t)(t1:t<1)(hv:v=seg a b t)(hw:OnE a b w):OnE a v w∨OnE v b w:=by
 obtain⟨r,r0,r1,rfl⟩:=hw
 have v1:v.1=a.1+(b.1-a.1)*t:=by rw[hv];rfl
 have U:v.2=a.2+(b.2-a.2)*t:=by rw[hv];rfl
 by_cases k:r<=t
 .left
  have e:r/t*t=r:=rK (by grind)
  generalize r/t=q at e
  refine⟨q,?_,?_,rF ?_ ?_⟩
  .apply rD;intro I
   have:=rC (show 0< -q by grind) J;grind
  .apply rD;intro I
   have:=rC (show 0<q-1 by grind) J;grind
  .show a.1+(b.1-a.1)*r=a.1+(v.1-a.1)*q;rw[v1,<-e];grind
  .show a.2+(b.2-a.2)*r=a.2+(v.2-a.2)*q;rw[U,<-e];grind
 .right
  have e:(r-t)/(1-t)*(1-t)=r-t:=rK (by grind)
  generalize(r-t)/(1-t)=q at e
  have O:r=t+q*(1-t):=by grind
  refine⟨q,?_,?_,rF ?_ ?_⟩
  .apply rD;intro I
   have:=rC (show 0< -q by grind) (show 0<1-t by grind);grind
  .apply rD;intro I
   have:=rC (show 0<q-1 by grind) (show 0<1-t by grind);grind
  .show a.1+(b.1-a.1)*r=v.1+(b.1-v.1)*q;rw[v1,O];grind
  .show a.2+(b.2-a.2)*r=v.2+(b.2-v.2)*q;rw[U,O];grind
theorem zKw{v:V2}(O:0<t)(J:t<1)(U:v=seg a b t)(I:OnE a v w∨OnE v b w):OnE a b w:=by
 have on:OnE a b v:=by rw[U];exact zFB (rG O) (rG J)
 rcases I with I|I
 .exact zKU on I.symm
 .exact zJJ on I
theorem PO.flat{v:V2}(h:PO (v::b::(c++ [a])))(hc:c≠ [])(h0:crs a v b=0):
  PO (b::(c++ [a]))/\(∀p,wE (eds (v::b::(c++ [a]))) p=wE (eds (b::(c++ [a]))) p)/\∀p,(∃e,e∈eds (v::b::(c++ [a]))/\OnE e.1 e.2 p)↔ ∃e,e∈eds (b::(c++ [a]))/\OnE e.1 e.2 p:=by
 have J:=h.sim
 have hn:=J.nod
 have h1:((a,v):V2×V2)∈eds (v::b::(c++ [a])):=zAi.1
 have h2:((v,b):V2×V2)∈eds (v::b::(c++ [a])):=zAi.2
 obtain⟨t,t0,t1,hv⟩:=J.turns h1 h2 h0
 have O:∀p,wE (eds (v::b::(c++ [a]))) p=wE (eds (b::(c++ [a]))) p:=fun p=>by
  rw[zAA,qT,zCi,zFp,zFp]
  unfold wE
  simp only[xX,bV,nI,nP]
  rw[zUe t0 t1 hv p]
  omega
 have s':Sim (b::(c++ [a])):=zG3 J hc (bX.1 hn).2 (fun f hf=>(zBD hn hf).1) fun f hf w O hh=>by
  obtain⟨g1,g2,g3⟩:=zBD hn hf
  have fv:=J.off_corner h1 h2 g1 g2 g3
  rcases zIm t0 t1 hv hh with k|k
  .rcases J.meet (a,v) f h1 g1 (fun e=>g2 e.symm) w k O with q|q
   .exact absurd (by rw[<-show w=v from q.1];exact O) fv
   .exact .inr q.1
  .rcases J.meet (v,b) f h2 g1 (fun e=>g3 e.symm) w k O with q|q
   .exact .inl q.1
   .exact absurd (by rw[<-show w=v from q.1];exact O) fv
 refine⟨?_,O,fun p=>?_⟩
 .obtain⟨k,_,hk⟩:=s'.kind
  obtain⟨m,hm⟩:∃m,(b,m)∈pe (b::(c++ [a])):=by
   cases c with
   |nil=>exact absurd rfl hc
   |cons m c=>exact⟨m,by simp[pe]⟩
  have g1:=(zBD hn hm).1
  have h9:=(hk (b,m) (by rw[qT];exact vV.2 (.inl hm))).1
  have:zDf (eds (b::(c++ [a]))) (b,m) 1 1:=fun r r0 r1=>by
   obtain⟨d,d0,hd⟩:=(h.side _ g1).1 r r0 r1
   exact⟨d,d0,fun x hx kx=>by rw[<-O];exact hd x hx kx⟩
  have e:=wU (J.ne g1) (.inl rfl) h9 this
  subst e
  exact⟨s',hk⟩
 .rw[zAA,qT]
  constructor
  .rintro⟨e,I,U⟩
   rcases xS.1 I with rfl|I
   .exact⟨(a,b),by simp,zKw t0 t1 hv (.inr U)⟩
   .rcases vV.1 I with I|I
    .exact⟨e,by simp[I],U⟩
    .obtain rfl:e=(a,v):=by simpa using I
     exact⟨(a,b),by simp,zKw t0 t1 hv (.inl U)⟩
  .rintro⟨e,I,U⟩
   rcases vV.1 I with I|I
   .exact⟨e,by simp[I],U⟩
   .obtain rfl:e=(a,b):=by simpa using I
    rcases zIm t0 t1 hv U with k|k
    .exact⟨(a,v),by simp,k⟩
    .exact⟨(v,b),by simp,k⟩
theorem zUS(h:u≠(0,0)):0<u.1*u.1+u.2*u.2:=by
 have I:∀x:Rat,0<=x*x/\(x≠0->0<x*x):=fun x=>by
  rcases(rL:0<=x∨x<=0)with k|k
  .exact⟨rE k k,fun h=>rC (by grind) (by grind)⟩
  .have a:=rE (show 0<=-x by grind) (show 0<=-x by grind)
   exact⟨by grind,fun h=>by have:=rC (show 0< -x by grind) (show 0< -x by grind);grind⟩
 have U:=I u.1
 have J:=I u.2
 by_cases e:u.1=0
 .have:=J.2 (fun O=>h (rF e O));grind
 .have:=U.2 e;grind
end Go.Proofs.Wd
