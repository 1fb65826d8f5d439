/- prod.Mul; The walk of num.mul; The walk of sint.Mul; Integers as value and what it needs. -/
import Derived.Test.YtiflpcbcaboglaaGreatDoorMHI11
import Derived.Laws.EntriesVeiled
import Derived.Test.YtiflpcbcaboglaaGreatDoorMHI7
import Derived.Test.YtiflpcbcaboglaaGreatDoorMHI3
import Derived.Test.YtiflpcbcaboglaaGreatDoorMHI9
theorem kD {P:Prop} (h:P:=by kernel_rfl):P:=h
theorem oJ {P:Prop} (h:P:=by omega):P:=h
abbrev lU:=@Rat.le_refl
abbrev lV:=@Rat.le_of_lt
abbrev lW:=@Go.RowKit.Below.refl
abbrev lX:=@Array.getD_eq_getD_getElem?
abbrev lY:=@Go.wpOpIn_step
abbrev lZ:=@Classical.byContradiction
abbrev mA:=@Rat.mul_pos
abbrev mB:=@Nat.mod_eq_of_lt
abbrev mC:=@Rat.le_trans
abbrev mD:=@Rat.mul_nonneg
abbrev mE:=@Prod.ext
abbrev mF:=@Rat.mul_eq_zero
abbrev mG:=@Rat.le_total
abbrev mH:=@Nat.le_refl
abbrev mI:=@Nat.mod_add_mod
abbrev mJ:=@Nat.mod_lt
abbrev mK:=@Nat.lt_of_lt_of_le
abbrev mL:=@Nat.eq_zero_or_pos
abbrev mM:=@Go.CallsIn.mono
abbrev mN:=@Go.callsIn_wide
abbrev mO:=@Nat.le_trans
abbrev mP:=@Nat.zero_le
abbrev mQ:=@Nat.mod_self
abbrev mR:=@Rat.intCast_mul
abbrev mS:=@congrArg
abbrev mT:=@Rat.div_mul_cancel
abbrev mU:=@Nat.lt_or_ge
abbrev mV:=@Nat.add_mod_right
abbrev mW:=@Nat.le_of_lt
abbrev mX:=@Nat.pow_le_pow_right
abbrev mY:=@List.getElem?_eq_getElem
abbrev mZ:=@Int.natAbs_natCast
abbrev nA:=@Nat.lt_of_le_of_lt
abbrev nB:=@Go.Oper.semAt_some
abbrev nC:=@Nat.mul_lt_mul_of_lt_of_le
abbrev nD:=@Int.natAbs_mul
abbrev nF:=@Nat.mul_le_mul_left
abbrev nG:=@Rat.intCast_sub
abbrev nH:=@Nat.lt_or_eq_of_le
abbrev nI:=@Nat.mod_add_div
abbrev nJ:=@Nat.add_mod_mod
abbrev nK:=@Int.ofNat_natAbs_of_nonneg
abbrev nL:=@Int.ofNat_natAbs_of_nonpos
abbrev nM:=@List.take_succ_eq_append_getElem
abbrev nN:=@List.getD_eq_getElem?_getD
abbrev WY:=Go.World
namespace Go.Proofs.Wd
open Tryz
variable {k:Int} {j m m' n s:Nat} {W:WY} {ks:List Int} {A:Option Addr} {c d e p q x:Rat} {F G:Rat->Rat} {R S:Nat->Prop}
set_option maxRecDepth 100000
set_option maxHeartbeats 2000000
open Go.RowKit Lb
attribute [local go_sem] Oper.semAt_some qG yH
theorem zMc (A:Option Addr) (n c:Nat) (l:List Nat) (A':Option Addr) (n' c':Nat) (l':List Nat) (w:WY) (h:Rd w A n c l) (h':Rd w A' n' c' l') (ht:Lt l) (ht':Lt l') (hn:n<=40000) (hn':n'<=40000):
  Calls prog 121 #[.slice A n c,.slice A' n' c'] w (jM w (val l*val l')):=by
 have hmix:prog.follows .mixedOrders=true:=by kernel_rfl
 obtain ⟨W0,hW0⟩: ∃W0,w.alloc (Obj.cells #[zBT w.heap.size] 102)=W0:=⟨_,rfl⟩
 have bA:bW w W0:=hW0▸(lW _ w).alloc (mH _) _
 have cA:W0.cell? ⟨w.heap.size,0,none⟩=some (zBT w.heap.size):=by
  rw [<-hW0]
  rw [World.cell?_alloc_new]
  rfl
 unfold zBT at hW0
 have hcl: ∀W,bW W0 W->W.cell? ⟨w.heap.size,0,none⟩=some (zBT w.heap.size):=fun W hb=>(hb.cell (p:=⟨w.heap.size,0,none⟩) (z4 cA)).trans cA
 obtain ⟨mb,hmb⟩: ∃mb,w.heap.size=mb:=⟨_,rfl⟩
 go_enter func121,ntmps121
 go_wp2
 rw [hmb] at cA hcl hW0
 erw [hW0]
 refine (wpIn_wide (n:=0)).1 ?_
 refine yE 100 (fun W=>W.cell? ⟨mb,0,none⟩=some (.func (.func 137) #[] #[pO mb 0])) hmix ?_
 have b0:bW W0 W0.drew:=(lW _ W0).drew
 have c0:=hcl _ b0
 unfold zBT at c0
 refine zU (i:=0) (v:= ?vv1) kD kD rfl kD kD kD (fun _ _ _ h=>h) c0 ⟨.inl ⟨rfl, ?yy1⟩,fun _=>rfl⟩ ?_
 case yy1=>
  rintro wx q1
  go_simp
  first|done|rfl
 refine zU (i:=1) (v:= ?vv2) kD kD rfl kD kD kD (fun _ _ _ h=>h) c0 ⟨.inl ⟨rfl, ?yy2⟩,fun _=>rfl⟩ ?_
 case yy2=>
  rintro wx q1
  go_simp
  first|done|rfl
 refine zU (i:=3) (v:= ?vv3) kD kD rfl kD kD kD (fun _ _ _ h=>h) c0 ⟨.inl ⟨rfl, ?yy3⟩,fun _=>rfl⟩ ?_
 case yy3=>
  rintro wx q1
  go_simp
  first|done|rfl
 have bw0:bW w W0.drew:=bA.drew
 have i1:=qZ A n c l W0.drew (h.below bw0) ht oJ
 refine zAv (i:=2) kD rfl (fun K hK=> ?_)
 go_simp
 refine mM (mN.2 i1) ?_
 rintro e W1 ⟨A1,n1,c1,l1,rfl,hi1,hr1,hb1⟩
 have b1:=b0.trans (hb1.mono b0.size)
 have c1':=hcl _ b1
 unfold zBT at c1'
 refine hK _ _ (.inr c1') ?_
 clear hK K i1
 have bw1:=bw0.trans (hb1.mono bw0.size)
 have i2:=qZ A' n' c' l' W1 (h'.below bw1) ht' oJ
 refine zAv (i:=4) kD rfl (fun K hK=> ?_)
 go_simp
 refine mM (mN.2 i2) ?_
 rintro e W2 ⟨A2,n2,c2,l2,rfl,hi2,hr2,hb2⟩
 have b2:=b1.trans (hb2.mono b1.size)
 have c2':=hcl _ b2
 have c2'':=c2'
 unfold zBT at c2'
 refine hK _ _ (.inr c2') ?_
 clear hK K i2
 have bw2:=bw1.trans (hb2.mono bw1.size)
 have hn1:n1<=40000:=by
  rw [<-hr1.len]
  exact mO (hi1.len (k:=n) (by have:=qV ht;rwa [h.len] at this)) hn
 have hn2:n2<=40000:=by
  rw [<-hr2.len]
  exact mO (hi2.len (k:=n') (by have:=qV ht';rwa [h'.len] at this)) hn'
 have i3:=zOQ 40000 oJ mb A1 n1 c1 l1 A2 n2 c2 l2 W2 (hr1.below hb2) hr2 hi1.lt hi2.lt hn1 hn2 c2''
 rw [hi1.val,hi2.val] at i3
 refine zAv (i:=5) kD rfl (fun K hK=> ?_)
 go_simp
 refine mM (mN.2 i3) ?_
 rintro e W3 ⟨A3,n3,c3,l3,rfl,hi3,hr3,hb3⟩
 have b3:=b2.trans (hb3.mono b2.size)
 have c3':=hcl _ b3
 unfold zBT at c3'
 refine hK _ _ (.inr c3') ?_
 clear hK K i3
 refine zAv (i:=6) kD rfl (fun K hK=> ?_)
 go_simp
 refine hK _ _ (.inr c3') ?_
 clear hK K
 refine zCi kD ?_
 have bw3:=bw2.trans (hb3.mono bw2.size)
 go_wp2
 all_goals
  go_ret
  exact ⟨A3,n3,c3,l3,rfl,hi3,hr3,bw3⟩
attribute [local go_sem] Oper.semAt_some qG yH
theorem zQ7 {v v':Int} {l:List Nat} (h:val l=v.natAbs*v'.natAbs):iv (!(decide (v<0)==decide (v'<0))) l=v*v':=by
 unfold iv
 rw [h]
 rcases Int.lt_or_le v 0 with h1|h1<;>rcases Int.lt_or_le v' 0 with h2|h2
 all_goals simp only [h1,h2,decide_true,decide_false,Int.not_lt.2 h1,Int.not_lt.2 h2,beq_self_eq_true,Bool.not_true,Bool.not_false,Bool.false_eq_true,if_true,if_false,Int.natCast_mul,show (true==false)=false from rfl,show (false==true)=false from rfl]
 all_goals first|rw [nK h1]|rw [nL (Int.le_of_lt h1)]
 all_goals first|rw [nK h2]|rw [nL (Int.le_of_lt h2)]
 all_goals simp [Int.neg_mul,Int.mul_neg]
theorem zRN (B B':Nat) (v v':Int) (k:Nat) (w:WY) (h:zAt w B v) (h':zAt w B' v') (hv:v.natAbs<BB^k) (hv':v'.natAbs<BB^k) (hk:k<=40000):
  Calls prog 126 #[pO B 0,pO B' 0] w fun e w'=>(∃u,e= .returned u)/\zAt w' B (v*v')/\w.grownBy w' (some B):=by
 obtain ⟨A,n,c,l,hb,hi,hr⟩:=h
 obtain ⟨A',n',c',l',hb',hi',hr'⟩:=h'
 have hn:n<=k:=by rw [<-hr.len];exact hi.len hv
 have hn':n'<=k:=by rw [<-hr'.len];exact hi'.len hv'
 have hmix:prog.follows .mixedOrders=true:=by kernel_rfl
 have cf: ∀W,bW w W->(W.cell? ⟨B,0,none⟩=some (.bool (decide (v<0)))/\W.cell? ⟨B,1,none⟩=some (.slice A n c))/\W.cell? ⟨B',0,none⟩=some (.bool (decide (v'<0)))/\W.cell? ⟨B',1,none⟩=some (.slice A' n' c'):=fun W hb1=>⟨(hb.kept hb1).facts2.1,(hb'.kept hb1).facts2.1⟩
 go_enter func126,ntmps126
 go_wp2
 refine (wpIn_wide (n:=0)).1 ?_
 refine yE 31 (fun _=>True) hmix ?_
 refine zU (i:=1) (v:= ?vv1) kD kD rfl kD kD kD (fun _ _ _ h=>h) trivial ⟨.inl ⟨rfl, ?yy1⟩,fun _=>rfl⟩ ?_
 case yy1=>
  rintro wx _
  go_simp
  first|done|rfl
 refine zGI (k:=24) (fun _=>false) (fun iz vz Wz=>match iz with
  |0=>vz= pO B 0
  |1=>vz= pO B 0
  |2=>vz= pO B 0
  |3=>vz= pO B 0
  |4=>vz= pO B 0
  |5=>vz= pO B 0
  |6=>vz= .bool (decide (v<0))
  |7=>vz= pO B' 0
  |8=>vz= pO B' 0
  |9=>vz= pO B' 0
  |10=>vz= pO B' 0
  |11=>vz= .bool (decide (v'<0))
  |12=>vz= .bool (!(decide (v<0)==decide (v'<0)))
  |13=>vz= pO B 0
  |14=>vz= pO B 0
  |15=>vz= pO B 0
  |16=>vz= pO B 1
  |17=>vz= .slice A n c
  |18=>vz= pO B' 0
  |19=>vz= pO B' 0
  |20=>vz= pO B' 0
  |21=>vz= pO B' 1
  |22=>vz= .slice A' n' c'
  |23=>qR Wz vz (v.natAbs*v'.natAbs)
  |_=>True) (fun W=>bW w W) kD kD kD kD kD kD kD kD kD (fun _ _ h hb=>h.trans (hb.mono h.size)) ?stab ((lW _ w).drew) ?spec ?fin
 case stab=>
  intro iz vz Wz Wy h hb
  split at h<;>first|exact h|exact qR.below h hb|trivial
 case spec=>
  refine yK ?_ ?h23
  refine yK ?_ ?h22
  refine yK ?_ ?h21
  refine yK ?_ ?h20
  refine yK ?_ ?h19
  refine yK ?_ ?h18
  refine yK ?_ ?h17
  refine yK ?_ ?h16
  refine yK ?_ ?h15
  refine yK ?_ ?h14
  refine yK ?_ ?h13
  refine yK ?_ ?h12
  refine yK ?_ ?h11
  refine yK ?_ ?h10
  refine yK ?_ ?h9
  refine yK ?_ ?h8
  refine yK ?_ ?h7
  refine yK ?_ ?h6
  refine yK ?_ ?h5
  refine yK ?_ ?h4
  refine yK ?_ ?h3
  refine yK ?_ ?h2
  refine yK ?_ ?h1
  refine yK ?_ ?h0
  exact fun i h _=>absurd h (Nat.not_lt_zero i)
  case h0=>
   intro _ o hi b5 W5 hf K hK
   cases hi
   have k0:b5.tmps[0]?.getD undef= (pO B 0):=(lX ..).symm.trans ((hf.at_.keep 0 kD).trans kD)
   refine lY rfl (fun K' hK'=> ?_)
   go_simp
   exact hK' _ _ (hK _ _ rfl (lW _ _) (fun h=>by cases h))
  case h1=>
   intro h
   exact absurd h (by decide)
  case h2=>
   intro _ o hi b5 W5 hf K hK
   cases hi
   have k0:b5.tmps[0]?.getD undef= (pO B 0):=(lX ..).symm.trans ((hf.at_.keep 0 kD).trans kD)
   refine lY rfl (fun K' hK'=> ?_)
   go_simp
   exact hK' _ _ (hK _ _ rfl (lW _ _) (fun h=>by cases h))
  case h3=>
   intro _ o hi b5 W5 hf K hK
   cases hi
   have k6:b5.tmps[6]?.getD undef= (pO B 0):=(lX ..).symm.trans (hf.at_.vals 2 _ 6 ⟨by decide,⟨2,.data⟩,by simp,by kernel_rfl,rfl⟩ rfl rfl)
   refine lY rfl (fun K' hK'=> ?_)
   go_simp
   exact hK' _ _ (hK _ _ rfl (lW _ _) (fun h=>by cases h))
  case h4=>
   intro _ o hi b5 W5 hf K hK
   cases hi
   have k7:b5.tmps[7]?.getD undef= (pO B 0):=(lX ..).symm.trans (hf.at_.vals 3 _ 7 ⟨by decide,⟨3,.data⟩,by simp,by kernel_rfl,rfl⟩ rfl rfl)
   refine lY rfl (fun K' hK'=> ?_)
   go_simp
   exact hK' _ _ (hK _ _ rfl (lW _ _) (fun h=>by cases h))
  case h5=>
   intro _ o hi b5 W5 hf K hK
   cases hi
   have k8:b5.tmps[8]?.getD undef= (pO B 0):=(lX ..).symm.trans (hf.at_.vals 4 _ 8 ⟨by decide,⟨4,.data⟩,by simp,by kernel_rfl,rfl⟩ rfl rfl)
   refine lY rfl (fun K' hK'=> ?_)
   go_simp
   exact hK' _ _ (hK _ _ rfl (lW _ _) (fun h=>by cases h))
  case h6=>
   intro _ o hi b5 W5 hf K hK
   cases hi
   have k9:b5.tmps[9]?.getD undef= (pO B 0):=(lX ..).symm.trans (hf.at_.vals 5 _ 9 ⟨by decide,⟨5,.data⟩,by simp,by kernel_rfl,rfl⟩ rfl rfl)
   obtain ⟨⟨q1,q2⟩,q3,q4⟩:=cf W5 hf.at_.cls
   refine lY rfl (fun K' hK'=> ?_)
   go_simp
   exact hK' _ _ (hK _ _ rfl (lW _ _) (fun h=>by cases h))
  case h7=>
   intro _ o hi b5 W5 hf K hK
   cases hi
   have k1:b5.tmps[1]?.getD undef= (pO B' 0):=(lX ..).symm.trans ((hf.at_.keep 1 kD).trans kD)
   refine lY rfl (fun K' hK'=> ?_)
   go_simp
   exact hK' _ _ (hK _ _ rfl (lW _ _) (fun h=>by cases h))
  case h8=>
   intro _ o hi b5 W5 hf K hK
   cases hi
   have k11:b5.tmps[11]?.getD undef= (pO B' 0):=(lX ..).symm.trans (hf.at_.vals 7 _ 11 ⟨by decide,⟨7,.data⟩,by simp,by kernel_rfl,rfl⟩ rfl rfl)
   refine lY rfl (fun K' hK'=> ?_)
   go_simp
   exact hK' _ _ (hK _ _ rfl (lW _ _) (fun h=>by cases h))
  case h9=>
   intro _ o hi b5 W5 hf K hK
   cases hi
   have k12:b5.tmps[12]?.getD undef= (pO B' 0):=(lX ..).symm.trans (hf.at_.vals 8 _ 12 ⟨by decide,⟨8,.data⟩,by simp,by kernel_rfl,rfl⟩ rfl rfl)
   refine lY rfl (fun K' hK'=> ?_)
   go_simp
   exact hK' _ _ (hK _ _ rfl (lW _ _) (fun h=>by cases h))
  case h10=>
   intro _ o hi b5 W5 hf K hK
   cases hi
   have k13:b5.tmps[13]?.getD undef= (pO B' 0):=(lX ..).symm.trans (hf.at_.vals 9 _ 13 ⟨by decide,⟨9,.data⟩,by simp,by kernel_rfl,rfl⟩ rfl rfl)
   refine lY rfl (fun K' hK'=> ?_)
   go_simp
   exact hK' _ _ (hK _ _ rfl (lW _ _) (fun h=>by cases h))
  case h11=>
   intro _ o hi b5 W5 hf K hK
   cases hi
   have k14:b5.tmps[14]?.getD undef= (pO B' 0):=(lX ..).symm.trans (hf.at_.vals 10 _ 14 ⟨by decide,⟨10,.data⟩,by simp,by kernel_rfl,rfl⟩ rfl rfl)
   obtain ⟨⟨q1,q2⟩,q3,q4⟩:=cf W5 hf.at_.cls
   refine lY rfl (fun K' hK'=> ?_)
   go_simp
   exact hK' _ _ (hK _ _ rfl (lW _ _) (fun h=>by cases h))
  case h12=>
   intro _ o hi b5 W5 hf K hK
   cases hi
   have k10:b5.tmps[10]?.getD undef= .bool (decide (v<0)):=(lX ..).symm.trans (hf.at_.vals 6 _ 10 ⟨by decide,⟨6,.data⟩,by simp,by kernel_rfl,rfl⟩ rfl rfl)
   have k15:b5.tmps[15]?.getD undef= .bool (decide (v'<0)):=(lX ..).symm.trans (hf.at_.vals 11 _ 15 ⟨by decide,⟨11,.data⟩,by simp,by kernel_rfl,rfl⟩ rfl rfl)
   refine lY rfl (fun K' hK'=> ?_)
   go_simp
   exact hK' _ _ (hK _ _ rfl (lW _ _) (fun h=>by cases h))
  case h13=>
   intro _ o hi b5 W5 hf K hK
   cases hi
   have k0:b5.tmps[0]?.getD undef= (pO B 0):=(lX ..).symm.trans ((hf.at_.keep 0 kD).trans kD)
   refine lY rfl (fun K' hK'=> ?_)
   go_simp
   exact hK' _ _ (hK _ _ rfl (lW _ _) (fun h=>by cases h))
  case h14=>
   intro _ o hi b5 W5 hf K hK
   cases hi
   have k17:b5.tmps[17]?.getD undef= (pO B 0):=(lX ..).symm.trans (hf.at_.vals 13 _ 17 ⟨by decide,⟨13,.data⟩,by simp,by kernel_rfl,rfl⟩ rfl rfl)
   refine lY rfl (fun K' hK'=> ?_)
   go_simp
   exact hK' _ _ (hK _ _ rfl (lW _ _) (fun h=>by cases h))
  case h15=>
   intro _ o hi b5 W5 hf K hK
   cases hi
   have k18:b5.tmps[18]?.getD undef= (pO B 0):=(lX ..).symm.trans (hf.at_.vals 14 _ 18 ⟨by decide,⟨14,.data⟩,by simp,by kernel_rfl,rfl⟩ rfl rfl)
   refine lY rfl (fun K' hK'=> ?_)
   go_simp
   exact hK' _ _ (hK _ _ rfl (lW _ _) (fun h=>by cases h))
  case h16=>
   intro _ o hi b5 W5 hf K hK
   cases hi
   have k19:b5.tmps[19]?.getD undef= (pO B 0):=(lX ..).symm.trans (hf.at_.vals 15 _ 19 ⟨by decide,⟨15,.data⟩,by simp,by kernel_rfl,rfl⟩ rfl rfl)
   refine lY rfl (fun K' hK'=> ?_)
   go_simp
   exact hK' _ _ (hK _ _ rfl (lW _ _) (fun h=>by cases h))
  case h17=>
   intro _ o hi b5 W5 hf K hK
   cases hi
   have k20:b5.tmps[20]?.getD undef= (pO B 1):=(lX ..).symm.trans (hf.at_.vals 16 _ 20 ⟨by decide,⟨16,.data⟩,by simp,by kernel_rfl,rfl⟩ rfl rfl)
   obtain ⟨⟨q1,q2⟩,q3,q4⟩:=cf W5 hf.at_.cls
   refine lY rfl (fun K' hK'=> ?_)
   go_simp
   exact hK' _ _ (hK _ _ rfl (lW _ _) (fun h=>by cases h))
  case h18=>
   intro _ o hi b5 W5 hf K hK
   cases hi
   have k1:b5.tmps[1]?.getD undef= (pO B' 0):=(lX ..).symm.trans ((hf.at_.keep 1 kD).trans kD)
   refine lY rfl (fun K' hK'=> ?_)
   go_simp
   exact hK' _ _ (hK _ _ rfl (lW _ _) (fun h=>by cases h))
  case h19=>
   intro _ o hi b5 W5 hf K hK
   cases hi
   have k22:b5.tmps[22]?.getD undef= (pO B' 0):=(lX ..).symm.trans (hf.at_.vals 18 _ 22 ⟨by decide,⟨18,.data⟩,by simp,by kernel_rfl,rfl⟩ rfl rfl)
   refine lY rfl (fun K' hK'=> ?_)
   go_simp
   exact hK' _ _ (hK _ _ rfl (lW _ _) (fun h=>by cases h))
  case h20=>
   intro _ o hi b5 W5 hf K hK
   cases hi
   have k23:b5.tmps[23]?.getD undef= (pO B' 0):=(lX ..).symm.trans (hf.at_.vals 19 _ 23 ⟨by decide,⟨19,.data⟩,by simp,by kernel_rfl,rfl⟩ rfl rfl)
   refine lY rfl (fun K' hK'=> ?_)
   go_simp
   exact hK' _ _ (hK _ _ rfl (lW _ _) (fun h=>by cases h))
  case h21=>
   intro _ o hi b5 W5 hf K hK
   cases hi
   have k24:b5.tmps[24]?.getD undef= (pO B' 0):=(lX ..).symm.trans (hf.at_.vals 20 _ 24 ⟨by decide,⟨20,.data⟩,by simp,by kernel_rfl,rfl⟩ rfl rfl)
   refine lY rfl (fun K' hK'=> ?_)
   go_simp
   exact hK' _ _ (hK _ _ rfl (lW _ _) (fun h=>by cases h))
  case h22=>
   intro _ o hi b5 W5 hf K hK
   cases hi
   have k25:b5.tmps[25]?.getD undef= (pO B' 1):=(lX ..).symm.trans (hf.at_.vals 21 _ 25 ⟨by decide,⟨21,.data⟩,by simp,by kernel_rfl,rfl⟩ rfl rfl)
   obtain ⟨⟨q1,q2⟩,q3,q4⟩:=cf W5 hf.at_.cls
   refine lY rfl (fun K' hK'=> ?_)
   go_simp
   exact hK' _ _ (hK _ _ rfl (lW _ _) (fun h=>by cases h))
  case h23=>
   intro _ o hi b5 W5 hf K hK
   cases hi
   have k21:b5.tmps[21]?.getD undef= .slice A n c:=(lX ..).symm.trans (hf.at_.vals 17 _ 21 ⟨by decide,⟨17,.data⟩,by simp,by kernel_rfl,rfl⟩ rfl rfl)
   have k26:b5.tmps[26]?.getD undef= .slice A' n' c':=(lX ..).symm.trans (hf.at_.vals 22 _ 26 ⟨by decide,⟨22,.data⟩,by simp,by kernel_rfl,rfl⟩ rfl rfl)
   refine lY rfl (fun K' hK'=> ?_)
   go_simp
   have hm:=zMc A n c l A' n' c' l' W5 (hr.below hf.at_.cls) (hr'.below hf.at_.cls) hi.lt hi'.lt oJ oJ
   rw [hi.val,hi'.val] at hm
   refine mM (mN.2 hm) ?_
   rintro e W' ⟨A7,n7,c7,l7,rfl,hi7,hr7,hb7⟩
   exact hK' _ _ (hK _ _ ⟨A7,n7,c7,l7,rfl,hi7,hr7⟩ hb7 (fun h=>by cases h))
 case fin=>
  intro b5 W5 hf
  have e4:b5.tmps.getD 4 undef= (pO B 0):=hf.at_.vals 0 _ 4 ⟨by decide,by decide⟩ rfl rfl
  have e6:b5.tmps.getD 6 undef= (pO B 0):=hf.at_.vals 2 _ 6 ⟨by decide,by decide⟩ rfl rfl
  have e7:b5.tmps.getD 7 undef= (pO B 0):=hf.at_.vals 3 _ 7 ⟨by decide,by decide⟩ rfl rfl
  have e8:b5.tmps.getD 8 undef= (pO B 0):=hf.at_.vals 4 _ 8 ⟨by decide,by decide⟩ rfl rfl
  have e9:b5.tmps.getD 9 undef= (pO B 0):=hf.at_.vals 5 _ 9 ⟨by decide,by decide⟩ rfl rfl
  have e10:b5.tmps.getD 10 undef= .bool (decide (v<0)):=hf.at_.vals 6 _ 10 ⟨by decide,by decide⟩ rfl rfl
  have e11:b5.tmps.getD 11 undef= (pO B' 0):=hf.at_.vals 7 _ 11 ⟨by decide,by decide⟩ rfl rfl
  have e12:b5.tmps.getD 12 undef= (pO B' 0):=hf.at_.vals 8 _ 12 ⟨by decide,by decide⟩ rfl rfl
  have e13:b5.tmps.getD 13 undef= (pO B' 0):=hf.at_.vals 9 _ 13 ⟨by decide,by decide⟩ rfl rfl
  have e14:b5.tmps.getD 14 undef= (pO B' 0):=hf.at_.vals 10 _ 14 ⟨by decide,by decide⟩ rfl rfl
  have e15:b5.tmps.getD 15 undef= .bool (decide (v'<0)):=hf.at_.vals 11 _ 15 ⟨by decide,by decide⟩ rfl rfl
  have e16:b5.tmps.getD 16 undef= .bool (!(decide (v<0)==decide (v'<0))):=hf.at_.vals 12 _ 16 ⟨by decide,by decide⟩ rfl rfl
  have e17:b5.tmps.getD 17 undef= (pO B 0):=hf.at_.vals 13 _ 17 ⟨by decide,by decide⟩ rfl rfl
  have e18:b5.tmps.getD 18 undef= (pO B 0):=hf.at_.vals 14 _ 18 ⟨by decide,by decide⟩ rfl rfl
  have e19:b5.tmps.getD 19 undef= (pO B 0):=hf.at_.vals 15 _ 19 ⟨by decide,by decide⟩ rfl rfl
  have e20:b5.tmps.getD 20 undef= (pO B 1):=hf.at_.vals 16 _ 20 ⟨by decide,by decide⟩ rfl rfl
  have e21:b5.tmps.getD 21 undef= .slice A n c:=hf.at_.vals 17 _ 21 ⟨by decide,by decide⟩ rfl rfl
  have e22:b5.tmps.getD 22 undef= (pO B' 0):=hf.at_.vals 18 _ 22 ⟨by decide,by decide⟩ rfl rfl
  have e23:b5.tmps.getD 23 undef= (pO B' 0):=hf.at_.vals 19 _ 23 ⟨by decide,by decide⟩ rfl rfl
  have e24:b5.tmps.getD 24 undef= (pO B' 0):=hf.at_.vals 20 _ 24 ⟨by decide,by decide⟩ rfl rfl
  have e25:b5.tmps.getD 25 undef= (pO B' 1):=hf.at_.vals 21 _ 25 ⟨by decide,by decide⟩ rfl rfl
  have e26:b5.tmps.getD 26 undef= .slice A' n' c':=hf.at_.vals 22 _ 26 ⟨by decide,by decide⟩ rfl rfl
  have v27:=hf.at_.vals 23 _ 27 ⟨by decide,by decide⟩ rfl rfl
  have hE:=zJE [4,6,7,8,9,10,11,12,13,14,15,16,17,18,19,20,21,22,23,24,25,26,27,28,29,30,31,32,33] hf.at_.size (fun t ht5=>hf.at_.keep t (zRO (by rw [show zMY _ _= [4,6,7,8,9,10,11,12,13,14,15,16,17,18,19,20,21,22,23,24,25,26,27,28,29,30,31,32,33] from by kernel_rfl];exact ht5)))
  have hcl5:=hf.at_.cls
  obtain ⟨tm,df⟩:=b5
  obtain rfl:df=_:=hf.at_.defers
  clear hf
  simp only [List.foldl_cons,List.foldl_nil] at hE
  rw [show tm.getD 4 undef=_ from e4] at hE;clear e4
  rw [show tm.getD 6 undef=_ from e6] at hE;clear e6
  rw [show tm.getD 7 undef=_ from e7] at hE;clear e7
  rw [show tm.getD 8 undef=_ from e8] at hE;clear e8
  rw [show tm.getD 9 undef=_ from e9] at hE;clear e9
  rw [show tm.getD 10 undef=_ from e10] at hE;clear e10
  rw [show tm.getD 11 undef=_ from e11] at hE;clear e11
  rw [show tm.getD 12 undef=_ from e12] at hE;clear e12
  rw [show tm.getD 13 undef=_ from e13] at hE;clear e13
  rw [show tm.getD 14 undef=_ from e14] at hE;clear e14
  rw [show tm.getD 15 undef=_ from e15] at hE;clear e15
  rw [show tm.getD 16 undef=_ from e16] at hE;clear e16
  rw [show tm.getD 17 undef=_ from e17] at hE;clear e17
  rw [show tm.getD 18 undef=_ from e18] at hE;clear e18
  rw [show tm.getD 19 undef=_ from e19] at hE;clear e19
  rw [show tm.getD 20 undef=_ from e20] at hE;clear e20
  rw [show tm.getD 21 undef=_ from e21] at hE;clear e21
  rw [show tm.getD 22 undef=_ from e22] at hE;clear e22
  rw [show tm.getD 23 undef=_ from e23] at hE;clear e23
  rw [show tm.getD 24 undef=_ from e24] at hE;clear e24
  rw [show tm.getD 25 undef=_ from e25] at hE;clear e25
  rw [show tm.getD 26 undef=_ from e26] at hE;clear e26
  obtain ⟨x27,hx27⟩: ∃x,tm.getD 27 undef=x:=⟨_,rfl⟩;rw [hx27] at hE;rw [show tm.getD 27 undef=_ from hx27] at v27;clear hx27
  obtain ⟨u28,hu28⟩: ∃x,tm.getD 28 undef=x:=⟨_,rfl⟩;rw [hu28] at hE;clear hu28
  obtain ⟨u29,hu29⟩: ∃x,tm.getD 29 undef=x:=⟨_,rfl⟩;rw [hu29] at hE;clear hu29
  obtain ⟨u30,hu30⟩: ∃x,tm.getD 30 undef=x:=⟨_,rfl⟩;rw [hu30] at hE;clear hu30
  obtain ⟨u31,hu31⟩: ∃x,tm.getD 31 undef=x:=⟨_,rfl⟩;rw [hu31] at hE;clear hu31
  obtain ⟨u32,hu32⟩: ∃x,tm.getD 32 undef=x:=⟨_,rfl⟩;rw [hu32] at hE;clear hu32
  obtain ⟨u33,hu33⟩: ∃x,tm.getD 33 undef=x:=⟨_,rfl⟩;rw [hu33] at hE;clear hu33
  rewrite [hE]
  clear hE
  obtain ⟨A2,n2,c2,l2,rfl,hi2,hr2⟩:=v27
  have hb3:=hb.kept hcl5
  obtain ⟨⟨m0,m1⟩,m2,m3⟩:=hb3.facts2
  go_simp
  refine zAv (i:=24) kD rfl (fun K hK=> ?_)
  go_simp
  refine hK _ _ (.inr trivial) ?_
  clear hK K
  refine zAv (i:=25) kD rfl (fun K hK=> ?_)
  go_simp
  refine hK _ _ (.inr trivial) ?_
  clear hK K
  refine zAv (i:=26) kD rfl (fun K hK=> ?_)
  go_simp
  refine hK _ _ (.inr trivial) ?_
  clear hK K
  refine zAv (i:=27) kD rfl (fun K hK=> ?_)
  go_simp
  refine hK _ _ (.inr trivial) ?_
  clear hK K
  have hb4:=hb3.set 0 (.bool (!(decide (v<0)==decide (v'<0))))
  obtain ⟨⟨m0,m1⟩,m2,m3⟩:=hb4.facts2
  refine zAv (i:=28) kD rfl (fun K hK=> ?_)
  go_simp
  refine hK _ _ (.inr trivial) ?_
  clear hK K
  refine zAv (i:=29) kD rfl (fun K hK=> ?_)
  go_simp
  refine hK _ _ (.inr trivial) ?_
  clear hK K
  refine zAv (i:=30) kD rfl (fun K hK=> ?_)
  go_simp
  refine hK _ _ (.inr trivial) ?_
  clear hK K
  refine zAv (i:=31) kD rfl (fun K hK=> ?_)
  go_simp
  refine hK _ _ (.inr trivial) ?_
  clear hK K
  refine zCi kD ?_
  have hv2:iv (!(decide (v<0)==decide (v'<0))) l2=v*v':=zQ7 hi2.val
  have hn2:n2<=80000:=by rw [<-hr2.len];exact mO (hi2.len (k:=k+k) (by rw [Nat.pow_add];exact nC hv (mW hv') (Nat.pow_pos y7))) oJ
  go_wp2_with (go_at_call 143;refine (zDI B _ A2 n2 c2 l2 _ (hb4.set 1 _) ((hr2.setN hb3 (i:=0) rfl (fun _=>by simp) _).setN hb4 (i:=1) rfl (fun _=>by simp) _) hi2.lt oJ).mono ?_;rintro e w4 ⟨rfl,hn4,hg4⟩)
  refine bodyPost_end (results_none rfl _ _ _) rfl ?_
  refine ⟨⟨_,rfl⟩, ?_, ?_⟩
  ·rw [hv2] at hn4;exact hn4
  ·exact ((zB2 hcl5).but (some B)).trans ((qA W5 ⟨B,0,none⟩ _).trans ((qA _ ⟨B,1,none⟩ _).trans hg4))
attribute [local go_sem] Oper.semAt_some qG yH
theorem zTs (w:WY):Calls prog 95 #[.int .i64 1] w fun e w'=> ∃A n c l,e= .returned (.agg #[.bool false,.slice A n c])/\Is l 1/\Rd w' A n c l/\n<=1/\bW w w':=
 (zIZ 1 oJ oJ w).mono fun e w' ⟨A,n,c,l,h1,h2,h3,h4⟩=>⟨A,n,c,l,h1,h2,h3,by rw [<-h3.len];exact h2.len (k:=1) (by decide),h4⟩
def zUk (w:WY) (B0 P:Nat) (is:List (Bool×List Nat)) (k:Nat) (W:WY):Prop:=
 zAt W B0 (zB0 is k)/\Boxed W P 144 (pO B0 0)/\q9 W w.heap.size 26 #[.bool false, sN]/\bW w W/\P+2<=W.heap.size
theorem zG1 (w:WY) (B0 P:Nat) (is:List (Bool×List Nat)) {C:Nat} (hC:w.heap.size<=C):OwnFrom C (zUk w B0 P is):=by
 rintro k W W' row ⟨h1,h2,h3,h4,h5⟩ hg hr
 exact ⟨h1.abide hg hr,qT h2 hg hr,h3.abide hg hr,zAn h4 hg (mH _) hC hr,mO h5 hg.size⟩
theorem zNR (A:Option Addr) (n c:Nat) (is:List (Bool×List Nat)) (M:Nat) (w:WY) (h:IRd w A n is) (hn:n<=c) (hc:c<=9223372036854775807) (hM:M<=40000) (hv: ∀k,(zEi is k).natAbs<BB^M) (hp: ∀k,k<=n->(zB0 is k).natAbs<BB^M) (hnn:n<=1000000:=by first|omega|decide):
  Calls prog 103 #[.slice A n c] w (qU w (zB0 is n)):=by
 refine q8 func103 rfl ?_
 simp only [ntmps103,List.size_toArray,List.length_cons,List.length_nil,Nat.reduceAdd,Nat.reduceSub,Array.replicate_succ,Array.replicate_zero,List.push_toArray,List.append_toArray,List.nil_append,List.cons_append]
 go_wp2_with (first|(go_at_call 95;refine (zTs _).mono ?_;rintro e w1 ⟨A1,n1,c1,l1,rfl,hi1,hr1,hn1,hb1⟩)|(go_at_call 124;refine (zEY false A1 n1 c1 l1 _ hr1 hi1.lt oJ).mono ?_;rintro e w2 ⟨B0,rfl,hB0,hn0,hb0⟩)|(go_at_call 125;refine (zNe A n c _).mono ?_;rintro e w3 ⟨rfl,rfl⟩))
 have hiv0:iv false l1=1:=by unfold iv;rw [hi1.val];rfl
 rw [hiv0] at hn0
 obtain ⟨W0,hW0⟩: ∃W0,((w2.alloc (.cells #[pO B0 0] 144)).alloc (.cells #[.slice A n c] 101))=W0:=⟨_,rfl⟩
 have hsz:W0.heap.size=w2.heap.size+2:=by rw [<-hW0];simp
 have hB0l:=hn0.lt
 have hbw1:bW w w1:=((lW _ w).alloc (mH _) _).trans (hb1.mono (by simp))
 have hsz1:w.heap.size<w1.heap.size:=mK (by simp) hb1.size
 have hB0g:w.heap.size<B0:=mK hsz1 hB0
 have hbw2:bW w w2:=hbw1.trans (hb0.mono hbw1.size)
 have hB1:bW w W0:=by rw [<-hW0];exact (hbw2.alloc hbw2.size _).alloc (by simp;exact Nat.le_succ_of_le hbw2.size) _
 have x0:zAt W0 B0 1:=by rw [<-hW0];exact hn0.kept (((lW _ w2).alloc (mH _) _).alloc (by simp) _)
 have x1:Boxed W0 w2.heap.size 144 (pO B0 0):=by rw [<-hW0];exact (Boxed.new w2 _ _).alloc _
 have x2:Boxed W0 (w2.heap.size+1) 101 (.slice A n c):=by rw [<-hW0];exact zAs _ _ _ (by simp)
 have x3:q9 W0 w.heap.size 26 #[.bool false, sN]:=by rw [<-hW0];exact (((zJ7 hb1 rfl).kept hb0).alloc _).alloc _
 rw [hW0]
 clear hW0
 have hSb: ∀b,(b<w.heap.size∨b=w2.heap.size+1)->b<W0.heap.size:=fun b hb=>by have:=hbw2.size;omega
 refine zCl (gf:=144) rfl (enters_of func144 kD rfl) (zHX A n c is (w2.heap.size+1) w W0 h hB1 hn hc x2.cell (S:=fun b=>b<w.heap.size∨b=w2.heap.size+1) hSb (.inr rfl) (fun b hb=> .inl hb)) ?hE ?hps zFv.trans (zGB hSb)
  (zUk w B0 w2.heap.size is) (zG1 w B0 _ is hB1.size) (zBu (zG1 w B0 _ is (mH _))) wS (fun _ _ _ _ _ _ _ _=>trivial) ⟨x0,x1,x3,hB1,Nat.le_of_eq hsz.symm⟩
  (fun xs=>{ tmps:=#[.slice A n c,undef,pO w.heap.size 0,pO w2.heap.size 0,xs.getD 0 undef,.agg #[.bool false,.slice A1 n1 c1],pO B0 0,.slice A n c,.func (.func 144) #[] #[.pointer (some ⟨w2.heap.size+1,0,none⟩)],xs.getD 0 undef,undef,undef,undef,undef,undef,undef,undef],defers:= [] }) ?assign ?body ?done
 case hE=>
  rintro k xs W l o o' ⟨B,rfl,h1,h2⟩ ho hc
  exact ⟨B,rfl,h1,h2.abide (C:=0) (grownBy_putObj' W l o') (fun r e=>by cases e;exact ⟨mP _,o,ho,hc⟩)⟩
 case hps=>
  rintro k xs W ⟨B,rfl,_⟩
  rfl
 case assign=>
  rintro lp k xs W K ⟨B,rfl,h1,h2⟩ hK
  gi_wp2
  exact hK
 case body=>
  rintro lp k xs W hk ⟨h1,h2,h3,h4,h5⟩ ⟨B,rfl,hB,hnb⟩
  have hc2:=h2.cell
  have hne:B≠B0:=by omega
  have hkm:k<=1000000:=by omega
  have hbd:=hp k (mW hk)
  have hbd2:=hv k
  gi_wp2_with (gi_at_call 126;refine mM (mN.2 (zRN B0 B _ _ M W h1 hnb hbd hbd2 hM)) ?_;rintro e w3 ⟨⟨u,rfl⟩,hn3,hg3⟩)
  have hbx: ∃vs t,q9 W B0 t vs:=by obtain ⟨_,_,_,_,g,_⟩:=h1;exact ⟨_,_,g⟩
  obtain ⟨vs,t,g⟩:=hbx
  refine ⟨(KeepsOthers.of_grownBy hg3 (fun j o e ho=>by cases e;rw [show W.heap[B0]?=_ from g] at ho;cases ho;rfl)).from _,⟨(yY.refl _ _).grown hg3 (fun b hb=>⟨by have:=hSb b hb;omega,fun e=>by cases e;omega⟩),hg3.size⟩,hn3,h2.kept hg3 (fun e=>by cases e;omega),(hg3.block _ h3.lt (fun e=>by cases e;omega)).trans h3,zAM h4 hg3 h4.size oJ,mO h5 hg3.size⟩
 case done=>
  rintro D W hD ⟨h1,h2,h3,h4,h5⟩ _ hd
  obtain ⟨A2,n2,c2,l2,⟨g0,g1⟩,hi2,hr2⟩:=h1.parts
  have hc2:=h2.cell
  obtain ⟨⟨q0,q1⟩,q2,q3⟩:=h3.facts2
  go_wp2
  have hb5:=(h3.set 0 (.bool (decide (zB0 is n<0)))).set 1 (.slice A2 n2 c2)
  have hM:Marks w.heap.size ((W.setCell ⟨w.heap.size,0,none⟩ (.bool (decide (zB0 is n<0)))).setCell ⟨w.heap.size,1,none⟩ (.slice A2 n2 c2)) [mark D] [D]:=((Marks.nil w.heap.size W).more (D:=D) (by simp) (by have:=hB1.size;omega) hd).others ((KeepsOthers.setCell _ _ _).trans (KeepsOthers.setCell _ _ _))
  obtain ⟨A3,n3,c3,l3,e3,hi3,hr3,hb3⟩:=zHd h3 h4 (mH _) hi2 hr2
  cases e3
  refine qD _ (v:= .agg #[.bool (decide (zB0 is n<0)),.slice A2 n2 c2]) (fun w' ho'=> ?_) [D] _ _ hM (Oth.refl _ _) ?_
  ·obtain ⟨⟨c0,c1⟩,_,_⟩:=(hb5.oth ho').facts2
   simp [results,results103,go_sem,c0,c1]
  ·intro w' ho
   exact ⟨A2,n2,c2,l3,rfl,hi3,hr3.oth ho,zAd hb3 ho (mH _)⟩
def Bd (k:Int) (m:Nat):Prop:=k.natAbs<BB^m
theorem Bd.mono (h:Bd k m) (hm:m<=m'):Bd k m':=mK h (mX y7 hm)
theorem Bd.add {a b:Int} (h:Bd a m) (h':Bd b m):Bd (a+b) (m+1):=by
 unfold Bd at*
 rw [Nat.pow_succ]
 unfold BB at*
 omega
theorem Bd.neg {a:Int} (h:Bd a m):Bd (-a) m:=by
 unfold Bd at*
 rwa [Int.natAbs_neg]
theorem Bd.sub {a b:Int} (h:Bd a m) (h':Bd b m):Bd (a - b) (m+1):=by
 rw [Int.sub_eq_add_neg]
 exact h.add h'.neg
theorem Bd.mul {a b:Int} (h:Bd a m) (h':Bd b n):Bd (a*b) (m+n):=by
 unfold Bd at*
 rw [nD,Nat.pow_add]
 exact nC h (mW h') (Nat.pow_pos y7)
theorem UV.bd {v:Value} (h:UV W m v k):Bd k m:=h.bound
theorem NV.uv' {v:Value} (h:NV W v k) {m:Nat} (hk:Bd k m):UV W m v k:=h.uv hk
def ISV (W:WY) (m:Nat) (v:Value) (ks:List Int):Prop:= ∃is:List (Bool×List Nat),IS W m v is/\is.map (fun p=>iv p.1 p.2)=ks
theorem ISV.below {W':WY} {v:Value} (h:ISV W m v ks) (hb:bW W W'):ISV W' m v ks:=by
 obtain ⟨is,h1,h2⟩:=h
 exact ⟨is,h1.below hb,h2⟩
theorem zPB {s:Bool} {c:Nat} (h:UV W m (.agg #[.bool s,.slice A n c]) k): ∃l,Rd W A n c l/\Lt l/\n<=m/\iv s l=k:=by
 obtain ⟨s',A',n',c',l,he,h1,h2,h3,h4⟩:=h
 injection he with he
 injection he with he
 injection he with e1 he
 injection he with e2 _
 injection e1 with e1
 injection e2 with f1 f2 f3
 subst e1;subst f1;subst f2;subst f3
 exact ⟨l,h1,h2,h3,h4⟩
theorem ISV.two {s:Bool} {c:Nat} (h:UV W m (.agg #[.bool s,.slice A n c]) k) {s':Bool} {A':Option Addr} {n' c':Nat} {k':Int} (h':UV W m (.agg #[.bool s',.slice A' n' c']) k') (t:TypeId):
  ISV (W.alloc (.cells #[.bool s,.slice A n c,.bool s',.slice A' n' c'] t)) m (.slice (some ⟨W.heap.size,0,none⟩) 2 2) [k,k']:=by
 obtain ⟨l,h1,h2,h3,rfl⟩:=zPB h
 obtain ⟨l',h1',h2',h3',rfl⟩:=zPB h'
 exact ⟨[(s,l),(s',l')],IS.two h1 h2 h3 h1' h2' h3' t,rfl⟩
theorem zFk (is:List (Bool×List Nat)): ∀k,k<=is.length->zD2 is k=((is.take k).map fun p=>iv p.1 p.2).sum
 |0,_=>rfl
 |k+1,h=>by
  have h1:=zFk is k oJ
  show zD2 is k+zEi is k=_
  rw [h1,nM oJ,List.map_append,List.sum_append]
  unfold zEi
  rw [mY oJ]
  simp
theorem zEj (is:List (Bool×List Nat)): ∀k,k<=is.length->zB0 is k=((is.take k).map fun p=>iv p.1 p.2).foldl (·*·) 1
 |0,_=>rfl
 |k+1,h=>by
  have h1:=zEj is k oJ
  show zB0 is k*zEi is k=_
  rw [h1,nM oJ,List.map_append,List.foldl_append]
  unfold zEi
  rw [mY oJ]
  simp
theorem zGD {m:Nat} {w:WY} {A:Option Addr} {n:Nat} {is:List (Bool×List Nat)} (h:IRdM m w A n is): ∀k,Bd (zB0 is k) (m*k+1)
 |0=>by
  show (1:Int).natAbs<BB^(0+1)
  decide
 |k+1=>by
  have h1:=(zGD h k).mul (show Bd (zEi is k) m from zGC h k)
  show Bd (zB0 is k*zEi is k) _
  exact h1.mono (by rw [Nat.mul_add];omega)
theorem zVX {v:Value} (h:ISV W m v ks) (hm:m<=100000) (hn:ks.length<=1000) (hk:ks.sum=k):Calls prog 120 #[v] W (zGR W k):=by
 obtain ⟨is,h1,h2⟩:=h
 have:=zVY h1 hm (by rw [<-h2,List.length_map] at hn;omega)
 rw [zFk is is.length (mH _),List.take_length,h2,hk] at this
 exact this
theorem zMb {v:Value} (h:ISV W m v ks) (hn:m*ks.length+m+1<=40000) (hk:ks.foldl (·*·) 1=k) (hl:ks.length<=1000):Calls prog 103 #[v] W (zGR W k):=by
 obtain ⟨is,⟨A,c,rfl,h3,h4,h1⟩,h2⟩:=h
 have hl2:is.length=ks.length:=by rw [<-h2,List.length_map]
 have:=(zNR A is.length c is (m*ks.length+m+1) W (IRdM.mono h1 oJ) h3 h4 hn (fun k=>mK (zGC h1 k) (mX y7 oJ)) (fun k hk=>(zGD h1 k).mono (by
  have:m*k<=m*ks.length:=nF _ oJ
  omega))).mono fun _ _=>qU.v
 rw [zEj is is.length (mH _),List.take_length,h2,hk] at this
 exact this
theorem zHA (n:Int) (d:Nat):(mkRat n d).num.natAbs<=n.natAbs:=by
 rw [Rat.num_mkRat]
 split
 ·simp
 ·have hd:((d.gcd n.natAbs:Nat):Int)∣n:=Int.natAbs_dvd_natAbs.1 (by simpa using Nat.gcd_dvd_right d n.natAbs)
  rw [Int.natAbs_ediv_of_dvd hd]
  simp only [mZ]
  exact Nat.div_le_self _ _
theorem zHB (n:Int) (d:Nat) (h:0<d):(mkRat n d).den<=d:=by
 rw [Rat.den_mkRat,if_neg oJ]
 exact Nat.div_le_self _ _
theorem zDL (n:Int) (d:Nat) (h:0<d):(mkRat n d).num.natAbs=n.natAbs / Nat.gcd n.natAbs d:=by
 rw [Rat.num_mkRat,if_neg oJ]
 have hd:((d.gcd n.natAbs:Nat):Int)∣n:=Int.natAbs_dvd_natAbs.1 (by simpa using Nat.gcd_dvd_right d n.natAbs)
 rw [Int.natAbs_ediv_of_dvd hd,Nat.gcd_comm]
 simp only [mZ]
theorem zCA (n:Int) (d:Nat) (h:0<d):(mkRat n d).den=d / Nat.gcd n.natAbs d:=by
 rw [Rat.den_mkRat,if_neg oJ,Nat.gcd_comm]
theorem zCc (n:Int) (d:Nat) (h:0<d):decide ((mkRat n d).num<0)=decide (n<0):=by
 have h1:=@Rat.divInt_nonneg_iff_of_pos_right n d oJ
 rw [Rat.divInt_ofNat, <-Rat.num_nonneg] at h1
 rw [decide_eq_decide]
 omega
def QB (q:Rat) (m:Nat):Prop:=Bd q.num m/\q.den<BB^m
theorem QB.mono (h:QB q m) (hm:m<=m'):QB q m':=⟨h.1.mono hm,mK h.2 (mX y7 hm)⟩
theorem vH {d:Nat} (hk:Bd k m) (hd:d<BB^m) (hm:0<m):QB (mkRat k d) m:=by
 refine ⟨nA (zHA k d) hk, ?_⟩
 rcases mL d with rfl|h
 ·rw [Rat.mkRat_zero]
  show 1<BB^m
  exact Nat.one_lt_pow oJ (by unfold BB;omega)
 ·exact nA (zHB k d h) hd
theorem QB.pos (h:QB q m):0<m:=by
 rcases mL m with rfl|h0
 ·have:=h.2
  rw [Nat.pow_zero] at this
  have:=q.den_pos
  omega
 ·exact h0
theorem q7 {x:Nat} (h:x<BB^m):Bd (x:Int) m:=by unfold Bd;rwa [mZ]
theorem zEb {a b:Nat} (h:a<BB^m) (h':b<BB^n):a*b<BB^(m+n):=by
 rw [Nat.pow_add]
 exact nC h (mW h') (Nat.pow_pos y7)
theorem QB.num_add (h:QB p m) (h':QB q n):Bd (p.num*q.den+q.num*p.den) (m+n+1):=
 (h.1.mul (q7 h'.2)).add ((h'.1.mul (q7 h.2)).mono oJ)
theorem QB.den_mul (h:QB p m) (h':QB q n):p.den*q.den<BB^(m+n):=zEb h.2 h'.2
theorem QB.add (h:QB p m) (h':QB q n):QB (p+q) (m+n+1):=by
 rw [Rat.add_def']
 exact vH (h.num_add h') (mK (h.den_mul h') (mX y7 oJ)) oJ
theorem QB.mul (h:QB p m) (h':QB q n):QB (p*q) (m+n):=by
 rw [Rat.mul_def']
 exact vH (h.1.mul h'.1) (h.den_mul h') (by have:=h.pos;omega)
theorem QB.neg (h:QB q m):QB (-q) m:=⟨by rw [Rat.neg_num];exact h.1.neg,h.2⟩
theorem QB.sub (h:QB p m) (h':QB q n):QB (p - q) (m+n+1):=by
 rw [Rat.sub_eq_add_neg]
 exact h.add h'.neg
theorem zDE (h:0<m):1<BB^m:=Nat.one_lt_pow oJ (by unfold BB;omega)
theorem QB.int {z:Int} (h:Bd z m) (hm:0<m):QB (z:Rat) m:=⟨h,zDE hm⟩
theorem zRi (p q:Rat):p.num*q.den - q.num*p.den<0↔p<q:=by rw [Rat.lt_iff];omega
theorem zN4 (p q:Rat):p.num*q.den - q.num*p.den=0↔p=q:=by rw [Rat.eq_iff_mul_eq_mul];omega
def qsg (p q:Rat):Int:=(p.num*q.den - q.num*p.den).sign
theorem zHl:qsg p q= -1↔p<q:=by
 unfold qsg
 rw [<-zRi,Int.sign_eq_neg_one_iff_neg]
theorem zC5:qsg p q=0↔p=q:=by
 unfold qsg
 rw [<-zN4,Int.sign_eq_zero_iff_zero]
theorem zIl (p q:Rat):qsg q p= - qsg p q:=by
 unfold qsg
 rw [<-Int.sign_neg]
 congr 1
 omega
theorem zFO:qsg p q=1↔q<p:=by
 rw [<-zHl,zIl p q]
 omega
theorem zDd (p q:Rat):qsg p q= -1∨qsg p q=0∨qsg p q=1:=by
 unfold qsg
 have:=Int.sign_trichotomy (p.num*q.den - q.num*p.den)
 omega
abbrev V2:=Rat×Rat
variable {l:List V2} {B B' T T' a b b' t t' u z:V2} {w:Nat->V2}
structure Aff where
 a:Rat
 b:Rat
 c:Rat
def Aff.v (f:Aff) (p:V2):Rat:=f.a*p.1+f.b*p.2+f.c
def crs (a b p:V2):Rat:=(b.1 - a.1)*(p.2 - a.2) - (b.2 - a.2)*(p.1 - a.1)
def lin (a b:V2):Aff:=⟨-(b.2 - a.2),b.1 - a.1,(b.2 - a.2)*a.1 - (b.1 - a.1)*a.2⟩
theorem zU5 (a b p:V2):(lin a b).v p=crs a b p:=by unfold lin Aff.v crs;grind
theorem zUv {p1 p2 p3 p4 v1 v2 v3 v4:Rat} (h1:0<=p1) (h2:0<=p2) (h3:0<=p3) (h4:0<=p4) (hs:0<p1+p2+p3+p4) (g1:p1≠0->0<v1) (g2:p2≠0->0<v2) (g3:p3≠0->0<v3) (g4:p4≠0->0<v4):0<p1*v1+p2*v2+p3*v3+p4*v4:=by
 have key: ∀{p v:Rat},0<=p->(p≠0->0<v)->0<=p*v/\(0<p->0<p*v):=fun {p v} hp hv=>by
  by_cases e:p=0
  ·subst e;exact ⟨by grind,fun h=>absurd h (by grind)⟩
  ·have hp':0<p:=by grind
   have:=mA hp' (hv e)
   exact ⟨by grind,fun _=>this⟩
 have k1:=key h1 g1;have k2:=key h2 g2;have k3:=key h3 g3;have k4:=key h4 g4
 by_cases e1:0<p1
 ·have:=k1.2 e1;grind
 by_cases e2:0<p2
 ·have:=k2.2 e2;grind
 by_cases e3:0<p3
 ·have:=k3.2 e3;grind
 have:=k4.2 (by grind);grind
theorem zKi {s:Rat} (hs:0<s) (h:0<x*s):0<x:=by
 rcases (mG:x<=0∨0<=x) with h1|h1
 ·have:=mD (show 0<=-x by grind) (lV hs)
  grind
 ·by_cases e:x=0
  ·subst e;grind
  ·grind
def at_ (l:List V2) (i:Nat):V2:=l.getD i (0,0)
abbrev tn (l:List V2) (k:Nat):V2:=at_ l ((k+1) % l.length)
def edg (l:List V2) (i:Nat) (p:V2):Rat:=crs (at_ l i) (at_ l ((i+1) % l.length)) p
def edl (l:List V2) (i:Nat):Aff:=lin (at_ l i) (at_ l ((i+1) % l.length))
theorem zAU (l:List V2) (i:Nat) (p:V2):(edl l i).v p=edg l i p:=zU5 _ _ _
def zQL (l:List V2) (p:V2):Prop:= ∀i,i<l.length->0<edg l i p
structure Conv (l:List V2):Prop where
 three:3<=l.length
 left: ∀i k,i<l.length->k<l.length->0<=edg l i (at_ l k)
 strict: ∀i k,i<l.length->k<l.length->k≠i->k≠(i+1) % l.length->0<edg l i (at_ l k)
theorem zTx {p:V2} (h:p∈l): ∃i,i<l.length/\at_ l i=p:=by
 obtain ⟨i,hi,e⟩:=List.getElem_of_mem h
 exact ⟨i,hi,by unfold at_;rw [nN,mY hi];exact e⟩
theorem zBC {i:Nat} (h:i<l.length):at_ l i∈l:=by
 unfold at_;rw [nN,mY h];exact List.getElem_mem h
theorem zJy (g:Nat->Rat): ∀n,0<n-> ∃j,j<n/\ ∀k,k<n->g k<=g j
  | 1, _ => ⟨0, by omega, fun k hk => by obtain rfl:k=0:=by omega
                                         exact lU⟩
  | n+2,_=>by
    obtain ⟨j,h1,h2⟩:=zJy g (n+1) oJ
    rcases (mG:g j<=g (n+1)∨g (n+1)<=g j) with h|h
    . refine ⟨n+1,by omega,fun k hk=> ?_⟩
      by_cases e:k=n+1
      . rw [e];exact lU
      . exact mC (h2 k oJ) h
    . refine ⟨j,by omega,fun k hk=> ?_⟩
      by_cases e:k=n+1
      . rw [e];exact h
      . exact h2 k oJ
theorem zM5 (f:Aff) (p q r x:V2):crs p q r*(f.v x - f.v q)=crs p q x*(f.v r - f.v q)+crs q r x*(f.v p - f.v q):=by unfold crs Aff.v;grind
theorem zIp (h3:3<=n) (hj:j<n): ∃i,i<n/\(i+1) % n=j/\(j+1) % n<n/\(j+1) % n≠i/\(j+1) % n≠j:=by
 have hlt:=mJ (j+1) (show 0<n by omega)
 have h1:(j+1) % n=if j+1=n then 0 else j+1:=by
  split
  ·rename_i e;rw [e];exact mQ n
  ·exact mB oJ
 rcases mL j with rfl|hp
 ·refine ⟨n - 1,by omega,by rw [show n - 1+1=n by omega];exact mQ n,hlt, ?_, ?_⟩<;>(rw [h1];split<;>omega)
 ·refine ⟨j - 1,by omega,by rw [show j - 1+1=j by omega];exact mB hj,hlt, ?_, ?_⟩<;>(rw [h1];split<;>omega)
theorem Conv.cone {b:List V2} (h:Conv b) (f:Aff) (M:Rat) (hf: ∀k,k<b.length->f.v (at_ b k)<=M) {x:V2} (hx: ∀i,i<b.length->0<=edg b i x):f.v x<=M:=by
 have h3:=h.three
 obtain ⟨j,hj,hmax⟩:=zJy (fun k=>f.v (at_ b k)) b.length oJ
 obtain ⟨i,hi,hij,hn,n1,n2⟩:=zIp h3 hj
 have hD:0<crs (at_ b i) (at_ b j) (at_ b ((j+1) % b.length)):=by
  have:=h.strict i _ hi hn n1 (by rw [hij];exact n2)
  unfold edg at this
  rwa [hij] at this
 have e1:=hx i hi
 have e2:=hx j hj
 unfold edg at e1 e2
 rw [hij] at e1
 have key:=zM5 f (at_ b i) (at_ b j) (at_ b ((j+1) % b.length)) x
 have m1:=hmax _ hn
 have m2:=hmax i hi
 have k1:=mD e1 (show 0<=f.v (at_ b j) - f.v (at_ b ((j+1) % b.length)) by grind)
 have k2:=mD e2 (show 0<=f.v (at_ b j) - f.v (at_ b i) by grind)
 have k3:0<=crs (at_ b i) (at_ b j) (at_ b ((j+1) % b.length))*(f.v (at_ b j) - f.v x):=by grind
 have k4:f.v x<=f.v (at_ b j):=by
  rcases (mG:f.v x<=f.v (at_ b j)∨f.v (at_ b j)<=f.v x) with g|g
  ·exact g
  ·by_cases e:f.v x=f.v (at_ b j)
   ·grind
   ·have:=mA hD (show 0<f.v x - f.v (at_ b j) by grind)
    grind
 exact mC k4 (hf j hj)
def ch (R:V2->V2->Prop):List V2->Prop
 |p::q::r=>R p q/\ch R (q::r)
 |_=>True
def zWQ (R:V2->V2->Prop) (l:List V2):Prop:= ∃p t,l=p::t/\ch R (p::(t++ [p]))
def seg (p q:V2) (t:Rat):V2:=(p.1+(q.1 - p.1)*t,p.2+(q.2 - p.2)*t)
def zWP (z p q:V2):Prop:=0<crs p q z
theorem Conv.cone_lt {b:List V2} (h:Conv b) (f:Aff) (hn:f.a≠0∨f.b≠0) (M:Rat) (hf: ∀k,k<b.length->f.v (at_ b k)<=M) {x:V2} (hx:zQL b x):f.v x<M:=by
 have h3:=h.three
 obtain ⟨j,hj,hmax⟩:=zJy (fun k=>f.v (at_ b k)) b.length oJ
 obtain ⟨i,hi,hij,hn',n1,n2⟩:=zIp h3 hj
 have hD:0<crs (at_ b i) (at_ b j) (at_ b ((j+1) % b.length)):=by
  have:=h.strict i _ hi hn' n1 (by rw [hij];exact n2)
  unfold edg at this
  rwa [hij] at this
 have e1:=hx i hi
 have e2:=hx j hj
 unfold edg at e1 e2
 rw [hij] at e1
 have key:=zM5 f (at_ b i) (at_ b j) (at_ b ((j+1) % b.length)) x
 have m1:=hmax _ hn'
 have m2:=hmax i hi
 have hle:=h.cone f M hf fun i hi=>lV (hx i hi)
 have hq:=hf j hj
 apply Rat.not_le.1
 intro hge
 have hxe:f.v x=f.v (at_ b j):=by
  have h1:=h.cone f (f.v (at_ b j)) hmax fun i hi=>lV (hx i hi)
  grind
 rw [hxe] at key
 have k1:=mD (lV e1) (show 0<=f.v (at_ b j) - f.v (at_ b ((j+1) % b.length)) by grind)
 have k2:=mD (lV e2) (show 0<=f.v (at_ b j) - f.v (at_ b i) by grind)
 have z1:f.v (at_ b ((j+1) % b.length))=f.v (at_ b j):=by
  by_cases e:f.v (at_ b ((j+1) % b.length))=f.v (at_ b j)
  ·exact e
  ·have:=mA e1 (show 0<f.v (at_ b j) - f.v (at_ b ((j+1) % b.length)) by grind)
   grind
 have z2:f.v (at_ b i)=f.v (at_ b j):=by
  by_cases e:f.v (at_ b i)=f.v (at_ b j)
  ·exact e
  ·have:=mA e2 (show 0<f.v (at_ b j) - f.v (at_ b i) by grind)
   grind
 generalize at_ b i=p at*
 generalize at_ b j=q at*
 generalize at_ b ((j+1) % b.length)=r at*
 unfold Aff.v at z1 z2
 unfold crs at hD
 rcases hn with hn|hn
 ·have:f.a*((q.1 - p.1)*(r.2 - p.2) - (q.2 - p.2)*(r.1 - p.1))=0:=by grind
  rcases mF.1 this with h'|h'
  ·exact hn h'
  ·grind
 ·have:f.b*((q.1 - p.1)*(r.2 - p.2) - (q.2 - p.2)*(r.1 - p.1))=0:=by grind
  rcases mF.1 this with h'|h'
  ·exact hn h'
  ·grind
def fl (q:Rat):Int:=q.num / (q.den:Int)
def zWj (s:Nat):Rat:=((2^s:Nat):Rat)
def upto (q:Rat) (s:Nat):Rat:=mkRat (fl (q*zWj s)+1) (2^s)
theorem zFg (q:Rat):(q.num:Rat)=q*(q.den:Rat):=by
 have h:=Rat.mkRat_self q
 rw [Rat.mkRat_eq_div] at h
 have hd:(q.den:Rat)≠0:=fun h=>q.den_nz (by exact_mod_cast h)
 grind
theorem vC {X D:Int} (hm:0<m) (h:q*(D:Rat)=(X:Rat)) (hD:D≠0) (hX:Bd X m) (hD':Bd D m):QB q m:=by
  have e0:=zFg q
  have e1:((q.num*D:Int):Rat)=((X*(q.den:Int):Int):Rat):=by
    rw [mR,mR,e0, <-h]
    show q*(q.den:Rat)*(D:Rat)=q*(D:Rat)*((q.den:Int):Rat)
    rw [Rat.intCast_natCast]
    grind
  have e2:q.num*D=X*(q.den:Int):=by exact_mod_cast e1
  have e3:q.num.natAbs*D.natAbs=X.natAbs*q.den:=by
    have:=mS Int.natAbs e2
    rwa [nD,nD,mZ] at this
  have hc:Nat.Coprime q.den q.num.natAbs:=q.reduced.symm
  have hd:q.den∣D.natAbs:=hc.dvd_of_dvd_mul_left (by rw [e3];exact Nat.dvd_mul_left _ _)
  have hDp:0<D.natAbs:=Int.natAbs_pos.2 hD
  obtain ⟨k,hk⟩:=hd
  have hk0 : 0 < k := by rcases mL k with h|h;· rw [h] at hk;omega
                         . exact h
  refine ⟨?_,nA ?_ hD'⟩
  . have:q.num.natAbs*k=X.natAbs:=by
      rw [hk, <-Nat.mul_assoc,Nat.mul_comm q.num.natAbs,Nat.mul_assoc,Nat.mul_comm q.den] at e3
      exact Nat.eq_of_mul_eq_mul_right q.den_pos e3
    refine nA ?_ hX
    rw [<-this]
    exact Nat.le_mul_of_pos_right _ hk0
  . rw [hk];exact Nat.le_mul_of_pos_right _ hk0
def PB (p:V2) (m:Nat):Prop:=QB p.1 m/\QB p.2 m
structure Ln where
 A:Int
 B:Int
 C:Int
def Ln.bd (l:Ln) (m:Nat):Prop:=Bd l.A m/\Bd l.B m/\Bd l.C m
def Ln.on (l:Ln) (p:V2):Prop:=(l.A:Rat)*p.1+(l.B:Rat)*p.2+(l.C:Rat)=0
theorem zWC (ha:PB a m) (hb:PB b m): ∃l:Ln,l.bd (4*m+1)/\ ∃s:Rat,s≠0/\ ∀p:V2,(l.A:Rat)*p.1+(l.B:Rat)*p.2+(l.C:Rat)=s*crs a b p:=by
 refine ⟨⟨-(b.2.num*a.2.den - a.2.num*b.2.den)*(a.1.den*b.1.den),(b.1.num*a.1.den - a.1.num*b.1.den)*(a.2.den*b.2.den),b.2.num*a.1.num*(b.1.den*a.2.den) - b.1.num*a.2.num*(a.1.den*b.2.den)⟩, ?_,(a.1.den:Rat)*b.1.den*(a.2.den*b.2.den), ?_,fun p=> ?_⟩
 ·have d1:=q7 ha.1.2;have d2:=q7 ha.2.2;have d3:=q7 hb.1.2;have d4:=q7 hb.2.2
  refine ⟨?_, ?_, ?_⟩
  ·exact (((((hb.2.1.mul d2).add ((ha.2.1.mul d4).neg.mono oJ)).neg.mul (d1.mul d3)).mono (m':=4*m+1) oJ):_)
  ·exact ((((hb.1.1.mul d1).add ((ha.1.1.mul d3).neg.mono oJ)).mul (d2.mul d4)).mono oJ)
  ·exact (((hb.2.1.mul ha.1.1).mul (d3.mul d2)).add ((((hb.1.1.mul ha.2.1).mul (d1.mul d4)).neg).mono oJ)).mono oJ
 ·have: ∀q:Rat,(q.den:Rat)≠0:=fun q h=>q.den_nz (by exact_mod_cast h)
  have h1:=this a.1;have h2:=this a.2;have h3:=this b.1;have h4:=this b.2
  intro h
  rcases mF.1 h with h|h<;>rcases mF.1 h with h|h<;>contradiction
 ·simp only [mR,nG,Rat.intCast_neg,Rat.intCast_natCast,zFg]
  unfold crs
  grind
theorem zPn {l l':Ln} {p q:V2} (hm:0<m) (hl:l.bd m) (hl':l'.bd m) (h1:l.on p) (h2:l.on q) (h3:l'.on p) (hq: ¬l'.on q) (h0:l.A≠0∨l.B≠0):PB p (2*m+1):=by
 unfold Ln.on at*
 have hD:l.A*l'.B - l'.A*l.B≠0:=fun e=>by
  have e':(l.A:Rat)*l'.B - (l'.A:Rat)*l.B=0:=by exact_mod_cast e
  apply hq
  rcases h0 with h0|h0
  ·have h0':(l.A:Rat)≠0:=fun h=>h0 (by exact_mod_cast h)
   have:(l.A:Rat)*((l'.A:Rat)*q.1+(l'.B:Rat)*q.2+(l'.C:Rat))=0:=by grind
   rcases mF.1 this with h|h
   ·exact absurd h h0'
   ·exact h
  ·have h0':(l.B:Rat)≠0:=fun h=>h0 (by exact_mod_cast h)
   have:(l.B:Rat)*((l'.A:Rat)*q.1+(l'.B:Rat)*q.2+(l'.C:Rat))=0:=by grind
   rcases mF.1 this with h|h
   ·exact absurd h h0'
   ·exact h
 have bD:Bd (l.A*l'.B - l'.A*l.B) (2*m+1):=((hl.1.mul hl'.2.1).add ((hl'.1.mul hl.2.1).neg.mono oJ)).mono oJ
 constructor
 ·refine vC (X:=l.B*l'.C - l'.B*l.C) oJ ?_ hD (((hl.2.1.mul hl'.2.2).add ((hl'.2.1.mul hl.2.2).neg.mono oJ)).mono oJ) bD
  simp only [mR,nG]
  grind
 ·refine vC (X:=l.C*l'.A - l'.C*l.A) oJ ?_ hD (((hl.2.2.mul hl'.1).add ((hl'.2.2.mul hl.1).neg.mono oJ)).mono oJ) bD
  simp only [mR,nG]
  grind
theorem zUg (h:a≠b) (l:Ln) (s:Rat) (hs:s≠0) (he: ∀p:V2,(l.A:Rat)*p.1+(l.B:Rat)*p.2+(l.C:Rat)=s*crs a b p):l.A≠0∨l.B≠0:=by
 apply lZ
 intro hn
 have hA:l.A=0:=lZ fun h=>hn (.inl h)
 have hB:l.B=0:=lZ fun h=>hn (.inr h)
 have e1:=he a
 have e2:=he (a.1 - (b.2 - a.2),a.2+(b.1 - a.1))
 rw [hA,hB] at e1 e2
 have z1:crs a b a=0:=by unfold crs;grind
 have z2:crs a b (a.1 - (b.2 - a.2),a.2+(b.1 - a.1))=(b.1 - a.1)*(b.1 - a.1)+(b.2 - a.2)*(b.2 - a.2):=by unfold crs;grind
 rw [z1] at e1
 have e3:s*crs a b (a.1 - (b.2 - a.2),a.2+(b.1 - a.1))=0:=by rw [<-e2,show ((0:Int):Rat)=0 from rfl];rw [show ((0:Int):Rat)=0 from rfl] at e1;grind
 rcases mF.1 e3 with e3|e3
 ·exact hs e3
 ·rw [z2] at e3
  have sq: ∀x:Rat,0<=x*x/\(x*x=0->x=0):=fun x=>⟨by
   rcases (mG:0<=x∨x<=0) with h|h
   ·exact mD h h
   ·have:=mD (show 0<=-x by grind) (show 0<=-x by grind);grind,fun h=>by rcases mF.1 h with h|h<;>exact h⟩
  have s1:=sq (b.1 - a.1);have s2:=sq (b.2 - a.2)
  have x1:=s1.2 (by grind)
  have x2:=s2.2 (by grind)
  exact h (mE (by grind) (by grind))
structure SRing (z:V2) (l:List V2):Prop where
 nd:l.Nodup
 ring:zWQ (zWP z) l
 strict: ∀i,i<l.length-> ∀r,r∈l->r≠at_ l i->r≠at_ l ((i+1) % l.length)->0<crs (at_ l i) (at_ l ((i+1) % l.length)) r
section
variable {z:V2} {l:List V2} (S:SRing z l) (h:Aff)
include S
end
inductive PL (F:Rat->Rat):Rat->Rat->Prop
 |aff {c d:Rat} (A B:Rat) (h: ∀y,c<=y->y<=d->F y=A*y+B):PL F c d
 |split {c d:Rat} (e:Rat) (h1:c<=e) (h2:e<=d) (a:PL F c e) (b:PL F e d):PL F c d
theorem PL.part (h:PL F c d): ∀{c' d':Rat},c<=c'->c'<=d'->d'<=d->PL F c' d':=by
 induction h with
 |aff A B h=>exact fun h1 _ h3=> .aff A B fun y g1 g2=>h y (mC h1 g1) (mC g2 h3)
 | split e h1 h2 a b iha ihb=>
  intro c' d' g1 g2 g3
  by_cases k1:d'<=e
  ·exact iha g1 g2 k1
  ·by_cases k2:e<=c'
   ·exact ihb k2 g2 g3
   ·exact .split e (by grind) (by grind) (iha g1 (by grind) lU) (ihb lU (by grind) g3)
theorem PL.sub (h:PL F c d):PL G c d->c<=d->PL (fun y=>F y - G y) c d:=by
 induction h with
 |@aff c d A B h=>
  intro g hcd
  induction g with
  |aff A' B' h'=>exact .aff (A - A') (B - B') fun y g1 g2=>by rw [h y g1 g2,h' y g1 g2];grind
  |split e h1 h2 a b iha ihb=>exact .split e h1 h2 (iha (fun y g1 g2=>h y g1 (mC g2 h2)) h1) (ihb (fun y g1 g2=>h y (mC h1 g1) g2) h2)
 |split e h1 h2 a b iha ihb=>exact fun g hcd=> .split e h1 h2 (iha (g.part lU h1 h2) h1) (ihb (g.part h1 h2 lU) h2)
theorem PL.zero (h:PL F c d):c<=d->F c<0->0<=F d-> ∃y,c<=y/\y<=d/\F y=0:=by
 induction h with
 | @aff c d A B h=>
  intro hcd h1 h2
  rw [h c lU hcd] at h1
  rw [h d hcd lU] at h2
  have hA:A≠0:=fun e=>by rw [e] at h1 h2;grind
  have hA':0<A:=by
   apply lZ
   intro hn
   have k:=mD (show 0<=-A by grind) (show 0<=d - c by grind)
   grind
  have e1:A*(-B / A)= -B:=by rw [Rat.mul_comm,mT hA]
  have low: ∀{p q:Rat},A*p<=A*q->p<=q:=fun {p q} hpq=>by
   apply lZ
   intro hn
   have k:=mA hA' (show 0<p - q by grind)
   grind
  have k1:c<=-B / A:=low (by rw [e1];grind)
  have k2: -B / A<=d:=low (by rw [e1];grind)
  exact ⟨-B / A,k1,k2,by rw [h _ k1 k2,e1];grind⟩
 | split e h1 h2 a b iha ihb=>
  intro _ g1 g2
  by_cases k:0<=‹Rat->Rat› e
  ·obtain ⟨y,y1,y2,y3⟩:=iha h1 g1 k
   exact ⟨y,y1,mC y2 h2,y3⟩
  ·obtain ⟨y,y1,y2,y3⟩:=ihb h2 (by grind) g2
   exact ⟨y,mC h1 y1,y2,y3⟩
theorem PL.order (hF:PL F c d) (hG:PL G c d) (hne: ∀y,c<=y->y<=d->F y≠G y) {y z:Rat} (hy:c<=y/\y<=d) (hz:c<=z/\z<=d) (h:F y<G y):F z<G z:=by
 apply lZ
 intro hn
 rcases (mG:y<=z∨z<=y) with k|k
 ·obtain ⟨x,x1,x2,x3⟩:=((hF.sub hG (mC hy.1 hy.2)).part hy.1 k hz.2).zero k (show F y - G y<0 by grind) (show 0<=F z - G z by grind)
  exact hne x (mC hy.1 x1) (mC x2 hz.2) (by grind)
 ·obtain ⟨x,x1,x2,x3⟩:=((hG.sub hF (mC hy.1 hy.2)).part hz.1 k hy.2).zero k (show G z - F z<0 by have:=hne z hz.1 hz.2;grind) (show 0<=G y - F y by grind)
  exact hne x (mC hz.1 x1) (mC x2 hy.2) (by grind)
def ipt (a b:V2) (y:Rat):Rat:=a.1+(b.1 - a.1)*((y - a.2) / (b.2 - a.2))
theorem zMx (_:a.2<b.2):ipt a b a.2=a.1:=by
 unfold ipt
 rw [show a.2 - a.2=0 by grind,Rat.div_def,Rat.zero_mul]
 grind
theorem zTE (h:a.2<b.2):ipt a b b.2=b.1:=by
 unfold ipt
 rw [show (b.2 - a.2) / (b.2 - a.2)=1 by rw [Rat.div_def,Rat.mul_inv_cancel _ (by grind)]]
 grind
theorem zMA (h:a.2<b.2) (y:Rat):ipt a b y=(b.1 - a.1) / (b.2 - a.2)*y+(a.1 - (b.1 - a.1) / (b.2 - a.2)*a.2):=by
 unfold ipt
 simp only [Rat.div_def]
 grind
def OnE (a b z:V2):Prop:= ∃t:Rat,0<=t/\t<=1/\z=(a.1+(b.1 - a.1)*t,a.2+(b.2 - a.2)*t)
theorem zTD (h:a.2<b.2) {y:Rat} (h1:a.2<=y) (h2:y<=b.2):OnE a b (ipt a b y,y):=by
 have hd:b.2 - a.2≠0:=by grind
 have e:(b.2 - a.2)*((y - a.2) / (b.2 - a.2))=y - a.2:=by rw [Rat.mul_comm,mT hd]
 have low: ∀{p q:Rat},(b.2 - a.2)*p<=(b.2 - a.2)*q->p<=q:=fun {p q} hpq=>by
  apply lZ
  intro hn
  have k:=mA (show 0<b.2 - a.2 by grind) (show 0<p - q by grind)
  grind
 exact ⟨(y - a.2) / (b.2 - a.2),low (by rw [e];grind),low (by rw [e];grind),mE rfl (by show y=a.2+(b.2 - a.2)*((y - a.2) / (b.2 - a.2));rw [e];grind)⟩
theorem OnE.symm (h:OnE a b z):OnE b a z:=by
 obtain ⟨t,h0,h1,rfl⟩:=h
 exact ⟨1 - t,by grind,by grind,mE (by show _=_;simp only;grind) (by show _=_;simp only;grind)⟩
def evU (v:Nat->V2) (s:Nat):Nat->Rat->Rat
 |0,_=>(v s).1
 |m+1,y=>if y<=(v (s+m)).2 then evU v s m y else ipt (v (s+m)) (v (s+m+1)) y
def zFu (v:Nat->V2) (s m:Nat):Prop:= ∀k,k<m->(v (s+k)).2<(v (s+k+1)).2
theorem zFu.le {v:Nat->V2} (h:zFu v s m): ∀{i j:Nat},i<=j->j<=m->(v (s+i)).2<=(v (s+j)).2:=fun {i j} hij hj=>by
 induction j with
 |zero=>rw [show i=0 by omega];exact lU
 | succ j ih=>
  rcases nH hij with g|g
  ·have h1:=ih oJ oJ
   have h2:=h j oJ
   rw [show s+(j+1)=s+j+1 by omega]
   grind
  ·rw [g];exact lU
theorem zMT {v:Nat->V2} {s:Nat}: ∀{m:Nat},zFu v s m->evU v s m (v s).2=(v s).1
 |0,_=>rfl
 |m+1,h=>by
  show (if _ then _ else _)=_
  rw [if_pos (by have:=h.le (i:=0) (j:=m) (mP _) oJ;exact this)]
  exact zMT fun k hk=>h k oJ
theorem zJF {v:Nat->V2} (h:zFu v s m):evU v s m (v (s+m)).2=(v (s+m)).1:=by
 cases m with
 |zero=>rfl
 |succ m=>
  show (if _ then _ else _)=_
  have h1:=h m oJ
  rw [show s+(m+1)=s+m+1 by omega,if_neg (by grind)]
  exact zTE h1
theorem zMS {v:Nat->V2} {s:Nat}: ∀{m:Nat},0<m->zFu v s m-> ∀{y:Rat},(v s).2<=y->y<=(v (s+m)).2-> ∃k,k<m/\OnE (v (s+k)) (v (s+k+1)) (evU v s m y,y)
 | m+1,_,h,y,h1,h2=>by
  show ∃k,k<m+1/\OnE _ _ ((if y<=(v (s+m)).2 then evU v s m y else _),y)
  by_cases e:y<=(v (s+m)).2
  ·rw [if_pos e]
   rcases mL m with h0|h0
   ·subst h0
    have hy:y=(v s).2:=by rw [Nat.add_zero] at e;grind
    refine ⟨0,by omega, ?_⟩
    rw [hy]
    show OnE (v (s+0)) _ ((v s).1,(v s).2)
    exact ⟨0,by decide,by decide,mE (by show (v s).1=(v s).1+_*0;grind) (by show (v s).2=(v s).2+_*0;grind)⟩
   ·obtain ⟨k,hk,ho⟩:=zMS h0 (fun k hk=>h k oJ) h1 e
    exact ⟨k,by omega,ho⟩
  ·rw [if_neg e]
   exact ⟨m,by omega,zTD (h m oJ) (by grind) h2⟩
theorem zMR {v:Nat->V2} {s:Nat}: ∀{m:Nat},zFu v s m->PL (evU v s m) (v s).2 (v (s+m)).2
 |0,_=> .aff 0 (v s).1 fun y _ _=>by show (v s).1=_;grind
 | m+1,h=>by
  have hm:=h m oJ
  have hr:zFu v s m:=fun k hk=>h k oJ
  have hle:=h.le (i:=0) (j:=m) (mP _) oJ
  have conv: ∀{F G:Rat->Rat} {c d:Rat},PL F c d->(∀y,c<=y->y<=d->G y=F y)->PL G c d:=fun {F G c d} hF=>by
   induction hF with
   |aff A B h=>exact fun hG=> .aff A B fun y g1 g2=>by rw [hG y g1 g2,h y g1 g2]
   |split e h1 h2 a b iha ihb=>exact fun hG=> .split e h1 h2 (iha fun y g1 g2=>hG y g1 (mC g2 h2)) (ihb fun y g1 g2=>hG y (mC h1 g1) g2)
  refine .split (v (s+m)).2 hle (lV hm) (conv (zMR hr) fun y _ g2=>if_pos g2) ?_
  refine .aff (((v (s+m+1)).1 - (v (s+m)).1) / ((v (s+m+1)).2 - (v (s+m)).2)) ((v (s+m)).1 - ((v (s+m+1)).1 - (v (s+m)).1) / ((v (s+m+1)).2 - (v (s+m)).2)*(v (s+m)).2) fun y g1 g2=> ?_
  by_cases e:y<=(v (s+m)).2
  ·have hy:y=(v (s+m)).2:=by grind
   show (if _ then _ else _)=_
   rw [if_pos e,hy,zJF hr, <-zMA hm,zMx hm]
  ·show (if _ then _ else _)=_
   rw [if_neg e]
   exact zMA hm y
structure Arc (w:Nat->V2) (F:Rat->Rat) (S:Nat->Prop) (B b t T:V2):Prop where
 pl:PL F B.2 T.2
 on: ∀y,B.2<=y->y<=T.2-> ∃k,S k/\OnE (w k) (w (k+1)) (F y,y)
 lo:F B.2=B.1
 hi:F T.2=T.1
 bot: ∀y,B.2<=y->y<=b.2->F y=ipt B b y
 top: ∀y,t.2<=y->y<=T.2->F y=ipt t T y
 hb:B.2<b.2
 hb':b.2<=T.2
 ht:t.2<T.2
 ht':B.2<=t.2
theorem zIG {v:Nat->V2} {s:Nat}: ∀{m:Nat},0<m->zFu v s m-> ∀{y:Rat},(v s).2<=y->y<=(v (s+1)).2->evU v s m y=ipt (v s) (v (s+1)) y
 |1,_,h,y,h1,h2=>by
  show (if y<=(v (s+0)).2 then (v s).1 else _)=_
  have h0:=h 0 oJ
  rw [Nat.add_zero] at*
  by_cases e:y<=(v s).2
  ·rw [if_pos e,show y=(v s).2 by grind,zMx h0]
  ·rw [if_neg e]
 |m+2,_,h,y,h1,h2=>by
  show (if y<=(v (s+(m+1))).2 then evU v s (m+1) y else _)=_
  rw [if_pos (mC h2 (h.le (i:=1) (j:=m+1) oJ oJ))]
  exact zIG oJ (fun k hk=>h k oJ) h1 h2
theorem zMQ {v:Nat->V2} (h:zFu v s (m+1)) {y:Rat} (h1:(v (s+m)).2<=y):evU v s (m+1) y=ipt (v (s+m)) (v (s+m+1)) y:=by
 have hm:=h m oJ
 show (if y<=(v (s+m)).2 then evU v s m y else _)=_
 by_cases e:y<=(v (s+m)).2
 ·rw [if_pos e,show y=(v (s+m)).2 by grind,zJF (fun k hk=>h k oJ),zMx hm]
 ·rw [if_neg e]
theorem zQG (hj:s<j) (h: ∀k,s<=k->k<j->(w k).2<(w (k+1)).2): ∃F,Arc w F (fun k=>s<=k/\k<j) (w s) (w (s+1)) (w (j - 1)) (w j):=by
 obtain ⟨m,rfl⟩: ∃m,j=s+m+1:=⟨j - s - 1,by omega⟩
 have r:zFu w s (m+1):=fun k hk=>h (s+k) oJ oJ
 refine ⟨evU w s (m+1),⟨zMR r,fun y h1 h2=> ?_,zMT r,zJF r,fun y h1 h2=>zIG oJ r h1 h2,fun y h1 h2=> ?_,h s oJ oJ,r.le (i:=1) (j:=m+1) oJ oJ, ?_, ?_⟩⟩
 ·obtain ⟨k,hk,ho⟩:=zMS oJ r h1 h2
  exact ⟨s+k,⟨by omega,by omega⟩,ho⟩
 ·rw [show s+m+1 - 1=s+m by omega] at h1 ⊢
  exact zMQ r h1
 ·rw [show s+m+1 - 1=s+m by omega]
  exact h (s+m) oJ oJ
 ·rw [show s+m+1 - 1=s+m by omega]
  exact r.le (i:=0) (j:=m) oJ oJ
theorem zQH (hj:s<j) (h: ∀k,s<=k->k<j->(w (k+1)).2<(w k).2): ∃F,Arc w F (fun k=>s<=k/\k<j) (w j) (w (j - 1)) (w (s+1)) (w s):=by
 obtain ⟨m,rfl⟩: ∃m,j=s+m+1:=⟨j - s - 1,by omega⟩
 have r:zFu (fun k=>w (s+m+1 - k)) 0 (m+1):=fun k hk=>by
  show (w (s+m+1 - (0+k))).2<(w (s+m+1 - (0+k+1))).2
  have:=h (s+m - k) oJ oJ
  rw [show s+m - k+1=s+m+1 - (0+k) by omega] at this
  rw [show s+m+1 - (0+k+1)=s+m - k by omega]
  exact this
 have e0:w (s+m+1 - (0+(m+1)))=w s:=by congr 1;omega
 have e1:w (s+m+1 - (0+m))=w (s+1):=by congr 1;omega
 have e2:w (s+m+1 - (0+m+1))=w s:=by congr 1;omega
 have p:=zMR r
 have q:=zJF r
 simp only [e0] at p q
 refine ⟨evU (fun k=>w (s+m+1 - k)) 0 (m+1),⟨p,fun y h1 h2=> ?_,zMT r,q,fun y h1 h2=>zIG oJ r h1 h2,fun y h1 h2=> ?_, ?_, ?_,h s oJ oJ, ?_⟩⟩
 ·obtain ⟨k,hk,ho⟩:=zMS oJ r (y:=y) h1 (by show y<=(w (s+m+1 - (0+(m+1)))).2;rw [e0];exact h2)
  refine ⟨s+m - k,⟨by omega,by omega⟩, ?_⟩
  have a1:w (s+m+1 - (0+k))=w (s+m - k+1):=by congr 1;omega
  have a2:w (s+m+1 - (0+k+1))=w (s+m - k):=by congr 1;omega
  simp only [a1,a2] at ho
  exact ho.symm
 ·have:=zMQ r (y:=y) (by show (w (s+m+1 - (0+m))).2<=y;rw [e1];exact h1)
  simp only [e1,e2] at this
  exact this
 ·rw [show s+m+1 - 1=s+m by omega]
  exact h (s+m) oJ oJ
 ·have:=r.le (i:=1) (j:=m+1) oJ oJ
  have a1:w (s+m+1 - (0+1))=w (s+m+1 - 1):=by congr 1
  simp only [e0,a1] at this
  exact this
 ·have:=r.le (i:=0) (j:=m) oJ oJ
  simp only [e1] at this
  exact this
theorem zMz (h:a.2<b.2) (y:Rat):(ipt a b y - b.1)*(b.2 - a.2)=(b.1 - a.1)*(y - b.2):=by
 have e:(y - a.2) / (b.2 - a.2)*(b.2 - a.2)=y - a.2:=mT (by grind)
 unfold ipt
 have:(a.1+(b.1 - a.1)*((y - a.2) / (b.2 - a.2)) - b.1)*(b.2 - a.2)=(a.1 - b.1)*(b.2 - a.2)+(b.1 - a.1)*((y - a.2) / (b.2 - a.2)*(b.2 - a.2)):=by grind
 rw [this,e]
 grind
theorem zMy (h:a.2<b.2) (y:Rat):(ipt a b y - a.1)*(b.2 - a.2)=(b.1 - a.1)*(y - a.2):=by
 have:=zMz h y
 grind
theorem zHE {y:Rat} (hd:0<d) (h:x*d<y*d):x<y:=by
 apply lZ
 intro hn
 have k:=mD (show 0<=x - y by grind) (lV hd)
 grind
theorem zQZ {s:V2} (ht:t.2<T.2) (hs:s.2<T.2) (hc:0<crs t T s) {y:Rat} (hy:y<T.2):ipt s T y<ipt t T y:=by
 have h1:=zMz ht y
 have h2:=zMz hs y
 refine zHE (show 0<(T.2 - t.2)*(T.2 - s.2) from mA (by grind) (by grind)) ?_
 have h3:=mA hc (show 0<T.2 - y by grind)
 generalize ipt s T y=p at*
 generalize ipt t T y=q at*
 have e1:p*((T.2 - t.2)*(T.2 - s.2))=((T.1 - s.1)*(y - T.2))*(T.2 - t.2)+T.1*((T.2 - t.2)*(T.2 - s.2)):=by grind
 have e2:q*((T.2 - t.2)*(T.2 - s.2))=((T.1 - t.1)*(y - T.2))*(T.2 - s.2)+T.1*((T.2 - t.2)*(T.2 - s.2)):=by grind
 rw [e1,e2]
 unfold crs at h3
 grind
theorem zSn {s:V2} (ht:B.2<t.2) (hs:B.2<s.2) (hc:0<crs t B s) {y:Rat} (hy:B.2<y):ipt B t y<ipt B s y:=by
 have h1:=zMy ht y
 have h2:=zMy hs y
 refine zHE (show 0<(t.2 - B.2)*(s.2 - B.2) from mA (by grind) (by grind)) ?_
 have h3:=mA hc (show 0<y - B.2 by grind)
 generalize ipt B s y=p at*
 generalize ipt B t y=q at*
 have e1:p*((t.2 - B.2)*(s.2 - B.2))=((s.1 - B.1)*(y - B.2))*(t.2 - B.2)+B.1*((t.2 - B.2)*(s.2 - B.2)):=by grind
 have e2:q*((t.2 - B.2)*(s.2 - B.2))=((t.1 - B.1)*(y - B.2))*(s.2 - B.2)+B.1*((t.2 - B.2)*(s.2 - B.2)):=by grind
 rw [e1,e2]
 unfold crs at h3
 grind
theorem max2 (a b:Rat): ∃c,a<=c/\b<=c/\(c=a∨c=b):=by
 rcases (mG:a<=b∨b<=a) with h|h
 ·exact ⟨b,h,lU,.inr rfl⟩
 ·exact ⟨a,lU,h,.inl rfl⟩
theorem min2 (a b:Rat): ∃c,c<=a/\c<=b/\(c=a∨c=b):=by
 rcases (mG:a<=b∨b<=a) with h|h
 ·exact ⟨a,lU,h,.inl rfl⟩
 ·exact ⟨b,h,lU,.inr rfl⟩
theorem zHS (hF:Arc w F S B b t T) (hG:Arc w G R B' b' t' T) (hc:0<crs t T t') {c:Rat} (h1:B.2<=c) (h2:B'.2<=c)
  (hne: ∀y,c<=y->y<T.2->F y≠G y) {y:Rat} (hy:c<=y) (hy':y<T.2):G y<F y:=by
 obtain ⟨e1,a1,a2,a3⟩:=max2 t.2 t'.2
 obtain ⟨e,k1,k2,k3⟩:=max2 y e1
 have he:e<T.2:=by have:=hF.ht;have:=hG.ht;grind
 have hlt:G e<F e:=by
  rw [hF.top e (by grind) (lV he),hG.top e (by grind) (lV he)]
  exact zQZ hF.ht hG.ht hc he
 have pF:=hF.pl.part (c':=y) (d':=e) (by grind) k1 (lV he)
 have pG:=hG.pl.part (c':=y) (d':=e) (by grind) k1 (lV he)
 exact pG.order pF (fun z z1 z2 h=>hne z (by grind) (by grind) h.symm) ⟨k1,lU⟩ ⟨lU,k1⟩ hlt
theorem zNj (hF:Arc w F S B b t T) (hG:Arc w G R B b' t' T') (hc:0<crs b B b') {d:Rat} (h1:d<=T.2) (h2:d<=T'.2)
  (hne: ∀y,B.2<y->y<=d->F y≠G y) {y:Rat} (hy:B.2<y) (hy':y<=d):F y<G y:=by
 obtain ⟨e1,a1,a2,a3⟩:=min2 b.2 b'.2
 obtain ⟨e,k1,k2,k3⟩:=min2 y e1
 have he:B.2<e:=by have:=hF.hb;have:=hG.hb;grind
 have hlt:F e<G e:=by
  rw [hF.bot e (lV he) (by grind),hG.bot e (lV he) (by grind)]
  exact zSn hF.hb hG.hb hc he
 have pF:=hF.pl.part (c':=e) (d':=y) (lV he) k1 (by grind)
 have pG:=hG.pl.part (c':=e) (d':=y) (lV he) k1 (by grind)
 exact pF.order pG (fun z z1 z2 h=>hne z (by grind) (by grind) h) ⟨lU,k1⟩ ⟨k1,lU⟩ hlt
theorem zHV (hF:Arc w F S B b t T) (hG:Arc w G R B' b' t' T') {y:Rat} (hd: ∀i j z,S i->R j->OnE (w i) (w (i+1)) z->OnE (w j) (w (j+1)) z->z.2≠y)
  (h1:B.2<=y) (h2:B'.2<=y) (h3:y<=T.2) (h4:y<=T'.2):F y≠G y:=fun e=>by
 obtain ⟨i,hi,oi⟩:=hF.on y h1 h3
 obtain ⟨j,hj,oj⟩:=hG.on y h2 h4
 rw [<-e] at oj
 exact hd i j _ hi hj oi oj rfl
theorem zWw {A D A' D':Rat->Rat} {SA SD SA' SD':Nat->Prop} {B0 B0' T1' T1 T1'' B1' B1 B1'' T2' T2 T2'' B2' B2:V2}
  (hA:Arc w A SA B0 B0' T1' T1) (hD:Arc w D SD B1 B1' T1'' T1) (hA':Arc w A' SA' B1 B1'' T2' T2) (hD':Arc w D' SD' B2 B2' T2'' T2)
  (c1:0<crs T1' T1 T1'') (c2:0<crs B1' B1 B1'') (c3:0<crs T2' T2 T2'') (h01:B0.2<B1.2)
  (nAD: ∀i j z,SA i->SD j->OnE (w i) (w (i+1)) z->OnE (w j) (w (j+1)) z->z=T1)
  (nDA: ∀i j z,SD i->SA' j->OnE (w i) (w (i+1)) z->OnE (w j) (w (j+1)) z->z=B1)
  (nAD': ∀i j z,SA' i->SD' j->OnE (w i) (w (i+1)) z->OnE (w j) (w (j+1)) z->z=T2)
  (nAA: ∀i j z,SA i->SA' j->OnE (w i) (w (i+1)) z->OnE (w j) (w (j+1)) z->False)
  (nDD: ∀i j z,SD i->SD' j->OnE (w i) (w (i+1)) z->OnE (w j) (w (j+1)) z->False):B1.2<B2.2:=by
 have hT1:B1.2<T1.2:=by have:=hD.ht;have:=hD.ht';grind
 have hT2:B1.2<T2.2:=by have:=hA'.ht;have:=hA'.ht';grind
 have s1: ∀y,B1.2<=y->y<T1.2->D y<A y:=fun y g1 g2=>
  zHS hA hD c1 (c:=B1.2) (lV h01) lU (fun z z1 z2=>zHV hA hD (fun i j p hi hj oi oj=>by rw [nAD i j p hi hj oi oj];grind) (by grind) z1 (lV z2) (lV z2)) g1 g2
 have s2: ∀y,B1.2<y->y<=T1.2->y<=T2.2->D y<A' y:=fun y g1 g2 g3=>
  zNj hD hA' c2 (d:=y) g2 g3 (fun z z1 z2=>zHV hD hA' (fun i j p hi hj oi oj=>by rw [nDA i j p hi hj oi oj];grind) (lV z1) (lV z1) (by grind) (by grind)) g1 lU
 have s3: ∀y,B1.2<=y->y<=T1.2->y<=T2.2->A' y<A y:=fun y g1 g2 g3=>by
  have h0:A' B1.2<A B1.2:=by rw [hA'.lo, <-hD.lo];exact s1 _ lU hT1
  exact (hA'.pl.part (c':=B1.2) (d':=y) lU g1 g3).order (hA.pl.part (c':=B1.2) (d':=y) (lV h01) g1 g2)
   (fun z z1 z2 e=>zHV hA hA' (fun i j p hi hj oi oj=>(nAA i j p hi hj oi oj).elim) (by grind) z1 (by grind) (by grind) e.symm) ⟨lU,g1⟩ ⟨g1,lU⟩ h0
 have s4:T2.2<T1.2:=by
  apply lZ
  intro hn
  have hle:T1.2<=T2.2:=by grind
  have k1:=s2 T1.2 hT1 lU hle
  have k2:=s3 T1.2 (lV hT1) lU hle
  rw [hA.hi] at k2
  rw [hD.hi] at k1
  grind
 apply lZ
 intro hn
 have hle:B2.2<=B1.2:=by grind
 have s5: ∀y,B1.2<=y->y<T2.2->D' y<A' y:=fun y g1 g2=>
  zHS hA' hD' c3 (c:=B1.2) lU hle (fun z z1 z2=>zHV hA' hD' (fun i j p hi hj oi oj=>by rw [nAD' i j p hi hj oi oj];grind) z1 (by grind) (lV z2) (lV z2)) g1 g2
 have s6:D B1.2<D' B1.2:=by
  have h0:D T2.2<D' T2.2:=by rw [hD'.hi, <-hA'.hi];exact s2 _ hT2 (lV s4) lU
  exact (hD.pl.part (c':=B1.2) (d':=T2.2) lU (lV hT2) (lV s4)).order (hD'.pl.part (c':=B1.2) (d':=T2.2) hle (lV hT2) lU)
   (fun z z1 z2=>zHV hD hD' (fun i j p hi hj oi oj=>(nDD i j p hi hj oi oj).elim) z1 (by grind) (by grind) z2) ⟨lV hT2,lU⟩ ⟨lU,lV hT2⟩ h0
 have s7:=s5 B1.2 lU hT2
 rw [hA'.lo] at s7
 rw [hD.lo] at s6
 grind
theorem zG8 (p:Nat->Prop) {s e:Nat} (h:s<e) (h0:p s): ∃j,s<j/\j<=e/\(∀k,s<=k->k<j->p k)/\(j=e∨ ¬p j):=by
 obtain ⟨m,rfl⟩: ∃m,e=s+m+1:=⟨e - s - 1,by omega⟩
 induction m generalizing s with
 |zero=>exact ⟨s+1,by omega,by omega,fun k h1 h2=>by rw [show k=s by omega];exact h0,.inl rfl⟩
 | succ m ih=>
  by_cases h1:p (s+1)
  ·obtain ⟨j,j1,j2,j3,j4⟩:=ih (s:=s+1) h1 oJ
   refine ⟨j,by omega,by omega,fun k k1 k2=> ?_,by rcases j4 with j4|j4;exact .inl oJ;exact .inr j4⟩
   by_cases e:k=s
   ·rw [e];exact h0
   ·exact j3 k oJ k2
  ·exact ⟨s+1,by omega,by omega,fun k k1 k2=>by rw [show k=s by omega];exact h0,.inr h1⟩
structure Apt (n:Nat) (w:Nat->V2):Prop where
 three:3<=n
 per: ∀k,w (k+n)=w k
 left: ∀k,0<crs (w k) (w (k+1)) (w (k+2))
 apart: ∀i j z,i+2<=j->j+2<=i+n->OnE (w i) (w (i+1)) z->OnE (w j) (w (j+1)) z->False
 lev: ∀k,(w k).2≠(w (k+1)).2
theorem OnE.crs (h:OnE a b z):crs a b z=0:=by
 obtain ⟨t,_,_,rfl⟩:=h
 unfold Wd.crs
 grind
theorem zPt {c:V2} (h:0<crs a b c) (h1:OnE a b z) (h2:OnE b c z):z=b:=by
 have e1:=h1.crs
 obtain ⟨t,_,_,rfl⟩:=h2
 have e2:crs a b (b.1+(c.1 - b.1)*t,b.2+(c.2 - b.2)*t)=crs a b c*t:=by unfold crs;grind
 rw [e2] at e1
 have ht:t=0:=by
  rcases mF.1 e1 with k|k
  ·grind
  ·exact k
 subst ht
 exact mE (by show b.1+_*0=b.1;grind) (by show b.2+_*0=b.2;grind)
theorem Apt.meet (h:Apt n w) {i j:Nat} {z:V2} (hij:i<j) (hj:j+2<=i+n) (h1:OnE (w i) (w (i+1)) z) (h2:OnE (w j) (w (j+1)) z):j=i+1/\z=w j:=by
 by_cases e:j=i+1
 ·subst e
  exact ⟨rfl,zPt (h.left i) h1 h2⟩
 ·exact (h.apart i j z oJ hj h1 h2).elim
theorem zHz {n:Nat} {w:Nat->V2} (h:Apt n w) (hlow: ∀k,0<k->k<n->(w 0).2<(w k).2): ∀(d b t b':Nat),n - b'<=d->b<t->t<b'->b'<n->(∀k,b<=k->k<t->(w k).2<(w (k+1)).2)->(∀k,t<=k->k<b'->(w (k+1)).2<(w k).2)->(w b').2<(w (b'+1)).2->(w b).2<(w b').2->False
 |0,b,t,b',hd,hbt,htb,hb,_,_,_,_=>by omega
 | d+1,b,t,b',hd,hbt,htb,hb,hup,hdn,hnx,hlt=>by
  have hn0:w n=w 0:=by have:=h.per 0;rwa [Nat.zero_add] at this
  have hnb:b'<n - 1:=by
   apply lZ
   intro hx
   have e:b'+1=n:=by omega
   rw [e,hn0] at hnx
   have:=hlow b' oJ hb
   grind
  obtain ⟨t',t1,t2,t3,t4⟩:=zG8 (fun k=>(w k).2<(w (k+1)).2) hnb hnx
  have ht':(w (t'+1)).2<(w t').2:=by
   rcases t4 with e|e
   ·rw [e,show n - 1+1=n by omega,hn0];exact hlow _ oJ oJ
   ·have:=h.lev t';grind
  obtain ⟨b2,b1,b3,b4,b5⟩:=zG8 (fun k=>(w (k+1)).2<(w k).2) (s:=t') (e:=n) oJ ht'
  obtain ⟨A,hA⟩:=zQG hbt hup
  obtain ⟨D,hD⟩:=zQH htb hdn
  obtain ⟨A',hA'⟩:=zQG t1 t3
  obtain ⟨D',hD'⟩:=zQH b1 b4
  have lf: ∀k,0<k->0<crs (w (k - 1)) (w k) (w (k+1)):=fun k hk=>by
   obtain ⟨m,rfl⟩: ∃m,k=m+1:=⟨k - 1,by omega⟩
   exact h.left m
  have key:=zWw hA hD hA' hD' (lf t oJ) (lf b' oJ) (lf t' oJ) hlt
   (fun i j z hi hj oi oj=>by obtain ⟨e,e'⟩:=h.meet oJ oJ oi oj;rw [e',show j=t by omega])
   (fun i j z hi hj oi oj=>by obtain ⟨e,e'⟩:=h.meet oJ oJ oi oj;rw [e',show j=b' by omega])
   (fun i j z hi hj oi oj=>by obtain ⟨e,e'⟩:=h.meet oJ oJ oi oj;rw [e',show j=t' by omega])
   (fun i j z hi hj oi oj=>by obtain ⟨e,e'⟩:=h.meet oJ oJ oi oj;omega)
   (fun i j z hi hj oi oj=>by obtain ⟨e,e'⟩:=h.meet oJ oJ oi oj;omega)
  have hb2:b2<n:=by
   apply lZ
   intro hx
   have e:b2=n:=by omega
   rw [e,hn0] at key
   have:=hlow b' oJ hb
   grind
  exact zHz h hlow d b' t' b2 oJ t1 b1 hb2 t3 b4 (by
   rcases b5 with e|e
   ·omega
   ·have:=h.lev b2;grind) key
theorem zOv (h:Apt n w) (hlow: ∀k,0<k->k<n->(w 0).2<(w k).2): ∃m,0<m/\m<n/\(∀k,k<m->(w k).2<(w (k+1)).2)/\ ∀k,m<=k->k<n->(w (k+1)).2<(w k).2:=by
 have h3:=h.three
 have hn0:w n=w 0:=by have:=h.per 0;rwa [Nat.zero_add] at this
 obtain ⟨t,t1,t2,t3,t4⟩:=zG8 (fun k=>(w k).2<(w (k+1)).2) (s:=0) (e:=n - 1) oJ (hlow 1 oJ oJ)
 have ht':(w (t+1)).2<(w t).2:=by
  rcases t4 with e|e
  ·rw [e,show n - 1+1=n by omega,hn0];exact hlow _ oJ oJ
  ·have:=h.lev t;grind
 obtain ⟨b,b1,b3,b4,b5⟩:=zG8 (fun k=>(w (k+1)).2<(w k).2) (s:=t) (e:=n) oJ ht'
 have hb:b=n:=by
  rcases b5 with e|e
  ·exact e
  ·apply lZ
   intro hx
   exact zHz h hlow n 0 t b oJ t1 b1 oJ (fun k _ k2=>t3 k (mP _) k2) b4 (by have:=h.lev b;grind) (hlow b oJ oJ)
 subst hb
 exact ⟨t,t1,by omega,fun k hk=>t3 k (mP _) hk,b4⟩
theorem Apt.shift (h:Apt n w) (s:Nat):Apt n fun k=>w (s+k) where
 three:=h.three
 per k:=by show w (s+(k+n))=w (s+k);rw [<-Nat.add_assoc];exact h.per _
 left k:=h.left (s+k)
 apart i j z h1 h2 o1 o2:=h.apart (s+i) (s+j) z oJ oJ o1 o2
 lev k:=h.lev (s+k)
theorem Apt.mod (h:Apt n w) (k:Nat):w (k % n)=w k:=by
 have key: ∀q r,w (r+n*q)=w r:=fun q=>by
  induction q with
  |zero=>intro r;rfl
  |succ q ih=>intro r;rw [Nat.mul_succ, <-Nat.add_assoc,h.per];exact ih r
 have:=key (k / n) (k % n)
 rw [nI] at this
 exact this.symm
theorem zP7 (g:Nat->Rat) (n:Nat) (h:0<n): ∃j,j<n/\ ∀k,k<n->g j<=g k:=by
 induction n with
 |zero=>omega
 | succ n ih=>
  rcases mL n with e|e
  ·subst e;exact ⟨0,by omega,fun k hk=>by rw [show k=0 by omega];exact lU⟩
  ·obtain ⟨j,j1,j2⟩:=ih e
   by_cases c:g j<=g n
   ·exact ⟨j,by omega,fun k hk=>by
     rcases nH (Nat.le_of_lt_succ hk) with q|q
     ·exact j2 k q
     ·rw [q];exact c⟩
   ·exact ⟨n,by omega,fun k hk=>by
     rcases nH (Nat.le_of_lt_succ hk) with q|q
     ·have:=j2 k q;grind
     ·rw [q];exact lU⟩
theorem zLY (h:Apt n w) (hd: ∀i j,i<n->j<n->i≠j->(w i).2≠(w j).2) {j:Nat} (h1:(w (j+1)).2<(w j).2) (h2:(w (j+1)).2<(w (j+2)).2) (k:Nat):(w (j+1)).2<=(w k).2:=by
 have h3:=h.three
 obtain ⟨s,s1,s2⟩:=zP7 (fun k=>(w k).2) n oJ
 have hlow: ∀k,0<k->k<n->(w (s+0)).2<(w (s+k)).2:=fun k k1 k2=>by
  have e:=s2 ((s+k) % n) (mJ _ oJ)
  have ne:=hd s ((s+k) % n) s1 (mJ _ oJ) (fun e=>by
   rcases mU (s+k) n with q|q
   ·rw [mB q] at e;omega
   ·rw [show s+k=s+k - n+n by omega,mV,mB oJ] at e;omega)
  simp only [h.mod] at e ne
  rw [Nat.add_zero]
  grind
 obtain ⟨m,m0,mn,up,dn⟩:=zOv (h.shift s) hlow
 -- j + 1 as a place counted from s
 have hp: ∀x, ∃r,r<n/\w (s+r)=w x/\w (s+r+1)=w (x+1)/\w (s+r+2)=w (x+2):=fun x=>by
  refine ⟨(x+(n - s)) % n,mJ _ oJ, ?_, ?_, ?_⟩
  all_goals
   rw [<-h.mod, <-h.mod (_:Nat)]
  ·rw [<-h.mod x,nJ,show s+(x+(n - s))=x+n by omega,mV];simp [h.mod]
  ·rw [show s+(x+(n - s)) % n+1=(s+1)+(x+(n - s)) % n by omega,nJ,show s+1+(x+(n - s))=x+1+n by omega,mV];simp [h.mod]
  ·rw [show s+(x+(n - s)) % n+2=(s+2)+(x+(n - s)) % n by omega,nJ,show s+2+(x+(n - s))=x+2+n by omega,mV];simp [h.mod]
 obtain ⟨r,r1,r2,r3,r4⟩:=hp j
 rw [<-r2, <-r3] at h1
 rw [<-r3, <-r4] at h2
 have hr:r=n - 1:=by
  have a1:m<=r:=by
   apply lZ
   intro hx
   have:=up r oJ
   rw [show s+(r+1)=s+r+1 by omega] at this
   grind
  apply lZ
  intro hx
  have:=dn (r+1) oJ oJ
  rw [show s+(r+1+1)=s+r+2 by omega,show s+(r+1)=s+r+1 by omega] at this
  grind
 rw [<-r3,hr,show s+(n - 1)+1=s+n by omega,h.per]
 have:=s2 (k % n) (mJ _ oJ)
 simp only [h.mod] at this
 exact this
theorem zG2: ∀(L:List (Rat×Rat)), ∃d:Rat,0<d/\ ∀p,p∈L->0<p.1-> ∀e,-d<=e->e<=d->0<p.1+e*p.2
 | []=>⟨1,by decide,fun p hp=>absurd hp (by simp)⟩
 | q::L=>by
  obtain ⟨d,d0,hd⟩:=zG2 L
  by_cases hq:0<q.1
  ·have hb: ∃M:Rat,0<M/\q.2<=M/\-q.2<=M:=by
    rcases (mG:0<=q.2∨q.2<=0) with k|k
    ·exact ⟨q.2+1,by grind,by grind,by grind⟩
    ·exact ⟨-q.2+1,by grind,by grind,by grind⟩
   obtain ⟨M,M0,M1,M2⟩:=hb
   have e1:q.1 / (2*M)*(2*M)=q.1:=mT (by grind)
   have c0:0<q.1 / (2*M):=zKi (s:=2*M) (by grind) (by rw [e1];exact hq)
   generalize q.1 / (2*M)=c at*
   obtain ⟨m,m1,m2,m3⟩:=min2 d c
   refine ⟨m,by grind,fun p hp hpos e he1 he2=> ?_⟩
   rcases List.mem_cons.1 hp with rfl|hp
   ·have a1:=mD (show 0<=c - e by grind) (show 0<=M+p.2 by grind)
    have a2:=mD (show 0<=c+e by grind) (show 0<=M - p.2 by grind)
    have a3:=mD (show 0<=c - e by grind) (show 0<=M - p.2 by grind)
    have a4:=mD (show 0<=c+e by grind) (show 0<=M+p.2 by grind)
    grind
   ·exact hd p hp hpos e (by grind) (by grind)
  ·exact ⟨d,d0,fun p hp hpos e he1 he2=>by
    rcases List.mem_cons.1 hp with rfl|hp
    ·exact absurd hpos hq
    ·exact hd p hp hpos e he1 he2⟩
structure SimpL (l:List V2):Prop where
 three:3<=l.length
 left: ∀i,i<l.length->0<crs (at_ l i) (at_ l ((i+1) % l.length)) (at_ l ((i+2) % l.length))
 apart: ∀i j,i<l.length->j<l.length->i≠j->j≠(i+1) % l.length->i≠(j+1) % l.length-> ∀z,OnE (at_ l i) (at_ l ((i+1) % l.length)) z->OnE (at_ l j) (at_ l ((j+1) % l.length)) z->False
 ne: ∀i j,i<l.length->j<l.length->i≠j->at_ l i≠at_ l j
def zD1 (u q:V2) (e:Rat) (p:V2):V2:=(u.1*(p.1 - q.1)+u.2*(p.2 - q.2),(u.1*(p.2 - q.2) - u.2*(p.1 - q.1))+e*(u.1*(p.1 - q.1)+u.2*(p.2 - q.2)))
theorem zOL (u q:V2) (e:Rat) (a b c:V2):crs (zD1 u q e a) (zD1 u q e b) (zD1 u q e c)=(u.1*u.1+u.2*u.2)*crs a b c:=by unfold crs zD1;grind
theorem zIY (h:u≠(0,0)):0<u.1*u.1+u.2*u.2:=by
 have key: ∀x:Rat,0<=x*x/\(x≠0->0<x*x):=fun x=>by
  rcases (mG:0<=x∨x<=0) with k|k
  ·exact ⟨mD k k,fun h=>mA (by grind) (by grind)⟩
  ·have a:=mD (show 0<=-x by grind) (show 0<=-x by grind)
   exact ⟨by grind,fun h=>by have:=mA (show 0< -x by grind) (show 0< -x by grind);grind⟩
 have k1:=key u.1
 have k2:=key u.2
 by_cases e:u.1=0
 ·have:=k2.2 (fun e2=>h (mE e e2));grind
 ·have:=k1.2 e;grind
theorem zMk {q:V2} (h:OnE (zD1 u q e a) (zD1 u q e b) z): ∃z',OnE a b z'/\z=zD1 u q e z':=by
 obtain ⟨t,t0,t1,rfl⟩:=h
 exact ⟨_,⟨t,t0,t1,rfl⟩,by unfold zD1;exact mE (by simp only;grind) (by simp only;grind)⟩
theorem zGA {q:V2} (hu:u≠(0,0)) {a b:V2} (h:zD1 u q e a=zD1 u q e b):a=b:=by
 have h1:u.1*(a.1 - q.1)+u.2*(a.2 - q.2)=u.1*(b.1 - q.1)+u.2*(b.2 - q.2):=mS Prod.fst h
 have h2:(u.1*(a.2 - q.2) - u.2*(a.1 - q.1))+e*(u.1*(a.1 - q.1)+u.2*(a.2 - q.2))=(u.1*(b.2 - q.2) - u.2*(b.1 - q.1))+e*(u.1*(b.1 - q.1)+u.2*(b.2 - q.2)):=mS Prod.snd h
 rw [h1] at h2
 have h3:u.1*(a.2 - q.2) - u.2*(a.1 - q.1)=u.1*(b.2 - q.2) - u.2*(b.1 - q.1):=by grind
 have hs:=zIY hu
 have g1:(u.1*u.1+u.2*u.2)*(a.1 - b.1)=0:=by grind
 have g2:(u.1*u.1+u.2*u.2)*(a.2 - b.2)=0:=by grind
 have z: ∀{x:Rat},(u.1*u.1+u.2*u.2)*x=0->x=0:=fun {x} hx=>by
  rcases mF.1 hx with k|k
  ·grind
  ·exact k
 have:=z g1
 have:=z g2
 exact mE (by grind) (by grind)
theorem zD0 (l:List V2) (k:Nat):(k+l.length) % l.length=k % l.length:=mV _ _
theorem SimpL.apt (h:SimpL l) {u:V2} (hu:u≠(0,0)) (q:V2) (e:Rat) (hlev: ∀i,i<l.length->(zD1 u q e (at_ l i)).2≠(zD1 u q e (at_ l ((i+1) % l.length))).2):Apt l.length fun k=>zD1 u q e (at_ l (k % l.length)):=by
 have h3:=h.three
 have lt: ∀k,k % l.length<l.length:=fun k=>mJ _ oJ
 refine ⟨h3,fun k=>by simp only [zD0],fun k=> ?_,fun i j z hi hj o1 o2=> ?_,fun k=> ?_⟩
 ·show 0<crs _ _ _
  rw [zOL]
  have:=h.left (k % l.length) (lt k)
  rw [mI,mI] at this
  exact mA (zIY hu) this
 ·obtain ⟨z1,p1,p2⟩:=zMk o1
  obtain ⟨z2,q1,q2⟩:=zMk o2
  rw [q2] at p2
  have ez:=zGA hu p2
  rw [ez] at q1
  have ne: ∀x y,x<y->y<x+l.length->x % l.length≠y % l.length:=fun x y h1 h2 e=>by
   have a1:=nI x l.length
   have a2:=nI y l.length
   rw [<-e] at a2
   rcases mU (x / l.length) (y / l.length) with k|k
   ·have:=nF l.length (show x / l.length+1<=y / l.length from k)
    rw [Nat.mul_add] at this
    omega
   ·have:=nF l.length k
    omega
  refine h.apart (i % l.length) (j % l.length) (lt i) (lt j) (ne i j oJ oJ) ?_ ?_ z1 ?_ ?_
  ·rw [mI];exact (ne (i+1) j oJ oJ).symm
  ·rw [mI, <-zD0 l i];exact (ne (j+1) (i+l.length) oJ oJ).symm
  ·rw [mI];exact p1
  ·rw [mI];exact q1
 ·have:=hlev (k % l.length) (lt k)
  rw [mI] at this
  exact this
theorem vQ (h:SimpL l):Conv l:=by
 have h3:=h.three
 have lt: ∀k,k % l.length<l.length:=fun k=>mJ _ oJ
 have key: ∀i k,i<l.length->k<l.length->k≠i->k≠(i+1) % l.length->0<edg l i (at_ l k):=fun i k hi hk hki hki1=>by
  have hi1:=lt (i+1)
  have hne:i≠(i+1) % l.length:=fun e=>by
   rcases mU (i+1) l.length with q|q
   ·rw [mB q] at e;omega
   ·rw [show i+1=l.length by omega,mQ] at e;omega
  generalize hq:at_ l i=q
  generalize hr:at_ l ((i+1) % l.length)=r
  have hqr:q≠r:=by rw [<-hq, <-hr];exact h.ne _ _ hi hi1 hne
  have hu:((r.1 - q.1,r.2 - q.2):V2)≠(0,0):=fun e=>hqr (by
   have e1:=mS Prod.fst e
   have e2:=mS Prod.snd e
   simp only at e1 e2
   exact mE (by grind) (by grind))
  generalize hu':((r.1 - q.1,r.2 - q.2):V2)=u at hu
  let H:Nat->Rat:=fun k=>crs q r (at_ l k)
  let G:Nat->Rat:=fun k=>u.1*((at_ l k).1 - q.1)+u.2*((at_ l k).2 - q.2)
  have u1:u.1=r.1 - q.1:=by rw [<-hu']
  have u2:u.2=r.2 - q.2:=by rw [<-hu']
  have hY: ∀e k,(zD1 u q e (at_ l k)).2=H k+e*G k:=fun e k=>by
   show _=crs q r (at_ l k)+e*(u.1*((at_ l k).1 - q.1)+u.2*((at_ l k).2 - q.2))
   unfold zD1 crs
   rw [u1,u2]
  have hHG: ∀a b,a<l.length->b<l.length->a≠b->H a=H b->G a≠G b:=fun a b ha hb hab e1 e2=>by
   refine h.ne a b ha hb hab (zGA (e:=0) (q:=q) hu (mE e2 ?_))
   rw [hY,hY,e1];grind
  have hH0:H i=0:=by show crs q r (at_ l i)=0;rw [hq];unfold crs;grind
  have hG0:G i=0:=by show u.1*((at_ l i).1 - q.1)+u.2*((at_ l i).2 - q.2)=0;rw [hq];grind
  have hH1:H ((i+1) % l.length)=0:=by show crs q r (at_ l _)=0;rw [hr];unfold crs;grind
  have hG1:G ((i+1) % l.length)=u.1*u.1+u.2*u.2:=by show u.1*((at_ l _).1 - q.1)+u.2*((at_ l _).2 - q.2)=_;rw [hr, <-u1, <-u2]
  have hsq:=zIY hu
  have hH2:0<H ((i+2) % l.length):=by
   have:=h.left i hi
   rw [hq,hr] at this
   exact this
  have hHm:0<H ((i+(l.length - 1)) % l.length):=by
   have:=h.left ((i+(l.length - 1)) % l.length) (lt _)
   rw [mI,mI,show i+(l.length - 1)+1=i+l.length by omega,show i+(l.length - 1)+2=i+1+l.length by omega,zD0,zD0,mB hi,hq,hr] at this
   show 0<crs q r _
   have e: ∀a b c:V2,crs a b c=crs b c a:=fun a b c=>by unfold crs;grind
   rw [<-e]
   exact this
  obtain ⟨d,d0,hd⟩:=zG2 ((List.range l.length).flatMap fun a=>(List.range l.length).map fun b=>(H a - H b,G a - G b))
  have hlt: ∀a b,a<l.length->b<l.length->H b<H a-> ∀e,-d<=e->e<=d->H b+e*G b<H a+e*G a:=fun a b ha hb hab e e1 e2=>by
   have:=hd (H a - H b,G a - G b) (List.mem_flatMap.2 ⟨a,List.mem_range.2 ha,List.mem_map.2 ⟨b,List.mem_range.2 hb,rfl⟩⟩) (by simp only;grind) e e1 e2
   simp only at this
   grind
  have hdist: ∀e,e≠0->-d<=e->e<=d-> ∀a b,a<l.length->b<l.length->a≠b->(zD1 u q e (at_ l a)).2≠(zD1 u q e (at_ l b)).2:=fun e e0 e1 e2 a b ha hb hab=>by
   rw [hY,hY]
   by_cases c:H a=H b
   ·have hg:=hHG a b ha hb hab c
    intro ee
    have hx:e*(G a - G b)=0:=by grind
    rcases mF.1 hx with k|k
    ·exact e0 k
    ·grind
   ·rcases (mG:H a<=H b∨H b<=H a) with k|k
    ·have:=hlt b a hb ha (by grind) e e1 e2;grind
    ·have:=hlt a b ha hb (by grind) e e1 e2;grind
  have hap: ∀e,e≠0->-d<=e->e<=d->Apt l.length fun k=>zD1 u q e (at_ l (k % l.length)):=fun e e0 e1 e2=>
   h.apt hu q e fun a ha=>hdist e e0 e1 e2 a _ ha (lt _) (fun e=>by
    rcases mU (a+1) l.length with q|q
    ·rw [mB q] at e;omega
    ·rw [show a+1=l.length by omega,mQ] at e;omega)
  have hdist': ∀e,e≠0->-d<=e->e<=d-> ∀a b,a<l.length->b<l.length->a≠b->(zD1 u q e (at_ l (a % l.length))).2≠(zD1 u q e (at_ l (b % l.length))).2:=fun e e0 e1 e2 a b ha hb hab=>by
   rw [mB ha,mB hb];exact hdist e e0 e1 e2 a b ha hb hab
  -- the first end is lowest, a little turned
  have m1:0<=H k+d*G k:=by
   have e1: -d<=d:=by grind
   have hd0:d≠0:=by grind
   have:=zLY (hap d hd0 e1 lU) (hdist' d hd0 e1 lU) (j:=i+(l.length - 1))
    (by
     show (zD1 u q d (at_ l ((i+(l.length - 1)+1) % l.length))).2<(zD1 u q d (at_ l ((i+(l.length - 1)) % l.length))).2
     rw [show i+(l.length - 1)+1=i+l.length by omega,zD0,mB hi,hY,hY]
     exact hlt _ _ (lt _) hi (by rw [hH0];exact hHm) d e1 lU)
    (by
     show (zD1 u q d (at_ l ((i+(l.length - 1)+1) % l.length))).2<(zD1 u q d (at_ l ((i+(l.length - 1)+2) % l.length))).2
     rw [show i+(l.length - 1)+1=i+l.length by omega,show i+(l.length - 1)+2=i+1+l.length by omega,zD0,zD0,mB hi,hY,hY,hH0,hG0,hH1,hG1]
     have:=mA d0 hsq
     grind) k
   rw [show i+(l.length - 1)+1=i+l.length by omega,zD0,mB hi,mB hk,hY,hY,hH0,hG0] at this
   grind
  have m2: -d*(u.1*u.1+u.2*u.2)<=H k+ -d*G k:=by
   have e2: -d<=d:=by grind
   have hd0: -d≠0:=by grind
   have:=zLY (hap (-d) hd0 lU e2) (hdist' (-d) hd0 lU e2) (j:=i)
    (by
     show (zD1 u q (-d) (at_ l ((i+1) % l.length))).2<(zD1 u q (-d) (at_ l (i % l.length))).2
     rw [mB hi,hY,hY,hH0,hG0,hH1,hG1]
     have:=mA d0 hsq
     grind)
    (by
     show (zD1 u q (-d) (at_ l ((i+1) % l.length))).2<(zD1 u q (-d) (at_ l ((i+2) % l.length))).2
     rw [hY,hY]
     exact hlt _ _ (lt _) hi1 (by rw [hH1];exact hH2) (-d) lU e2) k
   rw [mB hk,hY,hY,hH1,hG1] at this
   grind
  show 0<crs (at_ l i) (at_ l ((i+1) % l.length)) (at_ l k)
  rw [hq,hr]
  show 0<H k
  apply lZ
  intro hn
  by_cases hneg:H k<0
  ·have:=hlt i k hi hk (by rw [hH0];exact hneg) d (by grind) lU
   rw [hH0,hG0] at this
   grind
  ·have hz:H k=0:=by grind
   rw [hz] at m1 m2
   have g0:0<=G k:=by
    apply lZ
    intro hx
    have:=mA d0 (show 0< -G k by grind)
    grind
   have g1:G k<=u.1*u.1+u.2*u.2:=by
    apply lZ
    intro hx
    have:=mA d0 (show 0<G k - (u.1*u.1+u.2*u.2) by grind)
    grind
   -- it lies on the edge
   have on:OnE q r (at_ l k):=by
    have e1:G k / (u.1*u.1+u.2*u.2)*(u.1*u.1+u.2*u.2)=G k:=mT (by grind)
    generalize G k / (u.1*u.1+u.2*u.2)=t at e1
    have t0:0<=t:=by
     apply lZ
     intro hx
     have:=mA (show 0< -t by grind) hsq
     grind
    have t1:t<=1:=by
     apply lZ
     intro hx
     have:=mA (show 0<t - 1 by grind) hsq
     grind
    refine ⟨t,t0,t1,zGA (e:=0) (q:=q) hu (mE ?_ ?_)⟩
    ·show G k=u.1*(q.1+(r.1 - q.1)*t - q.1)+u.2*(q.2+(r.2 - q.2)*t - q.2)
     rw [<-u1, <-u2, <-e1];grind
    ·rw [hY,hz]
     show _=(u.1*(q.2+(r.2 - q.2)*t - q.2) - u.2*(q.1+(r.1 - q.1)*t - q.1))+0*(u.1*(q.1+(r.1 - q.1)*t - q.1)+u.2*(q.2+(r.2 - q.2)*t - q.2))
     rw [<-u1, <-u2];grind
   -- and on an edge that is not next to it
   by_cases c:i=(k+1) % l.length
   ·-- k is the corner before: use the turn
    have:H k=H ((i+(l.length - 1)) % l.length):=by
     congr 1
     rcases mU (k+1) l.length with x|x
     ·rw [mB x] at c
      rw [show i+(l.length - 1)=k+l.length by omega,zD0,mB hk]
     ·rw [show k+1=l.length by omega,mQ] at c
      rw [show i+(l.length - 1)=k by omega,mB hk]
    grind
   ·refine h.apart i k hi hk (fun e=>hki e.symm) hki1 c (at_ l k) (by rw [hq,hr];exact on) ⟨0,by decide,by decide, ?_⟩
    exact mE (by simp only;grind) (by simp only;grind)
 refine ⟨h3,fun i k hi hk=> ?_,key⟩
 by_cases e1:k=i
 ·subst e1;unfold edg crs;grind
 ·by_cases e2:k=(i+1) % l.length
  ·rw [e2];unfold edg crs;grind
  ·exact lV (key i k hi hk e1 e2)
end Go.Proofs.Wd
