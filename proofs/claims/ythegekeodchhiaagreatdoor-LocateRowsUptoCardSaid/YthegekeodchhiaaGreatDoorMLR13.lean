/- prod.Mul; The walk of num.mul; The walk of sint.Mul; Integers as value and what it needs. -/
import Derived.Test.YthegekeodchhiaaGreatDoorMLR11
import Derived.Laws.EntriesVeiled
import Derived.Test.YthegekeodchhiaaGreatDoorMLR7
import Derived.Test.YthegekeodchhiaaGreatDoorMLR3
import Derived.Test.YthegekeodchhiaaGreatDoorMLR9
theorem kD {P:Prop} (h:P:=by kernel_rfl):P:=h
theorem oJ {P:Prop} (h:P:=by omega):P:=h
abbrev lF:=@Go.RowKit.Below.refl
abbrev lG:=@Array.getD_eq_getD_getElem?
abbrev lH:=@Go.wpOpIn_step
abbrev lI:=@Rat.intCast_mul
abbrev lJ:=@Nat.le_refl
abbrev lK:=@Nat.lt_of_lt_of_le
abbrev lL:=@Go.CallsIn.mono
abbrev lM:=@Go.callsIn_wide
abbrev lN:=@Nat.le_trans
abbrev lO:=@Int.le_refl
abbrev lP:=@Nat.le_of_lt
abbrev lQ:=@Nat.pow_pos
abbrev lR:=@Nat.pow_le_pow_right
abbrev lS:=@List.getElem?_eq_getElem
abbrev lT:=@Int.natAbs_natCast
abbrev lU:=@Nat.lt_of_le_of_lt
abbrev lV:=@Rat.intCast_neg
abbrev lW:=@Go.Oper.semAt_some
abbrev lX:=@Nat.mul_lt_mul_of_lt_of_le
abbrev lY:=@Int.natAbs_mul
abbrev lZ:=@Nat.eq_zero_or_pos
abbrev mA:=@Rat.mkRat_eq_div
abbrev mB:=@Rat.mul_le_mul_of_nonneg_right
abbrev mC:=@Int.ofNat_natAbs_of_nonneg
abbrev mD:=@Int.ofNat_natAbs_of_nonpos
abbrev mE:=@List.take_succ_eq_append_getElem
abbrev mF:=@List.getD_eq_getElem?_getD
abbrev mG:=@Rat.mul_lt_mul_of_pos_right
abbrev WX:=Go.World
namespace Go.Proofs.Wd
open Tryz
set_option maxRecDepth 100000
set_option maxHeartbeats 2000000
open Go.RowKit Lb
attribute [local go_sem] Oper.semAt_some qF yI
theorem zMp (A:Option Addr) (n c:Nat) (l:List Nat) (A':Option Addr) (n' c':Nat) (l':List Nat) (w:WX) (h:Rd w A n c l) (h':Rd w A' n' c' l') (ht:Lt l) (ht':Lt l') (hn:n<=40000) (hn':n'<=40000):
  Calls prog 100 #[.slice A n c, .slice A' n' c'] w (jH w (val l*val l')):=by
 have hmix:prog.follows .mixedOrders=true:=by kernel_rfl
 obtain ⟨W0,hW0⟩: ∃W0,w.alloc (Obj.cells #[zBP w.heap.size] 79)=W0:=⟨_,rfl⟩
 have bA:Below w.heap.size w W0:=hW0▸(lF _ w).alloc (lJ _) _
 have cA:W0.cell? ⟨w.heap.size,0,none⟩=some (zBP w.heap.size):=by
  rw [<-hW0]
  rw [World.cell?_alloc_new]
  rfl
 unfold zBP at hW0
 have hcl: ∀W,Below W0.heap.size W0 W->W.cell? ⟨w.heap.size,0,none⟩=some (zBP w.heap.size):=fun W hb=>(hb.cell (p:=⟨w.heap.size,0,none⟩) (z7 cA)).trans cA
 obtain ⟨mb,hmb⟩: ∃mb,w.heap.size=mb:=⟨_,rfl⟩
 go_enter func100,ntmps100
 go_wp2
 rw [hmb] at cA hcl hW0
 erw [hW0]
 refine (wpIn_wide (n:=0)).1 ?_
 refine yH 100 (fun W=>W.cell? ⟨mb,0,none⟩=some (.func (.func 119) #[] #[pO mb 0])) hmix ?_
 have b0:Below W0.heap.size W0 W0.drew:=(lF _ W0).drew
 have c0:=hcl _ b0
 unfold zBP at c0
 refine zW (i:=0) (v:= ?vv1) kD kD rfl kD kD kD (fun _ _ _ h=>h) c0 ⟨.inl ⟨rfl, ?yy1⟩,fun _=>rfl⟩ ?_
 case yy1=>
  rintro wx q1
  go_simp
  first|done|rfl
 refine zW (i:=1) (v:= ?vv2) kD kD rfl kD kD kD (fun _ _ _ h=>h) c0 ⟨.inl ⟨rfl, ?yy2⟩,fun _=>rfl⟩ ?_
 case yy2=>
  rintro wx q1
  go_simp
  first|done|rfl
 refine zW (i:=3) (v:= ?vv3) kD kD rfl kD kD kD (fun _ _ _ h=>h) c0 ⟨.inl ⟨rfl, ?yy3⟩,fun _=>rfl⟩ ?_
 case yy3=>
  rintro wx q1
  go_simp
  first|done|rfl
 have bw0:Below w.heap.size w W0.drew:=bA.drew
 have i1:=qY A n c l W0.drew (h.below bw0) ht oJ
 refine zAx (i:=2) kD rfl (fun K hK=> ?_)
 go_simp
 refine lL (lM.2 i1) ?_
 rintro e W1 ⟨A1,n1,c1,l1,rfl,hi1,hr1,hb1⟩
 have b1:=b0.trans (hb1.mono b0.size)
 have c1':=hcl _ b1
 unfold zBP at c1'
 refine hK _ _ (.inr c1') ?_
 clear hK K i1
 have bw1:=bw0.trans (hb1.mono bw0.size)
 have i2:=qY A' n' c' l' W1 (h'.below bw1) ht' oJ
 refine zAx (i:=4) kD rfl (fun K hK=> ?_)
 go_simp
 refine lL (lM.2 i2) ?_
 rintro e W2 ⟨A2,n2,c2,l2,rfl,hi2,hr2,hb2⟩
 have b2:=b1.trans (hb2.mono b1.size)
 have c2':=hcl _ b2
 have c2'':=c2'
 unfold zBP at c2'
 refine hK _ _ (.inr c2') ?_
 clear hK K i2
 have bw2:=bw1.trans (hb2.mono bw1.size)
 have hn1:n1<=40000:=by
  rw [<-hr1.len]
  exact lN (hi1.len (k:=n) (by have:=qT ht;rwa [h.len] at this)) hn
 have hn2:n2<=40000:=by
  rw [<-hr2.len]
  exact lN (hi2.len (k:=n') (by have:=qT ht';rwa [h'.len] at this)) hn'
 have i3:=zOZ 40000 oJ mb A1 n1 c1 l1 A2 n2 c2 l2 W2 (hr1.below hb2) hr2 hi1.lt hi2.lt hn1 hn2 c2''
 rw [hi1.val,hi2.val] at i3
 refine zAx (i:=5) kD rfl (fun K hK=> ?_)
 go_simp
 refine lL (lM.2 i3) ?_
 rintro e W3 ⟨A3,n3,c3,l3,rfl,hi3,hr3,hb3⟩
 have b3:=b2.trans (hb3.mono b2.size)
 have c3':=hcl _ b3
 unfold zBP at c3'
 refine hK _ _ (.inr c3') ?_
 clear hK K i3
 refine zAx (i:=6) kD rfl (fun K hK=> ?_)
 go_simp
 refine hK _ _ (.inr c3') ?_
 clear hK K
 refine zCj kD ?_
 have bw3:=bw2.trans (hb3.mono bw2.size)
 go_wp2
 all_goals
  go_ret
  exact ⟨A3,n3,c3,l3,rfl,hi3,hr3,bw3⟩
end Go.Proofs.Wd

namespace Go.Proofs.Wd
open Tryz
set_option maxRecDepth 100000
set_option maxHeartbeats 1000000
open Go.RowKit Lb
attribute [local go_sem] Oper.semAt_some qF yI
theorem zQA {v v':Int} {l:List Nat} (h:val l=v.natAbs*v'.natAbs):iv (!(decide (v<0)==decide (v'<0))) l=v*v':=by
 unfold iv
 rw [h]
 rcases Int.lt_or_le v 0 with h1|h1<;>rcases Int.lt_or_le v' 0 with h2|h2
 all_goals simp only [h1,h2,decide_true,decide_false,Int.not_lt.2 h1,Int.not_lt.2 h2,beq_self_eq_true,Bool.not_true,Bool.not_false,Bool.false_eq_true,if_true,if_false,Int.natCast_mul,show (true==false)=false from rfl,show (false==true)=false from rfl]
 all_goals first|rw [mC h1]|rw [mD (Int.le_of_lt h1)]
 all_goals first|rw [mC h2]|rw [mD (Int.le_of_lt h2)]
 all_goals simp [Int.neg_mul,Int.mul_neg]
theorem zRh (B B':Nat) (v v':Int) (k:Nat) (w:WX) (h:zAv w B v) (h':zAv w B' v') (hv:v.natAbs<BB^k) (hv':v'.natAbs<BB^k) (hk:k<=40000):
  Calls prog 66 #[pO B 0,pO B' 0] w fun e w'=>(∃u,e= .returned u)/\zAv w' B (v*v')/\w.grownBy w' (some B):=by
 obtain ⟨A,n,c,l,hb,hi,hr⟩:=h
 obtain ⟨A',n',c',l',hb',hi',hr'⟩:=h'
 have hn:n<=k:=by rw [<-hr.len];exact hi.len hv
 have hn':n'<=k:=by rw [<-hr'.len];exact hi'.len hv'
 have hmix:prog.follows .mixedOrders=true:=by kernel_rfl
 have cf: ∀W,Below w.heap.size w W->(W.cell? ⟨B,0,none⟩=some (.bool (decide (v<0)))/\W.cell? ⟨B,1,none⟩=some (.slice A n c))/\W.cell? ⟨B',0,none⟩=some (.bool (decide (v'<0)))/\W.cell? ⟨B',1,none⟩=some (.slice A' n' c'):=fun W hb1=>⟨(hb.kept hb1).facts2.1,(hb'.kept hb1).facts2.1⟩
 go_enter func66,ntmps66
 go_wp2
 refine (wpIn_wide (n:=0)).1 ?_
 refine yH 31 (fun _=>True) hmix ?_
 refine zW (i:=1) (v:= ?vv1) kD kD rfl kD kD kD (fun _ _ _ h=>h) trivial ⟨.inl ⟨rfl, ?yy1⟩,fun _=>rfl⟩ ?_
 case yy1=>
  rintro wx _
  go_simp
  first|done|rfl
 refine zGD (k:=24) (fun _=>false) (fun iz vz Wz=>match iz with
  |0=>vz= pO B 0
  |1=>vz= pO B 0
  |2=>vz= pO B 0
  |3=>vz= pO B 0
  |4=>vz= pO B 0
  |5=>vz= pO B 0
  |6=>vz= .bool (decide (v<0))
  |7=>vz= pO B' 0
  |8=>vz= pO B' 0
  |9=>vz= pO B' 0
  |10=>vz= pO B' 0
  |11=>vz= .bool (decide (v'<0))
  |12=>vz= .bool (!(decide (v<0)==decide (v'<0)))
  |13=>vz= pO B 0
  |14=>vz= pO B 0
  |15=>vz= pO B 0
  |16=>vz= pO B 1
  |17=>vz= .slice A n c
  |18=>vz= pO B' 0
  |19=>vz= pO B' 0
  |20=>vz= pO B' 0
  |21=>vz= pO B' 1
  |22=>vz= .slice A' n' c'
  |23=>y7 Wz vz (v.natAbs*v'.natAbs)
  |_=>True) (fun W=>Below w.heap.size w W) kD kD kD kD kD kD kD kD kD (fun _ _ h hb=>h.trans (hb.mono h.size)) ?stab ((lF _ w).drew) ?spec ?fin
 case stab=>
  intro iz vz Wz Wy h hb
  split at h<;>first|exact h|exact y7.below h hb|trivial
 case spec=>
  refine yP ?_ ?h23
  refine yP ?_ ?h22
  refine yP ?_ ?h21
  refine yP ?_ ?h20
  refine yP ?_ ?h19
  refine yP ?_ ?h18
  refine yP ?_ ?h17
  refine yP ?_ ?h16
  refine yP ?_ ?h15
  refine yP ?_ ?h14
  refine yP ?_ ?h13
  refine yP ?_ ?h12
  refine yP ?_ ?h11
  refine yP ?_ ?h10
  refine yP ?_ ?h9
  refine yP ?_ ?h8
  refine yP ?_ ?h7
  refine yP ?_ ?h6
  refine yP ?_ ?h5
  refine yP ?_ ?h4
  refine yP ?_ ?h3
  refine yP ?_ ?h2
  refine yP ?_ ?h1
  refine yP ?_ ?h0
  exact fun i h _=>absurd h (Nat.not_lt_zero i)
  case h0=>
   intro _ o hi b5 W5 hf K hK
   cases hi
   have k0:b5.tmps[0]?.getD undef= (pO B 0):=(lG ..).symm.trans ((hf.at_.keep 0 kD).trans kD)
   refine lH rfl (fun K' hK'=> ?_)
   go_simp
   exact hK' _ _ (hK _ _ rfl (lF _ _) (fun h=>by cases h))
  case h1=>
   intro h
   exact absurd h (by decide)
  case h2=>
   intro _ o hi b5 W5 hf K hK
   cases hi
   have k0:b5.tmps[0]?.getD undef= (pO B 0):=(lG ..).symm.trans ((hf.at_.keep 0 kD).trans kD)
   refine lH rfl (fun K' hK'=> ?_)
   go_simp
   exact hK' _ _ (hK _ _ rfl (lF _ _) (fun h=>by cases h))
  case h3=>
   intro _ o hi b5 W5 hf K hK
   cases hi
   have k6:b5.tmps[6]?.getD undef= (pO B 0):=(lG ..).symm.trans (hf.at_.vals 2 _ 6 ⟨by decide,⟨2, .data⟩,by simp,by kernel_rfl,rfl⟩ rfl rfl)
   refine lH rfl (fun K' hK'=> ?_)
   go_simp
   exact hK' _ _ (hK _ _ rfl (lF _ _) (fun h=>by cases h))
  case h4=>
   intro _ o hi b5 W5 hf K hK
   cases hi
   have k7:b5.tmps[7]?.getD undef= (pO B 0):=(lG ..).symm.trans (hf.at_.vals 3 _ 7 ⟨by decide,⟨3, .data⟩,by simp,by kernel_rfl,rfl⟩ rfl rfl)
   refine lH rfl (fun K' hK'=> ?_)
   go_simp
   exact hK' _ _ (hK _ _ rfl (lF _ _) (fun h=>by cases h))
  case h5=>
   intro _ o hi b5 W5 hf K hK
   cases hi
   have k8:b5.tmps[8]?.getD undef= (pO B 0):=(lG ..).symm.trans (hf.at_.vals 4 _ 8 ⟨by decide,⟨4, .data⟩,by simp,by kernel_rfl,rfl⟩ rfl rfl)
   refine lH rfl (fun K' hK'=> ?_)
   go_simp
   exact hK' _ _ (hK _ _ rfl (lF _ _) (fun h=>by cases h))
  case h6=>
   intro _ o hi b5 W5 hf K hK
   cases hi
   have k9:b5.tmps[9]?.getD undef= (pO B 0):=(lG ..).symm.trans (hf.at_.vals 5 _ 9 ⟨by decide,⟨5, .data⟩,by simp,by kernel_rfl,rfl⟩ rfl rfl)
   obtain ⟨⟨q1,q2⟩,q3,q4⟩:=cf W5 hf.at_.cls
   refine lH rfl (fun K' hK'=> ?_)
   go_simp
   exact hK' _ _ (hK _ _ rfl (lF _ _) (fun h=>by cases h))
  case h7=>
   intro _ o hi b5 W5 hf K hK
   cases hi
   have k1:b5.tmps[1]?.getD undef= (pO B' 0):=(lG ..).symm.trans ((hf.at_.keep 1 kD).trans kD)
   refine lH rfl (fun K' hK'=> ?_)
   go_simp
   exact hK' _ _ (hK _ _ rfl (lF _ _) (fun h=>by cases h))
  case h8=>
   intro _ o hi b5 W5 hf K hK
   cases hi
   have k11:b5.tmps[11]?.getD undef= (pO B' 0):=(lG ..).symm.trans (hf.at_.vals 7 _ 11 ⟨by decide,⟨7, .data⟩,by simp,by kernel_rfl,rfl⟩ rfl rfl)
   refine lH rfl (fun K' hK'=> ?_)
   go_simp
   exact hK' _ _ (hK _ _ rfl (lF _ _) (fun h=>by cases h))
  case h9=>
   intro _ o hi b5 W5 hf K hK
   cases hi
   have k12:b5.tmps[12]?.getD undef= (pO B' 0):=(lG ..).symm.trans (hf.at_.vals 8 _ 12 ⟨by decide,⟨8, .data⟩,by simp,by kernel_rfl,rfl⟩ rfl rfl)
   refine lH rfl (fun K' hK'=> ?_)
   go_simp
   exact hK' _ _ (hK _ _ rfl (lF _ _) (fun h=>by cases h))
  case h10=>
   intro _ o hi b5 W5 hf K hK
   cases hi
   have k13:b5.tmps[13]?.getD undef= (pO B' 0):=(lG ..).symm.trans (hf.at_.vals 9 _ 13 ⟨by decide,⟨9, .data⟩,by simp,by kernel_rfl,rfl⟩ rfl rfl)
   refine lH rfl (fun K' hK'=> ?_)
   go_simp
   exact hK' _ _ (hK _ _ rfl (lF _ _) (fun h=>by cases h))
  case h11=>
   intro _ o hi b5 W5 hf K hK
   cases hi
   have k14:b5.tmps[14]?.getD undef= (pO B' 0):=(lG ..).symm.trans (hf.at_.vals 10 _ 14 ⟨by decide,⟨10, .data⟩,by simp,by kernel_rfl,rfl⟩ rfl rfl)
   obtain ⟨⟨q1,q2⟩,q3,q4⟩:=cf W5 hf.at_.cls
   refine lH rfl (fun K' hK'=> ?_)
   go_simp
   exact hK' _ _ (hK _ _ rfl (lF _ _) (fun h=>by cases h))
  case h12=>
   intro _ o hi b5 W5 hf K hK
   cases hi
   have k10:b5.tmps[10]?.getD undef= .bool (decide (v<0)):=(lG ..).symm.trans (hf.at_.vals 6 _ 10 ⟨by decide,⟨6, .data⟩,by simp,by kernel_rfl,rfl⟩ rfl rfl)
   have k15:b5.tmps[15]?.getD undef= .bool (decide (v'<0)):=(lG ..).symm.trans (hf.at_.vals 11 _ 15 ⟨by decide,⟨11, .data⟩,by simp,by kernel_rfl,rfl⟩ rfl rfl)
   refine lH rfl (fun K' hK'=> ?_)
   go_simp
   exact hK' _ _ (hK _ _ rfl (lF _ _) (fun h=>by cases h))
  case h13=>
   intro _ o hi b5 W5 hf K hK
   cases hi
   have k0:b5.tmps[0]?.getD undef= (pO B 0):=(lG ..).symm.trans ((hf.at_.keep 0 kD).trans kD)
   refine lH rfl (fun K' hK'=> ?_)
   go_simp
   exact hK' _ _ (hK _ _ rfl (lF _ _) (fun h=>by cases h))
  case h14=>
   intro _ o hi b5 W5 hf K hK
   cases hi
   have k17:b5.tmps[17]?.getD undef= (pO B 0):=(lG ..).symm.trans (hf.at_.vals 13 _ 17 ⟨by decide,⟨13, .data⟩,by simp,by kernel_rfl,rfl⟩ rfl rfl)
   refine lH rfl (fun K' hK'=> ?_)
   go_simp
   exact hK' _ _ (hK _ _ rfl (lF _ _) (fun h=>by cases h))
  case h15=>
   intro _ o hi b5 W5 hf K hK
   cases hi
   have k18:b5.tmps[18]?.getD undef= (pO B 0):=(lG ..).symm.trans (hf.at_.vals 14 _ 18 ⟨by decide,⟨14, .data⟩,by simp,by kernel_rfl,rfl⟩ rfl rfl)
   refine lH rfl (fun K' hK'=> ?_)
   go_simp
   exact hK' _ _ (hK _ _ rfl (lF _ _) (fun h=>by cases h))
  case h16=>
   intro _ o hi b5 W5 hf K hK
   cases hi
   have k19:b5.tmps[19]?.getD undef= (pO B 0):=(lG ..).symm.trans (hf.at_.vals 15 _ 19 ⟨by decide,⟨15, .data⟩,by simp,by kernel_rfl,rfl⟩ rfl rfl)
   refine lH rfl (fun K' hK'=> ?_)
   go_simp
   exact hK' _ _ (hK _ _ rfl (lF _ _) (fun h=>by cases h))
  case h17=>
   intro _ o hi b5 W5 hf K hK
   cases hi
   have k20:b5.tmps[20]?.getD undef= (pO B 1):=(lG ..).symm.trans (hf.at_.vals 16 _ 20 ⟨by decide,⟨16, .data⟩,by simp,by kernel_rfl,rfl⟩ rfl rfl)
   obtain ⟨⟨q1,q2⟩,q3,q4⟩:=cf W5 hf.at_.cls
   refine lH rfl (fun K' hK'=> ?_)
   go_simp
   exact hK' _ _ (hK _ _ rfl (lF _ _) (fun h=>by cases h))
  case h18=>
   intro _ o hi b5 W5 hf K hK
   cases hi
   have k1:b5.tmps[1]?.getD undef= (pO B' 0):=(lG ..).symm.trans ((hf.at_.keep 1 kD).trans kD)
   refine lH rfl (fun K' hK'=> ?_)
   go_simp
   exact hK' _ _ (hK _ _ rfl (lF _ _) (fun h=>by cases h))
  case h19=>
   intro _ o hi b5 W5 hf K hK
   cases hi
   have k22:b5.tmps[22]?.getD undef= (pO B' 0):=(lG ..).symm.trans (hf.at_.vals 18 _ 22 ⟨by decide,⟨18, .data⟩,by simp,by kernel_rfl,rfl⟩ rfl rfl)
   refine lH rfl (fun K' hK'=> ?_)
   go_simp
   exact hK' _ _ (hK _ _ rfl (lF _ _) (fun h=>by cases h))
  case h20=>
   intro _ o hi b5 W5 hf K hK
   cases hi
   have k23:b5.tmps[23]?.getD undef= (pO B' 0):=(lG ..).symm.trans (hf.at_.vals 19 _ 23 ⟨by decide,⟨19, .data⟩,by simp,by kernel_rfl,rfl⟩ rfl rfl)
   refine lH rfl (fun K' hK'=> ?_)
   go_simp
   exact hK' _ _ (hK _ _ rfl (lF _ _) (fun h=>by cases h))
  case h21=>
   intro _ o hi b5 W5 hf K hK
   cases hi
   have k24:b5.tmps[24]?.getD undef= (pO B' 0):=(lG ..).symm.trans (hf.at_.vals 20 _ 24 ⟨by decide,⟨20, .data⟩,by simp,by kernel_rfl,rfl⟩ rfl rfl)
   refine lH rfl (fun K' hK'=> ?_)
   go_simp
   exact hK' _ _ (hK _ _ rfl (lF _ _) (fun h=>by cases h))
  case h22=>
   intro _ o hi b5 W5 hf K hK
   cases hi
   have k25:b5.tmps[25]?.getD undef= (pO B' 1):=(lG ..).symm.trans (hf.at_.vals 21 _ 25 ⟨by decide,⟨21, .data⟩,by simp,by kernel_rfl,rfl⟩ rfl rfl)
   obtain ⟨⟨q1,q2⟩,q3,q4⟩:=cf W5 hf.at_.cls
   refine lH rfl (fun K' hK'=> ?_)
   go_simp
   exact hK' _ _ (hK _ _ rfl (lF _ _) (fun h=>by cases h))
  case h23=>
   intro _ o hi b5 W5 hf K hK
   cases hi
   have k21:b5.tmps[21]?.getD undef= .slice A n c:=(lG ..).symm.trans (hf.at_.vals 17 _ 21 ⟨by decide,⟨17, .data⟩,by simp,by kernel_rfl,rfl⟩ rfl rfl)
   have k26:b5.tmps[26]?.getD undef= .slice A' n' c':=(lG ..).symm.trans (hf.at_.vals 22 _ 26 ⟨by decide,⟨22, .data⟩,by simp,by kernel_rfl,rfl⟩ rfl rfl)
   refine lH rfl (fun K' hK'=> ?_)
   go_simp
   have hm:=zMp A n c l A' n' c' l' W5 (hr.below hf.at_.cls) (hr'.below hf.at_.cls) hi.lt hi'.lt oJ oJ
   rw [hi.val,hi'.val] at hm
   refine lL (lM.2 hm) ?_
   rintro e W' ⟨A7,n7,c7,l7,rfl,hi7,hr7,hb7⟩
   exact hK' _ _ (hK _ _ ⟨A7,n7,c7,l7,rfl,hi7,hr7⟩ hb7 (fun h=>by cases h))
 case fin=>
  intro b5 W5 hf
  have e4:b5.tmps.getD 4 undef= (pO B 0):=hf.at_.vals 0 _ 4 ⟨by decide,by decide⟩ rfl rfl
  have e6:b5.tmps.getD 6 undef= (pO B 0):=hf.at_.vals 2 _ 6 ⟨by decide,by decide⟩ rfl rfl
  have e7:b5.tmps.getD 7 undef= (pO B 0):=hf.at_.vals 3 _ 7 ⟨by decide,by decide⟩ rfl rfl
  have e8:b5.tmps.getD 8 undef= (pO B 0):=hf.at_.vals 4 _ 8 ⟨by decide,by decide⟩ rfl rfl
  have e9:b5.tmps.getD 9 undef= (pO B 0):=hf.at_.vals 5 _ 9 ⟨by decide,by decide⟩ rfl rfl
  have e10:b5.tmps.getD 10 undef= .bool (decide (v<0)):=hf.at_.vals 6 _ 10 ⟨by decide,by decide⟩ rfl rfl
  have e11:b5.tmps.getD 11 undef= (pO B' 0):=hf.at_.vals 7 _ 11 ⟨by decide,by decide⟩ rfl rfl
  have e12:b5.tmps.getD 12 undef= (pO B' 0):=hf.at_.vals 8 _ 12 ⟨by decide,by decide⟩ rfl rfl
  have e13:b5.tmps.getD 13 undef= (pO B' 0):=hf.at_.vals 9 _ 13 ⟨by decide,by decide⟩ rfl rfl
  have e14:b5.tmps.getD 14 undef= (pO B' 0):=hf.at_.vals 10 _ 14 ⟨by decide,by decide⟩ rfl rfl
  have e15:b5.tmps.getD 15 undef= .bool (decide (v'<0)):=hf.at_.vals 11 _ 15 ⟨by decide,by decide⟩ rfl rfl
  have e16:b5.tmps.getD 16 undef= .bool (!(decide (v<0)==decide (v'<0))):=hf.at_.vals 12 _ 16 ⟨by decide,by decide⟩ rfl rfl
  have e17:b5.tmps.getD 17 undef= (pO B 0):=hf.at_.vals 13 _ 17 ⟨by decide,by decide⟩ rfl rfl
  have e18:b5.tmps.getD 18 undef= (pO B 0):=hf.at_.vals 14 _ 18 ⟨by decide,by decide⟩ rfl rfl
  have e19:b5.tmps.getD 19 undef= (pO B 0):=hf.at_.vals 15 _ 19 ⟨by decide,by decide⟩ rfl rfl
  have e20:b5.tmps.getD 20 undef= (pO B 1):=hf.at_.vals 16 _ 20 ⟨by decide,by decide⟩ rfl rfl
  have e21:b5.tmps.getD 21 undef= .slice A n c:=hf.at_.vals 17 _ 21 ⟨by decide,by decide⟩ rfl rfl
  have e22:b5.tmps.getD 22 undef= (pO B' 0):=hf.at_.vals 18 _ 22 ⟨by decide,by decide⟩ rfl rfl
  have e23:b5.tmps.getD 23 undef= (pO B' 0):=hf.at_.vals 19 _ 23 ⟨by decide,by decide⟩ rfl rfl
  have e24:b5.tmps.getD 24 undef= (pO B' 0):=hf.at_.vals 20 _ 24 ⟨by decide,by decide⟩ rfl rfl
  have e25:b5.tmps.getD 25 undef= (pO B' 1):=hf.at_.vals 21 _ 25 ⟨by decide,by decide⟩ rfl rfl
  have e26:b5.tmps.getD 26 undef= .slice A' n' c':=hf.at_.vals 22 _ 26 ⟨by decide,by decide⟩ rfl rfl
  have v27:=hf.at_.vals 23 _ 27 ⟨by decide,by decide⟩ rfl rfl
  have hE:=zJU [4,6,7,8,9,10,11,12,13,14,15,16,17,18,19,20,21,22,23,24,25,26,27,28,29,30,31,32,33] hf.at_.size (fun t ht5=>hf.at_.keep t (zRi (by rw [show zM6 _ _= [4,6,7,8,9,10,11,12,13,14,15,16,17,18,19,20,21,22,23,24,25,26,27,28,29,30,31,32,33] from by kernel_rfl];exact ht5)))
  have hcl5:=hf.at_.cls
  obtain ⟨tm,df⟩:=b5
  obtain rfl:df=_:=hf.at_.defers
  clear hf
  simp only [List.foldl_cons,List.foldl_nil] at hE
  rw [show tm.getD 4 undef=_ from e4] at hE;clear e4
  rw [show tm.getD 6 undef=_ from e6] at hE;clear e6
  rw [show tm.getD 7 undef=_ from e7] at hE;clear e7
  rw [show tm.getD 8 undef=_ from e8] at hE;clear e8
  rw [show tm.getD 9 undef=_ from e9] at hE;clear e9
  rw [show tm.getD 10 undef=_ from e10] at hE;clear e10
  rw [show tm.getD 11 undef=_ from e11] at hE;clear e11
  rw [show tm.getD 12 undef=_ from e12] at hE;clear e12
  rw [show tm.getD 13 undef=_ from e13] at hE;clear e13
  rw [show tm.getD 14 undef=_ from e14] at hE;clear e14
  rw [show tm.getD 15 undef=_ from e15] at hE;clear e15
  rw [show tm.getD 16 undef=_ from e16] at hE;clear e16
  rw [show tm.getD 17 undef=_ from e17] at hE;clear e17
  rw [show tm.getD 18 undef=_ from e18] at hE;clear e18
  rw [show tm.getD 19 undef=_ from e19] at hE;clear e19
  rw [show tm.getD 20 undef=_ from e20] at hE;clear e20
  rw [show tm.getD 21 undef=_ from e21] at hE;clear e21
  rw [show tm.getD 22 undef=_ from e22] at hE;clear e22
  rw [show tm.getD 23 undef=_ from e23] at hE;clear e23
  rw [show tm.getD 24 undef=_ from e24] at hE;clear e24
  rw [show tm.getD 25 undef=_ from e25] at hE;clear e25
  rw [show tm.getD 26 undef=_ from e26] at hE;clear e26
  obtain ⟨x27,hx27⟩: ∃x,tm.getD 27 undef=x:=⟨_,rfl⟩;rw [hx27] at hE;rw [show tm.getD 27 undef=_ from hx27] at v27;clear hx27
  obtain ⟨u28,hu28⟩: ∃x,tm.getD 28 undef=x:=⟨_,rfl⟩;rw [hu28] at hE;clear hu28
  obtain ⟨u29,hu29⟩: ∃x,tm.getD 29 undef=x:=⟨_,rfl⟩;rw [hu29] at hE;clear hu29
  obtain ⟨u30,hu30⟩: ∃x,tm.getD 30 undef=x:=⟨_,rfl⟩;rw [hu30] at hE;clear hu30
  obtain ⟨u31,hu31⟩: ∃x,tm.getD 31 undef=x:=⟨_,rfl⟩;rw [hu31] at hE;clear hu31
  obtain ⟨u32,hu32⟩: ∃x,tm.getD 32 undef=x:=⟨_,rfl⟩;rw [hu32] at hE;clear hu32
  obtain ⟨u33,hu33⟩: ∃x,tm.getD 33 undef=x:=⟨_,rfl⟩;rw [hu33] at hE;clear hu33
  rewrite [hE]
  clear hE
  obtain ⟨A2,n2,c2,l2,rfl,hi2,hr2⟩:=v27
  have hb3:=hb.kept hcl5
  obtain ⟨⟨m0,m1⟩,m2,m3⟩:=hb3.facts2
  go_simp
  refine zAx (i:=24) kD rfl (fun K hK=> ?_)
  go_simp
  refine hK _ _ (.inr trivial) ?_
  clear hK K
  refine zAx (i:=25) kD rfl (fun K hK=> ?_)
  go_simp
  refine hK _ _ (.inr trivial) ?_
  clear hK K
  refine zAx (i:=26) kD rfl (fun K hK=> ?_)
  go_simp
  refine hK _ _ (.inr trivial) ?_
  clear hK K
  refine zAx (i:=27) kD rfl (fun K hK=> ?_)
  go_simp
  refine hK _ _ (.inr trivial) ?_
  clear hK K
  have hb4:=hb3.set 0 (.bool (!(decide (v<0)==decide (v'<0))))
  obtain ⟨⟨m0,m1⟩,m2,m3⟩:=hb4.facts2
  refine zAx (i:=28) kD rfl (fun K hK=> ?_)
  go_simp
  refine hK _ _ (.inr trivial) ?_
  clear hK K
  refine zAx (i:=29) kD rfl (fun K hK=> ?_)
  go_simp
  refine hK _ _ (.inr trivial) ?_
  clear hK K
  refine zAx (i:=30) kD rfl (fun K hK=> ?_)
  go_simp
  refine hK _ _ (.inr trivial) ?_
  clear hK K
  refine zAx (i:=31) kD rfl (fun K hK=> ?_)
  go_simp
  refine hK _ _ (.inr trivial) ?_
  clear hK K
  refine zCj kD ?_
  have hv2:iv (!(decide (v<0)==decide (v'<0))) l2=v*v':=zQA hi2.val
  have hn2:n2<=80000:=by rw [<-hr2.len];exact lN (hi2.len (k:=k+k) (by rw [Nat.pow_add];exact lX hv (lP hv') (lQ y4))) oJ
  go_wp2_with (go_at_call 97;refine (zDI B _ A2 n2 c2 l2 _ (hb4.set 1 _) ((hr2.setN hb3 (i:=0) rfl (fun _=>by simp) _).setN hb4 (i:=1) rfl (fun _=>by simp) _) hi2.lt oJ).mono ?_;rintro e w4 ⟨rfl,hn4,hg4⟩)
  refine bodyPost_end (results_none rfl _ _ _) rfl ?_
  refine ⟨⟨_,rfl⟩, ?_, ?_⟩
  ·rw [hv2] at hn4;exact hn4
  ·exact ((zBX hcl5).but (some B)).trans ((qC W5 ⟨B,0,none⟩ _).trans ((qC _ ⟨B,1,none⟩ _).trans hg4))
end Go.Proofs.Wd

namespace Go.Proofs.Wd
open Tryz
set_option maxRecDepth 100000
set_option maxHeartbeats 1000000
open Go.RowKit Lb
attribute [local go_sem] Oper.semAt_some qF yI
theorem zSH (w:WX):Calls prog 64 #[.int .i64 1] w fun e w'=> ∃A n c l,e= .returned (.agg #[.bool false, .slice A n c])/\Is l 1/\Rd w' A n c l/\n<=1/\Below w.heap.size w w':=
 (zI6 1 oJ oJ w).mono fun e w' ⟨A,n,c,l,h1,h2,h3,h4⟩=>⟨A,n,c,l,h1,h2,h3,by rw [<-h3.len];exact h2.len (k:=1) (by decide),h4⟩
def zTG (w:WX) (B0 P:Nat) (is:List (Bool×List Nat)) (k:Nat) (W:WX):Prop:=
 zAv W B0 (zBV is k)/\Boxed W P 113 (pO B0 0)/\q7 W w.heap.size 25 #[.bool false, .slice none 0 0]/\Below w.heap.size w W/\P+2<=W.heap.size
theorem zGY (w:WX) (B0 P:Nat) (is:List (Bool×List Nat)) {C:Nat} (hC:w.heap.size<=C):OwnFrom C (zTG w B0 P is):=by
 rintro k W W' row ⟨h1,h2,h3,h4,h5⟩ hg hr
 exact ⟨h1.abide hg hr,qP h2 hg hr,h3.abide hg hr,zAm h4 hg (lJ _) hC hr,lN h5 hg.size⟩
theorem zNU (A:Option Addr) (n c:Nat) (is:List (Bool×List Nat)) (M:Nat) (w:WX) (h:IRd w A n is) (hn:n<=c) (hc:c<=9223372036854775807) (hM:M<=40000) (hv: ∀k,(zEd is k).natAbs<BB^M) (hp: ∀k,k<=n->(zBV is k).natAbs<BB^M) (hnn:n<=1000000:=by first|omega|decide):
  Calls prog 36 #[.slice A n c] w (qS w (zBV is n)):=by
 refine q6 func36 rfl ?_
 simp only [ntmps36,List.size_toArray,List.length_cons,List.length_nil,Nat.reduceAdd,Nat.reduceSub,Array.replicate_succ,Array.replicate_zero,List.push_toArray,List.append_toArray,List.nil_append,List.cons_append]
 go_wp2_with (first|(go_at_call 64;refine (zSH _).mono ?_;rintro e w1 ⟨A1,n1,c1,l1,rfl,hi1,hr1,hn1,hb1⟩)|(go_at_call 63;refine (zEY false A1 n1 c1 l1 _ hr1 hi1.lt oJ).mono ?_;rintro e w2 ⟨B0,rfl,hB0,hn0,hb0⟩)|(go_at_call 65;refine (zNj A n c _).mono ?_;rintro e w3 ⟨rfl,rfl⟩))
 have hiv0:iv false l1=1:=by unfold iv;rw [hi1.val];rfl
 rw [hiv0] at hn0
 obtain ⟨W0,hW0⟩: ∃W0,((w2.alloc (.cells #[pO B0 0] 113)).alloc (.cells #[.slice A n c] 78))=W0:=⟨_,rfl⟩
 have hsz:W0.heap.size=w2.heap.size+2:=by rw [<-hW0];simp
 have hB0l:=hn0.lt
 have hbw1:Below w.heap.size w w1:=((lF _ w).alloc (lJ _) _).trans (hb1.mono (by simp))
 have hsz1:w.heap.size<w1.heap.size:=lK (by simp) hb1.size
 have hB0g:w.heap.size<B0:=lK hsz1 hB0
 have hbw2:Below w.heap.size w w2:=hbw1.trans (hb0.mono hbw1.size)
 have hB1:Below w.heap.size w W0:=by rw [<-hW0];exact (hbw2.alloc hbw2.size _).alloc (by simp;exact Nat.le_succ_of_le hbw2.size) _
 have x0:zAv W0 B0 1:=by rw [<-hW0];exact hn0.kept (((lF _ w2).alloc (lJ _) _).alloc (by simp) _)
 have x1:Boxed W0 w2.heap.size 113 (pO B0 0):=by rw [<-hW0];exact (Boxed.new w2 _ _).alloc _
 have x2:Boxed W0 (w2.heap.size+1) 78 (.slice A n c):=by rw [<-hW0];exact zAt _ _ _ (by simp)
 have x3:q7 W0 w.heap.size 25 #[.bool false, .slice none 0 0]:=by rw [<-hW0];exact (((zKq hb1 rfl).kept hb0).alloc _).alloc _
 rw [hW0]
 clear hW0
 have hSb: ∀b,(b<w.heap.size∨b=w2.heap.size+1)->b<W0.heap.size:=fun b hb=>by have:=hbw2.size;omega
 refine zBQ (gf:=99) rfl (enters_of func99 kD rfl) (zH1 A n c is (w2.heap.size+1) w W0 h hB1 hn hc x2.cell (S:=fun b=>b<w.heap.size∨b=w2.heap.size+1) hSb (.inr rfl) (fun b hb=> .inl hb)) ?hE ?hps zFt.trans (zGv hSb)
  (zTG w B0 w2.heap.size is) (zGY w B0 _ is hB1.size) (zBM (zGY w B0 _ is (lJ _))) wS (fun _ _ _ _ _ _ _ _=>trivial) ⟨x0,x1,x3,hB1,Nat.le_of_eq hsz.symm⟩
  (fun _ xs=>{ tmps:=#[.slice A n c,undef,pO w.heap.size 0,pO w2.heap.size 0,xs.getD 0 undef, .agg #[.bool false, .slice A1 n1 c1],pO B0 0, .slice A n c, .func (.func 99) #[] #[.pointer (some ⟨w2.heap.size+1,0,none⟩)],xs.getD 0 undef,undef,undef,undef,undef,undef,undef,undef],defers:= [] }) ?assign ?body ?done
 case hE=>
  rintro k xs W l o o' ⟨B,rfl,h1,h2⟩ ho hc
  exact ⟨B,rfl,h1,h2.abide (C:=0) (grownBy_putObj' W l o') (fun r e=>by cases e;exact ⟨Nat.zero_le _,o,ho,hc⟩)⟩
 case hps=>
  rintro k xs W ⟨B,rfl,_⟩
  rfl
 case assign=>
  rintro lp k xs W K ⟨B,rfl,h1,h2⟩ hK
  gi_wp2
  exact hK
 case body=>
  rintro lp k xs W hk ⟨h1,h2,h3,h4,h5⟩ ⟨B,rfl,hB,hnb⟩
  have hc2:=h2.cell
  have hne:B≠B0:=by omega
  have hkm:k<=1000000:=by omega
  have hbd:=hp k (lP hk)
  have hbd2:=hv k
  gi_wp2_with (gi_at_call 66;refine lL (lM.2 (zRh B0 B _ _ M W h1 hnb hbd hbd2 hM)) ?_;rintro e w3 ⟨⟨u,rfl⟩,hn3,hg3⟩)
  have hbx: ∃vs t,q7 W B0 t vs:=by obtain ⟨_,_,_,_,g,_⟩:=h1;exact ⟨_,_,g⟩
  obtain ⟨vs,t,g⟩:=hbx
  refine ⟨(KeepsOthers.of_grownBy hg3 (fun j o e ho=>by cases e;rw [show W.heap[B0]?=_ from g] at ho;cases ho;rfl)).from _,⟨(y9.refl _ _).grown hg3 (fun b hb=>⟨by have:=hSb b hb;omega,fun e=>by cases e;omega⟩),hg3.size⟩,hn3,h2.kept hg3 (fun e=>by cases e;omega),(hg3.block _ h3.lt (fun e=>by cases e;omega)).trans h3,zAO h4 hg3 h4.size oJ,lN h5 hg3.size⟩
 case done=>
  rintro D W hD ⟨h1,h2,h3,h4,h5⟩ _ hd
  obtain ⟨A2,n2,c2,l2,⟨g0,g1⟩,hi2,hr2⟩:=h1.parts
  have hc2:=h2.cell
  obtain ⟨⟨q0,q1⟩,q2,q3⟩:=h3.facts2
  go_wp2
  have hb5:=(h3.set 0 (.bool (decide (zBV is n<0)))).set 1 (.slice A2 n2 c2)
  have hM:Marks w.heap.size ((W.setCell ⟨w.heap.size,0,none⟩ (.bool (decide (zBV is n<0)))).setCell ⟨w.heap.size,1,none⟩ (.slice A2 n2 c2)) [mark D] [D]:=((Marks.nil w.heap.size W).more (D:=D) (by simp) (by have:=hB1.size;omega) hd).others ((KeepsOthers.setCell _ _ _).trans (KeepsOthers.setCell _ _ _))
  obtain ⟨A3,n3,c3,l3,e3,hi3,hr3,hb3⟩:=zG9 h3 h4 (lJ _) hi2 hr2
  cases e3
  refine qJ _ (v:= .agg #[.bool (decide (zBV is n<0)), .slice A2 n2 c2]) (fun w' ho'=> ?_) [D] _ _ hM (Oth.refl _ _) ?_
  ·obtain ⟨⟨c0,c1⟩,_,_⟩:=(hb5.oth ho').facts2
   simp [results,results36,go_sem,c0,c1]
  ·intro w' ho
   exact ⟨A2,n2,c2,l3,rfl,hi3,hr3.oth ho,zAl hb3 ho (lJ _)⟩
def Bd (k:Int) (m:Nat):Prop:=k.natAbs<BB^m
theorem Bd.mono {k:Int} {m m':Nat} (h:Bd k m) (hm:m<=m'):Bd k m':=lK h (lR y4 hm)
theorem Bd.add {a b:Int} {m:Nat} (h:Bd a m) (h':Bd b m):Bd (a+b) (m+1):=by
 unfold Bd at*
 rw [Nat.pow_succ]
 unfold BB at*
 omega
theorem Bd.neg {a:Int} {m:Nat} (h:Bd a m):Bd (-a) m:=by
 unfold Bd at*
 rwa [Int.natAbs_neg]
theorem Bd.sub {a b:Int} {m:Nat} (h:Bd a m) (h':Bd b m):Bd (a - b) (m+1):=by
 rw [Int.sub_eq_add_neg]
 exact h.add h'.neg
theorem Bd.mul {a b:Int} {m n:Nat} (h:Bd a m) (h':Bd b n):Bd (a*b) (m+n):=by
 unfold Bd at*
 rw [lY,Nat.pow_add]
 exact lX h (lP h') (lQ y4)
theorem UV.bd {W:WX} {m:Nat} {v:Value} {k:Int} (h:UV W m v k):Bd k m:=h.bound
theorem NV.uv' {W:WX} {v:Value} {k:Int} (h:NV W v k) {m:Nat} (hk:Bd k m):UV W m v k:=h.uv hk
def ISV (W:WX) (m:Nat) (v:Value) (ks:List Int):Prop:= ∃is:List (Bool×List Nat),IS W m v is/\is.map (fun p=>iv p.1 p.2)=ks
theorem ISV.below {W W':WX} {m:Nat} {v:Value} {ks:List Int} (h:ISV W m v ks) (hb:Below W.heap.size W W'):ISV W' m v ks:=by
 obtain ⟨is,h1,h2⟩:=h
 exact ⟨is,h1.below hb,h2⟩
theorem zPp {W:WX} {m:Nat} {s:Bool} {A:Option Addr} {n c:Nat} {k:Int} (h:UV W m (.agg #[.bool s, .slice A n c]) k): ∃l,Rd W A n c l/\Lt l/\n<=m/\iv s l=k:=by
 obtain ⟨s',A',n',c',l,he,h1,h2,h3,h4⟩:=h
 injection he with he
 injection he with he
 injection he with e1 he
 injection he with e2 _
 injection e1 with e1
 injection e2 with f1 f2 f3
 subst e1;subst f1;subst f2;subst f3
 exact ⟨l,h1,h2,h3,h4⟩
theorem ISV.two {W:WX} {m:Nat} {s:Bool} {A:Option Addr} {n c:Nat} {k:Int} (h:UV W m (.agg #[.bool s, .slice A n c]) k) {s':Bool} {A':Option Addr} {n' c':Nat} {k':Int} (h':UV W m (.agg #[.bool s', .slice A' n' c']) k') (t:TypeId):
  ISV (W.alloc (.cells #[.bool s, .slice A n c, .bool s', .slice A' n' c'] t)) m (.slice (some ⟨W.heap.size,0,none⟩) 2 2) [k,k']:=by
 obtain ⟨l,h1,h2,h3,rfl⟩:=zPp h
 obtain ⟨l',h1',h2',h3',rfl⟩:=zPp h'
 exact ⟨[(s,l),(s',l')],IS.two h1 h2 h3 h1' h2' h3' t,rfl⟩
theorem zFh (is:List (Bool×List Nat)): ∀k,k<=is.length->zDZ is k=((is.take k).map fun p=>iv p.1 p.2).sum
 |0,_=>rfl
 |k+1,h=>by
  have h1:=zFh is k oJ
  show zDZ is k+zEd is k=_
  rw [h1,mE oJ,List.map_append,List.sum_append]
  unfold zEd
  rw [lS oJ]
  simp
theorem zEe (is:List (Bool×List Nat)): ∀k,k<=is.length->zBV is k=((is.take k).map fun p=>iv p.1 p.2).foldl (·*·) 1
 |0,_=>rfl
 |k+1,h=>by
  have h1:=zEe is k oJ
  show zBV is k*zEd is k=_
  rw [h1,mE oJ,List.map_append,List.foldl_append]
  unfold zEd
  rw [lS oJ]
  simp
theorem zGx {m:Nat} {w:WX} {A:Option Addr} {n:Nat} {is:List (Bool×List Nat)} (h:IRdM m w A n is): ∀k,Bd (zBV is k) (m*k+1)
 |0=>by
  show (1:Int).natAbs<BB^(0+1)
  decide
 |k+1=>by
  have h1:=(zGx h k).mul (show Bd (zEd is k) m from zGw h k)
  show Bd (zBV is k*zEd is k) _
  exact h1.mono (by rw [Nat.mul_add];omega)
theorem zUZ {W:WX} {m:Nat} {v:Value} {ks:List Int} {k:Int} (h:ISV W m v ks) (hm:m<=100000) (hn:ks.length<=1000) (hk:ks.sum=k):Calls prog 95 #[v] W (zGO W k):=by
 obtain ⟨is,h1,h2⟩:=h
 have:=zU0 h1 hm (by rw [<-h2,List.length_map] at hn;omega)
 rw [zFh is is.length (lJ _),List.take_length,h2,hk] at this
 exact this
theorem zKE {W:WX} {m:Nat} {v:Value} {ks:List Int} {k:Int} (h:ISV W m v ks) (hn:m*ks.length+m+1<=40000) (hk:ks.foldl (·*·) 1=k) (hl:ks.length<=1000):Calls prog 36 #[v] W (zGO W k):=by
 obtain ⟨is,⟨A,c,rfl,h3,h4,h1⟩,h2⟩:=h
 have hl2:is.length=ks.length:=by rw [<-h2,List.length_map]
 have:=(zNU A is.length c is (m*ks.length+m+1) W (IRdM.mono h1 oJ) h3 h4 hn (fun k=>lK (zGw h1 k) (lR y4 oJ)) (fun k hk=>(zGx h1 k).mono (by
  have:m*k<=m*ks.length:=Nat.mul_le_mul_left _ oJ
  omega))).mono fun _ _=>qS.v
 rw [zEe is is.length (lJ _),List.take_length,h2,hk] at this
 exact this
end Go.Proofs.Wd

namespace Go.Proofs.Wd
open Tryz
open Lb
theorem zHE (n:Int) (d:Nat):(mkRat n d).num.natAbs<=n.natAbs:=by
 rw [Rat.num_mkRat]
 split
 ·simp
 ·have hd:((d.gcd n.natAbs:Nat):Int)∣n:=Int.natAbs_dvd_natAbs.1 (by simpa using Nat.gcd_dvd_right d n.natAbs)
  rw [Int.natAbs_ediv_of_dvd hd]
  simp only [lT]
  exact Nat.div_le_self _ _
theorem zHF (n:Int) (d:Nat) (h:0<d):(mkRat n d).den<=d:=by
 rw [Rat.den_mkRat,if_neg oJ]
 exact Nat.div_le_self _ _
theorem zDK (n:Int) (d:Nat) (h:0<d):(mkRat n d).num.natAbs=n.natAbs / Nat.gcd n.natAbs d:=by
 rw [Rat.num_mkRat,if_neg oJ]
 have hd:((d.gcd n.natAbs:Nat):Int)∣n:=Int.natAbs_dvd_natAbs.1 (by simpa using Nat.gcd_dvd_right d n.natAbs)
 rw [Int.natAbs_ediv_of_dvd hd,Nat.gcd_comm]
 simp only [lT]
theorem zCD (n:Int) (d:Nat) (h:0<d):(mkRat n d).den=d / Nat.gcd n.natAbs d:=by
 rw [Rat.den_mkRat,if_neg oJ,Nat.gcd_comm]
theorem zB5 (n:Int) (d:Nat) (h:0<d):decide ((mkRat n d).num<0)=decide (n<0):=by
 have h1:=@Rat.divInt_nonneg_iff_of_pos_right n d oJ
 rw [Rat.divInt_ofNat, <-Rat.num_nonneg] at h1
 rw [decide_eq_decide]
 omega
def QB (q:Rat) (m:Nat):Prop:=Bd q.num m/\q.den<BB^m
theorem QB.mono {q:Rat} {m m':Nat} (h:QB q m) (hm:m<=m'):QB q m':=⟨h.1.mono hm,lK h.2 (lR y4 hm)⟩
theorem vD {k:Int} {d m:Nat} (hk:Bd k m) (hd:d<BB^m) (hm:0<m):QB (mkRat k d) m:=by
 refine ⟨lU (zHE k d) hk, ?_⟩
 rcases lZ d with rfl|h
 ·rw [Rat.mkRat_zero]
  show 1<BB^m
  exact Nat.one_lt_pow oJ (by unfold BB;omega)
 ·exact lU (zHF k d h) hd
theorem QB.pos {q:Rat} {m:Nat} (h:QB q m):0<m:=by
 rcases lZ m with rfl|h0
 ·have:=h.2
  rw [Nat.pow_zero] at this
  have:=q.den_pos
  omega
 ·exact h0
theorem jR {x m:Nat} (h:x<BB^m):Bd (x:Int) m:=by unfold Bd;rwa [lT]
theorem zCS {a b m n:Nat} (h:a<BB^m) (h':b<BB^n):a*b<BB^(m+n):=by
 rw [Nat.pow_add]
 exact lX h (lP h') (lQ y4)
theorem QB.num_add {p q:Rat} {m n:Nat} (h:QB p m) (h':QB q n):Bd (p.num*q.den+q.num*p.den) (m+n+1):=
 (h.1.mul (jR h'.2)).add ((h'.1.mul (jR h.2)).mono oJ)
theorem QB.den_mul {p q:Rat} {m n:Nat} (h:QB p m) (h':QB q n):p.den*q.den<BB^(m+n):=zCS h.2 h'.2
theorem QB.add {p q:Rat} {m n:Nat} (h:QB p m) (h':QB q n):QB (p+q) (m+n+1):=by
 rw [Rat.add_def']
 exact vD (h.num_add h') (lK (h.den_mul h') (lR y4 oJ)) oJ
theorem QB.mul {p q:Rat} {m n:Nat} (h:QB p m) (h':QB q n):QB (p*q) (m+n):=by
 rw [Rat.mul_def']
 exact vD (h.1.mul h'.1) (h.den_mul h') (by have:=h.pos;omega)
theorem QB.neg {q:Rat} {m:Nat} (h:QB q m):QB (-q) m:=⟨by rw [Rat.neg_num];exact h.1.neg,h.2⟩
theorem QB.sub {p q:Rat} {m n:Nat} (h:QB p m) (h':QB q n):QB (p - q) (m+n+1):=by
 rw [Rat.sub_eq_add_neg]
 exact h.add h'.neg
theorem zDF {m:Nat} (h:0<m):1<BB^m:=Nat.one_lt_pow oJ (by unfold BB;omega)
theorem QB.int {z:Int} {m:Nat} (h:Bd z m) (hm:0<m):QB (z:Rat) m:=⟨h,zDF hm⟩
theorem zQN (p q:Rat):p.num*q.den - q.num*p.den<0↔p<q:=by rw [Rat.lt_iff];omega
theorem zOa (p q:Rat):p.num*q.den - q.num*p.den=0↔p=q:=by rw [Rat.eq_iff_mul_eq_mul];omega
def qsg (p q:Rat):Int:=(p.num*q.den - q.num*p.den).sign
theorem zHo {p q:Rat}:qsg p q= -1↔p<q:=by
 unfold qsg
 rw [<-zQN,Int.sign_eq_neg_one_iff_neg]
theorem zSr {p q:Rat}:qsg p q=0↔p=q:=by
 unfold qsg
 rw [<-zOa,Int.sign_eq_zero_iff_zero]
theorem zIr (p q:Rat):qsg p q= -1∨qsg p q=0∨qsg p q=1:=by
 unfold qsg
 have:=Int.sign_trichotomy (p.num*q.den - q.num*p.den)
 omega
end Go.Proofs.Wd

namespace Go.Proofs.Wd
open Tryz
abbrev V2:=Rat×Rat
structure Aff where
 a:Rat
 b:Rat
 c:Rat
def crs (a b p:V2):Rat:=(b.1 - a.1)*(p.2 - a.2) - (b.2 - a.2)*(p.1 - a.1)
def at_ (l:List V2) (i:Nat):V2:=l.getD i (0,0)
theorem zSM {l:List V2} {p:V2} (h:p∈l): ∃i,i<l.length/\at_ l i=p:=by
 obtain ⟨i,hi,e⟩:=List.getElem_of_mem h
 exact ⟨i,hi,by unfold at_;rw [mF,lS hi];exact e⟩
theorem zFs {l:List V2} {i:Nat} (h:i<l.length):at_ l i∈l:=by
 unfold at_;rw [mF,lS h];exact List.getElem_mem h
def ch (R:V2->V2->Prop):List V2->Prop
 |p::q::r=>R p q/\ch R (q::r)
 |_=>True
def zVG (R:V2->V2->Prop) (l:List V2):Prop:= ∃p t,l=p::t/\ch R (p::(t++ [p]))
def zVF (z p q:V2):Prop:=0<crs p q z
end Go.Proofs.Wd

namespace Go.Proofs.Wd
open Tryz
def fl (q:Rat):Int:=q.num / (q.den:Int)
theorem zFl {z:Int} {q:Rat}:(z:Rat)<=q↔z<=fl q:=by
 have hd:(0:Int)<q.den:=by have:=q.den_pos;omega
 unfold fl
 rw [Int.le_ediv_iff_mul_le hd,Rat.le_iff]
 simp
theorem zUj (q:Rat):((fl q:Int):Rat)<=q:=zFl.2 (lO _)
theorem zRr {z:Int} {q:Rat}:q<(z:Rat)↔fl q+1<=z:=by
 have:=@zFl z q
 rw [<-Rat.not_le,this]
 omega
def jP (s:Nat):Rat:=((2^s:Nat):Rat)
theorem zGT (s:Nat):jP (s+1)=2*jP s:=by
 unfold jP
 rw [Nat.pow_succ,Rat.natCast_mul]
 grind
theorem zI2 (s:Nat):0<jP s:=by
 unfold jP
 have:0<2^s:=lQ (by decide)
 exact_mod_cast this
def zGL (lo hi:Rat) (s:Nat):Prop:=((fl (lo*jP s)+1:Int):Rat)<hi*jP s
theorem zGc {lo hi:Rat} {s:Nat}:zGL lo hi s↔ ∃z:Int,lo*jP s<z/\(z:Rat)<hi*jP s:=by
 constructor
 ·intro h
  exact ⟨_,zRr.2 (lO _),h⟩
 ·rintro ⟨z,h1,h2⟩
  have h3:=zRr.1 h1
  have h4:((fl (lo*jP s)+1:Int):Rat)<=(z:Rat):=by exact_mod_cast h3
  unfold zGL
  grind
theorem zJl {lo hi:Rat} {s:Nat}:zGL (-hi) (-lo) s↔zGL lo hi s:=by
 rw [zGc,zGc]
 constructor
 ·rintro ⟨z,h1,h2⟩
  exact ⟨-z,by rw [lV];grind,by rw [lV];grind⟩
 ·rintro ⟨z,h1,h2⟩
  exact ⟨-z,by rw [lV];grind,by rw [lV];grind⟩
theorem zLy {lo hi:Rat} {s:Nat} (h:zGL lo hi s):zGL lo hi (s+1):=by
 rw [zGc] at h ⊢
 obtain ⟨z,h1,h2⟩:=h
 refine ⟨2*z, ?_, ?_⟩
 ·rw [lI,zGT]
  have:((2:Int):Rat)=2:=rfl
  grind
 ·rw [lI,zGT]
  have:((2:Int):Rat)=2:=rfl
  grind
theorem zN4 {lo hi:Rat} {s:Nat} (h:zGL lo hi s) (k:Nat):zGL lo hi (s+k):=by
 induction k with
 |zero=>exact h
 |succ k ih=>exact zLy ih
theorem zN3 {lo hi:Rat} {s:Nat} (h:1<(hi - lo)*jP s):zGL lo hi s:=by
 have h1:=zUj (lo*jP s)
 unfold zGL
 rw [Rat.intCast_add]
 have:((1:Int):Rat)=1:=rfl
 grind
theorem zGq (q:Rat):q*(q.den:Rat)=(q.num:Rat):=by
 have h:=Rat.mkRat_self q
 rw [mA] at h
 have hd:(q.den:Rat)≠0:=by
  have:=q.den_pos
  intro e
  have:q.den=0:=by exact_mod_cast e
  omega
 have h2:(q.num:Rat) / (q.den:Rat)*(q.den:Rat)=(q.num:Rat):=Rat.div_mul_cancel hd
 rw [<-h2]
 congr 1
 exact h.symm
theorem zSZ {lo hi:Rat} (h:lo<hi):1<=(hi - lo)*((lo.den*hi.den:Nat):Rat):=by
 have h1:lo.num*hi.den<hi.num*lo.den:=Rat.lt_iff lo hi|>.1 h
 have e1:lo*(lo.den:Rat)=(lo.num:Rat):=zGq lo
 have e2:hi*(hi.den:Rat)=(hi.num:Rat):=zGq hi
 have h2:lo.num*hi.den+1<=hi.num*lo.den:=h1
 have h3:((lo.num*hi.den+1:Int):Rat)<=((hi.num*lo.den:Int):Rat):=by exact_mod_cast h2
 rw [Rat.intCast_add,lI,lI] at h3
 rw [Rat.natCast_mul]
 have h4:((lo.den:Int):Rat)=(lo.den:Rat):=rfl
 have h5:((hi.den:Int):Rat)=(hi.den:Rat):=rfl
 have h6:((1:Int):Rat)=1:=rfl
 rw [h4,h5,h6, <-e1, <-e2] at h3
 clear h1 h2 h4 h5 h6 e1 e2
 generalize (lo.den:Rat)=x at*
 generalize (hi.den:Rat)=y at*
 grind
theorem zJm {lo hi:Rat} (h:lo<hi) {s:Nat} (hs:lo.den*hi.den<2^s):zGL lo hi s:=by
 refine zN3 ?_
 have h1:=zSZ h
 have h2:((lo.den*hi.den:Nat):Rat)<jP s:=by unfold jP;exact_mod_cast hs
 have h3:0<hi - lo:=by grind
 have h4:=Rat.mul_lt_mul_of_pos_left h2 h3
 grind
theorem zHO {p:Nat->Prop}: ∀n,p n-> ∃s,p s/\ ∀k,k<s-> ¬p k:=by
 intro n
 induction n using Nat.strongRecOn with
 | _ n ih=>
  intro hn
  by_cases h: ∃k,k<n/\p k
  ·obtain ⟨k,hk,hp⟩:=h
   exact ih k hk hp
  ·exact ⟨n,hn,fun k hk hp=>h ⟨k,hk,hp⟩⟩
theorem zR0 (k:Int) (s:Nat):mkRat k (2^s)*jP s=(k:Rat):=by
 rw [mA]
 have h:=zI2 s
 exact Rat.div_mul_cancel (by intro e;have:jP s=0:=e;rw [this] at h;exact absurd h (by decide))
def zCe (lo hi:Rat) (s:Nat):Prop:=zGL lo hi s/\ ∀k,k<s-> ¬zGL lo hi k
theorem zCe.unique {lo hi:Rat} {s s':Nat} (h:zCe lo hi s) (h':zCe lo hi s'):s=s':=by
 rcases Nat.lt_trichotomy s s' with e|e|e
 ·exact absurd h.1 (h'.2 s e)
 ·exact e
 ·exact absurd h'.1 (h.2 s' e)
theorem zCe.neg {lo hi:Rat} {s:Nat} (h:zCe lo hi s):zCe (-hi) (-lo) s:=⟨zJl.2 h.1,fun k hk hr=>h.2 k hk (zJl.1 hr)⟩
theorem zCe.le {lo hi:Rat} {s:Nat} (h:zCe lo hi s) {t:Nat} (ht:zGL lo hi t):s<=t:=by
 rcases Nat.lt_or_ge t s with e|e
 ·exact absurd ht (h.2 t e)
 ·exact e
theorem zCe.room {lo hi:Rat} {s:Nat} (h:zCe lo hi s) {t:Nat}:zGL lo hi t↔s<=t:=⟨h.le,fun e=>by
 have:=zN4 h.1 (t - s)
 rwa [show s+(t - s)=t by omega] at this⟩
theorem zHP {lo hi:Rat} (h:lo<hi): ∃s,zCe lo hi s:=by
 obtain ⟨s,h1,h2⟩:=zHO (p:=zGL lo hi) (lo.den*hi.den) (zJm h Nat.lt_two_pow_self)
 exact ⟨s,h1,h2⟩
def upto (q:Rat) (s:Nat):Rat:=mkRat (fl (q*jP s)+1) (2^s)
theorem zIY (q:Rat) (s:Nat):upto q s*jP s=((fl (q*jP s)+1:Int):Rat):=zR0 _ _
theorem zFQ {p q:Rat} {s:Nat} (h:p*jP s<q*jP s):p<q:=by
 have:=zI2 s
 by_cases e:p<q
 ·exact e
 ·have:=mB (Rat.not_lt.1 e) (Rat.le_of_lt this)
  grind
theorem zMw (q:Rat) (s:Nat):q<upto q s:=by
 refine zFQ (s:=s) ?_
 rw [zIY]
 exact zRr.2 (lO _)
theorem zLc {lo hi:Rat} {s:Nat} (h:zGL lo hi s):upto lo s<hi:=by
 refine zFQ (s:=s) ?_
 rw [zIY]
 exact h
def btw (lo hi:Rat) (s:Nat):Rat:=if hi<=0 then -(upto (-hi) s) else if lo<0 then 0 else upto lo s
theorem zP3 {lo hi:Rat} {s:Nat} (h:zCe lo hi s):lo<btw lo hi s/\btw lo hi s<hi:=by
 unfold btw
 split
 ·have h1:=zMw (-hi) s
  have h2:=zLc h.neg.1
  grind
 ·split
  ·grind
  ·exact ⟨zMw lo s,zLc h.1⟩
theorem zPN (q:Rat) (s:Nat):fl (q*jP s)=q.num*((2^s:Nat):Int) / (q.den:Int):=by
 have hd:(0:Int)<q.den:=by have:=q.den_pos;omega
 have key: ∀z:Int,z<=fl (q*jP s)↔z<=q.num*((2^s:Nat):Int) / (q.den:Int):=fun z=>by
  rw [<-zFl,Int.le_ediv_iff_mul_le hd]
  have h1:=zGq q
  have hq:(0:Rat)<(q.den:Rat):=by have:=q.den_pos;exact_mod_cast this
  have e1:((z*(q.den:Int):Int):Rat)=(z:Rat)*(q.den:Rat):=by rw [lI];rfl
  have e2:((q.num*((2^s:Nat):Int):Int):Rat)=q*jP s*(q.den:Rat):=by
   rw [lI, <-h1]
   unfold jP
   have:(((2^s:Nat):Int):Rat)=((2^s:Nat):Rat):=rfl
   rw [this]
   grind
  have e3:z*(q.den:Int)<=q.num*((2^s:Nat):Int)↔((z*(q.den:Int):Int):Rat)<=((q.num*((2^s:Nat):Int):Int):Rat):=by
   constructor
   ·intro h;exact_mod_cast h
   ·intro h;exact_mod_cast h
  rw [e3,e1,e2]
  constructor
  ·intro h
   exact mB h (Rat.le_of_lt hq)
  ·intro h
   exact Rat.not_lt.1 fun hc=>by
    have:=mG hc hq
    grind
 have h1:=(key (fl (q*jP s))).1 (lO _)
 have h2:=(key (q.num*((2^s:Nat):Int) / (q.den:Int))).2 (lO _)
 omega
def zFy (lo hi:Rat) (s:Nat):Bool:=decide ((fl (lo*jP s)+1)*(hi.den:Int)<hi.num*((2^s:Nat):Int))
theorem zG8 {lo hi:Rat} {s:Nat}:zFy lo hi s=true↔zGL lo hi s:=by
 unfold zFy zGL
 rw [decide_eq_true_iff]
 have h1:=zGq hi
 have hq:(0:Rat)<(hi.den:Rat):=by have:=hi.den_pos;exact_mod_cast this
 generalize fl (lo*jP s)+1=z
 have e1:((z*(hi.den:Int):Int):Rat)=(z:Rat)*(hi.den:Rat):=by rw [lI];rfl
 have e2:((hi.num*((2^s:Nat):Int):Int):Rat)=hi*jP s*(hi.den:Rat):=by
  rw [lI, <-h1]
  unfold jP
  have:(((2^s:Nat):Int):Rat)=((2^s:Nat):Rat):=rfl
  rw [this]
  grind
 have e3:z*(hi.den:Int)<hi.num*((2^s:Nat):Int)↔((z*(hi.den:Int):Int):Rat)<((hi.num*((2^s:Nat):Int):Int):Rat):=by
  constructor
  ·intro h;exact_mod_cast h
  ·intro h;exact_mod_cast h
 rw [e3,e1,e2]
 constructor
 ·intro h
  exact Rat.not_le.1 fun hc=>by
   have:=mB hc (Rat.le_of_lt hq)
   grind
 ·intro h
  exact mG h hq
theorem zE2 {lo hi:Rat} {s t:Nat} (h:zCe lo hi s):zFy lo hi t=decide (s<=t):=by
 cases hr:zFy lo hi t with
 |true=>exact (decide_eq_true (h.room.1 (zG8.1 hr))).symm
 |false=>exact (decide_eq_false (fun hc=>by rw [zG8.2 (h.room.2 hc)] at hr;cases hr)).symm
end Go.Proofs.Wd

namespace Go.Proofs.Wd
open Tryz
open Lb
theorem zPH (q:Rat):(q.num:Rat)=q*(q.den:Rat):=by
 have h:=Rat.mkRat_self q
 rw [mA] at h
 have hd:(q.den:Rat)≠0:=fun h=>q.den_nz (by exact_mod_cast h)
 grind
theorem vR {q:Rat} {X D:Int} {m:Nat} (hm:0<m) (h:q*(D:Rat)=(X:Rat)) (hD:D≠0) (hX:Bd X m) (hD':Bd D m):QB q m:=by
  have e0:=zPH q
  have e1:((q.num*D:Int):Rat)=((X*(q.den:Int):Int):Rat):=by
    rw [lI,lI,e0, <-h]
    show q*(q.den:Rat)*(D:Rat)=q*(D:Rat)*((q.den:Int):Rat)
    rw [Rat.intCast_natCast]
    grind
  have e2:q.num*D=X*(q.den:Int):=by exact_mod_cast e1
  have e3:q.num.natAbs*D.natAbs=X.natAbs*q.den:=by
    have:=congrArg Int.natAbs e2
    rwa [lY,lY,lT] at this
  have hc:Nat.Coprime q.den q.num.natAbs:=q.reduced.symm
  have hd:q.den∣D.natAbs:=hc.dvd_of_dvd_mul_left (by rw [e3];exact Nat.dvd_mul_left _ _)
  have hDp:0<D.natAbs:=Int.natAbs_pos.2 hD
  obtain ⟨k,hk⟩:=hd
  have hk0 : 0 < k := by rcases lZ k with h|h;· rw [h] at hk;omega
                         . exact h
  refine ⟨?_,lU ?_ hD'⟩
  . have:q.num.natAbs*k=X.natAbs:=by
      rw [hk, <-Nat.mul_assoc,Nat.mul_comm q.num.natAbs,Nat.mul_assoc,Nat.mul_comm q.den] at e3
      exact Nat.eq_of_mul_eq_mul_right q.den_pos e3
    refine lU ?_ hX
    rw [<-this]
    exact Nat.le_mul_of_pos_right _ hk0
  . rw [hk];exact Nat.le_mul_of_pos_right _ hk0
end Go.Proofs.Wd

namespace Go.Proofs.Wd
open Tryz
structure SRing (z:V2) (l:List V2):Prop where
 nd:l.Nodup
 ring:zVG (zVF z) l
 strict: ∀i,i<l.length-> ∀r,r∈l->r≠at_ l i->r≠at_ l ((i+1) % l.length)->0<crs (at_ l i) (at_ l ((i+1) % l.length)) r
section
variable {z:V2} {l:List V2} (S:SRing z l) (h:Aff)
include S
end
end Go.Proofs.Wd
