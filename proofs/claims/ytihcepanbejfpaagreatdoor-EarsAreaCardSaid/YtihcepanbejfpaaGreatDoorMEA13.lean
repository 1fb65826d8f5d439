/- prod.Mul; The walk of num.mul; The walk of sint.Mul; Integers as value and what it needs. -/
import Derived.Test.YtihcepanbejfpaaGreatDoorMEA11
import Derived.Laws.EntriesVeiled
import Derived.Test.YtihcepanbejfpaaGreatDoorMEA7
import Derived.Test.YtihcepanbejfpaaGreatDoorMEA3
import Derived.Test.YtihcepanbejfpaaGreatDoorMEA9
theorem kD {P:Prop} (h:P:=by kernel_rfl):P:=h
theorem oJ {P:Prop} (h:P:=by omega):P:=h
abbrev lI:=@Go.RowKit.Below.refl
abbrev lJ:=@Array.getD_eq_getD_getElem?
abbrev lK:=@Go.wpOpIn_step
abbrev lL:=@Nat.le_refl
abbrev lM:=@Nat.lt_of_lt_of_le
abbrev lN:=@Go.CallsIn.mono
abbrev lO:=@Go.callsIn_wide
abbrev lP:=@Nat.le_trans
abbrev lQ:=@Nat.le_of_lt
abbrev lR:=@Nat.pow_le_pow_right
abbrev lS:=@List.getElem?_eq_getElem
abbrev lT:=@Int.natAbs_natCast
abbrev lU:=@Nat.lt_of_le_of_lt
abbrev lV:=@List.getD_eq_getElem?_getD
abbrev lW:=@Go.Oper.semAt_some
abbrev lX:=@Nat.mul_lt_mul_of_lt_of_le
abbrev lY:=@Int.natAbs_mul
abbrev lZ:=@Nat.eq_zero_or_pos
abbrev mA:=@List.length_drop
abbrev mB:=@Int.ofNat_natAbs_of_nonneg
abbrev mC:=@Int.ofNat_natAbs_of_nonpos
abbrev mD:=@List.take_succ_eq_append_getElem
abbrev WY:=Go.World
namespace Go.Proofs.Wd
open Tryz
set_option maxRecDepth 100000
set_option maxHeartbeats 2000000
open Go.RowKit Lb
attribute [local go_sem] Oper.semAt_some y5 z7
theorem zKW (A:Option Addr) (n c:Nat) (l:List Nat) (A':Option Addr) (n' c':Nat) (l':List Nat) (w:WY) (h:Rd w A n c l) (h':Rd w A' n' c' l') (ht:Lt l) (ht':Lt l') (hn:n<=40000) (hn':n'<=40000):
  Calls prog 106 #[.slice A n c, .slice A' n' c'] w (qZ w (val l*val l')):=by
 have hmix:prog.follows .mixedOrders=true:=by kernel_rfl
 obtain ⟨W0,hW0⟩: ∃W0,w.alloc (Obj.cells #[zBu w.heap.size] 81)=W0:=⟨_,rfl⟩
 have bA:Below w.heap.size w W0:=hW0▸(lI _ w).alloc (lL _) _
 have cA:W0.cell? ⟨w.heap.size,0,none⟩=some (zBu w.heap.size):=by
  rw [<-hW0]
  rw [World.cell?_alloc_new]
  rfl
 unfold zBu at hW0
 have hcl: ∀W,Below W0.heap.size W0 W->W.cell? ⟨w.heap.size,0,none⟩=some (zBu w.heap.size):=fun W hb=>(hb.cell (p:=⟨w.heap.size,0,none⟩) (zT cA)).trans cA
 obtain ⟨mb,hmb⟩: ∃mb,w.heap.size=mb:=⟨_,rfl⟩
 go_enter func106,ntmps106
 go_wp2
 rw [hmb] at cA hcl hW0
 erw [hW0]
 refine (wpIn_wide (n:=0)).1 ?_
 refine zY 100 (fun W=>W.cell? ⟨mb,0,none⟩=some (.func (.func 129) #[] #[pO mb 0])) hmix ?_
 have b0:Below W0.heap.size W0 W0.drew:=(lI _ W0).drew
 have c0:=hcl _ b0
 unfold zBu at c0
 refine zN (i:=0) (v:= ?vv1) kD kD rfl kD kD kD (fun _ _ _ h=>h) c0 ⟨.inl ⟨rfl, ?yy1⟩,fun _=>rfl⟩ ?_
 case yy1=>
  rintro wx q1
  go_simp
  first|done|rfl
 refine zN (i:=1) (v:= ?vv2) kD kD rfl kD kD kD (fun _ _ _ h=>h) c0 ⟨.inl ⟨rfl, ?yy2⟩,fun _=>rfl⟩ ?_
 case yy2=>
  rintro wx q1
  go_simp
  first|done|rfl
 refine zN (i:=3) (v:= ?vv3) kD kD rfl kD kD kD (fun _ _ _ h=>h) c0 ⟨.inl ⟨rfl, ?yy3⟩,fun _=>rfl⟩ ?_
 case yy3=>
  rintro wx q1
  go_simp
  first|done|rfl
 have bw0:Below w.heap.size w W0.drew:=bA.drew
 have i1:=qP A n c l W0.drew (h.below bw0) ht oJ
 refine zAo (i:=2) kD rfl (fun K hK=> ?_)
 go_simp
 refine lN (lO.2 i1) ?_
 rintro e W1 ⟨A1,n1,c1,l1,rfl,hi1,hr1,hb1⟩
 have b1:=b0.trans (hb1.mono b0.size)
 have c1':=hcl _ b1
 unfold zBu at c1'
 refine hK _ _ (.inr c1') ?_
 clear hK K i1
 have bw1:=bw0.trans (hb1.mono bw0.size)
 have i2:=qP A' n' c' l' W1 (h'.below bw1) ht' oJ
 refine zAo (i:=4) kD rfl (fun K hK=> ?_)
 go_simp
 refine lN (lO.2 i2) ?_
 rintro e W2 ⟨A2,n2,c2,l2,rfl,hi2,hr2,hb2⟩
 have b2:=b1.trans (hb2.mono b1.size)
 have c2':=hcl _ b2
 have c2'':=c2'
 unfold zBu at c2'
 refine hK _ _ (.inr c2') ?_
 clear hK K i2
 have bw2:=bw1.trans (hb2.mono bw1.size)
 have hn1:n1<=40000:=by
  rw [<-hr1.len]
  exact lP (hi1.len (k:=n) (by have:=qM ht;rwa [h.len] at this)) hn
 have hn2:n2<=40000:=by
  rw [<-hr2.len]
  exact lP (hi2.len (k:=n') (by have:=qM ht';rwa [h'.len] at this)) hn'
 have i3:=zNh 40000 oJ mb A1 n1 c1 l1 A2 n2 c2 l2 W2 (hr1.below hb2) hr2 hi1.lt hi2.lt hn1 hn2 c2''
 rw [hi1.val,hi2.val] at i3
 refine zAo (i:=5) kD rfl (fun K hK=> ?_)
 go_simp
 refine lN (lO.2 i3) ?_
 rintro e W3 ⟨A3,n3,c3,l3,rfl,hi3,hr3,hb3⟩
 have b3:=b2.trans (hb3.mono b2.size)
 have c3':=hcl _ b3
 unfold zBu at c3'
 refine hK _ _ (.inr c3') ?_
 clear hK K i3
 refine zAo (i:=6) kD rfl (fun K hK=> ?_)
 go_simp
 refine hK _ _ (.inr c3') ?_
 clear hK K
 refine zBS kD ?_
 have bw3:=bw2.trans (hb3.mono bw2.size)
 go_wp2
 all_goals
  go_ret
  exact ⟨A3,n3,c3,l3,rfl,hi3,hr3,bw3⟩
end Go.Proofs.Wd

namespace Go.Proofs.Wd
open Tryz
set_option maxRecDepth 100000
set_option maxHeartbeats 1000000
open Go.RowKit Lb
attribute [local go_sem] Oper.semAt_some y5 z7
theorem zOU {v v':Int} {l:List Nat} (h:val l=v.natAbs*v'.natAbs):iv (!(decide (v<0)==decide (v'<0))) l=v*v':=by
 unfold iv
 rw [h]
 rcases Int.lt_or_le v 0 with h1|h1<;>rcases Int.lt_or_le v' 0 with h2|h2
 all_goals simp only [h1,h2,decide_true,decide_false,Int.not_lt.2 h1,Int.not_lt.2 h2,beq_self_eq_true,Bool.not_true,Bool.not_false,Bool.false_eq_true,if_true,if_false,Int.natCast_mul,show (true==false)=false from rfl,show (false==true)=false from rfl]
 all_goals first|rw [mB h1]|rw [mC (Int.le_of_lt h1)]
 all_goals first|rw [mB h2]|rw [mC (Int.le_of_lt h2)]
 all_goals simp [Int.neg_mul,Int.mul_neg]
theorem zPB (B B':Nat) (v v':Int) (k:Nat) (w:WY) (h:zAl w B v) (h':zAl w B' v') (hv:v.natAbs<BB^k) (hv':v'.natAbs<BB^k) (hk:k<=40000):
  Calls prog 128 #[pO B 0,pO B' 0] w fun e w'=>(∃u,e= .returned u)/\zAl w' B (v*v')/\w.grownBy w' (some B):=by
 obtain ⟨A,n,c,l,hb,hi,hr⟩:=h
 obtain ⟨A',n',c',l',hb',hi',hr'⟩:=h'
 have hn:n<=k:=by rw [<-hr.len];exact hi.len hv
 have hn':n'<=k:=by rw [<-hr'.len];exact hi'.len hv'
 have hmix:prog.follows .mixedOrders=true:=by kernel_rfl
 have cf: ∀W,Below w.heap.size w W->(W.cell? ⟨B,0,none⟩=some (.bool (decide (v<0)))/\W.cell? ⟨B,1,none⟩=some (.slice A n c))/\W.cell? ⟨B',0,none⟩=some (.bool (decide (v'<0)))/\W.cell? ⟨B',1,none⟩=some (.slice A' n' c'):=fun W hb1=>⟨(hb.kept hb1).facts2.1,(hb'.kept hb1).facts2.1⟩
 go_enter func128,ntmps128
 go_wp2
 refine (wpIn_wide (n:=0)).1 ?_
 refine zY 31 (fun _=>True) hmix ?_
 refine zN (i:=1) (v:= ?vv1) kD kD rfl kD kD kD (fun _ _ _ h=>h) trivial ⟨.inl ⟨rfl, ?yy1⟩,fun _=>rfl⟩ ?_
 case yy1=>
  rintro wx _
  go_simp
  first|done|rfl
 refine zF3 (k:=24) (fun _=>false) (fun iz vz Wz=>match iz with
  |0=>vz= pO B 0
  |1=>vz= pO B 0
  |2=>vz= pO B 0
  |3=>vz= pO B 0
  |4=>vz= pO B 0
  |5=>vz= pO B 0
  |6=>vz= .bool (decide (v<0))
  |7=>vz= pO B' 0
  |8=>vz= pO B' 0
  |9=>vz= pO B' 0
  |10=>vz= pO B' 0
  |11=>vz= .bool (decide (v'<0))
  |12=>vz= .bool (!(decide (v<0)==decide (v'<0)))
  |13=>vz= pO B 0
  |14=>vz= pO B 0
  |15=>vz= pO B 0
  |16=>vz= pO B 1
  |17=>vz= .slice A n c
  |18=>vz= pO B' 0
  |19=>vz= pO B' 0
  |20=>vz= pO B' 0
  |21=>vz= pO B' 1
  |22=>vz= .slice A' n' c'
  |23=>qC Wz vz (v.natAbs*v'.natAbs)
  |_=>True) (fun W=>Below w.heap.size w W) kD kD kD kD kD kD kD kD kD (fun _ _ h hb=>h.trans (hb.mono h.size)) ?stab ((lI _ w).drew) ?spec ?fin
 case stab=>
  intro iz vz Wz Wy h hb
  split at h<;>first|exact h|exact qC.below h hb|trivial
 case spec=>
  refine yA ?_ ?h23
  refine yA ?_ ?h22
  refine yA ?_ ?h21
  refine yA ?_ ?h20
  refine yA ?_ ?h19
  refine yA ?_ ?h18
  refine yA ?_ ?h17
  refine yA ?_ ?h16
  refine yA ?_ ?h15
  refine yA ?_ ?h14
  refine yA ?_ ?h13
  refine yA ?_ ?h12
  refine yA ?_ ?h11
  refine yA ?_ ?h10
  refine yA ?_ ?h9
  refine yA ?_ ?h8
  refine yA ?_ ?h7
  refine yA ?_ ?h6
  refine yA ?_ ?h5
  refine yA ?_ ?h4
  refine yA ?_ ?h3
  refine yA ?_ ?h2
  refine yA ?_ ?h1
  refine yA ?_ ?h0
  exact fun i h _=>absurd h (Nat.not_lt_zero i)
  case h0=>
   intro _ o hi b5 W5 hf K hK
   cases hi
   have k0:b5.tmps[0]?.getD undef= (pO B 0):=(lJ ..).symm.trans ((hf.at_.keep 0 kD).trans kD)
   refine lK rfl (fun K' hK'=> ?_)
   go_simp
   exact hK' _ _ (hK _ _ rfl (lI _ _) (fun h=>by cases h))
  case h1=>
   intro h
   exact absurd h (by decide)
  case h2=>
   intro _ o hi b5 W5 hf K hK
   cases hi
   have k0:b5.tmps[0]?.getD undef= (pO B 0):=(lJ ..).symm.trans ((hf.at_.keep 0 kD).trans kD)
   refine lK rfl (fun K' hK'=> ?_)
   go_simp
   exact hK' _ _ (hK _ _ rfl (lI _ _) (fun h=>by cases h))
  case h3=>
   intro _ o hi b5 W5 hf K hK
   cases hi
   have k6:b5.tmps[6]?.getD undef= (pO B 0):=(lJ ..).symm.trans (hf.at_.vals 2 _ 6 ⟨by decide,⟨2, .data⟩,by simp,by kernel_rfl,rfl⟩ rfl rfl)
   refine lK rfl (fun K' hK'=> ?_)
   go_simp
   exact hK' _ _ (hK _ _ rfl (lI _ _) (fun h=>by cases h))
  case h4=>
   intro _ o hi b5 W5 hf K hK
   cases hi
   have k7:b5.tmps[7]?.getD undef= (pO B 0):=(lJ ..).symm.trans (hf.at_.vals 3 _ 7 ⟨by decide,⟨3, .data⟩,by simp,by kernel_rfl,rfl⟩ rfl rfl)
   refine lK rfl (fun K' hK'=> ?_)
   go_simp
   exact hK' _ _ (hK _ _ rfl (lI _ _) (fun h=>by cases h))
  case h5=>
   intro _ o hi b5 W5 hf K hK
   cases hi
   have k8:b5.tmps[8]?.getD undef= (pO B 0):=(lJ ..).symm.trans (hf.at_.vals 4 _ 8 ⟨by decide,⟨4, .data⟩,by simp,by kernel_rfl,rfl⟩ rfl rfl)
   refine lK rfl (fun K' hK'=> ?_)
   go_simp
   exact hK' _ _ (hK _ _ rfl (lI _ _) (fun h=>by cases h))
  case h6=>
   intro _ o hi b5 W5 hf K hK
   cases hi
   have k9:b5.tmps[9]?.getD undef= (pO B 0):=(lJ ..).symm.trans (hf.at_.vals 5 _ 9 ⟨by decide,⟨5, .data⟩,by simp,by kernel_rfl,rfl⟩ rfl rfl)
   obtain ⟨⟨q1,q2⟩,q3,q4⟩:=cf W5 hf.at_.cls
   refine lK rfl (fun K' hK'=> ?_)
   go_simp
   exact hK' _ _ (hK _ _ rfl (lI _ _) (fun h=>by cases h))
  case h7=>
   intro _ o hi b5 W5 hf K hK
   cases hi
   have k1:b5.tmps[1]?.getD undef= (pO B' 0):=(lJ ..).symm.trans ((hf.at_.keep 1 kD).trans kD)
   refine lK rfl (fun K' hK'=> ?_)
   go_simp
   exact hK' _ _ (hK _ _ rfl (lI _ _) (fun h=>by cases h))
  case h8=>
   intro _ o hi b5 W5 hf K hK
   cases hi
   have k11:b5.tmps[11]?.getD undef= (pO B' 0):=(lJ ..).symm.trans (hf.at_.vals 7 _ 11 ⟨by decide,⟨7, .data⟩,by simp,by kernel_rfl,rfl⟩ rfl rfl)
   refine lK rfl (fun K' hK'=> ?_)
   go_simp
   exact hK' _ _ (hK _ _ rfl (lI _ _) (fun h=>by cases h))
  case h9=>
   intro _ o hi b5 W5 hf K hK
   cases hi
   have k12:b5.tmps[12]?.getD undef= (pO B' 0):=(lJ ..).symm.trans (hf.at_.vals 8 _ 12 ⟨by decide,⟨8, .data⟩,by simp,by kernel_rfl,rfl⟩ rfl rfl)
   refine lK rfl (fun K' hK'=> ?_)
   go_simp
   exact hK' _ _ (hK _ _ rfl (lI _ _) (fun h=>by cases h))
  case h10=>
   intro _ o hi b5 W5 hf K hK
   cases hi
   have k13:b5.tmps[13]?.getD undef= (pO B' 0):=(lJ ..).symm.trans (hf.at_.vals 9 _ 13 ⟨by decide,⟨9, .data⟩,by simp,by kernel_rfl,rfl⟩ rfl rfl)
   refine lK rfl (fun K' hK'=> ?_)
   go_simp
   exact hK' _ _ (hK _ _ rfl (lI _ _) (fun h=>by cases h))
  case h11=>
   intro _ o hi b5 W5 hf K hK
   cases hi
   have k14:b5.tmps[14]?.getD undef= (pO B' 0):=(lJ ..).symm.trans (hf.at_.vals 10 _ 14 ⟨by decide,⟨10, .data⟩,by simp,by kernel_rfl,rfl⟩ rfl rfl)
   obtain ⟨⟨q1,q2⟩,q3,q4⟩:=cf W5 hf.at_.cls
   refine lK rfl (fun K' hK'=> ?_)
   go_simp
   exact hK' _ _ (hK _ _ rfl (lI _ _) (fun h=>by cases h))
  case h12=>
   intro _ o hi b5 W5 hf K hK
   cases hi
   have k10:b5.tmps[10]?.getD undef= .bool (decide (v<0)):=(lJ ..).symm.trans (hf.at_.vals 6 _ 10 ⟨by decide,⟨6, .data⟩,by simp,by kernel_rfl,rfl⟩ rfl rfl)
   have k15:b5.tmps[15]?.getD undef= .bool (decide (v'<0)):=(lJ ..).symm.trans (hf.at_.vals 11 _ 15 ⟨by decide,⟨11, .data⟩,by simp,by kernel_rfl,rfl⟩ rfl rfl)
   refine lK rfl (fun K' hK'=> ?_)
   go_simp
   exact hK' _ _ (hK _ _ rfl (lI _ _) (fun h=>by cases h))
  case h13=>
   intro _ o hi b5 W5 hf K hK
   cases hi
   have k0:b5.tmps[0]?.getD undef= (pO B 0):=(lJ ..).symm.trans ((hf.at_.keep 0 kD).trans kD)
   refine lK rfl (fun K' hK'=> ?_)
   go_simp
   exact hK' _ _ (hK _ _ rfl (lI _ _) (fun h=>by cases h))
  case h14=>
   intro _ o hi b5 W5 hf K hK
   cases hi
   have k17:b5.tmps[17]?.getD undef= (pO B 0):=(lJ ..).symm.trans (hf.at_.vals 13 _ 17 ⟨by decide,⟨13, .data⟩,by simp,by kernel_rfl,rfl⟩ rfl rfl)
   refine lK rfl (fun K' hK'=> ?_)
   go_simp
   exact hK' _ _ (hK _ _ rfl (lI _ _) (fun h=>by cases h))
  case h15=>
   intro _ o hi b5 W5 hf K hK
   cases hi
   have k18:b5.tmps[18]?.getD undef= (pO B 0):=(lJ ..).symm.trans (hf.at_.vals 14 _ 18 ⟨by decide,⟨14, .data⟩,by simp,by kernel_rfl,rfl⟩ rfl rfl)
   refine lK rfl (fun K' hK'=> ?_)
   go_simp
   exact hK' _ _ (hK _ _ rfl (lI _ _) (fun h=>by cases h))
  case h16=>
   intro _ o hi b5 W5 hf K hK
   cases hi
   have k19:b5.tmps[19]?.getD undef= (pO B 0):=(lJ ..).symm.trans (hf.at_.vals 15 _ 19 ⟨by decide,⟨15, .data⟩,by simp,by kernel_rfl,rfl⟩ rfl rfl)
   refine lK rfl (fun K' hK'=> ?_)
   go_simp
   exact hK' _ _ (hK _ _ rfl (lI _ _) (fun h=>by cases h))
  case h17=>
   intro _ o hi b5 W5 hf K hK
   cases hi
   have k20:b5.tmps[20]?.getD undef= (pO B 1):=(lJ ..).symm.trans (hf.at_.vals 16 _ 20 ⟨by decide,⟨16, .data⟩,by simp,by kernel_rfl,rfl⟩ rfl rfl)
   obtain ⟨⟨q1,q2⟩,q3,q4⟩:=cf W5 hf.at_.cls
   refine lK rfl (fun K' hK'=> ?_)
   go_simp
   exact hK' _ _ (hK _ _ rfl (lI _ _) (fun h=>by cases h))
  case h18=>
   intro _ o hi b5 W5 hf K hK
   cases hi
   have k1:b5.tmps[1]?.getD undef= (pO B' 0):=(lJ ..).symm.trans ((hf.at_.keep 1 kD).trans kD)
   refine lK rfl (fun K' hK'=> ?_)
   go_simp
   exact hK' _ _ (hK _ _ rfl (lI _ _) (fun h=>by cases h))
  case h19=>
   intro _ o hi b5 W5 hf K hK
   cases hi
   have k22:b5.tmps[22]?.getD undef= (pO B' 0):=(lJ ..).symm.trans (hf.at_.vals 18 _ 22 ⟨by decide,⟨18, .data⟩,by simp,by kernel_rfl,rfl⟩ rfl rfl)
   refine lK rfl (fun K' hK'=> ?_)
   go_simp
   exact hK' _ _ (hK _ _ rfl (lI _ _) (fun h=>by cases h))
  case h20=>
   intro _ o hi b5 W5 hf K hK
   cases hi
   have k23:b5.tmps[23]?.getD undef= (pO B' 0):=(lJ ..).symm.trans (hf.at_.vals 19 _ 23 ⟨by decide,⟨19, .data⟩,by simp,by kernel_rfl,rfl⟩ rfl rfl)
   refine lK rfl (fun K' hK'=> ?_)
   go_simp
   exact hK' _ _ (hK _ _ rfl (lI _ _) (fun h=>by cases h))
  case h21=>
   intro _ o hi b5 W5 hf K hK
   cases hi
   have k24:b5.tmps[24]?.getD undef= (pO B' 0):=(lJ ..).symm.trans (hf.at_.vals 20 _ 24 ⟨by decide,⟨20, .data⟩,by simp,by kernel_rfl,rfl⟩ rfl rfl)
   refine lK rfl (fun K' hK'=> ?_)
   go_simp
   exact hK' _ _ (hK _ _ rfl (lI _ _) (fun h=>by cases h))
  case h22=>
   intro _ o hi b5 W5 hf K hK
   cases hi
   have k25:b5.tmps[25]?.getD undef= (pO B' 1):=(lJ ..).symm.trans (hf.at_.vals 21 _ 25 ⟨by decide,⟨21, .data⟩,by simp,by kernel_rfl,rfl⟩ rfl rfl)
   obtain ⟨⟨q1,q2⟩,q3,q4⟩:=cf W5 hf.at_.cls
   refine lK rfl (fun K' hK'=> ?_)
   go_simp
   exact hK' _ _ (hK _ _ rfl (lI _ _) (fun h=>by cases h))
  case h23=>
   intro _ o hi b5 W5 hf K hK
   cases hi
   have k21:b5.tmps[21]?.getD undef= .slice A n c:=(lJ ..).symm.trans (hf.at_.vals 17 _ 21 ⟨by decide,⟨17, .data⟩,by simp,by kernel_rfl,rfl⟩ rfl rfl)
   have k26:b5.tmps[26]?.getD undef= .slice A' n' c':=(lJ ..).symm.trans (hf.at_.vals 22 _ 26 ⟨by decide,⟨22, .data⟩,by simp,by kernel_rfl,rfl⟩ rfl rfl)
   refine lK rfl (fun K' hK'=> ?_)
   go_simp
   have hm:=zKW A n c l A' n' c' l' W5 (hr.below hf.at_.cls) (hr'.below hf.at_.cls) hi.lt hi'.lt oJ oJ
   rw [hi.val,hi'.val] at hm
   refine lN (lO.2 hm) ?_
   rintro e W' ⟨A7,n7,c7,l7,rfl,hi7,hr7,hb7⟩
   exact hK' _ _ (hK _ _ ⟨A7,n7,c7,l7,rfl,hi7,hr7⟩ hb7 (fun h=>by cases h))
 case fin=>
  intro b5 W5 hf
  have e4:b5.tmps.getD 4 undef= (pO B 0):=hf.at_.vals 0 _ 4 ⟨by decide,by decide⟩ rfl rfl
  have e6:b5.tmps.getD 6 undef= (pO B 0):=hf.at_.vals 2 _ 6 ⟨by decide,by decide⟩ rfl rfl
  have e7:b5.tmps.getD 7 undef= (pO B 0):=hf.at_.vals 3 _ 7 ⟨by decide,by decide⟩ rfl rfl
  have e8:b5.tmps.getD 8 undef= (pO B 0):=hf.at_.vals 4 _ 8 ⟨by decide,by decide⟩ rfl rfl
  have e9:b5.tmps.getD 9 undef= (pO B 0):=hf.at_.vals 5 _ 9 ⟨by decide,by decide⟩ rfl rfl
  have e10:b5.tmps.getD 10 undef= .bool (decide (v<0)):=hf.at_.vals 6 _ 10 ⟨by decide,by decide⟩ rfl rfl
  have e11:b5.tmps.getD 11 undef= (pO B' 0):=hf.at_.vals 7 _ 11 ⟨by decide,by decide⟩ rfl rfl
  have e12:b5.tmps.getD 12 undef= (pO B' 0):=hf.at_.vals 8 _ 12 ⟨by decide,by decide⟩ rfl rfl
  have e13:b5.tmps.getD 13 undef= (pO B' 0):=hf.at_.vals 9 _ 13 ⟨by decide,by decide⟩ rfl rfl
  have e14:b5.tmps.getD 14 undef= (pO B' 0):=hf.at_.vals 10 _ 14 ⟨by decide,by decide⟩ rfl rfl
  have e15:b5.tmps.getD 15 undef= .bool (decide (v'<0)):=hf.at_.vals 11 _ 15 ⟨by decide,by decide⟩ rfl rfl
  have e16:b5.tmps.getD 16 undef= .bool (!(decide (v<0)==decide (v'<0))):=hf.at_.vals 12 _ 16 ⟨by decide,by decide⟩ rfl rfl
  have e17:b5.tmps.getD 17 undef= (pO B 0):=hf.at_.vals 13 _ 17 ⟨by decide,by decide⟩ rfl rfl
  have e18:b5.tmps.getD 18 undef= (pO B 0):=hf.at_.vals 14 _ 18 ⟨by decide,by decide⟩ rfl rfl
  have e19:b5.tmps.getD 19 undef= (pO B 0):=hf.at_.vals 15 _ 19 ⟨by decide,by decide⟩ rfl rfl
  have e20:b5.tmps.getD 20 undef= (pO B 1):=hf.at_.vals 16 _ 20 ⟨by decide,by decide⟩ rfl rfl
  have e21:b5.tmps.getD 21 undef= .slice A n c:=hf.at_.vals 17 _ 21 ⟨by decide,by decide⟩ rfl rfl
  have e22:b5.tmps.getD 22 undef= (pO B' 0):=hf.at_.vals 18 _ 22 ⟨by decide,by decide⟩ rfl rfl
  have e23:b5.tmps.getD 23 undef= (pO B' 0):=hf.at_.vals 19 _ 23 ⟨by decide,by decide⟩ rfl rfl
  have e24:b5.tmps.getD 24 undef= (pO B' 0):=hf.at_.vals 20 _ 24 ⟨by decide,by decide⟩ rfl rfl
  have e25:b5.tmps.getD 25 undef= (pO B' 1):=hf.at_.vals 21 _ 25 ⟨by decide,by decide⟩ rfl rfl
  have e26:b5.tmps.getD 26 undef= .slice A' n' c':=hf.at_.vals 22 _ 26 ⟨by decide,by decide⟩ rfl rfl
  have v27:=hf.at_.vals 23 _ 27 ⟨by decide,by decide⟩ rfl rfl
  have hE:=zIN [4,6,7,8,9,10,11,12,13,14,15,16,17,18,19,20,21,22,23,24,25,26,27,28,29,30,31,32,33] hf.at_.size (fun t ht5=>hf.at_.keep t (zPC (by rw [show zLC _ _= [4,6,7,8,9,10,11,12,13,14,15,16,17,18,19,20,21,22,23,24,25,26,27,28,29,30,31,32,33] from by kernel_rfl];exact ht5)))
  have hcl5:=hf.at_.cls
  obtain ⟨tm,df⟩:=b5
  obtain rfl:df=_:=hf.at_.defers
  clear hf
  simp only [List.foldl_cons,List.foldl_nil] at hE
  rw [show tm.getD 4 undef=_ from e4] at hE;clear e4
  rw [show tm.getD 6 undef=_ from e6] at hE;clear e6
  rw [show tm.getD 7 undef=_ from e7] at hE;clear e7
  rw [show tm.getD 8 undef=_ from e8] at hE;clear e8
  rw [show tm.getD 9 undef=_ from e9] at hE;clear e9
  rw [show tm.getD 10 undef=_ from e10] at hE;clear e10
  rw [show tm.getD 11 undef=_ from e11] at hE;clear e11
  rw [show tm.getD 12 undef=_ from e12] at hE;clear e12
  rw [show tm.getD 13 undef=_ from e13] at hE;clear e13
  rw [show tm.getD 14 undef=_ from e14] at hE;clear e14
  rw [show tm.getD 15 undef=_ from e15] at hE;clear e15
  rw [show tm.getD 16 undef=_ from e16] at hE;clear e16
  rw [show tm.getD 17 undef=_ from e17] at hE;clear e17
  rw [show tm.getD 18 undef=_ from e18] at hE;clear e18
  rw [show tm.getD 19 undef=_ from e19] at hE;clear e19
  rw [show tm.getD 20 undef=_ from e20] at hE;clear e20
  rw [show tm.getD 21 undef=_ from e21] at hE;clear e21
  rw [show tm.getD 22 undef=_ from e22] at hE;clear e22
  rw [show tm.getD 23 undef=_ from e23] at hE;clear e23
  rw [show tm.getD 24 undef=_ from e24] at hE;clear e24
  rw [show tm.getD 25 undef=_ from e25] at hE;clear e25
  rw [show tm.getD 26 undef=_ from e26] at hE;clear e26
  obtain ⟨x27,hx27⟩: ∃x,tm.getD 27 undef=x:=⟨_,rfl⟩;rw [hx27] at hE;rw [show tm.getD 27 undef=_ from hx27] at v27;clear hx27
  obtain ⟨u28,hu28⟩: ∃x,tm.getD 28 undef=x:=⟨_,rfl⟩;rw [hu28] at hE;clear hu28
  obtain ⟨u29,hu29⟩: ∃x,tm.getD 29 undef=x:=⟨_,rfl⟩;rw [hu29] at hE;clear hu29
  obtain ⟨u30,hu30⟩: ∃x,tm.getD 30 undef=x:=⟨_,rfl⟩;rw [hu30] at hE;clear hu30
  obtain ⟨u31,hu31⟩: ∃x,tm.getD 31 undef=x:=⟨_,rfl⟩;rw [hu31] at hE;clear hu31
  obtain ⟨u32,hu32⟩: ∃x,tm.getD 32 undef=x:=⟨_,rfl⟩;rw [hu32] at hE;clear hu32
  obtain ⟨u33,hu33⟩: ∃x,tm.getD 33 undef=x:=⟨_,rfl⟩;rw [hu33] at hE;clear hu33
  rewrite [hE]
  clear hE
  obtain ⟨A2,n2,c2,l2,rfl,hi2,hr2⟩:=v27
  have hb3:=hb.kept hcl5
  obtain ⟨⟨m0,m1⟩,m2,m3⟩:=hb3.facts2
  go_simp
  refine zAo (i:=24) kD rfl (fun K hK=> ?_)
  go_simp
  refine hK _ _ (.inr trivial) ?_
  clear hK K
  refine zAo (i:=25) kD rfl (fun K hK=> ?_)
  go_simp
  refine hK _ _ (.inr trivial) ?_
  clear hK K
  refine zAo (i:=26) kD rfl (fun K hK=> ?_)
  go_simp
  refine hK _ _ (.inr trivial) ?_
  clear hK K
  refine zAo (i:=27) kD rfl (fun K hK=> ?_)
  go_simp
  refine hK _ _ (.inr trivial) ?_
  clear hK K
  have hb4:=hb3.set 0 (.bool (!(decide (v<0)==decide (v'<0))))
  obtain ⟨⟨m0,m1⟩,m2,m3⟩:=hb4.facts2
  refine zAo (i:=28) kD rfl (fun K hK=> ?_)
  go_simp
  refine hK _ _ (.inr trivial) ?_
  clear hK K
  refine zAo (i:=29) kD rfl (fun K hK=> ?_)
  go_simp
  refine hK _ _ (.inr trivial) ?_
  clear hK K
  refine zAo (i:=30) kD rfl (fun K hK=> ?_)
  go_simp
  refine hK _ _ (.inr trivial) ?_
  clear hK K
  refine zAo (i:=31) kD rfl (fun K hK=> ?_)
  go_simp
  refine hK _ _ (.inr trivial) ?_
  clear hK K
  refine zBS kD ?_
  have hv2:iv (!(decide (v<0)==decide (v'<0))) l2=v*v':=zOU hi2.val
  have hn2:n2<=80000:=by rw [<-hr2.len];exact lP (hi2.len (k:=k+k) (by rw [Nat.pow_add];exact lX hv (lQ hv') (Nat.pow_pos yS))) oJ
  go_wp2_with (go_at_call 144;refine (zC8 B _ A2 n2 c2 l2 _ (hb4.set 1 _) ((hr2.setN hb3 (i:=0) rfl (fun _=>by simp) _).setN hb4 (i:=1) rfl (fun _=>by simp) _) hi2.lt oJ).mono ?_;rintro e w4 ⟨rfl,hn4,hg4⟩)
  refine bodyPost_end (results_none rfl _ _ _) rfl ?_
  refine ⟨⟨_,rfl⟩, ?_, ?_⟩
  ·rw [hv2] at hn4;exact hn4
  ·exact ((zBE hcl5).but (some B)).trans ((yV W5 ⟨B,0,none⟩ _).trans ((yV _ ⟨B,1,none⟩ _).trans hg4))
end Go.Proofs.Wd

namespace Go.Proofs.Wd
open Tryz
set_option maxRecDepth 100000
set_option maxHeartbeats 1000000
open Go.RowKit Lb
attribute [local go_sem] Oper.semAt_some y5 z7
theorem zQ9 (w:WY):Calls prog 76 #[.int .i64 1] w fun e w'=> ∃A n c l,e= .returned (.agg #[.bool false, .slice A n c])/\Is l 1/\Rd w' A n c l/\n<=1/\Below w.heap.size w w':=
 (zH5 1 oJ oJ w).mono fun e w' ⟨A,n,c,l,h1,h2,h3,h4⟩=>⟨A,n,c,l,h1,h2,h3,by rw [<-h3.len];exact h2.len (k:=1) (by decide),h4⟩
def zR6 (w:WY) (B0 P:Nat) (is:List (Bool×List Nat)) (k:Nat) (W:WY):Prop:=
 zAl W B0 (zBC is k)/\Boxed W P 135 (pO B0 0)/\qT W w.heap.size 26 #[.bool false, .slice none 0 0]/\Below w.heap.size w W/\P+2<=W.heap.size
theorem zGm (w:WY) (B0 P:Nat) (is:List (Bool×List Nat)) {C:Nat} (hC:w.heap.size<=C):OwnFrom C (zR6 w B0 P is):=by
 rintro k W W' row ⟨h1,h2,h3,h4,h5⟩ hg hr
 exact ⟨h1.abide hg hr,qI h2 hg hr,h3.abide hg hr,zAd h4 hg (lL _) hC hr,lP h5 hg.size⟩
theorem zMm (A:Option Addr) (n c:Nat) (is:List (Bool×List Nat)) (M:Nat) (w:WY) (h:IRd w A n is) (hn:n<=c) (hc:c<=9223372036854775807) (hM:M<=40000) (hv: ∀k,(zDz is k).natAbs<BB^M) (hp: ∀k,k<=n->(zBC is k).natAbs<BB^M) (hnn:n<=1000000:=by first|omega|decide):
  Calls prog 104 #[.slice A n c] w (qJ w (zBC is n)):=by
 refine qS func104 rfl ?_
 simp only [ntmps104,List.size_toArray,List.length_cons,List.length_nil,Nat.reduceAdd,Nat.reduceSub,Array.replicate_succ,Array.replicate_zero,List.push_toArray,List.append_toArray,List.nil_append,List.cons_append]
 go_wp2_with (first|(go_at_call 76;refine (zQ9 _).mono ?_;rintro e w1 ⟨A1,n1,c1,l1,rfl,hi1,hr1,hn1,hb1⟩)|(go_at_call 125;refine (zEf false A1 n1 c1 l1 _ hr1 hi1.lt oJ).mono ?_;rintro e w2 ⟨B0,rfl,hB0,hn0,hb0⟩)|(go_at_call 126;refine (zLM A n c _).mono ?_;rintro e w3 ⟨rfl,rfl⟩))
 have hiv0:iv false l1=1:=by unfold iv;rw [hi1.val];rfl
 rw [hiv0] at hn0
 obtain ⟨W0,hW0⟩: ∃W0,((w2.alloc (.cells #[pO B0 0] 135)).alloc (.cells #[.slice A n c] 109))=W0:=⟨_,rfl⟩
 have hsz:W0.heap.size=w2.heap.size+2:=by rw [<-hW0];simp
 have hB0l:=hn0.lt
 have hbw1:Below w.heap.size w w1:=((lI _ w).alloc (lL _) _).trans (hb1.mono (by simp))
 have hsz1:w.heap.size<w1.heap.size:=lM (by simp) hb1.size
 have hB0g:w.heap.size<B0:=lM hsz1 hB0
 have hbw2:Below w.heap.size w w2:=hbw1.trans (hb0.mono hbw1.size)
 have hB1:Below w.heap.size w W0:=by rw [<-hW0];exact (hbw2.alloc hbw2.size _).alloc (by simp;exact Nat.le_succ_of_le hbw2.size) _
 have x0:zAl W0 B0 1:=by rw [<-hW0];exact hn0.kept (((lI _ w2).alloc (lL _) _).alloc (by simp) _)
 have x1:Boxed W0 w2.heap.size 135 (pO B0 0):=by rw [<-hW0];exact (Boxed.new w2 _ _).alloc _
 have x2:Boxed W0 (w2.heap.size+1) 109 (.slice A n c):=by rw [<-hW0];exact zAk _ _ _ (by simp)
 have x3:qT W0 w.heap.size 26 #[.bool false, .slice none 0 0]:=by rw [<-hW0];exact (((zI6 hb1 rfl).kept hb0).alloc _).alloc _
 rw [hW0]
 clear hW0
 have hSb: ∀b,(b<w.heap.size∨b=w2.heap.size+1)->b<W0.heap.size:=fun b hb=>by have:=hbw2.size;omega
 refine zBU (gf:=145) rfl (enters_of func145 kD rfl) (zG3 A n c is (w2.heap.size+1) w W0 h hB1 hn hc x2.cell (S:=fun b=>b<w.heap.size∨b=w2.heap.size+1) hSb (.inr rfl) (fun b hb=> .inl hb)) ?hE ?hps zEI.trans (zFT hSb)
  (zR6 w B0 w2.heap.size is) (zGm w B0 _ is hB1.size) (zBf (zGm w B0 _ is (lL _))) wQ (fun _ _ _ _ _ _ _ _=>trivial) ⟨x0,x1,x3,hB1,Nat.le_of_eq hsz.symm⟩
  (fun xs=>{ tmps:=#[.slice A n c,undef,pO w.heap.size 0,pO w2.heap.size 0,xs.getD 0 undef, .agg #[.bool false, .slice A1 n1 c1],pO B0 0, .slice A n c, .func (.func 145) #[] #[.pointer (some ⟨w2.heap.size+1,0,none⟩)],xs.getD 0 undef,undef,undef,undef,undef,undef,undef,undef],defers:= [] }) ?assign ?body ?done
 case hE=>
  rintro k xs W l o o' ⟨B,rfl,h1,h2⟩ ho hc
  exact ⟨B,rfl,h1,h2.abide (C:=0) (grownBy_putObj' W l o') (fun r e=>by cases e;exact ⟨Nat.zero_le _,o,ho,hc⟩)⟩
 case hps=>
  rintro k xs W ⟨B,rfl,_⟩
  rfl
 case assign=>
  rintro lp k xs W K ⟨B,rfl,h1,h2⟩ hK
  gi_wp2
  exact hK
 case body=>
  rintro lp k xs W hk ⟨h1,h2,h3,h4,h5⟩ ⟨B,rfl,hB,hnb⟩
  have hc2:=h2.cell
  have hne:B≠B0:=by omega
  have hkm:k<=1000000:=by omega
  have hbd:=hp k (lQ hk)
  have hbd2:=hv k
  gi_wp2_with (gi_at_call 128;refine lN (lO.2 (zPB B0 B _ _ M W h1 hnb hbd hbd2 hM)) ?_;rintro e w3 ⟨⟨u,rfl⟩,hn3,hg3⟩)
  have hbx: ∃vs t,qT W B0 t vs:=by obtain ⟨_,_,_,_,g,_⟩:=h1;exact ⟨_,_,g⟩
  obtain ⟨vs,t,g⟩:=hbx
  refine ⟨(KeepsOthers.of_grownBy hg3 (fun j o e ho=>by cases e;rw [show W.heap[B0]?=_ from g] at ho;cases ho;rfl)).from _,⟨(yM.refl _ _).grown hg3 (fun b hb=>⟨by have:=hSb b hb;omega,fun e=>by cases e;omega⟩),hg3.size⟩,hn3,h2.kept hg3 (fun e=>by cases e;omega),(hg3.block _ h3.lt (fun e=>by cases e;omega)).trans h3,zAx h4 hg3 h4.size oJ,lP h5 hg3.size⟩
 case done=>
  rintro D W hD ⟨h1,h2,h3,h4,h5⟩ _ hd
  obtain ⟨A2,n2,c2,l2,⟨g0,g1⟩,hi2,hr2⟩:=h1.parts
  have hc2:=h2.cell
  obtain ⟨⟨q0,q1⟩,q2,q3⟩:=h3.facts2
  go_wp2
  have hb5:=(h3.set 0 (.bool (decide (zBC is n<0)))).set 1 (.slice A2 n2 c2)
  have hM:Marks w.heap.size ((W.setCell ⟨w.heap.size,0,none⟩ (.bool (decide (zBC is n<0)))).setCell ⟨w.heap.size,1,none⟩ (.slice A2 n2 c2)) [mark D] [D]:=((Marks.nil w.heap.size W).more (D:=D) (by simp) (by have:=hB1.size;omega) hd).others ((KeepsOthers.setCell _ _ _).trans (KeepsOthers.setCell _ _ _))
  obtain ⟨A3,n3,c3,l3,e3,hi3,hr3,hb3⟩:=zGt h3 h4 (lL _) hi2 hr2
  cases e3
  refine yY _ (v:= .agg #[.bool (decide (zBC is n<0)), .slice A2 n2 c2]) (fun w' ho'=> ?_) [D] _ _ hM (Oth.refl _ _) ?_
  ·obtain ⟨⟨c0,c1⟩,_,_⟩:=(hb5.oth ho').facts2
   simp [results,results104,go_sem,c0,c1]
  ·intro w' ho
   exact ⟨A2,n2,c2,l3,rfl,hi3,hr3.oth ho,jQ hb3 ho (lL _)⟩
def Bd (k:Int) (m:Nat):Prop:=k.natAbs<BB^m
theorem Bd.mono {k:Int} {m m':Nat} (h:Bd k m) (hm:m<=m'):Bd k m':=lM h (lR yS hm)
theorem Bd.add {a b:Int} {m:Nat} (h:Bd a m) (h':Bd b m):Bd (a+b) (m+1):=by
 unfold Bd at*
 rw [Nat.pow_succ]
 unfold BB at*
 omega
theorem Bd.neg {a:Int} {m:Nat} (h:Bd a m):Bd (-a) m:=by
 unfold Bd at*
 rwa [Int.natAbs_neg]
theorem Bd.sub {a b:Int} {m:Nat} (h:Bd a m) (h':Bd b m):Bd (a - b) (m+1):=by
 rw [Int.sub_eq_add_neg]
 exact h.add h'.neg
theorem Bd.mul {a b:Int} {m n:Nat} (h:Bd a m) (h':Bd b n):Bd (a*b) (m+n):=by
 unfold Bd at*
 rw [lY,Nat.pow_add]
 exact lX h (lQ h') (Nat.pow_pos yS)
theorem UV.bd {W:WY} {m:Nat} {v:Value} {k:Int} (h:UV W m v k):Bd k m:=h.bound
theorem NV.uv' {W:WY} {v:Value} {k:Int} (h:NV W v k) {m:Nat} (hk:Bd k m):UV W m v k:=h.uv hk
def ISV (W:WY) (m:Nat) (v:Value) (ks:List Int):Prop:= ∃is:List (Bool×List Nat),IS W m v is/\is.map (fun p=>iv p.1 p.2)=ks
theorem ISV.below {W W':WY} {m:Nat} {v:Value} {ks:List Int} (h:ISV W m v ks) (hb:Below W.heap.size W W'):ISV W' m v ks:=by
 obtain ⟨is,h1,h2⟩:=h
 exact ⟨is,h1.below hb,h2⟩
theorem zNJ {W:WY} {m:Nat} {s:Bool} {A:Option Addr} {n c:Nat} {k:Int} (h:UV W m (.agg #[.bool s, .slice A n c]) k): ∃l,Rd W A n c l/\Lt l/\n<=m/\iv s l=k:=by
 obtain ⟨s',A',n',c',l,he,h1,h2,h3,h4⟩:=h
 injection he with he
 injection he with he
 injection he with e1 he
 injection he with e2 _
 injection e1 with e1
 injection e2 with f1 f2 f3
 subst e1;subst f1;subst f2;subst f3
 exact ⟨l,h1,h2,h3,h4⟩
theorem ISV.two {W:WY} {m:Nat} {s:Bool} {A:Option Addr} {n c:Nat} {k:Int} (h:UV W m (.agg #[.bool s, .slice A n c]) k) {s':Bool} {A':Option Addr} {n' c':Nat} {k':Int} (h':UV W m (.agg #[.bool s', .slice A' n' c']) k') (t:TypeId):
  ISV (W.alloc (.cells #[.bool s, .slice A n c, .bool s', .slice A' n' c'] t)) m (.slice (some ⟨W.heap.size,0,none⟩) 2 2) [k,k']:=by
 obtain ⟨l,h1,h2,h3,rfl⟩:=zNJ h
 obtain ⟨l',h1',h2',h3',rfl⟩:=zNJ h'
 exact ⟨[(s,l),(s',l')],IS.two h1 h2 h3 h1' h2' h3' t,rfl⟩
theorem zED (is:List (Bool×List Nat)): ∀k,k<=is.length->zDn is k=((is.take k).map fun p=>iv p.1 p.2).sum
 |0,_=>rfl
 |k+1,h=>by
  have h1:=zED is k oJ
  show zDn is k+zDz is k=_
  rw [h1,mD oJ,List.map_append,List.sum_append]
  unfold zDz
  rw [lS oJ]
  simp
theorem zDA (is:List (Bool×List Nat)): ∀k,k<=is.length->zBC is k=((is.take k).map fun p=>iv p.1 p.2).foldl (·*·) 1
 |0,_=>rfl
 |k+1,h=>by
  have h1:=zDA is k oJ
  show zBC is k*zDz is k=_
  rw [h1,mD oJ,List.map_append,List.foldl_append]
  unfold zDz
  rw [lS oJ]
  simp
theorem zFX {m:Nat} {w:WY} {A:Option Addr} {n:Nat} {is:List (Bool×List Nat)} (h:IRdM m w A n is): ∀k,Bd (zBC is k) (m*k+1)
 |0=>by
  show (1:Int).natAbs<BB^(0+1)
  decide
 |k+1=>by
  have h1:=(zFX h k).mul (show Bd (zDz is k) m from zFU h k)
  show Bd (zBC is k*zDz is k) _
  exact h1.mono (by rw [Nat.mul_add];omega)
theorem zTi {W:WY} {m:Nat} {v:Value} {ks:List Int} {k:Int} (h:ISV W m v ks) (hm:m<=100000) (hn:ks.length<=1000) (hk:ks.sum=k):Calls prog 103 #[v] W (zGa W k):=by
 obtain ⟨is,h1,h2⟩:=h
 have:=zTj h1 hm (by rw [<-h2,List.length_map] at hn;omega)
 rw [zED is is.length (lL _),List.take_length,h2,hk] at this
 exact this
theorem zKV {W:WY} {m:Nat} {v:Value} {ks:List Int} {k:Int} (h:ISV W m v ks) (hn:m*ks.length+m+1<=40000) (hk:ks.foldl (·*·) 1=k) (hl:ks.length<=1000):Calls prog 104 #[v] W (zGa W k):=by
 obtain ⟨is,⟨A,c,rfl,h3,h4,h1⟩,h2⟩:=h
 have hl2:is.length=ks.length:=by rw [<-h2,List.length_map]
 have:=(zMm A is.length c is (m*ks.length+m+1) W (IRdM.mono h1 oJ) h3 h4 hn (fun k=>lM (zFU h1 k) (lR yS oJ)) (fun k hk=>(zFX h1 k).mono (by
  have:m*k<=m*ks.length:=Nat.mul_le_mul_left _ oJ
  omega))).mono fun _ _=>qJ.v
 rw [zDA is is.length (lL _),List.take_length,h2,hk] at this
 exact this
end Go.Proofs.Wd

namespace Go.Proofs.Wd
open Tryz
open Lb
theorem zGM (n:Int) (d:Nat):(mkRat n d).num.natAbs<=n.natAbs:=by
 rw [Rat.num_mkRat]
 split
 ·simp
 ·have hd:((d.gcd n.natAbs:Nat):Int)∣n:=Int.natAbs_dvd_natAbs.1 (by simpa using Nat.gcd_dvd_right d n.natAbs)
  rw [Int.natAbs_ediv_of_dvd hd]
  simp only [lT]
  exact Nat.div_le_self _ _
theorem zGN (n:Int) (d:Nat) (h:0<d):(mkRat n d).den<=d:=by
 rw [Rat.den_mkRat,if_neg oJ]
 exact Nat.div_le_self _ _
theorem zC9 (n:Int) (d:Nat) (h:0<d):(mkRat n d).num.natAbs=n.natAbs / Nat.gcd n.natAbs d:=by
 rw [Rat.num_mkRat,if_neg oJ]
 have hd:((d.gcd n.natAbs:Nat):Int)∣n:=Int.natAbs_dvd_natAbs.1 (by simpa using Nat.gcd_dvd_right d n.natAbs)
 rw [Int.natAbs_ediv_of_dvd hd,Nat.gcd_comm]
 simp only [lT]
theorem zCc (n:Int) (d:Nat) (h:0<d):(mkRat n d).den=d / Nat.gcd n.natAbs d:=by
 rw [Rat.den_mkRat,if_neg oJ,Nat.gcd_comm]
theorem zBP (n:Int) (d:Nat) (h:0<d):decide ((mkRat n d).num<0)=decide (n<0):=by
 have h1:=@Rat.divInt_nonneg_iff_of_pos_right n d oJ
 rw [Rat.divInt_ofNat, <-Rat.num_nonneg] at h1
 rw [decide_eq_decide]
 omega
def QB (q:Rat) (m:Nat):Prop:=Bd q.num m/\q.den<BB^m
theorem QB.mono {q:Rat} {m m':Nat} (h:QB q m) (hm:m<=m'):QB q m':=⟨h.1.mono hm,lM h.2 (lR yS hm)⟩
theorem vD {k:Int} {d m:Nat} (hk:Bd k m) (hd:d<BB^m) (hm:0<m):QB (mkRat k d) m:=by
 refine ⟨lU (zGM k d) hk, ?_⟩
 rcases lZ d with rfl|h
 ·rw [Rat.mkRat_zero]
  show 1<BB^m
  exact Nat.one_lt_pow oJ (by unfold BB;omega)
 ·exact lU (zGN k d h) hd
theorem QB.pos {q:Rat} {m:Nat} (h:QB q m):0<m:=by
 rcases lZ m with rfl|h0
 ·have:=h.2
  rw [Nat.pow_zero] at this
  have:=q.den_pos
  omega
 ·exact h0
theorem zAe {x m:Nat} (h:x<BB^m):Bd (x:Int) m:=by unfold Bd;rwa [lT]
theorem zDw {a b m n:Nat} (h:a<BB^m) (h':b<BB^n):a*b<BB^(m+n):=by
 rw [Nat.pow_add]
 exact lX h (lQ h') (Nat.pow_pos yS)
theorem QB.num_add {p q:Rat} {m n:Nat} (h:QB p m) (h':QB q n):Bd (p.num*q.den+q.num*p.den) (m+n+1):=
 (h.1.mul (zAe h'.2)).add ((h'.1.mul (zAe h.2)).mono oJ)
theorem QB.den_mul {p q:Rat} {m n:Nat} (h:QB p m) (h':QB q n):p.den*q.den<BB^(m+n):=zDw h.2 h'.2
theorem QB.add {p q:Rat} {m n:Nat} (h:QB p m) (h':QB q n):QB (p+q) (m+n+1):=by
 rw [Rat.add_def']
 exact vD (h.num_add h') (lM (h.den_mul h') (lR yS oJ)) oJ
theorem QB.mul {p q:Rat} {m n:Nat} (h:QB p m) (h':QB q n):QB (p*q) (m+n):=by
 rw [Rat.mul_def']
 exact vD (h.1.mul h'.1) (h.den_mul h') (by have:=h.pos;omega)
theorem QB.neg {q:Rat} {m:Nat} (h:QB q m):QB (-q) m:=⟨by rw [Rat.neg_num];exact h.1.neg,h.2⟩
theorem QB.sub {p q:Rat} {m n:Nat} (h:QB p m) (h':QB q n):QB (p - q) (m+n+1):=by
 rw [Rat.sub_eq_add_neg]
 exact h.add h'.neg
theorem zC3 {m:Nat} (h:0<m):1<BB^m:=Nat.one_lt_pow oJ (by unfold BB;omega)
theorem QB.int {z:Int} {m:Nat} (h:Bd z m) (hm:0<m):QB (z:Rat) m:=⟨h,zC3 hm⟩
theorem zMH (p q:Rat):p.num*q.den - q.num*p.den=0↔p=q:=by rw [Rat.eq_iff_mul_eq_mul];omega
def qsg (p q:Rat):Int:=(p.num*q.den - q.num*p.den).sign
theorem zQX {p q:Rat}:qsg p q=0↔p=q:=by
 unfold qsg
 rw [<-zMH,Int.sign_eq_zero_iff_zero]
end Go.Proofs.Wd

namespace Go.Proofs.Wd
open Tryz
abbrev V2:=Rat×Rat
structure Aff where
 a:Rat
 b:Rat
 c:Rat
def crs (a b p:V2):Rat:=(b.1 - a.1)*(p.2 - a.2) - (b.2 - a.2)*(p.1 - a.1)
def at_ (l:List V2) (i:Nat):V2:=l.getD i (0,0)
abbrev tn (l:List V2) (k:Nat):V2:=at_ l ((k+1) % l.length)
theorem zK2 {l:List V2} {p:V2} (h:p∈l): ∃i,i<l.length/\at_ l i=p:=by
 obtain ⟨i,hi,e⟩:=List.getElem_of_mem h
 exact ⟨i,hi,by unfold at_;rw [lV,lS hi];exact e⟩
theorem zCj {l:List V2} {i:Nat} (h:i<l.length):at_ l i∈l:=by
 unfold at_;rw [lV,lS h];exact List.getElem_mem h
def ch (R:V2->V2->Prop):List V2->Prop
 |p::q::r=>R p q/\ch R (q::r)
 |_=>True
def zT2 (R:V2->V2->Prop) (l:List V2):Prop:= ∃p t,l=p::t/\ch R (p::(t++ [p]))
def zT1 (z p q:V2):Prop:=0<crs p q z
def zEM (l:List V2) (k:Nat):List V2:=l.drop k++l.take k
theorem zFC (l:List V2) (k:Nat):(zEM l k).length=l.length:=by simp [zEM];omega
theorem zOZ (l:List V2) (k:Nat) (p:V2):p∈zEM l k↔p∈l:=by
 unfold zEM
 rw [List.mem_append,Or.comm, <-List.mem_append,List.take_append_drop]
theorem zR5 {l:List V2} {k i:Nat} (hk:k<l.length) (hi:i<l.length):at_ (zEM l k) i=at_ l ((i+k) % l.length):=by
 unfold at_ zEM
 rw [lV,lV]
 congr 1
 by_cases h:i+k<l.length
 ·rw [List.getElem?_append_left (by rw [mA];omega),List.getElem?_drop,Nat.mod_eq_of_lt h,Nat.add_comm]
 ·have e:(i+k) % l.length=i+k - l.length:=by
   rw [Nat.mod_eq_sub_mod oJ,Nat.mod_eq_of_lt oJ]
  rw [List.getElem?_append_right (by rw [mA];omega),mA,e,List.getElem?_take,if_pos oJ]
  congr 1
  omega
end Go.Proofs.Wd

namespace Go.Proofs.Wd
open Tryz
def fl (q:Rat):Int:=q.num / (q.den:Int)
end Go.Proofs.Wd

namespace Go.Proofs.Wd
open Tryz
open Lb
theorem zOf (q:Rat):(q.num:Rat)=q*(q.den:Rat):=by
 have h:=Rat.mkRat_self q
 rw [Rat.mkRat_eq_div] at h
 have hd:(q.den:Rat)≠0:=fun h=>q.den_nz (by exact_mod_cast h)
 grind
theorem vL {q:Rat} {X D:Int} {m:Nat} (hm:0<m) (h:q*(D:Rat)=(X:Rat)) (hD:D≠0) (hX:Bd X m) (hD':Bd D m):QB q m:=by
  have e0:=zOf q
  have e1:((q.num*D:Int):Rat)=((X*(q.den:Int):Int):Rat):=by
    rw [Rat.intCast_mul,Rat.intCast_mul,e0, <-h]
    show q*(q.den:Rat)*(D:Rat)=q*(D:Rat)*((q.den:Int):Rat)
    rw [Rat.intCast_natCast]
    grind
  have e2:q.num*D=X*(q.den:Int):=by exact_mod_cast e1
  have e3:q.num.natAbs*D.natAbs=X.natAbs*q.den:=by
    have:=congrArg Int.natAbs e2
    rwa [lY,lY,lT] at this
  have hc:Nat.Coprime q.den q.num.natAbs:=q.reduced.symm
  have hd:q.den∣D.natAbs:=hc.dvd_of_dvd_mul_left (by rw [e3];exact Nat.dvd_mul_left _ _)
  have hDp:0<D.natAbs:=Int.natAbs_pos.2 hD
  obtain ⟨k,hk⟩:=hd
  have hk0 : 0 < k := by rcases lZ k with h|h;· rw [h] at hk;omega
                         . exact h
  refine ⟨?_,lU ?_ hD'⟩
  . have:q.num.natAbs*k=X.natAbs:=by
      rw [hk, <-Nat.mul_assoc,Nat.mul_comm q.num.natAbs,Nat.mul_assoc,Nat.mul_comm q.den] at e3
      exact Nat.eq_of_mul_eq_mul_right q.den_pos e3
    refine lU ?_ hX
    rw [<-this]
    exact Nat.le_mul_of_pos_right _ hk0
  . rw [hk];exact Nat.le_mul_of_pos_right _ hk0
end Go.Proofs.Wd

namespace Go.Proofs.Wd
open Tryz
structure SRing (z:V2) (l:List V2):Prop where
 nd:l.Nodup
 ring:zT2 (zT1 z) l
 strict: ∀i,i<l.length-> ∀r,r∈l->r≠at_ l i->r≠at_ l ((i+1) % l.length)->0<crs (at_ l i) (at_ l ((i+1) % l.length)) r
theorem zTd (p q:V2):crs p q p=0:=by unfold crs;grind
theorem zTc (p q:V2):crs p q q=0:=by unfold crs;grind
section
variable {z:V2} {l:List V2} (S:SRing z l) (h:Aff)
include S
end
end Go.Proofs.Wd

namespace Go.Proofs.Wd
open Tryz
end Go.Proofs.Wd

namespace Go.Proofs.Wd
open Tryz
end Go.Proofs.Wd

namespace Go.Proofs.Wd
open Tryz
end Go.Proofs.Wd

namespace Go.Proofs.Wd
open Tryz
end Go.Proofs.Wd

namespace Go.Proofs.Wd
open Tryz
def off (e:V2×V2) (c:Rat) (m:V2):V2:=(m.1 - c*(e.2.2 - e.1.2),m.2+c*(e.2.1 - e.1.1))
end Go.Proofs.Wd

namespace Go.Proofs.Wd
open Tryz
def pe:List V2->List (V2×V2)
 |a::b::t=>(a,b)::pe (b::t)
 |_=> []
def eds:List V2->List (V2×V2)
 | []=> []
 |a::t=>pe (a::(t++ [a]))
theorem zOa: ∀(x:List V2) (m:V2),(pe (x++ [m])).map (·.1)=x
 | [],m=>rfl
 | [a],m=>rfl
 |a::b::x,m=>by
  have:=zOa (b::x) m
  simp only [List.cons_append] at this ⊢
  simp only [pe,List.map_cons,this]
theorem zN9: ∀(m:V2) (x:List V2),(pe (m::x)).map (·.2)=x
 |m, []=>rfl
 |m,a::x=>by simp only [pe,List.map_cons,zN9 a x]
theorem zLB (l:List V2):(eds l).map (·.1)=l:=by
 cases l with
 |nil=>rfl
 |cons a t=>exact zOa (a::t) a
theorem zP3 (a:V2) (t:List V2):(eds (a::t)).map (·.2)=t++ [a]:=zN9 a (t++ [a])
end Go.Proofs.Wd

namespace Go.Proofs.Wd
open Tryz
end Go.Proofs.Wd

namespace Go.Proofs.Wd
open Tryz
end Go.Proofs.Wd

namespace Go.Proofs.Wd
open Tryz
end Go.Proofs.Wd

namespace Go.Proofs.Wd
open Tryz
end Go.Proofs.Wd

namespace Go.Proofs.Wd
open Tryz
end Go.Proofs.Wd

namespace Go.Proofs.Wd
open Tryz
end Go.Proofs.Wd
