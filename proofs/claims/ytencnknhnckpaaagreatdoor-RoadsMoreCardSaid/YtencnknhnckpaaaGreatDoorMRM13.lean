/- prod.Mul; The walk of num.mul; The walk of sint.Mul; Integers as value and what it needs. -/
import Derived.Test.YtencnknhnckpaaaGreatDoorMRM11
import Derived.Laws.EntriesVeiled
import Derived.Test.YtencnknhnckpaaaGreatDoorMRM7
import Derived.Test.YtencnknhnckpaaaGreatDoorMRM3
import Derived.Test.YtencnknhnckpaaaGreatDoorMRM9
theorem kD {P:Prop} (h:P:=by kernel_rfl):P:=h
theorem oJ {P:Prop} (h:P:=by omega):P:=h
abbrev fV:=@Go.RowKit.Below.refl
abbrev fW:=@Array.getD_eq_getD_getElem?
abbrev fX:=@Go.wpOpIn_step
abbrev fY:=@List.getD_eq_getElem?_getD
abbrev fZ:=@Nat.le_refl
abbrev hH:=@List.mem_cons
abbrev lA:=@Nat.le_trans
abbrev lB:=@Nat.lt_of_lt_of_le
abbrev lC:=@List.getElem?_eq_getElem
abbrev lD:=@List.mem_singleton
abbrev lE:=@List.length_set
abbrev lF:=@List.mem_append
abbrev lG:=@Go.CallsIn.mono
abbrev lH:=@Go.callsIn_wide
abbrev lI:=@List.map_append
abbrev lJ:=@Nat.le_of_lt
abbrev lK:=@List.length_cons
abbrev lL:=@Nat.pow_le_pow_right
abbrev lM:=@List.mem_append_left
abbrev lN:=@Go.Oper.semAt_some
abbrev lO:=@Nat.mul_lt_mul_of_lt_of_le
abbrev lP:=@List.take_succ_eq_append_getElem
abbrev lQ:=@Int.natAbs_natCast
abbrev lR:=@Nat.lt_of_le_of_lt
abbrev lS:=@List.getElem?_append_left
abbrev lT:=@List.getElem?_replicate
abbrev lU:=@Bool.and_eq_true
abbrev lV:=@Prod.mk.injEq
abbrev lW:=@Int.ofNat_natAbs_of_nonneg
abbrev lX:=@Int.ofNat_natAbs_of_nonpos
abbrev lY:=@List.getElem?_take_of_lt
abbrev WW:=Go.World
abbrev WX:=Option
namespace Go.Proofs.Wd
open Tryz
set_option maxRecDepth 100000
set_option maxHeartbeats 2000000
open Go.RowKit Lb
attribute [local go_sem] Oper.semAt_some yX z4
theorem zK5 (A:WX Addr) (n c:Nat) (l:List Nat) (A':WX Addr) (n' c':Nat) (l':List Nat) (w:WW) (h:Rd w A n c l) (h':Rd w A' n' c' l') (ht:Lt l) (ht':Lt l') (hn:n<=40000) (hn':n'<=40000):
  Calls prog 77 #[.slice A n c, .slice A' n' c'] w (q7 w (val l*val l')):=by
 have hmix:prog.follows .mixedOrders=true:=by kernel_rfl
 obtain ⟨W0,hW0⟩: ∃W0,w.alloc (Obj.cells #[zBG w.heap.size] 101)=W0:=⟨_,rfl⟩
 have bA:Below w.heap.size w W0:=hW0▸(fV _ w).alloc (fZ _) _
 have cA:W0.cell? ⟨w.heap.size,0,none⟩=some (zBG w.heap.size):=by
  rw [<-hW0]
  rw [World.cell?_alloc_new]
  rfl
 unfold zBG at hW0
 have hcl: ∀W,Below W0.heap.size W0 W->W.cell? ⟨w.heap.size,0,none⟩=some (zBG w.heap.size):=fun W hb=>(hb.cell (p:=⟨w.heap.size,0,none⟩) (zV cA)).trans cA
 obtain ⟨mb,hmb⟩: ∃mb,w.heap.size=mb:=⟨_,rfl⟩
 go_enter func77,ntmps77
 go_wp2
 rw [hmb] at cA hcl hW0
 erw [hW0]
 refine (wpIn_wide (n:=0)).1 ?_
 refine zY 100 (fun W=>W.cell? ⟨mb,0,none⟩=some (.func (.func 93) #[] #[pO mb 0])) hmix ?_
 have b0:Below W0.heap.size W0 W0.drew:=(fV _ W0).drew
 have c0:=hcl _ b0
 unfold zBG at c0
 refine zO (i:=0) (v:= ?vv1) kD kD rfl kD kD kD (fun _ _ _ h=>h) c0 ⟨.inl ⟨rfl, ?yy1⟩,fun _=>rfl⟩ ?_
 case yy1=>
  rintro wx q1
  go_simp
  first|done|rfl
 refine zO (i:=1) (v:= ?vv2) kD kD rfl kD kD kD (fun _ _ _ h=>h) c0 ⟨.inl ⟨rfl, ?yy2⟩,fun _=>rfl⟩ ?_
 case yy2=>
  rintro wx q1
  go_simp
  first|done|rfl
 refine zO (i:=3) (v:= ?vv3) kD kD rfl kD kD kD (fun _ _ _ h=>h) c0 ⟨.inl ⟨rfl, ?yy3⟩,fun _=>rfl⟩ ?_
 case yy3=>
  rintro wx q1
  go_simp
  first|done|rfl
 have bw0:Below w.heap.size w W0.drew:=bA.drew
 have i1:=qF A n c l W0.drew (h.below bw0) ht oJ
 refine zAh (i:=2) kD rfl (fun K hK=> ?_)
 go_simp
 refine lG (lH.2 i1) ?_
 rintro e W1 ⟨A1,n1,c1,l1,rfl,hi1,hr1,hb1⟩
 have b1:=b0.trans (hb1.mono b0.size)
 have c1':=hcl _ b1
 unfold zBG at c1'
 refine hK _ _ (.inr c1') ?_
 clear hK K i1
 have bw1:=bw0.trans (hb1.mono bw0.size)
 have i2:=qF A' n' c' l' W1 (h'.below bw1) ht' oJ
 refine zAh (i:=4) kD rfl (fun K hK=> ?_)
 go_simp
 refine lG (lH.2 i2) ?_
 rintro e W2 ⟨A2,n2,c2,l2,rfl,hi2,hr2,hb2⟩
 have b2:=b1.trans (hb2.mono b1.size)
 have c2':=hcl _ b2
 have c2'':=c2'
 unfold zBG at c2'
 refine hK _ _ (.inr c2') ?_
 clear hK K i2
 have bw2:=bw1.trans (hb2.mono bw1.size)
 have hn1:n1<=40000:=by
  rw [<-hr1.len]
  exact lA (hi1.len (k:=n) (by have:=qC ht;rwa [h.len] at this)) hn
 have hn2:n2<=40000:=by
  rw [<-hr2.len]
  exact lA (hi2.len (k:=n') (by have:=qC ht';rwa [h'.len] at this)) hn'
 have i3:=zNu 40000 oJ mb A1 n1 c1 l1 A2 n2 c2 l2 W2 (hr1.below hb2) hr2 hi1.lt hi2.lt hn1 hn2 c2''
 rw [hi1.val,hi2.val] at i3
 refine zAh (i:=5) kD rfl (fun K hK=> ?_)
 go_simp
 refine lG (lH.2 i3) ?_
 rintro e W3 ⟨A3,n3,c3,l3,rfl,hi3,hr3,hb3⟩
 have b3:=b2.trans (hb3.mono b2.size)
 have c3':=hcl _ b3
 unfold zBG at c3'
 refine hK _ _ (.inr c3') ?_
 clear hK K i3
 refine zAh (i:=6) kD rfl (fun K hK=> ?_)
 go_simp
 refine hK _ _ (.inr c3') ?_
 clear hK K
 refine zB2 kD ?_
 have bw3:=bw2.trans (hb3.mono bw2.size)
 go_wp2
 all_goals
  go_ret
  exact ⟨A3,n3,c3,l3,rfl,hi3,hr3,bw3⟩
end Go.Proofs.Wd

namespace Go.Proofs.Wd
open Tryz
set_option maxRecDepth 100000
set_option maxHeartbeats 1000000
open Go.RowKit Lb
attribute [local go_sem] Oper.semAt_some yX z4
theorem zPf {v v':Int} {l:List Nat} (h:val l=v.natAbs*v'.natAbs):iv (!(decide (v<0)==decide (v'<0))) l=v*v':=by
 unfold iv
 rw [h]
 rcases Int.lt_or_le v 0 with h1|h1<;>rcases Int.lt_or_le v' 0 with h2|h2
 all_goals simp only [h1,h2,decide_true,decide_false,Int.not_lt.2 h1,Int.not_lt.2 h2,beq_self_eq_true,Bool.not_true,Bool.not_false,Bool.false_eq_true,if_true,if_false,Int.natCast_mul,show (true==false)=false from rfl,show (false==true)=false from rfl]
 all_goals first|rw [lW h1]|rw [lX (Int.le_of_lt h1)]
 all_goals first|rw [lW h2]|rw [lX (Int.le_of_lt h2)]
 all_goals simp [Int.neg_mul,Int.mul_neg]
theorem zPX (B B':Nat) (v v':Int) (k:Nat) (w:WW) (h:zAg w B v) (h':zAg w B' v') (hv:v.natAbs<BB^k) (hv':v'.natAbs<BB^k) (hk:k<=40000):
  Calls prog 74 #[pO B 0,pO B' 0] w fun e w'=>(∃u,e= .returned u)/\zAg w' B (v*v')/\w.grownBy w' (some B):=by
 obtain ⟨A,n,c,l,hb,hi,hr⟩:=h
 obtain ⟨A',n',c',l',hb',hi',hr'⟩:=h'
 have hn:n<=k:=by rw [<-hr.len];exact hi.len hv
 have hn':n'<=k:=by rw [<-hr'.len];exact hi'.len hv'
 have hmix:prog.follows .mixedOrders=true:=by kernel_rfl
 have cf: ∀W,Below w.heap.size w W->(W.cell? ⟨B,0,none⟩=some (.bool (decide (v<0)))/\W.cell? ⟨B,1,none⟩=some (.slice A n c))/\W.cell? ⟨B',0,none⟩=some (.bool (decide (v'<0)))/\W.cell? ⟨B',1,none⟩=some (.slice A' n' c'):=fun W hb1=>⟨(hb.kept hb1).facts2.1,(hb'.kept hb1).facts2.1⟩
 go_enter func74,ntmps74
 go_wp2
 refine (wpIn_wide (n:=0)).1 ?_
 refine zY 31 (fun _=>True) hmix ?_
 refine zO (i:=1) (v:= ?vv1) kD kD rfl kD kD kD (fun _ _ _ h=>h) trivial ⟨.inl ⟨rfl, ?yy1⟩,fun _=>rfl⟩ ?_
 case yy1=>
  rintro wx _
  go_simp
  first|done|rfl
 refine zGe (k:=24) (fun _=>false) (fun iz vz Wz=>match iz with
  |0=>vz= pO B 0
  |1=>vz= pO B 0
  |2=>vz= pO B 0
  |3=>vz= pO B 0
  |4=>vz= pO B 0
  |5=>vz= pO B 0
  |6=>vz= .bool (decide (v<0))
  |7=>vz= pO B' 0
  |8=>vz= pO B' 0
  |9=>vz= pO B' 0
  |10=>vz= pO B' 0
  |11=>vz= .bool (decide (v'<0))
  |12=>vz= .bool (!(decide (v<0)==decide (v'<0)))
  |13=>vz= pO B 0
  |14=>vz= pO B 0
  |15=>vz= pO B 0
  |16=>vz= pO B 1
  |17=>vz= .slice A n c
  |18=>vz= pO B' 0
  |19=>vz= pO B' 0
  |20=>vz= pO B' 0
  |21=>vz= pO B' 1
  |22=>vz= .slice A' n' c'
  |23=>qV Wz vz (v.natAbs*v'.natAbs)
  |_=>True) (fun W=>Below w.heap.size w W) kD kD kD kD kD kD kD kD kD (fun _ _ h hb=>h.trans (hb.mono h.size)) ?stab ((fV _ w).drew) ?spec ?fin
 case stab=>
  intro iz vz Wz Wy h hb
  split at h<;>first|exact h|exact qV.below h hb|trivial
 case spec=>
  refine yD ?_ ?h23
  refine yD ?_ ?h22
  refine yD ?_ ?h21
  refine yD ?_ ?h20
  refine yD ?_ ?h19
  refine yD ?_ ?h18
  refine yD ?_ ?h17
  refine yD ?_ ?h16
  refine yD ?_ ?h15
  refine yD ?_ ?h14
  refine yD ?_ ?h13
  refine yD ?_ ?h12
  refine yD ?_ ?h11
  refine yD ?_ ?h10
  refine yD ?_ ?h9
  refine yD ?_ ?h8
  refine yD ?_ ?h7
  refine yD ?_ ?h6
  refine yD ?_ ?h5
  refine yD ?_ ?h4
  refine yD ?_ ?h3
  refine yD ?_ ?h2
  refine yD ?_ ?h1
  refine yD ?_ ?h0
  exact fun i h _=>absurd h (Nat.not_lt_zero i)
  case h0=>
   intro _ o hi b5 W5 hf K hK
   cases hi
   have k0:b5.tmps[0]?.getD undef= (pO B 0):=(fW ..).symm.trans ((hf.at_.keep 0 kD).trans kD)
   refine fX rfl (fun K' hK'=> ?_)
   go_simp
   exact hK' _ _ (hK _ _ rfl (fV _ _) (fun h=>by cases h))
  case h1=>
   intro h
   exact absurd h (by decide)
  case h2=>
   intro _ o hi b5 W5 hf K hK
   cases hi
   have k0:b5.tmps[0]?.getD undef= (pO B 0):=(fW ..).symm.trans ((hf.at_.keep 0 kD).trans kD)
   refine fX rfl (fun K' hK'=> ?_)
   go_simp
   exact hK' _ _ (hK _ _ rfl (fV _ _) (fun h=>by cases h))
  case h3=>
   intro _ o hi b5 W5 hf K hK
   cases hi
   have k6:b5.tmps[6]?.getD undef= (pO B 0):=(fW ..).symm.trans (hf.at_.vals 2 _ 6 ⟨by decide,⟨2, .data⟩,by simp,by kernel_rfl,rfl⟩ rfl rfl)
   refine fX rfl (fun K' hK'=> ?_)
   go_simp
   exact hK' _ _ (hK _ _ rfl (fV _ _) (fun h=>by cases h))
  case h4=>
   intro _ o hi b5 W5 hf K hK
   cases hi
   have k7:b5.tmps[7]?.getD undef= (pO B 0):=(fW ..).symm.trans (hf.at_.vals 3 _ 7 ⟨by decide,⟨3, .data⟩,by simp,by kernel_rfl,rfl⟩ rfl rfl)
   refine fX rfl (fun K' hK'=> ?_)
   go_simp
   exact hK' _ _ (hK _ _ rfl (fV _ _) (fun h=>by cases h))
  case h5=>
   intro _ o hi b5 W5 hf K hK
   cases hi
   have k8:b5.tmps[8]?.getD undef= (pO B 0):=(fW ..).symm.trans (hf.at_.vals 4 _ 8 ⟨by decide,⟨4, .data⟩,by simp,by kernel_rfl,rfl⟩ rfl rfl)
   refine fX rfl (fun K' hK'=> ?_)
   go_simp
   exact hK' _ _ (hK _ _ rfl (fV _ _) (fun h=>by cases h))
  case h6=>
   intro _ o hi b5 W5 hf K hK
   cases hi
   have k9:b5.tmps[9]?.getD undef= (pO B 0):=(fW ..).symm.trans (hf.at_.vals 5 _ 9 ⟨by decide,⟨5, .data⟩,by simp,by kernel_rfl,rfl⟩ rfl rfl)
   obtain ⟨⟨q1,q2⟩,q3,q4⟩:=cf W5 hf.at_.cls
   refine fX rfl (fun K' hK'=> ?_)
   go_simp
   exact hK' _ _ (hK _ _ rfl (fV _ _) (fun h=>by cases h))
  case h7=>
   intro _ o hi b5 W5 hf K hK
   cases hi
   have k1:b5.tmps[1]?.getD undef= (pO B' 0):=(fW ..).symm.trans ((hf.at_.keep 1 kD).trans kD)
   refine fX rfl (fun K' hK'=> ?_)
   go_simp
   exact hK' _ _ (hK _ _ rfl (fV _ _) (fun h=>by cases h))
  case h8=>
   intro _ o hi b5 W5 hf K hK
   cases hi
   have k11:b5.tmps[11]?.getD undef= (pO B' 0):=(fW ..).symm.trans (hf.at_.vals 7 _ 11 ⟨by decide,⟨7, .data⟩,by simp,by kernel_rfl,rfl⟩ rfl rfl)
   refine fX rfl (fun K' hK'=> ?_)
   go_simp
   exact hK' _ _ (hK _ _ rfl (fV _ _) (fun h=>by cases h))
  case h9=>
   intro _ o hi b5 W5 hf K hK
   cases hi
   have k12:b5.tmps[12]?.getD undef= (pO B' 0):=(fW ..).symm.trans (hf.at_.vals 8 _ 12 ⟨by decide,⟨8, .data⟩,by simp,by kernel_rfl,rfl⟩ rfl rfl)
   refine fX rfl (fun K' hK'=> ?_)
   go_simp
   exact hK' _ _ (hK _ _ rfl (fV _ _) (fun h=>by cases h))
  case h10=>
   intro _ o hi b5 W5 hf K hK
   cases hi
   have k13:b5.tmps[13]?.getD undef= (pO B' 0):=(fW ..).symm.trans (hf.at_.vals 9 _ 13 ⟨by decide,⟨9, .data⟩,by simp,by kernel_rfl,rfl⟩ rfl rfl)
   refine fX rfl (fun K' hK'=> ?_)
   go_simp
   exact hK' _ _ (hK _ _ rfl (fV _ _) (fun h=>by cases h))
  case h11=>
   intro _ o hi b5 W5 hf K hK
   cases hi
   have k14:b5.tmps[14]?.getD undef= (pO B' 0):=(fW ..).symm.trans (hf.at_.vals 10 _ 14 ⟨by decide,⟨10, .data⟩,by simp,by kernel_rfl,rfl⟩ rfl rfl)
   obtain ⟨⟨q1,q2⟩,q3,q4⟩:=cf W5 hf.at_.cls
   refine fX rfl (fun K' hK'=> ?_)
   go_simp
   exact hK' _ _ (hK _ _ rfl (fV _ _) (fun h=>by cases h))
  case h12=>
   intro _ o hi b5 W5 hf K hK
   cases hi
   have k10:b5.tmps[10]?.getD undef= .bool (decide (v<0)):=(fW ..).symm.trans (hf.at_.vals 6 _ 10 ⟨by decide,⟨6, .data⟩,by simp,by kernel_rfl,rfl⟩ rfl rfl)
   have k15:b5.tmps[15]?.getD undef= .bool (decide (v'<0)):=(fW ..).symm.trans (hf.at_.vals 11 _ 15 ⟨by decide,⟨11, .data⟩,by simp,by kernel_rfl,rfl⟩ rfl rfl)
   refine fX rfl (fun K' hK'=> ?_)
   go_simp
   exact hK' _ _ (hK _ _ rfl (fV _ _) (fun h=>by cases h))
  case h13=>
   intro _ o hi b5 W5 hf K hK
   cases hi
   have k0:b5.tmps[0]?.getD undef= (pO B 0):=(fW ..).symm.trans ((hf.at_.keep 0 kD).trans kD)
   refine fX rfl (fun K' hK'=> ?_)
   go_simp
   exact hK' _ _ (hK _ _ rfl (fV _ _) (fun h=>by cases h))
  case h14=>
   intro _ o hi b5 W5 hf K hK
   cases hi
   have k17:b5.tmps[17]?.getD undef= (pO B 0):=(fW ..).symm.trans (hf.at_.vals 13 _ 17 ⟨by decide,⟨13, .data⟩,by simp,by kernel_rfl,rfl⟩ rfl rfl)
   refine fX rfl (fun K' hK'=> ?_)
   go_simp
   exact hK' _ _ (hK _ _ rfl (fV _ _) (fun h=>by cases h))
  case h15=>
   intro _ o hi b5 W5 hf K hK
   cases hi
   have k18:b5.tmps[18]?.getD undef= (pO B 0):=(fW ..).symm.trans (hf.at_.vals 14 _ 18 ⟨by decide,⟨14, .data⟩,by simp,by kernel_rfl,rfl⟩ rfl rfl)
   refine fX rfl (fun K' hK'=> ?_)
   go_simp
   exact hK' _ _ (hK _ _ rfl (fV _ _) (fun h=>by cases h))
  case h16=>
   intro _ o hi b5 W5 hf K hK
   cases hi
   have k19:b5.tmps[19]?.getD undef= (pO B 0):=(fW ..).symm.trans (hf.at_.vals 15 _ 19 ⟨by decide,⟨15, .data⟩,by simp,by kernel_rfl,rfl⟩ rfl rfl)
   refine fX rfl (fun K' hK'=> ?_)
   go_simp
   exact hK' _ _ (hK _ _ rfl (fV _ _) (fun h=>by cases h))
  case h17=>
   intro _ o hi b5 W5 hf K hK
   cases hi
   have k20:b5.tmps[20]?.getD undef= (pO B 1):=(fW ..).symm.trans (hf.at_.vals 16 _ 20 ⟨by decide,⟨16, .data⟩,by simp,by kernel_rfl,rfl⟩ rfl rfl)
   obtain ⟨⟨q1,q2⟩,q3,q4⟩:=cf W5 hf.at_.cls
   refine fX rfl (fun K' hK'=> ?_)
   go_simp
   exact hK' _ _ (hK _ _ rfl (fV _ _) (fun h=>by cases h))
  case h18=>
   intro _ o hi b5 W5 hf K hK
   cases hi
   have k1:b5.tmps[1]?.getD undef= (pO B' 0):=(fW ..).symm.trans ((hf.at_.keep 1 kD).trans kD)
   refine fX rfl (fun K' hK'=> ?_)
   go_simp
   exact hK' _ _ (hK _ _ rfl (fV _ _) (fun h=>by cases h))
  case h19=>
   intro _ o hi b5 W5 hf K hK
   cases hi
   have k22:b5.tmps[22]?.getD undef= (pO B' 0):=(fW ..).symm.trans (hf.at_.vals 18 _ 22 ⟨by decide,⟨18, .data⟩,by simp,by kernel_rfl,rfl⟩ rfl rfl)
   refine fX rfl (fun K' hK'=> ?_)
   go_simp
   exact hK' _ _ (hK _ _ rfl (fV _ _) (fun h=>by cases h))
  case h20=>
   intro _ o hi b5 W5 hf K hK
   cases hi
   have k23:b5.tmps[23]?.getD undef= (pO B' 0):=(fW ..).symm.trans (hf.at_.vals 19 _ 23 ⟨by decide,⟨19, .data⟩,by simp,by kernel_rfl,rfl⟩ rfl rfl)
   refine fX rfl (fun K' hK'=> ?_)
   go_simp
   exact hK' _ _ (hK _ _ rfl (fV _ _) (fun h=>by cases h))
  case h21=>
   intro _ o hi b5 W5 hf K hK
   cases hi
   have k24:b5.tmps[24]?.getD undef= (pO B' 0):=(fW ..).symm.trans (hf.at_.vals 20 _ 24 ⟨by decide,⟨20, .data⟩,by simp,by kernel_rfl,rfl⟩ rfl rfl)
   refine fX rfl (fun K' hK'=> ?_)
   go_simp
   exact hK' _ _ (hK _ _ rfl (fV _ _) (fun h=>by cases h))
  case h22=>
   intro _ o hi b5 W5 hf K hK
   cases hi
   have k25:b5.tmps[25]?.getD undef= (pO B' 1):=(fW ..).symm.trans (hf.at_.vals 21 _ 25 ⟨by decide,⟨21, .data⟩,by simp,by kernel_rfl,rfl⟩ rfl rfl)
   obtain ⟨⟨q1,q2⟩,q3,q4⟩:=cf W5 hf.at_.cls
   refine fX rfl (fun K' hK'=> ?_)
   go_simp
   exact hK' _ _ (hK _ _ rfl (fV _ _) (fun h=>by cases h))
  case h23=>
   intro _ o hi b5 W5 hf K hK
   cases hi
   have k21:b5.tmps[21]?.getD undef= .slice A n c:=(fW ..).symm.trans (hf.at_.vals 17 _ 21 ⟨by decide,⟨17, .data⟩,by simp,by kernel_rfl,rfl⟩ rfl rfl)
   have k26:b5.tmps[26]?.getD undef= .slice A' n' c':=(fW ..).symm.trans (hf.at_.vals 22 _ 26 ⟨by decide,⟨22, .data⟩,by simp,by kernel_rfl,rfl⟩ rfl rfl)
   refine fX rfl (fun K' hK'=> ?_)
   go_simp
   have hm:=zK5 A n c l A' n' c' l' W5 (hr.below hf.at_.cls) (hr'.below hf.at_.cls) hi.lt hi'.lt oJ oJ
   rw [hi.val,hi'.val] at hm
   refine lG (lH.2 hm) ?_
   rintro e W' ⟨A7,n7,c7,l7,rfl,hi7,hr7,hb7⟩
   exact hK' _ _ (hK _ _ ⟨A7,n7,c7,l7,rfl,hi7,hr7⟩ hb7 (fun h=>by cases h))
 case fin=>
  intro b5 W5 hf
  have e4:b5.tmps.getD 4 undef= (pO B 0):=hf.at_.vals 0 _ 4 ⟨by decide,by decide⟩ rfl rfl
  have e6:b5.tmps.getD 6 undef= (pO B 0):=hf.at_.vals 2 _ 6 ⟨by decide,by decide⟩ rfl rfl
  have e7:b5.tmps.getD 7 undef= (pO B 0):=hf.at_.vals 3 _ 7 ⟨by decide,by decide⟩ rfl rfl
  have e8:b5.tmps.getD 8 undef= (pO B 0):=hf.at_.vals 4 _ 8 ⟨by decide,by decide⟩ rfl rfl
  have e9:b5.tmps.getD 9 undef= (pO B 0):=hf.at_.vals 5 _ 9 ⟨by decide,by decide⟩ rfl rfl
  have e10:b5.tmps.getD 10 undef= .bool (decide (v<0)):=hf.at_.vals 6 _ 10 ⟨by decide,by decide⟩ rfl rfl
  have e11:b5.tmps.getD 11 undef= (pO B' 0):=hf.at_.vals 7 _ 11 ⟨by decide,by decide⟩ rfl rfl
  have e12:b5.tmps.getD 12 undef= (pO B' 0):=hf.at_.vals 8 _ 12 ⟨by decide,by decide⟩ rfl rfl
  have e13:b5.tmps.getD 13 undef= (pO B' 0):=hf.at_.vals 9 _ 13 ⟨by decide,by decide⟩ rfl rfl
  have e14:b5.tmps.getD 14 undef= (pO B' 0):=hf.at_.vals 10 _ 14 ⟨by decide,by decide⟩ rfl rfl
  have e15:b5.tmps.getD 15 undef= .bool (decide (v'<0)):=hf.at_.vals 11 _ 15 ⟨by decide,by decide⟩ rfl rfl
  have e16:b5.tmps.getD 16 undef= .bool (!(decide (v<0)==decide (v'<0))):=hf.at_.vals 12 _ 16 ⟨by decide,by decide⟩ rfl rfl
  have e17:b5.tmps.getD 17 undef= (pO B 0):=hf.at_.vals 13 _ 17 ⟨by decide,by decide⟩ rfl rfl
  have e18:b5.tmps.getD 18 undef= (pO B 0):=hf.at_.vals 14 _ 18 ⟨by decide,by decide⟩ rfl rfl
  have e19:b5.tmps.getD 19 undef= (pO B 0):=hf.at_.vals 15 _ 19 ⟨by decide,by decide⟩ rfl rfl
  have e20:b5.tmps.getD 20 undef= (pO B 1):=hf.at_.vals 16 _ 20 ⟨by decide,by decide⟩ rfl rfl
  have e21:b5.tmps.getD 21 undef= .slice A n c:=hf.at_.vals 17 _ 21 ⟨by decide,by decide⟩ rfl rfl
  have e22:b5.tmps.getD 22 undef= (pO B' 0):=hf.at_.vals 18 _ 22 ⟨by decide,by decide⟩ rfl rfl
  have e23:b5.tmps.getD 23 undef= (pO B' 0):=hf.at_.vals 19 _ 23 ⟨by decide,by decide⟩ rfl rfl
  have e24:b5.tmps.getD 24 undef= (pO B' 0):=hf.at_.vals 20 _ 24 ⟨by decide,by decide⟩ rfl rfl
  have e25:b5.tmps.getD 25 undef= (pO B' 1):=hf.at_.vals 21 _ 25 ⟨by decide,by decide⟩ rfl rfl
  have e26:b5.tmps.getD 26 undef= .slice A' n' c':=hf.at_.vals 22 _ 26 ⟨by decide,by decide⟩ rfl rfl
  have v27:=hf.at_.vals 23 _ 27 ⟨by decide,by decide⟩ rfl rfl
  have hE:=zI0 [4,6,7,8,9,10,11,12,13,14,15,16,17,18,19,20,21,22,23,24,25,26,27,28,29,30,31,32,33] hf.at_.size (fun t ht5=>hf.at_.keep t (zPZ (by rw [show zLK _ _= [4,6,7,8,9,10,11,12,13,14,15,16,17,18,19,20,21,22,23,24,25,26,27,28,29,30,31,32,33] from by kernel_rfl];exact ht5)))
  have hcl5:=hf.at_.cls
  obtain ⟨tm,df⟩:=b5
  obtain rfl:df=_:=hf.at_.defers
  clear hf
  simp only [List.foldl_cons,List.foldl_nil] at hE
  rw [show tm.getD 4 undef=_ from e4] at hE;clear e4
  rw [show tm.getD 6 undef=_ from e6] at hE;clear e6
  rw [show tm.getD 7 undef=_ from e7] at hE;clear e7
  rw [show tm.getD 8 undef=_ from e8] at hE;clear e8
  rw [show tm.getD 9 undef=_ from e9] at hE;clear e9
  rw [show tm.getD 10 undef=_ from e10] at hE;clear e10
  rw [show tm.getD 11 undef=_ from e11] at hE;clear e11
  rw [show tm.getD 12 undef=_ from e12] at hE;clear e12
  rw [show tm.getD 13 undef=_ from e13] at hE;clear e13
  rw [show tm.getD 14 undef=_ from e14] at hE;clear e14
  rw [show tm.getD 15 undef=_ from e15] at hE;clear e15
  rw [show tm.getD 16 undef=_ from e16] at hE;clear e16
  rw [show tm.getD 17 undef=_ from e17] at hE;clear e17
  rw [show tm.getD 18 undef=_ from e18] at hE;clear e18
  rw [show tm.getD 19 undef=_ from e19] at hE;clear e19
  rw [show tm.getD 20 undef=_ from e20] at hE;clear e20
  rw [show tm.getD 21 undef=_ from e21] at hE;clear e21
  rw [show tm.getD 22 undef=_ from e22] at hE;clear e22
  rw [show tm.getD 23 undef=_ from e23] at hE;clear e23
  rw [show tm.getD 24 undef=_ from e24] at hE;clear e24
  rw [show tm.getD 25 undef=_ from e25] at hE;clear e25
  rw [show tm.getD 26 undef=_ from e26] at hE;clear e26
  obtain ⟨x27,hx27⟩: ∃x,tm.getD 27 undef=x:=⟨_,rfl⟩;rw [hx27] at hE;rw [show tm.getD 27 undef=_ from hx27] at v27;clear hx27
  obtain ⟨u28,hu28⟩: ∃x,tm.getD 28 undef=x:=⟨_,rfl⟩;rw [hu28] at hE;clear hu28
  obtain ⟨u29,hu29⟩: ∃x,tm.getD 29 undef=x:=⟨_,rfl⟩;rw [hu29] at hE;clear hu29
  obtain ⟨u30,hu30⟩: ∃x,tm.getD 30 undef=x:=⟨_,rfl⟩;rw [hu30] at hE;clear hu30
  obtain ⟨u31,hu31⟩: ∃x,tm.getD 31 undef=x:=⟨_,rfl⟩;rw [hu31] at hE;clear hu31
  obtain ⟨u32,hu32⟩: ∃x,tm.getD 32 undef=x:=⟨_,rfl⟩;rw [hu32] at hE;clear hu32
  obtain ⟨u33,hu33⟩: ∃x,tm.getD 33 undef=x:=⟨_,rfl⟩;rw [hu33] at hE;clear hu33
  rewrite [hE]
  clear hE
  obtain ⟨A2,n2,c2,l2,rfl,hi2,hr2⟩:=v27
  have hb3:=hb.kept hcl5
  obtain ⟨⟨m0,m1⟩,m2,m3⟩:=hb3.facts2
  go_simp
  refine zAh (i:=24) kD rfl (fun K hK=> ?_)
  go_simp
  refine hK _ _ (.inr trivial) ?_
  clear hK K
  refine zAh (i:=25) kD rfl (fun K hK=> ?_)
  go_simp
  refine hK _ _ (.inr trivial) ?_
  clear hK K
  refine zAh (i:=26) kD rfl (fun K hK=> ?_)
  go_simp
  refine hK _ _ (.inr trivial) ?_
  clear hK K
  refine zAh (i:=27) kD rfl (fun K hK=> ?_)
  go_simp
  refine hK _ _ (.inr trivial) ?_
  clear hK K
  have hb4:=hb3.set 0 (.bool (!(decide (v<0)==decide (v'<0))))
  obtain ⟨⟨m0,m1⟩,m2,m3⟩:=hb4.facts2
  refine zAh (i:=28) kD rfl (fun K hK=> ?_)
  go_simp
  refine hK _ _ (.inr trivial) ?_
  clear hK K
  refine zAh (i:=29) kD rfl (fun K hK=> ?_)
  go_simp
  refine hK _ _ (.inr trivial) ?_
  clear hK K
  refine zAh (i:=30) kD rfl (fun K hK=> ?_)
  go_simp
  refine hK _ _ (.inr trivial) ?_
  clear hK K
  refine zAh (i:=31) kD rfl (fun K hK=> ?_)
  go_simp
  refine hK _ _ (.inr trivial) ?_
  clear hK K
  refine zB2 kD ?_
  have hv2:iv (!(decide (v<0)==decide (v'<0))) l2=v*v':=zPf hi2.val
  have hn2:n2<=80000:=by rw [<-hr2.len];exact lA (hi2.len (k:=k+k) (by rw [Nat.pow_add];exact lO hv (lJ hv') (Nat.pow_pos yU))) oJ
  go_wp2_with (go_at_call 90;refine (zC4 B _ A2 n2 c2 l2 _ (hb4.set 1 _) ((hr2.setN hb3 (i:=0) rfl (fun _=>by simp) _).setN hb4 (i:=1) rfl (fun _=>by simp) _) hi2.lt oJ).mono ?_;rintro e w4 ⟨rfl,hn4,hg4⟩)
  refine bodyPost_end (results_none rfl _ _ _) rfl ?_
  refine ⟨⟨_,rfl⟩, ?_, ?_⟩
  ·rw [hv2] at hn4;exact hn4
  ·exact ((zBM hcl5).but (some B)).trans ((yQ W5 ⟨B,0,none⟩ _).trans ((yQ _ ⟨B,1,none⟩ _).trans hg4))
end Go.Proofs.Wd

namespace Go.Proofs.Wd
open Tryz
set_option maxRecDepth 100000
set_option maxHeartbeats 1000000
open Go.RowKit Lb
attribute [local go_sem] Oper.semAt_some yX z4
theorem zRd (w:WW):Calls prog 51 #[.int .i64 1] w fun e w'=> ∃A n c l,e= .returned (.agg #[.bool false, .slice A n c])/\Is l 1/\Rd w' A n c l/\n<=1/\Below w.heap.size w w':=
 (zIg 1 oJ oJ w).mono fun e w' ⟨A,n,c,l,h1,h2,h3,h4⟩=>⟨A,n,c,l,h1,h2,h3,by rw [<-h3.len];exact h2.len (k:=1) (by decide),h4⟩
def zRR (w:WW) (B0 P:Nat) (is:List (Bool×List Nat)) (k:Nat) (W:WW):Prop:=
 zAg W B0 (zBL is k)/\Boxed W P 112 (pO B0 0)/\qW W w.heap.size 30 #[.bool false, .slice none 0 0]/\Below w.heap.size w W/\P+2<=W.heap.size
theorem zGz (w:WW) (B0 P:Nat) (is:List (Bool×List Nat)) {C:Nat} (hC:w.heap.size<=C):OwnFrom C (zRR w B0 P is):=by
 rintro k W W' row ⟨h1,h2,h3,h4,h5⟩ hg hr
 exact ⟨h1.abide hg hr,y8 h2 hg hr,h3.abide hg hr,j7 h4 hg (fZ _) hC hr,lA h5 hg.size⟩
theorem zMC (A:WX Addr) (n c:Nat) (is:List (Bool×List Nat)) (M:Nat) (w:WW) (h:IRd w A n is) (hn:n<=c) (hc:c<=9223372036854775807) (hM:M<=40000) (hv: ∀k,(zDv is k).natAbs<BB^M) (hp: ∀k,k<=n->(zBL is k).natAbs<BB^M) (hnn:n<=1000000:=by first|omega|decide):
  Calls prog 54 #[.slice A n c] w (qA w (zBL is n)):=by
 refine qY func54 rfl ?_
 simp only [ntmps54,List.size_toArray,lK,List.length_nil,Nat.reduceAdd,Nat.reduceSub,Array.replicate_succ,Array.replicate_zero,List.push_toArray,List.append_toArray,List.nil_append,List.cons_append]
 go_wp2_with (first|(go_at_call 51;refine (zRd _).mono ?_;rintro e w1 ⟨A1,n1,c1,l1,rfl,hi1,hr1,hn1,hb1⟩)|(go_at_call 72;refine (zEl false A1 n1 c1 l1 _ hr1 hi1.lt oJ).mono ?_;rintro e w2 ⟨B0,rfl,hB0,hn0,hb0⟩)|(go_at_call 73;refine (zL2 A n c _).mono ?_;rintro e w3 ⟨rfl,rfl⟩))
 have hiv0:iv false l1=1:=by unfold iv;rw [hi1.val];rfl
 rw [hiv0] at hn0
 obtain ⟨W0,hW0⟩: ∃W0,((w2.alloc (.cells #[pO B0 0] 112)).alloc (.cells #[.slice A n c] 100))=W0:=⟨_,rfl⟩
 have hsz:W0.heap.size=w2.heap.size+2:=by rw [<-hW0];simp
 have hB0l:=hn0.lt
 have hbw1:Below w.heap.size w w1:=((fV _ w).alloc (fZ _) _).trans (hb1.mono (by simp))
 have hsz1:w.heap.size<w1.heap.size:=lB (by simp) hb1.size
 have hB0g:w.heap.size<B0:=lB hsz1 hB0
 have hbw2:Below w.heap.size w w2:=hbw1.trans (hb0.mono hbw1.size)
 have hB1:Below w.heap.size w W0:=by rw [<-hW0];exact (hbw2.alloc hbw2.size _).alloc (by simp;exact Nat.le_succ_of_le hbw2.size) _
 have x0:zAg W0 B0 1:=by rw [<-hW0];exact hn0.kept (((fV _ w2).alloc (fZ _) _).alloc (by simp) _)
 have x1:Boxed W0 w2.heap.size 112 (pO B0 0):=by rw [<-hW0];exact (Boxed.new w2 _ _).alloc _
 have x2:Boxed W0 (w2.heap.size+1) 100 (.slice A n c):=by rw [<-hW0];exact zAR _ _ _ (by simp)
 have x3:qW W0 w.heap.size 30 #[.bool false, .slice none 0 0]:=by rw [<-hW0];exact (((res2 hb1 rfl).kept hb0).alloc _).alloc _
 rw [hW0]
 clear hW0
 have hSb: ∀b,(b<w.heap.size∨b=w2.heap.size+1)->b<W0.heap.size:=fun b hb=>by have:=hbw2.size;omega
 refine zB3 (gf:=91) rfl (enters_of func91 kD rfl) (zHk A n c is (w2.heap.size+1) w W0 h hB1 hn hc x2.cell (S:=fun b=>b<w.heap.size∨b=w2.heap.size+1) hSb (.inr rfl) (fun b hb=> .inl hb)) ?hE ?hps zE8.trans (zHT hSb)
  (zRR w B0 w2.heap.size is) (zGz w B0 _ is hB1.size) (zBY (zGz w B0 _ is (fZ _))) wR (fun _ _ _ _ _ _ _ _=>trivial) ⟨x0,x1,x3,hB1,Nat.le_of_eq hsz.symm⟩
  (fun _ xs=>{ tmps:=#[.slice A n c,undef,pO w.heap.size 0,pO w2.heap.size 0,xs.getD 0 undef, .agg #[.bool false, .slice A1 n1 c1],pO B0 0, .slice A n c, .func (.func 91) #[] #[.pointer (some ⟨w2.heap.size+1,0,none⟩)],xs.getD 0 undef,undef,undef,undef,undef,undef,undef,undef],defers:= [] }) ?assign ?body ?done
 case hE=>
  rintro k xs W l o o' ⟨B,rfl,h1,h2⟩ ho hc
  exact ⟨B,rfl,h1,h2.abide (C:=0) (grownBy_putObj' W l o') (fun r e=>by cases e;exact ⟨Nat.zero_le _,o,ho,hc⟩)⟩
 case hps=>
  rintro k xs W ⟨B,rfl,_⟩
  rfl
 case assign=>
  rintro lp k xs W K ⟨B,rfl,h1,h2⟩ hK
  gi_wp2
  exact hK
 case body=>
  rintro lp k xs W hk ⟨h1,h2,h3,h4,h5⟩ ⟨B,rfl,hB,hnb⟩
  have hc2:=h2.cell
  have hne:B≠B0:=by omega
  have hkm:k<=1000000:=by omega
  have hbd:=hp k (lJ hk)
  have hbd2:=hv k
  gi_wp2_with (gi_at_call 74;refine lG (lH.2 (zPX B0 B _ _ M W h1 hnb hbd hbd2 hM)) ?_;rintro e w3 ⟨⟨u,rfl⟩,hn3,hg3⟩)
  have hbx: ∃vs t,qW W B0 t vs:=by obtain ⟨_,_,_,_,g,_⟩:=h1;exact ⟨_,_,g⟩
  obtain ⟨vs,t,g⟩:=hbx
  refine ⟨(KeepsOthers.of_grownBy hg3 (fun j o e ho=>by cases e;rw [show W.heap[B0]?=_ from g] at ho;cases ho;rfl)).from _,⟨(yO.refl _ _).grown hg3 (fun b hb=>⟨by have:=hSb b hb;omega,fun e=>by cases e;omega⟩),hg3.size⟩,hn3,h2.kept hg3 (fun e=>by cases e;omega),(hg3.block _ h3.lt (fun e=>by cases e;omega)).trans h3,zA1 h4 hg3 h4.size oJ,lA h5 hg3.size⟩
 case done=>
  rintro D W hD ⟨h1,h2,h3,h4,h5⟩ _ hd
  obtain ⟨A2,n2,c2,l2,⟨g0,g1⟩,hi2,hr2⟩:=h1.parts
  have hc2:=h2.cell
  obtain ⟨⟨q0,q1⟩,q2,q3⟩:=h3.facts2
  go_wp2
  have hb5:=(h3.set 0 (.bool (decide (zBL is n<0)))).set 1 (.slice A2 n2 c2)
  have hM:Marks w.heap.size ((W.setCell ⟨w.heap.size,0,none⟩ (.bool (decide (zBL is n<0)))).setCell ⟨w.heap.size,1,none⟩ (.slice A2 n2 c2)) [mark D] [D]:=((Marks.nil w.heap.size W).more (D:=D) (by simp) (by have:=hB1.size;omega) hd).others ((KeepsOthers.setCell _ _ _).trans (KeepsOthers.setCell _ _ _))
  obtain ⟨A3,n3,c3,l3,e3,hi3,hr3,hb3⟩:=zGJ h3 h4 (fZ _) hi2 hr2
  cases e3
  refine y2 _ (v:= .agg #[.bool (decide (zBL is n<0)), .slice A2 n2 c2]) (fun w' ho'=> ?_) [D] _ _ hM (Oth.refl _ _) ?_
  ·obtain ⟨⟨c0,c1⟩,_,_⟩:=(hb5.oth ho').facts2
   simp [results,results54,go_sem,c0,c1]
  ·intro w' ho
   exact ⟨A2,n2,c2,l3,rfl,hi3,hr3.oth ho,j5 hb3 ho (fZ _)⟩
def Bd (k:Int) (m:Nat):Prop:=k.natAbs<BB^m
theorem Bd.mono {k:Int} {m m':Nat} (h:Bd k m) (hm:m<=m'):Bd k m':=lB h (lL yU hm)
theorem Bd.add {a b:Int} {m:Nat} (h:Bd a m) (h':Bd b m):Bd (a+b) (m+1):=by
 unfold Bd at*
 rw [Nat.pow_succ]
 unfold BB at*
 omega
theorem Bd.neg {a:Int} {m:Nat} (h:Bd a m):Bd (-a) m:=by
 unfold Bd at*
 rwa [Int.natAbs_neg]
theorem Bd.sub {a b:Int} {m:Nat} (h:Bd a m) (h':Bd b m):Bd (a - b) (m+1):=by
 rw [Int.sub_eq_add_neg]
 exact h.add h'.neg
theorem Bd.mul {a b:Int} {m n:Nat} (h:Bd a m) (h':Bd b n):Bd (a*b) (m+n):=by
 unfold Bd at*
 rw [Int.natAbs_mul,Nat.pow_add]
 exact lO h (lJ h') (Nat.pow_pos yU)
theorem UV.bd {W:WW} {m:Nat} {v:Value} {k:Int} (h:UV W m v k):Bd k m:=h.bound
theorem NV.uv' {W:WW} {v:Value} {k:Int} (h:NV W v k) {m:Nat} (hk:Bd k m):UV W m v k:=h.uv hk
def ISV (W:WW) (m:Nat) (v:Value) (ks:List Int):Prop:= ∃is:List (Bool×List Nat),IS W m v is/\is.map (fun p=>iv p.1 p.2)=ks
theorem ISV.below {W W':WW} {m:Nat} {v:Value} {ks:List Int} (h:ISV W m v ks) (hb:Below W.heap.size W W'):ISV W' m v ks:=by
 obtain ⟨is,h1,h2⟩:=h
 exact ⟨is,h1.below hb,h2⟩
theorem zN7 {W:WW} {m:Nat} {s:Bool} {A:WX Addr} {n c:Nat} {k:Int} (h:UV W m (.agg #[.bool s, .slice A n c]) k): ∃l,Rd W A n c l/\Lt l/\n<=m/\iv s l=k:=by
 obtain ⟨s',A',n',c',l,he,h1,h2,h3,h4⟩:=h
 injection he with he
 injection he with he
 injection he with e1 he
 injection he with e2 _
 injection e1 with e1
 injection e2 with f1 f2 f3
 subst e1;subst f1;subst f2;subst f3
 exact ⟨l,h1,h2,h3,h4⟩
theorem ISV.two {W:WW} {m:Nat} {s:Bool} {A:WX Addr} {n c:Nat} {k:Int} (h:UV W m (.agg #[.bool s, .slice A n c]) k) {s':Bool} {A':WX Addr} {n' c':Nat} {k':Int} (h':UV W m (.agg #[.bool s', .slice A' n' c']) k') (t:TypeId):
  ISV (W.alloc (.cells #[.bool s, .slice A n c, .bool s', .slice A' n' c'] t)) m (.slice (some ⟨W.heap.size,0,none⟩) 2 2) [k,k']:=by
 obtain ⟨l,h1,h2,h3,rfl⟩:=zN7 h
 obtain ⟨l',h1',h2',h3',rfl⟩:=zN7 h'
 exact ⟨[(s,l),(s',l')],IS.two h1 h2 h3 h1' h2' h3' t,rfl⟩
theorem zEN (is:List (Bool×List Nat)): ∀k,k<=is.length->zDi is k=((is.take k).map fun p=>iv p.1 p.2).sum
 |0,_=>rfl
 |k+1,h=>by
  have h1:=zEN is k oJ
  show zDi is k+zDv is k=_
  rw [h1,lP oJ,lI,List.sum_append]
  unfold zDv
  rw [lC oJ]
  simp
theorem zDw (is:List (Bool×List Nat)): ∀k,k<=is.length->zBL is k=((is.take k).map fun p=>iv p.1 p.2).foldl (·*·) 1
 |0,_=>rfl
 |k+1,h=>by
  have h1:=zDw is k oJ
  show zBL is k*zDv is k=_
  rw [h1,lP oJ,lI,List.foldl_append]
  unfold zDv
  rw [lC oJ]
  simp
theorem zF8 {m:Nat} {w:WW} {A:WX Addr} {n:Nat} {is:List (Bool×List Nat)} (h:IRdM m w A n is): ∀k,Bd (zBL is k) (m*k+1)
 |0=>by
  show (1:Int).natAbs<BB^(0+1)
  decide
 |k+1=>by
  have h1:=(zF8 h k).mul (show Bd (zDv is k) m from zF6 h k)
  show Bd (zBL is k*zDv is k) _
  exact h1.mono (by rw [Nat.mul_add];omega)
theorem zTl {W:WW} {m:Nat} {v:Value} {ks:List Int} {k:Int} (h:ISV W m v ks) (hm:m<=100000) (hn:ks.length<=1000) (hk:ks.sum=k):Calls prog 76 #[v] W (zGp W k):=by
 obtain ⟨is,h1,h2⟩:=h
 have:=zTm h1 hm (by rw [<-h2,List.length_map] at hn;omega)
 rw [zEN is is.length (fZ _),List.take_length,h2,hk] at this
 exact this
theorem zNj {W:WW} {m:Nat} {v:Value} {ks:List Int} {k:Int} (h:ISV W m v ks) (hn:m*ks.length+m+1<=40000) (hk:ks.foldl (·*·) 1=k) (hl:ks.length<=1000):Calls prog 54 #[v] W (zGp W k):=by
 obtain ⟨is,⟨A,c,rfl,h3,h4,h1⟩,h2⟩:=h
 have hl2:is.length=ks.length:=by rw [<-h2,List.length_map]
 have:=(zMC A is.length c is (m*ks.length+m+1) W (IRdM.mono h1 oJ) h3 h4 hn (fun k=>lB (zF6 h1 k) (lL yU oJ)) (fun k hk=>(zF8 h1 k).mono (by
  have:m*k<=m*ks.length:=Nat.mul_le_mul_left _ oJ
  omega))).mono fun _ _=>qA.v
 rw [zDw is is.length (fZ _),List.take_length,h2,hk] at this
 exact this
end Go.Proofs.Wd

namespace Go.Proofs.Wd
open Tryz
open Lb
theorem zG2 (n:Int) (d:Nat):(mkRat n d).num.natAbs<=n.natAbs:=by
 rw [Rat.num_mkRat]
 split
 ·simp
 ·have hd:((d.gcd n.natAbs:Nat):Int)∣n:=Int.natAbs_dvd_natAbs.1 (by simpa using Nat.gcd_dvd_right d n.natAbs)
  rw [Int.natAbs_ediv_of_dvd hd]
  simp only [lQ]
  exact Nat.div_le_self _ _
theorem zG3 (n:Int) (d:Nat) (h:0<d):(mkRat n d).den<=d:=by
 rw [Rat.den_mkRat,if_neg oJ]
 exact Nat.div_le_self _ _
theorem zC5 (n:Int) (d:Nat) (h:0<d):(mkRat n d).num.natAbs=n.natAbs / Nat.gcd n.natAbs d:=by
 rw [Rat.num_mkRat,if_neg oJ]
 have hd:((d.gcd n.natAbs:Nat):Int)∣n:=Int.natAbs_dvd_natAbs.1 (by simpa using Nat.gcd_dvd_right d n.natAbs)
 rw [Int.natAbs_ediv_of_dvd hd,Nat.gcd_comm]
 simp only [lQ]
theorem zCd (n:Int) (d:Nat) (h:0<d):(mkRat n d).den=d / Nat.gcd n.natAbs d:=by
 rw [Rat.den_mkRat,if_neg oJ,Nat.gcd_comm]
theorem zC6 (n:Int) (d:Nat) (h:0<d):decide ((mkRat n d).num<0)=decide (n<0):=by
 have h1:=@Rat.divInt_nonneg_iff_of_pos_right n d oJ
 rw [Rat.divInt_ofNat, <-Rat.num_nonneg] at h1
 rw [decide_eq_decide]
 omega
def QB (q:Rat) (m:Nat):Prop:=Bd q.num m/\q.den<BB^m
theorem QB.mono {q:Rat} {m m':Nat} (h:QB q m) (hm:m<=m'):QB q m':=⟨h.1.mono hm,lB h.2 (lL yU hm)⟩
theorem QB.of {k:Int} {d m:Nat} (hk:Bd k m) (hd:d<BB^m) (hm:0<m):QB (mkRat k d) m:=by
 refine ⟨lR (zG2 k d) hk, ?_⟩
 rcases Nat.eq_zero_or_pos d with rfl|h
 ·rw [Rat.mkRat_zero]
  show 1<BB^m
  exact Nat.one_lt_pow oJ (by unfold BB;omega)
 ·exact lR (zG3 k d h) hd
theorem QB.pos {q:Rat} {m:Nat} (h:QB q m):0<m:=by
 rcases Nat.eq_zero_or_pos m with rfl|h0
 ·have:=h.2
  rw [Nat.pow_zero] at this
  have:=q.den_pos
  omega
 ·exact h0
theorem zAB {x m:Nat} (h:x<BB^m):Bd (x:Int) m:=by unfold Bd;rwa [lQ]
theorem zJv {a b m n:Nat} (h:a<BB^m) (h':b<BB^n):a*b<BB^(m+n):=by
 rw [Nat.pow_add]
 exact lO h (lJ h') (Nat.pow_pos yU)
theorem QB.num_add {p q:Rat} {m n:Nat} (h:QB p m) (h':QB q n):Bd (p.num*q.den+q.num*p.den) (m+n+1):=
 (h.1.mul (zAB h'.2)).add ((h'.1.mul (zAB h.2)).mono oJ)
theorem QB.den_mul {p q:Rat} {m n:Nat} (h:QB p m) (h':QB q n):p.den*q.den<BB^(m+n):=zJv h.2 h'.2
theorem QB.add {p q:Rat} {m n:Nat} (h:QB p m) (h':QB q n):QB (p+q) (m+n+1):=by
 rw [Rat.add_def']
 exact QB.of (h.num_add h') (lB (h.den_mul h') (lL yU oJ)) oJ
theorem zKZ {m:Nat} (h:0<m):1<BB^m:=Nat.one_lt_pow oJ (by unfold BB;omega)
theorem zPr (p q:Rat):p.num*q.den - q.num*p.den<0↔p<q:=by rw [Rat.lt_iff];omega
theorem zMS (p q:Rat):p.num*q.den - q.num*p.den=0↔p=q:=by rw [Rat.eq_iff_mul_eq_mul];omega
def qsg (p q:Rat):Int:=(p.num*q.den - q.num*p.den).sign
theorem zOu {p q:Rat}:qsg p q= -1↔p<q:=by
 unfold qsg
 rw [<-zPr,Int.sign_eq_neg_one_iff_neg]
theorem zEy {p q:Rat}:qsg p q=0↔p=q:=by
 unfold qsg
 rw [<-zMS,Int.sign_eq_zero_iff_zero]
theorem zPG (p q:Rat):qsg q p= - qsg p q:=by
 unfold qsg
 rw [<-Int.sign_neg]
 congr 1
 omega
theorem zOv {p q:Rat}:qsg p q=1↔q<p:=by
 rw [<-zOu,zPG p q]
 omega
theorem zKN (p q:Rat):qsg p q= -1∨qsg p q=0∨qsg p q=1:=by
 unfold qsg
 have:=Int.sign_trichotomy (p.num*q.den - q.num*p.den)
 omega
end Go.Proofs.Wd

namespace Go.Proofs.Wd
open Tryz
def fl (q:Rat):Int:=q.num / (q.den:Int)
end Go.Proofs.Wd

namespace Go.Proofs.Wd
open Tryz
section
variable {α:Type} (d:α) (lt:α->α->Bool)
def zCD (l:List α) (i j:Nat):List α:=(l.set i (l.getD j d)).set j (l.getD i d)
structure Tot:Prop where
 asym: ∀x y,lt x y=true->lt y x=false
 tr: ∀x y z,lt x y=true->lt y z=true->lt x z=true
 ntr: ∀x y z,lt x y=false->lt y z=false->lt x z=false
def upH (j:Nat) (l:List α):List α:=if j=0 then l else if lt (l.getD j d) (l.getD ((j - 1) / 2) d) then upH ((j - 1) / 2) (zCD d l ((j - 1) / 2) j) else l
termination_by j
decreasing_by omega
def kid (l:List α) (i n:Nat):Nat:=if 2*i+2<n/\lt (l.getD (2*i+2) d) (l.getD (2*i+1) d)=true then 2*i+2 else 2*i+1
def zAZ (i n:Nat) (l:List α):List α:=if 2*i+1<n then (if lt (l.getD (kid d lt l i n) d) (l.getD i d) then zAZ (kid d lt l i n) n (zCD d l i (kid d lt l i n)) else l) else l
termination_by n - i
decreasing_by (unfold kid;split<;>omega)
def HP (n:Nat) (l:List α):Prop:= ∀k,0<k->k<n->lt (l.getD k d) (l.getD ((k - 1) / 2) d)=false
def zDP (l:List α) (x:α):List α:=upH d lt l.length (l++ [x])
def zDQ (l:List α):List α:=(zAZ d lt 0 (l.length - 1) (zCD d l 0 (l.length - 1))).take (l.length - 1)
variable {d lt}
theorem qG (l:List α) (i j:Nat):(zCD d l i j).length=l.length:=by simp [zCD]
theorem zDb (l:List α) (i k:Nat) (v:α) (h:i<l.length):(l.set i v).getD k d=if k=i then v else l.getD k d:=by
 rw [fY,fY,List.getElem?_set]
 by_cases e:i=k
 ·subst e;simp [h]
 ·simp [e,Ne.symm e]
theorem zCW {l:List α} {i j:Nat} (hi:i<l.length) (hj:j<l.length) (k:Nat):(zCD d l i j).getD k d=if k=j then l.getD i d else if k=i then l.getD j d else l.getD k d:=by
 unfold zCD
 rw [zDb _ _ _ _ (by simpa using hj),zDb _ _ _ _ hi]
theorem zBl {l:List α} {i j:Nat} (hi:i<l.length) (hj:j<l.length):(zCD d l i j).Perm l:=by
 unfold zCD
 rw [fY,fY,lC hi,lC hj]
 exact List.set_set_perm hi hj
theorem zQE (j:Nat) (l:List α):(upH d lt j l).length=l.length:=by
 fun_induction upH d lt j l with
 |case1=>rfl
 |case2 j l h1 h2 ih=>rw [ih,qG]
 |case3=>rfl
theorem zO0 (j:Nat) (l:List α) (hj:j<l.length):(upH d lt j l).Perm l:=by
 fun_induction upH d lt j l with
 |case1=>exact .refl _
 |case2 j l h1 h2 ih=>exact (ih (by rw [qG];omega)).trans (zBl oJ hj)
 |case3=>exact .refl _
theorem zO2 (T:Tot lt) (j:Nat) (l:List α) (hj:j<l.length) (h1: ∀k,0<k->k<l.length->k≠j->lt (l.getD k d) (l.getD ((k - 1) / 2) d)=false)
  (h2: ∀k,0<k->k<l.length->(k - 1) / 2=j->0<j->lt (l.getD k d) (l.getD ((j - 1) / 2) d)=false):HP d lt l.length (upH d lt j l):=by
 fun_induction upH d lt j l with
 |case1 l=>exact fun k hk hl=>h1 k hk hl oJ
 | case2 j l hj0 hlt ih=>
  have hp:(j - 1) / 2<l.length:=by omega
  have hg:=zCW (d:=d) hp hj
  rw [qG] at ih
  refine ih hp (fun k hk hkl hkp=> ?_) (fun k hk hkl hkp hp0=> ?_)
  ·rw [hg,hg]
   by_cases e1:k=j
   ·subst e1
    rw [if_pos rfl,if_neg oJ,if_pos rfl]
    exact T.asym _ _ hlt
   ·rw [if_neg e1,if_neg hkp]
    by_cases e2:(k - 1) / 2=j
    ·rw [if_pos e2]
     exact h2 k hk hkl e2 oJ
    ·rw [if_neg e2]
     by_cases e3:(k - 1) / 2=(j - 1) / 2
     ·rw [if_pos e3]
      have h3:=h1 k hk hkl e1
      rw [e3] at h3
      cases h4:lt (l.getD k d) (l.getD j d) with
      |false=>rfl
      |true=>rw [T.tr _ _ _ h4 hlt] at h3;cases h3
     ·rw [if_neg e3]
      exact h1 k hk hkl e1
  ·rw [hg,hg]
   have hpp:((j - 1) / 2 - 1) / 2≠j:=by omega
   have hpq:((j - 1) / 2 - 1) / 2≠(j - 1) / 2:=by omega
   rw [if_neg hpp,if_neg hpq]
   have hb:=h1 ((j - 1) / 2) hp0 hp oJ
   by_cases e1:k=j
   ·rw [if_pos e1];exact hb
   ·rw [if_neg e1,if_neg oJ]
    have h3:=h1 k hk hkl e1
    rw [hkp] at h3
    exact T.ntr _ _ _ h3 hb
 | case3 j l hj0 hlt=>
  intro k hk hl
  by_cases e:k=j
  ·subst e
   simpa using hlt
  ·exact h1 k hk hl e
theorem zLo {l:List α} {i n:Nat} (h:2*i+1<n):i<kid d lt l i n/\kid d lt l i n<n/\(kid d lt l i n - 1) / 2=i:=by
 unfold kid
 split<;>omega
theorem zGh (i n:Nat) (l:List α):(zAZ d lt i n l).length=l.length:=by
 fun_induction zAZ d lt i n l with
 |case1 i l h1 h2 ih=>rw [ih,qG]
 |case2=>rfl
 |case3=>rfl
theorem zLO (i n:Nat) (l:List α) (hn:n<=l.length):(zAZ d lt i n l).Perm l:=by
 fun_induction zAZ d lt i n l with
 |case1 i l h1 h2 ih=>
  have:=zLo (d:=d) (lt:=lt) (l:=l) h1
  exact (ih (by rw [qG];omega)).trans (zBl oJ oJ)
 |case2=>exact .refl _
 |case3=>exact .refl _
theorem zNL (i n:Nat) (l:List α) (hn:n<=l.length) (k:Nat) (hk:n<=k):(zAZ d lt i n l).getD k d=l.getD k d:=by
 fun_induction zAZ d lt i n l with
 |case1 i l h1 h2 ih=>
  have:=zLo (d:=d) (lt:=lt) (l:=l) h1
  rw [ih (by rw [qG];omega),zCW oJ oJ,if_neg oJ,if_neg oJ]
 |case2=>rfl
 |case3=>rfl
theorem zLQ (T:Tot lt) (i n:Nat) (l:List α) (hn:n<=l.length) (h1: ∀k,0<k->k<n->(k - 1) / 2≠i->lt (l.getD k d) (l.getD ((k - 1) / 2) d)=false)
  (h2: ∀k,0<k->k<n->(k - 1) / 2=i->0<i->lt (l.getD k d) (l.getD ((i - 1) / 2) d)=false):HP d lt n (zAZ d lt i n l):=by
 fun_induction zAZ d lt i n l with
 | case1 i l hlt hl ih=>
  obtain ⟨g1,g2,g3⟩:=zLo (d:=d) (lt:=lt) (l:=l) hlt
  have hsm: ∀k,0<k->k<n->(k - 1) / 2=i->lt (l.getD k d) (l.getD (kid d lt l i n) d)=false:=by
   intro k hk hkn hki
   have irr: ∀x,lt x x=false:=fun x=>by
    cases h:lt x x with
    |false=>rfl
    |true=>have:=T.asym _ _ h;rw [h] at this;cases this
   have:k=2*i+1∨k=2*i+2:=by omega
   unfold kid
   split
   ·rename_i h
    rcases this with rfl|rfl
    ·exact T.asym _ _ h.2
    ·exact irr _
   ·rename_i h
    rcases this with rfl|rfl
    ·exact irr _
    ·cases h4:lt (l.getD (2*i+2) d) (l.getD (2*i+1) d) with
     |false=>rfl
     |true=>exact absurd ⟨hkn,h4⟩ h
  generalize hc:kid d lt l i n=c at*
  have hg:=zCW (d:=d) (l:=l) (i:=i) (j:=c) oJ oJ
  refine ih (by rw [qG];exact hn) (fun k hk hkn hkc=> ?_) (fun k hk hkn hkc hc0=> ?_)
  ·rw [hg,hg]
   by_cases e1:(k - 1) / 2=i
   ·rw [if_neg hkc,if_pos e1]
    by_cases e2:k=c
    ·rw [if_pos e2];exact T.asym _ _ hl
    ·rw [if_neg e2,if_neg oJ]
     exact hsm k hk hkn e1
   ·rw [if_neg hkc,if_neg e1]
    have hkc':k≠c:=fun e=>e1 (by rw [e];exact g3)
    rw [if_neg hkc']
    by_cases e2:k=i
    ·subst e2
     rw [if_pos rfl]
     exact h2 c oJ g2 g3 hk
    ·rw [if_neg e2]
     exact h1 k hk hkn e1
  ·rw [hg,hg,g3]
   rw [if_neg oJ,if_neg oJ,if_neg oJ,if_pos rfl]
   have:=h1 k hk hkn oJ
   rwa [hkc] at this
 | case2 i l hlt hl=>
  intro k hk hkn
  by_cases e:(k - 1) / 2=i
  ·have hl':lt (l.getD (kid d lt l i n) d) (l.getD i d)=false:=by simpa using hl
   have hsm:lt (l.getD k d) (l.getD (kid d lt l i n) d)=false:=by
    have irr: ∀x,lt x x=false:=fun x=>by
     cases h:lt x x with
     |false=>rfl
     |true=>have:=T.asym _ _ h;rw [h] at this;cases this
    have:k=2*i+1∨k=2*i+2:=by omega
    unfold kid
    split
    ·rename_i h
     rcases this with rfl|rfl
     ·exact T.asym _ _ h.2
     ·exact irr _
    ·rename_i h
     rcases this with rfl|rfl
     ·exact irr _
     ·cases h4:lt (l.getD (2*i+2) d) (l.getD (2*i+1) d) with
      |false=>rfl
      |true=>exact absurd ⟨hkn,h4⟩ h
   rw [e]
   exact T.ntr _ _ _ hsm hl'
  ·exact h1 k hk hkn e
 |case3 i l hlt=>exact fun k hk hkn=>h1 k hk hkn oJ
theorem zQd (T:Tot lt) {n:Nat} {l:List α} (h:HP d lt n l): ∀k,k<n->lt (l.getD k d) (l.getD 0 d)=false:=by
 intro k
 induction k using Nat.strongRecOn with
 | _ k ih=>
  intro hk
  by_cases e:k=0
  ·subst e
   cases h:lt (l.getD 0 d) (l.getD 0 d) with
   |false=>rfl
   |true=>have:=T.asym _ _ h;rw [h] at this;cases this
  ·exact T.ntr _ _ _ (h k oJ hk) (ih _ oJ oJ)
theorem zIE (l:List α) (x:α):(zDP d lt l x).length=l.length+1:=by
 unfold zDP
 rw [zQE]
 simp
theorem zKR (l:List α) (x:α):(zDP d lt l x).Perm (x::l):=by
 unfold zDP
 refine (zO0 _ _ (by simp)).trans ?_
 exact List.perm_append_comm
theorem zKS (T:Tot lt) {l:List α} (h:HP d lt l.length l) (x:α):HP d lt (zDP d lt l x).length (zDP d lt l x):=by
 rw [zIE]
 unfold zDP
 have e:(l++ [x]).length=l.length+1:=by simp
 have:=zO2 (d:=d) T l.length (l++ [x]) (by simp) (fun k hk hkl hne=> ?_) (fun k hk hkl hkp h0=> ?_)
 ·rwa [e] at this
 ·have hlt:k<l.length:=by rw [e] at hkl;omega
  have g: ∀q,q<l.length->(l++ [x]).getD q d=l.getD q d:=fun q hq=>by
   rw [fY,fY,lS hq]
  rw [g _ hlt,g _ oJ]
  exact h k hk hlt
 ·rw [e] at hkl;omega
theorem zFQ (l:List α):(zDQ d lt l).length=l.length - 1:=by
 unfold zDQ
 rw [List.length_take,zGh,qG]
 omega
theorem zIF {l:List α} (h0:0<l.length):(zAZ d lt 0 (l.length - 1) (zCD d l 0 (l.length - 1))).getD (l.length - 1) d=l.getD 0 d:=by
 rw [zNL _ _ _ (by rw [qG];omega) _ (fZ _),zCW h0 oJ,if_pos rfl]
theorem zFP {l:List α} (h0:0<l.length):(l.getD 0 d::zDQ d lt l).Perm l:=by
 have h1:=(zLO (d:=d) (lt:=lt) 0 (l.length - 1) (zCD d l 0 (l.length - 1)) (by rw [qG];omega)).trans (zBl h0 oJ)
 refine List.Perm.trans ?_ h1
 have hl:(zAZ d lt 0 (l.length - 1) (zCD d l 0 (l.length - 1))).length=l.length - 1+1:=by rw [zGh,qG];omega
 have e:zAZ d lt 0 (l.length - 1) (zCD d l 0 (l.length - 1))=zDQ d lt l++ [l.getD 0 d]:=by
  have h2:(zAZ d lt 0 (l.length - 1) (zCD d l 0 (l.length - 1))).take (l.length - 1+1)=zAZ d lt 0 (l.length - 1) (zCD d l 0 (l.length - 1)):=List.take_of_length_le oJ
  rw [<-h2,lP oJ]
  have h3:=zIF (d:=d) (lt:=lt) h0
  rw [fY,lC oJ] at h3
  rw [show (zAZ d lt 0 (l.length - 1) (zCD d l 0 (l.length - 1)))[l.length - 1]=l.getD 0 d from h3]
  rfl
 rw [e]
 exact List.perm_append_comm (l₁:= [l.getD 0 d])
theorem zFR (T:Tot lt) {l:List α} (h0:0<l.length) (h:HP d lt l.length l):HP d lt (zDQ d lt l).length (zDQ d lt l):=by
 have hs:=zCW (d:=d) (l:=l) (i:=0) (j:=l.length - 1) h0 oJ
 have h1:=zLQ (d:=d) T 0 (l.length - 1) (zCD d l 0 (l.length - 1)) (by rw [qG];omega) (fun k hk hkn hne=> ?_) (fun k hk hkn hne h00=>by omega)
 ·intro k hk hkl
  rw [zFQ] at hkl
  have h2:=h1 k hk hkl
  unfold zDQ
  rw [fY,fY,lY hkl,lY oJ, <-fY, <-fY]
  exact h2
 ·rw [hs,hs,if_neg oJ,if_neg oJ,if_neg oJ,if_neg oJ]
  exact h k hk oJ
theorem zPP (T:Tot lt) {l:List α} (h:HP d lt l.length l) {x:α} (hx:x∈l):lt x (l.getD 0 d)=false:=by
 obtain ⟨k,hk,rfl⟩:=List.mem_iff_getElem.1 hx
 have:=zQd T h k hk
 rwa [fY,lC hk] at this
end
end Go.Proofs.Wd

namespace Go.Proofs.Wd
open Tryz
structure Wt where
 c:Rat
 s:Nat
 n:Nat
def Wt.lt (x y:Wt):Bool:=if x.c=y.c then (if x.s=y.s then decide (x.n<y.n) else decide (x.s<y.s)) else decide (x.c<y.c)
def wz:Wt:=⟨0,0,0⟩
def Lx (c:Rat) (s:Nat) (c':Rat) (s':Nat):Prop:=c<c'∨(c=c'/\s<=s')
theorem Lx.trans {c c' c'':Rat} {s s' s'':Nat} (h:Lx c s c' s') (k:Lx c' s' c'' s''):Lx c s c'' s'':=by
 unfold Lx at*
 grind
theorem Lx.refl (c:Rat) (s:Nat):Lx c s c s:= .inr ⟨rfl,fZ _⟩
theorem Lx.anti {c c':Rat} {s s':Nat} (h:Lx c s c' s') (k:Lx c' s' c s):c=c'/\s=s':=by
 unfold Lx at*
 grind
theorem Lx.add {c c':Rat} {s s':Nat} (h:Lx c s c' s') (f:Rat):Lx (c+f) (s+1) (c'+f) (s'+1):=by
 unfold Lx at*
 grind
theorem Lx.step {c f:Rat} {s:Nat} (h:0<=f):Lx c s (c+f) (s+1):=by
 unfold Lx
 grind
theorem zSy {x y:Wt} (h:Wt.lt x y=false):Lx y.c y.s x.c x.s:=by
 unfold Wt.lt at h
 unfold Lx
 split at h
 ·split at h<;>grind
 ·grind
theorem zGr:Tot Wt.lt:=by
 refine ⟨fun x y=> ?_,fun x y z=> ?_,fun x y z=> ?_⟩<;>unfold Wt.lt<;>grind
abbrev Adj:=Nat->List (Nat×Rat)
inductive Rch (E:Adj) (a:Nat):Nat->Rat->Nat->Prop
 |nil:Rch E a a 0 0
 |cons {n b:Nat} {c f:Rat} {s:Nat}:Rch E a n c s->(b,f)∈E n->Rch E a b (c+f) (s+1)
def Opt (E:Adj) (a n:Nat) (c:Rat) (s:Nat):Prop:=Rch E a n c s/\ ∀c' s',Rch E a n c' s'->Lx c s c' s'
theorem Opt.one {E:Adj} {a n:Nat} {c c':Rat} {s s':Nat} (h:Opt E a n c s) (k:Opt E a n c' s'):c=c'/\s=s':=(h.2 _ _ k.1).anti (k.2 _ _ h.1)
def Gok (E:Adj) (N:Nat):Prop:= ∀n,n<N-> ∀r,r∈E n->r.1<N/\0<=r.2
def jE (done:List Bool) (w:Wt) (rs:List (Nat×Rat)) (L:List Wt):List Wt:=rs.foldl (fun L r=>if done.getD r.1 false=true then L else zDP wz Wt.lt L ⟨w.c+r.2,w.s+1,r.1⟩) L
def dij (E:Adj):Nat->List Bool->List Wt->List Wt
  |0,_,_=> []
  |f+1,done,L=>if L.length=0 then [] else
      if done.getD (L.getD 0 wz).n false=true then dij E f done (zDQ wz Wt.lt L)
      else L.getD 0 wz::dij E f (done.set (L.getD 0 wz).n true) (jE (done.set (L.getD 0 wz).n true) (L.getD 0 wz) (E (L.getD 0 wz).n) (zDQ wz Wt.lt L))
theorem zEz (done:List Bool) (w:Wt) (rs:List (Nat×Rat)): ∀(L:List Wt) (x:Wt),x∈jE done w rs L↔x∈L∨ ∃r,r∈rs/\done.getD r.1 false=false/\x=⟨w.c+r.2,w.s+1,r.1⟩:=by
 induction rs with
 |nil=>intro L x;simp [jE]
 | cons r rs ih=>
  intro L x
  have e:jE done w (r::rs) L=jE done w rs (if done.getD r.1 false=true then L else zDP wz Wt.lt L ⟨w.c+r.2,w.s+1,r.1⟩):=rfl
  rw [e,ih]
  by_cases h:done.getD r.1 false=true
  ·rw [if_pos h]
   constructor
   ·rintro (h1|⟨q,h1,h2⟩)
    ·exact .inl h1
    ·exact .inr ⟨q, .tail _ h1,h2⟩
   ·rintro (h1|⟨q,h1,h2,h3⟩)
    ·exact .inl h1
    ·rcases hH.1 h1 with rfl|h1
     ·rw [h] at h2;cases h2
     ·exact .inr ⟨q,h1,h2,h3⟩
  ·rw [if_neg h,(zKR L _).mem_iff]
   have h':done.getD r.1 false=false:=by simpa using h
   constructor
   ·rintro (h1|⟨q,h1,h2⟩)
    ·rcases hH.1 h1 with rfl|h1
     ·exact .inr ⟨r, .head _,h',rfl⟩
     ·exact .inl h1
    ·exact .inr ⟨q, .tail _ h1,h2⟩
   ·rintro (h1|⟨q,h1,h2,h3⟩)
    ·exact .inl (.tail _ h1)
    ·rcases hH.1 h1 with rfl|h1
     ·exact .inl (by rw [h3];exact .head _)
     ·exact .inr ⟨q,h1,h2,h3⟩
theorem zDH (done:List Bool) (w:Wt) (rs:List (Nat×Rat)): ∀L:List Wt,HP wz Wt.lt L.length L->HP wz Wt.lt (jE done w rs L).length (jE done w rs L)/\(jE done w rs L).length<=L.length+rs.length:=by
 induction rs with
 |nil=>intro L h;exact ⟨h,fZ _⟩
 | cons r rs ih=>
  intro L h
  have e:jE done w (r::rs) L=jE done w rs (if done.getD r.1 false=true then L else zDP wz Wt.lt L ⟨w.c+r.2,w.s+1,r.1⟩):=rfl
  rw [e]
  split
  ·have:=ih L h
   refine ⟨this.1, ?_⟩
   rw [lK];omega
  ·have:=ih _ (zKS zGr h ⟨w.c+r.2,w.s+1,r.1⟩)
   refine ⟨this.1, ?_⟩
   have h2:=zIE (d:=wz) (lt:=Wt.lt) L ⟨w.c+r.2,w.s+1,r.1⟩
   rw [lK];omega
def zJx (E:Adj) (done:List Bool):Nat->Nat
 |0=>0
 |N+1=>zJx E done N+if done.getD N false=true then 0 else (E N).length
theorem zFp (l:List Bool) (i k:Nat) (h:i<l.length):(l.set i true).getD k false=if k=i then true else l.getD k false:=zDb l i k true h
theorem zD0 {E:Adj} {done:List Bool} {i:Nat} (hi:i<done.length) (hd:done.getD i false=false): ∀N,zJx E (done.set i true) N+(if i<N then (E i).length else 0)=zJx E done N
 |0=>rfl
 | N+1=>by
  have ih:=zD0 (E:=E) hi hd N
  unfold zJx
  rw [zFp _ _ _ hi]
  by_cases e:N=i
  ·subst e
   rw [if_pos rfl,hd] at*
   simp at ih ⊢
   omega
  ·rw [if_neg e]
   by_cases h:i<N
   ·rw [if_pos h] at ih
    rw [if_pos (show i<N+1 by omega)]
    omega
   ·rw [if_neg h] at ih
    rw [if_neg (show ¬i<N+1 by omega)]
    omega
def zJO:List Bool->Nat
 | []=>0
 |b::l=>(if b then 1 else 0)+zJO l
theorem zHZ: ∀l:List Bool,zJO l<=l.length
 | []=>fZ _
 |b::l=>by have:=zHZ l;unfold zJO;rw [lK];split<;>omega
theorem zI4: ∀(l:List Bool) (i:Nat),i<l.length->l.getD i false=false->zJO (l.set i true)=zJO l+1
 | [],_,h,_=>by simp at h
 |b::l,0,_,h=>by
  have:b=false:=h
  subst this
  show (if true then 1 else 0)+zJO l=(if false then 1 else 0)+zJO l+1
  simp;omega
 |b::l,i+1,h,h2=>by
  have:=zI4 l i (by simpa using h) h2
  show (if b then 1 else 0)+zJO (l.set i true)=(if b then 1 else 0)+zJO l+1
  omega
structure DI (E:Adj) (N a:Nat) (out:List Wt) (done:List Bool) (L:List Wt) (f:Nat):Prop where
 hp:HP wz Wt.lt L.length L
 dl:done.length=N
 rc: ∀x,x∈L->x.n<N/\Rch E a x.n x.c x.s/\x.s<=out.length
 ok: ∀w,w∈out->w.n<N/\Opt E a w.n w.c w.s/\w.s<=N
 dn: ∀n,done.getD n false=true↔ ∃w,w∈out/\w.n=n
 ct:out.length=zJO done
 fr:(∃w,w∈out/\w.n=a)∨ ∃x,x∈L/\x.n=a/\x.c=0/\x.s=0
 ed: ∀w,w∈out-> ∀r,r∈E w.n->(∃v,v∈out/\v.n=r.1)∨(⟨w.c+r.2,w.s+1,r.1⟩:Wt)∈L
 fu:L.length+zJx E done N<=f
theorem DI.begin (E:Adj) {N a:Nat} (ha:a<N):DI E N a [] (List.replicate N false) [⟨0,0,a⟩] (1+zJx E (List.replicate N false) N):=by
 have hr: ∀n,(List.replicate N false).getD n false=false:=fun n=>by
  rw [fY,lT]
  split<;>rfl
 refine ⟨fun k hk hl=> ?_,by simp,fun x hx=> ?_,fun w hw=>(by cases hw),fun n=> ?_, ?_, .inr ⟨_, .head _,rfl,rfl,rfl⟩,fun w hw=>(by cases hw),by simp⟩
 ·simp at hl;omega
 ·obtain rfl:=lD.1 hx
  exact ⟨ha, .nil,fZ _⟩
 ·rw [hr]
  simp
 ·have: ∀N,zJO (List.replicate N false)=0:=fun N=>by
   induction N with
   |zero=>rfl
   |succ N ih=>rw [List.replicate_succ];unfold zJO;simpa using ih
  rw [this];rfl
theorem DI.low {E:Adj} {N a:Nat} {out:List Wt} {done:List Bool} {L:List Wt} {f:Nat} (hG:Gok E N) (h:DI E N a out done L f) {n:Nat} {c:Rat} {s:Nat} (hr:Rch E a n c s) (ha:a<N):n<N/\((∃w,w∈out/\w.n=n)∨ ∃x,x∈L/\Lx x.c x.s c s):=by
 induction hr with
 |nil=>
  refine ⟨ha, ?_⟩
  rcases h.fr with h1|⟨x,hx,h1,h2,h3⟩
  ·exact .inl h1
  ·exact .inr ⟨x,hx,by rw [h2,h3];exact .refl _ _⟩
 | @cons n b c f s hr hm ih=>
  obtain ⟨hn,ih⟩:=ih
  obtain ⟨hb,hf⟩:=hG n hn _ hm
  refine ⟨hb, ?_⟩
  rcases ih with ⟨w,hw,rfl⟩|⟨x,hx,hl⟩
  ·rcases h.ed w hw _ hm with h1|h1
   ·exact .inl h1
   ·exact .inr ⟨_,h1,((h.ok w hw).2.1.2 _ _ hr).add f⟩
  ·exact .inr ⟨x,hx,hl.trans (.step hf)⟩
theorem zI2 {E:Adj} {f:Nat} {done:List Bool} {L:List Wt} (h:L.length=0):dij E f done L= []:=by
 cases f with
 |zero=>rfl
 |succ f=>unfold dij;rw [if_pos h]
theorem DI.skip {E:Adj} {N a:Nat} {out:List Wt} {done:List Bool} {L:List Wt} {f:Nat} (h:DI E N a out done L f) (h0:0<L.length) (hd:done.getD (L.getD 0 wz).n false=true): ∃f',f=f'+1/\DI E N a out done (zDQ wz Wt.lt L) f'/\dij E f done L=dij E f' done (zDQ wz Wt.lt L):=by
 have hf:=h.fu
 obtain ⟨f',rfl⟩: ∃f',f=f'+1:=⟨f - 1,by omega⟩
 have hpp:=zFP (d:=wz) (lt:=Wt.lt) h0
 have hsub: ∀x,x∈L->x=L.getD 0 wz∨x∈zDQ wz Wt.lt L:=fun x hx=>hH.1 (hpp.mem_iff.2 hx)
 have hin: ∀x,x∈zDQ wz Wt.lt L->x∈L:=fun x hx=>hpp.mem_iff.1 (.tail _ hx)
 have hw:=(h.dn _).1 hd
 refine ⟨f',rfl,⟨zFR zGr h0 h.hp,h.dl,fun x hx=>h.rc x (hin x hx),h.ok,h.dn,h.ct, ?_,fun w hwo r hr=> ?_, ?_⟩, ?_⟩
 ·rcases h.fr with h1|⟨x,hx,h1,h2⟩
  ·exact .inl h1
  ·rcases hsub x hx with rfl|hx
   ·rw [<-h1];exact .inl hw
   ·exact .inr ⟨x,hx,h1,h2⟩
 ·rcases h.ed w hwo r hr with h1|h1
  ·exact .inl h1
  ·rcases hsub _ h1 with h2|h2
   ·rw [<-h2] at hw;exact .inl hw
   ·exact .inr h2
 ·rw [zFQ];omega
 ·rw [dij,if_neg oJ,if_pos hd]
theorem DI.settle {E:Adj} {N a:Nat} {out:List Wt} {done:List Bool} {L:List Wt} {f:Nat} (hG:Gok E N) (ha:a<N) (h:DI E N a out done L f) (h0:0<L.length) {w:Wt} (ew:L.getD 0 wz=w) (hd:done.getD w.n false=false):
  ∃f',f=f'+1/\w.n<N/\w.s<=out.length/\Rch E a w.n w.c w.s/\DI E N a (out++ [w]) (done.set w.n true) (jE (done.set w.n true) w (E w.n) (zDQ wz Wt.lt L)) f'/\dij E f done L=w::dij E f' (done.set w.n true) (jE (done.set w.n true) w (E w.n) (zDQ wz Wt.lt L)):=by
 have hf:=h.fu
 obtain ⟨f',rfl⟩: ∃f',f=f'+1:=⟨f - 1,by omega⟩
 have hpp:=zFP (d:=wz) (lt:=Wt.lt) h0
 rw [ew] at hpp
 have hsub: ∀x,x∈L->x=w∨x∈zDQ wz Wt.lt L:=fun x hx=>hH.1 (hpp.mem_iff.2 hx)
 have hin: ∀x,x∈zDQ wz Wt.lt L->x∈L:=fun x hx=>hpp.mem_iff.1 (.tail _ hx)
 have hwL:w∈L:=hpp.mem_iff.1 (.head _)
 have hmin: ∀x,x∈L->Lx w.c w.s x.c x.s:=fun x hx=>zSy (by have:=zPP zGr h.hp hx;rwa [ew] at this)
 obtain ⟨hwn,hwr,hws⟩:=h.rc w hwL
 have hno: ¬ ∃v,v∈out/\v.n=w.n:=fun hv=>by rw [(h.dn _).2 hv] at hd;cases hd
 have hopt:Opt E a w.n w.c w.s:=⟨hwr,fun c' s' hr=>by
  rcases (h.low hG hr ha).2 with h1|⟨x,hx,hl⟩
  ·exact absurd h1 hno
  ·exact (hmin x hx).trans hl⟩
 have hlt:w.n<done.length:=by rw [h.dl];exact hwn
 have hset:=fun n=>zFp done w.n n hlt
 have hcnt:=zI4 done w.n hlt hd
 have hle:=zHZ (done.set w.n true)
 rw [lE,h.dl] at hle
 have hph:=zDH (done.set w.n true) w (E w.n) _ (zFR zGr h0 h.hp)
 have hpm:=zEz (done.set w.n true) w (E w.n) (zDQ wz Wt.lt L)
 have hpl:=zFQ (d:=wz) (lt:=Wt.lt) L
 have hps:=zD0 (E:=E) hlt hd N
 rw [if_pos hwn] at hps
 have hol:(out++ [w]).length=out.length+1:=by simp
 have hctx:=h.ct
 refine ⟨f',rfl,hwn,hws,hwr,⟨hph.1,by rw [lE];exact h.dl,fun x hx=> ?_,fun v hv=> ?_,fun n=> ?_,by rw [hol,hcnt,h.ct], ?_,fun v hv r hr=> ?_, ?_⟩, ?_⟩
 ·rcases (hpm x).1 hx with hx|⟨r,hr,h1,rfl⟩
  ·obtain ⟨h1,h2,h3⟩:=h.rc x (hin x hx)
   exact ⟨h1,h2,by rw [hol];omega⟩
  ·exact ⟨(hG _ hwn _ hr).1, .cons hwr hr,by rw [hol];show w.s+1<=_;omega⟩
 ·rcases lF.1 hv with hv|hv
  ·exact h.ok v hv
  ·obtain rfl:=lD.1 hv
   exact ⟨hwn,hopt,by omega⟩
 ·rw [hset]
  by_cases e:n=w.n
  ·rw [if_pos e]
   exact ⟨fun _=>⟨w,by simp,e.symm⟩,fun _=>rfl⟩
  ·rw [if_neg e,h.dn]
   constructor
   ·rintro ⟨v,hv,h1⟩
    exact ⟨v,lM _ hv,h1⟩
   ·rintro ⟨v,hv,h1⟩
    rcases lF.1 hv with hv|hv
    ·exact ⟨v,hv,h1⟩
    ·obtain rfl:=lD.1 hv
     exact absurd h1.symm e
 ·rcases h.fr with ⟨v,hv,h1⟩|⟨x,hx,h1,h2,h3⟩
  ·exact .inl ⟨v,lM _ hv,h1⟩
  ·rcases hsub x hx with rfl|hx
   ·exact .inl ⟨x,by simp,h1⟩
   ·exact .inr ⟨x,(hpm x).2 (.inl hx),h1,h2,h3⟩
 ·have key: ∀x:Wt,x∈L->(∃u,u∈out++ [w]/\u.n=x.n)∨x∈jE (done.set w.n true) w (E w.n) (zDQ wz Wt.lt L):=fun x hx=>by
   rcases hsub x hx with rfl|hx
   ·exact .inl ⟨x,by simp,rfl⟩
   ·exact .inr ((hpm x).2 (.inl hx))
  rcases lF.1 hv with hv|hv
  ·rcases h.ed v hv r hr with ⟨u,hu,h1⟩|h1
   ·exact .inl ⟨u,lM _ hu,h1⟩
   ·exact key _ h1
  ·obtain rfl:=lD.1 hv
   cases hdr:(done.set v.n true).getD r.1 false with
   |false=>exact .inr ((hpm _).2 (.inr ⟨r,hr,hdr,rfl⟩))
   | true=>
    rw [hset] at hdr
    by_cases e:r.1=v.n
    ·exact .inl ⟨v,by simp,e.symm⟩
    ·rw [if_neg e] at hdr
     obtain ⟨u,hu,h1⟩:=(h.dn _).1 hdr
     exact .inl ⟨u,lM _ hu,h1⟩
 ·omega
 ·rw [dij,if_neg oJ,ew,if_neg (by rw [hd];decide)]
theorem vE {E:Adj} {N a:Nat} (hG:Gok E N) (ha:a<N): ∀(f:Nat) {out:List Wt} {done:List Bool} {L:List Wt},DI E N a out done L f-> ∃done' f',DI E N a (out++dij E f done L) done' [] f'
 | f,out,done,L,h=>by
  by_cases h0:L.length=0
  ·rw [zI2 h0,List.append_nil]
   have:=List.eq_nil_of_length_eq_zero h0
   subst this
   exact ⟨done,f,h⟩
  ·cases hd:done.getD (L.getD 0 wz).n false with
   |true=>
    obtain ⟨f',rfl,h1,h2⟩:=h.skip oJ hd
    rw [h2]
    exact vE hG ha f' h1
   |false=>
    obtain ⟨f',rfl,_,_,_,h1,h2⟩:=h.settle hG ha oJ rfl hd
    rw [h2]
    have:=vE hG ha f' h1
    rwa [List.append_assoc,List.singleton_append] at this
def stl (E:Adj) (N a:Nat):List Wt:=dij E (1+zJx E (List.replicate N false) N) (List.replicate N false) [⟨0,0,a⟩]
theorem zOb {E:Adj} {N a:Nat} (hG:Gok E N) (ha:a<N):(∀w,w∈stl E N a->w.n<N/\Opt E a w.n w.c w.s/\w.s<=N)/\ ∀n c s,Rch E a n c s->n<N/\ ∃w,w∈stl E N a/\w.n=n:=by
 obtain ⟨done',f',h⟩:=vE hG ha _ (DI.begin E ha)
 rw [List.nil_append] at h
 refine ⟨h.ok,fun n c s hr=> ?_⟩
 obtain ⟨h1,h2⟩:=h.low hG hr ha
 refine ⟨h1, ?_⟩
 rcases h2 with h2|⟨x,hx,_⟩
 ·exact h2
 ·cases hx
def zEW (ws:List Wt) (r:List Rat):List Rat:=ws.foldl (fun r w=>r.set w.n w.c) r
def zEn (ws:List Wt) (r:List Int):List Int:=ws.foldl (fun r w=>r.set w.n (w.s:Int)) r
theorem zBh {β:Type} (g:Wt->β): ∀(ws:List Wt) (r:List β),(ws.foldl (fun r w=>r.set w.n (g w)) r).length=r.length
 | [],_=>rfl
 |w::ws,r=>by
  have:=zBh g ws (r.set w.n (g w))
  rw [lE] at this
  exact this
theorem zDc {β:Type} (g:Wt->β) (d:β) (n:Nat) (v:β): ∀(ws:List Wt) (r:List β),(∀w,w∈ws->w.n<r.length)->(∀w,w∈ws->w.n=n->g w=v)->((∃w,w∈ws/\w.n=n)∨r.getD n d=v)->(ws.foldl (fun r w=>r.set w.n (g w)) r).getD n d=v
 | [],r,_,_,h=>by
  rcases h with ⟨_,h,_⟩|h
  ·cases h
  ·exact h
 | w::ws,r,hl,hv,h=>by
  show (ws.foldl (fun r w=>r.set w.n (g w)) (r.set w.n (g w))).getD n d=v
  refine zDc g d n v ws _ (fun u hu=>by rw [lE];exact hl u (.tail _ hu)) (fun u hu=>hv u (.tail _ hu)) ?_
  rw [zDb _ _ _ _ (hl w (.head _))]
  by_cases e:n=w.n
  ·rw [if_pos e]
   exact .inr (hv w (.head _) e.symm)
  ·rw [if_neg e]
   rcases h with ⟨u,hu,h1⟩|h
   ·rcases hH.1 hu with rfl|hu
    ·exact absurd h1.symm e
    ·exact .inl ⟨u,hu,h1⟩
   ·exact .inr h
structure CS (E:Adj) (N a:Nat) (cs:List Rat) (ss:List Int):Prop where
 cl:cs.length=N
 sl:ss.length=N
 at_: ∀n,n<N->(∃s:Nat,Opt E a n (cs.getD n 0) s/\ss.getD n 0=(s:Int)/\s<=N)∨((∀c s, ¬Rch E a n c s)/\cs.getD n 0=0/\ss.getD n 0= -1)
theorem zRK {E:Adj} {N a:Nat} (hG:Gok E N) (ha:a<N):CS E N a (zEW (stl E N a) (List.replicate N 0)) (zEn (stl E N a) (List.replicate N (-1))):=by
 obtain ⟨h1,h2⟩:=zOb hG ha
 refine ⟨by unfold zEW;rw [zBh];simp,by unfold zEn;rw [zBh];simp,fun n hn=> ?_⟩
 have hr0:(List.replicate N (0:Rat)).getD n 0=0:=by rw [fY,lT,if_pos hn];rfl
 have hr1:(List.replicate N (-1:Int)).getD n 0= -1:=by rw [fY,lT,if_pos hn];rfl
 by_cases hex: ∃w,w∈stl E N a/\w.n=n
 ·obtain ⟨w,hw,rfl⟩:=hex
  obtain ⟨g1,g2,g3⟩:=h1 w hw
  left
  have e1:(zEW (stl E N a) (List.replicate N 0)).getD w.n 0=w.c:=zDc (·.c) 0 w.n w.c _ _ (fun u hu=>by simp [(h1 u hu).1]) (fun u hu e=>by have:=(h1 u hu).2.1;rw [e] at this;exact (this.one g2).1) (.inl ⟨w,hw,rfl⟩)
  have e2:(zEn (stl E N a) (List.replicate N (-1))).getD w.n 0=(w.s:Int):=zDc (fun w=>(w.s:Int)) 0 w.n _ _ _ (fun u hu=>by simp [(h1 u hu).1]) (fun u hu e=>by have:=(h1 u hu).2.1;rw [e] at this;rw [(this.one g2).2]) (.inl ⟨w,hw,rfl⟩)
  exact ⟨w.s,by rw [e1];exact g2,e2,g3⟩
 ·right
  refine ⟨fun c s hr=>hex (h2 n c s hr).2, ?_, ?_⟩
  ·exact zDc (·.c) 0 n 0 _ _ (fun u hu=>by simp [(h1 u hu).1]) (fun u hu e=>absurd ⟨u,hu,e⟩ hex) (.inr hr0)
  ·exact zDc (fun w=>(w.s:Int)) 0 n (-1) _ _ (fun u hu=>by simp [(h1 u hu).1]) (fun u hu e=>absurd ⟨u,hu,e⟩ hex) (.inr hr1)
end Go.Proofs.Wd

namespace Go.Proofs.Wd
open Tryz
def yS (N:Nat) (x:Int):Bool:=decide (0<=x)&&decide (x<(N:Int))
theorem jX {N:Nat} {x:Int} (h:yS N x=true):x.toNat<N/\(x.toNat:Int)=x:=by
 unfold yS at h
 simp only [lU,decide_eq_true_eq] at h
 omega
theorem zGa {N k:Nat}:yS N (k:Int)=decide (k<N):=by
 unfold yS
 rw [Bool.eq_iff_iff]
 simp only [lU,decide_eq_true_eq]
 omega
def zB0 (N:Nat) (j:Int×Int):Bool:= !((j.1==j.2)|| !yS N j.1|| !yS N j.2)
def zDj (fs:List Rat) (i:Nat):Rat:=if 0<fs.getD i 0 then fs.getD i 0 else 0
theorem zQj (fs:List Rat) (i:Nat):0<=zDj fs i:=by
 unfold zDj
 split<;>grind
def zFG (N:Nat) (js:List (Int×Int)) (fs:List Rat) (i:Nat):List (Nat×Nat×Rat):=
 if zB0 N (js.getD i (0,0)) then [((js.getD i (0,0)).1.toNat,(js.getD i (0,0)).2.toNat,zDj fs i),((js.getD i (0,0)).2.toNat,(js.getD i (0,0)).1.toNat,zDj fs i)] else []
def zAC (N:Nat) (js:List (Int×Int)) (fs:List Rat) (k:Nat):List (Nat×Nat×Rat):=(List.range k).flatMap (zFG N js fs)
theorem zDq (N:Nat) (js:List (Int×Int)) (fs:List Rat) (k:Nat):zAC N js fs (k+1)=zAC N js fs k++zFG N js fs k:=by
 unfold zAC
 rw [List.range_succ,List.flatMap_append,List.flatMap_singleton]
def rds (N:Nat) (js:List (Int×Int)) (fs:List Rat):List (Nat×Nat×Rat):=zAC N js fs js.length
def zH (rs:List (Nat×Nat×Rat)):Adj:=fun a=>(rs.filter fun r=>r.1==a).map (·.2)
theorem zL4 (rs qs:List (Nat×Nat×Rat)) (a:Nat):zH (rs++qs) a=zH rs a++zH qs a:=by
 unfold zH
 rw [List.filter_append,lI]
theorem zCN {rs:List (Nat×Nat×Rat)} {a b:Nat} {f:Rat}:(b,f)∈zH rs a↔(a,b,f)∈rs:=by
 unfold zH
 rw [List.mem_map]
 constructor
 ·rintro ⟨⟨x,y,z⟩,h1,h2⟩
  rw [List.mem_filter] at h1
  have h3:x=a:=by simpa using h1.2
  simp only [lV] at h2
  rw [<-h3, <-h2.1, <-h2.2]
  exact h1.1
 ·intro h
  exact ⟨(a,b,f),List.mem_filter.2 ⟨h,by simp⟩,rfl⟩
theorem zHP {N:Nat} {js:List (Int×Int)} {fs:List Rat} {k:Nat} {r:Nat×Nat×Rat} (h:r∈zAC N js fs k): ∃i,i<k/\zB0 N (js.getD i (0,0))=true/\(r=((js.getD i (0,0)).1.toNat,(js.getD i (0,0)).2.toNat,zDj fs i)∨r=((js.getD i (0,0)).2.toNat,(js.getD i (0,0)).1.toNat,zDj fs i)):=by
 unfold zAC at h
 rw [List.mem_flatMap] at h
 obtain ⟨i,hi,h⟩:=h
 unfold zFG at h
 split at h
 ·rename_i hj
  refine ⟨i,List.mem_range.1 hi,hj, ?_⟩
  simpa using h
 ·cases h
theorem zEM {N:Nat} {j:Int×Int} (h:zB0 N j=true):j.1≠j.2/\yS N j.1=true/\yS N j.2=true:=by
 unfold zB0 at h
 simp only [Bool.not_or,Bool.not_not,lU,Bool.not_eq_true',beq_eq_false_iff_ne] at h
 exact ⟨h.1.1,h.1.2,h.2⟩
theorem zKw {N:Nat} {js:List (Int×Int)} {fs:List Rat} {k a b:Nat} {f:Rat} (h:(a,b,f)∈zAC N js fs k):a<N/\b<N/\a≠b/\0<=f/\ ∃i,i<k/\f=zDj fs i:=by
 obtain ⟨i,hi,hj,h⟩:=zHP h
 obtain ⟨h1,h2,h3⟩:=zEM hj
 obtain ⟨g1,g2⟩:=jX h2
 obtain ⟨g3,g4⟩:=jX h3
 have:=zQj fs i
 rcases h with h|h<;>simp only [lV] at h<;>obtain ⟨rfl,rfl,rfl⟩:=h
 ·exact ⟨g1,g3,by omega,this,i,hi,rfl⟩
 ·exact ⟨g3,g1,by omega,this,i,hi,rfl⟩
theorem zPq {N:Nat} {js:List (Int×Int)} {fs:List Rat} {k a b:Nat} {f:Rat} (h:(a,b,f)∈zAC N js fs k):(b,a,f)∈zAC N js fs k:=by
 obtain ⟨i,hi,hj,h⟩:=zHP h
 unfold zAC
 rw [List.mem_flatMap]
 refine ⟨i,List.mem_range.2 hi, ?_⟩
 unfold zFG
 rw [if_pos hj]
 rcases h with h|h<;>simp only [lV] at h<;>obtain ⟨rfl,rfl,rfl⟩:=h<;>simp
abbrev grE (N:Nat) (js:List (Int×Int)) (fs:List Rat):Adj:=zH (rds N js fs)
theorem zGb (N:Nat) (js:List (Int×Int)) (fs:List Rat):Gok (grE N js fs) N:=fun n _ r hr=>by
 obtain ⟨_,h1,_,h2,_⟩:=zKw (zCN.1 hr)
 exact ⟨h1,h2⟩
theorem zOI {N:Nat} {js:List (Int×Int)} {fs:List Rat} {a b:Nat} {f:Rat} (h:(b,f)∈grE N js fs a):(a,f)∈grE N js fs b:=zCN.2 (zPq (zCN.1 h))
theorem zSE {N:Nat} {js:List (Int×Int)} {fs:List Rat} {a b:Nat} {f:Rat} (h:(b,f)∈grE N js fs a):a<N:=(zKw (zCN.1 h)).1
/-! ### The cheapest of the roads between two -/
def chS (b:Int) (o:WX Rat) (r:Nat×Rat):WX Rat:=if (r.1:Int)=b then (match o with|none=>some r.2|some g=>if r.2<g then some r.2 else o) else o
def ch (E:Adj) (a:Nat) (b:Int):WX Rat:=(E a).foldl (chS b) none
theorem zNS {b:Int} {r:Nat×Rat} (e:(r.1:Int)=b):chS b none r=some r.2:=by unfold chS;rw [if_pos e]
theorem zNR {b:Int} {r:Nat×Rat} (e:(r.1:Int)=b) (h:Rat):chS b (some h) r=if r.2<h then some r.2 else some h:=by unfold chS;rw [if_pos e]
theorem zH0 (b:Int): ∀(l:List (Nat×Rat)) (o:WX Rat),(∀g,l.foldl (chS b) o=some g->(o=some g∨ ∃r,r∈l/\(r.1:Int)=b/\r.2=g)/\(∀h,o=some h->g<=h)/\ ∀r,r∈l->(r.1:Int)=b->g<=r.2)/\(l.foldl (chS b) o=none->o=none/\ ∀r,r∈l->(r.1:Int)≠b)
 | [],o=>⟨fun g h=>⟨.inl h,fun h' e=>by rw [show o=some g from h] at e;cases e;exact Rat.le_refl,fun r hr=>by cases hr⟩,fun h=>⟨h,fun r hr=>by cases hr⟩⟩
 | r::l,o=>by
  obtain ⟨h1,h2⟩:=zH0 b l (chS b o r)
  refine ⟨fun g hg=> ?_,fun hg=> ?_⟩
  ·obtain ⟨g1,g2,g3⟩:=h1 g hg
   by_cases e:(r.1:Int)=b
   ·cases o with
    | none=>
     rw [zNS e] at g1 g2
     refine ⟨.inr ?_,(fun h' e'=>nomatch e'),fun q hq hqb=> ?_⟩
     ·rcases g1 with g1|⟨q,hq,g1⟩
      ·cases g1;exact ⟨r, .head _,e,rfl⟩
      ·exact ⟨q, .tail _ hq,g1⟩
     ·rcases hH.1 hq with rfl|hq
      ·exact g2 _ rfl
      ·exact g3 q hq hqb
    | some h0=>
     rw [zNR e] at g1 g2
     by_cases hlt:r.2<h0
     ·rw [if_pos hlt] at g1 g2
      have:=g2 _ rfl
      refine ⟨.inr ?_,fun h' e'=>by cases e';grind,fun q hq hqb=> ?_⟩
      ·rcases g1 with g1|⟨q,hq,g1⟩
       ·cases g1;exact ⟨r, .head _,e,rfl⟩
       ·exact ⟨q, .tail _ hq,g1⟩
      ·rcases hH.1 hq with rfl|hq
       ·exact this
       ·exact g3 q hq hqb
     ·rw [if_neg hlt] at g1 g2
      have:=g2 _ rfl
      refine ⟨?_,fun h' e'=>by cases e';exact this,fun q hq hqb=> ?_⟩
      ·rcases g1 with g1|⟨q,hq,g1⟩
       ·exact .inl g1
       ·exact .inr ⟨q, .tail _ hq,g1⟩
      ·rcases hH.1 hq with rfl|hq
       ·grind
       ·exact g3 q hq hqb
   ·have hs:chS b o r=o:=by unfold chS;rw [if_neg e]
    rw [hs] at g1 g2
    refine ⟨?_,g2,fun q hq hqb=> ?_⟩
    ·rcases g1 with g1|⟨q,hq,g1⟩
     ·exact .inl g1
     ·exact .inr ⟨q, .tail _ hq,g1⟩
    ·rcases hH.1 hq with rfl|hq
     ·exact absurd hqb e
     ·exact g3 q hq hqb
  ·obtain ⟨g1,g2⟩:=h2 hg
   by_cases e:(r.1:Int)=b
   ·exfalso
    unfold chS at g1
    rw [if_pos e] at g1
    cases o with
    |none=>cases g1
    |some h0=>
     have g1:(if r.2<h0 then some r.2 else some h0)=none:=g1
     split at g1<;>cases g1
   ·have hs:chS b o r=o:=by unfold chS;rw [if_neg e]
    rw [hs] at g1
    refine ⟨g1,fun q hq=> ?_⟩
    rcases hH.1 hq with rfl|hq
    ·exact e
    ·exact g2 q hq
theorem zQr {E:Adj} {a:Nat} {b:Int} {g:Rat} (h:ch E a b=some g):(∃k:Nat,(k:Int)=b/\(k,g)∈E a)/\ ∀(k:Nat) (f:Rat),(k:Int)=b->(k,f)∈E a->g<=f:=by
 obtain ⟨h1,_,h3⟩:=(zH0 b (E a) none).1 g h
 refine ⟨?_,fun k f hk hf=>h3 _ hf hk⟩
 rcases h1 with h1|⟨⟨k,f⟩,hr,h1,h2⟩
 ·cases h1
 ·subst h2
  exact ⟨k,h1,hr⟩
theorem zQs {E:Adj} {a:Nat} {b:Int} (h:ch E a b=none): ∀(k:Nat) (f:Rat),(k:Int)=b->(k,f) ∉ E a:=fun _ _ hk hf=>((zH0 b (E a) none).2 h).2 _ hf hk
/-! ### What a walk costs -/
def zOT (E:Adj) (N:Nat) (way:List Int):Nat->WX Rat
 |0=>some 0
 |i+1=>(zOT E N way i).bind fun s=>if yS N (way.getD i 0) then (if i=0 then some s else (ch E (way.getD (i - 1) 0).toNat (way.getD i 0)).map (s+·)) else none
theorem zN2 {E:Adj} {N:Nat} (l:List Int) (x:Int): ∀i,i<=l.length->zOT E N (l++ [x]) i=zOT E N l i
 |0,_=>rfl
 | i+1,h=>by
  have g: ∀j,j<l.length->(l++ [x]).getD j 0=l.getD j 0:=fun j hj=>by
   rw [fY,fY,lS hj]
  show (zOT E N (l++ [x]) i).bind _=(zOT E N l i).bind _
  rw [zN2 l x i oJ,g i oJ,g (i - 1) oJ]
/-! ### The way told -/
def zDR (cs:List Rat) (ss:List Int) (at_:Nat) (best:Nat) (r:Nat×Rat):Nat:=if ss.getD r.1 0=ss.getD at_ 0 - 1/\r.1<best/\cs.getD r.1 0+r.2=cs.getD at_ 0 then r.1 else best
def nxF (E:Adj) (N:Nat) (cs:List Rat) (ss:List Int) (at_:Nat):Nat:=(E at_).foldl (zDR cs ss at_) N
def zE4 (cs:List Rat) (ss:List Int) (at_:Nat) (r:Nat×Rat):Prop:=ss.getD r.1 0=ss.getD at_ 0 - 1/\cs.getD r.1 0+r.2=cs.getD at_ 0
theorem zHi (cs:List Rat) (ss:List Int) (at_:Nat): ∀(l:List (Nat×Rat)) (b:Nat),(l.foldl (zDR cs ss at_) b=b∨ ∃r,r∈l/\zE4 cs ss at_ r/\r.1=l.foldl (zDR cs ss at_) b)/\l.foldl (zDR cs ss at_) b<=b/\ ∀r,r∈l->zE4 cs ss at_ r->l.foldl (zDR cs ss at_) b<=r.1
 | [],b=>⟨.inl rfl,fZ _,fun r hr=>by cases hr⟩
 | r::l,b=>by
  obtain ⟨h1,h2,h3⟩:=zHi cs ss at_ l (zDR cs ss at_ b r)
  rw [List.foldl_cons]
  have hb:(zDR cs ss at_ b r=b/\ ¬(zE4 cs ss at_ r/\r.1<b))∨(zDR cs ss at_ b r=r.1/\zE4 cs ss at_ r/\r.1<b):=by
   unfold zDR zE4
   split
   ·rename_i h;exact .inr ⟨rfl,⟨h.1,h.2.2⟩,h.2.1⟩
   ·rename_i h;exact .inl ⟨rfl,fun g=>h ⟨g.1.1,g.2,g.1.2⟩⟩
  rcases hb with ⟨e,hn⟩|⟨e,hp,hlt⟩
  ·rw [e] at h1 h2 h3 ⊢
   refine ⟨?_,h2,fun q hq hp=> ?_⟩
   ·rcases h1 with h1|⟨q,hq,h1⟩
    ·exact .inl h1
    ·exact .inr ⟨q, .tail _ hq,h1⟩
   ·rcases hH.1 hq with rfl|hq
    ·exact lA h2 (Nat.not_lt.1 fun h=>hn ⟨hp,h⟩)
    ·exact h3 q hq hp
  ·rw [e] at h1 h2 h3 ⊢
   refine ⟨.inr ?_,by omega,fun q hq hp=> ?_⟩
   ·rcases h1 with h1|⟨q,hq,h1⟩
    ·exact ⟨r, .head _,hp,h1.symm⟩
    ·exact ⟨q, .tail _ hq,h1⟩
   ·rcases hH.1 hq with rfl|hq
    ·exact h2
    ·exact h3 q hq hp
theorem zIw {E:Adj} {a n:Nat} {c:Rat} (h:Rch E a n c 0):n=a/\c=0:=by
 cases h
 exact ⟨rfl,rfl⟩
theorem zOo {E:Adj} {N a n:Nat} {c:Rat} {s:Nat} (hG:Gok E N) (ha:a<N) (h:Rch E a n c s):n<N:=by
 induction h with
 |nil=>exact ha
 |cons _ hm ih=>exact (hG _ ih _ hm).1
theorem CS.of {E:Adj} {N a n:Nat} {cs:List Rat} {ss:List Int} (h:CS E N a cs ss) (hn:n<N) (hp:0<=ss.getD n 0): ∃s:Nat,Opt E a n (cs.getD n 0) s/\ss.getD n 0=(s:Int)/\s<=N:=by
 rcases h.at_ n hn with h1|⟨_,_,h1⟩
 ·exact h1
 ·omega
theorem CS.rch {E:Adj} {N a n:Nat} {cs:List Rat} {ss:List Int} {c:Rat} {s:Nat} (hG:Gok E N) (ha:a<N) (h:CS E N a cs ss) (hr:Rch E a n c s): ∃s:Nat,Opt E a n (cs.getD n 0) s/\ss.getD n 0=(s:Int)/\s<=N:=by
 rcases h.at_ n (zOo hG ha hr) with h1|⟨h1,_⟩
 ·exact h1
 ·exact absurd hr (h1 _ _)
theorem CS.pre {E:Adj} {N a n:Nat} {cs:List Rat} {ss:List Int} {s:Nat} (hG:Gok E N) (hS: ∀a b f,(b,f)∈E a->(a,f)∈E b) (ha:a<N) (h:CS E N a cs ss) (hs:ss.getD n 0=((s+1:Nat):Int)) (ho:Opt E a n (cs.getD n 0) (s+1)): ∃r,r∈E n/\zE4 cs ss n r:=by
 generalize hc:cs.getD n 0=c at ho
 generalize he:s+1=s1 at ho hs
 obtain ⟨hr,hmin⟩:=ho
 cases hr with
 |nil=>omega
 | @cons n0 _ c0 f s0 hr hm=>
  obtain rfl:s=s0:=by omega
  refine ⟨(n0,f),hS _ _ _ hm, ?_⟩
  obtain ⟨t,ht,hts,_⟩:=h.rch hG ha hr
  have h1:=ht.2 _ _ hr
  have h2:=hmin _ _ (.cons ht.1 hm)
  have h3:=(h1.add f).anti h2
  refine ⟨?_, ?_⟩
  ·show ss.getD n0 0=_
   rw [hts,hs]
   omega
  ·show cs.getD n0 0+f=_
   rw [hc]
   exact h3.1
theorem CS.nx {E:Adj} {N a n:Nat} {cs:List Rat} {ss:List Int} {s:Nat} (hG:Gok E N) (hS: ∀a b f,(b,f)∈E a->(a,f)∈E b) (ha:a<N) (hn:n<N) (h:CS E N a cs ss) (hs:ss.getD n 0=((s+1:Nat):Int)) (ho:Opt E a n (cs.getD n 0) (s+1)):
  nxF E N cs ss n<N/\(∃f,(nxF E N cs ss n,f)∈E n/\zE4 cs ss n (nxF E N cs ss n,f))/\(∀r,r∈E n->zE4 cs ss n r->nxF E N cs ss n<=r.1)/\ss.getD (nxF E N cs ss n) 0=(s:Int)/\Opt E a (nxF E N cs ss n) (cs.getD (nxF E N cs ss n) 0) s:=by
 obtain ⟨r,hr,hp⟩:=h.pre hG hS ha hs ho
 obtain ⟨h1,_,h3⟩:=zHi cs ss n (E n) N
 have hlt:nxF E N cs ss n<N:=lR (h3 r hr hp) (hG n hn r hr).1
 have h1:nxF E N cs ss n=N∨ ∃r,r∈E n/\zE4 cs ss n r/\r.1=nxF E N cs ss n:=h1
 have h1': ∃r,r∈E n/\zE4 cs ss n r/\r.1=nxF E N cs ss n:=by
  rcases h1 with h1|h1
  ·rw [h1] at hlt;omega
  ·exact h1
 obtain ⟨⟨k,f⟩,hk,hkp,hke⟩:=h1'
 have hke:k=nxF E N cs ss n:=hke
 subst hke
 have hss:ss.getD (nxF E N cs ss n) 0=(s:Int):=by
  have:=hkp.1
  rw [hs] at this
  have e:ss.getD (nxF E N cs ss n) 0=((s+1:Nat):Int) - 1:=this
  rw [e]
  omega
 obtain ⟨t,ht,hts,_⟩:=h.of hlt (by rw [hss];omega)
 obtain rfl:t=s:=by rw [hss] at hts;omega
 exact ⟨hlt,⟨f,hk,hkp⟩,h3,hss,ht⟩
def zHp (nx:Nat->Nat) (a:Nat):Nat->Nat->List Nat
 |0,_=> []
 |f+1,n=>if n=a then [] else nx n::zHp nx a f (nx n)
def jO (l:List Nat):List Int:=l.map fun n:Nat=>(n:Int)
theorem zHb {l:List Int} {x:Int}:(l++ [x]).getD l.length 0=x:=by
 rw [fY,List.getElem?_append_right (fZ _)]
 simp
theorem zN4 {E:Adj} {N a:Nat} {cs:List Rat} {ss:List Int} (hG:Gok E N) (hS: ∀a b f,(b,f)∈E a->(a,f)∈E b) (ha:a<N) (h:CS E N a cs ss): ∀(s n:Nat),n<N->ss.getD n 0=(s:Int)->Opt E a n (cs.getD n 0) s->
  ∃l:List Nat,n::zHp (nxF E N cs ss) a s n=l++ [a]/\l.length=s/\zOT E N (jO (n::zHp (nxF E N cs ss) a s n).reverse) (s+1)=some (cs.getD n 0)
 | 0,n,hn,hs,ho=>by
  obtain ⟨rfl,hc⟩:=zIw ho.1
  refine ⟨[],rfl,rfl, ?_⟩
  show (if yS N (([(n:Int)]:List Int).getD 0 0) then (if 0=0 then some (0:Rat) else none) else none)=_
  have:yS N (([(n:Int)]:List Int).getD 0 0)=true:=by
   show yS N (n:Int)=true
   rw [zGa]
   exact decide_eq_true hn
  rw [if_pos this,hc]
  rfl
 | s+1,n,hn,hs,ho=>by
  obtain ⟨g1,⟨f,g2,g3⟩,_,g4,g5⟩:=h.nx hG hS ha hn hs ho
  have hna:n≠a:=fun e=>by
   subst e
   have:=ho.2 _ _ .nil
   have hnn:=ho
   rcases this with h1|⟨_,h1⟩
   ·have: ∀{n c s},Rch E n n c s->True:=fun _=>trivial
    have hc:(0:Rat)<=cs.getD n 0:=by
     have key: ∀m c t,Rch E n m c t->0<=c/\m<N:=fun m c t hr=>by
      induction hr with
      |nil=>exact ⟨Rat.le_refl,hn⟩
      |cons _ hm ih=>
       have:=(hG _ ih.2 _ hm)
       exact ⟨by have h5:=this.2;have h6:=ih.1;grind,this.1⟩
     exact (key _ _ _ ho.1).1
    grind
   ·omega
  have e:zHp (nxF E N cs ss) a (s+1) n=nxF E N cs ss n::zHp (nxF E N cs ss) a s (nxF E N cs ss n):=by
   show (if n=a then [] else _)=_
   rw [if_neg hna]
  obtain ⟨l,h1,h2,h3⟩:=zN4 hG hS ha h s (nxF E N cs ss n) g1 g4 g5
  rw [e,h1]
  refine ⟨n::l,rfl,by simp [h2], ?_⟩
  rw [h1] at h3
  have hrev:jO (n::(l++ [a])).reverse=jO (l++ [a]).reverse++ [(n:Int)]:=by
   unfold jO
   rw [List.reverse_cons,lI]
   rfl
  have hlen:(jO (l++ [a]).reverse).length=s+1:=by unfold jO;simp [h2]
  rw [hrev]
  show (zOT E N (jO (l++ [a]).reverse++ [(n:Int)]) (s+1)).bind _=_
  rw [zN2 _ _ _ oJ,h3]
  have hl1:(jO (l++ [a]).reverse++ [(n:Int)]).getD (s+1) 0=(n:Int):=by
   rw [<-hlen];exact zHb
  have hl0:(jO (l++ [a]).reverse++ [(n:Int)]).getD s 0=((nxF E N cs ss n:Nat):Int):=by
   have h4:(jO (l++ [a]).reverse)=jO (zHp (nxF E N cs ss) a s (nxF E N cs ss n)).reverse++ [((nxF E N cs ss n:Nat):Int)]:=by
    rw [<-h1]
    unfold jO
    rw [List.reverse_cons,lI]
    rfl
   have h5:(jO (zHp (nxF E N cs ss) a s (nxF E N cs ss n)).reverse).length=s:=by
    have:=congrArg List.length h4
    rw [hlen,List.length_append] at this
    simpa using this.symm
   rw [fY,lS oJ,h4, <-fY]
   have:=zHb (l:=jO (zHp (nxF E N cs ss) a s (nxF E N cs ss n)).reverse) (x:=((nxF E N cs ss n:Nat):Int))
   rwa [h5] at this
  show (if yS N ((jO (l++ [a]).reverse++ [(n:Int)]).getD (s+1) 0) then (if s+1=0 then _ else (ch E ((jO (l++ [a]).reverse++ [(n:Int)]).getD (s+1 - 1) 0).toNat ((jO (l++ [a]).reverse++ [(n:Int)]).getD (s+1) 0)).map (cs.getD (nxF E N cs ss n) 0+·)) else none)=_
  rw [Nat.add_sub_cancel,hl1,hl0,zGa,if_pos (decide_eq_true hn),if_neg oJ,Int.toNat_natCast]
  have g2':=hS _ _ _ g2
  cases hch:ch E (nxF E N cs ss n) (n:Int) with
  |none=>exact absurd g2' (zQs hch n f rfl)
  |some g=>
   obtain ⟨⟨k,hk,hkg⟩,hle⟩:=zQr hch
   obtain rfl:k=n:=by omega
   have h6:=hle k f rfl g2'
   have h7:=ho.2 _ _ (.cons g5.1 hkg)
   have h8:cs.getD (nxF E N cs ss k) 0+f=cs.getD k 0:=g3.2
   show some (cs.getD (nxF E N cs ss k) 0+g)=some (cs.getD k 0)
   congr 1
   rcases h7 with h7|⟨h7,_⟩
   ·grind
   ·exact h7.symm
end Go.Proofs.Wd

namespace Go.Proofs.Wd
open Tryz
def Con (E:Adj) (a n:Nat):Prop:= ∃c s,Rch E a n c s
theorem Con.refl (E:Adj) (a:Nat):Con E a a:=⟨_,_, .nil⟩
theorem Con.step {E:Adj} {a n:Nat} {r:Nat×Rat} (h:Con E a n) (hr:r∈E n):Con E a r.1:=by
 obtain ⟨c,s,h⟩:=h
 exact ⟨_,_, .cons h (b:=r.1) (f:=r.2) hr⟩
theorem Con.trans {E:Adj} {a b n:Nat} (h:Con E a b) (k:Con E b n):Con E a n:=by
 obtain ⟨c,s,k⟩:=k
 induction k with
 |nil=>exact h
 |cons _ he ih=>exact (ih).step he
theorem Con.symm {E:Adj} (hS: ∀a b f,(b,f)∈E a->(a,f)∈E b) {a b:Nat} (h:Con E a b):Con E b a:=by
 obtain ⟨c,s,h⟩:=h
 induction h with
 |nil=>exact Con.refl _ _
 |cons _ he ih=>exact ((Con.refl E _).step (hS _ _ _ he)).trans ih
def Lst (E:Adj) (m n:Nat):Prop:=Con E m n/\ ∀m',m'<m-> ¬Con E m' n
theorem Lst.one {E:Adj} {m m' n:Nat} (h:Lst E m n) (k:Lst E m' n):m=m':=by
 rcases Nat.lt_trichotomy m m' with e|e|e
 ·exact absurd h.1 (k.2 _ e)
 ·exact e
 ·exact absurd k.1 (h.2 _ e)
structure OI (E:Adj) (N i:Nat) (lab:List Int):Prop where
 ln:lab.length=N
 at_: ∀n,n<N->(lab.getD n 0= -1/\ ∀m,m<i-> ¬Con E m n)∨ ∃m:Nat,lab.getD n 0=(m:Int)/\m<i/\Lst E m n
structure II (E:Adj) (N i:Nat) (lab:List Int) (X:List Nat):Prop where
 ln:lab.length=N
 me:lab.getD i 0=(i:Int)
 at_: ∀n,n<N->(lab.getD n 0= -1/\ ∀m,m<i-> ¬Con E m n)∨ ∃m:Nat,lab.getD n 0=(m:Int)/\m<=i/\Lst E m n
 td: ∀x,x∈X->x<N/\lab.getD x 0=(i:Int)
 cl: ∀x,x<N->lab.getD x 0=(i:Int)->x ∉ X-> ∀r,r∈E x->lab.getD r.1 0≠-1
theorem OI.begin (E:Adj) (N:Nat):OI E N 0 (List.replicate N (-1)):=⟨by simp,fun n hn=> .inl ⟨by simp [hn],fun m hm=>absurd hm (Nat.not_lt_zero _)⟩⟩
theorem OI.skip {E:Adj} {N i:Nat} {lab:List Int} (h:OI E N i lab) (hi:i<N) (h0:0<=lab.getD i 0) (hS: ∀a b f,(b,f)∈E a->(a,f)∈E b):OI E N (i+1) lab:=by
 refine ⟨h.ln,fun n hn=> ?_⟩
 rcases h.at_ n hn with ⟨h1,h2⟩|⟨m,h1,h2,h3⟩
 ·refine .inl ⟨h1,fun m hm hc=> ?_⟩
  rcases Nat.lt_or_ge m i with e|e
  ·exact h2 m e hc
  ·obtain rfl:m=i:=by omega
   rcases h.at_ m hi with ⟨g1,_⟩|⟨m',g1,g2,g3⟩
   ·omega
   ·exact h2 m' g2 (g3.1.trans hc)
 ·exact .inr ⟨m,h1,by omega,h3⟩
theorem zAO (l:List Int) (i k:Nat) (h:i<l.length) (z:Int):(l.set i z).getD k 0=if k=i then z else l.getD k 0:=by
 by_cases e:k=i
 ·subst e;simp [h]
 ·rw [if_neg e];simp [List.getElem?_set_ne (Ne.symm e)]
theorem OI.enter {E:Adj} {N i:Nat} {lab:List Int} (h:OI E N i lab) (hi:i<N) (h0: ¬0<=lab.getD i 0):II E N i (lab.set i (i:Int)) [i]:=by
 have hl:i<lab.length:=by rw [h.ln];exact hi
 have hno: ∀m,m<i-> ¬Con E m i:=by
  rcases h.at_ i hi with ⟨_,g⟩|⟨m,g,_⟩
  ·exact g
  ·omega
 refine ⟨by rw [lE];exact h.ln,by rw [zAO _ _ _ hl,if_pos rfl],fun n hn=> ?_,fun x hx=> ?_,fun x hx hl' hX=> ?_⟩
 ·rw [zAO _ _ _ hl]
  by_cases e:n=i
  ·rw [if_pos e,e]
   exact .inr ⟨i,rfl,fZ _,Con.refl _ _,hno⟩
  ·rw [if_neg e]
   rcases h.at_ n hn with g|⟨m,g1,g2,g3⟩
   ·exact .inl g
   ·exact .inr ⟨m,g1,by omega,g3⟩
 ·obtain rfl:=lD.1 hx
  exact ⟨hi,by rw [zAO _ _ _ hl,if_pos rfl]⟩
 ·rw [zAO _ _ _ hl] at hl'
  have e:x≠i:=fun e=>hX (by rw [e];exact .head _)
  rw [if_neg e] at hl'
  rcases h.at_ x hx with ⟨g,_⟩|⟨m,g1,g2,_⟩<;>omega
theorem II.more {E:Adj} {N i a:Nat} {lab:List Int} {X:List Nat} (h:II E N i lab X) (hG:Gok E N) (ha:a<N) (hla:lab.getD a 0=(i:Int)) {r:Nat×Rat} (hr:r∈E a) (hneg:lab.getD r.1 0<0):II E N i (lab.set r.1 (i:Int)) (X++ [r.1]):=by
 have hrN:=(hG a ha r hr).1
 have hl:r.1<lab.length:=by rw [h.ln];exact hrN
 have hne:lab.getD r.1 0= -1/\ ∀m,m<i-> ¬Con E m r.1:=by
  rcases h.at_ r.1 hrN with g|⟨m,g,_⟩
  ·exact g
  ·omega
 have hci:Con E i a:=by
  rcases h.at_ a ha with ⟨g,_⟩|⟨m,g1,_,g3⟩
  ·omega
  ·obtain rfl:m=i:=by omega
   exact g3.1
 have hri:r.1≠i:=fun e=>by have:=h.me;rw [e] at hneg;omega
 refine ⟨by rw [lE];exact h.ln,by rw [zAO _ _ _ hl,if_neg (fun e=>hri e.symm)];exact h.me,fun n hn=> ?_,fun x hx=> ?_,fun x hx hx2 hX q hq=> ?_⟩
 ·rw [zAO _ _ _ hl]
  by_cases e:n=r.1
  ·rw [if_pos e,e]
   exact .inr ⟨i,rfl,fZ _,hci.step hr,hne.2⟩
  ·rw [if_neg e]
   exact h.at_ n hn
 ·rw [zAO _ _ _ hl]
  rcases lF.1 hx with hx|hx
  ·obtain ⟨g1,g2⟩:=h.td x hx
   refine ⟨g1, ?_⟩
   by_cases e:x=r.1
   ·rw [if_pos e]
   ·rw [if_neg e];exact g2
  ·obtain rfl:=lD.1 hx
   exact ⟨hrN,by rw [if_pos rfl]⟩
 ·rw [zAO _ _ _ hl] at hx2 ⊢
  have e:x≠r.1:=fun e=>hX (lF.2 (.inr (by rw [e];exact .head _)))
  rw [if_neg e] at hx2
  by_cases e2:q.1=r.1
  ·rw [if_pos e2];omega
  ·rw [if_neg e2]
   exact h.cl x hx hx2 (fun hh=>hX (lF.2 (.inl hh))) q hq
theorem vP {E:Adj} {N i a:Nat} {lab:List Int} {X:List Nat} (h:II E N i lab (a::X)) (hall: ∀r,r∈E a-> ¬lab.getD r.1 0<0):II E N i lab X:=by
 refine ⟨h.ln,h.me,h.at_,fun x hx=>h.td x (.tail _ hx),fun x hx hx2 hX r hr=> ?_⟩
 by_cases e:x=a
 ·subst e
  have:=hall r hr
  omega
 ·exact h.cl x hx hx2 (fun hh=>by rcases hH.1 hh with hh|hh;exact e hh;exact hX hh) r hr
theorem II.perm {E:Adj} {N i:Nat} {lab:List Int} {X Y:List Nat} (h:II E N i lab X) (hp: ∀x,x∈X↔x∈Y):II E N i lab Y:=⟨h.ln,h.me,h.at_,fun x hx=>h.td x ((hp x).2 hx),fun x hx h2 hX=>h.cl x hx h2 fun hh=>hX ((hp x).1 hh)⟩
theorem II.done {E:Adj} {N i:Nat} {lab:List Int} (h:II E N i lab []) (hG:Gok E N) (hS: ∀a b f,(b,f)∈E a->(a,f)∈E b) (hi:i<N):OI E N (i+1) lab:=by
 have hno: ∀m,m<i-> ¬Con E m i:=by
  rcases h.at_ i hi with ⟨g,_⟩|⟨m,g1,g2,g3⟩
  ·have:=h.me;omega
  ·have:=h.me
   obtain rfl:m=i:=by omega
   exact g3.2
 have hcl: ∀n,Con E i n->lab.getD n 0=(i:Int):=by
  rintro n ⟨c,s,hr⟩
  induction hr with
  |nil=>exact h.me
  | @cons n b c f s hw he ih=>
   have hnN:=zOo hG hi hw
   have h1:=h.cl n hnN ih (by simp) (b,f) he
   have hbN:=(hG n hnN (b,f) he).1
   rcases h.at_ b hbN with ⟨g,_⟩|⟨m,g1,g2,g3⟩
   ·exact absurd g h1
   ·rcases Nat.lt_or_ge m i with e|e
    ·exfalso
     refine hno m e (g3.1.trans ?_)
     exact Con.symm hS ⟨_,_, .cons hw he⟩
    ·obtain rfl:m=i:=by omega
     exact g1
 refine ⟨h.ln,fun n hn=> ?_⟩
 rcases h.at_ n hn with ⟨h1,h2⟩|⟨m,h1,h2,h3⟩
 ·refine .inl ⟨h1,fun m hm hc=> ?_⟩
  rcases Nat.lt_or_ge m i with e|e
  ·exact h2 m e hc
  ·obtain rfl:m=i:=by omega
   have:=hcl n hc
   omega
 ·exact .inr ⟨m,h1,by omega,h3⟩
structure Labd (E:Adj) (N:Nat) (lab:List Int):Prop where
 ln:lab.length=N
 at_: ∀n,n<N-> ∃m:Nat,lab.getD n 0=(m:Int)/\m<=n/\Lst E m n
theorem OI.labd {E:Adj} {N:Nat} {lab:List Int} (h:OI E N N lab):Labd E N lab:=by
 refine ⟨h.ln,fun n hn=> ?_⟩
 rcases h.at_ n hn with ⟨_,h2⟩|⟨m,h1,h2,h3⟩
 ·exact absurd (Con.refl E n) (h2 n hn)
 ·refine ⟨m,h1,Nat.le_of_not_lt fun hlt=>h3.2 n hlt (Con.refl E n),h3⟩
theorem Labd.one {E:Adj} {N:Nat} {l l':List Int} (h:Labd E N l) (k:Labd E N l'):l=l':=by
 refine List.ext_getElem (h.ln.trans k.ln.symm) fun n h1 h2=> ?_
 obtain ⟨m,g1,_,g2⟩:=h.at_ n (by rw [<-h.ln];exact h1)
 obtain ⟨m',g1',_,g2'⟩:=k.at_ n (by rw [<-h.ln];exact h1)
 have e:=g2.one g2'
 have e1:l.getD n 0=l[n]:=by simp [h1]
 have e2:l'.getD n 0=l'[n]:=by simp [h2]
 rw [<-e1, <-e2,g1,g1',e]
def zJB (l:List Int):Nat:=l.countP (fun z=>decide (z<0))
theorem zIR {l:List Int} {i:Nat} {z:Int} (hi:i<l.length) (h:l.getD i 0<0) (hz: ¬z<0):zJB (l.set i z)+1=zJB l:=by
 induction l generalizing i with
 |nil=>simp at hi
 | cons x l ih=>
  cases i with
  |zero=>
   have hx:x<0:=by simpa using h
   simp [zJB,hx,hz,List.countP_cons]
  |succ i=>
   have:=ih (i:=i) (by simpa using hi) (by simpa using h)
   unfold zJB at this ⊢
   simp only [List.set_cons_succ,List.countP_cons]
   omega
end Go.Proofs.Wd
