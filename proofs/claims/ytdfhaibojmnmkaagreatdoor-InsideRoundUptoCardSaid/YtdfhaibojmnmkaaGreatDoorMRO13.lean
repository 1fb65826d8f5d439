/- prod.Mul; The walk of num.mul; The walk of sint.Mul; Integers as value and what it needs. -/
import Derived.Test.YtdfhaibojmnmkaaGreatDoorMRO11
import Derived.Laws.EntriesVeiled
import Derived.Test.YtdfhaibojmnmkaaGreatDoorMRO7
import Derived.Test.YtdfhaibojmnmkaaGreatDoorMRO3
import Derived.Test.YtdfhaibojmnmkaaGreatDoorMRO9
namespace Go.Proofs.Wd
set_option maxRecDepth 100000
set_option maxHeartbeats 2000000
open Go.RowKit Lb
attribute [local go_sem] Oper.semAt_some y9 yC
theorem zLO (A:Option Addr) (n c:Nat) (l:List Nat) (A':Option Addr) (n' c':Nat) (l':List Nat) (w:World) (h:Rd w A n c l) (h':Rd w A' n' c' l') (ht:Lt l) (ht':Lt l') (hn:n≤40000) (hn':n'≤40000):
  Calls Tryz.prog 175 #[.slice A n c, .slice A' n' c'] w (q6 w (val l*val l')):=by
 have hmix:Tryz.prog.follows .mixedOrders=true:=by kernel_rfl
 obtain ⟨W0,hW0⟩: ∃W0,w.alloc (Obj.cells #[zBE w.heap.size] 101)=W0:=⟨_,rfl⟩
 have bA:Below w.heap.size w W0:=hW0▸(Below.refl _ w).alloc (Nat.le_refl _) _
 have cA:W0.cell? ⟨w.heap.size,0,none⟩=some (zBE w.heap.size):=by
  rw [←hW0]
  rw [World.cell?_alloc_new]
  rfl
 unfold zBE at hW0
 have hcl: ∀W,Below W0.heap.size W0 W→W.cell? ⟨w.heap.size,0,none⟩=some (zBE w.heap.size):=fun W hb=>(hb.cell (p:=⟨w.heap.size,0,none⟩) (zZ cA)).trans cA
 obtain ⟨mb,hmb⟩: ∃mb,w.heap.size=mb:=⟨_,rfl⟩
 go_enter Tryz.func175,Tryz.ntmps175
 go_wp2
 rw [hmb] at cA hcl hW0
 erw [hW0]
 refine (wpIn_wide (n:=0)).1 ?_
 refine yA 100 (fun W=>W.cell? ⟨mb,0,none⟩=some (.func (.func 190) #[] #[.pointer (some ⟨mb,0,none⟩)])) hmix ?_
 have b0:Below W0.heap.size W0 W0.drew:=(Below.refl _ W0).drew
 have c0:=hcl _ b0
 unfold zBE at c0
 refine zS (i:=0) (v:= ?vv1) (by kernel_rfl) (by kernel_rfl) rfl (by kernel_rfl) (by kernel_rfl) (by kernel_rfl) (fun _ _ _ h=>h) c0 ⟨.inl ⟨rfl, ?yy1⟩,fun _=>rfl⟩ ?_
 case yy1=>
  rintro wx q1
  go_simp
  first|done|rfl
 refine zS (i:=1) (v:= ?vv2) (by kernel_rfl) (by kernel_rfl) rfl (by kernel_rfl) (by kernel_rfl) (by kernel_rfl) (fun _ _ _ h=>h) c0 ⟨.inl ⟨rfl, ?yy2⟩,fun _=>rfl⟩ ?_
 case yy2=>
  rintro wx q1
  go_simp
  first|done|rfl
 refine zS (i:=3) (v:= ?vv3) (by kernel_rfl) (by kernel_rfl) rfl (by kernel_rfl) (by kernel_rfl) (by kernel_rfl) (fun _ _ _ h=>h) c0 ⟨.inl ⟨rfl, ?yy3⟩,fun _=>rfl⟩ ?_
 case yy3=>
  rintro wx q1
  go_simp
  first|done|rfl
 have bw0:Below w.heap.size w W0.drew:=bA.drew
 have i1:=qN A n c l W0.drew (h.below bw0) ht (by omega)
 refine zAo (i:=2) (by kernel_rfl) rfl (fun K hK=> ?_)
 go_simp
 refine CallsIn.mono (callsIn_wide.2 i1) ?_
 rintro e W1 ⟨A1,n1,c1,l1,rfl,hi1,hr1,hb1⟩
 have b1:=b0.trans (hb1.mono b0.size)
 have c1':=hcl _ b1
 unfold zBE at c1'
 refine hK _ _ (.inr c1') ?_
 clear hK K i1
 have bw1:=bw0.trans (hb1.mono bw0.size)
 have i2:=qN A' n' c' l' W1 (h'.below bw1) ht' (by omega)
 refine zAo (i:=4) (by kernel_rfl) rfl (fun K hK=> ?_)
 go_simp
 refine CallsIn.mono (callsIn_wide.2 i2) ?_
 rintro e W2 ⟨A2,n2,c2,l2,rfl,hi2,hr2,hb2⟩
 have b2:=b1.trans (hb2.mono b1.size)
 have c2':=hcl _ b2
 have c2'':=c2'
 unfold zBE at c2'
 refine hK _ _ (.inr c2') ?_
 clear hK K i2
 have bw2:=bw1.trans (hb2.mono bw1.size)
 have hn1:n1≤40000:=by
  rw [←hr1.len]
  exact Nat.le_trans (hi1.len (k:=n) (by have:=qL ht;rwa [h.len] at this)) hn
 have hn2:n2≤40000:=by
  rw [←hr2.len]
  exact Nat.le_trans (hi2.len (k:=n') (by have:=qL ht';rwa [h'.len] at this)) hn'
 have i3:=zN4 40000 (by omega) mb A1 n1 c1 l1 A2 n2 c2 l2 W2 (hr1.below hb2) hr2 hi1.lt hi2.lt hn1 hn2 c2''
 rw [hi1.val,hi2.val] at i3
 refine zAo (i:=5) (by kernel_rfl) rfl (fun K hK=> ?_)
 go_simp
 refine CallsIn.mono (callsIn_wide.2 i3) ?_
 rintro e W3 ⟨A3,n3,c3,l3,rfl,hi3,hr3,hb3⟩
 have b3:=b2.trans (hb3.mono b2.size)
 have c3':=hcl _ b3
 unfold zBE at c3'
 refine hK _ _ (.inr c3') ?_
 clear hK K i3
 refine zAo (i:=6) (by kernel_rfl) rfl (fun K hK=> ?_)
 go_simp
 refine hK _ _ (.inr c3') ?_
 clear hK K
 refine zB8 (by kernel_rfl) ?_
 have bw3:=bw2.trans (hb3.mono bw2.size)
 go_wp2
 all_goals
  go_ret
  exact ⟨A3,n3,c3,l3,rfl,hi3,hr3,bw3⟩
end Go.Proofs.Wd

namespace Go.Proofs.Wd
set_option maxRecDepth 100000
set_option maxHeartbeats 1000000
open Go.RowKit Lb
attribute [local go_sem] Oper.semAt_some y9 yC
theorem zPF {v v':Int} {l:List Nat} (h:val l=v.natAbs*v'.natAbs):iv (!(decide (v<0)==decide (v'<0))) l=v*v':=by
 unfold iv
 rw [h]
 rcases Int.lt_or_le v 0 with h1|h1<;>rcases Int.lt_or_le v' 0 with h2|h2
 all_goals simp only [h1,h2,decide_true,decide_false,Int.not_lt.2 h1,Int.not_lt.2 h2,beq_self_eq_true,Bool.not_true,Bool.not_false,Bool.false_eq_true,if_true,if_false,Int.natCast_mul,show (true==false)=false from rfl,show (false==true)=false from rfl]
 all_goals first|rw [Int.ofNat_natAbs_of_nonneg h1]|rw [Int.ofNat_natAbs_of_nonpos (Int.le_of_lt h1)]
 all_goals first|rw [Int.ofNat_natAbs_of_nonneg h2]|rw [Int.ofNat_natAbs_of_nonpos (Int.le_of_lt h2)]
 all_goals simp [Int.neg_mul,Int.mul_neg]
theorem zQp (B B':Nat) (v v':Int) (k:Nat) (w:World) (h:zAm w B v) (h':zAm w B' v') (hv:v.natAbs<BB^k) (hv':v'.natAbs<BB^k) (hk:k≤40000):
  Calls Tryz.prog 183 #[.pointer (some ⟨B,0,none⟩), .pointer (some ⟨B',0,none⟩)] w fun e w'=>(∃u,e= .returned u)∧zAm w' B (v*v')∧w.grownBy w' (some B):=by
 obtain ⟨A,n,c,l,hb,hi,hr⟩:=h
 obtain ⟨A',n',c',l',hb',hi',hr'⟩:=h'
 have hn:n≤k:=by rw [←hr.len];exact hi.len hv
 have hn':n'≤k:=by rw [←hr'.len];exact hi'.len hv'
 have hmix:Tryz.prog.follows .mixedOrders=true:=by kernel_rfl
 have cf: ∀W,Below w.heap.size w W→(W.cell? ⟨B,0,none⟩=some (.bool (decide (v<0)))∧W.cell? ⟨B,1,none⟩=some (.slice A n c))∧W.cell? ⟨B',0,none⟩=some (.bool (decide (v'<0)))∧W.cell? ⟨B',1,none⟩=some (.slice A' n' c'):=fun W hb1=>⟨(hb.kept hb1).facts2.1,(hb'.kept hb1).facts2.1⟩
 go_enter Tryz.func183,Tryz.ntmps183
 go_wp2
 refine (wpIn_wide (n:=0)).1 ?_
 refine yA 31 (fun _=>True) hmix ?_
 refine zS (i:=1) (v:= ?vv1) (by kernel_rfl) (by kernel_rfl) rfl (by kernel_rfl) (by kernel_rfl) (by kernel_rfl) (fun _ _ _ h=>h) trivial ⟨.inl ⟨rfl, ?yy1⟩,fun _=>rfl⟩ ?_
 case yy1=>
  rintro wx _
  go_simp
  first|done|rfl
 refine zGk (k:=24) (fun _=>false) (fun iz vz Wz=>match iz with
  |0=>vz= .pointer (some ⟨B,0,none⟩)
  |1=>vz= .pointer (some ⟨B,0,none⟩)
  |2=>vz= .pointer (some ⟨B,0,none⟩)
  |3=>vz= .pointer (some ⟨B,0,none⟩)
  |4=>vz= .pointer (some ⟨B,0,none⟩)
  |5=>vz= .pointer (some ⟨B,0,none⟩)
  |6=>vz= .bool (decide (v<0))
  |7=>vz= .pointer (some ⟨B',0,none⟩)
  |8=>vz= .pointer (some ⟨B',0,none⟩)
  |9=>vz= .pointer (some ⟨B',0,none⟩)
  |10=>vz= .pointer (some ⟨B',0,none⟩)
  |11=>vz= .bool (decide (v'<0))
  |12=>vz= .bool (!(decide (v<0)==decide (v'<0)))
  |13=>vz= .pointer (some ⟨B,0,none⟩)
  |14=>vz= .pointer (some ⟨B,0,none⟩)
  |15=>vz= .pointer (some ⟨B,0,none⟩)
  |16=>vz= .pointer (some ⟨B,1,none⟩)
  |17=>vz= .slice A n c
  |18=>vz= .pointer (some ⟨B',0,none⟩)
  |19=>vz= .pointer (some ⟨B',0,none⟩)
  |20=>vz= .pointer (some ⟨B',0,none⟩)
  |21=>vz= .pointer (some ⟨B',1,none⟩)
  |22=>vz= .slice A' n' c'
  |23=>qH Wz vz (v.natAbs*v'.natAbs)
  |_=>True) (fun W=>Below w.heap.size w W) (by kernel_rfl) (by kernel_rfl) (by kernel_rfl) (by kernel_rfl) (by kernel_rfl) (by kernel_rfl) (by kernel_rfl) (by kernel_rfl) (by kernel_rfl) (fun _ _ h hb=>h.trans (hb.mono h.size)) ?stab ((Below.refl _ w).drew) ?spec ?fin
 case stab=>
  intro iz vz Wz Wy h hb
  split at h<;>first|exact h|exact qH.below h hb|trivial
 case spec=>
  refine yI ?_ ?h23
  refine yI ?_ ?h22
  refine yI ?_ ?h21
  refine yI ?_ ?h20
  refine yI ?_ ?h19
  refine yI ?_ ?h18
  refine yI ?_ ?h17
  refine yI ?_ ?h16
  refine yI ?_ ?h15
  refine yI ?_ ?h14
  refine yI ?_ ?h13
  refine yI ?_ ?h12
  refine yI ?_ ?h11
  refine yI ?_ ?h10
  refine yI ?_ ?h9
  refine yI ?_ ?h8
  refine yI ?_ ?h7
  refine yI ?_ ?h6
  refine yI ?_ ?h5
  refine yI ?_ ?h4
  refine yI ?_ ?h3
  refine yI ?_ ?h2
  refine yI ?_ ?h1
  refine yI ?_ ?h0
  exact fun i h _=>absurd h (Nat.not_lt_zero i)
  case h0=>
   intro _ o hi b5 W5 hf K hK
   cases hi
   have k0:b5.tmps[0]?.getD undef= .pointer (some ⟨B,0,none⟩):=(Array.getD_eq_getD_getElem? ..).symm.trans ((hf.at_.keep 0 (by kernel_rfl)).trans (by kernel_rfl))
   refine wpOpIn_step rfl (fun K' hK'=> ?_)
   go_simp
   exact hK' _ _ (hK _ _ rfl (Below.refl _ _) (fun h=>by cases h))
  case h1=>
   intro h
   exact absurd h (by decide)
  case h2=>
   intro _ o hi b5 W5 hf K hK
   cases hi
   have k0:b5.tmps[0]?.getD undef= .pointer (some ⟨B,0,none⟩):=(Array.getD_eq_getD_getElem? ..).symm.trans ((hf.at_.keep 0 (by kernel_rfl)).trans (by kernel_rfl))
   refine wpOpIn_step rfl (fun K' hK'=> ?_)
   go_simp
   exact hK' _ _ (hK _ _ rfl (Below.refl _ _) (fun h=>by cases h))
  case h3=>
   intro _ o hi b5 W5 hf K hK
   cases hi
   have k6:b5.tmps[6]?.getD undef= .pointer (some ⟨B,0,none⟩):=(Array.getD_eq_getD_getElem? ..).symm.trans (hf.at_.vals 2 _ 6 ⟨by decide,⟨2, .data⟩,by simp,by kernel_rfl,rfl⟩ rfl rfl)
   refine wpOpIn_step rfl (fun K' hK'=> ?_)
   go_simp
   exact hK' _ _ (hK _ _ rfl (Below.refl _ _) (fun h=>by cases h))
  case h4=>
   intro _ o hi b5 W5 hf K hK
   cases hi
   have k7:b5.tmps[7]?.getD undef= .pointer (some ⟨B,0,none⟩):=(Array.getD_eq_getD_getElem? ..).symm.trans (hf.at_.vals 3 _ 7 ⟨by decide,⟨3, .data⟩,by simp,by kernel_rfl,rfl⟩ rfl rfl)
   refine wpOpIn_step rfl (fun K' hK'=> ?_)
   go_simp
   exact hK' _ _ (hK _ _ rfl (Below.refl _ _) (fun h=>by cases h))
  case h5=>
   intro _ o hi b5 W5 hf K hK
   cases hi
   have k8:b5.tmps[8]?.getD undef= .pointer (some ⟨B,0,none⟩):=(Array.getD_eq_getD_getElem? ..).symm.trans (hf.at_.vals 4 _ 8 ⟨by decide,⟨4, .data⟩,by simp,by kernel_rfl,rfl⟩ rfl rfl)
   refine wpOpIn_step rfl (fun K' hK'=> ?_)
   go_simp
   exact hK' _ _ (hK _ _ rfl (Below.refl _ _) (fun h=>by cases h))
  case h6=>
   intro _ o hi b5 W5 hf K hK
   cases hi
   have k9:b5.tmps[9]?.getD undef= .pointer (some ⟨B,0,none⟩):=(Array.getD_eq_getD_getElem? ..).symm.trans (hf.at_.vals 5 _ 9 ⟨by decide,⟨5, .data⟩,by simp,by kernel_rfl,rfl⟩ rfl rfl)
   obtain ⟨⟨q1,q2⟩,q3,q4⟩:=cf W5 hf.at_.cls
   refine wpOpIn_step rfl (fun K' hK'=> ?_)
   go_simp
   exact hK' _ _ (hK _ _ rfl (Below.refl _ _) (fun h=>by cases h))
  case h7=>
   intro _ o hi b5 W5 hf K hK
   cases hi
   have k1:b5.tmps[1]?.getD undef= .pointer (some ⟨B',0,none⟩):=(Array.getD_eq_getD_getElem? ..).symm.trans ((hf.at_.keep 1 (by kernel_rfl)).trans (by kernel_rfl))
   refine wpOpIn_step rfl (fun K' hK'=> ?_)
   go_simp
   exact hK' _ _ (hK _ _ rfl (Below.refl _ _) (fun h=>by cases h))
  case h8=>
   intro _ o hi b5 W5 hf K hK
   cases hi
   have k11:b5.tmps[11]?.getD undef= .pointer (some ⟨B',0,none⟩):=(Array.getD_eq_getD_getElem? ..).symm.trans (hf.at_.vals 7 _ 11 ⟨by decide,⟨7, .data⟩,by simp,by kernel_rfl,rfl⟩ rfl rfl)
   refine wpOpIn_step rfl (fun K' hK'=> ?_)
   go_simp
   exact hK' _ _ (hK _ _ rfl (Below.refl _ _) (fun h=>by cases h))
  case h9=>
   intro _ o hi b5 W5 hf K hK
   cases hi
   have k12:b5.tmps[12]?.getD undef= .pointer (some ⟨B',0,none⟩):=(Array.getD_eq_getD_getElem? ..).symm.trans (hf.at_.vals 8 _ 12 ⟨by decide,⟨8, .data⟩,by simp,by kernel_rfl,rfl⟩ rfl rfl)
   refine wpOpIn_step rfl (fun K' hK'=> ?_)
   go_simp
   exact hK' _ _ (hK _ _ rfl (Below.refl _ _) (fun h=>by cases h))
  case h10=>
   intro _ o hi b5 W5 hf K hK
   cases hi
   have k13:b5.tmps[13]?.getD undef= .pointer (some ⟨B',0,none⟩):=(Array.getD_eq_getD_getElem? ..).symm.trans (hf.at_.vals 9 _ 13 ⟨by decide,⟨9, .data⟩,by simp,by kernel_rfl,rfl⟩ rfl rfl)
   refine wpOpIn_step rfl (fun K' hK'=> ?_)
   go_simp
   exact hK' _ _ (hK _ _ rfl (Below.refl _ _) (fun h=>by cases h))
  case h11=>
   intro _ o hi b5 W5 hf K hK
   cases hi
   have k14:b5.tmps[14]?.getD undef= .pointer (some ⟨B',0,none⟩):=(Array.getD_eq_getD_getElem? ..).symm.trans (hf.at_.vals 10 _ 14 ⟨by decide,⟨10, .data⟩,by simp,by kernel_rfl,rfl⟩ rfl rfl)
   obtain ⟨⟨q1,q2⟩,q3,q4⟩:=cf W5 hf.at_.cls
   refine wpOpIn_step rfl (fun K' hK'=> ?_)
   go_simp
   exact hK' _ _ (hK _ _ rfl (Below.refl _ _) (fun h=>by cases h))
  case h12=>
   intro _ o hi b5 W5 hf K hK
   cases hi
   have k10:b5.tmps[10]?.getD undef= .bool (decide (v<0)):=(Array.getD_eq_getD_getElem? ..).symm.trans (hf.at_.vals 6 _ 10 ⟨by decide,⟨6, .data⟩,by simp,by kernel_rfl,rfl⟩ rfl rfl)
   have k15:b5.tmps[15]?.getD undef= .bool (decide (v'<0)):=(Array.getD_eq_getD_getElem? ..).symm.trans (hf.at_.vals 11 _ 15 ⟨by decide,⟨11, .data⟩,by simp,by kernel_rfl,rfl⟩ rfl rfl)
   refine wpOpIn_step rfl (fun K' hK'=> ?_)
   go_simp
   exact hK' _ _ (hK _ _ rfl (Below.refl _ _) (fun h=>by cases h))
  case h13=>
   intro _ o hi b5 W5 hf K hK
   cases hi
   have k0:b5.tmps[0]?.getD undef= .pointer (some ⟨B,0,none⟩):=(Array.getD_eq_getD_getElem? ..).symm.trans ((hf.at_.keep 0 (by kernel_rfl)).trans (by kernel_rfl))
   refine wpOpIn_step rfl (fun K' hK'=> ?_)
   go_simp
   exact hK' _ _ (hK _ _ rfl (Below.refl _ _) (fun h=>by cases h))
  case h14=>
   intro _ o hi b5 W5 hf K hK
   cases hi
   have k17:b5.tmps[17]?.getD undef= .pointer (some ⟨B,0,none⟩):=(Array.getD_eq_getD_getElem? ..).symm.trans (hf.at_.vals 13 _ 17 ⟨by decide,⟨13, .data⟩,by simp,by kernel_rfl,rfl⟩ rfl rfl)
   refine wpOpIn_step rfl (fun K' hK'=> ?_)
   go_simp
   exact hK' _ _ (hK _ _ rfl (Below.refl _ _) (fun h=>by cases h))
  case h15=>
   intro _ o hi b5 W5 hf K hK
   cases hi
   have k18:b5.tmps[18]?.getD undef= .pointer (some ⟨B,0,none⟩):=(Array.getD_eq_getD_getElem? ..).symm.trans (hf.at_.vals 14 _ 18 ⟨by decide,⟨14, .data⟩,by simp,by kernel_rfl,rfl⟩ rfl rfl)
   refine wpOpIn_step rfl (fun K' hK'=> ?_)
   go_simp
   exact hK' _ _ (hK _ _ rfl (Below.refl _ _) (fun h=>by cases h))
  case h16=>
   intro _ o hi b5 W5 hf K hK
   cases hi
   have k19:b5.tmps[19]?.getD undef= .pointer (some ⟨B,0,none⟩):=(Array.getD_eq_getD_getElem? ..).symm.trans (hf.at_.vals 15 _ 19 ⟨by decide,⟨15, .data⟩,by simp,by kernel_rfl,rfl⟩ rfl rfl)
   refine wpOpIn_step rfl (fun K' hK'=> ?_)
   go_simp
   exact hK' _ _ (hK _ _ rfl (Below.refl _ _) (fun h=>by cases h))
  case h17=>
   intro _ o hi b5 W5 hf K hK
   cases hi
   have k20:b5.tmps[20]?.getD undef= .pointer (some ⟨B,1,none⟩):=(Array.getD_eq_getD_getElem? ..).symm.trans (hf.at_.vals 16 _ 20 ⟨by decide,⟨16, .data⟩,by simp,by kernel_rfl,rfl⟩ rfl rfl)
   obtain ⟨⟨q1,q2⟩,q3,q4⟩:=cf W5 hf.at_.cls
   refine wpOpIn_step rfl (fun K' hK'=> ?_)
   go_simp
   exact hK' _ _ (hK _ _ rfl (Below.refl _ _) (fun h=>by cases h))
  case h18=>
   intro _ o hi b5 W5 hf K hK
   cases hi
   have k1:b5.tmps[1]?.getD undef= .pointer (some ⟨B',0,none⟩):=(Array.getD_eq_getD_getElem? ..).symm.trans ((hf.at_.keep 1 (by kernel_rfl)).trans (by kernel_rfl))
   refine wpOpIn_step rfl (fun K' hK'=> ?_)
   go_simp
   exact hK' _ _ (hK _ _ rfl (Below.refl _ _) (fun h=>by cases h))
  case h19=>
   intro _ o hi b5 W5 hf K hK
   cases hi
   have k22:b5.tmps[22]?.getD undef= .pointer (some ⟨B',0,none⟩):=(Array.getD_eq_getD_getElem? ..).symm.trans (hf.at_.vals 18 _ 22 ⟨by decide,⟨18, .data⟩,by simp,by kernel_rfl,rfl⟩ rfl rfl)
   refine wpOpIn_step rfl (fun K' hK'=> ?_)
   go_simp
   exact hK' _ _ (hK _ _ rfl (Below.refl _ _) (fun h=>by cases h))
  case h20=>
   intro _ o hi b5 W5 hf K hK
   cases hi
   have k23:b5.tmps[23]?.getD undef= .pointer (some ⟨B',0,none⟩):=(Array.getD_eq_getD_getElem? ..).symm.trans (hf.at_.vals 19 _ 23 ⟨by decide,⟨19, .data⟩,by simp,by kernel_rfl,rfl⟩ rfl rfl)
   refine wpOpIn_step rfl (fun K' hK'=> ?_)
   go_simp
   exact hK' _ _ (hK _ _ rfl (Below.refl _ _) (fun h=>by cases h))
  case h21=>
   intro _ o hi b5 W5 hf K hK
   cases hi
   have k24:b5.tmps[24]?.getD undef= .pointer (some ⟨B',0,none⟩):=(Array.getD_eq_getD_getElem? ..).symm.trans (hf.at_.vals 20 _ 24 ⟨by decide,⟨20, .data⟩,by simp,by kernel_rfl,rfl⟩ rfl rfl)
   refine wpOpIn_step rfl (fun K' hK'=> ?_)
   go_simp
   exact hK' _ _ (hK _ _ rfl (Below.refl _ _) (fun h=>by cases h))
  case h22=>
   intro _ o hi b5 W5 hf K hK
   cases hi
   have k25:b5.tmps[25]?.getD undef= .pointer (some ⟨B',1,none⟩):=(Array.getD_eq_getD_getElem? ..).symm.trans (hf.at_.vals 21 _ 25 ⟨by decide,⟨21, .data⟩,by simp,by kernel_rfl,rfl⟩ rfl rfl)
   obtain ⟨⟨q1,q2⟩,q3,q4⟩:=cf W5 hf.at_.cls
   refine wpOpIn_step rfl (fun K' hK'=> ?_)
   go_simp
   exact hK' _ _ (hK _ _ rfl (Below.refl _ _) (fun h=>by cases h))
  case h23=>
   intro _ o hi b5 W5 hf K hK
   cases hi
   have k21:b5.tmps[21]?.getD undef= .slice A n c:=(Array.getD_eq_getD_getElem? ..).symm.trans (hf.at_.vals 17 _ 21 ⟨by decide,⟨17, .data⟩,by simp,by kernel_rfl,rfl⟩ rfl rfl)
   have k26:b5.tmps[26]?.getD undef= .slice A' n' c':=(Array.getD_eq_getD_getElem? ..).symm.trans (hf.at_.vals 22 _ 26 ⟨by decide,⟨22, .data⟩,by simp,by kernel_rfl,rfl⟩ rfl rfl)
   refine wpOpIn_step rfl (fun K' hK'=> ?_)
   go_simp
   have hm:=zLO A n c l A' n' c' l' W5 (hr.below hf.at_.cls) (hr'.below hf.at_.cls) hi.lt hi'.lt (by omega) (by omega)
   rw [hi.val,hi'.val] at hm
   refine CallsIn.mono (callsIn_wide.2 hm) ?_
   rintro e W' ⟨A7,n7,c7,l7,rfl,hi7,hr7,hb7⟩
   exact hK' _ _ (hK _ _ ⟨A7,n7,c7,l7,rfl,hi7,hr7⟩ hb7 (fun h=>by cases h))
 case fin=>
  intro b5 W5 hf
  have e4:b5.tmps.getD 4 undef= .pointer (some ⟨B,0,none⟩):=hf.at_.vals 0 _ 4 ⟨by decide,by decide⟩ rfl rfl
  have e6:b5.tmps.getD 6 undef= .pointer (some ⟨B,0,none⟩):=hf.at_.vals 2 _ 6 ⟨by decide,by decide⟩ rfl rfl
  have e7:b5.tmps.getD 7 undef= .pointer (some ⟨B,0,none⟩):=hf.at_.vals 3 _ 7 ⟨by decide,by decide⟩ rfl rfl
  have e8:b5.tmps.getD 8 undef= .pointer (some ⟨B,0,none⟩):=hf.at_.vals 4 _ 8 ⟨by decide,by decide⟩ rfl rfl
  have e9:b5.tmps.getD 9 undef= .pointer (some ⟨B,0,none⟩):=hf.at_.vals 5 _ 9 ⟨by decide,by decide⟩ rfl rfl
  have e10:b5.tmps.getD 10 undef= .bool (decide (v<0)):=hf.at_.vals 6 _ 10 ⟨by decide,by decide⟩ rfl rfl
  have e11:b5.tmps.getD 11 undef= .pointer (some ⟨B',0,none⟩):=hf.at_.vals 7 _ 11 ⟨by decide,by decide⟩ rfl rfl
  have e12:b5.tmps.getD 12 undef= .pointer (some ⟨B',0,none⟩):=hf.at_.vals 8 _ 12 ⟨by decide,by decide⟩ rfl rfl
  have e13:b5.tmps.getD 13 undef= .pointer (some ⟨B',0,none⟩):=hf.at_.vals 9 _ 13 ⟨by decide,by decide⟩ rfl rfl
  have e14:b5.tmps.getD 14 undef= .pointer (some ⟨B',0,none⟩):=hf.at_.vals 10 _ 14 ⟨by decide,by decide⟩ rfl rfl
  have e15:b5.tmps.getD 15 undef= .bool (decide (v'<0)):=hf.at_.vals 11 _ 15 ⟨by decide,by decide⟩ rfl rfl
  have e16:b5.tmps.getD 16 undef= .bool (!(decide (v<0)==decide (v'<0))):=hf.at_.vals 12 _ 16 ⟨by decide,by decide⟩ rfl rfl
  have e17:b5.tmps.getD 17 undef= .pointer (some ⟨B,0,none⟩):=hf.at_.vals 13 _ 17 ⟨by decide,by decide⟩ rfl rfl
  have e18:b5.tmps.getD 18 undef= .pointer (some ⟨B,0,none⟩):=hf.at_.vals 14 _ 18 ⟨by decide,by decide⟩ rfl rfl
  have e19:b5.tmps.getD 19 undef= .pointer (some ⟨B,0,none⟩):=hf.at_.vals 15 _ 19 ⟨by decide,by decide⟩ rfl rfl
  have e20:b5.tmps.getD 20 undef= .pointer (some ⟨B,1,none⟩):=hf.at_.vals 16 _ 20 ⟨by decide,by decide⟩ rfl rfl
  have e21:b5.tmps.getD 21 undef= .slice A n c:=hf.at_.vals 17 _ 21 ⟨by decide,by decide⟩ rfl rfl
  have e22:b5.tmps.getD 22 undef= .pointer (some ⟨B',0,none⟩):=hf.at_.vals 18 _ 22 ⟨by decide,by decide⟩ rfl rfl
  have e23:b5.tmps.getD 23 undef= .pointer (some ⟨B',0,none⟩):=hf.at_.vals 19 _ 23 ⟨by decide,by decide⟩ rfl rfl
  have e24:b5.tmps.getD 24 undef= .pointer (some ⟨B',0,none⟩):=hf.at_.vals 20 _ 24 ⟨by decide,by decide⟩ rfl rfl
  have e25:b5.tmps.getD 25 undef= .pointer (some ⟨B',1,none⟩):=hf.at_.vals 21 _ 25 ⟨by decide,by decide⟩ rfl rfl
  have e26:b5.tmps.getD 26 undef= .slice A' n' c':=hf.at_.vals 22 _ 26 ⟨by decide,by decide⟩ rfl rfl
  have v27:=hf.at_.vals 23 _ 27 ⟨by decide,by decide⟩ rfl rfl
  have hE:=zJn [4,6,7,8,9,10,11,12,13,14,15,16,17,18,19,20,21,22,23,24,25,26,27,28,29,30,31,32,33] hf.at_.size (fun t ht5=>hf.at_.keep t (zQq (by rw [show zMo _ _= [4,6,7,8,9,10,11,12,13,14,15,16,17,18,19,20,21,22,23,24,25,26,27,28,29,30,31,32,33] from by kernel_rfl];exact ht5)))
  have hcl5:=hf.at_.cls
  obtain ⟨tm,df⟩:=b5
  obtain rfl:df=_:=hf.at_.defers
  clear hf
  simp only [List.foldl_cons,List.foldl_nil] at hE
  rw [show tm.getD 4 undef=_ from e4] at hE;clear e4
  rw [show tm.getD 6 undef=_ from e6] at hE;clear e6
  rw [show tm.getD 7 undef=_ from e7] at hE;clear e7
  rw [show tm.getD 8 undef=_ from e8] at hE;clear e8
  rw [show tm.getD 9 undef=_ from e9] at hE;clear e9
  rw [show tm.getD 10 undef=_ from e10] at hE;clear e10
  rw [show tm.getD 11 undef=_ from e11] at hE;clear e11
  rw [show tm.getD 12 undef=_ from e12] at hE;clear e12
  rw [show tm.getD 13 undef=_ from e13] at hE;clear e13
  rw [show tm.getD 14 undef=_ from e14] at hE;clear e14
  rw [show tm.getD 15 undef=_ from e15] at hE;clear e15
  rw [show tm.getD 16 undef=_ from e16] at hE;clear e16
  rw [show tm.getD 17 undef=_ from e17] at hE;clear e17
  rw [show tm.getD 18 undef=_ from e18] at hE;clear e18
  rw [show tm.getD 19 undef=_ from e19] at hE;clear e19
  rw [show tm.getD 20 undef=_ from e20] at hE;clear e20
  rw [show tm.getD 21 undef=_ from e21] at hE;clear e21
  rw [show tm.getD 22 undef=_ from e22] at hE;clear e22
  rw [show tm.getD 23 undef=_ from e23] at hE;clear e23
  rw [show tm.getD 24 undef=_ from e24] at hE;clear e24
  rw [show tm.getD 25 undef=_ from e25] at hE;clear e25
  rw [show tm.getD 26 undef=_ from e26] at hE;clear e26
  obtain ⟨x27,hx27⟩: ∃x,tm.getD 27 undef=x:=⟨_,rfl⟩;rw [hx27] at hE;rw [show tm.getD 27 undef=_ from hx27] at v27;clear hx27
  obtain ⟨u28,hu28⟩: ∃x,tm.getD 28 undef=x:=⟨_,rfl⟩;rw [hu28] at hE;clear hu28
  obtain ⟨u29,hu29⟩: ∃x,tm.getD 29 undef=x:=⟨_,rfl⟩;rw [hu29] at hE;clear hu29
  obtain ⟨u30,hu30⟩: ∃x,tm.getD 30 undef=x:=⟨_,rfl⟩;rw [hu30] at hE;clear hu30
  obtain ⟨u31,hu31⟩: ∃x,tm.getD 31 undef=x:=⟨_,rfl⟩;rw [hu31] at hE;clear hu31
  obtain ⟨u32,hu32⟩: ∃x,tm.getD 32 undef=x:=⟨_,rfl⟩;rw [hu32] at hE;clear hu32
  obtain ⟨u33,hu33⟩: ∃x,tm.getD 33 undef=x:=⟨_,rfl⟩;rw [hu33] at hE;clear hu33
  rewrite [hE]
  clear hE
  obtain ⟨A2,n2,c2,l2,rfl,hi2,hr2⟩:=v27
  have hb3:=hb.kept hcl5
  obtain ⟨⟨m0,m1⟩,m2,m3⟩:=hb3.facts2
  go_simp
  refine zAo (i:=24) (by kernel_rfl) rfl (fun K hK=> ?_)
  go_simp
  refine hK _ _ (.inr trivial) ?_
  clear hK K
  refine zAo (i:=25) (by kernel_rfl) rfl (fun K hK=> ?_)
  go_simp
  refine hK _ _ (.inr trivial) ?_
  clear hK K
  refine zAo (i:=26) (by kernel_rfl) rfl (fun K hK=> ?_)
  go_simp
  refine hK _ _ (.inr trivial) ?_
  clear hK K
  refine zAo (i:=27) (by kernel_rfl) rfl (fun K hK=> ?_)
  go_simp
  refine hK _ _ (.inr trivial) ?_
  clear hK K
  have hb4:=hb3.set 0 (.bool (!(decide (v<0)==decide (v'<0))))
  obtain ⟨⟨m0,m1⟩,m2,m3⟩:=hb4.facts2
  refine zAo (i:=28) (by kernel_rfl) rfl (fun K hK=> ?_)
  go_simp
  refine hK _ _ (.inr trivial) ?_
  clear hK K
  refine zAo (i:=29) (by kernel_rfl) rfl (fun K hK=> ?_)
  go_simp
  refine hK _ _ (.inr trivial) ?_
  clear hK K
  refine zAo (i:=30) (by kernel_rfl) rfl (fun K hK=> ?_)
  go_simp
  refine hK _ _ (.inr trivial) ?_
  clear hK K
  refine zAo (i:=31) (by kernel_rfl) rfl (fun K hK=> ?_)
  go_simp
  refine hK _ _ (.inr trivial) ?_
  clear hK K
  refine zB8 (by kernel_rfl) ?_
  have hv2:iv (!(decide (v<0)==decide (v'<0))) l2=v*v':=zPF hi2.val
  have hn2:n2≤80000:=by rw [←hr2.len];exact Nat.le_trans (hi2.len (k:=k+k) (by rw [Nat.pow_add];exact Nat.mul_lt_mul_of_lt_of_le hv (Nat.le_of_lt hv') (Nat.pow_pos yZ))) (by omega)
  go_wp2_with (go_at_call 185;refine (zDl B _ A2 n2 c2 l2 _ (hb4.set 1 _) ((hr2.setN hb3 (i:=0) rfl (fun _=>by simp) _).setN hb4 (i:=1) rfl (fun _=>by simp) _) hi2.lt (by omega)).mono ?_;rintro e w4 ⟨rfl,hn4,hg4⟩)
  refine bodyPost_end (results_none rfl _ _ _) rfl ?_
  refine ⟨⟨_,rfl⟩, ?_, ?_⟩
  ·rw [hv2] at hn4;exact hn4
  ·exact ((zBP hcl5).but (some B)).trans ((y4 W5 ⟨B,0,none⟩ _).trans ((y4 _ ⟨B,1,none⟩ _).trans hg4))
end Go.Proofs.Wd

namespace Go.Proofs.Wd
set_option maxRecDepth 100000
set_option maxHeartbeats 1000000
open Go.RowKit Lb
attribute [local go_sem] Oper.semAt_some y9 yC
theorem zRK (w:World):Calls Tryz.prog 161 #[.int .i64 1] w fun e w'=> ∃A n c l,e= .returned (.agg #[.bool false, .slice A n c])∧Is l 1∧Rd w' A n c l∧n≤1∧Below w.heap.size w w':=
 (zIA 1 (by omega) (by omega) w).mono fun e w' ⟨A,n,c,l,h1,h2,h3,h4⟩=>⟨A,n,c,l,h1,h2,h3,by rw [←h3.len];exact h2.len (k:=1) (by decide),h4⟩
def zSQ (w:World) (B0 P:Nat) (is:List (Bool×List Nat)) (k:Nat) (W:World):Prop:=
 zAm W B0 (zBN is k)∧Boxed W P 178 (.pointer (some ⟨B0,0,none⟩))∧qS W w.heap.size 26 #[.bool false, .slice none 0 0]∧Below w.heap.size w W∧P+2≤W.heap.size
theorem zGG (w:World) (B0 P:Nat) (is:List (Bool×List Nat)) {C:Nat} (hC:w.heap.size≤C):OwnFrom C (zSQ w B0 P is):=by
 rintro k W W' row ⟨h1,h2,h3,h4,h5⟩ hg hr
 exact ⟨h1.abide hg hr,qI h2 hg hr,h3.abide hg hr,zAe h4 hg (Nat.le_refl _) hC hr,Nat.le_trans h5 hg.size⟩
theorem zNa (A:Option Addr) (n c:Nat) (is:List (Bool×List Nat)) (M:Nat) (w:World) (h:IRd w A n is) (hn:n≤c) (hc:c≤9223372036854775807) (hM:M≤40000) (hv: ∀k,(zDT is k).natAbs<BB^M) (hp: ∀k,k≤n→(zBN is k).natAbs<BB^M) (hnn:n≤1000000:=by first|omega|decide):
  Calls Tryz.prog 163 #[.slice A n c] w (qJ w (zBN is n)):=by
 refine qR Tryz.func163 rfl ?_
 simp only [Tryz.ntmps163,List.size_toArray,List.length_cons,List.length_nil,Nat.reduceAdd,Nat.reduceSub,Array.replicate_succ,Array.replicate_zero,List.push_toArray,List.append_toArray,List.nil_append,List.cons_append]
 go_wp2_with (first|(go_at_call 161;refine (zRK _).mono ?_;rintro e w1 ⟨A1,n1,c1,l1,rfl,hi1,hr1,hn1,hb1⟩)|(go_at_call 166;refine (zEK false A1 n1 c1 l1 _ hr1 hi1.lt (by omega)).mono ?_;rintro e w2 ⟨B0,rfl,hB0,hn0,hb0⟩)|(go_at_call 182;refine (zMC A n c _).mono ?_;rintro e w3 ⟨rfl,rfl⟩))
 have hiv0:iv false l1=1:=by unfold iv;rw [hi1.val];rfl
 rw [hiv0] at hn0
 obtain ⟨W0,hW0⟩: ∃W0,((w2.alloc (.cells #[.pointer (some ⟨B0,0,none⟩)] 178)).alloc (.cells #[.slice A n c] 134))=W0:=⟨_,rfl⟩
 have hsz:W0.heap.size=w2.heap.size+2:=by rw [←hW0];simp
 have hB0l:=hn0.lt
 have hbw1:Below w.heap.size w w1:=((Below.refl _ w).alloc (Nat.le_refl _) _).trans (hb1.mono (by simp))
 have hsz1:w.heap.size<w1.heap.size:=Nat.lt_of_lt_of_le (by simp) hb1.size
 have hB0g:w.heap.size<B0:=Nat.lt_of_lt_of_le hsz1 hB0
 have hbw2:Below w.heap.size w w2:=hbw1.trans (hb0.mono hbw1.size)
 have hB1:Below w.heap.size w W0:=by rw [←hW0];exact (hbw2.alloc hbw2.size _).alloc (by simp;exact Nat.le_succ_of_le hbw2.size) _
 have x0:zAm W0 B0 1:=by rw [←hW0];exact hn0.kept (((Below.refl _ w2).alloc (Nat.le_refl _) _).alloc (by simp) _)
 have x1:Boxed W0 w2.heap.size 178 (.pointer (some ⟨B0,0,none⟩)):=by rw [←hW0];exact (Boxed.new w2 _ _).alloc _
 have x2:Boxed W0 (w2.heap.size+1) 134 (.slice A n c):=by rw [←hW0];exact zAl _ _ _ (by simp)
 have x3:qS W0 w.heap.size 26 #[.bool false, .slice none 0 0]:=by rw [←hW0];exact (((zJM hb1 rfl).kept hb0).alloc _).alloc _
 rw [hW0]
 clear hW0
 have hSb: ∀b,(b<w.heap.size∨b=w2.heap.size+1)→b<W0.heap.size:=fun b hb=>by have:=hbw2.size;omega
 refine zB9 (gf:=197) rfl (enters_of Tryz.func197 (by kernel_rfl) rfl) (zHr A n c is (w2.heap.size+1) w W0 h hB1 hn hc x2.cell (S:=fun b=>b<w.heap.size∨b=w2.heap.size+1) hSb (.inr rfl) (fun b hb=> .inl hb)) ?hE ?hps zFf.trans (zGc hSb)
  (zSQ w B0 w2.heap.size is) (zGG w B0 _ is hB1.size) (zBh (zGG w B0 _ is (Nat.le_refl _))) Mk.keeps (fun _ _ _ _ _ _ _ _=>trivial) ⟨x0,x1,x3,hB1,Nat.le_of_eq hsz.symm⟩
  (fun xs=>{ tmps:=#[.slice A n c,undef, .pointer (some ⟨w.heap.size,0,none⟩), .pointer (some ⟨w2.heap.size,0,none⟩),xs.getD 0 undef, .agg #[.bool false, .slice A1 n1 c1], .pointer (some ⟨B0,0,none⟩), .slice A n c, .func (.func 197) #[] #[.pointer (some ⟨w2.heap.size+1,0,none⟩)],xs.getD 0 undef,undef,undef,undef,undef,undef,undef,undef],defers:= [] }) ?assign ?body ?done
 case hE=>
  rintro k xs W l o o' ⟨B,rfl,h1,h2⟩ ho hc
  exact ⟨B,rfl,h1,h2.abide (C:=0) (grownBy_putObj' W l o') (fun r e=>by cases e;exact ⟨Nat.zero_le _,o,ho,hc⟩)⟩
 case hps=>
  rintro k xs W ⟨B,rfl,_⟩
  rfl
 case assign=>
  rintro lp k xs W K ⟨B,rfl,h1,h2⟩ hK
  gi_wp2
  exact hK
 case body=>
  rintro lp k xs W hk ⟨h1,h2,h3,h4,h5⟩ ⟨B,rfl,hB,hnb⟩
  have hc2:=h2.cell
  have hne:B≠B0:=by omega
  have hkm:k≤1000000:=by omega
  have hbd:=hp k (Nat.le_of_lt hk)
  have hbd2:=hv k
  gi_wp2_with (gi_at_call 183;refine CallsIn.mono (callsIn_wide.2 (zQp B0 B _ _ M W h1 hnb hbd hbd2 hM)) ?_;rintro e w3 ⟨⟨u,rfl⟩,hn3,hg3⟩)
  have hbx: ∃vs t,qS W B0 t vs:=by obtain ⟨_,_,_,_,g,_⟩:=h1;exact ⟨_,_,g⟩
  obtain ⟨vs,t,g⟩:=hbx
  refine ⟨(KeepsOthers.of_grownBy hg3 (fun j o e ho=>by cases e;rw [show W.heap[B0]?=_ from g] at ho;cases ho;rfl)).from _,⟨(yV.refl _ _).grown hg3 (fun b hb=>⟨by have:=hSb b hb;omega,fun e=>by cases e;omega⟩),hg3.size⟩,hn3,h2.kept hg3 (fun e=>by cases e;omega),(hg3.block _ h3.lt (fun e=>by cases e;omega)).trans h3,zAy h4 hg3 h4.size (by omega),Nat.le_trans h5 hg3.size⟩
 case done=>
  rintro D W hD ⟨h1,h2,h3,h4,h5⟩ _ hd
  obtain ⟨A2,n2,c2,l2,⟨g0,g1⟩,hi2,hr2⟩:=h1.parts
  have hc2:=h2.cell
  obtain ⟨⟨q0,q1⟩,q2,q3⟩:=h3.facts2
  go_wp2
  have hb5:=(h3.set 0 (.bool (decide (zBN is n<0)))).set 1 (.slice A2 n2 c2)
  have hM:Marks w.heap.size ((W.setCell ⟨w.heap.size,0,none⟩ (.bool (decide (zBN is n<0)))).setCell ⟨w.heap.size,1,none⟩ (.slice A2 n2 c2)) [mark D] [D]:=((Marks.nil w.heap.size W).more (D:=D) (by simp) (by have:=hB1.size;omega) hd).others ((KeepsOthers.setCell _ _ _).trans (KeepsOthers.setCell _ _ _))
  obtain ⟨A3,n3,c3,l3,e3,hi3,hr3,hb3⟩:=zGN h3 h4 (Nat.le_refl _) hi2 hr2
  cases e3
  refine y5 _ (v:= .agg #[.bool (decide (zBN is n<0)), .slice A2 n2 c2]) (fun w' ho'=> ?_) [D] _ _ hM (Oth.refl _ _) ?_
  ·obtain ⟨⟨c0,c1⟩,_,_⟩:=(hb5.oth ho').facts2
   simp [results,Tryz.results163,go_sem,c0,c1]
  ·intro w' ho
   exact ⟨A2,n2,c2,l3,rfl,hi3,hr3.oth ho,jV hb3 ho (Nat.le_refl _)⟩
def Bd (k:Int) (m:Nat):Prop:=k.natAbs<BB^m
theorem Bd.mono {k:Int} {m m':Nat} (h:Bd k m) (hm:m≤m'):Bd k m':=Nat.lt_of_lt_of_le h (Nat.pow_le_pow_right yZ hm)
theorem Bd.add {a b:Int} {m:Nat} (h:Bd a m) (h':Bd b m):Bd (a+b) (m+1):=by
 unfold Bd at*
 rw [Nat.pow_succ]
 unfold BB at*
 omega
theorem Bd.neg {a:Int} {m:Nat} (h:Bd a m):Bd (-a) m:=by
 unfold Bd at*
 rwa [Int.natAbs_neg]
theorem Bd.sub {a b:Int} {m:Nat} (h:Bd a m) (h':Bd b m):Bd (a - b) (m+1):=by
 rw [Int.sub_eq_add_neg]
 exact h.add h'.neg
theorem Bd.mul {a b:Int} {m n:Nat} (h:Bd a m) (h':Bd b n):Bd (a*b) (m+n):=by
 unfold Bd at*
 rw [Int.natAbs_mul,Nat.pow_add]
 exact Nat.mul_lt_mul_of_lt_of_le h (Nat.le_of_lt h') (Nat.pow_pos yZ)
theorem UV.bd {W:World} {m:Nat} {v:Value} {k:Int} (h:UV W m v k):Bd k m:=h.bound
theorem NV.uv' {W:World} {v:Value} {k:Int} (h:NV W v k) {m:Nat} (hk:Bd k m):UV W m v k:=h.uv hk
def ISV (W:World) (m:Nat) (v:Value) (ks:List Int):Prop:= ∃is:List (Bool×List Nat),IS W m v is∧is.map (fun p=>iv p.1 p.2)=ks
theorem ISV.below {W W':World} {m:Nat} {v:Value} {ks:List Int} (h:ISV W m v ks) (hb:Below W.heap.size W W'):ISV W' m v ks:=by
 obtain ⟨is,h1,h2⟩:=h
 exact ⟨is,h1.below hb,h2⟩
theorem zOx {W:World} {m:Nat} {s:Bool} {A:Option Addr} {n c:Nat} {k:Int} (h:UV W m (.agg #[.bool s, .slice A n c]) k): ∃l,Rd W A n c l∧Lt l∧n≤m∧iv s l=k:=by
 obtain ⟨s',A',n',c',l,he,h1,h2,h3,h4⟩:=h
 injection he with he
 injection he with he
 injection he with e1 he
 injection he with e2 _
 injection e1 with e1
 injection e2 with f1 f2 f3
 subst e1;subst f1;subst f2;subst f3
 exact ⟨l,h1,h2,h3,h4⟩
theorem ISV.two {W:World} {m:Nat} {s:Bool} {A:Option Addr} {n c:Nat} {k:Int} (h:UV W m (.agg #[.bool s, .slice A n c]) k) {s':Bool} {A':Option Addr} {n' c':Nat} {k':Int} (h':UV W m (.agg #[.bool s', .slice A' n' c']) k') (t:TypeId):
  ISV (W.alloc (.cells #[.bool s, .slice A n c, .bool s', .slice A' n' c'] t)) m (.slice (some ⟨W.heap.size,0,none⟩) 2 2) [k,k']:=by
 obtain ⟨l,h1,h2,h3,rfl⟩:=zOx h
 obtain ⟨l',h1',h2',h3',rfl⟩:=zOx h'
 exact ⟨[(s,l),(s',l')],IS.two h1 h2 h3 h1' h2' h3' t,rfl⟩
theorem zE7 (is:List (Bool×List Nat)): ∀k,k≤is.length→zDC is k=((is.take k).map fun p=>iv p.1 p.2).sum
 |0,_=>rfl
 |k+1,h=>by
  have h1:=zE7 is k (by omega)
  show zDC is k+zDT is k=_
  rw [h1,List.take_succ_eq_append_getElem (by omega),List.map_append,List.sum_append]
  unfold zDT
  rw [List.getElem?_eq_getElem (by omega)]
  simp
theorem zDV (is:List (Bool×List Nat)): ∀k,k≤is.length→zBN is k=((is.take k).map fun p=>iv p.1 p.2).foldl (·*·) 1
 |0,_=>rfl
 |k+1,h=>by
  have h1:=zDV is k (by omega)
  show zBN is k*zDT is k=_
  rw [h1,List.take_succ_eq_append_getElem (by omega),List.map_append,List.foldl_append]
  unfold zDT
  rw [List.getElem?_eq_getElem (by omega)]
  simp
theorem zGf {m:Nat} {w:World} {A:Option Addr} {n:Nat} {is:List (Bool×List Nat)} (h:IRdM m w A n is): ∀k,Bd (zBN is k) (m*k+1)
 |0=>by
  show (1:Int).natAbs<BB^(0+1)
  decide
 |k+1=>by
  have h1:=(zGf h k).mul (show Bd (zDT is k) m from zGd h k)
  show Bd (zBN is k*zDT is k) _
  exact h1.mono (by rw [Nat.mul_add];omega)
theorem zTO {W:World} {m:Nat} {v:Value} {ks:List Int} {k:Int} (h:ISV W m v ks) (hm:m≤100000) (hn:ks.length≤1000) (hk:ks.sum=k):Calls Tryz.prog 174 #[v] W (zGt W k):=by
 obtain ⟨is,h1,h2⟩:=h
 have:=zTP h1 hm (by rw [←h2,List.length_map] at hn;omega)
 rw [zE7 is is.length (Nat.le_refl _),List.take_length,h2,hk] at this
 exact this
theorem zLN {W:World} {m:Nat} {v:Value} {ks:List Int} {k:Int} (h:ISV W m v ks) (hn:m*ks.length+m+1≤40000) (hk:ks.foldl (·*·) 1=k) (hl:ks.length≤1000):Calls Tryz.prog 163 #[v] W (zGt W k):=by
 obtain ⟨is,⟨A,c,rfl,h3,h4,h1⟩,h2⟩:=h
 have hl2:is.length=ks.length:=by rw [←h2,List.length_map]
 have:=(zNa A is.length c is (m*ks.length+m+1) W (IRdM.mono h1 (by omega)) h3 h4 hn (fun k=>Nat.lt_of_lt_of_le (zGd h1 k) (Nat.pow_le_pow_right yZ (by omega))) (fun k hk=>(zGf h1 k).mono (by
  have:m*k≤m*ks.length:=Nat.mul_le_mul_left _ (by omega)
  omega))).mono fun _ _=>qJ.v
 rw [zDV is is.length (Nat.le_refl _),List.take_length,h2,hk] at this
 exact this
end Go.Proofs.Wd

namespace Go.Proofs.Wd
open Lb
theorem zG6 (n:Int) (d:Nat):(mkRat n d).num.natAbs≤n.natAbs:=by
 rw [Rat.num_mkRat]
 split
 ·simp
 ·have hd:((d.gcd n.natAbs:Nat):Int)∣n:=Int.natAbs_dvd_natAbs.1 (by simpa using Nat.gcd_dvd_right d n.natAbs)
  rw [Int.natAbs_ediv_of_dvd hd]
  simp only [Int.natAbs_natCast]
  exact Nat.div_le_self _ _
theorem zG7 (n:Int) (d:Nat) (h:0<d):(mkRat n d).den≤d:=by
 rw [Rat.den_mkRat,if_neg (by omega)]
 exact Nat.div_le_self _ _
theorem zDo (n:Int) (d:Nat) (h:0<d):(mkRat n d).num.natAbs=n.natAbs / Nat.gcd n.natAbs d:=by
 rw [Rat.num_mkRat,if_neg (by omega)]
 have hd:((d.gcd n.natAbs:Nat):Int)∣n:=Int.natAbs_dvd_natAbs.1 (by simpa using Nat.gcd_dvd_right d n.natAbs)
 rw [Int.natAbs_ediv_of_dvd hd,Nat.gcd_comm]
 simp only [Int.natAbs_natCast]
theorem zCp (n:Int) (d:Nat) (h:0<d):(mkRat n d).den=d / Nat.gcd n.natAbs d:=by
 rw [Rat.den_mkRat,if_neg (by omega),Nat.gcd_comm]
theorem zB2 (n:Int) (d:Nat) (h:0<d):decide ((mkRat n d).num<0)=decide (n<0):=by
 have h1:=@Rat.divInt_nonneg_iff_of_pos_right n d (by omega)
 rw [Rat.divInt_ofNat, ←Rat.num_nonneg] at h1
 rw [decide_eq_decide]
 omega
def QB (q:Rat) (m:Nat):Prop:=Bd q.num m∧q.den<BB^m
theorem QB.mono {q:Rat} {m m':Nat} (h:QB q m) (hm:m≤m'):QB q m':=⟨h.1.mono hm,Nat.lt_of_lt_of_le h.2 (Nat.pow_le_pow_right yZ hm)⟩
theorem QB.of {k:Int} {d m:Nat} (hk:Bd k m) (hd:d<BB^m) (hm:0<m):QB (mkRat k d) m:=by
 refine ⟨Nat.lt_of_le_of_lt (zG6 k d) hk, ?_⟩
 rcases Nat.eq_zero_or_pos d with rfl|h
 ·rw [Rat.mkRat_zero]
  show 1<BB^m
  exact Nat.one_lt_pow (by omega) (by unfold BB;omega)
 ·exact Nat.lt_of_le_of_lt (zG7 k d h) hd
theorem QB.pos {q:Rat} {m:Nat} (h:QB q m):0<m:=by
 rcases Nat.eq_zero_or_pos m with rfl|h0
 ·have:=h.2
  rw [Nat.pow_zero] at this
  have:=q.den_pos
  omega
 ·exact h0
theorem qP {x m:Nat} (h:x<BB^m):Bd (x:Int) m:=by unfold Bd;rwa [Int.natAbs_natCast]
theorem zDN {a b m n:Nat} (h:a<BB^m) (h':b<BB^n):a*b<BB^(m+n):=by
 rw [Nat.pow_add]
 exact Nat.mul_lt_mul_of_lt_of_le h (Nat.le_of_lt h') (Nat.pow_pos yZ)
theorem QB.num_add {p q:Rat} {m n:Nat} (h:QB p m) (h':QB q n):Bd (p.num*q.den+q.num*p.den) (m+n+1):=
 (h.1.mul (qP h'.2)).add ((h'.1.mul (qP h.2)).mono (by omega))
theorem QB.den_mul {p q:Rat} {m n:Nat} (h:QB p m) (h':QB q n):p.den*q.den<BB^(m+n):=zDN h.2 h'.2
theorem QB.add {p q:Rat} {m n:Nat} (h:QB p m) (h':QB q n):QB (p+q) (m+n+1):=by
 rw [Rat.add_def']
 exact QB.of (h.num_add h') (Nat.lt_of_lt_of_le (h.den_mul h') (Nat.pow_le_pow_right yZ (by omega))) (by omega)
theorem QB.mul {p q:Rat} {m n:Nat} (h:QB p m) (h':QB q n):QB (p*q) (m+n):=by
 rw [Rat.mul_def']
 exact QB.of (h.1.mul h'.1) (h.den_mul h') (by have:=h.pos;omega)
theorem QB.neg {q:Rat} {m:Nat} (h:QB q m):QB (-q) m:=⟨by rw [Rat.neg_num];exact h.1.neg,h.2⟩
theorem QB.sub {p q:Rat} {m n:Nat} (h:QB p m) (h':QB q n):QB (p - q) (m+n+1):=by
 rw [Rat.sub_eq_add_neg]
 exact h.add h'.neg
theorem zDg {m:Nat} (h:0<m):1<BB^m:=Nat.one_lt_pow (by omega) (by unfold BB;omega)
theorem QB.int {z:Int} {m:Nat} (h:Bd z m) (hm:0<m):QB (z:Rat) m:=⟨h,zDg hm⟩
theorem zPR (p q:Rat):p.num*q.den - q.num*p.den<0↔p<q:=by rw [Rat.lt_iff];omega
theorem zNm (p q:Rat):p.num*q.den - q.num*p.den=0↔p=q:=by rw [Rat.eq_iff_mul_eq_mul];omega
def qsg (p q:Rat):Int:=(p.num*q.den - q.num*p.den).sign
theorem zFt {p q:Rat}:qsg p q= -1↔p<q:=by
 unfold qsg
 rw [←zPR,Int.sign_eq_neg_one_iff_neg]
theorem zDd {p q:Rat}:qsg p q=0↔p=q:=by
 unfold qsg
 rw [←zNm,Int.sign_eq_zero_iff_zero]
theorem zFZ (p q:Rat):qsg q p= - qsg p q:=by
 unfold qsg
 rw [←Int.sign_neg]
 congr 1
 omega
theorem zEV {p q:Rat}:qsg p q=1↔q<p:=by
 rw [←zFt,zFZ p q]
 omega
theorem zFY (p q:Rat):qsg p q= -1∨qsg p q=0∨qsg p q=1:=by
 unfold qsg
 have:=Int.sign_trichotomy (p.num*q.den - q.num*p.den)
 omega
end Go.Proofs.Wd

namespace Go.Proofs.Wd
abbrev V2:=Rat×Rat
structure Aff where
 a:Rat
 b:Rat
 c:Rat
def crs (a b p:V2):Rat:=(b.1 - a.1)*(p.2 - a.2) - (b.2 - a.2)*(p.1 - a.1)
def at_ (l:List V2) (i:Nat):V2:=l.getD i (0,0)
theorem zLU {l:List V2} {p:V2} (h:p∈l): ∃i,i<l.length∧at_ l i=p:=by
 obtain ⟨i,hi,e⟩:=List.getElem_of_mem h
 exact ⟨i,hi,by unfold at_;rw [List.getD_eq_getElem?_getD,List.getElem?_eq_getElem hi];exact e⟩
theorem zDB {l:List V2} {i:Nat} (h:i<l.length):at_ l i∈l:=by
 unfold at_;rw [List.getD_eq_getElem?_getD,List.getElem?_eq_getElem h];exact List.getElem_mem h
def ch (R:V2→V2→Prop):List V2→Prop
 |p::q::r=>R p q∧ch R (q::r)
 |_=>True
def zUv (R:V2→V2→Prop) (l:List V2):Prop:= ∃p t,l=p::t∧ch R (p::(t++ [p]))
def seg (p q:V2) (t:Rat):V2:=(p.1+(q.1 - p.1)*t,p.2+(q.2 - p.2)*t)
def zUu (z p q:V2):Prop:=0<crs p q z
def zEC (p t:V2):V2:=(p.1+t.1,p.2+t.2)
def zBq (l:List V2) (t:V2):List V2:=l.map fun p=>zEC p t
theorem zId (a b p t:V2):crs (zEC a t) (zEC b t) (zEC p t)=crs a b p:=by unfold crs zEC;grind
theorem zBp (l:List V2) (t:V2):(zBq l t).length=l.length:=by simp [zBq]
theorem zDA {l:List V2} {t:V2} {i:Nat} (h:i<l.length):at_ (zBq l t) i=zEC (at_ l i) t:=by
 unfold at_ zBq
 rw [List.getD_eq_getElem?_getD,List.getD_eq_getElem?_getD,List.getElem?_map,List.getElem?_eq_getElem h]
 rfl
def zJL (l:List V2) (k:Nat):List V2:=l.drop k++l.take k
theorem zHL (l:List V2) (k:Nat):(zJL l k).length=l.length:=by simp [zJL];omega
theorem zMy {l:List V2} {k i:Nat} (hk:k<l.length) (hi:i<l.length):at_ (zJL l k) i=at_ l ((i+k) % l.length):=by
 unfold at_ zJL
 rw [List.getD_eq_getElem?_getD,List.getD_eq_getElem?_getD]
 congr 1
 by_cases h:i+k<l.length
 ·rw [List.getElem?_append_left (by rw [List.length_drop];omega),List.getElem?_drop,Nat.mod_eq_of_lt h,Nat.add_comm]
 ·have e:(i+k) % l.length=i+k - l.length:=by
   rw [Nat.mod_eq_sub_mod (by omega),Nat.mod_eq_of_lt (by omega)]
  rw [List.getElem?_append_right (by rw [List.length_drop];omega),List.length_drop,e,List.getElem?_take,if_pos (by omega)]
  congr 1
  omega
end Go.Proofs.Wd

namespace Go.Proofs.Wd
def fl (q:Rat):Int:=q.num / (q.den:Int)
def zT7 (s:Nat):Rat:=((2^s:Nat):Rat)
def upto (q:Rat) (s:Nat):Rat:=mkRat (fl (q*zT7 s)+1) (2^s)
end Go.Proofs.Wd

namespace Go.Proofs.Wd
open Lb
theorem zE3 (q:Rat):(q.num:Rat)=q*(q.den:Rat):=by
 have h:=Rat.mkRat_self q
 rw [Rat.mkRat_eq_div] at h
 have hd:(q.den:Rat)≠0:=fun h=>q.den_nz (by exact_mod_cast h)
 grind
theorem QB.ratio {q:Rat} {X D:Int} {m:Nat} (hm:0<m) (h:q*(D:Rat)=(X:Rat)) (hD:D≠0) (hX:Bd X m) (hD':Bd D m):QB q m:=by
  have e0:=zE3 q
  have e1:((q.num*D:Int):Rat)=((X*(q.den:Int):Int):Rat):=by
    rw [Rat.intCast_mul,Rat.intCast_mul,e0, ←h]
    show q*(q.den:Rat)*(D:Rat)=q*(D:Rat)*((q.den:Int):Rat)
    rw [Rat.intCast_natCast]
    grind
  have e2:q.num*D=X*(q.den:Int):=by exact_mod_cast e1
  have e3:q.num.natAbs*D.natAbs=X.natAbs*q.den:=by
    have:=congrArg Int.natAbs e2
    rwa [Int.natAbs_mul,Int.natAbs_mul,Int.natAbs_natCast] at this
  have hc:Nat.Coprime q.den q.num.natAbs:=q.reduced.symm
  have hd:q.den∣D.natAbs:=hc.dvd_of_dvd_mul_left (by rw [e3];exact Nat.dvd_mul_left _ _)
  have hDp:0<D.natAbs:=Int.natAbs_pos.2 hD
  obtain ⟨k,hk⟩:=hd
  have hk0 : 0 < k := by rcases Nat.eq_zero_or_pos k with h|h;· rw [h] at hk;omega
                         · exact h
  refine ⟨?_,Nat.lt_of_le_of_lt ?_ hD'⟩
  · have:q.num.natAbs*k=X.natAbs:=by
      rw [hk, ←Nat.mul_assoc,Nat.mul_comm q.num.natAbs,Nat.mul_assoc,Nat.mul_comm q.den] at e3
      exact Nat.eq_of_mul_eq_mul_right q.den_pos e3
    refine Nat.lt_of_le_of_lt ?_ hX
    rw [←this]
    exact Nat.le_mul_of_pos_right _ hk0
  · rw [hk];exact Nat.le_mul_of_pos_right _ hk0
def PB (p:V2) (m:Nat):Prop:=QB p.1 m∧QB p.2 m
structure Ln where
 A:Int
 B:Int
 C:Int
def Ln.bd (l:Ln) (m:Nat):Prop:=Bd l.A m∧Bd l.B m∧Bd l.C m
def Ln.on (l:Ln) (p:V2):Prop:=(l.A:Rat)*p.1+(l.B:Rat)*p.2+(l.C:Rat)=0
theorem zUm {a b:V2} {m:Nat} (ha:PB a m) (hb:PB b m): ∃l:Ln,l.bd (4*m+1)∧ ∃s:Rat,s≠0∧ ∀p:V2,(l.A:Rat)*p.1+(l.B:Rat)*p.2+(l.C:Rat)=s*crs a b p:=by
 refine ⟨⟨-(b.2.num*a.2.den - a.2.num*b.2.den)*(a.1.den*b.1.den),(b.1.num*a.1.den - a.1.num*b.1.den)*(a.2.den*b.2.den),b.2.num*a.1.num*(b.1.den*a.2.den) - b.1.num*a.2.num*(a.1.den*b.2.den)⟩, ?_,(a.1.den:Rat)*b.1.den*(a.2.den*b.2.den), ?_,fun p=> ?_⟩
 ·have d1:=qP ha.1.2;have d2:=qP ha.2.2;have d3:=qP hb.1.2;have d4:=qP hb.2.2
  refine ⟨?_, ?_, ?_⟩
  ·exact (((((hb.2.1.mul d2).add ((ha.2.1.mul d4).neg.mono (by omega))).neg.mul (d1.mul d3)).mono (m':=4*m+1) (by omega)):_)
  ·exact ((((hb.1.1.mul d1).add ((ha.1.1.mul d3).neg.mono (by omega))).mul (d2.mul d4)).mono (by omega))
  ·exact (((hb.2.1.mul ha.1.1).mul (d3.mul d2)).add ((((hb.1.1.mul ha.2.1).mul (d1.mul d4)).neg).mono (by omega))).mono (by omega)
 ·have: ∀q:Rat,(q.den:Rat)≠0:=fun q h=>q.den_nz (by exact_mod_cast h)
  have h1:=this a.1;have h2:=this a.2;have h3:=this b.1;have h4:=this b.2
  intro h
  rcases Rat.mul_eq_zero.1 h with h|h<;>rcases Rat.mul_eq_zero.1 h with h|h<;>contradiction
 ·simp only [Rat.intCast_mul,Rat.intCast_sub,Rat.intCast_neg,Rat.intCast_natCast,zE3]
  unfold crs
  grind
theorem zOk {l l':Ln} {p q:V2} {m:Nat} (hm:0<m) (hl:l.bd m) (hl':l'.bd m) (h1:l.on p) (h2:l.on q) (h3:l'.on p) (hq: ¬l'.on q) (h0:l.A≠0∨l.B≠0):PB p (2*m+1):=by
 unfold Ln.on at*
 have hD:l.A*l'.B - l'.A*l.B≠0:=fun e=>by
  have e':(l.A:Rat)*l'.B - (l'.A:Rat)*l.B=0:=by exact_mod_cast e
  apply hq
  rcases h0 with h0|h0
  ·have h0':(l.A:Rat)≠0:=fun h=>h0 (by exact_mod_cast h)
   have:(l.A:Rat)*((l'.A:Rat)*q.1+(l'.B:Rat)*q.2+(l'.C:Rat))=0:=by grind
   rcases Rat.mul_eq_zero.1 this with h|h
   ·exact absurd h h0'
   ·exact h
  ·have h0':(l.B:Rat)≠0:=fun h=>h0 (by exact_mod_cast h)
   have:(l.B:Rat)*((l'.A:Rat)*q.1+(l'.B:Rat)*q.2+(l'.C:Rat))=0:=by grind
   rcases Rat.mul_eq_zero.1 this with h|h
   ·exact absurd h h0'
   ·exact h
 have bD:Bd (l.A*l'.B - l'.A*l.B) (2*m+1):=((hl.1.mul hl'.2.1).add ((hl'.1.mul hl.2.1).neg.mono (by omega))).mono (by omega)
 constructor
 ·refine QB.ratio (X:=l.B*l'.C - l'.B*l.C) (by omega) ?_ hD (((hl.2.1.mul hl'.2.2).add ((hl'.2.1.mul hl.2.2).neg.mono (by omega))).mono (by omega)) bD
  simp only [Rat.intCast_mul,Rat.intCast_sub]
  grind
 ·refine QB.ratio (X:=l.C*l'.A - l'.C*l.A) (by omega) ?_ hD (((hl.2.2.mul hl'.1).add ((hl'.2.2.mul hl.1).neg.mono (by omega))).mono (by omega)) bD
  simp only [Rat.intCast_mul,Rat.intCast_sub]
  grind
theorem zSJ {a b:V2} (h:a≠b) (l:Ln) (s:Rat) (hs:s≠0) (he: ∀p:V2,(l.A:Rat)*p.1+(l.B:Rat)*p.2+(l.C:Rat)=s*crs a b p):l.A≠0∨l.B≠0:=by
 apply Classical.byContradiction
 intro hn
 have hA:l.A=0:=Classical.byContradiction fun h=>hn (.inl h)
 have hB:l.B=0:=Classical.byContradiction fun h=>hn (.inr h)
 have e1:=he a
 have e2:=he (a.1 - (b.2 - a.2),a.2+(b.1 - a.1))
 rw [hA,hB] at e1 e2
 have z1:crs a b a=0:=by unfold crs;grind
 have z2:crs a b (a.1 - (b.2 - a.2),a.2+(b.1 - a.1))=(b.1 - a.1)*(b.1 - a.1)+(b.2 - a.2)*(b.2 - a.2):=by unfold crs;grind
 rw [z1] at e1
 have e3:s*crs a b (a.1 - (b.2 - a.2),a.2+(b.1 - a.1))=0:=by rw [←e2,show ((0:Int):Rat)=0 from rfl];rw [show ((0:Int):Rat)=0 from rfl] at e1;grind
 rcases Rat.mul_eq_zero.1 e3 with e3|e3
 ·exact hs e3
 ·rw [z2] at e3
  have sq: ∀x:Rat,0≤x*x∧(x*x=0→x=0):=fun x=>⟨by
   rcases (Rat.le_total:0≤x∨x≤0) with h|h
   ·exact Rat.mul_nonneg h h
   ·have:=Rat.mul_nonneg (show 0≤-x by grind) (show 0≤-x by grind);grind,fun h=>by rcases Rat.mul_eq_zero.1 h with h|h<;>exact h⟩
  have s1:=sq (b.1 - a.1);have s2:=sq (b.2 - a.2)
  have x1:=s1.2 (by grind)
  have x2:=s2.2 (by grind)
  exact h (Prod.ext (by grind) (by grind))
end Go.Proofs.Wd

namespace Go.Proofs.Wd
structure SRing (z:V2) (l:List V2):Prop where
 nd:l.Nodup
 ring:zUv (zUu z) l
 strict: ∀i,i<l.length→ ∀r,r∈l→r≠at_ l i→r≠at_ l ((i+1) % l.length)→0<crs (at_ l i) (at_ l ((i+1) % l.length)) r
section
variable {z:V2} {l:List V2} (S:SRing z l) (h:Aff)
include S
end
end Go.Proofs.Wd
