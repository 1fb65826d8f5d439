/- prod.Mul; The walk of num.mul; The walk of sint.Mul; Integers as value and what it needs. -/
import Derived.Test.YtflmgbgobidieaaGreatDoorMPO11
import Derived.Laws.EntriesVeiled
import Derived.Test.YtflmgbgobidieaaGreatDoorMPO7
import Derived.Test.YtflmgbgobidieaaGreatDoorMPO3
import Derived.Test.YtflmgbgobidieaaGreatDoorMPO9
namespace Go.Proofs.Wd
set_option maxRecDepth 100000
set_option maxHeartbeats 2000000
open Go.RowKit Lb
attribute [local go_sem] Oper.semAt_some wide_fn wide_depth
theorem mul_any (A:Option Addr) (n c:Nat) (l:List Nat) (A':Option Addr) (n' c':Nat) (l':List Nat) (w:World) (h:Rd w A n c l) (h':Rd w A' n' c' l') (ht:Lt l) (ht':Lt l') (hn:n≤40000) (hn':n'≤40000):
  Calls Tryz.prog 172 #[.slice A n c, .slice A' n' c'] w (RetNat w (val l*val l')):=by
 have hmix:Tryz.prog.follows .mixedOrders=true:=by kernel_rfl
 obtain ⟨W0,hW0⟩: ∃W0,w.alloc (Obj.cells #[mulFn w.heap.size] 103)=W0:=⟨_,rfl⟩
 have bA:Below w.heap.size w W0:=hW0▸(Below.refl _ w).alloc (Nat.le_refl _) _
 have cA:W0.cell? ⟨w.heap.size,0,none⟩=some (mulFn w.heap.size):=by
  rw [←hW0]
  rw [World.cell?_alloc_new]
  rfl
 unfold mulFn at hW0
 have hcl: ∀W,Below W0.heap.size W0 W→W.cell? ⟨w.heap.size,0,none⟩=some (mulFn w.heap.size):=fun W hb=>(hb.cell (p:=⟨w.heap.size,0,none⟩) (lt_of_cell cA)).trans cA
 obtain ⟨mb,hmb⟩: ∃mb,w.heap.size=mb:=⟨_,rfl⟩
 go_enter Tryz.func172,Tryz.ntmps172
 go_wp2
 rw [hmb] at cA hcl hW0
 erw [hW0]
 refine (wpIn_wide (n:=0)).1 ?_
 refine wpIn_region_C 100 (fun W=>W.cell? ⟨mb,0,none⟩=some (.func (.func 190) #[] #[.pointer (some ⟨mb,0,none⟩)])) hmix ?_
 have b0:Below W0.heap.size W0 W0.drew:=(Below.refl _ W0).drew
 have c0:=hcl _ b0
 unfold mulFn at c0
 refine takeC (i:=0) (v:= ?vv1) (by kernel_rfl) (by kernel_rfl) rfl (by kernel_rfl) (by kernel_rfl) (by kernel_rfl) (fun _ _ _ h=>h) c0 ⟨.inl ⟨rfl, ?yy1⟩,fun _=>rfl⟩ ?_
 case yy1=>
  rintro wx q1
  go_simp
  first|done|rfl
 refine takeC (i:=1) (v:= ?vv2) (by kernel_rfl) (by kernel_rfl) rfl (by kernel_rfl) (by kernel_rfl) (by kernel_rfl) (fun _ _ _ h=>h) c0 ⟨.inl ⟨rfl, ?yy2⟩,fun _=>rfl⟩ ?_
 case yy2=>
  rintro wx q1
  go_simp
  first|done|rfl
 refine takeC (i:=3) (v:= ?vv3) (by kernel_rfl) (by kernel_rfl) rfl (by kernel_rfl) (by kernel_rfl) (by kernel_rfl) (fun _ _ _ h=>h) c0 ⟨.inl ⟨rfl, ?yy3⟩,fun _=>rfl⟩ ?_
 case yy3=>
  rintro wx q1
  go_simp
  first|done|rfl
 have bw0:Below w.heap.size w W0.drew:=bA.drew
 have i1:=trim_any A n c l W0.drew (h.below bw0) ht (by omega)
 refine oneC (i:=2) (by kernel_rfl) rfl (fun K hK=> ?_)
 go_simp
 refine CallsIn.mono (callsIn_wide.2 i1) ?_
 rintro e W1 ⟨A1,n1,c1,l1,rfl,hi1,hr1,hb1⟩
 have b1:=b0.trans (hb1.mono b0.size)
 have c1':=hcl _ b1
 unfold mulFn at c1'
 refine hK _ _ (.inr c1') ?_
 clear hK K i1
 have bw1:=bw0.trans (hb1.mono bw0.size)
 have i2:=trim_any A' n' c' l' W1 (h'.below bw1) ht' (by omega)
 refine oneC (i:=4) (by kernel_rfl) rfl (fun K hK=> ?_)
 go_simp
 refine CallsIn.mono (callsIn_wide.2 i2) ?_
 rintro e W2 ⟨A2,n2,c2,l2,rfl,hi2,hr2,hb2⟩
 have b2:=b1.trans (hb2.mono b1.size)
 have c2':=hcl _ b2
 have c2'':=c2'
 unfold mulFn at c2'
 refine hK _ _ (.inr c2') ?_
 clear hK K i2
 have bw2:=bw1.trans (hb2.mono bw1.size)
 have hn1:n1≤40000:=by
  rw [←hr1.len]
  exact Nat.le_trans (hi1.len (k:=n) (by have:=val_lt ht;rwa [h.len] at this)) hn
 have hn2:n2≤40000:=by
  rw [←hr2.len]
  exact Nat.le_trans (hi2.len (k:=n') (by have:=val_lt ht';rwa [h'.len] at this)) hn'
 have i3:=kmul_all 40000 (by omega) mb A1 n1 c1 l1 A2 n2 c2 l2 W2 (hr1.below hb2) hr2 hi1.lt hi2.lt hn1 hn2 c2''
 rw [hi1.val,hi2.val] at i3
 refine oneC (i:=5) (by kernel_rfl) rfl (fun K hK=> ?_)
 go_simp
 refine CallsIn.mono (callsIn_wide.2 i3) ?_
 rintro e W3 ⟨A3,n3,c3,l3,rfl,hi3,hr3,hb3⟩
 have b3:=b2.trans (hb3.mono b2.size)
 have c3':=hcl _ b3
 unfold mulFn at c3'
 refine hK _ _ (.inr c3') ?_
 clear hK K i3
 refine oneC (i:=6) (by kernel_rfl) rfl (fun K hK=> ?_)
 go_simp
 refine hK _ _ (.inr c3') ?_
 clear hK K
 refine doneP (by kernel_rfl) ?_
 have bw3:=bw2.trans (hb3.mono bw2.size)
 go_wp2
 all_goals
  go_ret
  exact ⟨A3,n3,c3,l3,rfl,hi3,hr3,bw3⟩
end Go.Proofs.Wd

namespace Go.Proofs.Wd
set_option maxRecDepth 100000
set_option maxHeartbeats 1000000
open Go.RowKit Lb
attribute [local go_sem] Oper.semAt_some wide_fn wide_depth
theorem sgn_mul {v v':Int} {l:List Nat} (h:val l=v.natAbs*v'.natAbs):iv (!(decide (v<0)==decide (v'<0))) l=v*v':=by
 unfold iv
 rw [h]
 rcases Int.lt_or_le v 0 with h1|h1<;>rcases Int.lt_or_le v' 0 with h2|h2
 all_goals simp only [h1,h2,decide_true,decide_false,Int.not_lt.2 h1,Int.not_lt.2 h2,beq_self_eq_true,Bool.not_true,Bool.not_false,Bool.false_eq_true,if_true,if_false,Int.natCast_mul,show (true==false)=false from rfl,show (false==true)=false from rfl]
 all_goals first|rw [Int.ofNat_natAbs_of_nonneg h1]|rw [Int.ofNat_natAbs_of_nonpos (Int.le_of_lt h1)]
 all_goals first|rw [Int.ofNat_natAbs_of_nonneg h2]|rw [Int.ofNat_natAbs_of_nonpos (Int.le_of_lt h2)]
 all_goals simp [Int.neg_mul,Int.mul_neg]
theorem num_mul (B B':Nat) (v v':Int) (k:Nat) (w:World) (h:NumAt w B v) (h':NumAt w B' v') (hv:v.natAbs<BB^k) (hv':v'.natAbs<BB^k) (hk:k≤40000):
  Calls Tryz.prog 183 #[.pointer (some ⟨B,0,none⟩), .pointer (some ⟨B',0,none⟩)] w fun e w'=>(∃u,e= .returned u)∧NumAt w' B (v*v')∧w.grownBy w' (some B):=by
 obtain ⟨A,n,c,l,hb,hi,hr⟩:=h
 obtain ⟨A',n',c',l',hb',hi',hr'⟩:=h'
 have hn:n≤k:=by rw [←hr.len];exact hi.len hv
 have hn':n'≤k:=by rw [←hr'.len];exact hi'.len hv'
 have hmix:Tryz.prog.follows .mixedOrders=true:=by kernel_rfl
 have cf: ∀W,Below w.heap.size w W→(W.cell? ⟨B,0,none⟩=some (.bool (decide (v<0)))∧W.cell? ⟨B,1,none⟩=some (.slice A n c))∧W.cell? ⟨B',0,none⟩=some (.bool (decide (v'<0)))∧W.cell? ⟨B',1,none⟩=some (.slice A' n' c'):=fun W hb1=>⟨(hb.kept hb1).facts2.1,(hb'.kept hb1).facts2.1⟩
 go_enter Tryz.func183,Tryz.ntmps183
 go_wp2
 refine (wpIn_wide (n:=0)).1 ?_
 refine wpIn_region_C 31 (fun _=>True) hmix ?_
 refine takeC (i:=1) (v:= ?vv1) (by kernel_rfl) (by kernel_rfl) rfl (by kernel_rfl) (by kernel_rfl) (by kernel_rfl) (fun _ _ _ h=>h) trivial ⟨.inl ⟨rfl, ?yy1⟩,fun _=>rfl⟩ ?_
 case yy1=>
  rintro wx _
  go_simp
  first|done|rfl
 refine flowT_at (k:=24) (fun _=>false) (fun iz vz Wz=>match iz with
  |0=>vz= .pointer (some ⟨B,0,none⟩)
  |1=>vz= .pointer (some ⟨B,0,none⟩)
  |2=>vz= .pointer (some ⟨B,0,none⟩)
  |3=>vz= .pointer (some ⟨B,0,none⟩)
  |4=>vz= .pointer (some ⟨B,0,none⟩)
  |5=>vz= .pointer (some ⟨B,0,none⟩)
  |6=>vz= .bool (decide (v<0))
  |7=>vz= .pointer (some ⟨B',0,none⟩)
  |8=>vz= .pointer (some ⟨B',0,none⟩)
  |9=>vz= .pointer (some ⟨B',0,none⟩)
  |10=>vz= .pointer (some ⟨B',0,none⟩)
  |11=>vz= .bool (decide (v'<0))
  |12=>vz= .bool (!(decide (v<0)==decide (v'<0)))
  |13=>vz= .pointer (some ⟨B,0,none⟩)
  |14=>vz= .pointer (some ⟨B,0,none⟩)
  |15=>vz= .pointer (some ⟨B,0,none⟩)
  |16=>vz= .pointer (some ⟨B,1,none⟩)
  |17=>vz= .slice A n c
  |18=>vz= .pointer (some ⟨B',0,none⟩)
  |19=>vz= .pointer (some ⟨B',0,none⟩)
  |20=>vz= .pointer (some ⟨B',0,none⟩)
  |21=>vz= .pointer (some ⟨B',1,none⟩)
  |22=>vz= .slice A' n' c'
  |23=>NatV Wz vz (v.natAbs*v'.natAbs)
  |_=>True) (fun W=>Below w.heap.size w W) (by kernel_rfl) (by kernel_rfl) (by kernel_rfl) (by kernel_rfl) (by kernel_rfl) (by kernel_rfl) (by kernel_rfl) (by kernel_rfl) (by kernel_rfl) (fun _ _ h hb=>h.trans (hb.mono h.size)) ?stab ((Below.refl _ w).drew) ?spec ?fin
 case stab=>
  intro iz vz Wz Wy h hb
  split at h<;>first|exact h|exact NatV.below h hb|trivial
 case spec=>
  refine all_lt_succ ?_ ?h23
  refine all_lt_succ ?_ ?h22
  refine all_lt_succ ?_ ?h21
  refine all_lt_succ ?_ ?h20
  refine all_lt_succ ?_ ?h19
  refine all_lt_succ ?_ ?h18
  refine all_lt_succ ?_ ?h17
  refine all_lt_succ ?_ ?h16
  refine all_lt_succ ?_ ?h15
  refine all_lt_succ ?_ ?h14
  refine all_lt_succ ?_ ?h13
  refine all_lt_succ ?_ ?h12
  refine all_lt_succ ?_ ?h11
  refine all_lt_succ ?_ ?h10
  refine all_lt_succ ?_ ?h9
  refine all_lt_succ ?_ ?h8
  refine all_lt_succ ?_ ?h7
  refine all_lt_succ ?_ ?h6
  refine all_lt_succ ?_ ?h5
  refine all_lt_succ ?_ ?h4
  refine all_lt_succ ?_ ?h3
  refine all_lt_succ ?_ ?h2
  refine all_lt_succ ?_ ?h1
  refine all_lt_succ ?_ ?h0
  exact fun i h _=>absurd h (Nat.not_lt_zero i)
  case h0=>
   intro _ o hi b5 W5 hf K hK
   cases hi
   have k0:b5.tmps[0]?.getD undef= .pointer (some ⟨B,0,none⟩):=(Array.getD_eq_getD_getElem? ..).symm.trans ((hf.at_.keep 0 (by kernel_rfl)).trans (by kernel_rfl))
   refine wpOpIn_step rfl (fun K' hK'=> ?_)
   go_simp
   exact hK' _ _ (hK _ _ rfl (Below.refl _ _) (fun h=>by cases h))
  case h1=>
   intro h
   exact absurd h (by decide)
  case h2=>
   intro _ o hi b5 W5 hf K hK
   cases hi
   have k0:b5.tmps[0]?.getD undef= .pointer (some ⟨B,0,none⟩):=(Array.getD_eq_getD_getElem? ..).symm.trans ((hf.at_.keep 0 (by kernel_rfl)).trans (by kernel_rfl))
   refine wpOpIn_step rfl (fun K' hK'=> ?_)
   go_simp
   exact hK' _ _ (hK _ _ rfl (Below.refl _ _) (fun h=>by cases h))
  case h3=>
   intro _ o hi b5 W5 hf K hK
   cases hi
   have k6:b5.tmps[6]?.getD undef= .pointer (some ⟨B,0,none⟩):=(Array.getD_eq_getD_getElem? ..).symm.trans (hf.at_.vals 2 _ 6 ⟨by decide,⟨2, .data⟩,by simp,by kernel_rfl,rfl⟩ rfl rfl)
   refine wpOpIn_step rfl (fun K' hK'=> ?_)
   go_simp
   exact hK' _ _ (hK _ _ rfl (Below.refl _ _) (fun h=>by cases h))
  case h4=>
   intro _ o hi b5 W5 hf K hK
   cases hi
   have k7:b5.tmps[7]?.getD undef= .pointer (some ⟨B,0,none⟩):=(Array.getD_eq_getD_getElem? ..).symm.trans (hf.at_.vals 3 _ 7 ⟨by decide,⟨3, .data⟩,by simp,by kernel_rfl,rfl⟩ rfl rfl)
   refine wpOpIn_step rfl (fun K' hK'=> ?_)
   go_simp
   exact hK' _ _ (hK _ _ rfl (Below.refl _ _) (fun h=>by cases h))
  case h5=>
   intro _ o hi b5 W5 hf K hK
   cases hi
   have k8:b5.tmps[8]?.getD undef= .pointer (some ⟨B,0,none⟩):=(Array.getD_eq_getD_getElem? ..).symm.trans (hf.at_.vals 4 _ 8 ⟨by decide,⟨4, .data⟩,by simp,by kernel_rfl,rfl⟩ rfl rfl)
   refine wpOpIn_step rfl (fun K' hK'=> ?_)
   go_simp
   exact hK' _ _ (hK _ _ rfl (Below.refl _ _) (fun h=>by cases h))
  case h6=>
   intro _ o hi b5 W5 hf K hK
   cases hi
   have k9:b5.tmps[9]?.getD undef= .pointer (some ⟨B,0,none⟩):=(Array.getD_eq_getD_getElem? ..).symm.trans (hf.at_.vals 5 _ 9 ⟨by decide,⟨5, .data⟩,by simp,by kernel_rfl,rfl⟩ rfl rfl)
   obtain ⟨⟨q1,q2⟩,q3,q4⟩:=cf W5 hf.at_.cls
   refine wpOpIn_step rfl (fun K' hK'=> ?_)
   go_simp
   exact hK' _ _ (hK _ _ rfl (Below.refl _ _) (fun h=>by cases h))
  case h7=>
   intro _ o hi b5 W5 hf K hK
   cases hi
   have k1:b5.tmps[1]?.getD undef= .pointer (some ⟨B',0,none⟩):=(Array.getD_eq_getD_getElem? ..).symm.trans ((hf.at_.keep 1 (by kernel_rfl)).trans (by kernel_rfl))
   refine wpOpIn_step rfl (fun K' hK'=> ?_)
   go_simp
   exact hK' _ _ (hK _ _ rfl (Below.refl _ _) (fun h=>by cases h))
  case h8=>
   intro _ o hi b5 W5 hf K hK
   cases hi
   have k11:b5.tmps[11]?.getD undef= .pointer (some ⟨B',0,none⟩):=(Array.getD_eq_getD_getElem? ..).symm.trans (hf.at_.vals 7 _ 11 ⟨by decide,⟨7, .data⟩,by simp,by kernel_rfl,rfl⟩ rfl rfl)
   refine wpOpIn_step rfl (fun K' hK'=> ?_)
   go_simp
   exact hK' _ _ (hK _ _ rfl (Below.refl _ _) (fun h=>by cases h))
  case h9=>
   intro _ o hi b5 W5 hf K hK
   cases hi
   have k12:b5.tmps[12]?.getD undef= .pointer (some ⟨B',0,none⟩):=(Array.getD_eq_getD_getElem? ..).symm.trans (hf.at_.vals 8 _ 12 ⟨by decide,⟨8, .data⟩,by simp,by kernel_rfl,rfl⟩ rfl rfl)
   refine wpOpIn_step rfl (fun K' hK'=> ?_)
   go_simp
   exact hK' _ _ (hK _ _ rfl (Below.refl _ _) (fun h=>by cases h))
  case h10=>
   intro _ o hi b5 W5 hf K hK
   cases hi
   have k13:b5.tmps[13]?.getD undef= .pointer (some ⟨B',0,none⟩):=(Array.getD_eq_getD_getElem? ..).symm.trans (hf.at_.vals 9 _ 13 ⟨by decide,⟨9, .data⟩,by simp,by kernel_rfl,rfl⟩ rfl rfl)
   refine wpOpIn_step rfl (fun K' hK'=> ?_)
   go_simp
   exact hK' _ _ (hK _ _ rfl (Below.refl _ _) (fun h=>by cases h))
  case h11=>
   intro _ o hi b5 W5 hf K hK
   cases hi
   have k14:b5.tmps[14]?.getD undef= .pointer (some ⟨B',0,none⟩):=(Array.getD_eq_getD_getElem? ..).symm.trans (hf.at_.vals 10 _ 14 ⟨by decide,⟨10, .data⟩,by simp,by kernel_rfl,rfl⟩ rfl rfl)
   obtain ⟨⟨q1,q2⟩,q3,q4⟩:=cf W5 hf.at_.cls
   refine wpOpIn_step rfl (fun K' hK'=> ?_)
   go_simp
   exact hK' _ _ (hK _ _ rfl (Below.refl _ _) (fun h=>by cases h))
  case h12=>
   intro _ o hi b5 W5 hf K hK
   cases hi
   have k10:b5.tmps[10]?.getD undef= .bool (decide (v<0)):=(Array.getD_eq_getD_getElem? ..).symm.trans (hf.at_.vals 6 _ 10 ⟨by decide,⟨6, .data⟩,by simp,by kernel_rfl,rfl⟩ rfl rfl)
   have k15:b5.tmps[15]?.getD undef= .bool (decide (v'<0)):=(Array.getD_eq_getD_getElem? ..).symm.trans (hf.at_.vals 11 _ 15 ⟨by decide,⟨11, .data⟩,by simp,by kernel_rfl,rfl⟩ rfl rfl)
   refine wpOpIn_step rfl (fun K' hK'=> ?_)
   go_simp
   exact hK' _ _ (hK _ _ rfl (Below.refl _ _) (fun h=>by cases h))
  case h13=>
   intro _ o hi b5 W5 hf K hK
   cases hi
   have k0:b5.tmps[0]?.getD undef= .pointer (some ⟨B,0,none⟩):=(Array.getD_eq_getD_getElem? ..).symm.trans ((hf.at_.keep 0 (by kernel_rfl)).trans (by kernel_rfl))
   refine wpOpIn_step rfl (fun K' hK'=> ?_)
   go_simp
   exact hK' _ _ (hK _ _ rfl (Below.refl _ _) (fun h=>by cases h))
  case h14=>
   intro _ o hi b5 W5 hf K hK
   cases hi
   have k17:b5.tmps[17]?.getD undef= .pointer (some ⟨B,0,none⟩):=(Array.getD_eq_getD_getElem? ..).symm.trans (hf.at_.vals 13 _ 17 ⟨by decide,⟨13, .data⟩,by simp,by kernel_rfl,rfl⟩ rfl rfl)
   refine wpOpIn_step rfl (fun K' hK'=> ?_)
   go_simp
   exact hK' _ _ (hK _ _ rfl (Below.refl _ _) (fun h=>by cases h))
  case h15=>
   intro _ o hi b5 W5 hf K hK
   cases hi
   have k18:b5.tmps[18]?.getD undef= .pointer (some ⟨B,0,none⟩):=(Array.getD_eq_getD_getElem? ..).symm.trans (hf.at_.vals 14 _ 18 ⟨by decide,⟨14, .data⟩,by simp,by kernel_rfl,rfl⟩ rfl rfl)
   refine wpOpIn_step rfl (fun K' hK'=> ?_)
   go_simp
   exact hK' _ _ (hK _ _ rfl (Below.refl _ _) (fun h=>by cases h))
  case h16=>
   intro _ o hi b5 W5 hf K hK
   cases hi
   have k19:b5.tmps[19]?.getD undef= .pointer (some ⟨B,0,none⟩):=(Array.getD_eq_getD_getElem? ..).symm.trans (hf.at_.vals 15 _ 19 ⟨by decide,⟨15, .data⟩,by simp,by kernel_rfl,rfl⟩ rfl rfl)
   refine wpOpIn_step rfl (fun K' hK'=> ?_)
   go_simp
   exact hK' _ _ (hK _ _ rfl (Below.refl _ _) (fun h=>by cases h))
  case h17=>
   intro _ o hi b5 W5 hf K hK
   cases hi
   have k20:b5.tmps[20]?.getD undef= .pointer (some ⟨B,1,none⟩):=(Array.getD_eq_getD_getElem? ..).symm.trans (hf.at_.vals 16 _ 20 ⟨by decide,⟨16, .data⟩,by simp,by kernel_rfl,rfl⟩ rfl rfl)
   obtain ⟨⟨q1,q2⟩,q3,q4⟩:=cf W5 hf.at_.cls
   refine wpOpIn_step rfl (fun K' hK'=> ?_)
   go_simp
   exact hK' _ _ (hK _ _ rfl (Below.refl _ _) (fun h=>by cases h))
  case h18=>
   intro _ o hi b5 W5 hf K hK
   cases hi
   have k1:b5.tmps[1]?.getD undef= .pointer (some ⟨B',0,none⟩):=(Array.getD_eq_getD_getElem? ..).symm.trans ((hf.at_.keep 1 (by kernel_rfl)).trans (by kernel_rfl))
   refine wpOpIn_step rfl (fun K' hK'=> ?_)
   go_simp
   exact hK' _ _ (hK _ _ rfl (Below.refl _ _) (fun h=>by cases h))
  case h19=>
   intro _ o hi b5 W5 hf K hK
   cases hi
   have k22:b5.tmps[22]?.getD undef= .pointer (some ⟨B',0,none⟩):=(Array.getD_eq_getD_getElem? ..).symm.trans (hf.at_.vals 18 _ 22 ⟨by decide,⟨18, .data⟩,by simp,by kernel_rfl,rfl⟩ rfl rfl)
   refine wpOpIn_step rfl (fun K' hK'=> ?_)
   go_simp
   exact hK' _ _ (hK _ _ rfl (Below.refl _ _) (fun h=>by cases h))
  case h20=>
   intro _ o hi b5 W5 hf K hK
   cases hi
   have k23:b5.tmps[23]?.getD undef= .pointer (some ⟨B',0,none⟩):=(Array.getD_eq_getD_getElem? ..).symm.trans (hf.at_.vals 19 _ 23 ⟨by decide,⟨19, .data⟩,by simp,by kernel_rfl,rfl⟩ rfl rfl)
   refine wpOpIn_step rfl (fun K' hK'=> ?_)
   go_simp
   exact hK' _ _ (hK _ _ rfl (Below.refl _ _) (fun h=>by cases h))
  case h21=>
   intro _ o hi b5 W5 hf K hK
   cases hi
   have k24:b5.tmps[24]?.getD undef= .pointer (some ⟨B',0,none⟩):=(Array.getD_eq_getD_getElem? ..).symm.trans (hf.at_.vals 20 _ 24 ⟨by decide,⟨20, .data⟩,by simp,by kernel_rfl,rfl⟩ rfl rfl)
   refine wpOpIn_step rfl (fun K' hK'=> ?_)
   go_simp
   exact hK' _ _ (hK _ _ rfl (Below.refl _ _) (fun h=>by cases h))
  case h22=>
   intro _ o hi b5 W5 hf K hK
   cases hi
   have k25:b5.tmps[25]?.getD undef= .pointer (some ⟨B',1,none⟩):=(Array.getD_eq_getD_getElem? ..).symm.trans (hf.at_.vals 21 _ 25 ⟨by decide,⟨21, .data⟩,by simp,by kernel_rfl,rfl⟩ rfl rfl)
   obtain ⟨⟨q1,q2⟩,q3,q4⟩:=cf W5 hf.at_.cls
   refine wpOpIn_step rfl (fun K' hK'=> ?_)
   go_simp
   exact hK' _ _ (hK _ _ rfl (Below.refl _ _) (fun h=>by cases h))
  case h23=>
   intro _ o hi b5 W5 hf K hK
   cases hi
   have k21:b5.tmps[21]?.getD undef= .slice A n c:=(Array.getD_eq_getD_getElem? ..).symm.trans (hf.at_.vals 17 _ 21 ⟨by decide,⟨17, .data⟩,by simp,by kernel_rfl,rfl⟩ rfl rfl)
   have k26:b5.tmps[26]?.getD undef= .slice A' n' c':=(Array.getD_eq_getD_getElem? ..).symm.trans (hf.at_.vals 22 _ 26 ⟨by decide,⟨22, .data⟩,by simp,by kernel_rfl,rfl⟩ rfl rfl)
   refine wpOpIn_step rfl (fun K' hK'=> ?_)
   go_simp
   have hm:=mul_any A n c l A' n' c' l' W5 (hr.below hf.at_.cls) (hr'.below hf.at_.cls) hi.lt hi'.lt (by omega) (by omega)
   rw [hi.val,hi'.val] at hm
   refine CallsIn.mono (callsIn_wide.2 hm) ?_
   rintro e W' ⟨A7,n7,c7,l7,rfl,hi7,hr7,hb7⟩
   exact hK' _ _ (hK _ _ ⟨A7,n7,c7,l7,rfl,hi7,hr7⟩ hb7 (fun h=>by cases h))
 case fin=>
  intro b5 W5 hf
  have e4:b5.tmps.getD 4 undef= .pointer (some ⟨B,0,none⟩):=hf.at_.vals 0 _ 4 ⟨by decide,by decide⟩ rfl rfl
  have e6:b5.tmps.getD 6 undef= .pointer (some ⟨B,0,none⟩):=hf.at_.vals 2 _ 6 ⟨by decide,by decide⟩ rfl rfl
  have e7:b5.tmps.getD 7 undef= .pointer (some ⟨B,0,none⟩):=hf.at_.vals 3 _ 7 ⟨by decide,by decide⟩ rfl rfl
  have e8:b5.tmps.getD 8 undef= .pointer (some ⟨B,0,none⟩):=hf.at_.vals 4 _ 8 ⟨by decide,by decide⟩ rfl rfl
  have e9:b5.tmps.getD 9 undef= .pointer (some ⟨B,0,none⟩):=hf.at_.vals 5 _ 9 ⟨by decide,by decide⟩ rfl rfl
  have e10:b5.tmps.getD 10 undef= .bool (decide (v<0)):=hf.at_.vals 6 _ 10 ⟨by decide,by decide⟩ rfl rfl
  have e11:b5.tmps.getD 11 undef= .pointer (some ⟨B',0,none⟩):=hf.at_.vals 7 _ 11 ⟨by decide,by decide⟩ rfl rfl
  have e12:b5.tmps.getD 12 undef= .pointer (some ⟨B',0,none⟩):=hf.at_.vals 8 _ 12 ⟨by decide,by decide⟩ rfl rfl
  have e13:b5.tmps.getD 13 undef= .pointer (some ⟨B',0,none⟩):=hf.at_.vals 9 _ 13 ⟨by decide,by decide⟩ rfl rfl
  have e14:b5.tmps.getD 14 undef= .pointer (some ⟨B',0,none⟩):=hf.at_.vals 10 _ 14 ⟨by decide,by decide⟩ rfl rfl
  have e15:b5.tmps.getD 15 undef= .bool (decide (v'<0)):=hf.at_.vals 11 _ 15 ⟨by decide,by decide⟩ rfl rfl
  have e16:b5.tmps.getD 16 undef= .bool (!(decide (v<0)==decide (v'<0))):=hf.at_.vals 12 _ 16 ⟨by decide,by decide⟩ rfl rfl
  have e17:b5.tmps.getD 17 undef= .pointer (some ⟨B,0,none⟩):=hf.at_.vals 13 _ 17 ⟨by decide,by decide⟩ rfl rfl
  have e18:b5.tmps.getD 18 undef= .pointer (some ⟨B,0,none⟩):=hf.at_.vals 14 _ 18 ⟨by decide,by decide⟩ rfl rfl
  have e19:b5.tmps.getD 19 undef= .pointer (some ⟨B,0,none⟩):=hf.at_.vals 15 _ 19 ⟨by decide,by decide⟩ rfl rfl
  have e20:b5.tmps.getD 20 undef= .pointer (some ⟨B,1,none⟩):=hf.at_.vals 16 _ 20 ⟨by decide,by decide⟩ rfl rfl
  have e21:b5.tmps.getD 21 undef= .slice A n c:=hf.at_.vals 17 _ 21 ⟨by decide,by decide⟩ rfl rfl
  have e22:b5.tmps.getD 22 undef= .pointer (some ⟨B',0,none⟩):=hf.at_.vals 18 _ 22 ⟨by decide,by decide⟩ rfl rfl
  have e23:b5.tmps.getD 23 undef= .pointer (some ⟨B',0,none⟩):=hf.at_.vals 19 _ 23 ⟨by decide,by decide⟩ rfl rfl
  have e24:b5.tmps.getD 24 undef= .pointer (some ⟨B',0,none⟩):=hf.at_.vals 20 _ 24 ⟨by decide,by decide⟩ rfl rfl
  have e25:b5.tmps.getD 25 undef= .pointer (some ⟨B',1,none⟩):=hf.at_.vals 21 _ 25 ⟨by decide,by decide⟩ rfl rfl
  have e26:b5.tmps.getD 26 undef= .slice A' n' c':=hf.at_.vals 22 _ 26 ⟨by decide,by decide⟩ rfl rfl
  have v27:=hf.at_.vals 23 _ 27 ⟨by decide,by decide⟩ rfl rfl
  have hE:=frame_eq [4,6,7,8,9,10,11,12,13,14,15,16,17,18,19,20,21,22,23,24,25,26,27,28,29,30,31,32,33] hf.at_.size (fun t ht5=>hf.at_.keep t (not_dst (by rw [show dstList _ _= [4,6,7,8,9,10,11,12,13,14,15,16,17,18,19,20,21,22,23,24,25,26,27,28,29,30,31,32,33] from by kernel_rfl];exact ht5)))
  have hcl5:=hf.at_.cls
  obtain ⟨tm,df⟩:=b5
  obtain rfl:df=_:=hf.at_.defers
  clear hf
  simp only [List.foldl_cons,List.foldl_nil] at hE
  rw [show tm.getD 4 undef=_ from e4] at hE;clear e4
  rw [show tm.getD 6 undef=_ from e6] at hE;clear e6
  rw [show tm.getD 7 undef=_ from e7] at hE;clear e7
  rw [show tm.getD 8 undef=_ from e8] at hE;clear e8
  rw [show tm.getD 9 undef=_ from e9] at hE;clear e9
  rw [show tm.getD 10 undef=_ from e10] at hE;clear e10
  rw [show tm.getD 11 undef=_ from e11] at hE;clear e11
  rw [show tm.getD 12 undef=_ from e12] at hE;clear e12
  rw [show tm.getD 13 undef=_ from e13] at hE;clear e13
  rw [show tm.getD 14 undef=_ from e14] at hE;clear e14
  rw [show tm.getD 15 undef=_ from e15] at hE;clear e15
  rw [show tm.getD 16 undef=_ from e16] at hE;clear e16
  rw [show tm.getD 17 undef=_ from e17] at hE;clear e17
  rw [show tm.getD 18 undef=_ from e18] at hE;clear e18
  rw [show tm.getD 19 undef=_ from e19] at hE;clear e19
  rw [show tm.getD 20 undef=_ from e20] at hE;clear e20
  rw [show tm.getD 21 undef=_ from e21] at hE;clear e21
  rw [show tm.getD 22 undef=_ from e22] at hE;clear e22
  rw [show tm.getD 23 undef=_ from e23] at hE;clear e23
  rw [show tm.getD 24 undef=_ from e24] at hE;clear e24
  rw [show tm.getD 25 undef=_ from e25] at hE;clear e25
  rw [show tm.getD 26 undef=_ from e26] at hE;clear e26
  obtain ⟨x27,hx27⟩: ∃x,tm.getD 27 undef=x:=⟨_,rfl⟩;rw [hx27] at hE;rw [show tm.getD 27 undef=_ from hx27] at v27;clear hx27
  obtain ⟨u28,hu28⟩: ∃x,tm.getD 28 undef=x:=⟨_,rfl⟩;rw [hu28] at hE;clear hu28
  obtain ⟨u29,hu29⟩: ∃x,tm.getD 29 undef=x:=⟨_,rfl⟩;rw [hu29] at hE;clear hu29
  obtain ⟨u30,hu30⟩: ∃x,tm.getD 30 undef=x:=⟨_,rfl⟩;rw [hu30] at hE;clear hu30
  obtain ⟨u31,hu31⟩: ∃x,tm.getD 31 undef=x:=⟨_,rfl⟩;rw [hu31] at hE;clear hu31
  obtain ⟨u32,hu32⟩: ∃x,tm.getD 32 undef=x:=⟨_,rfl⟩;rw [hu32] at hE;clear hu32
  obtain ⟨u33,hu33⟩: ∃x,tm.getD 33 undef=x:=⟨_,rfl⟩;rw [hu33] at hE;clear hu33
  rewrite [hE]
  clear hE
  obtain ⟨A2,n2,c2,l2,rfl,hi2,hr2⟩:=v27
  have hb3:=hb.kept hcl5
  obtain ⟨⟨m0,m1⟩,m2,m3⟩:=hb3.facts2
  go_simp
  refine oneC (i:=24) (by kernel_rfl) rfl (fun K hK=> ?_)
  go_simp
  refine hK _ _ (.inr trivial) ?_
  clear hK K
  refine oneC (i:=25) (by kernel_rfl) rfl (fun K hK=> ?_)
  go_simp
  refine hK _ _ (.inr trivial) ?_
  clear hK K
  refine oneC (i:=26) (by kernel_rfl) rfl (fun K hK=> ?_)
  go_simp
  refine hK _ _ (.inr trivial) ?_
  clear hK K
  refine oneC (i:=27) (by kernel_rfl) rfl (fun K hK=> ?_)
  go_simp
  refine hK _ _ (.inr trivial) ?_
  clear hK K
  have hb4:=hb3.set 0 (.bool (!(decide (v<0)==decide (v'<0))))
  obtain ⟨⟨m0,m1⟩,m2,m3⟩:=hb4.facts2
  refine oneC (i:=28) (by kernel_rfl) rfl (fun K hK=> ?_)
  go_simp
  refine hK _ _ (.inr trivial) ?_
  clear hK K
  refine oneC (i:=29) (by kernel_rfl) rfl (fun K hK=> ?_)
  go_simp
  refine hK _ _ (.inr trivial) ?_
  clear hK K
  refine oneC (i:=30) (by kernel_rfl) rfl (fun K hK=> ?_)
  go_simp
  refine hK _ _ (.inr trivial) ?_
  clear hK K
  refine oneC (i:=31) (by kernel_rfl) rfl (fun K hK=> ?_)
  go_simp
  refine hK _ _ (.inr trivial) ?_
  clear hK K
  refine doneP (by kernel_rfl) ?_
  have hv2:iv (!(decide (v<0)==decide (v'<0))) l2=v*v':=sgn_mul hi2.val
  have hn2:n2≤80000:=by rw [←hr2.len];exact Nat.le_trans (hi2.len (k:=k+k) (by rw [Nat.pow_add];exact Nat.mul_lt_mul_of_lt_of_le hv (Nat.le_of_lt hv') (Nat.pow_pos BB_pos))) (by omega)
  go_wp2_with (go_at_call 185;refine (norm_any B _ A2 n2 c2 l2 _ (hb4.set 1 _) ((hr2.setN hb3 (i:=0) rfl (fun _=>by simp) _).setN hb4 (i:=1) rfl (fun _=>by simp) _) hi2.lt (by omega)).mono ?_;rintro e w4 ⟨rfl,hn4,hg4⟩)
  refine bodyPost_end (results_none rfl _ _ _) rfl ?_
  refine ⟨⟨_,rfl⟩, ?_, ?_⟩
  ·rw [hv2] at hn4;exact hn4
  ·exact ((below_none hcl5).but (some B)).trans ((setCell_grown W5 ⟨B,0,none⟩ _).trans ((setCell_grown _ ⟨B,1,none⟩ _).trans hg4))
end Go.Proofs.Wd

namespace Go.Proofs.Wd
set_option maxRecDepth 100000
set_option maxHeartbeats 1000000
open Go.RowKit Lb
attribute [local go_sem] Oper.semAt_some wide_fn wide_depth
theorem of_one (w:World):Calls Tryz.prog 161 #[.int .i64 1] w fun e w'=> ∃A n c l,e= .returned (.agg #[.bool false, .slice A n c])∧Is l 1∧Rd w' A n c l∧n≤1∧Below w.heap.size w w':=
 (sof2_any 1 (by omega) (by omega) w).mono fun e w' ⟨A,n,c,l,h1,h2,h3,h4⟩=>⟨A,n,c,l,h1,h2,h3,by rw [←h3.len];exact h2.len (k:=1) (by decide),h4⟩
def SmulI (w:World) (B0 P:Nat) (is:List (Bool×List Nat)) (k:Nat) (W:World):Prop:=
 NumAt W B0 (iprod is k)∧Boxed W P 178 (.pointer (some ⟨B0,0,none⟩))∧BoxN W w.heap.size 27 #[.bool false, .slice none 0 0]∧Below w.heap.size w W∧P+2≤W.heap.size
theorem smulI_own (w:World) (B0 P:Nat) (is:List (Bool×List Nat)) {C:Nat} (hC:w.heap.size≤C):OwnFrom C (SmulI w B0 P is):=by
 rintro k W W' row ⟨h1,h2,h3,h4,h5⟩ hg hr
 exact ⟨h1.abide hg hr,boxed_abide h2 hg hr,h3.abide hg hr,below_abide h4 hg (Nat.le_refl _) hC hr,Nat.le_trans h5 hg.size⟩
theorem smul_any (A:Option Addr) (n c:Nat) (is:List (Bool×List Nat)) (M:Nat) (w:World) (h:IRd w A n is) (hn:n≤c) (hc:c≤9223372036854775807) (hM:M≤40000) (hv: ∀k,(ivAt is k).natAbs<BB^M) (hp: ∀k,k≤n→(iprod is k).natAbs<BB^M) (hnn:n≤1000000:=by first|omega|decide):
  Calls Tryz.prog 163 #[.slice A n c] w (RetInt w (iprod is n)):=by
 refine calls_marks Tryz.func163 rfl ?_
 simp only [Tryz.ntmps163,List.size_toArray,List.length_cons,List.length_nil,Nat.reduceAdd,Nat.reduceSub,Array.replicate_succ,Array.replicate_zero,List.push_toArray,List.append_toArray,List.nil_append,List.cons_append]
 go_wp2_with (first|(go_at_call 161;refine (of_one _).mono ?_;rintro e w1 ⟨A1,n1,c1,l1,rfl,hi1,hr1,hn1,hb1⟩)|(go_at_call 166;refine (sof_any false A1 n1 c1 l1 _ hr1 hi1.lt (by omega)).mono ?_;rintro e w2 ⟨B0,rfl,hB0,hn0,hb0⟩)|(go_at_call 182;refine (all_any A n c _).mono ?_;rintro e w3 ⟨rfl,rfl⟩))
 have hiv0:iv false l1=1:=by unfold iv;rw [hi1.val];rfl
 rw [hiv0] at hn0
 obtain ⟨W0,hW0⟩: ∃W0,((w2.alloc (.cells #[.pointer (some ⟨B0,0,none⟩)] 178)).alloc (.cells #[.slice A n c] 137))=W0:=⟨_,rfl⟩
 have hsz:W0.heap.size=w2.heap.size+2:=by rw [←hW0];simp
 have hB0l:=hn0.lt
 have hbw1:Below w.heap.size w w1:=((Below.refl _ w).alloc (Nat.le_refl _) _).trans (hb1.mono (by simp))
 have hsz1:w.heap.size<w1.heap.size:=Nat.lt_of_lt_of_le (by simp) hb1.size
 have hB0g:w.heap.size<B0:=Nat.lt_of_lt_of_le hsz1 hB0
 have hbw2:Below w.heap.size w w2:=hbw1.trans (hb0.mono hbw1.size)
 have hB1:Below w.heap.size w W0:=by rw [←hW0];exact (hbw2.alloc hbw2.size _).alloc (by simp;exact Nat.le_succ_of_le hbw2.size) _
 have x0:NumAt W0 B0 1:=by rw [←hW0];exact hn0.kept (((Below.refl _ w2).alloc (Nat.le_refl _) _).alloc (by simp) _)
 have x1:Boxed W0 w2.heap.size 178 (.pointer (some ⟨B0,0,none⟩)):=by rw [←hW0];exact (Boxed.new w2 _ _).alloc _
 have x2:Boxed W0 (w2.heap.size+1) 137 (.slice A n c):=by rw [←hW0];exact boxed_at _ _ _ (by simp)
 have x3:BoxN W0 w.heap.size 27 #[.bool false, .slice none 0 0]:=by rw [←hW0];exact (((res2 hb1 rfl).kept hb0).alloc _).alloc _
 rw [hW0]
 clear hW0
 have hSb: ∀b,(b<w.heap.size∨b=w2.heap.size+1)→b<W0.heap.size:=fun b hb=>by have:=hbw2.size;omega
 refine wp_rangeE (gf:=197) rfl (enters_of Tryz.func197 (by kernel_rfl) rfl) (all1_iter A n c is (w2.heap.size+1) w W0 h hB1 hn hc x2.cell (S:=fun b=>b<w.heap.size∨b=w2.heap.size+1) hSb (.inr rfl) (fun b hb=> .inl hb)) ?hE ?hps KeepZ.trans (keepZ_b hSb)
  (SmulI w B0 w2.heap.size is) (smulI_own w B0 _ is hB1.size) (abide_mk (smulI_own w B0 _ is (Nat.le_refl _))) Mk.keeps (fun _ _ _ _ _ _ _ _=>trivial) ⟨x0,x1,x3,hB1,Nat.le_of_eq hsz.symm⟩
  (fun xs=>{ tmps:=#[.slice A n c,undef, .pointer (some ⟨w.heap.size,0,none⟩), .pointer (some ⟨w2.heap.size,0,none⟩),xs.getD 0 undef, .agg #[.bool false, .slice A1 n1 c1], .pointer (some ⟨B0,0,none⟩), .slice A n c, .func (.func 197) #[] #[.pointer (some ⟨w2.heap.size+1,0,none⟩)],xs.getD 0 undef,undef,undef,undef,undef,undef,undef,undef],defers:= [] }) ?assign ?body ?done
 case hE=>
  rintro k xs W l o o' ⟨B,rfl,h1,h2⟩ ho hc
  exact ⟨B,rfl,h1,h2.abide (C:=0) (grownBy_putObj' W l o') (fun r e=>by cases e;exact ⟨Nat.zero_le _,o,ho,hc⟩)⟩
 case hps=>
  rintro k xs W ⟨B,rfl,_⟩
  rfl
 case assign=>
  rintro lp k xs W K ⟨B,rfl,h1,h2⟩ hK
  gi_wp2
  exact hK
 case body=>
  rintro lp k xs W hk ⟨h1,h2,h3,h4,h5⟩ ⟨B,rfl,hB,hnb⟩
  have hc2:=h2.cell
  have hne:B≠B0:=by omega
  have hkm:k≤1000000:=by omega
  have hbd:=hp k (Nat.le_of_lt hk)
  have hbd2:=hv k
  gi_wp2_with (gi_at_call 183;refine CallsIn.mono (callsIn_wide.2 (num_mul B0 B _ _ M W h1 hnb hbd hbd2 hM)) ?_;rintro e w3 ⟨⟨u,rfl⟩,hn3,hg3⟩)
  have hbx: ∃vs t,BoxN W B0 t vs:=by obtain ⟨_,_,_,_,g,_⟩:=h1;exact ⟨_,_,g⟩
  obtain ⟨vs,t,g⟩:=hbx
  refine ⟨(KeepsOthers.of_grownBy hg3 (fun j o e ho=>by cases e;rw [show W.heap[B0]?=_ from g] at ho;cases ho;rfl)).from _,⟨(KeepS.refl _ _).grown hg3 (fun b hb=>⟨by have:=hSb b hb;omega,fun e=>by cases e;omega⟩),hg3.size⟩,hn3,h2.kept hg3 (fun e=>by cases e;omega),(hg3.block _ h3.lt (fun e=>by cases e;omega)).trans h3,below_grown h4 hg3 h4.size (by omega),Nat.le_trans h5 hg3.size⟩
 case done=>
  rintro D W hD ⟨h1,h2,h3,h4,h5⟩ _ hd
  obtain ⟨A2,n2,c2,l2,⟨g0,g1⟩,hi2,hr2⟩:=h1.parts
  have hc2:=h2.cell
  obtain ⟨⟨q0,q1⟩,q2,q3⟩:=h3.facts2
  go_wp2
  have hb5:=(h3.set 0 (.bool (decide (iprod is n<0)))).set 1 (.slice A2 n2 c2)
  have hM:Marks w.heap.size ((W.setCell ⟨w.heap.size,0,none⟩ (.bool (decide (iprod is n<0)))).setCell ⟨w.heap.size,1,none⟩ (.slice A2 n2 c2)) [mark D] [D]:=((Marks.nil w.heap.size W).more (D:=D) (by simp) (by have:=hB1.size;omega) hd).others ((KeepsOthers.setCell _ _ _).trans (KeepsOthers.setCell _ _ _))
  obtain ⟨A3,n3,c3,l3,e3,hi3,hr3,hb3⟩:=ret2 h3 h4 (Nat.le_refl _) hi2 hr2
  cases e3
  refine leaves_marks _ (v:= .agg #[.bool (decide (iprod is n<0)), .slice A2 n2 c2]) (fun w' ho'=> ?_) [D] _ _ hM (Oth.refl _ _) ?_
  ·obtain ⟨⟨c0,c1⟩,_,_⟩:=(hb5.oth ho').facts2
   simp [results,Tryz.results163,go_sem,c0,c1]
  ·intro w' ho
   exact ⟨A2,n2,c2,l3,rfl,hi3,hr3.oth ho,below_oth hb3 ho (Nat.le_refl _)⟩
end Go.Proofs.Wd

namespace Go.Proofs.Wd
open Go.RowKit Lb
def Bd (k:Int) (m:Nat):Prop:=k.natAbs<BB^m
theorem Bd.mono {k:Int} {m m':Nat} (h:Bd k m) (hm:m≤m'):Bd k m':=Nat.lt_of_lt_of_le h (Nat.pow_le_pow_right BB_pos hm)
theorem Bd.add {a b:Int} {m:Nat} (h:Bd a m) (h':Bd b m):Bd (a+b) (m+1):=by
 unfold Bd at*
 rw [Nat.pow_succ]
 unfold BB at*
 omega
theorem Bd.neg {a:Int} {m:Nat} (h:Bd a m):Bd (-a) m:=by
 unfold Bd at*
 rwa [Int.natAbs_neg]
theorem Bd.sub {a b:Int} {m:Nat} (h:Bd a m) (h':Bd b m):Bd (a - b) (m+1):=by
 rw [Int.sub_eq_add_neg]
 exact h.add h'.neg
theorem Bd.mul {a b:Int} {m n:Nat} (h:Bd a m) (h':Bd b n):Bd (a*b) (m+n):=by
 unfold Bd at*
 rw [Int.natAbs_mul,Nat.pow_add]
 exact Nat.mul_lt_mul_of_lt_of_le h (Nat.le_of_lt h') (Nat.pow_pos BB_pos)
theorem UV.bd {W:World} {m:Nat} {v:Value} {k:Int} (h:UV W m v k):Bd k m:=h.bound
theorem NV.uv' {W:World} {v:Value} {k:Int} (h:NV W v k) {m:Nat} (hk:Bd k m):UV W m v k:=h.uv hk
def ISV (W:World) (m:Nat) (v:Value) (ks:List Int):Prop:= ∃is:List (Bool×List Nat),IS W m v is∧is.map (fun p=>iv p.1 p.2)=ks
theorem ISV.below {W W':World} {m:Nat} {v:Value} {ks:List Int} (h:ISV W m v ks) (hb:Below W.heap.size W W'):ISV W' m v ks:=by
 obtain ⟨is,h1,h2⟩:=h
 exact ⟨is,h1.below hb,h2⟩
theorem uv_agg {W:World} {m:Nat} {s:Bool} {A:Option Addr} {n c:Nat} {k:Int} (h:UV W m (.agg #[.bool s, .slice A n c]) k): ∃l,Rd W A n c l∧Lt l∧n≤m∧iv s l=k:=by
 obtain ⟨s',A',n',c',l,he,h1,h2,h3,h4⟩:=h
 injection he with he
 injection he with he
 injection he with e1 he
 injection he with e2 _
 injection e1 with e1
 injection e2 with f1 f2 f3
 subst e1;subst f1;subst f2;subst f3
 exact ⟨l,h1,h2,h3,h4⟩
theorem ISV.two {W:World} {m:Nat} {s:Bool} {A:Option Addr} {n c:Nat} {k:Int} (h:UV W m (.agg #[.bool s, .slice A n c]) k) {s':Bool} {A':Option Addr} {n' c':Nat} {k':Int} (h':UV W m (.agg #[.bool s', .slice A' n' c']) k') (t:TypeId):
  ISV (W.alloc (.cells #[.bool s, .slice A n c, .bool s', .slice A' n' c'] t)) m (.slice (some ⟨W.heap.size,0,none⟩) 2 2) [k,k']:=by
 obtain ⟨l,h1,h2,h3,rfl⟩:=uv_agg h
 obtain ⟨l',h1',h2',h3',rfl⟩:=uv_agg h'
 exact ⟨[(s,l),(s',l')],IS.two h1 h2 h3 h1' h2' h3' t,rfl⟩
theorem isum_take (is:List (Bool×List Nat)): ∀k,k≤is.length→isum is k=((is.take k).map fun p=>iv p.1 p.2).sum
 |0,_=>rfl
 |k+1,h=>by
  have h1:=isum_take is k (by omega)
  show isum is k+ivAt is k=_
  rw [h1,List.take_succ_eq_append_getElem (by omega),List.map_append,List.sum_append]
  unfold ivAt
  rw [List.getElem?_eq_getElem (by omega)]
  simp
theorem iprod_take (is:List (Bool×List Nat)): ∀k,k≤is.length→iprod is k=((is.take k).map fun p=>iv p.1 p.2).foldl (·*·) 1
 |0,_=>rfl
 |k+1,h=>by
  have h1:=iprod_take is k (by omega)
  show iprod is k*ivAt is k=_
  rw [h1,List.take_succ_eq_append_getElem (by omega),List.map_append,List.foldl_append]
  unfold ivAt
  rw [List.getElem?_eq_getElem (by omega)]
  simp
theorem iprod_bd {m:Nat} {w:World} {A:Option Addr} {n:Nat} {is:List (Bool×List Nat)} (h:IRdM m w A n is): ∀k,Bd (iprod is k) (m*k+1)
 |0=>by
  show (1:Int).natAbs<BB^(0+1)
  decide
 |k+1=>by
  have h1:=(iprod_bd h k).mul (show Bd (ivAt is k) m from ivAt_lt h k)
  show Bd (iprod is k*ivAt is k) _
  exact h1.mono (by rw [Nat.mul_add];omega)
theorem add_w {W:World} {m:Nat} {v:Value} {ks:List Int} {k:Int} (h:ISV W m v ks) (hm:m≤100000) (hn:ks.length≤1000) (hk:ks.sum=k):Calls Tryz.prog 171 #[v] W (RetV W k):=by
 obtain ⟨is,h1,h2⟩:=h
 have:=add_v h1 hm (by rw [←h2,List.length_map] at hn;omega)
 rw [isum_take is is.length (Nat.le_refl _),List.take_length,h2,hk] at this
 exact this
theorem mul_w {W:World} {m:Nat} {v:Value} {ks:List Int} {k:Int} (h:ISV W m v ks) (hn:m*ks.length+m+1≤40000) (hk:ks.foldl (·*·) 1=k) (hl:ks.length≤1000):Calls Tryz.prog 163 #[v] W (RetV W k):=by
 obtain ⟨is,⟨A,c,rfl,h3,h4,h1⟩,h2⟩:=h
 have hl2:is.length=ks.length:=by rw [←h2,List.length_map]
 have:=(smul_any A is.length c is (m*ks.length+m+1) W (IRdM.mono h1 (by omega)) h3 h4 hn (fun k=>Nat.lt_of_lt_of_le (ivAt_lt h1 k) (Nat.pow_le_pow_right BB_pos (by omega))) (fun k hk=>(iprod_bd h1 k).mono (by
  have:m*k≤m*ks.length:=Nat.mul_le_mul_left _ (by omega)
  omega))).mono fun _ _=>RetInt.v
 rw [iprod_take is is.length (Nat.le_refl _),List.take_length,h2,hk] at this
 exact this
end Go.Proofs.Wd

namespace Go.Proofs.Wd
open Lb
theorem mkRat_num_le (n:Int) (d:Nat):(mkRat n d).num.natAbs≤n.natAbs:=by
 rw [Rat.num_mkRat]
 split
 ·simp
 ·have hd:((d.gcd n.natAbs:Nat):Int)∣n:=Int.natAbs_dvd_natAbs.1 (by simpa using Nat.gcd_dvd_right d n.natAbs)
  rw [Int.natAbs_ediv_of_dvd hd]
  simp only [Int.natAbs_natCast]
  exact Nat.div_le_self _ _
theorem mkRat_den_le (n:Int) (d:Nat) (h:0<d):(mkRat n d).den≤d:=by
 rw [Rat.den_mkRat,if_neg (by omega)]
 exact Nat.div_le_self _ _
theorem mkRat_num_abs (n:Int) (d:Nat) (h:0<d):(mkRat n d).num.natAbs=n.natAbs / Nat.gcd n.natAbs d:=by
 rw [Rat.num_mkRat,if_neg (by omega)]
 have hd:((d.gcd n.natAbs:Nat):Int)∣n:=Int.natAbs_dvd_natAbs.1 (by simpa using Nat.gcd_dvd_right d n.natAbs)
 rw [Int.natAbs_ediv_of_dvd hd,Nat.gcd_comm]
 simp only [Int.natAbs_natCast]
theorem mkRat_den_eq (n:Int) (d:Nat) (h:0<d):(mkRat n d).den=d / Nat.gcd n.natAbs d:=by
 rw [Rat.den_mkRat,if_neg (by omega),Nat.gcd_comm]
theorem mkRat_neg_iff (n:Int) (d:Nat) (h:0<d):decide ((mkRat n d).num<0)=decide (n<0):=by
 have h1:=@Rat.divInt_nonneg_iff_of_pos_right n d (by omega)
 rw [Rat.divInt_ofNat, ←Rat.num_nonneg] at h1
 rw [decide_eq_decide]
 omega
def QB (q:Rat) (m:Nat):Prop:=Bd q.num m∧q.den<BB^m
theorem QB.mono {q:Rat} {m m':Nat} (h:QB q m) (hm:m≤m'):QB q m':=⟨h.1.mono hm,Nat.lt_of_lt_of_le h.2 (Nat.pow_le_pow_right BB_pos hm)⟩
theorem QB.of {k:Int} {d m:Nat} (hk:Bd k m) (hd:d<BB^m) (hm:0<m):QB (mkRat k d) m:=by
 refine ⟨Nat.lt_of_le_of_lt (mkRat_num_le k d) hk, ?_⟩
 rcases Nat.eq_zero_or_pos d with rfl|h
 ·rw [Rat.mkRat_zero]
  show 1<BB^m
  exact Nat.one_lt_pow (by omega) (by unfold BB;omega)
 ·exact Nat.lt_of_le_of_lt (mkRat_den_le k d h) hd
theorem QB.pos {q:Rat} {m:Nat} (h:QB q m):0<m:=by
 rcases Nat.eq_zero_or_pos m with rfl|h0
 ·have:=h.2
  rw [Nat.pow_zero] at this
  have:=q.den_pos
  omega
 ·exact h0
theorem bd_nat {x m:Nat} (h:x<BB^m):Bd (x:Int) m:=by unfold Bd;rwa [Int.natAbs_natCast]
theorem pow_mul_lt {a b m n:Nat} (h:a<BB^m) (h':b<BB^n):a*b<BB^(m+n):=by
 rw [Nat.pow_add]
 exact Nat.mul_lt_mul_of_lt_of_le h (Nat.le_of_lt h') (Nat.pow_pos BB_pos)
theorem QB.num_add {p q:Rat} {m n:Nat} (h:QB p m) (h':QB q n):Bd (p.num*q.den+q.num*p.den) (m+n+1):=
 (h.1.mul (bd_nat h'.2)).add ((h'.1.mul (bd_nat h.2)).mono (by omega))
theorem QB.den_mul {p q:Rat} {m n:Nat} (h:QB p m) (h':QB q n):p.den*q.den<BB^(m+n):=pow_mul_lt h.2 h'.2
theorem QB.add {p q:Rat} {m n:Nat} (h:QB p m) (h':QB q n):QB (p+q) (m+n+1):=by
 rw [Rat.add_def']
 exact QB.of (h.num_add h') (Nat.lt_of_lt_of_le (h.den_mul h') (Nat.pow_le_pow_right BB_pos (by omega))) (by omega)
theorem QB.mul {p q:Rat} {m n:Nat} (h:QB p m) (h':QB q n):QB (p*q) (m+n):=by
 rw [Rat.mul_def']
 exact QB.of (h.1.mul h'.1) (h.den_mul h') (by have:=h.pos;omega)
theorem QB.neg {q:Rat} {m:Nat} (h:QB q m):QB (-q) m:=⟨by rw [Rat.neg_num];exact h.1.neg,h.2⟩
theorem QB.sub {p q:Rat} {m n:Nat} (h:QB p m) (h':QB q n):QB (p - q) (m+n+1):=by
 rw [Rat.sub_eq_add_neg]
 exact h.add h'.neg
theorem one_lt_BB {m:Nat} (h:0<m):1<BB^m:=Nat.one_lt_pow (by omega) (by unfold BB;omega)
theorem QB.int {z:Int} {m:Nat} (h:Bd z m) (hm:0<m):QB (z:Rat) m:=⟨h,one_lt_BB hm⟩
def qsg (p q:Rat):Int:=(p.num*q.den - q.num*p.den).sign
end Go.Proofs.Wd

namespace Go.Proofs.Wd
open Go.RowKit Lb
end Go.Proofs.Wd

namespace Go.Proofs.Wd
abbrev V2:=Rat×Rat
structure Aff where
 a:Rat
 b:Rat
 c:Rat
def Aff.v (f:Aff) (p:V2):Rat:=f.a*p.1+f.b*p.2+f.c
def crs (a b p:V2):Rat:=(b.1 - a.1)*(p.2 - a.2) - (b.2 - a.2)*(p.1 - a.1)
def lin (a b:V2):Aff:=⟨-(b.2 - a.2),b.1 - a.1,(b.2 - a.2)*a.1 - (b.1 - a.1)*a.2⟩
theorem lin_v (a b p:V2):(lin a b).v p=crs a b p:=by unfold lin Aff.v crs;grind
theorem pos_sum4 {p1 p2 p3 p4 v1 v2 v3 v4:Rat} (h1:0≤p1) (h2:0≤p2) (h3:0≤p3) (h4:0≤p4) (hs:0<p1+p2+p3+p4) (g1:p1≠0→0<v1) (g2:p2≠0→0<v2) (g3:p3≠0→0<v3) (g4:p4≠0→0<v4):0<p1*v1+p2*v2+p3*v3+p4*v4:=by
 have key: ∀{p v:Rat},0≤p→(p≠0→0<v)→0≤p*v∧(0<p→0<p*v):=fun {p v} hp hv=>by
  by_cases e:p=0
  ·subst e;exact ⟨by grind,fun h=>absurd h (by grind)⟩
  ·have hp':0<p:=by grind
   have:=Rat.mul_pos hp' (hv e)
   exact ⟨by grind,fun _=>this⟩
 have k1:=key h1 g1;have k2:=key h2 g2;have k3:=key h3 g3;have k4:=key h4 g4
 by_cases e1:0<p1
 ·have:=k1.2 e1;grind
 by_cases e2:0<p2
 ·have:=k2.2 e2;grind
 by_cases e3:0<p3
 ·have:=k3.2 e3;grind
 have:=k4.2 (by grind);grind
theorem radon (z1 z2 z3 z4:V2): ∃a1 a2 a3 a4:Rat,a1+a2+a3+a4=0∧a1*z1.1+a2*z2.1+a3*z3.1+a4*z4.1=0∧a1*z1.2+a2*z2.2+a3*z3.2+a4*z4.2=0∧(a1≠0∨a2≠0∨a3≠0∨a4≠0):=by
 by_cases hd:crs z1 z2 z3=0
 ·-- three of them on a line
  by_cases hx:z1.1=z2.1
  ·by_cases hy:z1.2=z2.2
   ·exact ⟨1,-1,0,0,by grind,by grind,by grind, .inl (by grind)⟩
   ·refine ⟨z2.2 - z3.2,z3.2 - z1.2,z1.2 - z2.2,0,by grind, ?_,by grind, .inr (.inr (.inl (by grind)))⟩
    unfold crs at hd;grind
  ·refine ⟨z2.1 - z3.1,z3.1 - z1.1,z1.1 - z2.1,0,by grind,by grind, ?_, .inr (.inr (.inl (by grind)))⟩
   unfold crs at hd;grind
 ·refine ⟨crs z2 z3 z4,-crs z1 z3 z4,crs z1 z2 z4,-crs z1 z2 z3, ?_, ?_, ?_, .inr (.inr (.inr (by grind)))⟩
  all_goals (unfold crs;grind)
theorem div_mul_self (x s:Rat) (h:0<s):x / s*s=x:=by grind
def ppart (a:Rat):Rat:=if 0≤a then a else 0
def npart (a:Rat):Rat:=if 0≤a then 0 else -a
theorem ppart_nn (a:Rat):0≤ppart a:=by unfold ppart;split<;>grind
theorem npart_nn (a:Rat):0≤npart a:=by unfold npart;split<;>grind
theorem part_sub (a:Rat):ppart a - npart a=a:=by unfold ppart npart;split<;>grind
theorem npart_z {a:Rat} (h:ppart a≠0):npart a=0:=by unfold ppart at h;unfold npart;split<;>simp_all
theorem comb4 (f:Aff) {z z1 z2 z3 z4:V2} {p1 p2 p3 p4 s:Rat} (hs:p1+p2+p3+p4=s) (hx:z.1*s=p1*z1.1+p2*z2.1+p3*z3.1+p4*z4.1) (hy:z.2*s=p1*z1.2+p2*z2.2+p3*z3.2+p4*z4.2):
  f.v z*s=p1*f.v z1+p2*f.v z2+p3*f.v z3+p4*f.v z4:=by
 unfold Aff.v
 have e1:(f.a*z.1+f.b*z.2+f.c)*s=f.a*(z.1*s)+f.b*(z.2*s)+f.c*s:=by grind
 rw [e1,hx,hy, ←hs]
 grind
theorem pos_of_mul {x s:Rat} (hs:0<s) (h:0<x*s):0<x:=by
 rcases (Rat.le_total:x≤0∨0≤x) with h1|h1
 ·have:=Rat.mul_nonneg (show 0≤-x by grind) (Rat.le_of_lt hs)
  grind
 ·by_cases e:x=0
  ·subst e;grind
  ·grind
theorem bal {p1 p2 p3 p4 n1 n2 n3 n4 a1 a2 a3 a4 x1 x2 x3 x4:Rat} (b1:p1 - n1=a1) (b2:p2 - n2=a2) (b3:p3 - n3=a3) (b4:p4 - n4=a4) (e:a1*x1+a2*x2+a3*x3+a4*x4=0):p1*x1+p2*x2+p3*x3+p4*x4=n1*x1+n2*x2+n3*x3+n4*x4:=by
 subst b1 b2 b3 b4
 grind
theorem helly: ∀(n:Nat) (F:List Aff),F.length≤n→F≠ []→(∀f g k,f∈F→g∈F→k∈F→ ∃z,0<f.v z∧0<g.v z∧0<k.v z)→ ∃z, ∀f,f∈F→0<f.v z
 |0,F,hn,h0,_=>absurd (List.eq_nil_of_length_eq_zero (by omega)) h0
 | n+1,F,hn,h0,h3=>by
  match F,hn,h0,h3 with
  | [],_,h0,_=>exact absurd rfl h0
  | [f],_,_,h3=>
   obtain ⟨z,h,_⟩:=h3 f f f (by simp) (by simp) (by simp)
   exact ⟨z,fun g hg=>by simp at hg;rw [hg];exact h⟩
  | [f,g],_,_,h3=>
   obtain ⟨z,h,h',_⟩:=h3 f g g (by simp) (by simp) (by simp)
   exact ⟨z,fun k hk=>by simp at hk;rcases hk with rfl|rfl<;>assumption⟩
  | [f,g,k],_,_,h3=>
   obtain ⟨z,h,h',h''⟩:=h3 f g k (by simp) (by simp) (by simp)
   exact ⟨z,fun k hk=>by simp at hk;rcases hk with rfl|rfl|rfl<;>assumption⟩
  | f1::f2::f3::f4::R,hn,_,h3=>
   have sub: ∀G:List Aff,G.length≤n→G≠ []→(∀f,f∈G→f∈f1::f2::f3::f4::R)→ ∃z, ∀f,f∈G→0<f.v z:=fun G hl h0 hs=>
    helly n G hl h0 fun f g k hf hg hk=>h3 f g k (hs f hf) (hs g hg) (hs k hk)
   simp only [List.length_cons] at hn
   obtain ⟨z1,k1⟩:=sub (f2::f3::f4::R) (by simp;omega) (by simp) (fun f hf=>by simp at hf ⊢;grind)
   obtain ⟨z2,k2⟩:=sub (f1::f3::f4::R) (by simp;omega) (by simp) (fun f hf=>by simp at hf ⊢;grind)
   obtain ⟨z3,k3⟩:=sub (f1::f2::f4::R) (by simp;omega) (by simp) (fun f hf=>by simp at hf ⊢;grind)
   obtain ⟨z4,k4⟩:=sub (f1::f2::f3::R) (by simp;omega) (by simp) (fun f hf=>by simp at hf ⊢;grind)
   obtain ⟨a1,a2,a3,a4,e0,ex,ey,hne⟩:=radon z1 z2 z3 z4
   have b1:=part_sub a1;have b2:=part_sub a2;have b3:=part_sub a3;have b4:=part_sub a4
   have c1:=ppart_nn a1;have c2:=ppart_nn a2;have c3:=ppart_nn a3;have c4:=ppart_nn a4
   have d1:=npart_nn a1;have d2:=npart_nn a2;have d3:=npart_nn a3;have d4:=npart_nn a4
   generalize hs:ppart a1+ppart a2+ppart a3+ppart a4=s
   have hs':npart a1+npart a2+npart a3+npart a4=s:=by grind
   have hpos:0<s:=by
    by_cases e:s=0
    ·exfalso
     have q1:ppart a1=0:=by grind
     have q2:ppart a2=0:=by grind
     have q3:ppart a3=0:=by grind
     have q4:ppart a4=0:=by grind
     have r1:npart a1=0:=by grind
     have r2:npart a2=0:=by grind
     have r3:npart a3=0:=by grind
     have r4:npart a4=0:=by grind
     grind
    ·grind
   let z:V2:=((ppart a1*z1.1+ppart a2*z2.1+ppart a3*z3.1+ppart a4*z4.1) / s,(ppart a1*z1.2+ppart a2*z2.2+ppart a3*z3.2+ppart a4*z4.2) / s)
   have zx:z.1*s=ppart a1*z1.1+ppart a2*z2.1+ppart a3*z3.1+ppart a4*z4.1:=div_mul_self _ _ hpos
   have zy:z.2*s=ppart a1*z1.2+ppart a2*z2.2+ppart a3*z3.2+ppart a4*z4.2:=div_mul_self _ _ hpos
   have zx':z.1*s=npart a1*z1.1+npart a2*z2.1+npart a3*z3.1+npart a4*z4.1:=by
    rw [zx];exact bal b1 b2 b3 b4 ex
   have zy':z.2*s=npart a1*z1.2+npart a2*z2.2+npart a3*z3.2+npart a4*z4.2:=by
    rw [zy];exact bal b1 b2 b3 b4 ey
   have hp: ∀f:Aff,(ppart a1≠0→0<f.v z1)→(ppart a2≠0→0<f.v z2)→(ppart a3≠0→0<f.v z3)→(ppart a4≠0→0<f.v z4)→0<f.v z:=fun f g1 g2 g3 g4=>by
    refine pos_of_mul hpos ?_
    rw [comb4 f hs zx zy]
    exact pos_sum4 c1 c2 c3 c4 (by rw [hs];exact hpos) g1 g2 g3 g4
   have hm: ∀f:Aff,(npart a1≠0→0<f.v z1)→(npart a2≠0→0<f.v z2)→(npart a3≠0→0<f.v z3)→(npart a4≠0→0<f.v z4)→0<f.v z:=fun f g1 g2 g3 g4=>by
    refine pos_of_mul hpos ?_
    rw [comb4 f hs' zx' zy']
    exact pos_sum4 d1 d2 d3 d4 (by rw [hs'];exact hpos) g1 g2 g3 g4
   refine ⟨z,fun f hf=> ?_⟩
   simp only [List.mem_cons] at hf
   rcases hf with rfl|rfl|rfl|rfl|hf
   ·by_cases e:ppart a1=0
    ·exact hp _ (fun h=>absurd e h) (fun _=>k2 _ (by simp)) (fun _=>k3 _ (by simp)) (fun _=>k4 _ (by simp))
    ·exact hm _ (fun h=>absurd (npart_z e) h) (fun _=>k2 _ (by simp)) (fun _=>k3 _ (by simp)) (fun _=>k4 _ (by simp))
   ·by_cases e:ppart a2=0
    ·exact hp _ (fun _=>k1 _ (by simp)) (fun h=>absurd e h) (fun _=>k3 _ (by simp)) (fun _=>k4 _ (by simp))
    ·exact hm _ (fun _=>k1 _ (by simp)) (fun h=>absurd (npart_z e) h) (fun _=>k3 _ (by simp)) (fun _=>k4 _ (by simp))
   ·by_cases e:ppart a3=0
    ·exact hp _ (fun _=>k1 _ (by simp)) (fun _=>k2 _ (by simp)) (fun h=>absurd e h) (fun _=>k4 _ (by simp))
    ·exact hm _ (fun _=>k1 _ (by simp)) (fun _=>k2 _ (by simp)) (fun h=>absurd (npart_z e) h) (fun _=>k4 _ (by simp))
   ·by_cases e:ppart a4=0
    ·exact hp _ (fun _=>k1 _ (by simp)) (fun _=>k2 _ (by simp)) (fun _=>k3 _ (by simp)) (fun h=>absurd e h)
    ·exact hm _ (fun _=>k1 _ (by simp)) (fun _=>k2 _ (by simp)) (fun _=>k3 _ (by simp)) (fun h=>absurd (npart_z e) h)
   ·exact hp _ (fun _=>k1 _ (by simp [hf])) (fun _=>k2 _ (by simp [hf])) (fun _=>k3 _ (by simp [hf])) (fun _=>k4 _ (by simp [hf]))
def at_ (l:List V2) (i:Nat):V2:=l.getD i (0,0)
def edg (l:List V2) (i:Nat) (p:V2):Rat:=crs (at_ l i) (at_ l ((i+1) % l.length)) p
def edl (l:List V2) (i:Nat):Aff:=lin (at_ l i) (at_ l ((i+1) % l.length))
theorem edl_v (l:List V2) (i:Nat) (p:V2):(edl l i).v p=edg l i p:=lin_v _ _ _
def partsB (a b:V2) (l:List V2):Bool:=l.all fun p=> !decide (0<crs a b p)
def oneB (a b:List V2):Bool:=(List.range a.length).any fun i=>partsB (at_ a i) (at_ a ((i+1) % a.length)) b
def polysB (a b:List V2):Bool:=oneB a b||oneB b a
def Inside (l:List V2) (p:V2):Prop:= ∀i,i<l.length→0<edg l i p
structure Conv (l:List V2):Prop where
 three:3≤l.length
 left: ∀i k,i<l.length→k<l.length→0≤edg l i (at_ l k)
 strict: ∀i k,i<l.length→k<l.length→k≠i→k≠(i+1) % l.length→0<edg l i (at_ l k)
theorem mem_at {l:List V2} {p:V2} (h:p∈l): ∃i,i<l.length∧at_ l i=p:=by
 obtain ⟨i,hi,e⟩:=List.getElem_of_mem h
 exact ⟨i,hi,by unfold at_;rw [List.getD_eq_getElem?_getD,List.getElem?_eq_getElem hi];exact e⟩
theorem at_mem {l:List V2} {i:Nat} (h:i<l.length):at_ l i∈l:=by
 unfold at_;rw [List.getD_eq_getElem?_getD,List.getElem?_eq_getElem h];exact List.getElem_mem h
theorem partsB_t {a b:V2} {l:List V2} (h:partsB a b l=true) {p:V2} (hp:p∈l):crs a b p≤0:=by
 have:=List.all_eq_true.1 h p hp
 simp at this
 exact Rat.not_lt.1 this
theorem partsB_f {a b:V2} {l:List V2} (h:partsB a b l=false): ∃p,p∈l∧0<crs a b p:=by
 unfold partsB at h
 rw [List.all_eq_false] at h
 obtain ⟨p,hp,e⟩:=h
 exact ⟨p,hp,by simpa using e⟩
theorem oneB_t {a b:List V2} (h:oneB a b=true): ∃i,i<a.length∧ ∀p,p∈b→edg a i p≤0:=by
 obtain ⟨i,hi,e⟩:=List.any_eq_true.1 h
 exact ⟨i,List.mem_range.1 hi,fun p hp=>partsB_t e hp⟩
theorem oneB_f {a b:List V2} (h:oneB a b=false) (i:Nat) (hi:i<a.length): ∃k,k<b.length∧0<edg a i (at_ b k):=by
 have:=List.any_eq_false.1 h i (List.mem_range.2 hi)
 obtain ⟨p,hp,e⟩:=partsB_f (by simpa using this)
 obtain ⟨k,hk,rfl⟩:=mem_at hp
 exact ⟨k,hk,e⟩
theorem crs_mid (a b p q r:V2):crs a b ((p.1+q.1+r.1) / 3,(p.2+q.2+r.2) / 3)*3=crs a b p+crs a b q+crs a b r:=by unfold crs;grind
theorem Conv.inner {l:List V2} (h:Conv l): ∃c,Inside l c:=by
 refine ⟨(((at_ l 0).1+(at_ l 1).1+(at_ l 2).1) / 3,((at_ l 0).2+(at_ l 1).2+(at_ l 2).2) / 3),fun i hi=> ?_⟩
 have h3:=h.three
 refine pos_of_mul (s:=3) (by grind) ?_
 unfold edg
 rw [crs_mid]
 have l0:=h.left i 0 hi (by omega);have l1:=h.left i 1 hi (by omega);have l2:=h.left i 2 hi (by omega)
 unfold edg at l0 l1 l2
 have s0:=h.strict i 0 hi (by omega);have s1:=h.strict i 1 hi (by omega);have s2:=h.strict i 2 hi (by omega)
 unfold edg at s0 s1 s2
 by_cases e0:0≠i∧0≠(i+1) % l.length
 ·have:=s0 e0.1 e0.2;grind
 by_cases e1:1≠i∧1≠(i+1) % l.length
 ·have:=s1 e1.1 e1.2;grind
 have:=s2 (by omega) (by omega);grind
def mixp (p c:V2) (e:Rat):V2:=(p.1+(c.1 - p.1)*e,p.2+(c.2 - p.2)*e)
theorem mixp_v (f:Aff) (p c:V2) (e:Rat):f.v (mixp p c e)=f.v p*(1 - e)+f.v c*e:=by unfold mixp Aff.v;grind
theorem near_eps {G C:Rat} (hG:0<G): ∃e:Rat,0<e∧e≤1∧0<G*(1 - e)+C*e:=by
 by_cases hc:0≤C
 ·refine ⟨1 / 2,by grind,by grind, ?_⟩
  have:=Rat.mul_nonneg hc (show (0:Rat)≤1 / 2 by grind)
  grind
 ·have hs:0<G+(G - C):=by grind
  generalize hS:G+(G - C)=S at hs
  have hd:G / S*S=G:=div_mul_self _ _ hs
  have h1:0<G / S:=pos_of_mul hs (by rw [hd];exact hG)
  generalize hq:G / S=q at hd h1
  refine ⟨q,h1, ?_, ?_⟩
  ·rcases (Rat.le_total:q≤1∨1≤q) with h|h
   ·exact h
   ·have:=Rat.mul_nonneg (show 0≤q - 1 by grind) (Rat.le_of_lt hs)
    grind
  ·have e1:G*(1 - q)+C*q=G - (G - C)*q:=by grind
   have e2:(G - C)*q=G - G*q:=by rw [←hS] at hd;grind
   rw [e1,e2]
   have:=Rat.mul_pos hG h1
   grind
theorem Conv.near {l:List V2} (h:Conv l) (g:Aff) {k:Nat} (hk:k<l.length) (hg:0<g.v (at_ l k)): ∃z,Inside l z∧0<g.v z:=by
 obtain ⟨c,hc⟩:=h.inner
 obtain ⟨e,h1,h2,h3⟩:=near_eps (C:=g.v c) hg
 refine ⟨mixp (at_ l k) c e,fun i hi=> ?_,by rw [mixp_v];exact h3⟩
 rw [←edl_v,mixp_v,edl_v,edl_v]
 have k1:=Rat.mul_pos (hc i hi) h1
 have k2:=Rat.mul_nonneg (h.left i k hi hk) (show 0≤1 - e by grind)
 grind
theorem sat {a b:List V2} (ha:Conv a) (hb:Conv b) (h:polysB a b=false): ∃z,Inside a z∧Inside b z:=by
 unfold polysB at h
 rw [Bool.or_eq_false_iff] at h
 let F:=(List.range a.length).map (edl a)++(List.range b.length).map (edl b)
 have ga: ∀g,g∈F→ ∃z,Inside a z∧0<g.v z:=fun g hg=>by
  rcases List.mem_append.1 hg with hg|hg<;>obtain ⟨i,hi,rfl⟩:=List.mem_map.1 hg
  ·obtain ⟨c,hc⟩:=ha.inner
   exact ⟨c,hc,by rw [edl_v];exact hc i (List.mem_range.1 hi)⟩
  ·obtain ⟨k,hk,e⟩:=oneB_f h.2 i (List.mem_range.1 hi)
   exact ha.near _ hk (by rw [edl_v];exact e)
 have gb: ∀g,g∈F→ ∃z,Inside b z∧0<g.v z:=fun g hg=>by
  rcases List.mem_append.1 hg with hg|hg<;>obtain ⟨i,hi,rfl⟩:=List.mem_map.1 hg
  ·obtain ⟨k,hk,e⟩:=oneB_f h.1 i (List.mem_range.1 hi)
   exact hb.near _ hk (by rw [edl_v];exact e)
  ·obtain ⟨c,hc⟩:=hb.inner
   exact ⟨c,hc,by rw [edl_v];exact hc i (List.mem_range.1 hi)⟩
 have part: ∀g,g∈F→(∀z,Inside a z→0<g.v z)∨(∀z,Inside b z→0<g.v z):=fun g hg=>by
  rcases List.mem_append.1 hg with hg|hg<;>obtain ⟨i,hi,rfl⟩:=List.mem_map.1 hg
  ·exact .inl fun z hz=>by rw [edl_v];exact hz i (List.mem_range.1 hi)
  ·exact .inr fun z hz=>by rw [edl_v];exact hz i (List.mem_range.1 hi)
 obtain ⟨z,hz⟩:=helly F.length F (Nat.le_refl _) (fun e=>by
  have:=congrArg List.length e
  simp only [F,List.length_append,List.length_map,List.length_range,List.length_nil] at this
  have:=ha.three
  omega) fun f g k hf hg hk=>by
  rcases part f hf with pf|pf<;>rcases part g hg with pg|pg<;>rcases part k hk with pk|pk
  ·obtain ⟨z,h1,h2⟩:=ga f hf;exact ⟨z,pf z h1,pg z h1,pk z h1⟩
  ·obtain ⟨z,h1,h2⟩:=ga k hk;exact ⟨z,pf z h1,pg z h1,h2⟩
  ·obtain ⟨z,h1,h2⟩:=ga g hg;exact ⟨z,pf z h1,h2,pk z h1⟩
  ·obtain ⟨z,h1,h2⟩:=gb f hf;exact ⟨z,h2,pg z h1,pk z h1⟩
  ·obtain ⟨z,h1,h2⟩:=ga f hf;exact ⟨z,h2,pg z h1,pk z h1⟩
  ·obtain ⟨z,h1,h2⟩:=gb g hg;exact ⟨z,pf z h1,h2,pk z h1⟩
  ·obtain ⟨z,h1,h2⟩:=gb k hk;exact ⟨z,pf z h1,pg z h1,h2⟩
  ·obtain ⟨z,h1,h2⟩:=gb f hf;exact ⟨z,pf z h1,pg z h1,pk z h1⟩
 refine ⟨z,fun i hi=> ?_,fun i hi=> ?_⟩
 ·rw [←edl_v];exact hz _ (List.mem_append_left _ (List.mem_map.2 ⟨i,List.mem_range.2 hi,rfl⟩))
 ·rw [←edl_v];exact hz _ (List.mem_append_right _ (List.mem_map.2 ⟨i,List.mem_range.2 hi,rfl⟩))
theorem max_at (g:Nat→Rat): ∀n,0<n→ ∃j,j<n∧ ∀k,k<n→g k≤g j
  | 1, _ => ⟨0, by omega, fun k hk => by obtain rfl:k=0:=by omega
                                         exact Rat.le_refl⟩
  | n+2,_=>by
    obtain ⟨j,h1,h2⟩:=max_at g (n+1) (by omega)
    rcases (Rat.le_total:g j≤g (n+1)∨g (n+1)≤g j) with h|h
    · refine ⟨n+1,by omega,fun k hk=> ?_⟩
      by_cases e:k=n+1
      · rw [e];exact Rat.le_refl
      · exact Rat.le_trans (h2 k (by omega)) h
    · refine ⟨j,by omega,fun k hk=> ?_⟩
      by_cases e:k=n+1
      · rw [e];exact h
      · exact h2 k (by omega)
theorem cone_id (f:Aff) (p q r x:V2):crs p q r*(f.v x - f.v q)=crs p q x*(f.v r - f.v q)+crs q r x*(f.v p - f.v q):=by unfold crs Aff.v;grind
theorem prev_of {n j:Nat} (h3:3≤n) (hj:j<n): ∃i,i<n∧(i+1) % n=j∧(j+1) % n<n∧(j+1) % n≠i∧(j+1) % n≠j:=by
 have hlt:=Nat.mod_lt (j+1) (show 0<n by omega)
 have h1:(j+1) % n=if j+1=n then 0 else j+1:=by
  split
  ·rename_i e;rw [e];exact Nat.mod_self n
  ·exact Nat.mod_eq_of_lt (by omega)
 rcases Nat.eq_zero_or_pos j with rfl|hp
 ·refine ⟨n - 1,by omega,by rw [show n - 1+1=n by omega];exact Nat.mod_self n,hlt, ?_, ?_⟩<;>(rw [h1];split<;>omega)
 ·refine ⟨j - 1,by omega,by rw [show j - 1+1=j by omega];exact Nat.mod_eq_of_lt hj,hlt, ?_, ?_⟩<;>(rw [h1];split<;>omega)
theorem Conv.cone {b:List V2} (h:Conv b) (f:Aff) (M:Rat) (hf: ∀k,k<b.length→f.v (at_ b k)≤M) {x:V2} (hx: ∀i,i<b.length→0≤edg b i x):f.v x≤M:=by
 have h3:=h.three
 obtain ⟨j,hj,hmax⟩:=max_at (fun k=>f.v (at_ b k)) b.length (by omega)
 obtain ⟨i,hi,hij,hn,n1,n2⟩:=prev_of h3 hj
 have hD:0<crs (at_ b i) (at_ b j) (at_ b ((j+1) % b.length)):=by
  have:=h.strict i _ hi hn n1 (by rw [hij];exact n2)
  unfold edg at this
  rwa [hij] at this
 have e1:=hx i hi
 have e2:=hx j hj
 unfold edg at e1 e2
 rw [hij] at e1
 have key:=cone_id f (at_ b i) (at_ b j) (at_ b ((j+1) % b.length)) x
 have m1:=hmax _ hn
 have m2:=hmax i hi
 have k1:=Rat.mul_nonneg e1 (show 0≤f.v (at_ b j) - f.v (at_ b ((j+1) % b.length)) by grind)
 have k2:=Rat.mul_nonneg e2 (show 0≤f.v (at_ b j) - f.v (at_ b i) by grind)
 have k3:0≤crs (at_ b i) (at_ b j) (at_ b ((j+1) % b.length))*(f.v (at_ b j) - f.v x):=by grind
 have k4:f.v x≤f.v (at_ b j):=by
  rcases (Rat.le_total:f.v x≤f.v (at_ b j)∨f.v (at_ b j)≤f.v x) with g|g
  ·exact g
  ·by_cases e:f.v x=f.v (at_ b j)
   ·grind
   ·have:=Rat.mul_pos hD (show 0<f.v x - f.v (at_ b j) by grind)
    grind
 exact Rat.le_trans k4 (hf j hj)
theorem apart_no {a b:List V2} (ha:Conv a) (hb:Conv b) (h:polysB a b=true) {p:V2} (h1:Inside a p) (h2:Inside b p):False:=by
 unfold polysB at h
 rcases Bool.or_eq_true_iff.1 h with h|h<;>obtain ⟨i,hi,e⟩:=oneB_t h
 ·have:=hb.cone (edl a i) 0 (fun k hk=>by rw [edl_v];exact e _ (at_mem hk)) fun i hi=>Rat.le_of_lt (h2 i hi)
  rw [edl_v] at this
  have:=h1 i hi
  grind
 ·have:=ha.cone (edl b i) 0 (fun k hk=>by rw [edl_v];exact e _ (at_mem hk)) fun i hi=>Rat.le_of_lt (h1 i hi)
  rw [edl_v] at this
  have:=h2 i hi
  grind
def ch (R:V2→V2→Prop):List V2→Prop
 |p::q::r=>R p q∧ch R (q::r)
 |_=>True
def Ring (R:V2→V2→Prop) (l:List V2):Prop:= ∃p t,l=p::t∧ch R (p::(t++ [p]))
def seg (p q:V2) (t:Rat):V2:=(p.1+(q.1 - p.1)*t,p.2+(q.2 - p.2)*t)
def crosses (h:Aff) (p q:V2):Prop:=(0<h.v p∧h.v q<0)∨(h.v p<0∧0<h.v q)
instance (h:Aff) (p q:V2):Decidable (crosses h p q):=by unfold crosses;exact inferInstance
def cpt (h:Aff) (p q:V2):V2:=seg p q (h.v p / (h.v p - h.v q))
def piece (h:Aff) (p q:V2):List V2:=(if 0≤h.v p then [p] else [])++(if crosses h p q then [cpt h p q] else [])
def cutC (h:Aff):List V2→List V2
 |p::q::r=>piece h p q++cutC h (q::r)
 |_=> []
def cutL (h:Aff) (l:List V2):List V2:=(List.range l.length).flatMap fun i=>piece h (at_ l i) (at_ l ((i+1) % l.length))
theorem cpt_v (f h:Aff) {p q:V2} (hc:crosses h p q):f.v (cpt h p q)=f.v p*(1 - h.v p / (h.v p - h.v q))+f.v q*(h.v p / (h.v p - h.v q))∧0<h.v p / (h.v p - h.v q)∧h.v p / (h.v p - h.v q)<1:=by
  have key: ∀{x y:Rat},(0<x∧y<0)∨(x<0∧0<y)→0<x / (x - y)∧x / (x - y)<1:=fun {x y} hc=>by
    rcases hc with ⟨h1,h2⟩|⟨h1,h2⟩
    · have hs:0<x - y:=by grind
      have hd:x / (x - y)*(x - y)=x:=div_mul_self _ _ hs
      generalize x / (x - y)=t at hd
      refine ⟨pos_of_mul hs (by rw [hd];exact h1), ?_⟩
      have : 0 < 1 - t := pos_of_mul hs (by have:(1 - t)*(x - y)=(x - y) - t*(x - y):=by grind
                                            rw [this,hd];grind)
      grind
    · have hs : 0 < y - x := by grind
      have hd0:x - y≠0:=by grind
      have hd:x / (x - y)*(x - y)=x:=by grind
      generalize x / (x - y)=t at hd
      refine ⟨pos_of_mul hs (by have:t*(y - x)= -(t*(x - y)):=by grind
                                rw [this,hd];grind), ?_⟩
      have : 0 < 1 - t := pos_of_mul hs (by have:(1 - t)*(y - x)=(y - x)+t*(x - y):=by grind
                                            rw [this,hd];grind)
      grind
  refine ⟨?_,key hc⟩
  unfold cpt seg
  generalize h.v p / (h.v p - h.v q)=t
  unfold Aff.v
  grind
theorem cpt_h (h:Aff) {p q:V2} (hc:crosses h p q):h.v (cpt h p q)=0:=by
 rw [(cpt_v h h hc).1]
 have:h.v p - h.v q≠0:=by rcases hc with hc|hc<;>grind
 grind
theorem cpt_le (f h:Aff) {p q:V2} (hc:crosses h p q) {M:Rat} (hp:f.v p≤M) (hq:f.v q≤M):f.v (cpt h p q)≤M:=by
 obtain ⟨e,h1,h2⟩:=cpt_v f h hc
 rw [e]
 generalize h.v p / (h.v p - h.v q)=t at h1 h2 ⊢
 have k1:=Rat.mul_nonneg (show 0≤M - f.v p by grind) (show 0≤1 - t by grind)
 have k2:=Rat.mul_nonneg (show 0≤M - f.v q by grind) (Rat.le_of_lt h1)
 grind
theorem ch_cons {R:V2→V2→Prop} {p:V2} {l:List V2} (h:ch R l) (hp: ∀x t,l=x::t→R p x):ch R (p::l):=by
 cases l with
 |nil=>trivial
 |cons x t=>exact ⟨hp x t rfl,h⟩
theorem ch_snoc {R:V2→V2→Prop} {y:V2}: ∀{l:List V2},ch R l→(∀(hl:l≠ []),R (l.getLast hl) y)→ch R (l++ [y])
 | [],_,_=>trivial
 | [p],_,h=>⟨h (by simp),trivial⟩
 |p::q::r,⟨h1,h2⟩,h=>⟨h1,ch_snoc (l:=q::r) h2 fun _=>h (by simp)⟩
structure Cuts (h:Aff) (R R0:V2→V2→Prop):Prop where
 out: ∀p q,R p q→0<h.v p→h.v q<0→R p (cpt h p q)∧R0 (cpt h p q) q
 inn: ∀p q,R p q→h.v p<0→0<h.v q→R0 p (cpt h p q)∧R (cpt h p q) q
 low: ∀p q,R p q→h.v p≤0→h.v q≤0→R0 p q
 back: ∀p q,R0 p q→h.v p=0→h.v q=0→R p q
 trans: ∀p q r,h.v p≤0→h.v q≤0→h.v r≤0→R0 p q→R0 q r→R0 p r
theorem cut_chain {h:Aff} {R R0:V2→V2→Prop} (C:Cuts h R R0): ∀(t:List V2) (p q:V2),ch R (p::q::t)→
  let c:=p::q::t
  let last:=c.getLast (by simp [c])
  (cutC h c= []∧h.v p<0∧h.v last≤0∧R0 p last)∨
  (∃x y,(∃o,cutC h c=x::o)∧(∃o,cutC h c=o++ [y])∧ch R (cutC h c)∧(0≤h.v p→x=p)∧(h.v p<0→h.v x=0∧R0 p x)∧
   (R y last∨(h.v last≤0∧h.v y=0∧R0 y last))∧(h.v last<0→h.v y=0))
 | [],p,q,hr=>by
  intro c last
  have hpq:R p q:=hr.1
  have ec:cutC h c=piece h p q:=by show piece h p q++ []=_;simp
  rw [ec]
  unfold piece
  by_cases hp:0≤h.v p
  ·rw [if_pos hp]
   by_cases hc:crosses h p q
   ·rw [if_pos hc]
    have hx:0<h.v p∧h.v q<0:=by unfold crosses at hc;grind
    obtain ⟨r1,r2⟩:=C.out p q hpq hx.1 hx.2
    have h0:=cpt_h h hc
    exact .inr ⟨p,cpt h p q,⟨_,rfl⟩,⟨[p],rfl⟩,⟨r1,trivial⟩,fun _=>rfl,fun h=>by grind, .inr ⟨Rat.le_of_lt hx.2,h0,r2⟩,fun _=>h0⟩
   ·rw [if_neg hc]
    refine .inr ⟨p,p,⟨_,rfl⟩,⟨[],rfl⟩,trivial,fun _=>rfl,fun h=>by grind, .inl hpq,fun hl=> ?_⟩
    have hl:h.v q<0:=hl
    unfold crosses at hc
    grind
  ·rw [if_neg hp]
   have hp:h.v p<0:=by grind
   by_cases hc:crosses h p q
   ·rw [if_pos hc]
    have hx:h.v p<0∧0<h.v q:=by unfold crosses at hc;grind
    obtain ⟨r1,r2⟩:=C.inn p q hpq hx.1 hx.2
    have h0:=cpt_h h hc
    exact .inr ⟨cpt h p q,cpt h p q,⟨_,rfl⟩,⟨[],rfl⟩,trivial,fun h=>by grind,fun _=>⟨h0,r1⟩, .inl r2,fun _=>h0⟩
   ·rw [if_neg hc]
    have hq:h.v q≤0:=by unfold crosses at hc;grind
    exact .inl ⟨rfl,hp,hq,C.low _ _ hpq (by grind) hq⟩
 | s::t,p,q,hr=>by
  intro c last
  have hpq:R p q:=hr.1
  have ec:cutC h c=piece h p q++cutC h (q::s::t):=rfl
  have el:last=(q::s::t).getLast (by simp):=rfl
  have ih:=cut_chain C t q s hr.2
  simp only at ih
  rw [←el] at ih
  clear_value last
  rw [ec]
  generalize cutC h (q::s::t)=out at ih
  have qlow:h.v q<0→h.v p≤0→R0 p q:=fun h1 h2=>C.low _ _ hpq h2 (by grind)
  unfold piece
  rcases ih with ⟨rfl,hq,hl,hql⟩|⟨x,y,⟨o,ex⟩,⟨o',ey⟩,hch,h1,h2,h3,h4⟩
  ·by_cases hp:0≤h.v p
   ·rw [if_pos hp]
    by_cases hc:crosses h p q
    ·rw [if_pos hc]
     have hx:0<h.v p∧h.v q<0:=by unfold crosses at hc;grind
     obtain ⟨r1,r2⟩:=C.out p q hpq hx.1 hx.2
     have h0:=cpt_h h hc
     exact .inr ⟨p,cpt h p q,⟨_,rfl⟩,⟨[p],rfl⟩,⟨r1,trivial⟩,fun _=>rfl,fun h=>by grind, .inr ⟨hl,h0,C.trans _ q _ (by grind) (by grind) hl r2 hql⟩,fun _=>h0⟩
    ·rw [if_neg hc]
     have h0:h.v p=0:=by unfold crosses at hc;grind
     exact .inr ⟨p,p,⟨_,rfl⟩,⟨[],rfl⟩,trivial,fun _=>rfl,fun h=>by grind, .inr ⟨hl,h0,C.trans _ q _ (by grind) (by grind) hl (qlow hq (by grind)) hql⟩,fun _=>h0⟩
   ·rw [if_neg hp]
    have hp:h.v p<0:=by grind
    have hc: ¬crosses h p q:=by unfold crosses;grind
    rw [if_neg hc]
    exact .inl ⟨rfl,hp,hl,C.trans _ q _ (by grind) (by grind) hl (qlow hq (by grind)) hql⟩
  ·by_cases hq:0≤h.v q
   ·obtain rfl:=h1 hq
    by_cases hp:0≤h.v p
    ·rw [if_pos hp,if_neg (by unfold crosses;grind)]
     refine .inr ⟨p,y,⟨out,rfl⟩,⟨p::o',by rw [ey];rfl⟩, ?_,fun _=>rfl,fun h=>by grind,h3,h4⟩
     exact ch_cons hch fun x' t' e=>by rw [ex] at e;cases e;exact hpq
    ·rw [if_neg hp]
     have hp:h.v p<0:=by grind
     by_cases hc:crosses h p x
     ·rw [if_pos hc]
      have hx:h.v p<0∧0<h.v x:=by unfold crosses at hc;grind
      obtain ⟨r1,r2⟩:=C.inn p x hpq hx.1 hx.2
      have h0:=cpt_h h hc
      refine .inr ⟨cpt h p x,y,⟨out,rfl⟩,⟨cpt h p x::o',by rw [ey];rfl⟩, ?_,fun h=>by grind,fun _=>⟨h0,r1⟩,h3,h4⟩
      exact ch_cons hch fun x' t' e=>by rw [ex] at e;cases e;exact r2
     ·rw [if_neg hc]
      have h0:h.v x=0:=by unfold crosses at hc;grind
      exact .inr ⟨x,y,⟨o,by rw [ex];rfl⟩,⟨o',by rw [ey];rfl⟩,hch,fun h=>by grind,fun _=>⟨h0,C.low _ _ hpq (by grind) (by grind)⟩,h3,h4⟩
   ·have hq:h.v q<0:=by grind
    obtain ⟨hx,hqx⟩:=h2 hq
    by_cases hp:0≤h.v p
    ·rw [if_pos hp]
     by_cases hc:crosses h p q
     ·rw [if_pos hc]
      have hx':0<h.v p∧h.v q<0:=by unfold crosses at hc;grind
      obtain ⟨r1,r2⟩:=C.out p q hpq hx'.1 hx'.2
      have h0:=cpt_h h hc
      refine .inr ⟨p,y,⟨_,rfl⟩,⟨p::cpt h p q::o',by rw [ey];rfl⟩,⟨r1,ch_cons hch fun x' t' e=> ?_⟩,fun _=>rfl,fun h=>by grind,h3,h4⟩
      rw [ex] at e;cases e
      exact C.back _ _ (C.trans _ q _ (by grind) (by grind) (by grind) r2 hqx) h0 hx
     ·rw [if_neg hc]
      have h0:h.v p=0:=by unfold crosses at hc;grind
      refine .inr ⟨p,y,⟨_,rfl⟩,⟨p::o',by rw [ey];rfl⟩,ch_cons hch fun x' t' e=> ?_,fun _=>rfl,fun h=>by grind,h3,h4⟩
      rw [ex] at e;cases e
      exact C.back _ _ (C.trans _ q _ (by grind) (by grind) (by grind) (qlow hq (by grind)) hqx) h0 hx
    ·rw [if_neg hp,if_neg (by unfold crosses;grind)]
     have hp:h.v p<0:=by grind
     exact .inr ⟨x,y,⟨o,by rw [ex];rfl⟩,⟨o',by rw [ey];rfl⟩,hch,fun h=>by grind,fun _=>⟨hx,C.trans _ q _ (by grind) (by grind) (by grind) (qlow hq (by grind)) hqx⟩,h3,h4⟩
theorem cutL_eq (h:Aff) (p:V2) (t:List V2):cutL h (p::t)=cutC h (p::(t++ [p])):=by
 have key: ∀(c:List V2) (n:Nat),n+1=c.length→(List.range n).flatMap (fun i=>piece h (at_ c i) (at_ c (i+1)))=cutC h c:=by
  intro c
  induction c with
  |nil=>intro n hn;simp at hn
  | cons x c ih=>
   intro n hn
   cases n with
   |zero=>
    have:c= []:=List.eq_nil_of_length_eq_zero (by rw [List.length_cons] at hn;omega)
    subst this;rfl
   | succ n=>
    cases c with
    |nil=>simp at hn
    |cons y c=>
     rw [List.range_succ_eq_map,List.flatMap_cons,List.flatMap_map]
     show piece h (at_ (x::y::c) 0) (at_ (x::y::c) 1)++_=piece h x y++cutC h (y::c)
     congr 1
     exact ih n (by simpa using hn)
 rw [←key (p::(t++ [p])) (t.length+1) (by simp)]
 unfold cutL
 rw [List.length_cons]
 have gen: ∀(m:Nat),m≤t.length+1→(List.range m).flatMap (fun i=>piece h (at_ (p::t) i) (at_ (p::t) ((i+1) % (t.length+1))))=(List.range m).flatMap (fun i=>piece h (at_ (p::(t++ [p])) i) (at_ (p::(t++ [p])) (i+1))):=by
  intro m
  induction m with
  |zero=>intro _;rfl
  | succ m ih=>
   intro hm
   rw [List.range_succ,List.flatMap_append,List.flatMap_append,ih (by omega)]
   congr 1
   simp only [List.flatMap_cons,List.flatMap_nil]
   have e1:at_ (p::t) m=at_ (p::(t++ [p])) m:=by
    unfold at_
    rw [List.getD_eq_getElem?_getD,List.getD_eq_getElem?_getD,show p::(t++ [p])=(p::t)++ [p] from rfl,List.getElem?_append_left (by simp;omega)]
   have e2:at_ (p::t) ((m+1) % (t.length+1))=at_ (p::(t++ [p])) (m+1):=by
    unfold at_
    rw [List.getD_eq_getElem?_getD,List.getD_eq_getElem?_getD,show p::(t++ [p])=(p::t)++ [p] from rfl]
    by_cases e:m+1=t.length+1
    ·rw [e,Nat.mod_self,List.getElem?_append_right (by simp)]
     simp
    ·rw [Nat.mod_eq_of_lt (by omega),List.getElem?_append_left (by simp;omega)]
   rw [e1,e2]
 exact gen _ (Nat.le_refl _)
theorem cut_ring {h:Aff} {R R0:V2→V2→Prop} (C:Cuts h R R0) {l:List V2} (hl:Ring R l):Ring R (cutL h l)∨(cutL h l= []∧ ∃p,p∈l∧h.v p<0∧R0 p p):=by
 obtain ⟨p,t,rfl,hc⟩:=hl
 rw [cutL_eq]
 have hl0: ∃q t',t++ [p]=q::t':=by cases t with
  |nil=>exact ⟨p, [],rfl⟩
  |cons q t=>exact ⟨q,t++ [p],rfl⟩
 obtain ⟨q,t',e⟩:=hl0
 have hk:=cut_chain C t' p q (by rw [←e];exact hc)
 simp only at hk
 have gl: ∀(l:List V2) (hne:l≠ []),l=(p::t)++ [p]→l.getLast hne=p:=fun l hne e=>by subst e;exact List.getLast_concat
 have el:(p::q::t').getLast (by simp)=p:=gl _ _ (by rw [←e];rfl)
 rw [el, ←e] at hk
 rcases hk with ⟨h1,h2,_,h4⟩|⟨x,y,⟨o,ex⟩,⟨o',ey⟩,hch,h1,h2,h3,h4⟩
 ·exact .inr ⟨h1,p,by simp,h2,h4⟩
 ·refine .inl ⟨x,o,ex, ?_⟩
  have hyx:R y x:=by
   by_cases hp:0≤h.v p
   ·have:=h1 hp;subst this
    rcases h3 with h3|⟨g1,g2,g3⟩
    ·exact h3
    ·exact C.back _ _ g3 g2 (by grind)
   ·have hp:h.v p<0:=by grind
    obtain ⟨g1,g2⟩:=h2 hp
    have hy:=h4 hp
    have hyp:R0 y p:=by
     rcases h3 with h3|⟨_,_,g3⟩
     ·exact C.low _ _ h3 (by grind) (by grind)
     ·exact g3
    exact C.back _ _ (C.trans _ p _ (by grind) (by grind) (by grind) hyp g2) hy g1
  have:=ch_snoc (y:=x) hch fun hne=>by
   have:(cutC h (p::(t++ [p]))).getLast hne=y:=by simp only [ey];simp
   rw [this];exact hyx
  rw [ex] at this
  exact this
theorem ch_run {R:V2→V2→Prop} {D:V2→Prop} (ht: ∀p q r,D p→D q→D r→R p q→R q r→R p r): ∀(t:List V2) (p x:V2),ch R (p::(t++ [x]))→D p→D x→(∀q,q∈t→D q)→R p x
 | [],_,_,h,_,_,_=>h.1
 |q::t,p,x,h,hp,hx,hd=>ht p q x hp (hd q (by simp)) hx h.1 (ch_run ht t q x h.2 (hd q (by simp)) hx fun r hr=>hd r (by simp [hr]))
def Sees (z p q:V2):Prop:=0<crs p q z
theorem sees_id (h:Aff) (p q r z:V2):(h.v z - h.v q)*crs p r z=(h.v z - h.v r)*crs p q z+(h.v z - h.v p)*crs q r z:=by unfold Aff.v crs;grind
theorem sees_trans (h:Aff) {z:V2} (hz:0<h.v z) (p q r:V2) (hp:h.v p≤0) (hq:h.v q≤0) (hr:h.v r≤0) (h1:Sees z p q) (h2:Sees z q r):Sees z p r:=by
 have e:=sees_id h p q r z
 have k1:=Rat.mul_pos (show 0<h.v z - h.v r by grind) h1
 have k2:=Rat.mul_pos (show 0<h.v z - h.v p by grind) h2
 refine pos_of_mul (s:=h.v z - h.v q) (by grind) ?_
 rw [Rat.mul_comm,e]
 grind
theorem sees_self (z p:V2): ¬Sees z p p:=by unfold Sees crs;grind
theorem crs_cpt (h:Aff) {p q z:V2}:crs p (cpt h p q) z=crs p q z*(h.v p / (h.v p - h.v q))∧crs (cpt h p q) q z=crs p q z*(1 - h.v p / (h.v p - h.v q)):=by
 unfold cpt seg
 generalize h.v p / (h.v p - h.v q)=t
 unfold crs
 constructor<;>grind
theorem sees_cpt {h:Aff} {z p q:V2} (hpq:Sees z p q) (hc:crosses h p q):Sees z p (cpt h p q)∧Sees z (cpt h p q) q:=by
 obtain ⟨_,h1,h2⟩:=cpt_v h h hc
 obtain ⟨e1,e2⟩:=crs_cpt h (p:=p) (q:=q) (z:=z)
 unfold Sees
 rw [e1,e2]
 exact ⟨Rat.mul_pos hpq h1,Rat.mul_pos hpq (by grind)⟩
theorem sees_cuts (h:Aff) {z:V2} (hz:0<h.v z):Cuts h (Sees z) (Sees z) where
 out p q hpq h1 h2:=sees_cpt hpq (.inl ⟨h1,h2⟩)
 inn p q hpq h1 h2:=sees_cpt hpq (.inr ⟨h1,h2⟩)
 low _ _ h _ _:=h
 back _ _ h _ _:=h
 trans p q r h1 h2 h3 h4 h5:=sees_trans h hz p q r h1 h2 h3 h4 h5
theorem cut_sees (h:Aff) {z:V2} (hz:0<h.v z) {l:List V2} (hl:Ring (Sees z) l):Ring (Sees z) (cutL h l):=by
 rcases cut_ring (sees_cuts h hz) hl with h1|⟨_,p,_,_,h4⟩
 ·exact h1
 ·exact absurd h4 (sees_self z p)
theorem ring_off {z:V2} {l:List V2} (hl:Ring (Sees z) l) (f:Aff) (hz:0<f.v z) (hf: ∀p,p∈l→0≤f.v p): ∃p,p∈l∧0<f.v p:=by
 apply Classical.byContradiction
 intro hn
 have h0: ∀p,p∈l→f.v p≤0:=fun p hp=>Rat.not_lt.1 fun h=>hn ⟨p,hp,h⟩
 obtain ⟨p,t,rfl,hc⟩:=hl
 exact sees_self z p (ch_run (D:=fun p=>f.v p≤0) (fun p q r=>sees_trans f hz p q r) t p p hc (h0 p (by simp)) (h0 p (by simp)) fun q hq=>h0 q (by simp [hq]))
theorem ring_three {z:V2} {l:List V2} (hl:Ring (Sees z) l):3≤l.length:=by
 obtain ⟨p,t,rfl,hc⟩:=hl
 match t,hc with
 | [],hc=>exact absurd hc.1 (sees_self z p)
 | [q],hc=>
  have h1:Sees z p q:=hc.1
  have h2:Sees z q p:=hc.2.1
  unfold Sees crs at h1 h2
  grind
 |q::r::t,_=>simp
theorem ring_of {l:List V2} {R:V2→V2→Prop} (h0:0<l.length) (h: ∀i,i<l.length→R (at_ l i) (at_ l ((i+1) % l.length))):Ring R l:=by
 match l,h0,h with
 | p::t,_,h=>
  refine ⟨p,t,rfl, ?_⟩
  have key: ∀(c:List V2),(∀i,i+1<c.length→R (at_ c i) (at_ c (i+1)))→ch R c:=by
   intro c
   induction c with
   |nil=>intro _;trivial
   |cons x c ih=>
    intro hc
    refine ch_cons (ih fun i hi=> ?_) fun y d e=> ?_
    ·exact hc (i+1) (by rw [List.length_cons];omega)
    ·subst e;exact hc 0 (by simp)
  refine key _ fun i hi=> ?_
  have hi:i<t.length+1:=by simpa using hi
  have:=h i (by simpa using hi)
  rw [List.length_cons] at this
  have e1:at_ (p::t) i=at_ (p::(t++ [p])) i:=by
   unfold at_
   rw [List.getD_eq_getElem?_getD,List.getD_eq_getElem?_getD,show p::(t++ [p])=(p::t)++ [p] from rfl,List.getElem?_append_left (by simp;omega)]
  have e2:at_ (p::t) ((i+1) % (t.length+1))=at_ (p::(t++ [p])) (i+1):=by
   unfold at_
   rw [List.getD_eq_getElem?_getD,List.getD_eq_getElem?_getD,show p::(t++ [p])=(p::t)++ [p] from rfl]
   by_cases e:i+1=t.length+1
   ·rw [e,Nat.mod_self,List.getElem?_append_right (by simp)]
    simp
   ·rw [Nat.mod_eq_of_lt (by omega),List.getElem?_append_left (by simp;omega)]
  rwa [e1,e2] at this
theorem ring_step {l:List V2} {R:V2→V2→Prop} (h:Ring R l) {i:Nat} (hi:i<l.length):R (at_ l i) (at_ l ((i+1) % l.length)):=by
 obtain ⟨p,t,rfl,hc⟩:=h
 have key: ∀(c:List V2),ch R c→ ∀i,i+1<c.length→R (at_ c i) (at_ c (i+1)):=by
  intro c
  induction c with
  |nil=>intro _ i hi;simp at hi
  | cons x c ih=>
   intro hc i hi
   cases c with
   |nil=>simp at hi
   |cons y c=>
    cases i with
    |zero=>exact hc.1
    |succ i=>exact ih hc.2 i (by simpa using hi)
 have hi:i<t.length+1:=by simpa using hi
 have:=key _ hc i (by simp;omega)
 rw [List.length_cons]
 have e1:at_ (p::t) i=at_ (p::(t++ [p])) i:=by
  unfold at_
  rw [List.getD_eq_getElem?_getD,List.getD_eq_getElem?_getD,show p::(t++ [p])=(p::t)++ [p] from rfl,List.getElem?_append_left (by simp;omega)]
 have e2:at_ (p::t) ((i+1) % (t.length+1))=at_ (p::(t++ [p])) (i+1):=by
  unfold at_
  rw [List.getD_eq_getElem?_getD,List.getD_eq_getElem?_getD,show p::(t++ [p])=(p::t)++ [p] from rfl]
  by_cases e:i+1=t.length+1
  ·rw [e,Nat.mod_self,List.getElem?_append_right (by simp)]
   simp
  ·rw [Nat.mod_eq_of_lt (by omega),List.getElem?_append_left (by simp;omega)]
 rwa [e1,e2]
theorem cut_pts {h:Aff} {l:List V2} {x:V2} (hx:x∈cutL h l):(x∈l∧0≤h.v x)∨ ∃i,i<l.length∧crosses h (at_ l i) (at_ l ((i+1) % l.length))∧x=cpt h (at_ l i) (at_ l ((i+1) % l.length)):=by
 obtain ⟨i,hi,hp⟩:=List.mem_flatMap.1 hx
 have hi:=List.mem_range.1 hi
 unfold piece at hp
 rcases List.mem_append.1 hp with hp|hp<;>split at hp<;>simp at hp
 ·rename_i h0;subst hp;exact .inl ⟨at_mem hi,h0⟩
 ·rename_i hc;exact .inr ⟨i,hi,hc,hp⟩
theorem at_nx {l:List V2} {i:Nat} (h:i<l.length):at_ l ((i+1) % l.length)∈l:=at_mem (Nat.mod_lt _ (by omega))
theorem cut_low {h:Aff} {l:List V2} (f:Aff) {M:Rat} (hf: ∀p,p∈l→f.v p≤M) {x:V2} (hx:x∈cutL h l):f.v x≤M:=by
 rcases cut_pts hx with ⟨hx,_⟩|⟨i,hi,hc,rfl⟩
 ·exact hf x hx
 ·exact cpt_le f h hc (hf _ (at_mem hi)) (hf _ (at_nx hi))
theorem cut_at {h:Aff} {l:List V2} {x:V2} (hx:x∈cutL h l):0≤h.v x:=by
 rcases cut_pts hx with ⟨_,hx⟩|⟨i,hi,hc,rfl⟩
 ·exact hx
 ·rw [cpt_h h hc];exact Rat.le_refl
def negA (f:Aff):Aff:=⟨-f.a,-f.b,-f.c⟩
theorem negA_v (f:Aff) (p:V2):(negA f).v p= -f.v p:=by unfold negA Aff.v;grind
theorem cut_high {h:Aff} {l:List V2} (f:Aff) (hf: ∀p,p∈l→0≤f.v p) {x:V2} (hx:x∈cutL h l):0≤f.v x:=by
 have:=cut_low (h:=h) (negA f) (M:=0) (fun p hp=>by rw [negA_v];have:=hf p hp;grind) hx
 rw [negA_v] at this
 grind
def bothK (a b:List V2):Nat→List V2
 |0=>a
 |k+1=>cutL (edl b k) (bothK a b k)
theorem both_low (a b:List V2) (f:Aff) {M:Rat} (hf: ∀p,p∈a→f.v p≤M): ∀k x,x∈bothK a b k→f.v x≤M
 |0,x,hx=>hf x hx
 |k+1,_,hx=>cut_low f (fun p hp=>both_low a b f hf k p hp) hx
theorem both_high (a b:List V2) (f:Aff) (hf: ∀p,p∈a→0≤f.v p): ∀k x,x∈bothK a b k→0≤f.v x
 |0,x,hx=>hf x hx
 |k+1,_,hx=>cut_high f (fun p hp=>both_high a b f hf k p hp) hx
theorem both_edge (a b:List V2): ∀k i x,i<k→x∈bothK a b k→0≤edg b i x
 |k+1,i,x,hi,hx=>by
  by_cases e:i=k
  ·subst e;rw [←edl_v];exact cut_at hx
  ·rw [←edl_v];exact cut_high (edl b i) (fun p hp=>by rw [edl_v];exact both_edge a b k i p (by omega) hp) hx
theorem both_sees {a b:List V2} {z:V2} (ha:Ring (Sees z) a) (hb:Inside b z): ∀k,k≤b.length→Ring (Sees z) (bothK a b k)
 |0,_=>ha
 |k+1,hk=>cut_sees (edl b k) (by rw [edl_v];exact hb k (by omega)) (both_sees ha hb k (by omega))
theorem both_len (a b:List V2): ∀k,(bothK a b k).length≤a.length*2^k
 |0=>by simp [bothK]
 | k+1=>by
  have key: ∀(h:Aff) (l:List V2),(cutL h l).length≤l.length*2:=fun h l=>by
   unfold cutL
   have: ∀(L:List Nat),(L.flatMap fun i=>piece h (at_ l i) (at_ l ((i+1) % l.length))).length≤L.length*2:=fun L=>by
    induction L with
    |nil=>simp
    |cons i L ih=>
     rw [List.flatMap_cons,List.length_append,List.length_cons]
     have:(piece h (at_ l i) (at_ l ((i+1) % l.length))).length≤2:=by unfold piece;split<;>split<;>simp
     omega
   have:=this (List.range l.length)
   rwa [List.length_range] at this
  have:=key (edl b k) (bothK a b k)
  have ih:=both_len a b k
  rw [Nat.pow_succ]
  show (cutL _ _).length≤_
  have:=Nat.mul_le_mul_right 2 ih
  rw [←Nat.mul_assoc]
  omega
def sumK (l:List V2):Nat→V2
 |0=>(0,0)
 |k+1=>((sumK l k).1+(at_ l k).1,(sumK l k).2+(at_ l k).2)
theorem sum_v (f:Aff) (l:List V2): ∀k,0≤k→f.a*(sumK l k).1+f.b*(sumK l k).2+f.c*(k:Rat)=((List.range k).map fun i=>f.v (at_ l i)).sum
 |0,_=>by simp [sumK];grind
 |k+1,_=>by
  rw [List.range_succ,List.map_append,List.sum_append, ←sum_v f l k (Nat.zero_le _)]
  simp only [sumK,List.map_cons,List.map_nil,List.sum_cons,List.sum_nil]
  have:((k+1:Nat):Rat)=(k:Rat)+1:=by push_cast;rfl
  rw [this]
  unfold Aff.v
  grind
theorem sum_pos: ∀(L:List Rat),(∀x,x∈L→0≤x)→(∃x,x∈L∧0<x)→0<L.sum
 | [],_,h=>by obtain ⟨x,hx,_⟩:=h;simp at hx
 | x::L,h0,h=>by
  have nn: ∀(L:List Rat),(∀x,x∈L→0≤x)→0≤L.sum:=fun L=>by
   induction L with
   |nil=>intro _;simp
   |cons y L ih=>intro h;rw [List.sum_cons];have:=h y (by simp);have:=ih fun x hx=>h x (by simp [hx]);grind
  rw [List.sum_cons]
  have h1:=nn L fun y hy=>h0 y (by simp [hy])
  have h2:=h0 x (by simp)
  by_cases e:0<x
  ·grind
  ·have:=sum_pos L (fun y hy=>h0 y (by simp [hy])) (by obtain ⟨y,hy,e'⟩:=h;rcases List.mem_cons.1 hy with rfl|hy;exact absurd e' e;exact ⟨y,hy,e'⟩)
   grind
def midV (l:List V2) (t:Rat):V2:=((sumK l l.length).1*t,(sumK l l.length).2*t)
theorem mid_pos {l:List V2} (f:Aff) (h0: ∀p,p∈l→0≤f.v p) (h1: ∃p,p∈l∧0<f.v p):0<f.v (midV l (1 / (l.length:Rat))):=by
 obtain ⟨p,hp,e⟩:=h1
 have hn:0<l.length:=List.length_pos_of_mem hp
 have hn':(0:Rat)<(l.length:Rat):=by exact_mod_cast hn
 refine pos_of_mul hn' ?_
 have hs:=sum_v f l l.length (Nat.zero_le _)
 have hsum:=sum_pos ((List.range l.length).map fun i=>f.v (at_ l i)) (fun x hx=>by
  obtain ⟨i,hi,rfl⟩:=List.mem_map.1 hx
  exact h0 _ (at_mem (List.mem_range.1 hi))) (by
  obtain ⟨i,hi,rfl⟩:=mem_at hp
  exact ⟨_,List.mem_map.2 ⟨i,List.mem_range.2 hi,rfl⟩,e⟩)
 rw [←hs] at hsum
 unfold midV Aff.v
 generalize (sumK l l.length).1=X at*
 generalize (sumK l l.length).2=Y at*
 generalize (l.length:Rat)=n at*
 have:(f.a*(X*(1 / n))+f.b*(Y*(1 / n))+f.c)*n=f.a*X+f.b*Y+f.c*n:=by grind
 rw [this]
 exact hsum
theorem both_in {a b:List V2} (ha:Conv a) (hb:Conv b) (h:polysB a b=false):3≤(bothK a b b.length).length∧Inside a (midV (bothK a b b.length) (1 / ((bothK a b b.length).length:Rat)))∧Inside b (midV (bothK a b b.length) (1 / ((bothK a b b.length).length:Rat))):=by
 obtain ⟨z,h1,h2⟩:=sat ha hb h
 have hr:=both_sees (ring_of (R:=Sees z) (by have:=ha.three;omega) h1) h2 b.length (Nat.le_refl _)
 refine ⟨ring_three hr,fun i hi=> ?_,fun i hi=> ?_⟩
 ·have h0: ∀p,p∈bothK a b b.length→0≤(edl a i).v p:=both_high a b (edl a i) (fun p hp=>by
   obtain ⟨k,hk,rfl⟩:=mem_at hp
   rw [edl_v];exact ha.left i k hi hk) b.length
  rw [←edl_v]
  exact mid_pos _ h0 (ring_off hr _ (by rw [edl_v];exact h1 i hi) h0)
 ·have h0: ∀p,p∈bothK a b b.length→0≤(edl b i).v p:=fun p hp=>by rw [edl_v];exact both_edge a b b.length i p hi hp
  rw [←edl_v]
  exact mid_pos _ h0 (ring_off hr _ (by rw [edl_v];exact h2 i hi) h0)
theorem crs_line {a b p q r:V2} (h:a≠b) (hp:crs a b p=0) (hq:crs a b q=0) (hr:crs a b r=0):crs p q r=0:=by
 have hne:a.1≠b.1∨a.2≠b.2:=by
  by_cases e:a.1=b.1
  ·exact .inr fun e'=>h (Prod.ext e e')
  ·exact .inl e
 unfold crs at*
 rcases hne with h|h
 ·have:(b.1 - a.1)*((q.1 - p.1)*(r.2 - p.2) - (q.2 - p.2)*(r.1 - p.1))=0:=by grind
  rcases Rat.mul_eq_zero.1 this with h'|h'
  ·grind
  ·exact h'
 ·have:(b.2 - a.2)*((q.1 - p.1)*(r.2 - p.2) - (q.2 - p.2)*(r.1 - p.1))=0:=by grind
  rcases Rat.mul_eq_zero.1 this with h'|h'
  ·grind
  ·exact h'
theorem Conv.ne {l:List V2} (h:Conv l) {i:Nat} (hi:i<l.length):at_ l i≠at_ l ((i+1) % l.length):=fun e=>by
 obtain ⟨c,hc⟩:=h.inner
 have:=hc i hi
 unfold edg at this
 rw [←e] at this
 unfold crs at this
 grind
theorem both_flat {a b:List V2} (ha:Conv a) (hb:Conv b) (h:polysB a b=true) {p q r:V2} (hp:p∈bothK a b b.length) (hq:q∈bothK a b b.length) (hr:r∈bothK a b b.length):crs p q r=0:=by
 unfold polysB at h
 rcases Bool.or_eq_true_iff.1 h with h|h<;>obtain ⟨i,hi,e⟩:=oneB_t h
 ·have h0: ∀x,x∈bothK a b b.length→edg a i x=0:=fun x hx=>by
   have h1:=both_high a b (edl a i) (fun p hp=>by
    obtain ⟨k,hk,rfl⟩:=mem_at hp
    rw [edl_v];exact ha.left i k hi hk) b.length x hx
   have h2:=hb.cone (edl a i) 0 (fun k hk=>by rw [edl_v];exact e _ (at_mem hk)) (x:=x) fun j hj=>both_edge a b b.length j x hj hx
   rw [edl_v] at h1 h2
   grind
  exact crs_line (ha.ne hi) (h0 p hp) (h0 q hq) (h0 r hr)
 ·have h0: ∀x,x∈bothK a b b.length→edg b i x=0:=fun x hx=>by
   have h1:=both_edge a b b.length i x hi hx
   have h2:=both_low a b (edl b i) (M:=0) (fun p hp=>by rw [edl_v];exact e _ hp) b.length x hx
   rw [edl_v] at h2
   grind
  exact crs_line (hb.ne hi) (h0 p hp) (h0 q hq) (h0 r hr)
def addV (p t:V2):V2:=(p.1+t.1,p.2+t.2)
def shiftV (l:List V2) (t:V2):List V2:=l.map fun p=>addV p t
theorem shift_len (l:List V2) (t:V2):(shiftV l t).length=l.length:=by simp [shiftV]
theorem at_shift {l:List V2} {t:V2} {i:Nat} (h:i<l.length):at_ (shiftV l t) i=addV (at_ l i) t:=by
 unfold at_ shiftV
 rw [List.getD_eq_getElem?_getD,List.getD_eq_getElem?_getD,List.getElem?_map,List.getElem?_eq_getElem h]
 rfl
end Go.Proofs.Wd

namespace Go.Proofs.Wd
def fl (q:Rat):Int:=q.num / (q.den:Int)
def twoP (s:Nat):Rat:=((2^s:Nat):Rat)
def upto (q:Rat) (s:Nat):Rat:=mkRat (fl (q*twoP s)+1) (2^s)
def btw (lo hi:Rat) (s:Nat):Rat:=if hi≤0 then -(upto (-hi) s) else if lo<0 then 0 else upto lo s
end Go.Proofs.Wd

namespace Go.Proofs.Wd
open Lb
theorem num_eq (q:Rat):(q.num:Rat)=q*(q.den:Rat):=by
 have h:=Rat.mkRat_self q
 rw [Rat.mkRat_eq_div] at h
 have hd:(q.den:Rat)≠0:=fun h=>q.den_nz (by exact_mod_cast h)
 grind
theorem QB.ratio {q:Rat} {X D:Int} {m:Nat} (hm:0<m) (h:q*(D:Rat)=(X:Rat)) (hD:D≠0) (hX:Bd X m) (hD':Bd D m):QB q m:=by
  have e0:=num_eq q
  have e1:((q.num*D:Int):Rat)=((X*(q.den:Int):Int):Rat):=by
    rw [Rat.intCast_mul,Rat.intCast_mul,e0, ←h]
    show q*(q.den:Rat)*(D:Rat)=q*(D:Rat)*((q.den:Int):Rat)
    rw [Rat.intCast_natCast]
    grind
  have e2:q.num*D=X*(q.den:Int):=by exact_mod_cast e1
  have e3:q.num.natAbs*D.natAbs=X.natAbs*q.den:=by
    have:=congrArg Int.natAbs e2
    rwa [Int.natAbs_mul,Int.natAbs_mul,Int.natAbs_natCast] at this
  have hc:Nat.Coprime q.den q.num.natAbs:=q.reduced.symm
  have hd:q.den∣D.natAbs:=hc.dvd_of_dvd_mul_left (by rw [e3];exact Nat.dvd_mul_left _ _)
  have hDp:0<D.natAbs:=Int.natAbs_pos.2 hD
  obtain ⟨k,hk⟩:=hd
  have hk0 : 0 < k := by rcases Nat.eq_zero_or_pos k with h|h;· rw [h] at hk;omega
                         · exact h
  refine ⟨?_,Nat.lt_of_le_of_lt ?_ hD'⟩
  · have:q.num.natAbs*k=X.natAbs:=by
      rw [hk, ←Nat.mul_assoc,Nat.mul_comm q.num.natAbs,Nat.mul_assoc,Nat.mul_comm q.den] at e3
      exact Nat.eq_of_mul_eq_mul_right q.den_pos e3
    refine Nat.lt_of_le_of_lt ?_ hX
    rw [←this]
    exact Nat.le_mul_of_pos_right _ hk0
  · rw [hk];exact Nat.le_mul_of_pos_right _ hk0
def PB (p:V2) (m:Nat):Prop:=QB p.1 m∧QB p.2 m
theorem PB.mono {p:V2} {m m':Nat} (h:PB p m) (hm:m≤m'):PB p m':=⟨h.1.mono hm,h.2.mono hm⟩
structure Ln where
 A:Int
 B:Int
 C:Int
def Ln.bd (l:Ln) (m:Nat):Prop:=Bd l.A m∧Bd l.B m∧Bd l.C m
def Ln.on (l:Ln) (p:V2):Prop:=(l.A:Rat)*p.1+(l.B:Rat)*p.2+(l.C:Rat)=0
theorem ln_of {a b:V2} {m:Nat} (ha:PB a m) (hb:PB b m): ∃l:Ln,l.bd (4*m+1)∧ ∃s:Rat,s≠0∧ ∀p:V2,(l.A:Rat)*p.1+(l.B:Rat)*p.2+(l.C:Rat)=s*crs a b p:=by
 refine ⟨⟨-(b.2.num*a.2.den - a.2.num*b.2.den)*(a.1.den*b.1.den),(b.1.num*a.1.den - a.1.num*b.1.den)*(a.2.den*b.2.den),b.2.num*a.1.num*(b.1.den*a.2.den) - b.1.num*a.2.num*(a.1.den*b.2.den)⟩, ?_,(a.1.den:Rat)*b.1.den*(a.2.den*b.2.den), ?_,fun p=> ?_⟩
 ·have d1:=bd_nat ha.1.2;have d2:=bd_nat ha.2.2;have d3:=bd_nat hb.1.2;have d4:=bd_nat hb.2.2
  refine ⟨?_, ?_, ?_⟩
  ·exact (((((hb.2.1.mul d2).add ((ha.2.1.mul d4).neg.mono (by omega))).neg.mul (d1.mul d3)).mono (m':=4*m+1) (by omega)):_)
  ·exact ((((hb.1.1.mul d1).add ((ha.1.1.mul d3).neg.mono (by omega))).mul (d2.mul d4)).mono (by omega))
  ·exact (((hb.2.1.mul ha.1.1).mul (d3.mul d2)).add ((((hb.1.1.mul ha.2.1).mul (d1.mul d4)).neg).mono (by omega))).mono (by omega)
 ·have: ∀q:Rat,(q.den:Rat)≠0:=fun q h=>q.den_nz (by exact_mod_cast h)
  have h1:=this a.1;have h2:=this a.2;have h3:=this b.1;have h4:=this b.2
  intro h
  rcases Rat.mul_eq_zero.1 h with h|h<;>rcases Rat.mul_eq_zero.1 h with h|h<;>contradiction
 ·simp only [Rat.intCast_mul,Rat.intCast_sub,Rat.intCast_neg,Rat.intCast_natCast,num_eq]
  unfold crs
  grind
theorem cross_pt {l l':Ln} {p q:V2} {m:Nat} (hm:0<m) (hl:l.bd m) (hl':l'.bd m) (h1:l.on p) (h2:l.on q) (h3:l'.on p) (hq: ¬l'.on q) (h0:l.A≠0∨l.B≠0):PB p (2*m+1):=by
 unfold Ln.on at*
 have hD:l.A*l'.B - l'.A*l.B≠0:=fun e=>by
  have e':(l.A:Rat)*l'.B - (l'.A:Rat)*l.B=0:=by exact_mod_cast e
  apply hq
  rcases h0 with h0|h0
  ·have h0':(l.A:Rat)≠0:=fun h=>h0 (by exact_mod_cast h)
   have:(l.A:Rat)*((l'.A:Rat)*q.1+(l'.B:Rat)*q.2+(l'.C:Rat))=0:=by grind
   rcases Rat.mul_eq_zero.1 this with h|h
   ·exact absurd h h0'
   ·exact h
  ·have h0':(l.B:Rat)≠0:=fun h=>h0 (by exact_mod_cast h)
   have:(l.B:Rat)*((l'.A:Rat)*q.1+(l'.B:Rat)*q.2+(l'.C:Rat))=0:=by grind
   rcases Rat.mul_eq_zero.1 this with h|h
   ·exact absurd h h0'
   ·exact h
 have bD:Bd (l.A*l'.B - l'.A*l.B) (2*m+1):=((hl.1.mul hl'.2.1).add ((hl'.1.mul hl.2.1).neg.mono (by omega))).mono (by omega)
 constructor
 ·refine QB.ratio (X:=l.B*l'.C - l'.B*l.C) (by omega) ?_ hD (((hl.2.1.mul hl'.2.2).add ((hl'.2.1.mul hl.2.2).neg.mono (by omega))).mono (by omega)) bD
  simp only [Rat.intCast_mul,Rat.intCast_sub]
  grind
 ·refine QB.ratio (X:=l.C*l'.A - l'.C*l.A) (by omega) ?_ hD (((hl.2.2.mul hl'.1).add ((hl'.2.2.mul hl.1).neg.mono (by omega))).mono (by omega)) bD
  simp only [Rat.intCast_mul,Rat.intCast_sub]
  grind
def OnL (m:Nat) (p q:V2):Prop:= ∃a b,PB a m∧PB b m∧a≠b∧crs a b p=0∧crs a b q=0
theorem crs_ne {a b:V2} (h:a≠b) (l:Ln) (s:Rat) (hs:s≠0) (he: ∀p:V2,(l.A:Rat)*p.1+(l.B:Rat)*p.2+(l.C:Rat)=s*crs a b p):l.A≠0∨l.B≠0:=by
 apply Classical.byContradiction
 intro hn
 have hA:l.A=0:=Classical.byContradiction fun h=>hn (.inl h)
 have hB:l.B=0:=Classical.byContradiction fun h=>hn (.inr h)
 have e1:=he a
 have e2:=he (a.1 - (b.2 - a.2),a.2+(b.1 - a.1))
 rw [hA,hB] at e1 e2
 have z1:crs a b a=0:=by unfold crs;grind
 have z2:crs a b (a.1 - (b.2 - a.2),a.2+(b.1 - a.1))=(b.1 - a.1)*(b.1 - a.1)+(b.2 - a.2)*(b.2 - a.2):=by unfold crs;grind
 rw [z1] at e1
 have e3:s*crs a b (a.1 - (b.2 - a.2),a.2+(b.1 - a.1))=0:=by rw [←e2,show ((0:Int):Rat)=0 from rfl];rw [show ((0:Int):Rat)=0 from rfl] at e1;grind
 rcases Rat.mul_eq_zero.1 e3 with e3|e3
 ·exact hs e3
 ·rw [z2] at e3
  have sq: ∀x:Rat,0≤x*x∧(x*x=0→x=0):=fun x=>⟨by
   rcases (Rat.le_total:0≤x∨x≤0) with h|h
   ·exact Rat.mul_nonneg h h
   ·have:=Rat.mul_nonneg (show 0≤-x by grind) (show 0≤-x by grind);grind,fun h=>by rcases Rat.mul_eq_zero.1 h with h|h<;>exact h⟩
  have s1:=sq (b.1 - a.1);have s2:=sq (b.2 - a.2)
  have x1:=s1.2 (by grind)
  have x2:=s2.2 (by grind)
  exact h (Prod.ext (by grind) (by grind))
theorem on_cpt {h:Aff} {a' b' p q:V2} (hc:crosses h p q) (h4:crs a' b' p=0) (h5:crs a' b' q=0):crs a' b' (cpt h p q)=0:=by
 have e:=(cpt_v (lin a' b') h hc).1
 rw [lin_v,lin_v,lin_v,h4,h5] at e
 rw [e];grind
theorem onL_cpt {h:Aff} {m:Nat} {p q:V2} (hpq:OnL m p q) (hc:crosses h p q):OnL m p (cpt h p q)∧OnL m (cpt h p q) q:=by
 obtain ⟨a',b',h1,h2,h3,h4,h5⟩:=hpq
 have:=on_cpt hc h4 h5
 exact ⟨⟨a',b',h1,h2,h3,h4,this⟩,⟨a',b',h1,h2,h3,this,h5⟩⟩
theorem onL_cuts {m:Nat} {a b:V2} (ha:PB a m) (hb:PB b m) (hab:a≠b):Cuts (lin a b) (OnL m) (fun _ _=>True) where
 out p q hpq h1 h2:=⟨onL_cpt hpq (.inl ⟨h1,h2⟩)|>.1,trivial⟩
 inn p q hpq h1 h2:=⟨trivial,onL_cpt hpq (.inr ⟨h1,h2⟩)|>.2⟩
 low _ _ _ _ _:=trivial
 back p q _ h1 h2:=⟨a,b,ha,hb,hab,by rw [←lin_v];exact h1,by rw [←lin_v];exact h2⟩
 trans _ _ _ _ _ _ _ _:=trivial
theorem cut_pb {m:Nat} (hm:0<m) {a b:V2} (ha:PB a m) (hb:PB b m) {p q:V2} (hpq:OnL m p q) (hc:crosses (lin a b) p q):PB (cpt (lin a b) p q) (8*m+3):=by
 obtain ⟨a',b',h1,h2,h3,h4,h5⟩:=hpq
 obtain ⟨l,hl,s,hs,he⟩:=ln_of h1 h2
 obtain ⟨l',hl',s',hs',he'⟩:=ln_of ha hb
 have h6:crs a' b' (cpt (lin a b) p q)=0:=by
  exact on_cpt hc h4 h5
 have h7:crs a b (cpt (lin a b) p q)=0:=by rw [←lin_v];exact cpt_h _ hc
 have:=cross_pt (l:=l) (l':=l') (p:=cpt (lin a b) p q) (q:=p) (by omega) hl hl' (by unfold Ln.on;rw [he,h6];grind) (by unfold Ln.on;rw [he,h4];grind) (by unfold Ln.on;rw [he',h7];grind) (fun h=>by
  unfold Ln.on at h
  rw [he'] at h
  rcases Rat.mul_eq_zero.1 h with h|h
  ·exact hs' h
  ·rw [←lin_v] at h
   unfold crosses at hc
   grind) (crs_ne h3 l s hs he)
 exact this.mono (by omega)
theorem both_pb {m:Nat} (hm:0<m) {a b:List V2} (ha:Conv a) (hb:Conv b) (pa: ∀p,p∈a→PB p m) (pb: ∀p,p∈b→PB p m): ∀k,k≤b.length→(Ring (OnL m) (bothK a b k)∨bothK a b k= [])∧ ∀p,p∈bothK a b k→PB p (8*m+3)
 |0,_=>by
  have h3:=ha.three
  have r:Ring (OnL m) a:=ring_of (by omega) fun i hi=>⟨_,_,pa _ (at_mem hi),pa _ (at_nx hi),ha.ne hi,by unfold crs;grind,by unfold crs;grind⟩
  exact ⟨.inl r,fun p hp=>(pa p hp).mono (by omega)⟩
 | k+1,hk=>by
  obtain ⟨ih,ip⟩:=both_pb hm ha hb pa pb k (by omega)
  have hkb:k<b.length:=by omega
  have C:=onL_cuts (pb _ (at_mem hkb)) (pb _ (at_nx hkb)) (hb.ne hkb)
  show (Ring (OnL m) (cutL (edl b k) (bothK a b k))∨cutL (edl b k) (bothK a b k)= [])∧ ∀p,p∈cutL (edl b k) (bothK a b k)→_
  rcases ih with ih|ih
  ·refine ⟨(cut_ring C ih).imp id fun h=>h.1,fun p hp=> ?_⟩
   rcases cut_pts hp with ⟨h,_⟩|⟨i,hi,hc,rfl⟩
   ·exact ip p h
   ·exact cut_pb hm (pb _ (at_mem hkb)) (pb _ (at_nx hkb)) (ring_step ih hi) hc
  ·rw [ih]
   exact ⟨.inr rfl,fun p hp=>by simp [cutL] at hp⟩
end Go.Proofs.Wd

namespace Go.Proofs.Wd
structure SRing (z:V2) (l:List V2):Prop where
 nd:l.Nodup
 ring:Ring (Sees z) l
 strict: ∀i,i<l.length→ ∀r,r∈l→r≠at_ l i→r≠at_ l ((i+1) % l.length)→0<crs (at_ l i) (at_ l ((i+1) % l.length)) r
theorem at_inj {l:List V2} (h:l.Nodup) {i j:Nat} (hi:i<l.length) (hj:j<l.length) (e:at_ l i=at_ l j):i=j:=by
 unfold at_ at e
 rw [List.getD_eq_getElem?_getD,List.getD_eq_getElem?_getD,List.getElem?_eq_getElem hi,List.getElem?_eq_getElem hj] at e
 exact (List.getElem_inj h).1 e
theorem crs_p (p q:V2):crs p q p=0:=by unfold crs;grind
theorem crs_q (p q:V2):crs p q q=0:=by unfold crs;grind
section
variable {z:V2} {l:List V2} (S:SRing z l) (h:Aff)
include S
theorem SRing.left {i:Nat} (hi:i<l.length) {r:V2} (hr:r∈l):0≤crs (at_ l i) (at_ l ((i+1) % l.length)) r:=by
 by_cases e1:r=at_ l i
 ·rw [e1,crs_p];exact Rat.le_refl
 by_cases e2:r=at_ l ((i+1) % l.length)
 ·rw [e2,crs_q];exact Rat.le_refl
 exact Rat.le_of_lt (S.strict i hi r hr e1 e2)
theorem SRing.one {i j:Nat} (hi:i<l.length) (hj:j<l.length) (h1:crs (at_ l i) (at_ l ((i+1) % l.length)) (at_ l j)=0) (h2:crs (at_ l i) (at_ l ((i+1) % l.length)) (at_ l ((j+1) % l.length))=0):j=i:=by
 have h3:=ring_three S.ring
 have hni:=Nat.mod_lt (i+1) (show 0<l.length by omega)
 have hnj:=Nat.mod_lt (j+1) (show 0<l.length by omega)
 have c1:j=i∨j=(i+1) % l.length:=by
  apply Classical.byContradiction
  intro hn
  have:=S.strict i hi _ (at_mem hj) (fun e=>hn (.inl (at_inj S.nd hj hi e))) (fun e=>hn (.inr (at_inj S.nd hj hni e)))
  grind
 have c2:(j+1) % l.length=i∨(j+1) % l.length=(i+1) % l.length:=by
  apply Classical.byContradiction
  intro hn
  have:=S.strict i hi _ (at_mem hnj) (fun e=>hn (.inl (at_inj S.nd hnj hi e))) (fun e=>hn (.inr (at_inj S.nd hnj hni e)))
  grind
 rcases c1 with c1|c1
 ·exact c1
 ·exfalso
  have mi:(i+1) % l.length=if i+1=l.length then 0 else i+1:=by
   split
   ·rename_i e;rw [e];exact Nat.mod_self _
   ·exact Nat.mod_eq_of_lt (by omega)
  have mj:(j+1) % l.length=if j+1=l.length then 0 else j+1:=by
   split
   ·rename_i e;rw [e];exact Nat.mod_self _
   ·exact Nat.mod_eq_of_lt (by omega)
  rw [mi] at c1 c2
  rw [mj] at c2
  split at c1<;>split at c2<;>omega
theorem SRing.cpt_left {i j:Nat} (hi:i<l.length) (hj:j<l.length) (hc:crosses h (at_ l j) (at_ l ((j+1) % l.length))) (hne:j≠i):0<crs (at_ l i) (at_ l ((i+1) % l.length)) (cpt h (at_ l j) (at_ l ((j+1) % l.length))):=by
 obtain ⟨e,h1,h2⟩:=cpt_v (lin (at_ l i) (at_ l ((i+1) % l.length))) h hc
 rw [lin_v,lin_v,lin_v] at e
 rw [e]
 have a1:=S.left hi (at_mem hj)
 have a2:=S.left hi (at_nx hj)
 have k1:=Rat.mul_nonneg a1 (show 0≤1 - h.v (at_ l j) / (h.v (at_ l j) - h.v (at_ l ((j+1) % l.length))) by grind)
 have k2:=Rat.mul_nonneg a2 (Rat.le_of_lt h1)
 by_cases z1:crs (at_ l i) (at_ l ((i+1) % l.length)) (at_ l j)=0
 ·by_cases z2:crs (at_ l i) (at_ l ((i+1) % l.length)) (at_ l ((j+1) % l.length))=0
  ·exact absurd (S.one hi hj z1 z2) hne
  ·have:=Rat.mul_pos (show 0<crs (at_ l i) (at_ l ((i+1) % l.length)) (at_ l ((j+1) % l.length)) by grind) h1
   grind
 ·have:=Rat.mul_pos (show 0<crs (at_ l i) (at_ l ((i+1) % l.length)) (at_ l j) by grind) (show 0<1 - h.v (at_ l j) / (h.v (at_ l j) - h.v (at_ l ((j+1) % l.length))) by grind)
  grind
theorem SRing.out_left {i:Nat} (hi:i<l.length) {r:V2} (hr:r∈cutL h l):r=at_ l i∨r=at_ l ((i+1) % l.length)∨(crosses h (at_ l i) (at_ l ((i+1) % l.length))∧r=cpt h (at_ l i) (at_ l ((i+1) % l.length)))∨0<crs (at_ l i) (at_ l ((i+1) % l.length)) r:=by
 rcases cut_pts hr with ⟨hr,_⟩|⟨j,hj,hc,rfl⟩
 ·by_cases e1:r=at_ l i
  ·exact .inl e1
  by_cases e2:r=at_ l ((i+1) % l.length)
  ·exact .inr (.inl e2)
  exact .inr (.inr (.inr (S.strict i hi r hr e1 e2)))
 ·by_cases e:j=i
  ·subst e;exact .inr (.inr (.inl ⟨hc,rfl⟩))
  ·exact .inr (.inr (.inr (S.cpt_left h hi hj hc e)))
theorem SRing.three_on (hz:0<h.v z) {x y w:V2} (hx:x∈cutL h l) (hy:y∈cutL h l) (hw:w∈cutL h l) (ex:h.v x=0) (ey:h.v y=0) (ew:h.v w=0) (n1:x≠y) (n2:x≠w) (n3:y≠w):False:=by
 -- of points on the line the one between the others
 have mid: ∀{m u v:V2},m∈cutL h l→u∈cutL h l→v∈cutL h l→h.v m=0→h.v u=0→h.v v=0→u≠m→v≠m→u≠v→(∃s t:Rat,0<s∧0<t∧(∀f:Aff,f.v m=0→s*f.v u+t*f.v v=0))→False:=by
  intro m u v hm hu hv em eu ev d1 d2 d3 ⟨s,t,hs,ht,hst⟩
  rcases cut_pts hm with ⟨hm',_⟩|⟨j,hj,hc,rfl⟩
  ·obtain ⟨i,hi,e⟩:=mem_at hm'
   have hz0:=hst (lin (at_ l i) (at_ l ((i+1) % l.length))) (by rw [lin_v, ←e,crs_p])
   rw [lin_v,lin_v] at hz0
   have noc: ¬crosses h (at_ l i) (at_ l ((i+1) % l.length)):=by rw [e];unfold crosses;grind
   have cu:=S.out_left h hi hu
   have cv:=S.out_left h hi hv
   rw [e] at cu cv hz0
   have fu:u=at_ l ((i+1) % l.length)∨0<crs m (at_ l ((i+1) % l.length)) u:=by
    rcases cu with c|c|c|c
    ·exact absurd c d1
    ·exact .inl c
    ·rw [e] at noc;exact absurd c.1 noc
    ·exact .inr c
   have fv:v=at_ l ((i+1) % l.length)∨0<crs m (at_ l ((i+1) % l.length)) v:=by
    rcases cv with c|c|c|c
    ·exact absurd c d2
    ·exact .inl c
    ·rw [e] at noc;exact absurd c.1 noc
    ·exact .inr c
   rcases fu with fu|fu<;>rcases fv with fv|fv
   ·exact d3 (fu.trans fv.symm)
   ·rw [fu,crs_q] at hz0
    have:=Rat.mul_pos ht fv
    grind
   ·rw [fv,crs_q] at hz0
    have:=Rat.mul_pos hs fu
    grind
   ·have:=Rat.mul_pos hs fu
    have:=Rat.mul_pos ht fv
    grind
  ·have e0:=(cpt_v (lin (at_ l j) (at_ l ((j+1) % l.length))) h hc).1
   rw [lin_v,lin_v,lin_v,crs_p,crs_q] at e0
   have hz0:=hst (lin (at_ l j) (at_ l ((j+1) % l.length))) (by rw [lin_v,e0];grind)
   rw [lin_v,lin_v] at hz0
   have off: ∀{u:V2},u∈cutL h l→h.v u=0→u≠cpt h (at_ l j) (at_ l ((j+1) % l.length))→0<crs (at_ l j) (at_ l ((j+1) % l.length)) u:=by
    intro u hu eu d
    rcases S.out_left h hj hu with c|c|c|c
    ·rw [c] at eu;unfold crosses at hc;grind
    ·rw [c] at eu;unfold crosses at hc;grind
    ·exact absurd c.2 d
    ·exact c
   have:=Rat.mul_pos hs (off hu eu d1)
   have:=Rat.mul_pos ht (off hv ev d2)
   grind
 -- coordinates along the line
 have hab:h.a≠0∨h.b≠0:=by
  by_cases e:h.a=0
  ·by_cases e':h.b=0
   ·exfalso;unfold Aff.v at hz ex;rw [e,e'] at hz ex;grind
   ·exact .inr e'
  ·exact .inl e
 have co: ∃c:V2→Rat,(∀u v:V2,h.v u=0→h.v v=0→c u=c v→u=v)∧ ∀m u v:V2,h.v m=0→h.v u=0→h.v v=0→ ∀f:Aff,f.v m=0→(c v - c m)*f.v u+(c m - c u)*f.v v=0:=by
  rcases hab with ha|hb
  ·refine ⟨fun p=>p.2,fun u v hu hv e=>Prod.ext ?_ e,fun m u v hm hu hv f hf=> ?_⟩
   ·unfold Aff.v at hu hv
    have:h.a*(u.1 - v.1)=0:=by grind
    rcases Rat.mul_eq_zero.1 this with e'|e'
    ·exact absurd e' ha
    ·grind
   ·unfold Aff.v at*
    have:h.a*((v.2 - m.2)*(f.a*u.1+f.b*u.2+f.c)+(m.2 - u.2)*(f.a*v.1+f.b*v.2+f.c))=0:=by grind
    rcases Rat.mul_eq_zero.1 this with e'|e'
    ·exact absurd e' ha
    ·exact e'
  ·refine ⟨fun p=>p.1,fun u v hu hv e=>Prod.ext e ?_,fun m u v hm hu hv f hf=> ?_⟩
   ·unfold Aff.v at hu hv
    have:h.b*(u.2 - v.2)=0:=by grind
    rcases Rat.mul_eq_zero.1 this with e'|e'
    ·exact absurd e' hb
    ·grind
   ·unfold Aff.v at*
    have:h.b*((v.1 - m.1)*(f.a*u.1+f.b*u.2+f.c)+(m.1 - u.1)*(f.a*v.1+f.b*v.2+f.c))=0:=by grind
    rcases Rat.mul_eq_zero.1 this with e'|e'
    ·exact absurd e' hb
    ·exact e'
 obtain ⟨c,inj,bal⟩:=co
 have btw: ∀{m u v:V2},m∈cutL h l→u∈cutL h l→v∈cutL h l→h.v m=0→h.v u=0→h.v v=0→c u<c m→c m<c v→False:=by
  intro m u v hm hu hv em eu ev h1 h2
  refine mid hm hu hv em eu ev (fun e=>by subst e;grind) (fun e=>by subst e;grind) (fun e=>by subst e;grind) ⟨c v - c m,c m - c u,by grind,by grind,fun f hf=>bal m u v em eu ev f hf⟩
 have c1:c x≠c y:=fun e=>n1 (inj _ _ ex ey e)
 have c2:c x≠c w:=fun e=>n2 (inj _ _ ex ew e)
 have c3:c y≠c w:=fun e=>n3 (inj _ _ ey ew e)
 rcases (by grind:c x<c y∨c y<c x) with g1|g1<;>rcases (by grind:c y<c w∨c w<c y) with g2|g2<;>rcases (by grind:c x<c w∨c w<c x) with g3|g3
 ·exact btw hy hx hw ey ex ew g1 g2
 ·grind
 ·exact btw hw hx hy ew ex ey g3 g2
 ·exact btw hx hw hy ex ew ey g3 g1
 ·exact btw hx hy hw ex ey ew g1 g3
 ·exact btw hw hy hx ew ey ex g2 g3
 ·grind
 ·exact btw hy hw hx ey ew ex g2 g1
end
theorem line_id {h:Aff} {y x r z:V2} (h1:h.v y=0) (h2:h.v x=0):crs y x r*h.v z=crs y x z*h.v r:=by unfold crs Aff.v at*;grind
theorem nodup_flat {f:Nat→List V2}: ∀(L:List Nat),L.Nodup→(∀i,i∈L→(f i).Nodup)→(∀i j,i∈L→j∈L→i≠j→ ∀x,x∈f i→x ∉ f j)→(L.flatMap f).Nodup
 | [],_,_,_=>by simp
 |i::L,hn,h1,h2=>by
  rw [List.flatMap_cons,List.nodup_append]
  rw [List.nodup_cons] at hn
  refine ⟨h1 i (by simp),nodup_flat L hn.2 (fun j hj=>h1 j (by simp [hj])) (fun j k hj hk=>h2 j k (by simp [hj]) (by simp [hk])),fun x hx y hy e=> ?_⟩
  subst e
  obtain ⟨j,hj,hy⟩:=List.mem_flatMap.1 hy
  exact h2 i j (by simp) (by simp [hj]) (fun e=>hn.1 (e▸hj)) x hx hy
theorem two_of_three {L:List V2} (hn:L.Nodup) (h: ∀x y w,x∈L→y∈L→w∈L→x≠y→x≠w→y≠w→False):L.length≤2:=by
 match L,hn with
 | [],_=>simp
 | [_],_=>simp
 | [_,_],_=>simp
 |x::y::w::t,hn=>
  simp only [List.nodup_cons,List.mem_cons,not_or] at hn
  exact (h x y w (by simp) (by simp) (by simp) hn.1.1 hn.1.2.1 hn.2.1.1).elim
theorem count_flat (h:Aff) (g:Nat→V2×V2): ∀(L:List Nat),(L.flatMap fun i=>piece h (g i).1 (g i).2).length≤(L.filter fun i=>decide (0≤h.v (g i).1)).length+((L.flatMap fun i=>piece h (g i).1 (g i).2).filter fun x=>decide (h.v x=0)).length
 | []=>by simp
 | i::L=>by
  have ih:=count_flat h g L
  rw [List.flatMap_cons,List.length_append,List.filter_append,List.length_append,List.filter_cons]
  have:(piece h (g i).1 (g i).2).length≤(if 0≤h.v (g i).1 then 1 else 0)+((piece h (g i).1 (g i).2).filter fun x=>decide (h.v x=0)).length:=by
   unfold piece
   by_cases h1:0≤h.v (g i).1
   ·rw [if_pos h1,if_pos h1]
    by_cases h2:crosses h (g i).1 (g i).2
    ·rw [if_pos h2,List.filter_append]
     have:([cpt h (g i).1 (g i).2].filter fun x=>decide (h.v x=0))= [cpt h (g i).1 (g i).2]:=by rw [List.filter_cons,if_pos (by rw [cpt_h h h2];simp)];rfl
     rw [this]
     simp only [List.length_append,List.length_cons,List.length_nil]
     omega
    ·rw [if_neg h2];simp
   ·rw [if_neg h1,if_neg h1]
    by_cases h2:crosses h (g i).1 (g i).2
    ·rw [if_pos h2]
     have:([cpt h (g i).1 (g i).2].filter fun x=>decide (h.v x=0))= [cpt h (g i).1 (g i).2]:=by rw [List.filter_cons,if_pos (by rw [cpt_h h h2];simp)];rfl
     rw [List.nil_append,this]
     simp
    ·rw [if_neg h2];simp
  by_cases h1:0≤h.v (g i).1
  ·rw [if_pos h1] at this
   rw [if_pos (by simpa using h1),List.length_cons]
   omega
  ·rw [if_neg h1] at this
   rw [if_neg (by simpa using h1)]
   omega
theorem SRing.cut {z:V2} {l:List V2} (S:SRing z l) (h:Aff) (hz:0<h.v z):SRing z (cutL h l)∧(cutL h l).length≤l.length+1:=by
 have hnd:(cutL h l).Nodup:=by
  refine nodup_flat _ List.nodup_range (fun i hi=> ?_) fun i j hi hj hne x hx hy=> ?_
  ·have hi:=List.mem_range.1 hi
   unfold piece
   split<;>split
   ·rename_i h1 h2
    simp only [List.cons_append,List.nil_append,List.nodup_cons,List.mem_cons,List.not_mem_nil,or_false,not_false_eq_true,List.nodup_nil,and_true,and_self]
    intro e
    have e0:=cpt_h h h2
    rw [←e] at e0
    unfold crosses at h2
    grind
   ·simp
   ·simp
   ·simp
  ·have hi:=List.mem_range.1 hi
   have hj:=List.mem_range.1 hj
   -- a corner that is kept is no crossing of another step
   have kc: ∀{i j:Nat},i<l.length→j<l.length→j≠i→crosses h (at_ l j) (at_ l ((j+1) % l.length))→at_ l i≠cpt h (at_ l j) (at_ l ((j+1) % l.length)):=by
    intro i j hi hj hne hc e
    have:=S.cpt_left h hi hj hc hne
    rw [←e,crs_p] at this
    grind
   unfold piece at hx hy
   have cx:x=at_ l i∨(crosses h (at_ l i) (at_ l ((i+1) % l.length))∧x=cpt h (at_ l i) (at_ l ((i+1) % l.length))):=by
    rcases List.mem_append.1 hx with hx|hx<;>split at hx<;>simp at hx
    ·exact .inl hx
    ·rename_i hc;exact .inr ⟨hc,hx⟩
   have cy:x=at_ l j∨(crosses h (at_ l j) (at_ l ((j+1) % l.length))∧x=cpt h (at_ l j) (at_ l ((j+1) % l.length))):=by
    rcases List.mem_append.1 hy with hy|hy<;>split at hy<;>simp at hy
    ·exact .inl hy
    ·rename_i hc;exact .inr ⟨hc,hy⟩
   rcases cx with cx|⟨c1,cx⟩<;>rcases cy with cy|⟨c2,cy⟩
   ·exact hne (at_inj S.nd hi hj (cx.symm.trans cy))
   ·exact kc hi hj (fun e=>hne e.symm) c2 (cx.symm.trans cy)
   ·exact kc hj hi hne c1 (cy.symm.trans cx)
   ·have:=S.cpt_left h hi hj c2 (fun e=>hne e.symm)
    rw [←cy,cx] at this
    have e:=(cpt_v (lin (at_ l i) (at_ l ((i+1) % l.length))) h c1).1
    rw [lin_v,lin_v,lin_v,crs_p,crs_q] at e
    rw [e] at this
    grind
 let R:V2→V2→Prop:=fun p q=>Sees z p q∧ ∀r,r∈cutL h l→r≠p→r≠q→(0<crs p q r∨(crosses h p q∧r=cpt h p q)∨(h.v p=0∧h.v q=0∧h.v r=0))
 have C:Cuts h R (Sees z):={
  out:=fun p q hpq h1 h2=>by
   have hc:crosses h p q:= .inl ⟨h1,h2⟩
   obtain ⟨s1,s2⟩:=sees_cpt hpq.1 hc
   refine ⟨⟨s1,fun r hr n1 n2=> ?_⟩,s2⟩
   have hq:r≠q:=fun e=>by have:=cut_at hr;rw [e] at this;grind
   rcases hpq.2 r hr n1 hq with g|⟨_,g⟩|⟨g,_⟩
   ·left
    rw [(crs_cpt h).1]
    exact Rat.mul_pos g (cpt_v h h hc).2.1
   ·exact absurd g n2
   ·grind
  inn:=fun p q hpq h1 h2=>by
   have hc:crosses h p q:= .inr ⟨h1,h2⟩
   obtain ⟨s1,s2⟩:=sees_cpt hpq.1 hc
   refine ⟨s1,s2,fun r hr n1 n2=> ?_⟩
   have hp:r≠p:=fun e=>by have:=cut_at hr;rw [e] at this;grind
   rcases hpq.2 r hr hp n2 with g|⟨_,g⟩|⟨g,_⟩
   ·left
    rw [(crs_cpt h).2]
    exact Rat.mul_pos g (by have:=(cpt_v h h hc).2.2;grind)
   ·exact absurd g n1
   ·grind
  low:=fun p q hpq _ _=>hpq.1
  back:=fun y x hyx h1 h2=>⟨hyx,fun r hr n1 n2=>by
   by_cases e:h.v r=0
   ·exact .inr (.inr ⟨h1,h2,e⟩)
   ·left
    have hr0:=cut_at hr
    have e1:crs y x r*h.v z=crs y x z*h.v r:=line_id h1 h2
    have:=Rat.mul_pos hyx (show 0<h.v r by grind)
    exact pos_of_mul hz (by rw [e1];exact this)⟩
  trans:=fun p q r h1 h2 h3 h4 h5=>sees_trans h hz p q r h1 h2 h3 h4 h5 }
 have h3:=ring_three S.ring
 have hR:Ring R l:=ring_of (by omega) fun i hi=>⟨ring_step S.ring hi,fun r hr n1 n2=>by
  rcases S.out_left h hi hr with g|g|g|g
  ·exact absurd g n1
  ·exact absurd g n2
  ·exact .inr (.inl g)
  ·exact .inl g⟩
 have hR':Ring R (cutL h l):=by
  rcases cut_ring C hR with g|⟨_,p,_,_,g⟩
  ·exact g
  ·exact absurd g (sees_self z p)
 have three:=fun {x y w:V2}=>S.three_on h hz (x:=x) (y:=y) (w:=w)
 refine ⟨⟨hnd,cut_sees h hz S.ring,fun i hi r hr n1 n2=> ?_⟩, ?_⟩
 ·obtain ⟨s1,s2⟩:=ring_step hR' hi
  rcases s2 r hr n1 n2 with g|⟨g,_⟩|⟨g1,g2,g3⟩
  ·exact g
  ·exfalso
   have a1:=cut_at (at_mem hi)
   have a2:=cut_at (at_nx hi)
   unfold crosses at g
   grind
  ·exact (three (at_mem hi) (at_nx hi) hr g1 g2 g3 (fun e=>by rw [←e] at s1;exact sees_self z _ s1) (fun e=>n1 e.symm) (fun e=>n2 e.symm)).elim
 ·have hc:=count_flat h (fun i=>(at_ l i,at_ l ((i+1) % l.length))) (List.range l.length)
  have h2:((cutL h l).filter fun x=>decide (h.v x=0)).length≤2:=two_of_three (hnd.filter _) fun x y w hx hy hw n1 n2 n3=>by
   simp only [List.mem_filter,decide_eq_true_eq] at hx hy hw
   exact three hx.1 hy.1 hw.1 hx.2 hy.2 hw.2 n1 n2 n3
  have hl:(cutL h l).length≤((List.range l.length).filter fun i=>decide (0≤h.v (at_ l i))).length+((cutL h l).filter fun x=>decide (h.v x=0)).length:=hc
  by_cases all: ∀i,i<l.length→0≤h.v (at_ l i)
  ·-- nothing is cut off
   have:cutL h l=(List.range l.length).map (at_ l):=by
    unfold cutL
    have gen: ∀L:List Nat,(∀i,i∈L→i<l.length)→(L.flatMap fun i=>piece h (at_ l i) (at_ l ((i+1) % l.length)))=L.map (at_ l):=by
     intro L
     induction L with
     |nil=>intro _;rfl
     | cons i L ih=>
      intro hL
      have hi:=hL i (by simp)
      rw [List.flatMap_cons,List.map_cons,ih fun j hj=>hL j (by simp [hj])]
      unfold piece
      rw [if_pos (all i hi),if_neg (by
       have a1:=all i hi
       have a2:=all _ (Nat.mod_lt (i+1) (by omega:0<l.length))
       unfold crosses;grind)]
      rfl
    exact gen _ fun i hi=>List.mem_range.1 hi
   rw [this]
   simp
  ·obtain ⟨j,hj,hn⟩: ∃j,j<l.length∧ ¬0≤h.v (at_ l j):=by
    apply Classical.byContradiction
    intro hh
    exact all fun i hi=>Classical.byContradiction fun g=>hh ⟨i,hi,g⟩
   have hlt:((List.range l.length).filter fun i=>decide (0≤h.v (at_ l i))).length<(List.range l.length).length:=by
    refine Nat.lt_of_le_of_ne (List.length_filter_le _ _) fun e=> ?_
    have:=List.length_filter_eq_length_iff.1 e j (List.mem_range.2 hj)
    exact hn (by simpa using this)
   rw [List.length_range] at hlt
   omega
theorem both_srin {a b:List V2} {z:V2} (ha:SRing z a) (hb:Inside b z): ∀k,k≤b.length→SRing z (bothK a b k)∧(bothK a b k).length≤a.length+k
 |0,_=>⟨ha,Nat.le_refl _⟩
 |k+1,hk=>by
  obtain ⟨h1,h2⟩:=both_srin ha hb k (by omega)
  obtain ⟨h3,h4⟩:=h1.cut (edl b k) (by rw [edl_v];exact hb k (by omega))
  exact ⟨h3,by show (cutL _ _).length≤_;omega⟩
theorem Conv.srin {a:List V2} (h:Conv a) {z:V2} (hz:Inside a z):SRing z a where
 nd:=by
  unfold List.Nodup
  rw [List.pairwise_iff_getElem]
  intro i j hi hj hij e
  have e':at_ a i=at_ a j:=by unfold at_;rw [List.getD_eq_getElem?_getD,List.getD_eq_getElem?_getD,List.getElem?_eq_getElem hi,List.getElem?_eq_getElem hj,e]
  have h3:=h.three
  -- a corner that is there twice lies on an edge of its own
  have s1:=h.strict i j hi hj (by omega)
  have s2:=h.strict j i hj hi (by omega)
  have z1:edg a i (at_ a j)=0:=by unfold edg;rw [←e',crs_p]
  have z2:edg a j (at_ a i)=0:=by unfold edg;rw [e',crs_p]
  have e1:j=(i+1) % a.length:=Classical.byContradiction fun hn=>by have:=s1 hn;grind
  have e2:i=(j+1) % a.length:=Classical.byContradiction fun hn=>by have:=s2 hn;grind
  have:=h.ne hi
  rw [←e1] at this
  exact this e'
 ring:=ring_of (by have:=h.three;omega) hz
 strict i hi r hr n1 n2:=by
  obtain ⟨k,hk,rfl⟩:=mem_at hr
  exact h.strict i k hi hk (fun e=>n1 (by rw [e])) (fun e=>n2 (by rw [e]))
theorem both_few {a b:List V2} (ha:Conv a) (hb:Conv b) (h:polysB a b=false):(bothK a b b.length).length≤a.length+b.length:=by
 obtain ⟨z,h1,h2⟩:=sat ha hb h
 exact (both_srin (ha.srin h1) h2 b.length (Nat.le_refl _)).2
end Go.Proofs.Wd
