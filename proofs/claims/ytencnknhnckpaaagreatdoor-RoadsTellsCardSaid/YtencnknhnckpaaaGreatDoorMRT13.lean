/- prod.Mul; The walk of num.mul; The walk of sint.Mul; Integers as value and what it needs. -/
import Derived.Test.YtencnknhnckpaaaGreatDoorMRT11
import Derived.Laws.EntriesVeiled
abbrev nX:=@List.getD_eq_getElem?_getD
abbrev nY:=@List.mem_singleton
abbrev nZ:=@Nat.div_le_self
abbrev pA:=@List.take_length
abbrev pB:=@List.map_append
abbrev pC:=@Nat.not_lt_zero
abbrev pD:=@Int.natAbs_natCast
abbrev pE:=@decide_eq_decide
abbrev pF:=@Bool.eq_iff_iff
abbrev pG:=@List.append_nil
abbrev pH:=@Int.natAbs_mul
abbrev pI:=@List.foldl_append
abbrev pJ:=@Rat.mkRat_zero
abbrev pK:=@List.replicate_succ
abbrev pL:=@Prod.mk.injEq
abbrev pM:=@List.getElem?_set_ne
theorem sG{P:Sort _}{Q:P->Prop}(h:∀e,Q e:=by intro e;cases e):∀e,Q e:=h
namespace Go.Proofs.Wd
open Tryz
variable {v:Value}{ks l lab ss:List Int}{b k x:Int}{N a i j m m' n s s':Nat}{W:WB}{A:WF Addr}{c c' f p q:Rat}{js:List (Int×Int)}{cs fs:List Rat}{r:Nat×Rat}{X:List Nat}
set_option maxRecDepth 100000
set_option maxHeartbeats 2000000
open Go.RowKit Lb
attribute [local go_sem] Oper.semAt_some qD yA
theorem zLJ(A:WF Addr)(n c:Nat)(l:List Nat)(A':WF Addr)(n' c':Nat)(l':List Nat)(w:WB)(h:Rd w A n c l)(h':Rd w A' n' c' l')(ht:Lt l)(ht':Lt l')(hn:n<=40000)(hn':n'<=40000):
  Calls prog 77 #[.slice A n c,.slice A' n' c'] w (jH w (val l*val l')):=by
 have hmix:prog.follows .mixedOrders=true:=rZ
 obtain⟨W0,hW0⟩:∃W0,w.alloc (Obj.cells #[zBP w.heap.size] 101)=W0:=⟨_,rfl⟩
 have bA:Below w.heap.size w W0:=hW0▸(xF _ w).alloc (vR _) _
 have cA:W0.cell? ⟨w.heap.size,0,none⟩=some (zBP w.heap.size):=by
  rw[<-hW0]
  rw[World.cell?_alloc_new]
  rfl
 unfold zBP at hW0
 have hcl:∀W,Below W0.heap.size W0 W->W.cell? ⟨w.heap.size,0,none⟩=some (zBP w.heap.size):=fun W hb=>(hb.cell (p:=⟨w.heap.size,0,none⟩) (zU cA)).trans cA
 obtain⟨mb,hmb⟩:∃mb,w.heap.size=mb:=⟨_,rfl⟩
 go_enter func77,ntmps77
 go_wp2
 rw[hmb]at cA hcl hW0
 erw[hW0]
 refine(bJ (n:=0)).1<|zZ 100 (fun W=>W.cell? ⟨mb,0,none⟩=some (.func (.func 93) #[] #[pO mb 0])) hmix ?_
 have b0:Below W0.heap.size W0 W0.drew:=(xF _ W0).drew
 have c0:=hcl _ b0
 unfold zBP at c0
 refine zQ (i:=0) (v:=?vv1) kA kA rfl kA kA kA (fun _ _ _ h=>h) c0 ⟨.inl ⟨rfl,?yy1⟩,fun _=>rfl⟩ ?_
 case yy1=>
  rintro wx q1
  go_simp
  first|done|rfl
 refine zQ (i:=1) (v:=?vv2) kA kA rfl kA kA kA (fun _ _ _ h=>h) c0 ⟨.inl ⟨rfl,?yy2⟩,fun _=>rfl⟩ ?_
 case yy2=>
  rintro wx q1
  go_simp
  first|done|rfl
 refine zQ (i:=3) (v:=?vv3) kA kA rfl kA kA kA (fun _ _ _ h=>h) c0 ⟨.inl ⟨rfl,?yy3⟩,fun _=>rfl⟩ ?_
 case yy3=>
  rintro wx q1
  go_simp
  first|done|rfl
 have bw0:Below w.heap.size w W0.drew:=bA.drew
 have i1:=qT A n c l W0.drew (h.below bw0) ht oA
 refine zAq (i:=2) kA rfl (fun K hK=>?_)
 go_simp
 refine bC (bB.2 i1) ?_
 rintro e W1 ⟨A1,n1,c1,l1,rfl,hi1,hr1,hb1⟩
 have b1:=b0.trans (hb1.mono b0.size)
 have c1':=hcl _ b1
 unfold zBP at c1'
 refine hK _ _ (.inr c1') ?_
 clear hK K i1
 have bw1:=bw0.trans (hb1.mono bw0.size)
 have i2:=qT A' n' c' l' W1 (h'.below bw1) ht' oA
 refine zAq (i:=4) kA rfl (fun K hK=>?_)
 go_simp
 refine bC (bB.2 i2) ?_
 rintro e W2 ⟨A2,n2,c2,l2,rfl,hi2,hr2,hb2⟩
 have b2:=b1.trans (hb2.mono b1.size)
 have c2':=hcl _ b2
 have c2'':=c2'
 unfold zBP at c2'
 refine hK _ _ (.inr c2') ?_
 clear hK K i2
 have bw2:=bw1.trans (hb2.mono bw1.size)
 have hn1:n1<=40000:=by
  rw[<-hr1.len]
  exact xQ (hi1.len (k:=n) (by have:=qO ht;rwa [h.len]at this)) hn
 have hn2:n2<=40000:=by
  rw[<-hr2.len]
  exact xQ (hi2.len (k:=n') (by have:=qO ht';rwa [h'.len]at this)) hn'
 have i3:=zOa 40000 oA mb A1 n1 c1 l1 A2 n2 c2 l2 W2 (hr1.below hb2) hr2 hi1.lt hi2.lt hn1 hn2 c2''
 rw[hi1.val,hi2.val]at i3
 refine zAq (i:=5) kA rfl (fun K hK=>?_)
 go_simp
 refine bC (bB.2 i3) ?_
 rintro e W3 ⟨A3,n3,c3,l3,rfl,hi3,hr3,hb3⟩
 have b3:=b2.trans (hb3.mono b2.size)
 have c3':=hcl _ b3
 unfold zBP at c3'
 refine hK _ _ (.inr c3') ?_
 clear hK K i3
 refine zAq (i:=6) kA rfl (fun K hK=>?_)
 go_simp
 refine hK _ _ (.inr c3') ?_
 clear hK K
 refine zCd kA ?_
 have bw3:=bw2.trans (hb3.mono bw2.size)
 go_wp2
 all_goals
  go_ret
  exact⟨A3,n3,c3,l3,rfl,hi3,hr3,bw3⟩
attribute [local go_sem] Oper.semAt_some qD yA
theorem zPP{v v':Int}{l:List Nat}(h:val l=v.natAbs*v'.natAbs):iv (!(decide (v<0)==decide (v'<0))) l=v*v':=by
 unfold iv
 rw[h]
 rcases Int.lt_or_le v 0 with I|I<;>rcases Int.lt_or_le v' 0 with J|J
 all_goals simp only[I,J,decide_true,decide_false,Int.not_lt.2 I,Int.not_lt.2 J,fZ,eT,Bool.not_false,xI,cH,xK,nB,show(true==false)=false from rfl,show(false==true)=false from rfl]
 all_goals first|rw[Int.ofNat_natAbs_of_nonneg I]|rw[Int.ofNat_natAbs_of_nonpos (Int.le_of_lt I)]
 all_goals first|rw[Int.ofNat_natAbs_of_nonneg J]|rw[Int.ofNat_natAbs_of_nonpos (Int.le_of_lt J)]
 all_goals simp[Int.neg_mul,Int.mul_neg]
theorem zQw(B B':Nat)(v v':Int)(k:Nat)(w:WB)(h:zAp w B v)(h':zAp w B' v')(hv:v.natAbs<BB^k)(hv':v'.natAbs<BB^k)(hk:k<=40000):
  Calls prog 74 #[pO B 0,pO B' 0] w fun e w'=>(∃u,e=.returned u)/\zAp w' B (v*v')/\w.grownBy w' (some B):=by
 obtain⟨A,n,c,l,hb,hi,hr⟩:=h
 obtain⟨A',n',c',l',hb',hi',hr'⟩:=h'
 have hn:n<=k:=by rw[<-hr.len];exact hi.len hv
 have hn':n'<=k:=by rw[<-hr'.len];exact hi'.len hv'
 have hmix:prog.follows .mixedOrders=true:=rZ
 have cf:∀W,Below w.heap.size w W->(W.cell? ⟨B,0,none⟩=some (.bool (decide (v<0)))/\W.cell? ⟨B,1,none⟩=some (.slice A n c))/\W.cell? ⟨B',0,none⟩=some (.bool (decide (v'<0)))/\W.cell? ⟨B',1,none⟩=some (.slice A' n' c'):=fun W hb1=>⟨(hb.kept hb1).facts2.1,(hb'.kept hb1).facts2.1⟩
 go_enter func74,ntmps74
 go_wp2
 refine(bJ (n:=0)).1<|zZ 31 (fun _=>True) hmix<|zQ (i:=1) (v:=?vv1) kA kA rfl kA kA kA (fun _ _ _ h=>h) trivial ⟨.inl ⟨rfl,?yy1⟩,fun _=>rfl⟩ ?_
 case yy1=>
  rintro wx _
  go_simp
  first|done|rfl
 refine zGE (k:=24) (fun _=>false) (fun iz vz Wz=>match iz with
  |0=>vz= pO B 0
  |1=>vz= pO B 0
  |2=>vz= pO B 0
  |3=>vz= pO B 0
  |4=>vz= pO B 0
  |5=>vz= pO B 0
  |6=>vz=.bool (decide (v<0))
  |7=>vz= pO B' 0
  |8=>vz= pO B' 0
  |9=>vz= pO B' 0
  |10=>vz= pO B' 0
  |11=>vz=.bool (decide (v'<0))
  |12=>vz=.bool (!(decide (v<0)==decide (v'<0)))
  |13=>vz= pO B 0
  |14=>vz= pO B 0
  |15=>vz= pO B 0
  |16=>vz= pO B 1
  |17=>vz=.slice A n c
  |18=>vz= pO B' 0
  |19=>vz= pO B' 0
  |20=>vz= pO B' 0
  |21=>vz= pO B' 1
  |22=>vz=.slice A' n' c'
  |23=>jB Wz vz (v.natAbs*v'.natAbs)
  |_=>True) (fun W=>Below w.heap.size w W) kA kA kA kA kA kA kA kA kA (fun _ _ h hb=>h.trans (hb.mono h.size)) ?stab ((xF _ w).drew) ?spec ?fin
 case stab=>
  intro iz vz Wz Wy h hb
  split at h<;>first|exact h|exact jB.below h hb|trivial
 case spec=>
  refine yG ?_ ?h23
  refine yG ?_ ?h22
  refine yG ?_ ?h21
  refine yG ?_ ?h20
  refine yG ?_ ?h19
  refine yG ?_ ?h18
  refine yG ?_ ?h17
  refine yG ?_ ?h16
  refine yG ?_ ?h15
  refine yG ?_ ?h14
  refine yG ?_ ?h13
  refine yG ?_ ?h12
  refine yG ?_ ?h11
  refine yG ?_ ?h10
  refine yG ?_ ?h9
  refine yG ?_ ?h8
  refine yG ?_ ?h7
  refine yG ?_ ?h6
  refine yG ?_ ?h5
  refine yG ?_ ?h4
  refine yG ?_ ?h3
  refine yG ?_ ?h2
  refine yG ?_ ?h1
  refine yG ?_ ?h0
  exact fun i h _=>absurd h (pC i)
  case h0=>
   intro _ o hi b5 W5 hf K hK
   cases hi
   have k0:b5.tmps[0]?.getD undef= (pO B 0):=(xS ..).symm.trans ((hf.at_.keep 0 kA).trans kA)
   refine bK rfl (fun K' hK'=>?_)
   go_simp
   exact hK' _ _ (hK _ _ rfl (xF _ _) sG)
  case h1=>
   intro h
   exact absurd h rY
  case h2=>
   intro _ o hi b5 W5 hf K hK
   cases hi
   have k0:b5.tmps[0]?.getD undef= (pO B 0):=(xS ..).symm.trans ((hf.at_.keep 0 kA).trans kA)
   refine bK rfl (fun K' hK'=>?_)
   go_simp
   exact hK' _ _ (hK _ _ rfl (xF _ _) sG)
  case h3=>
   intro _ o hi b5 W5 hf K hK
   cases hi
   have k6:b5.tmps[6]?.getD undef= (pO B 0):=(xS ..).symm.trans (hf.at_.vals 2 _ 6 ⟨rY,⟨2,.data⟩,eN,rZ,rfl⟩ rfl rfl)
   refine bK rfl (fun K' hK'=>?_)
   go_simp
   exact hK' _ _ (hK _ _ rfl (xF _ _) sG)
  case h4=>
   intro _ o hi b5 W5 hf K hK
   cases hi
   have k7:b5.tmps[7]?.getD undef= (pO B 0):=(xS ..).symm.trans (hf.at_.vals 3 _ 7 ⟨rY,⟨3,.data⟩,eN,rZ,rfl⟩ rfl rfl)
   refine bK rfl (fun K' hK'=>?_)
   go_simp
   exact hK' _ _ (hK _ _ rfl (xF _ _) sG)
  case h5=>
   intro _ o hi b5 W5 hf K hK
   cases hi
   have k8:b5.tmps[8]?.getD undef= (pO B 0):=(xS ..).symm.trans (hf.at_.vals 4 _ 8 ⟨rY,⟨4,.data⟩,eN,rZ,rfl⟩ rfl rfl)
   refine bK rfl (fun K' hK'=>?_)
   go_simp
   exact hK' _ _ (hK _ _ rfl (xF _ _) sG)
  case h6=>
   intro _ o hi b5 W5 hf K hK
   cases hi
   have k9:b5.tmps[9]?.getD undef= (pO B 0):=(xS ..).symm.trans (hf.at_.vals 5 _ 9 ⟨rY,⟨5,.data⟩,eN,rZ,rfl⟩ rfl rfl)
   obtain⟨⟨q1,q2⟩,q3,q4⟩:=cf W5 hf.at_.cls
   refine bK rfl (fun K' hK'=>?_)
   go_simp
   exact hK' _ _ (hK _ _ rfl (xF _ _) sG)
  case h7=>
   intro _ o hi b5 W5 hf K hK
   cases hi
   have k1:b5.tmps[1]?.getD undef= (pO B' 0):=(xS ..).symm.trans ((hf.at_.keep 1 kA).trans kA)
   refine bK rfl (fun K' hK'=>?_)
   go_simp
   exact hK' _ _ (hK _ _ rfl (xF _ _) sG)
  case h8=>
   intro _ o hi b5 W5 hf K hK
   cases hi
   have k11:b5.tmps[11]?.getD undef= (pO B' 0):=(xS ..).symm.trans (hf.at_.vals 7 _ 11 ⟨rY,⟨7,.data⟩,eN,rZ,rfl⟩ rfl rfl)
   refine bK rfl (fun K' hK'=>?_)
   go_simp
   exact hK' _ _ (hK _ _ rfl (xF _ _) sG)
  case h9=>
   intro _ o hi b5 W5 hf K hK
   cases hi
   have k12:b5.tmps[12]?.getD undef= (pO B' 0):=(xS ..).symm.trans (hf.at_.vals 8 _ 12 ⟨rY,⟨8,.data⟩,eN,rZ,rfl⟩ rfl rfl)
   refine bK rfl (fun K' hK'=>?_)
   go_simp
   exact hK' _ _ (hK _ _ rfl (xF _ _) sG)
  case h10=>
   intro _ o hi b5 W5 hf K hK
   cases hi
   have k13:b5.tmps[13]?.getD undef= (pO B' 0):=(xS ..).symm.trans (hf.at_.vals 9 _ 13 ⟨rY,⟨9,.data⟩,eN,rZ,rfl⟩ rfl rfl)
   refine bK rfl (fun K' hK'=>?_)
   go_simp
   exact hK' _ _ (hK _ _ rfl (xF _ _) sG)
  case h11=>
   intro _ o hi b5 W5 hf K hK
   cases hi
   have k14:b5.tmps[14]?.getD undef= (pO B' 0):=(xS ..).symm.trans (hf.at_.vals 10 _ 14 ⟨rY,⟨10,.data⟩,eN,rZ,rfl⟩ rfl rfl)
   obtain⟨⟨q1,q2⟩,q3,q4⟩:=cf W5 hf.at_.cls
   refine bK rfl (fun K' hK'=>?_)
   go_simp
   exact hK' _ _ (hK _ _ rfl (xF _ _) sG)
  case h12=>
   intro _ o hi b5 W5 hf K hK
   cases hi
   have k10:b5.tmps[10]?.getD undef=.bool (decide (v<0)):=(xS ..).symm.trans (hf.at_.vals 6 _ 10 ⟨rY,⟨6,.data⟩,eN,rZ,rfl⟩ rfl rfl)
   have k15:b5.tmps[15]?.getD undef=.bool (decide (v'<0)):=(xS ..).symm.trans (hf.at_.vals 11 _ 15 ⟨rY,⟨11,.data⟩,eN,rZ,rfl⟩ rfl rfl)
   refine bK rfl (fun K' hK'=>?_)
   go_simp
   exact hK' _ _ (hK _ _ rfl (xF _ _) sG)
  case h13=>
   intro _ o hi b5 W5 hf K hK
   cases hi
   have k0:b5.tmps[0]?.getD undef= (pO B 0):=(xS ..).symm.trans ((hf.at_.keep 0 kA).trans kA)
   refine bK rfl (fun K' hK'=>?_)
   go_simp
   exact hK' _ _ (hK _ _ rfl (xF _ _) sG)
  case h14=>
   intro _ o hi b5 W5 hf K hK
   cases hi
   have k17:b5.tmps[17]?.getD undef= (pO B 0):=(xS ..).symm.trans (hf.at_.vals 13 _ 17 ⟨rY,⟨13,.data⟩,eN,rZ,rfl⟩ rfl rfl)
   refine bK rfl (fun K' hK'=>?_)
   go_simp
   exact hK' _ _ (hK _ _ rfl (xF _ _) sG)
  case h15=>
   intro _ o hi b5 W5 hf K hK
   cases hi
   have k18:b5.tmps[18]?.getD undef= (pO B 0):=(xS ..).symm.trans (hf.at_.vals 14 _ 18 ⟨rY,⟨14,.data⟩,eN,rZ,rfl⟩ rfl rfl)
   refine bK rfl (fun K' hK'=>?_)
   go_simp
   exact hK' _ _ (hK _ _ rfl (xF _ _) sG)
  case h16=>
   intro _ o hi b5 W5 hf K hK
   cases hi
   have k19:b5.tmps[19]?.getD undef= (pO B 0):=(xS ..).symm.trans (hf.at_.vals 15 _ 19 ⟨rY,⟨15,.data⟩,eN,rZ,rfl⟩ rfl rfl)
   refine bK rfl (fun K' hK'=>?_)
   go_simp
   exact hK' _ _ (hK _ _ rfl (xF _ _) sG)
  case h17=>
   intro _ o hi b5 W5 hf K hK
   cases hi
   have k20:b5.tmps[20]?.getD undef= (pO B 1):=(xS ..).symm.trans (hf.at_.vals 16 _ 20 ⟨rY,⟨16,.data⟩,eN,rZ,rfl⟩ rfl rfl)
   obtain⟨⟨q1,q2⟩,q3,q4⟩:=cf W5 hf.at_.cls
   refine bK rfl (fun K' hK'=>?_)
   go_simp
   exact hK' _ _ (hK _ _ rfl (xF _ _) sG)
  case h18=>
   intro _ o hi b5 W5 hf K hK
   cases hi
   have k1:b5.tmps[1]?.getD undef= (pO B' 0):=(xS ..).symm.trans ((hf.at_.keep 1 kA).trans kA)
   refine bK rfl (fun K' hK'=>?_)
   go_simp
   exact hK' _ _ (hK _ _ rfl (xF _ _) sG)
  case h19=>
   intro _ o hi b5 W5 hf K hK
   cases hi
   have k22:b5.tmps[22]?.getD undef= (pO B' 0):=(xS ..).symm.trans (hf.at_.vals 18 _ 22 ⟨rY,⟨18,.data⟩,eN,rZ,rfl⟩ rfl rfl)
   refine bK rfl (fun K' hK'=>?_)
   go_simp
   exact hK' _ _ (hK _ _ rfl (xF _ _) sG)
  case h20=>
   intro _ o hi b5 W5 hf K hK
   cases hi
   have k23:b5.tmps[23]?.getD undef= (pO B' 0):=(xS ..).symm.trans (hf.at_.vals 19 _ 23 ⟨rY,⟨19,.data⟩,eN,rZ,rfl⟩ rfl rfl)
   refine bK rfl (fun K' hK'=>?_)
   go_simp
   exact hK' _ _ (hK _ _ rfl (xF _ _) sG)
  case h21=>
   intro _ o hi b5 W5 hf K hK
   cases hi
   have k24:b5.tmps[24]?.getD undef= (pO B' 0):=(xS ..).symm.trans (hf.at_.vals 20 _ 24 ⟨rY,⟨20,.data⟩,eN,rZ,rfl⟩ rfl rfl)
   refine bK rfl (fun K' hK'=>?_)
   go_simp
   exact hK' _ _ (hK _ _ rfl (xF _ _) sG)
  case h22=>
   intro _ o hi b5 W5 hf K hK
   cases hi
   have k25:b5.tmps[25]?.getD undef= (pO B' 1):=(xS ..).symm.trans (hf.at_.vals 21 _ 25 ⟨rY,⟨21,.data⟩,eN,rZ,rfl⟩ rfl rfl)
   obtain⟨⟨q1,q2⟩,q3,q4⟩:=cf W5 hf.at_.cls
   refine bK rfl (fun K' hK'=>?_)
   go_simp
   exact hK' _ _ (hK _ _ rfl (xF _ _) sG)
  case h23=>
   intro _ o hi b5 W5 hf K hK
   cases hi
   have k21:b5.tmps[21]?.getD undef=.slice A n c:=(xS ..).symm.trans (hf.at_.vals 17 _ 21 ⟨rY,⟨17,.data⟩,eN,rZ,rfl⟩ rfl rfl)
   have k26:b5.tmps[26]?.getD undef=.slice A' n' c':=(xS ..).symm.trans (hf.at_.vals 22 _ 26 ⟨rY,⟨22,.data⟩,eN,rZ,rfl⟩ rfl rfl)
   refine bK rfl (fun K' hK'=>?_)
   go_simp
   have hm:=zLJ A n c l A' n' c' l' W5 (hr.below hf.at_.cls) (hr'.below hf.at_.cls) hi.lt hi'.lt oA oA
   rw[hi.val,hi'.val]at hm
   refine bC (bB.2 hm) ?_
   rintro e W' ⟨A7,n7,c7,l7,rfl,hi7,hr7,hb7⟩
   exact hK' _ _ (hK _ _ ⟨A7,n7,c7,l7,rfl,hi7,hr7⟩ hb7 sG)
 case fin=>
  intro b5 W5 hf
  have e4:b5.tmps.getD 4 undef= (pO B 0):=hf.at_.vals 0 _ 4 ⟨rY,rY⟩ rfl rfl
  have e6:b5.tmps.getD 6 undef= (pO B 0):=hf.at_.vals 2 _ 6 ⟨rY,rY⟩ rfl rfl
  have e7:b5.tmps.getD 7 undef= (pO B 0):=hf.at_.vals 3 _ 7 ⟨rY,rY⟩ rfl rfl
  have e8:b5.tmps.getD 8 undef= (pO B 0):=hf.at_.vals 4 _ 8 ⟨rY,rY⟩ rfl rfl
  have e9:b5.tmps.getD 9 undef= (pO B 0):=hf.at_.vals 5 _ 9 ⟨rY,rY⟩ rfl rfl
  have e10:b5.tmps.getD 10 undef=.bool (decide (v<0)):=hf.at_.vals 6 _ 10 ⟨rY,rY⟩ rfl rfl
  have e11:b5.tmps.getD 11 undef= (pO B' 0):=hf.at_.vals 7 _ 11 ⟨rY,rY⟩ rfl rfl
  have e12:b5.tmps.getD 12 undef= (pO B' 0):=hf.at_.vals 8 _ 12 ⟨rY,rY⟩ rfl rfl
  have e13:b5.tmps.getD 13 undef= (pO B' 0):=hf.at_.vals 9 _ 13 ⟨rY,rY⟩ rfl rfl
  have e14:b5.tmps.getD 14 undef= (pO B' 0):=hf.at_.vals 10 _ 14 ⟨rY,rY⟩ rfl rfl
  have e15:b5.tmps.getD 15 undef=.bool (decide (v'<0)):=hf.at_.vals 11 _ 15 ⟨rY,rY⟩ rfl rfl
  have e16:b5.tmps.getD 16 undef=.bool (!(decide (v<0)==decide (v'<0))):=hf.at_.vals 12 _ 16 ⟨rY,rY⟩ rfl rfl
  have e17:b5.tmps.getD 17 undef= (pO B 0):=hf.at_.vals 13 _ 17 ⟨rY,rY⟩ rfl rfl
  have e18:b5.tmps.getD 18 undef= (pO B 0):=hf.at_.vals 14 _ 18 ⟨rY,rY⟩ rfl rfl
  have e19:b5.tmps.getD 19 undef= (pO B 0):=hf.at_.vals 15 _ 19 ⟨rY,rY⟩ rfl rfl
  have e20:b5.tmps.getD 20 undef= (pO B 1):=hf.at_.vals 16 _ 20 ⟨rY,rY⟩ rfl rfl
  have e21:b5.tmps.getD 21 undef=.slice A n c:=hf.at_.vals 17 _ 21 ⟨rY,rY⟩ rfl rfl
  have e22:b5.tmps.getD 22 undef= (pO B' 0):=hf.at_.vals 18 _ 22 ⟨rY,rY⟩ rfl rfl
  have e23:b5.tmps.getD 23 undef= (pO B' 0):=hf.at_.vals 19 _ 23 ⟨rY,rY⟩ rfl rfl
  have e24:b5.tmps.getD 24 undef= (pO B' 0):=hf.at_.vals 20 _ 24 ⟨rY,rY⟩ rfl rfl
  have e25:b5.tmps.getD 25 undef= (pO B' 1):=hf.at_.vals 21 _ 25 ⟨rY,rY⟩ rfl rfl
  have e26:b5.tmps.getD 26 undef=.slice A' n' c':=hf.at_.vals 22 _ 26 ⟨rY,rY⟩ rfl rfl
  have v27:=hf.at_.vals 23 _ 27 ⟨rY,rY⟩ rfl rfl
  have hE:=zJF [4,6,7,8,9,10,11,12,13,14,15,16,17,18,19,20,21,22,23,24,25,26,27,28,29,30,31,32,33] hf.at_.size (fun t ht5=>hf.at_.keep t (zQy (by rw[show zMo _ _=[4,6,7,8,9,10,11,12,13,14,15,16,17,18,19,20,21,22,23,24,25,26,27,28,29,30,31,32,33]from rZ];exact ht5)))
  have hcl5:=hf.at_.cls
  obtain⟨tm,df⟩:=b5
  obtain rfl:df=_:=hf.at_.defers
  clear hf
  simp only[cL,List.foldl_nil]at hE
  rw[show tm.getD 4 undef=_ from e4]at hE;clear e4
  rw[show tm.getD 6 undef=_ from e6]at hE;clear e6
  rw[show tm.getD 7 undef=_ from e7]at hE;clear e7
  rw[show tm.getD 8 undef=_ from e8]at hE;clear e8
  rw[show tm.getD 9 undef=_ from e9]at hE;clear e9
  rw[show tm.getD 10 undef=_ from e10]at hE;clear e10
  rw[show tm.getD 11 undef=_ from e11]at hE;clear e11
  rw[show tm.getD 12 undef=_ from e12]at hE;clear e12
  rw[show tm.getD 13 undef=_ from e13]at hE;clear e13
  rw[show tm.getD 14 undef=_ from e14]at hE;clear e14
  rw[show tm.getD 15 undef=_ from e15]at hE;clear e15
  rw[show tm.getD 16 undef=_ from e16]at hE;clear e16
  rw[show tm.getD 17 undef=_ from e17]at hE;clear e17
  rw[show tm.getD 18 undef=_ from e18]at hE;clear e18
  rw[show tm.getD 19 undef=_ from e19]at hE;clear e19
  rw[show tm.getD 20 undef=_ from e20]at hE;clear e20
  rw[show tm.getD 21 undef=_ from e21]at hE;clear e21
  rw[show tm.getD 22 undef=_ from e22]at hE;clear e22
  rw[show tm.getD 23 undef=_ from e23]at hE;clear e23
  rw[show tm.getD 24 undef=_ from e24]at hE;clear e24
  rw[show tm.getD 25 undef=_ from e25]at hE;clear e25
  rw[show tm.getD 26 undef=_ from e26]at hE;clear e26
  obtain⟨x27,hx27⟩:∃x,tm.getD 27 undef=x:=⟨_,rfl⟩;rw[hx27]at hE;rw[show tm.getD 27 undef=_ from hx27]at v27;clear hx27
  obtain⟨u28,hu28⟩:∃x,tm.getD 28 undef=x:=⟨_,rfl⟩;rw[hu28]at hE;clear hu28
  obtain⟨u29,hu29⟩:∃x,tm.getD 29 undef=x:=⟨_,rfl⟩;rw[hu29]at hE;clear hu29
  obtain⟨u30,hu30⟩:∃x,tm.getD 30 undef=x:=⟨_,rfl⟩;rw[hu30]at hE;clear hu30
  obtain⟨u31,hu31⟩:∃x,tm.getD 31 undef=x:=⟨_,rfl⟩;rw[hu31]at hE;clear hu31
  obtain⟨u32,hu32⟩:∃x,tm.getD 32 undef=x:=⟨_,rfl⟩;rw[hu32]at hE;clear hu32
  obtain⟨u33,hu33⟩:∃x,tm.getD 33 undef=x:=⟨_,rfl⟩;rw[hu33]at hE;clear hu33
  rewrite [hE]
  clear hE
  obtain⟨A2,n2,c2,l2,rfl,hi2,hr2⟩:=v27
  have hb3:=hb.kept hcl5
  obtain⟨⟨m0,m1⟩,m2,m3⟩:=hb3.facts2
  go_simp
  refine zAq (i:=24) kA rfl (fun K hK=>?_)
  go_simp
  refine hK _ _ (.inr trivial) ?_
  clear hK K
  refine zAq (i:=25) kA rfl (fun K hK=>?_)
  go_simp
  refine hK _ _ (.inr trivial) ?_
  clear hK K
  refine zAq (i:=26) kA rfl (fun K hK=>?_)
  go_simp
  refine hK _ _ (.inr trivial) ?_
  clear hK K
  refine zAq (i:=27) kA rfl (fun K hK=>?_)
  go_simp
  refine hK _ _ (.inr trivial) ?_
  clear hK K
  have hb4:=hb3.set 0 (.bool (!(decide (v<0)==decide (v'<0))))
  obtain⟨⟨m0,m1⟩,m2,m3⟩:=hb4.facts2
  refine zAq (i:=28) kA rfl (fun K hK=>?_)
  go_simp
  refine hK _ _ (.inr trivial) ?_
  clear hK K
  refine zAq (i:=29) kA rfl (fun K hK=>?_)
  go_simp
  refine hK _ _ (.inr trivial) ?_
  clear hK K
  refine zAq (i:=30) kA rfl (fun K hK=>?_)
  go_simp
  refine hK _ _ (.inr trivial) ?_
  clear hK K
  refine zAq (i:=31) kA rfl (fun K hK=>?_)
  go_simp
  refine hK _ _ (.inr trivial) ?_
  clear hK K
  refine zCd kA ?_
  have hv2:iv (!(decide (v<0)==decide (v'<0))) l2=v*v':=zPP hi2.val
  have hn2:n2<=80000:=by rw[<-hr2.len];exact xQ (hi2.len (k:=k+k) (by rw[uA];exact nL hv (mI hv') (uN qA))) oA
  go_wp2_with (go_at_call 90;refine(zDh B _ A2 n2 c2 l2 _ (hb4.set 1 _) ((hr2.setN hb3 (i:=0) rfl (fun _=>eN) _).setN hb4 (i:=1) rfl (fun _=>eN) _) hi2.lt oA).mono ?_;rintro e w4 ⟨rfl,hn4,hg4⟩)
  refine bodyPost_end (results_none rfl _ _ _) rfl<|⟨⟨_,rfl⟩,?_,?_⟩
  .rw[hv2]at hn4;exact hn4
  .exact((zBW hcl5).but (some B)).trans ((y6 W5 ⟨B,0,none⟩ _).trans ((y6 _ ⟨B,1,none⟩ _).trans hg4))
attribute [local go_sem] Oper.semAt_some qD yA
theorem zRS(w:WB):Calls prog 51 #[.int .i64 1] w fun e w'=>∃A n c l,e=.returned (.agg #[.bool false,.slice A n c])/\Is l 1/\Rd w' A n c l/\n<=1/\Below w.heap.size w w':=
 (zIT 1 oA oA w).mono fun e w' ⟨A,n,c,l,O,h,I,J⟩=>⟨A,n,c,l,O,h,I,by rw[<-I.len];exact h.len (k:=1) rY,J⟩
def zSu(w:WB)(B0 P:Nat)(is:List (Bool×List Nat))(k:Nat)(W:WB):Prop:=
 zAp W B0 (zBV is k)/\Boxed W P 112 (pO B0 0)/\jC W w.heap.size 30 #[.bool false,.slice none 0 0]/\Below w.heap.size w W/\P+2<=W.heap.size
theorem zGY(w:WB)(B0 P:Nat)(is:List (Bool×List Nat)){C:Nat}(hC:w.heap.size<=C):OwnFrom C (zSu w B0 P is):=by
 rintro k W W' row ⟨h1,J,h3,O,h5⟩ h I
 exact⟨h1.abide h I,qL J h I,h3.abide h I,zAi O h (vR _) hC I,xQ h5 h.size⟩
theorem zNi(A:WF Addr)(n c:Nat)(is:List (Bool×List Nat))(M:Nat)(w:WB)(h:IRd w A n is)(hn:n<=c)(hc:c<=9223372036854775807)(hM:M<=40000)(hv:∀k,(zDH is k).natAbs<BB^M)(hp:∀k,k<=n->(zBV is k).natAbs<BB^M)(hnn:n<=1000000:=by first|omega|decide):
  Calls prog 54 #[.slice A n c] w (qN w (zBV is n)):=by
 refine jD func54 rfl ?_
 simp only[ntmps54,bN,fN,lM,Nat.reduceAdd,Nat.reduceSub,lN,lO,lP,lQ,fS,lR]
 go_wp2_with (first|(go_at_call 51;refine(zRS _).mono ?_;rintro e w1 ⟨A1,n1,c1,l1,rfl,hi1,hr1,hn1,hb1⟩)|(go_at_call 72;refine(zEF false A1 n1 c1 l1 _ hr1 hi1.lt oA).mono ?_;rintro e w2 ⟨B0,rfl,hB0,hn0,hb0⟩)|(go_at_call 73;refine(zMF A n c _).mono ?_;rintro e w3 ⟨rfl,rfl⟩))
 have hiv0:iv false l1=1:=by unfold iv;rw[hi1.val];rfl
 rw[hiv0]at hn0
 obtain⟨W0,hW0⟩:∃W0,((w2.alloc (.cells #[pO B0 0] 112)).alloc (.cells #[.slice A n c] 100))=W0:=⟨_,rfl⟩
 have hsz:W0.heap.size=w2.heap.size+2:=by rw[<-hW0];simp
 have hB0l:=hn0.lt
 have hbw1:Below w.heap.size w w1:=((xF _ w).alloc (vR _) _).trans (hb1.mono eN)
 have hsz1:w.heap.size<w1.heap.size:=vW eN hb1.size
 have hB0g:w.heap.size<B0:=vW hsz1 hB0
 have hbw2:Below w.heap.size w w2:=hbw1.trans (hb0.mono hbw1.size)
 have hB1:Below w.heap.size w W0:=by rw[<-hW0];exact(hbw2.alloc hbw2.size _).alloc (by simp;exact Nat.le_succ_of_le hbw2.size) _
 have x0:zAp W0 B0 1:=by rw[<-hW0];exact hn0.kept (((xF _ w2).alloc (vR _) _).alloc eN _)
 have x1:Boxed W0 w2.heap.size 112 (pO B0 0):=by rw[<-hW0];exact(bX w2 _ _).alloc _
 have x2:Boxed W0 (w2.heap.size+1) 100 (.slice A n c):=by rw[<-hW0];exact zAX _ _ _ eN
 have x3:jC W0 w.heap.size 30 #[.bool false,.slice none 0 0]:=by rw[<-hW0];exact(((res2 hb1 rfl).kept hb0).alloc _).alloc _
 rw[hW0]
 clear hW0
 have hSb:∀b,(b<w.heap.size∨b=w2.heap.size+1)->b<W0.heap.size:=fun b hb=>by have:=hbw2.size;omega
 refine zCe (gf:=91) rfl (enters_of func91 kA rfl) (zHS A n c is (w2.heap.size+1) w W0 h hB1 hn hc x2.cell (S:=fun b=>b<w.heap.size∨b=w2.heap.size+1) hSb (.inr rfl) (fun b hb=>.inl hb)) ?hE ?hps zFt.trans (zIs hSb)
  (zSu w B0 w2.heap.size is) (zGY w B0 _ is hB1.size) (zCb (zGY w B0 _ is (vR _))) wR (fun _ _ _ _ _ _ _ _=>trivial) ⟨x0,x1,x3,hB1,mP hsz.symm⟩
  (fun _ xs=>{ tmps:=#[.slice A n c,undef,pO w.heap.size 0,pO w2.heap.size 0,xs.getD 0 undef,.agg #[.bool false,.slice A1 n1 c1],pO B0 0,.slice A n c,.func (.func 91) #[] #[.pointer (some ⟨w2.heap.size+1,0,none⟩)],xs.getD 0 undef,undef,undef,undef,undef,undef,undef,undef],defers:=[] }) ?assign ?body ?done
 case hE=>
  rintro k xs W l o o' ⟨B,rfl,h1,h2⟩ ho hc
  exact⟨B,rfl,h1,h2.abide (C:=0) (eQ W l o') (fun r e=>by cases e;exact⟨vS _,o,ho,hc⟩)⟩
 case hps=>
  rintro k xs W ⟨B,rfl,_⟩
  rfl
 case assign=>
  rintro lp k xs W K ⟨B,rfl,h1,h2⟩ hK
  gi_wp2
  exact hK
 case body=>
  rintro lp k xs W hk ⟨h1,h2,h3,h4,h5⟩ ⟨B,rfl,hB,hnb⟩
  have hc2:=h2.cell
  have hne:B≠B0:=oA
  have hkm:k<=1000000:=oA
  have hbd:=hp k (mI hk)
  have hbd2:=hv k
  gi_wp2_with (gi_at_call 74;refine bC (bB.2 (zQw B0 B _ _ M W h1 hnb hbd hbd2 hM)) ?_;rintro e w3 ⟨⟨u,rfl⟩,hn3,hg3⟩)
  have hbx:∃vs t,jC W B0 t vs:=by obtain⟨_,_,_,_,g,_⟩:=h1;exact⟨_,_,g⟩
  obtain⟨vs,t,g⟩:=hbx
  refine⟨(eG hg3 (fun j o e ho=>by cases e;rw[show W.heap[B0]?=_ from g]at ho;cases ho;rfl)).from _,⟨(yZ.refl _ _).grown hg3 (fun b hb=>⟨by have:=hSb b hb;omega,fun e=>by cases e;omega⟩),hg3.size⟩,hn3,h2.kept hg3 (fun e=>by cases e;omega),(hg3.block _ h3.lt (fun e=>by cases e;omega)).trans h3,zA6 h4 hg3 h4.size oA,xQ h5 hg3.size⟩
 case done=>
  rintro D W hD ⟨h1,h2,h3,h4,h5⟩ _ hd
  obtain⟨A2,n2,c2,l2,⟨g0,g1⟩,hi2,hr2⟩:=h1.parts
  have hc2:=h2.cell
  obtain⟨⟨q0,q1⟩,q2,q3⟩:=h3.facts2
  go_wp2
  have hb5:=(h3.set 0 (.bool (decide (zBV is n<0)))).set 1 (.slice A2 n2 c2)
  have hM:Marks w.heap.size ((W.setCell ⟨w.heap.size,0,none⟩ (.bool (decide (zBV is n<0)))).setCell ⟨w.heap.size,1,none⟩ (.slice A2 n2 c2)) [mark D] [D]:=((Marks.nil w.heap.size W).more (D:=D) eN (by have:=hB1.size;omega) hd).others ((bP _ _ _).trans (bP _ _ _))
  obtain⟨A3,n3,c3,l3,e3,hi3,hr3,hb3⟩:=zG9 h3 h4 (vR _) hi2 hr2
  cases e3
  refine qF _ (v:=.agg #[.bool (decide (zBV is n<0)),.slice A2 n2 c2]) (fun w' ho'=>?_) [D] _ _ hM (Oth.refl _ _) ?_
  .obtain⟨⟨c0,c1⟩,_,_⟩:=(hb5.oth ho').facts2
   simp[results,results54,go_sem,c0,c1]
  .intro w' ho
   exact⟨A2,n2,c2,l3,rfl,hi3,hr3.oth ho,zAh hb3 ho (vR _)⟩
def Bd(k:Int)(m:Nat):Prop:=k.natAbs<BB^m
theorem Bd.mono(h:Bd k m)(I:m<=m'):Bd k m':=vW h (vZ qA I)
theorem Bd.add{a:Int}(h:Bd a m)(h':Bd b m):Bd (a+b) (m+1):=by
 unfold Bd at*
 rw[vY]
 unfold BB at*
 omega
theorem Bd.neg{a:Int}(h:Bd a m):Bd (-a) m:=by
 unfold Bd at*
 rwa [Int.natAbs_neg]
theorem Bd.sub{a:Int}(h:Bd a m)(I:Bd b m):Bd (a-b) (m+1):=by
 rw[Int.sub_eq_add_neg]
 exact h.add I.neg
theorem Bd.mul{a:Int}(h:Bd a m)(I:Bd b n):Bd (a*b) (m+n):=by
 unfold Bd at*
 rw[pH,uA]
 exact nL h (mI I) (uN qA)
theorem UV.bd(h:UV W m v k):Bd k m:=h.bound
theorem NV.uv'(h:NV W v k){m:Nat}(I:Bd k m):UV W m v k:=h.uv I
def ISV(W:WB)(m:Nat)(v:Value)(ks:List Int):Prop:=∃is:List (Bool×List Nat),IS W m v is/\is.map (fun p=>iv p.1 p.2)=ks
theorem ISV.below{W':WB}(h:ISV W m v ks)(O:Below W.heap.size W W'):ISV W' m v ks:=by
 obtain⟨is,I,J⟩:=h
 exact⟨is,I.below O,J⟩
theorem zOS{s:Bool}{c:Nat}(h:UV W m (.agg #[.bool s,.slice A n c]) k):∃l,Rd W A n c l/\Lt l/\n<=m/\iv s l=k:=by
 obtain⟨s',A',n',c',l,I,h1,J,h3,O⟩:=h
 injection I with I
 injection I with I
 injection I with e1 I
 injection I with e2 _
 injection e1 with e1
 injection e2 with f1 f2 f3
 subst e1;subst f1;subst f2;subst f3
 exact⟨l,h1,J,h3,O⟩
theorem ISV.two{s:Bool}{c:Nat}(h:UV W m (.agg #[.bool s,.slice A n c]) k){s':Bool}{A':WF Addr}{n' c':Nat}{k':Int}(h':UV W m (.agg #[.bool s',.slice A' n' c']) k')(t:TypeId):
  ISV (W.alloc (.cells #[.bool s,.slice A n c,.bool s',.slice A' n' c'] t)) m (.slice (some ⟨W.heap.size,0,none⟩) 2 2) [k,k']:=by
 obtain⟨l,h1,h2,h3,rfl⟩:=zOS h
 obtain⟨l',O,J,I,rfl⟩:=zOS h'
 exact⟨[(s,l),(s',l')],IS.two h1 h2 h3 O J I t,rfl⟩
theorem zE7(is:List (Bool×List Nat)):∀k,k<=is.length->zDu is k=((is.take k).map fun p=>iv p.1 p.2).sum
 |0,_=>rfl
 |k+1,h=>by
  have I:=zE7 is k oA
  show zDu is k+zDH is k=_
  rw[I,fT oA,pB,List.sum_append]
  unfold zDH
  rw[mD oA]
  simp
theorem zDI(is:List (Bool×List Nat)):∀k,k<=is.length->zBV is k=((is.take k).map fun p=>iv p.1 p.2).foldl (·*·) 1
 |0,_=>rfl
 |k+1,h=>by
  have I:=zDI is k oA
  show zBV is k*zDH is k=_
  rw[I,fT oA,pB,pI]
  unfold zDH
  rw[mD oA]
  simp
theorem zGy{m:Nat}{w:WB}{A:WF Addr}{n:Nat}{is:List (Bool×List Nat)}(h:IRdM m w A n is):∀k,Bd (zBV is k) (m*k+1)
 |0=>by
  show(1:Int).natAbs<BB^(0+1)
  decide
 |k+1=>by
  have I:=(zGy h k).mul (show Bd (zDH is k) m from zGw h k)
  show Bd (zBV is k*zDH is k) _
  exact I.mono (by rw[uF];omega)
theorem zT1(h:ISV W m v ks)(hm:m<=100000)(J:ks.length<=1000)(hk:ks.sum=k):Calls prog 76 #[v] W (zGO W k):=by
 obtain⟨is,O,I⟩:=h
 have:=zT2 O hm (by rw[<-I,xT]at J;omega)
 rw[zE7 is is.length (vR _),pA,I,hk]at this
 exact this
theorem zN0(h:ISV W m v ks)(hn:m*ks.length+m+1<=40000)(O:ks.foldl (·*·) 1=k)(hl:ks.length<=1000):Calls prog 54 #[v] W (zGO W k):=by
 obtain⟨is,⟨A,c,rfl,h3,h4,I⟩,J⟩:=h
 have hl2:is.length=ks.length:=by rw[<-J,xT]
 have:=(zNi A is.length c is (m*ks.length+m+1) W (IRdM.mono I oA) h3 h4 hn (fun k=>vW (zGw I k) (vZ qA oA)) (fun k O=>(zGy I k).mono (by
  have:m*k<=m*ks.length:=uR _ oA
  omega))).mono fun _ _=>qN.v
 rw[zDI is is.length (vR _),pA,J,O]at this
 exact this
theorem zHu(n:Int)(d:Nat):(mkRat n d).num.natAbs<=n.natAbs:=by
 rw[Rat.num_mkRat]
 split
 .simp
 .have h:((d.gcd n.natAbs:Nat):Int)∣n:=Int.natAbs_dvd_natAbs.1 (by simpa using gZ d n.natAbs)
  rw[Int.natAbs_ediv_of_dvd h]
  simp only[pD]
  exact nZ _ _
theorem zHv(n:Int)(d:Nat)(h:0<d):(mkRat n d).den<=d:=by
 rw[Rat.den_mkRat,if_neg oA]
 exact nZ _ _
theorem zDi(n:Int)(d:Nat)(h:0<d):(mkRat n d).num.natAbs=n.natAbs/Nat.gcd n.natAbs d:=by
 rw[Rat.num_mkRat,if_neg oA]
 have I:((d.gcd n.natAbs:Nat):Int)∣n:=Int.natAbs_dvd_natAbs.1 (by simpa using gZ d n.natAbs)
 rw[Int.natAbs_ediv_of_dvd I,uQ]
 simp only[pD]
theorem zCo(n:Int)(d:Nat)(h:0<d):(mkRat n d).den=d/Nat.gcd n.natAbs d:=by
 rw[Rat.den_mkRat,if_neg oA,uQ]
theorem zB6(n:Int)(d:Nat)(h:0<d):decide ((mkRat n d).num<0)=decide (n<0):=by
 have I:=@Rat.divInt_nonneg_iff_of_pos_right n d oA
 rw[Rat.divInt_ofNat,<-Rat.num_nonneg]at I
 rw[pE]
 omega
def QB(q:Rat)(m:Nat):Prop:=Bd q.num m/\q.den<BB^m
theorem QB.mono(h:QB q m)(I:m<=m'):QB q m':=⟨h.1.mono I,vW h.2 (vZ qA I)⟩
theorem QB.of{d:Nat}(I:Bd k m)(hd:d<BB^m)(hm:0<m):QB (mkRat k d) m:=by
 refine⟨mC (zHu k d) I,?_⟩
 rcases uJ d with rfl|h
 .rw[pJ]
  show 1<BB^m
  exact Nat.one_lt_pow oA (by unfold BB;omega)
 .exact mC (zHv k d h) hd
theorem QB.pos(h:QB q m):0<m:=by
 rcases uJ m with rfl|I
 .have:=h.2
  rw[Nat.pow_zero]at this
  have:=q.den_pos
  omega
 .exact I
theorem zAN{x:Nat}(h:x<BB^m):Bd (x:Int) m:=by unfold Bd;rwa [pD]
theorem zKe{b:Nat}(h:a<BB^m)(I:b<BB^n):a*b<BB^(m+n):=by
 rw[uA]
 exact nL h (mI I) (uN qA)
theorem QB.num_add(h:QB p m)(I:QB q n):Bd (p.num*q.den+q.num*p.den) (m+n+1):=
 (h.1.mul (zAN I.2)).add ((I.1.mul (zAN h.2)).mono oA)
theorem QB.den_mul(h:QB p m)(I:QB q n):p.den*q.den<BB^(m+n):=zKe h.2 I.2
theorem QB.add(h:QB p m)(I:QB q n):QB (p+q) (m+n+1):=by
 rw[Rat.add_def']
 exact QB.of (h.num_add I) (vW (h.den_mul I) (vZ qA oA)) oA
theorem zLE(h:0<m):1<BB^m:=Nat.one_lt_pow oA (by unfold BB;omega)
theorem zP2(p q:Rat):p.num*q.den-q.num*p.den<0↔p<q:=by rw[Rat.lt_iff];omega
theorem zNx(p q:Rat):p.num*q.den-q.num*p.den=0↔p=q:=by rw[Rat.eq_iff_mul_eq_mul];omega
def qsg(p q:Rat):Int:=(p.num*q.den-q.num*p.den).sign
theorem zO9{p q:Rat}:qsg p q= -1↔p<q:=by
 unfold qsg
 rw[<-zP2,Int.sign_eq_neg_one_iff_neg]
theorem zDT{p q:Rat}:qsg p q=0↔p=q:=by
 unfold qsg
 rw[<-zNx,Int.sign_eq_zero_iff_zero]
theorem zQk(p q:Rat):qsg q p= - qsg p q:=by
 unfold qsg
 rw[<-Int.sign_neg]
 congr 1
 omega
theorem zRL{p q:Rat}:qsg p q=1↔q<p:=by
 rw[<-zO9,zQk p q]
 omega
theorem zQj(p q:Rat):qsg p q= -1∨qsg p q=0∨qsg p q=1:=by
 unfold qsg
 have:=Int.sign_trichotomy (p.num*q.den-q.num*p.den)
 omega
def fl(q:Rat):Int:=q.num/(q.den:Int)
section
variable {α:Type}(d:α)(lt:α->α->Bool)
def zCQ(l:List α)(i j:Nat):List α:=(l.set i (l.getD j d)).set j (l.getD i d)
structure Tot:Prop where
 asym:∀x y,lt x y=true->lt y x=false
 tr:∀x y z,lt x y=true->lt y z=true->lt x z=true
 ntr:∀x y z,lt x y=false->lt y z=false->lt x z=false
def upH(j:Nat)(l:List α):List α:=if j=0 then l else if lt (l.getD j d) (l.getD ((j-1)/2) d)then upH ((j-1)/2) (zCQ d l ((j-1)/2) j)else l
termination_by j
decreasing_by omega
def kid(l:List α)(i n:Nat):Nat:=if 2*i+2<n/\lt (l.getD (2*i+2) d) (l.getD (2*i+1) d)=true then 2*i+2 else 2*i+1
def zA4(i n:Nat)(l:List α):List α:=if 2*i+1<n then(if lt (l.getD (kid d lt l i n) d) (l.getD i d)then zA4 (kid d lt l i n) n (zCQ d l i (kid d lt l i n))else l)else l
termination_by n-i
decreasing_by (unfold kid;split<;>omega)
def HP(n:Nat)(l:List α):Prop:=∀k,0<k->k<n->lt (l.getD k d) (l.getD ((k-1)/2) d)=false
def zD6(l:List α)(x:α):List α:=upH d lt l.length (l++ [x])
def zD7(l:List α):List α:=(zA4 d lt 0 (l.length-1) (zCQ d l 0 (l.length-1))).take (l.length-1)
variable {d lt}
theorem qU(l:List α)(i j:Nat):(zCQ d l i j).length=l.length:=by simp[zCQ]
theorem zDn(l:List α)(i k:Nat)(v:α)(h:i<l.length):(l.set i v).getD k d=if k=i then v else l.getD k d:=by
 rw[nX,nX,gQ]
 by_cases e:i=k
 .subst e;simp[h]
 .simp[e,xY e]
theorem zDa{l:List α}(h:i<l.length)(hj:j<l.length)(k:Nat):(zCQ d l i j).getD k d=if k=j then l.getD i d else if k=i then l.getD j d else l.getD k d:=by
 unfold zCQ
 rw[zDn _ _ _ _ (by simpa using hj),zDn _ _ _ _ h]
theorem zBt{l:List α}(h:i<l.length)(hj:j<l.length):(zCQ d l i j).Perm l:=by
 unfold zCQ
 rw[nX,nX,mD h,mD hj]
 exact List.set_set_perm h hj
theorem zRf(j:Nat)(l:List α):(upH d lt j l).length=l.length:=by
 fun_induction upH d lt j l with
 |case1=>rfl
 |case2 j l h1 h2 ih=>rw[ih,qU]
 |case3=>rfl
theorem zPD(j:Nat)(l:List α)(hj:j<l.length):(upH d lt j l).Perm l:=by
 fun_induction upH d lt j l with
 |case1=>exact .refl _
 |case2 j l h1 h2 ih=>exact(ih (by rw[qU];omega)).trans (zBt oA hj)
 |case3=>exact .refl _
theorem zPF(T:Tot lt)(j:Nat)(l:List α)(hj:j<l.length)(h1:∀k,0<k->k<l.length->k≠j->lt (l.getD k d) (l.getD ((k-1)/2) d)=false)
  (h2:∀k,0<k->k<l.length->(k-1)/2=j->0<j->lt (l.getD k d) (l.getD ((j-1)/2) d)=false):HP d lt l.length (upH d lt j l):=by
 fun_induction upH d lt j l with
 |case1 l=>exact fun k I hl=>h1 k I hl oA
 | case2 j l hj0 hlt ih=>
  have hp:(j-1)/2<l.length:=oA
  have hg:=zDa (d:=d) hp hj
  rw[qU]at ih
  refine ih hp (fun k I h J=>?_) (fun k I h J h6=>?_)
  .rw[hg,hg]
   by_cases e1:k=j
   .subst e1
    rw[if_pos rfl,if_neg oA,if_pos rfl]
    exact T.asym _ _ hlt
   .rw[if_neg e1,if_neg J]
    by_cases e2:(k-1)/2=j
    .rw[if_pos e2]
     exact h2 k I h e2 oA
    .rw[if_neg e2]
     by_cases e3:(k-1)/2=(j-1)/2
     .rw[if_pos e3]
      have O:=h1 k I h e1
      rw[e3]at O
      cases h4:lt (l.getD k d) (l.getD j d)with
      |false=>rfl
      |true=>rw[T.tr _ _ _ h4 hlt]at O;cases O
     .rw[if_neg e3]
      exact h1 k I h e1
  .rw[hg,hg]
   have h7:((j-1)/2-1)/2≠j:=oA
   have h5:((j-1)/2-1)/2≠(j-1)/2:=oA
   rw[if_neg h7,if_neg h5]
   have hb:=h1 ((j-1)/2) h6 hp oA
   by_cases e1:k=j
   .rw[if_pos e1];exact hb
   .rw[if_neg e1,if_neg oA]
    have O:=h1 k I h e1
    rw[J]at O
    exact T.ntr _ _ _ O hb
 | case3 j l hj0 hlt=>
  intro k I hl
  by_cases e:k=j
  .subst e
   simpa using hlt
  .exact h1 k I hl e
theorem zL5{l:List α}(h:2*i+1<n):i<kid d lt l i n/\kid d lt l i n<n/\(kid d lt l i n-1)/2=i:=by
 unfold kid
 split<;>omega
theorem zGH(i n:Nat)(l:List α):(zA4 d lt i n l).length=l.length:=by
 fun_induction zA4 d lt i n l with
 |case1 i l h1 h2 ih=>rw[ih,qU]
 |case2=>rfl
 |case3=>rfl
theorem zMs(i n:Nat)(l:List α)(hn:n<=l.length):(zA4 d lt i n l).Perm l:=by
 fun_induction zA4 d lt i n l with
 |case1 i l h1 h2 ih=>
  have:=zL5 (d:=d) (lt:=lt) (l:=l) h1
  exact(ih (by rw[qU];omega)).trans (zBt oA oA)
 |case2=>exact .refl _
 |case3=>exact .refl _
theorem zOu(i n:Nat)(l:List α)(hn:n<=l.length)(k:Nat)(hk:n<=k):(zA4 d lt i n l).getD k d=l.getD k d:=by
 fun_induction zA4 d lt i n l with
 |case1 i l h1 h2 ih=>
  have:=zL5 (d:=d) (lt:=lt) (l:=l) h1
  rw[ih (by rw[qU];omega),zDa oA oA,if_neg oA,if_neg oA]
 |case2=>rfl
 |case3=>rfl
theorem zMu(T:Tot lt)(i n:Nat)(l:List α)(hn:n<=l.length)(h1:∀k,0<k->k<n->(k-1)/2≠i->lt (l.getD k d) (l.getD ((k-1)/2) d)=false)
  (h2:∀k,0<k->k<n->(k-1)/2=i->0<i->lt (l.getD k d) (l.getD ((i-1)/2) d)=false):HP d lt n (zA4 d lt i n l):=by
 fun_induction zA4 d lt i n l with
 | case1 i l hlt hl ih=>
  obtain⟨g1,g2,g3⟩:=zL5 (d:=d) (lt:=lt) (l:=l) hlt
  have h3:∀k,0<k->k<n->(k-1)/2=i->lt (l.getD k d) (l.getD (kid d lt l i n) d)=false:=by
   intro k O I hki
   have J:∀x,lt x x=false:=fun x=>by
    cases h:lt x x with
    |false=>rfl
    |true=>have:=T.asym _ _ h;rw[h]at this;cases this
   have:k=2*i+1∨k=2*i+2:=oA
   unfold kid
   split
   .rename_i h
    rcases this with rfl|rfl
    .exact T.asym _ _ h.2
    .exact J _
   .rename_i h
    rcases this with rfl|rfl
    .exact J _
    .cases h4:lt (l.getD (2*i+2) d) (l.getD (2*i+1) d)with
     |false=>rfl
     |true=>exact absurd ⟨I,h4⟩ h
  generalize hc:kid d lt l i n=c at*
  have hg:=zDa (d:=d) (l:=l) (i:=i) (j:=c) oA oA
  refine ih (by rw[qU];exact hn) (fun k O I h0=>?_) (fun k O I h0 hc0=>?_)
  .rw[hg,hg]
   by_cases e1:(k-1)/2=i
   .rw[if_neg h0,if_pos e1]
    by_cases e2:k=c
    .rw[if_pos e2];exact T.asym _ _ hl
    .rw[if_neg e2,if_neg oA]
     exact h3 k O I e1
   .rw[if_neg h0,if_neg e1]
    have h5:k≠c:=fun e=>e1 (by rw[e];exact g3)
    rw[if_neg h5]
    by_cases e2:k=i
    .subst e2
     rw[if_pos rfl]
     exact h2 c oA g2 g3 O
    .rw[if_neg e2]
     exact h1 k O I e1
  .rw[hg,hg,g3]
   rw[if_neg oA,if_neg oA,if_neg oA,if_pos rfl]
   have:=h1 k O I oA
   rwa [h0]at this
 | case2 i l hlt hl=>
  intro k O I
  by_cases e:(k-1)/2=i
  .have h7:lt (l.getD (kid d lt l i n) d) (l.getD i d)=false:=by simpa using hl
   have h3:lt (l.getD k d) (l.getD (kid d lt l i n) d)=false:=by
    have J:∀x,lt x x=false:=fun x=>by
     cases h:lt x x with
     |false=>rfl
     |true=>have:=T.asym _ _ h;rw[h]at this;cases this
    have:k=2*i+1∨k=2*i+2:=oA
    unfold kid
    split
    .rename_i h
     rcases this with rfl|rfl
     .exact T.asym _ _ h.2
     .exact J _
    .rename_i h
     rcases this with rfl|rfl
     .exact J _
     .cases h4:lt (l.getD (2*i+2) d) (l.getD (2*i+1) d)with
      |false=>rfl
      |true=>exact absurd ⟨I,h4⟩ h
   rw[e]
   exact T.ntr _ _ _ h3 h7
  .exact h1 k O I e
 |case3 i l hlt=>exact fun k O I=>h1 k O I oA
theorem zQP(T:Tot lt){n:Nat}{l:List α}(h:HP d lt n l):∀k,k<n->lt (l.getD k d) (l.getD 0 d)=false:=by
 intro k
 induction k using Nat.strongRecOn with
 | _ k ih=>
  intro I
  by_cases e:k=0
  .subst e
   cases h:lt (l.getD 0 d) (l.getD 0 d)with
   |false=>rfl
   |true=>have:=T.asym _ _ h;rw[h]at this;cases this
  .exact T.ntr _ _ _ (h k oA I) (ih _ oA oA)
theorem zJh(l:List α)(x:α):(zD6 d lt l x).length=l.length+1:=by
 unfold zD6
 rw[zRf]
 simp
theorem zLx(l:List α)(x:α):(zD6 d lt l x).Perm (x::l):=by
 unfold zD6
 exact(zPD _ _ eN).trans<|List.perm_append_comm
theorem zLy(T:Tot lt){l:List α}(h:HP d lt l.length l)(x:α):HP d lt (zD6 d lt l x).length (zD6 d lt l x):=by
 rw[zJh]
 unfold zD6
 have e:(l++ [x]).length=l.length+1:=eN
 have:=zPF (d:=d) T l.length (l++ [x]) eN (fun k O I hne=>?_) (fun k O I hkp h0=>?_)
 .rwa [e]at this
 .have J:k<l.length:=by rw[e]at I;omega
  have g:∀q,q<l.length->(l++ [x]).getD q d=l.getD q d:=fun q hq=>by
   rw[nX,nX,uZ hq]
  rw[g _ J,g _ oA]
  exact h k O J
 .rw[e]at I;omega
theorem zGh(l:List α):(zD7 d lt l).length=l.length-1:=by
 unfold zD7
 rw[uG,zGH,qU]
 omega
theorem zJi{l:List α}(h0:0<l.length):(zA4 d lt 0 (l.length-1) (zCQ d l 0 (l.length-1))).getD (l.length-1) d=l.getD 0 d:=by
 rw[zOu _ _ _ (by rw[qU];omega) _ (vR _),zDa h0 oA,if_pos rfl]
theorem zGg{l:List α}(h0:0<l.length):(l.getD 0 d::zD7 d lt l).Perm l:=by
 have J:=(zMs (d:=d) (lt:=lt) 0 (l.length-1) (zCQ d l 0 (l.length-1)) (by rw[qU];omega)).trans (zBt h0 oA)
 refine List.Perm.trans ?_ J
 have hl:(zA4 d lt 0 (l.length-1) (zCQ d l 0 (l.length-1))).length=l.length-1+1:=by rw[zGH,qU];omega
 have e:zA4 d lt 0 (l.length-1) (zCQ d l 0 (l.length-1))=zD7 d lt l++ [l.getD 0 d]:=by
  have I:(zA4 d lt 0 (l.length-1) (zCQ d l 0 (l.length-1))).take (l.length-1+1)=zA4 d lt 0 (l.length-1) (zCQ d l 0 (l.length-1)):=mJ oA
  rw[<-I,fT oA]
  have h:=zJi (d:=d) (lt:=lt) h0
  rw[nX,mD oA]at h
  rw[show(zA4 d lt 0 (l.length-1) (zCQ d l 0 (l.length-1)))[l.length-1]=l.getD 0 d from h]
  rfl
 rw[e]
 exact List.perm_append_comm (l₁:=[l.getD 0 d])
theorem zGi(T:Tot lt){l:List α}(h0:0<l.length)(h:HP d lt l.length l):HP d lt (zD7 d lt l).length (zD7 d lt l):=by
 have hs:=zDa (d:=d) (l:=l) (i:=0) (j:=l.length-1) h0 oA
 have h1:=zMu (d:=d) T 0 (l.length-1) (zCQ d l 0 (l.length-1)) (by rw[qU];omega) (fun k J h3 O=>?_) (fun k J h3 O h00=>oA)
 .intro k J I
  rw[zGh]at I
  have h2:=h1 k J I
  unfold zD7
  rw[nX,nX,cZ I,cZ oA,<-nX,<-nX]
  exact h2
 .rw[hs,hs,if_neg oA,if_neg oA,if_neg oA,if_neg oA]
  exact h k J oA
theorem zQq(T:Tot lt){l:List α}(h:HP d lt l.length l){x:α}(J:x∈l):lt x (l.getD 0 d)=false:=by
 obtain⟨k,I,rfl⟩:=List.mem_iff_getElem.1 J
 have:=zQP T h k I
 rwa [nX,mD I]at this
end
structure Wt where
 c:Rat
 s:Nat
 n:Nat
variable {L out:List Wt}
def Wt.lt(x y:Wt):Bool:=if x.c=y.c then(if x.s=y.s then decide (x.n<y.n)else decide (x.s<y.s))else decide (x.c<y.c)
def wz:Wt:=⟨0,0,0⟩
def Lx(c:Rat)(s:Nat)(c':Rat)(s':Nat):Prop:=c<c'∨(c=c'/\s<=s')
theorem Lx.trans{J:Rat}{I:Nat}(h:Lx c s c' s')(k:Lx c' s' J I):Lx c s J I:=by
 unfold Lx at*
 grind
theorem Lx.refl(c:Rat)(s:Nat):Lx c s c s:=.inr ⟨rfl,vR _⟩
theorem Lx.anti(h:Lx c s c' s')(k:Lx c' s' c s):c=c'/\s=s':=by
 unfold Lx at*
 grind
theorem Lx.add(h:Lx c s c' s')(f:Rat):Lx (c+f) (s+1) (c'+f) (s'+1):=by
 unfold Lx at*
 grind
theorem Lx.step(h:0<=f):Lx c s (c+f) (s+1):=by
 unfold Lx
 grind
theorem zS9{x y:Wt}(h:Wt.lt x y=false):Lx y.c y.s x.c x.s:=by
 unfold Wt.lt at h
 unfold Lx
 split at h
 .split at h<;>grind
 .grind
theorem zGQ:Tot Wt.lt:=by
 refine⟨fun x y=>?_,fun x y z=>?_,fun x y z=>?_⟩<;>unfold Wt.lt<;>grind
abbrev Adj:=Nat->List (Nat×Rat)
variable {E:Adj}
inductive Rch(E:Adj) (a:Nat):Nat->Rat->Nat->Prop
 |nil:Rch E a a 0 0
 |cons {n b:Nat} {c f:Rat} {s:Nat}:Rch E a n c s->(b,f)∈E n->Rch E a b (c+f) (s+1)
def Opt(E:Adj)(a n:Nat)(c:Rat)(s:Nat):Prop:=Rch E a n c s/\∀c' s',Rch E a n c' s'->Lx c s c' s'
theorem Opt.one(h:Opt E a n c s)(k:Opt E a n c' s'):c=c'/\s=s':=(h.2 _ _ k.1).anti (k.2 _ _ h.1)
def Gok(E:Adj)(N:Nat):Prop:=∀n,n<N->∀r,r∈E n->r.1<N/\0<=r.2
def jN(done:List Bool)(w:Wt)(rs:List (Nat×Rat))(L:List Wt):List Wt:=rs.foldl (fun L r=>if done.getD r.1 false=true then L else zD6 wz Wt.lt L ⟨w.c+r.2,w.s+1,r.1⟩) L
def dij(E:Adj):Nat->List Bool->List Wt->List Wt
  |0,_,_=> []
  |f+1,done,L=>if L.length=0 then[]else
      if done.getD (L.getD 0 wz).n false=true then dij E f done (zD7 wz Wt.lt L)
      else L.getD 0 wz::dij E f (done.set (L.getD 0 wz).n true) (jN (done.set (L.getD 0 wz).n true) (L.getD 0 wz) (E (L.getD 0 wz).n) (zD7 wz Wt.lt L))
theorem zES(done:List Bool)(w:Wt)(rs:List (Nat×Rat)):∀(L:List Wt) (x:Wt),x∈jN done w rs L↔x∈L∨ ∃r,r∈rs/\done.getD r.1 false=false/\x=⟨w.c+r.2,w.s+1,r.1⟩:=by
 induction rs with
 |nil=>intro L x;simp[jN]
 | cons r rs ih=>
  intro L x
  have e:jN done w (r::rs) L=jN done w rs (if done.getD r.1 false=true then L else zD6 wz Wt.lt L ⟨w.c+r.2,w.s+1,r.1⟩):=rfl
  rw[e,ih]
  by_cases h:done.getD r.1 false=true
  .rw[if_pos h]
   constructor
   .rintro(I|⟨q,I,J⟩)
    .exact .inl I
    .exact .inr ⟨q,.tail _ I,J⟩
   .rintro(I|⟨q,I,J,O⟩)
    .exact .inl I
    .rcases xX.1 I with rfl|I
     .rw[h]at J;cases J
     .exact .inr ⟨q,I,J,O⟩
  .rw[if_neg h,(zLx L _).mem_iff]
   have h':done.getD r.1 false=false:=by simpa using h
   constructor
   .rintro(I|⟨q,I,J⟩)
    .rcases xX.1 I with rfl|I
     .exact .inr ⟨r,.head _,h',rfl⟩
     .exact .inl I
    .exact .inr ⟨q,.tail _ I,J⟩
   .rintro(I|⟨q,I,J,O⟩)
    .exact .inl (.tail _ I)
    .rcases xX.1 I with rfl|I
     .exact .inl (by rw[O];exact .head _)
     .exact .inr ⟨q,I,J,O⟩
theorem zDV(done:List Bool)(w:Wt)(rs:List (Nat×Rat)):∀L:List Wt,HP wz Wt.lt L.length L->HP wz Wt.lt (jN done w rs L).length (jN done w rs L)/\(jN done w rs L).length<=L.length+rs.length:=by
 induction rs with
 |nil=>intro L h;exact⟨h,vR _⟩
 | cons r rs ih=>
  intro L h
  have e:jN done w (r::rs) L=jN done w rs (if done.getD r.1 false=true then L else zD6 wz Wt.lt L ⟨w.c+r.2,w.s+1,r.1⟩):=rfl
  rw[e]
  split
  .have:=ih L h
   refine⟨this.1,?_⟩
   rw[fN];omega
  .have:=ih _ (zLy zGQ h ⟨w.c+r.2,w.s+1,r.1⟩)
   refine⟨this.1,?_⟩
   have h2:=zJh (d:=wz) (lt:=Wt.lt) L ⟨w.c+r.2,w.s+1,r.1⟩
   rw[fN];omega
def zKg(E:Adj)(done:List Bool):Nat->Nat
 |0=>0
 |N+1=>zKg E done N+if done.getD N false=true then 0 else(E N).length
theorem zFP(l:List Bool)(i k:Nat)(h:i<l.length):(l.set i true).getD k false=if k=i then true else l.getD k false:=zDn l i k true h
theorem zEm{E:Adj}{done:List Bool}{i:Nat}(J:i<done.length)(hd:done.getD i false=false):∀N,zKg E (done.set i true) N+(if i<N then(E i).length else 0)=zKg E done N
 |0=>rfl
 | N+1=>by
  have I:=zEm (E:=E) J hd N
  unfold zKg
  rw[zFP _ _ _ J]
  by_cases e:N=i
  .subst e
   rw[if_pos rfl,hd]at*
   simp at I ⊢
   omega
  .rw[if_neg e]
   by_cases h:i<N
   .rw[if_pos h]at I
    rw[if_pos (show i<N+1 from oA)]
    omega
   .rw[if_neg h]at I
    rw[if_neg (show ¬i<N+1 from oA)]
    omega
def zKA:List Bool->Nat
 | []=>0
 |b::l=>(if b then 1 else 0)+zKA l
theorem zIy:∀l:List Bool,zKA l<=l.length
 | []=>vR _
 |b::l=>by have:=zIy l;unfold zKA;rw[fN];split<;>omega
theorem zJJ:∀(l:List Bool) (i:Nat),i<l.length->l.getD i false=false->zKA (l.set i true)=zKA l+1
 | [],_,h,_=>by simp at h
 |b::l,0,_,h=>by
  have:b=false:=h
  subst this
  show(if true then 1 else 0)+zKA l=(if false then 1 else 0)+zKA l+1
  simp;omega
 |b::l,i+1,h,h2=>by
  have:=zJJ l i (by simpa using h) h2
  show(if b then 1 else 0)+zKA (l.set i true)=(if b then 1 else 0)+zKA l+1
  omega
structure DI(E:Adj)(N a:Nat)(out:List Wt)(done:List Bool)(L:List Wt)(f:Nat):Prop where
 hp:HP wz Wt.lt L.length L
 dl:done.length=N
 rc:∀x,x∈L->x.n<N/\Rch E a x.n x.c x.s/\x.s<=out.length
 ok:∀w,w∈out->w.n<N/\Opt E a w.n w.c w.s/\w.s<=N
 dn:∀n,done.getD n false=true↔ ∃w,w∈out/\w.n=n
 ct:out.length=zKA done
 fr:(∃w,w∈out/\w.n=a)∨ ∃x,x∈L/\x.n=a/\x.c=0/\x.s=0
 ed:∀w,w∈out->∀r,r∈E w.n->(∃v,v∈out/\v.n=r.1)∨(⟨w.c+r.2,w.s+1,r.1⟩:Wt)∈L
 fu:L.length+zKg E done N<=f
theorem DI.begin(E:Adj){N a:Nat}(J:a<N):DI E N a [] (List.replicate N false) [⟨0,0,a⟩] (1+zKg E (List.replicate N false) N):=by
 have I:∀n,(List.replicate N false).getD n false=false:=fun n=>by
  rw[nX,nA]
  split<;>rfl
 refine⟨fun k hk hl=>?_,eN,fun x O=>?_,fun w h=>(by cases h),fun n=>?_,?_,.inr ⟨_,.head _,rfl,rfl,rfl⟩,fun w h=>(by cases h),eN⟩
 .simp at hl;omega
 .obtain rfl:=nY.1 O
  exact⟨J,.nil,vR _⟩
 .rw[I]
  simp
 .have:∀N,zKA (List.replicate N false)=0:=fun N=>by
   induction N with
   |zero=>rfl
   |succ N ih=>rw[pK];unfold zKA;simpa using ih
  rw[this];rfl
theorem DI.low{done:List Bool}{f:Nat}(hG:Gok E N)(h:DI E N a out done L f){n:Nat}{c:Rat}{s:Nat}(J:Rch E a n c s)(ha:a<N):n<N/\((∃w,w∈out/\w.n=n)∨ ∃x,x∈L/\Lx x.c x.s c s):=by
 induction J with
 |nil=>
  refine⟨ha,?_⟩
  rcases h.fr with I|⟨x,hx,I,h2,h3⟩
  .exact .inl I
  .exact .inr ⟨x,hx,by rw[h2,h3];exact .refl _ _⟩
 | @cons n b c f s J hm O=>
  obtain⟨hn,O⟩:=O
  obtain⟨hb,hf⟩:=hG n hn _ hm
  refine⟨hb,?_⟩
  rcases O with⟨w,hw,rfl⟩|⟨x,hx,hl⟩
  .rcases h.ed w hw _ hm with I|I
   .exact .inl I
   .exact .inr ⟨_,I,((h.ok w hw).2.1.2 _ _ J).add f⟩
  .exact .inr ⟨x,hx,hl.trans (.step hf)⟩
theorem zJH{f:Nat}{done:List Bool}(h:L.length=0):dij E f done L=[]:=by
 cases f with
 |zero=>rfl
 |succ f=>unfold dij;rw[if_pos h]
theorem DI.skip{done:List Bool}{f:Nat}(h:DI E N a out done L f)(h0:0<L.length)(hd:done.getD (L.getD 0 wz).n false=true):∃f',f=f'+1/\DI E N a out done (zD7 wz Wt.lt L) f'/\dij E f done L=dij E f' done (zD7 wz Wt.lt L):=by
 have hf:=h.fu
 obtain⟨f',rfl⟩:∃f',f=f'+1:=⟨f-1,oA⟩
 have h4:=zGg (d:=wz) (lt:=Wt.lt) h0
 have J:∀x,x∈L->x=L.getD 0 wz∨x∈zD7 wz Wt.lt L:=fun x I=>xX.1 (h4.mem_iff.2 I)
 have h7:∀x,x∈zD7 wz Wt.lt L->x∈L:=fun x I=>h4.mem_iff.1 (.tail _ I)
 have hw:=(h.dn _).1 hd
 refine⟨f',rfl,⟨zGi zGQ h0 h.hp,h.dl,fun x I=>h.rc x (h7 x I),h.ok,h.dn,h.ct,?_,fun w h6 r hr=>?_,?_⟩,?_⟩
 .rcases h.fr with O|⟨x,I,O,h2⟩
  .exact .inl O
  .rcases J x I with rfl|I
   .rw[<-O];exact .inl hw
   .exact .inr ⟨x,I,O,h2⟩
 .rcases h.ed w h6 r hr with O|O
  .exact .inl O
  .rcases J _ O with h2|h2
   .rw[<-h2]at hw;exact .inl hw
   .exact .inr h2
 .rw[zGh];omega
 .rw[dij,if_neg oA,if_pos hd]
theorem DI.settle{done:List Bool}{f:Nat}(hG:Gok E N)(ha:a<N)(h:DI E N a out done L f)(h0:0<L.length){w:Wt}(ew:L.getD 0 wz=w)(hd:done.getD w.n false=false):
  ∃f',f=f'+1/\w.n<N/\w.s<=out.length/\Rch E a w.n w.c w.s/\DI E N a (out++ [w]) (done.set w.n true) (jN (done.set w.n true) w (E w.n) (zD7 wz Wt.lt L)) f'/\dij E f done L=w::dij E f' (done.set w.n true) (jN (done.set w.n true) w (E w.n) (zD7 wz Wt.lt L)):=by
 have hf:=h.fu
 obtain⟨f',rfl⟩:∃f',f=f'+1:=⟨f-1,oA⟩
 have h6:=zGg (d:=wz) (lt:=Wt.lt) h0
 rw[ew]at h6
 have h8:∀x,x∈L->x=w∨x∈zD7 wz Wt.lt L:=fun x O=>xX.1 (h6.mem_iff.2 O)
 have hA:∀x,x∈zD7 wz Wt.lt L->x∈L:=fun x O=>h6.mem_iff.1 (.tail _ O)
 have hz:w∈L:=h6.mem_iff.1 (.head _)
 have hg:∀x,x∈L->Lx w.c w.s x.c x.s:=fun x O=>zS9 (by have:=zQq zGQ h.hp O;rwa [ew]at this)
 obtain⟨h4,hb,hs⟩:=h.rc w hz
 have ho: ¬ ∃v,v∈out/\v.n=w.n:=fun I=>by rw[(h.dn _).2 I]at hd;cases hd
 have hh:Opt E a w.n w.c w.s:=⟨hb,fun c' s' hr=>by
  rcases(h.low hG hr ha).2 with J|⟨x,O,hl⟩
  .exact absurd J ho
  .exact(hg x O).trans hl⟩
 have he:w.n<done.length:=by rw[h.dl];exact h4
 have h7:=fun n=>zFP done w.n n he
 have hi:=zJJ done w.n he hd
 have hm:=zIy (done.set w.n true)
 rw[uC,h.dl]at hm
 have hk:=zDV (done.set w.n true) w (E w.n) _ (zGi zGQ h0 h.hp)
 have h5:=zES (done.set w.n true) w (E w.n) (zD7 wz Wt.lt L)
 have hpl:=zGh (d:=wz) (lt:=Wt.lt) L
 have hq:=zEm (E:=E) he hd N
 rw[if_pos h4]at hq
 have hc:(out++ [w]).length=out.length+1:=eN
 have hctx:=h.ct
 refine⟨f',rfl,h4,hs,hb,⟨hk.1,by rw[uC];exact h.dl,fun x O=>?_,fun v I=>?_,fun n=>?_,by rw[hc,hi,h.ct],?_,fun v I r hr=>?_,?_⟩,?_⟩
 .rcases(h5 x).1 O with O|⟨r,hr,J,rfl⟩
  .obtain⟨J,h2,h3⟩:=h.rc x (hA x O)
   exact⟨J,h2,by rw[hc];omega⟩
  .exact⟨(hG _ h4 _ hr).1,.cons hb hr,by rw[hc];show w.s+1<=_;omega⟩
 .rcases uL.1 I with I|I
  .exact h.ok v I
  .obtain rfl:=nY.1 I
   exact⟨h4,hh,oA⟩
 .rw[h7]
  by_cases e:n=w.n
  .rw[if_pos e]
   exact⟨fun _=>⟨w,eN,e.symm⟩,fun _=>rfl⟩
  .rw[if_neg e,h.dn]
   constructor
   .rintro⟨v,I,J⟩
    exact⟨v,cK _ I,J⟩
   .rintro⟨v,I,J⟩
    rcases uL.1 I with I|I
    .exact⟨v,I,J⟩
    .obtain rfl:=nY.1 I
     exact absurd J.symm e
 .rcases h.fr with⟨v,I,J⟩|⟨x,O,J,h2,h3⟩
  .exact .inl ⟨v,cK _ I,J⟩
  .rcases h8 x O with rfl|O
   .exact .inl ⟨x,eN,J⟩
   .exact .inr ⟨x,(h5 x).2 (.inl O),J,h2,h3⟩
 .have ht:∀x:Wt,x∈L->(∃u,u∈out++ [w]/\u.n=x.n)∨x∈jN (done.set w.n true) w (E w.n) (zD7 wz Wt.lt L):=fun x O=>by
   rcases h8 x O with rfl|O
   .exact .inl ⟨x,eN,rfl⟩
   .exact .inr ((h5 x).2 (.inl O))
  rcases uL.1 I with I|I
  .rcases h.ed v I r hr with⟨u,hu,J⟩|J
   .exact .inl ⟨u,cK _ hu,J⟩
   .exact ht _ J
  .obtain rfl:=nY.1 I
   cases hdr:(done.set v.n true).getD r.1 false with
   |false=>exact .inr ((h5 _).2 (.inr ⟨r,hr,hdr,rfl⟩))
   | true=>
    rw[h7]at hdr
    by_cases e:r.1=v.n
    .exact .inl ⟨v,eN,e.symm⟩
    .rw[if_neg e]at hdr
     obtain⟨u,hu,J⟩:=(h.dn _).1 hdr
     exact .inl ⟨u,cK _ hu,J⟩
 .omega
 .rw[dij,if_neg oA,ew,if_neg (by rw[hd];decide)]
theorem vG{E:Adj}{N a:Nat}(I:Gok E N)(O:a<N):∀(f:Nat) {out:List Wt} {done:List Bool} {L:List Wt},DI E N a out done L f->∃done' f',DI E N a (out++dij E f done L) done' [] f'
 | f,out,done,L,h=>by
  by_cases h0:L.length=0
  .rw[zJH h0,pG]
   have:=xL h0
   subst this
   exact⟨done,f,h⟩
  .cases hd:done.getD (L.getD 0 wz).n false with
   |true=>
    obtain⟨f',rfl,h1,J⟩:=h.skip oA hd
    rw[J]
    exact vG I O f' h1
   |false=>
    obtain⟨f',rfl,_,_,_,h1,J⟩:=h.settle I O oA rfl hd
    rw[J]
    have:=vG I O f' h1
    rwa [fU,List.singleton_append]at this
def stl(E:Adj)(N a:Nat):List Wt:=dij E (1+zKg E (List.replicate N false) N) (List.replicate N false) [⟨0,0,a⟩]
theorem zOW(O:Gok E N)(J:a<N):(∀w,w∈stl E N a->w.n<N/\Opt E a w.n w.c w.s/\w.s<=N)/\∀n c s,Rch E a n c s->n<N/\∃w,w∈stl E N a/\w.n=n:=by
 obtain⟨done',f',h⟩:=vG O J _ (DI.begin E J)
 rw[fS]at h
 refine⟨h.ok,fun n c s hr=>?_⟩
 obtain⟨h1,I⟩:=h.low O hr J
 refine⟨h1,?_⟩
 rcases I with I|⟨x,hx,_⟩
 .exact I
 .cases hx
def zFi(ws:List Wt)(r:List Rat):List Rat:=ws.foldl (fun r w=>r.set w.n w.c) r
def zEG(ws:List Wt)(r:List Int):List Int:=ws.foldl (fun r w=>r.set w.n (w.s:Int)) r
theorem zBp{β:Type}(g:Wt->β):∀(ws:List Wt) (r:List β),(ws.foldl (fun r w=>r.set w.n (g w)) r).length=r.length
 | [],_=>rfl
 |w::ws,r=>by
  have:=zBp g ws (r.set w.n (g w))
  rw[uC]at this
  exact this
theorem zDo{β:Type}(g:Wt->β)(d:β)(n:Nat)(v:β):∀(ws:List Wt) (r:List β),(∀w,w∈ws->w.n<r.length)->(∀w,w∈ws->w.n=n->g w=v)->((∃w,w∈ws/\w.n=n)∨r.getD n d=v)->(ws.foldl (fun r w=>r.set w.n (g w)) r).getD n d=v
 | [],r,_,_,h=>by
  rcases h with⟨_,h,_⟩|h
  .cases h
  .exact h
 | w::ws,r,hl,hv,h=>by
  show(ws.foldl (fun r w=>r.set w.n (g w)) (r.set w.n (g w))).getD n d=v
  refine zDo g d n v ws _ (fun u I=>by rw[uC];exact hl u (.tail _ I)) (fun u I=>hv u (.tail _ I)) ?_
  rw[zDn _ _ _ _ (hl w (.head _))]
  by_cases e:n=w.n
  .rw[if_pos e]
   exact .inr (hv w (.head _) e.symm)
  .rw[if_neg e]
   rcases h with⟨u,I,J⟩|h
   .rcases xX.1 I with rfl|I
    .exact absurd J.symm e
    .exact .inl ⟨u,I,J⟩
   .exact .inr h
structure CS(E:Adj)(N a:Nat)(cs:List Rat)(ss:List Int):Prop where
 cl:cs.length=N
 sl:ss.length=N
 at_:∀n,n<N->(∃s:Nat,Opt E a n (cs.getD n 0) s/\ss.getD n 0=(s:Int)/\s<=N)∨((∀c s, ¬Rch E a n c s)/\cs.getD n 0=0/\ss.getD n 0= -1)
theorem zSk(hG:Gok E N)(ha:a<N):CS E N a (zFi (stl E N a) (List.replicate N 0)) (zEG (stl E N a) (List.replicate N (-1))):=by
 obtain⟨I,h2⟩:=zOW hG ha
 refine⟨by unfold zFi;rw[zBp];simp,by unfold zEG;rw[zBp];simp,fun n hn=>?_⟩
 have O:(List.replicate N (0:Rat)).getD n 0=0:=by rw[nX,nA,if_pos hn];rfl
 have h3:(List.replicate N (-1:Int)).getD n 0= -1:=by rw[nX,nA,if_pos hn];rfl
 by_cases hex:∃w,w∈stl E N a/\w.n=n
 .obtain⟨w,hw,rfl⟩:=hex
  obtain⟨g1,J,g3⟩:=I w hw
  left
  have e1:(zFi (stl E N a) (List.replicate N 0)).getD w.n 0=w.c:=zDo (·.c) 0 w.n w.c _ _ (fun u h=>by simp[(I u h).1]) (fun u h e=>by have:=(I u h).2.1;rw[e]at this;exact(this.one J).1) (.inl ⟨w,hw,rfl⟩)
  have e2:(zEG (stl E N a) (List.replicate N (-1))).getD w.n 0=(w.s:Int):=zDo (fun w=>(w.s:Int)) 0 w.n _ _ _ (fun u h=>by simp[(I u h).1]) (fun u h e=>by have:=(I u h).2.1;rw[e]at this;rw[(this.one J).2]) (.inl ⟨w,hw,rfl⟩)
  exact⟨w.s,by rw[e1];exact J,e2,g3⟩
 .right
  refine⟨fun c s hr=>hex (h2 n c s hr).2,?_,?_⟩
  .exact zDo (·.c) 0 n 0 _ _ (fun u h=>by simp[(I u h).1]) (fun u h e=>absurd ⟨u,h,e⟩ hex) (.inr O)
  .exact zDo (fun w=>(w.s:Int)) 0 n (-1) _ _ (fun u h=>by simp[(I u h).1]) (fun u h e=>absurd ⟨u,h,e⟩ hex) (.inr h3)
def yU(N:Nat)(x:Int):Bool:=decide (0<=x)&&decide (x<(N:Int))
theorem y5(h:yU N x=true):x.toNat<N/\(x.toNat:Int)=x:=by
 unfold yU at h
 simp only[xU,bE]at h
 omega
theorem zGA{k:Nat}:yU N (k:Int)=decide (k<N):=by
 unfold yU
 rw[pF]
 simp only[xU,bE]
 omega
def zBU(N:Nat)(j:Int×Int):Bool:= !((j.1==j.2)|| !yU N j.1|| !yU N j.2)
def zFd(fs:List Rat)(i:Nat):Rat:=if 0<fs.getD i 0 then fs.getD i 0 else 0
theorem zQS(fs:List Rat)(i:Nat):0<=zFd fs i:=by
 unfold zFd
 split<;>grind
def zFn(N:Nat)(js:List (Int×Int))(fs:List Rat)(i:Nat):List (Nat×Nat×Rat):=
 if zBU N (js.getD i (0,0))then[((js.getD i (0,0)).1.toNat,(js.getD i (0,0)).2.toNat,zFd fs i),((js.getD i (0,0)).2.toNat,(js.getD i (0,0)).1.toNat,zFd fs i)]else[]
def jX(N:Nat)(js:List (Int×Int))(fs:List Rat)(k:Nat):List (Nat×Nat×Rat):=(List.range k).flatMap (zFn N js fs)
theorem zBR(N:Nat)(js:List (Int×Int))(fs:List Rat)(k:Nat):jX N js fs (k+1)=jX N js fs k++zFn N js fs k:=by
 unfold jX
 rw[eU,List.flatMap_append,List.flatMap_singleton]
def rds(N:Nat)(js:List (Int×Int))(fs:List Rat):List (Nat×Nat×Rat):=jX N js fs js.length
def zH(rs:List (Nat×Nat×Rat)):Adj:=fun a=>(rs.filter fun r=>r.1==a).map (·.2)
theorem zMH(rs qs:List (Nat×Nat×Rat))(a:Nat):zH (rs++qs) a=zH rs a++zH qs a:=by
 unfold zH
 rw[List.filter_append,pB]
theorem zAH{rs:List (Nat×Nat×Rat)}{b:Nat}:(b,f)∈zH rs a↔(a,b,f)∈rs:=by
 unfold zH
 rw[xG]
 constructor
 .rintro⟨⟨x,y,z⟩,I,J⟩
  rw[lF]at I
  have O:x=a:=by simpa using I.2
  simp only[pL]at J
  rw[<-O,<-J.1,<-J.2]
  exact I.1
 .intro h
  exact⟨(a,b,f),lF.2 ⟨h,eN⟩,rfl⟩
theorem zLP{k:Nat}{r:Nat×Nat×Rat}(h:r∈jX N js fs k):∃i,i<k/\zBU N (js.getD i (0,0))=true/\(r=((js.getD i (0,0)).1.toNat,(js.getD i (0,0)).2.toNat,zFd fs i)∨r=((js.getD i (0,0)).2.toNat,(js.getD i (0,0)).1.toNat,zFd fs i)):=by
 unfold jX at h
 rw[List.mem_flatMap]at h
 obtain⟨i,I,h⟩:=h
 unfold zFn at h
 split at h
 .rename_i hj
  refine⟨i,xV.1 I,hj,?_⟩
  simpa using h
 .cases h
theorem zC3{j:Int×Int}(h:zBU N j=true):j.1≠j.2/\yU N j.1=true/\yU N j.2=true:=by
 unfold zBU at h
 simp only[Bool.not_or,Bool.not_not,xU,cI,mF]at h
 exact⟨h.1.1,h.1.2,h.2⟩
theorem zHd{k b:Nat}(h:(a,b,f)∈jX N js fs k):a<N/\b<N/\a≠b/\0<=f/\∃i,i<k/\f=zFd fs i:=by
 obtain⟨i,I,hj,h⟩:=zLP h
 obtain⟨h1,h2,h3⟩:=zC3 hj
 obtain⟨J,g2⟩:=y5 h2
 obtain⟨O,g4⟩:=y5 h3
 have:=zQS fs i
 rcases h with h|h<;>simp only[pL]at h<;>obtain⟨rfl,rfl,rfl⟩:=h
 .exact⟨J,O,oA,this,i,I,rfl⟩
 .exact⟨O,J,oA,this,i,I,rfl⟩
theorem zP1{k b:Nat}(h:(a,b,f)∈jX N js fs k):(b,a,f)∈jX N js fs k:=by
 obtain⟨i,I,hj,h⟩:=zLP h
 unfold jX
 rw[List.mem_flatMap]
 refine⟨i,xV.2 I,?_⟩
 unfold zFn
 rw[if_pos hj]
 rcases h with h|h<;>simp only[pL]at h<;>obtain⟨rfl,rfl,rfl⟩:=h<;>simp
abbrev grE(N:Nat)(js:List (Int×Int))(fs:List Rat):Adj:=zH (rds N js fs)
theorem zGB(N:Nat)(js:List (Int×Int))(fs:List Rat):Gok (grE N js fs) N:=fun n _ r h=>by
 obtain⟨_,J,_,I,_⟩:=zHd (zAH.1 h)
 exact⟨J,I⟩
theorem zFa{b:Nat}(h:(b,f)∈grE N js fs a):(a,f)∈grE N js fs b:=zAH.2 (zP1 (zAH.1 h))
theorem zTd{b:Nat}(h:(b,f)∈grE N js fs a):a<N:=(zHd (zAH.1 h)).1
/-! ### The cheapest of the roads between two -/
def chS(b:Int)(o:WF Rat)(r:Nat×Rat):WF Rat:=if(r.1:Int)=b then(match o with|none=>some r.2|some g=>if r.2<g then some r.2 else o)else o
def ch(E:Adj)(a:Nat)(b:Int):WF Rat:=(E a).foldl (chS b) none
theorem zOB(e:(r.1:Int)=b):chS b none r=some r.2:=by unfold chS;rw[if_pos e]
theorem zOA(e:(r.1:Int)=b)(h:Rat):chS b (some h) r=if r.2<h then some r.2 else some h:=by unfold chS;rw[if_pos e]
theorem zIz(b:Int):∀(l:List (Nat×Rat)) (o:WF Rat),(∀g,l.foldl (chS b) o=some g->(o=some g∨ ∃r,r∈l/\(r.1:Int)=b/\r.2=g)/\(∀h,o=some h->g<=h)/\∀r,r∈l->(r.1:Int)=b->g<=r.2)/\(l.foldl (chS b) o=none->o=none/\∀r,r∈l->(r.1:Int)≠b)
 | [],o=>⟨fun g h=>⟨.inl h,fun h' e=>by rw[show o=some g from h]at e;cases e;exact Rat.le_refl,fun r hr=>by cases hr⟩,fun h=>⟨h,fun r hr=>by cases hr⟩⟩
 | r::l,o=>by
  obtain⟨h1,h2⟩:=zIz b l (chS b o r)
  refine⟨fun g hg=>?_,fun hg=>?_⟩
  .obtain⟨I,g2,g3⟩:=h1 g hg
   by_cases e:(r.1:Int)=b
   .cases o with
    | none=>
     rw[zOB e]at I g2
     refine⟨.inr ?_,(fun h' e'=>nomatch e'),fun q J O=>?_⟩
     .rcases I with I|⟨q,J,I⟩
      .cases I;exact⟨r,.head _,e,rfl⟩
      .exact⟨q,.tail _ J,I⟩
     .rcases xX.1 J with rfl|J
      .exact g2 _ rfl
      .exact g3 q J O
    | some h0=>
     rw[zOA e]at I g2
     by_cases hlt:r.2<h0
     .rw[if_pos hlt]at I g2
      have:=g2 _ rfl
      refine⟨.inr ?_,fun h' e'=>by cases e';grind,fun q J O=>?_⟩
      .rcases I with I|⟨q,J,I⟩
       .cases I;exact⟨r,.head _,e,rfl⟩
       .exact⟨q,.tail _ J,I⟩
      .rcases xX.1 J with rfl|J
       .exact this
       .exact g3 q J O
     .rw[if_neg hlt]at I g2
      have:=g2 _ rfl
      refine⟨?_,fun h' e'=>by cases e';exact this,fun q J O=>?_⟩
      .rcases I with I|⟨q,J,I⟩
       .exact .inl I
       .exact .inr ⟨q,.tail _ J,I⟩
      .rcases xX.1 J with rfl|J
       .grind
       .exact g3 q J O
   .have hs:chS b o r=o:=by unfold chS;rw[if_neg e]
    rw[hs]at I g2
    refine⟨?_,g2,fun q J O=>?_⟩
    .rcases I with I|⟨q,J,I⟩
     .exact .inl I
     .exact .inr ⟨q,.tail _ J,I⟩
    .rcases xX.1 J with rfl|J
     .exact absurd O e
     .exact g3 q J O
  .obtain⟨I,g2⟩:=h2 hg
   by_cases e:(r.1:Int)=b
   .exfalso
    unfold chS at I
    rw[if_pos e]at I
    cases o with
    |none=>cases I
    |some h0=>
     have I:(if r.2<h0 then some r.2 else some h0)=none:=I
     split at I<;>cases I
   .have hs:chS b o r=o:=by unfold chS;rw[if_neg e]
    rw[hs]at I
    refine⟨I,fun q J=>?_⟩
    rcases xX.1 J with rfl|J
    .exact e
    .exact g2 q J
theorem zGJ{g:Rat}(h:ch E a b=some g):(∃k:Nat,(k:Int)=b/\(k,g)∈E a)/\∀(k:Nat) (f:Rat),(k:Int)=b->(k,f)∈E a->g<=f:=by
 obtain⟨I,_,h3⟩:=(zIz b (E a) none).1 g h
 refine⟨?_,fun k f hk hf=>h3 _ hf hk⟩
 rcases I with I|⟨⟨k,f⟩,O,I,J⟩
 .cases I
 .subst J
  exact⟨k,I,O⟩
theorem zQ4(h:ch E a b=none):∀(k:Nat) (f:Rat),(k:Int)=b->(k,f) ∉ E a:=fun _ _ I hf=>((zIz b (E a) none).2 h).2 _ hf I
/-! ### What a walk costs -/
def zD1(E:Adj)(N:Nat)(way:List Int):Nat->WF Rat
 |0=>some 0
 |i+1=>(zD1 E N way i).bind fun s=>if yU N (way.getD i 0)then(if i=0 then some s else(ch E (way.getD (i-1) 0).toNat (way.getD i 0)).map (s+·))else none
def wkR(E:Adj)(N:Nat)(way:List Int):Rat×Bool:=match zD1 E N way way.length with
 |some s=>(s,decide (0<way.length))
 |none=>(0,false)
theorem zKF{E:Adj}{N:Nat}{way:List Int}:∀(i:Nat) {s:Rat},zD1 E N way (i+1)=some s->yU N (way.getD i 0)=true/\Rch E (way.getD 0 0).toNat (way.getD i 0).toNat s i
 | 0,s,h=>by
  have h:(if yU N (way.getD 0 0)then(if 0=0 then some (0:Rat)else none)else none)=some s:=h
  split at h
  .rename_i J
   simp at h
   subst h
   exact⟨J,.nil⟩
  .cases h
 | i+1,s,h=>by
  have e:zD1 E N way (i+1+1)=(zD1 E N way (i+1)).bind fun s=>if yU N (way.getD (i+1) 0)then(if i+1=0 then some s else(ch E (way.getD (i+1-1) 0).toNat (way.getD (i+1) 0)).map (s+·))else none:=rfl
  rw[e]at h
  obtain⟨s0,h0,h⟩:=Option.bind_eq_some_iff.1 h
  obtain⟨_,O⟩:=zKF i h0
  split at h
  .rename_i J
   rw[if_neg oA]at h
   obtain⟨f,hf,rfl⟩:=lH.1 h
   obtain⟨⟨k,hk,I⟩,_⟩:=zGJ hf
   refine⟨J,?_⟩
   have:(way.getD (i+1) 0).toNat=k:=by rw[<-hk];simp
   rw[this]
   exact .cons O I
  .cases h
theorem zON{E:Adj}{N:Nat}(l:List Int)(x:Int):∀i,i<=l.length->zD1 E N (l++ [x]) i=zD1 E N l i
 |0,_=>rfl
 | i+1,h=>by
  have g:∀j,j<l.length->(l++ [x]).getD j 0=l.getD j 0:=fun j hj=>by
   rw[nX,nX,uZ hj]
  show(zD1 E N (l++ [x]) i).bind _=(zD1 E N l i).bind _
  rw[zON l x i oA,g i oA,g (i-1) oA]
/-! ### The way told -/
def zD9(cs:List Rat)(ss:List Int)(at_:Nat)(best:Nat)(r:Nat×Rat):Nat:=if ss.getD r.1 0=ss.getD at_ 0-1/\r.1<best/\cs.getD r.1 0+r.2=cs.getD at_ 0 then r.1 else best
def nxF(E:Adj)(N:Nat)(cs:List Rat)(ss:List Int)(at_:Nat):Nat:=(E at_).foldl (zD9 cs ss at_) N
def zD8(cs:List Rat)(ss:List Int)(at_:Nat)(r:Nat×Rat):Prop:=ss.getD r.1 0=ss.getD at_ 0-1/\cs.getD r.1 0+r.2=cs.getD at_ 0
theorem zHQ(cs:List Rat)(ss:List Int)(at_:Nat):∀(l:List (Nat×Rat)) (b:Nat),(l.foldl (zD9 cs ss at_) b=b∨ ∃r,r∈l/\zD8 cs ss at_ r/\r.1=l.foldl (zD9 cs ss at_) b)/\l.foldl (zD9 cs ss at_) b<=b/\∀r,r∈l->zD8 cs ss at_ r->l.foldl (zD9 cs ss at_) b<=r.1
 | [],b=>⟨.inl rfl,vR _,fun r hr=>by cases hr⟩
 | r::l,b=>by
  obtain⟨I,O,h3⟩:=zHQ cs ss at_ l (zD9 cs ss at_ b r)
  rw[cL]
  have hb:(zD9 cs ss at_ b r=b/\ ¬(zD8 cs ss at_ r/\r.1<b))∨(zD9 cs ss at_ b r=r.1/\zD8 cs ss at_ r/\r.1<b):=by
   unfold zD9 zD8
   split
   .rename_i h;exact .inr ⟨rfl,⟨h.1,h.2.2⟩,h.2.1⟩
   .rename_i h;exact .inl ⟨rfl,fun g=>h ⟨g.1.1,g.2,g.1.2⟩⟩
  rcases hb with⟨e,hn⟩|⟨e,hp,hlt⟩
  .rw[e]at I O h3 ⊢
   refine⟨?_,O,fun q J hp=>?_⟩
   .rcases I with I|⟨q,J,I⟩
    .exact .inl I
    .exact .inr ⟨q,.tail _ J,I⟩
   .rcases xX.1 J with rfl|J
    .exact xQ O (Nat.not_lt.1 fun h=>hn ⟨hp,h⟩)
    .exact h3 q J hp
  .rw[e]at I O h3 ⊢
   refine⟨.inr ?_,oA,fun q J hp=>?_⟩
   .rcases I with I|⟨q,J,I⟩
    .exact⟨r,.head _,hp,I.symm⟩
    .exact⟨q,.tail _ J,I⟩
   .rcases xX.1 J with rfl|J
    .exact O
    .exact h3 q J hp
theorem zEj(h:Rch E a n c 0):n=a/\c=0:=by
 cases h
 exact⟨rfl,rfl⟩
theorem zO6(I:Gok E N)(J:a<N)(h:Rch E a n c s):n<N:=by
 induction h with
 |nil=>exact J
 |cons _ hm ih=>exact(I _ ih _ hm).1
theorem CS.of(h:CS E N a cs ss)(J:n<N)(hp:0<=ss.getD n 0):∃s:Nat,Opt E a n (cs.getD n 0) s/\ss.getD n 0=(s:Int)/\s<=N:=by
 rcases h.at_ n J with I|⟨_,_,I⟩
 .exact I
 .omega
theorem CS.rch(O:Gok E N)(ha:a<N)(h:CS E N a cs ss)(J:Rch E a n c s):∃s:Nat,Opt E a n (cs.getD n 0) s/\ss.getD n 0=(s:Int)/\s<=N:=by
 rcases h.at_ n (zO6 O ha J)with I|⟨I,_⟩
 .exact I
 .exact absurd J (I _ _)
theorem CS.pre(hG:Gok E N)(hS:∀a b f,(b,f)∈E a->(a,f)∈E b)(ha:a<N)(h:CS E N a cs ss)(hs:ss.getD n 0=((s+1:Nat):Int))(ho:Opt E a n (cs.getD n 0) (s+1)):∃r,r∈E n/\zD8 cs ss n r:=by
 generalize hc:cs.getD n 0=c at ho
 generalize he:s+1=s1 at ho hs
 obtain⟨J,I⟩:=ho
 cases J with
 |nil=>omega
 | @cons n0 _ c0 f s0 J hm=>
  obtain rfl:s=s0:=oA
  refine⟨(n0,f),hS _ _ _ hm,?_⟩
  obtain⟨t,ht,O,_⟩:=h.rch hG ha J
  have h1:=ht.2 _ _ J
  have h2:=I _ _ (.cons ht.1 hm)
  have h3:=(h1.add f).anti h2
  refine⟨?_,?_⟩
  .show ss.getD n0 0=_
   rw[O,hs]
   omega
  .show cs.getD n0 0+f=_
   rw[hc]
   exact h3.1
theorem CS.nx(hG:Gok E N)(hS:∀a b f,(b,f)∈E a->(a,f)∈E b)(ha:a<N)(hn:n<N)(h:CS E N a cs ss)(hs:ss.getD n 0=((s+1:Nat):Int))(ho:Opt E a n (cs.getD n 0) (s+1)):
  nxF E N cs ss n<N/\(∃f,(nxF E N cs ss n,f)∈E n/\zD8 cs ss n (nxF E N cs ss n,f))/\(∀r,r∈E n->zD8 cs ss n r->nxF E N cs ss n<=r.1)/\ss.getD (nxF E N cs ss n) 0=(s:Int)/\Opt E a (nxF E N cs ss n) (cs.getD (nxF E N cs ss n) 0) s:=by
 obtain⟨r,hr,hp⟩:=h.pre hG hS ha hs ho
 obtain⟨h1,_,h3⟩:=zHQ cs ss n (E n) N
 have I:nxF E N cs ss n<N:=mC (h3 r hr hp) (hG n hn r hr).1
 have h1:nxF E N cs ss n=N∨ ∃r,r∈E n/\zD8 cs ss n r/\r.1=nxF E N cs ss n:=h1
 have h5:∃r,r∈E n/\zD8 cs ss n r/\r.1=nxF E N cs ss n:=by
  rcases h1 with h1|h1
  .rw[h1]at I;omega
  .exact h1
 obtain⟨⟨k,f⟩,hk,h2,O⟩:=h5
 have O:k=nxF E N cs ss n:=O
 subst O
 have J:ss.getD (nxF E N cs ss n) 0=(s:Int):=by
  have:=h2.1
  rw[hs]at this
  have e:ss.getD (nxF E N cs ss n) 0=((s+1:Nat):Int)-1:=this
  rw[e]
  omega
 obtain⟨t,ht,h4,_⟩:=h.of I (by rw[J];omega)
 obtain rfl:t=s:=by rw[J]at h4;omega
 exact⟨I,⟨f,hk,h2⟩,h3,J,ht⟩
def zD2(nx:Nat->Nat)(a:Nat):Nat->Nat->List Nat
 |0,_=> []
 |f+1,n=>if n=a then[]else nx n::zD2 nx a f (nx n)
def jI(l:List Nat):List Int:=l.map fun n:Nat=>(n:Int)
theorem zHE:(l++ [x]).getD l.length 0=x:=by
 rw[nX,gF (vR _)]
 simp
theorem zKJ{E:Adj}{N a:Nat}{cs:List Rat}{ss:List Int}(hG:Gok E N)(hS:∀a b f,(b,f)∈E a->(a,f)∈E b)(ha:a<N)(h:CS E N a cs ss):∀(s n:Nat),n<N->ss.getD n 0=(s:Int)->Opt E a n (cs.getD n 0) s->
  ∃l:List Nat,n::zD2 (nxF E N cs ss) a s n=l++ [a]/\l.length=s/\zD1 E N (jI (n::zD2 (nxF E N cs ss) a s n).reverse) (s+1)=some (cs.getD n 0)
 | 0,n,hn,hs,ho=>by
  obtain⟨rfl,hc⟩:=zEj ho.1
  refine⟨[],rfl,rfl,?_⟩
  show(if yU N (([(n:Int)]:List Int).getD 0 0)then(if 0=0 then some (0:Rat)else none)else none)=_
  have:yU N (([(n:Int)]:List Int).getD 0 0)=true:=by
   show yU N (n:Int)=true
   rw[zGA]
   exact eY hn
  rw[if_pos this,hc]
  rfl
 | s+1,n,hn,hs,ho=>by
  obtain⟨g1,⟨f,g2,g3⟩,_,g4,g5⟩:=h.nx hG hS ha hn hs ho
  have hh:n≠a:=fun e=>by
   subst e
   have:=ho.2 _ _ .nil
   have hnn:=ho
   rcases this with O|⟨_,O⟩
   .have:∀{n c s},Rch E n n c s->True:=fun _=>trivial
    have hc:(0:Rat)<=cs.getD n 0:=by
     have he:∀m c t,Rch E n m c t->0<=c/\m<N:=fun m c t hr=>by
      induction hr with
      |nil=>exact⟨Rat.le_refl,hn⟩
      |cons _ hm ih=>
       have:=(hG _ ih.2 _ hm)
       exact⟨by have h5:=this.2;have h6:=ih.1;grind,this.1⟩
     exact(he _ _ _ ho.1).1
    grind
   .omega
  have e:zD2 (nxF E N cs ss) a (s+1) n=nxF E N cs ss n::zD2 (nxF E N cs ss) a s (nxF E N cs ss n):=by
   show(if n=a then[]else _)=_
   rw[if_neg hh]
  obtain⟨l,O,h2,h3⟩:=zKJ hG hS ha h s (nxF E N cs ss n) g1 g4 g5
  rw[e,O]
  refine⟨n::l,rfl,by simp[h2],?_⟩
  rw[O]at h3
  have J:jI (n::(l++ [a])).reverse=jI (l++ [a]).reverse++ [(n:Int)]:=by
   unfold jI
   rw[List.reverse_cons,pB]
   rfl
  have I:(jI (l++ [a]).reverse).length=s+1:=by unfold jI;simp[h2]
  rw[J]
  show(zD1 E N (jI (l++ [a]).reverse++ [(n:Int)]) (s+1)).bind _=_
  rw[zON _ _ _ oA,h3]
  have hi:(jI (l++ [a]).reverse++ [(n:Int)]).getD (s+1) 0=(n:Int):=by
   rw[<-I];exact zHE
  have hd:(jI (l++ [a]).reverse++ [(n:Int)]).getD s 0=((nxF E N cs ss n:Nat):Int):=by
   have h4:(jI (l++ [a]).reverse)=jI (zD2 (nxF E N cs ss) a s (nxF E N cs ss n)).reverse++ [((nxF E N cs ss n:Nat):Int)]:=by
    rw[<-O]
    unfold jI
    rw[List.reverse_cons,pB]
    rfl
   have h5:(jI (zD2 (nxF E N cs ss) a s (nxF E N cs ss n)).reverse).length=s:=by
    have:=vX List.length h4
    rw[I,uD]at this
    simpa using this.symm
   rw[nX,uZ oA,h4,<-nX]
   have:=zHE (l:=jI (zD2 (nxF E N cs ss) a s (nxF E N cs ss n)).reverse) (x:=((nxF E N cs ss n:Nat):Int))
   rwa [h5]at this
  show(if yU N ((jI (l++ [a]).reverse++ [(n:Int)]).getD (s+1) 0)then(if s+1=0 then _ else(ch E ((jI (l++ [a]).reverse++ [(n:Int)]).getD (s+1-1) 0).toNat ((jI (l++ [a]).reverse++ [(n:Int)]).getD (s+1) 0)).map (cs.getD (nxF E N cs ss n) 0+·))else none)=_
  rw[gG,hi,hd,zGA,if_pos (eY hn),if_neg oA,fR]
  have h0:=hS _ _ _ g2
  cases hch:ch E (nxF E N cs ss n) (n:Int)with
  |none=>exact absurd h0 (zQ4 hch n f rfl)
  |some g=>
   obtain⟨⟨k,hk,hq⟩,hb⟩:=zGJ hch
   obtain rfl:k=n:=oA
   have h6:=hb k f rfl h0
   have h7:=ho.2 _ _ (.cons g5.1 hq)
   have h8:cs.getD (nxF E N cs ss k) 0+f=cs.getD k 0:=g3.2
   show some (cs.getD (nxF E N cs ss k) 0+g)=some (cs.getD k 0)
   congr 1
   rcases h7 with h7|⟨h7,_⟩
   .grind
   .exact h7.symm
def Con(E:Adj)(a n:Nat):Prop:=∃c s,Rch E a n c s
theorem Con.refl(E:Adj)(a:Nat):Con E a a:=⟨_,_,.nil⟩
theorem Con.step(h:Con E a n)(I:r∈E n):Con E a r.1:=by
 obtain⟨c,s,h⟩:=h
 exact⟨_,_,.cons h (b:=r.1) (f:=r.2) I⟩
theorem Con.trans{b:Nat}(h:Con E a b)(k:Con E b n):Con E a n:=by
 obtain⟨c,s,k⟩:=k
 induction k with
 |nil=>exact h
 |cons _ he ih=>exact(ih).step he
theorem Con.symm(I:∀a b f,(b,f)∈E a->(a,f)∈E b){a b:Nat}(h:Con E a b):Con E b a:=by
 obtain⟨c,s,h⟩:=h
 induction h with
 |nil=>exact Con.refl _ _
 |cons _ he ih=>exact((Con.refl E _).step (I _ _ _ he)).trans ih
def Lst(E:Adj)(m n:Nat):Prop:=Con E m n/\∀m',m'<m-> ¬Con E m' n
theorem Lst.one(h:Lst E m n)(k:Lst E m' n):m=m':=by
 rcases gX m m' with e|e|e
 .exact absurd h.1 (k.2 _ e)
 .exact e
 .exact absurd k.1 (h.2 _ e)
structure OI(E:Adj)(N i:Nat)(lab:List Int):Prop where
 ln:lab.length=N
 at_:∀n,n<N->(lab.getD n 0= -1/\∀m,m<i-> ¬Con E m n)∨ ∃m:Nat,lab.getD n 0=(m:Int)/\m<i/\Lst E m n
structure II(E:Adj)(N i:Nat)(lab:List Int)(X:List Nat):Prop where
 ln:lab.length=N
 me:lab.getD i 0=(i:Int)
 at_:∀n,n<N->(lab.getD n 0= -1/\∀m,m<i-> ¬Con E m n)∨ ∃m:Nat,lab.getD n 0=(m:Int)/\m<=i/\Lst E m n
 td:∀x,x∈X->x<N/\lab.getD x 0=(i:Int)
 cl:∀x,x<N->lab.getD x 0=(i:Int)->x ∉ X->∀r,r∈E x->lab.getD r.1 0≠-1
theorem OI.begin(E:Adj)(N:Nat):OI E N 0 (List.replicate N (-1)):=⟨eN,fun n h=>.inl ⟨by simp[h],fun m I=>absurd I (pC _)⟩⟩
theorem OI.skip(h:OI E N i lab)(hi:i<N)(h0:0<=lab.getD i 0)(hS:∀a b f,(b,f)∈E a->(a,f)∈E b):OI E N (i+1) lab:=by
 refine⟨h.ln,fun n hn=>?_⟩
 rcases h.at_ n hn with⟨J,I⟩|⟨m,J,I,h3⟩
 .refine .inl ⟨J,fun m hm O=>?_⟩
  rcases xZ m i with e|e
  .exact I m e O
  .obtain rfl:m=i:=oA
   rcases h.at_ m hi with⟨g1,_⟩|⟨m',g1,g2,g3⟩
   .omega
   .exact I m' g2 (g3.1.trans O)
 .exact .inr ⟨m,J,oA,h3⟩
theorem qW(l:List Int)(i k:Nat)(h:i<l.length)(z:Int):(l.set i z).getD k 0=if k=i then z else l.getD k 0:=by
 by_cases e:k=i
 .subst e;simp[h]
 .rw[if_neg e];simp[pM (xY e)]
theorem OI.enter(h:OI E N i lab)(O:i<N)(h0: ¬0<=lab.getD i 0):II E N i (lab.set i (i:Int)) [i]:=by
 have J:i<lab.length:=by rw[h.ln];exact O
 have h1:∀m,m<i-> ¬Con E m i:=by
  rcases h.at_ i O with⟨_,g⟩|⟨m,g,_⟩
  .exact g
  .omega
 refine⟨by rw[uC];exact h.ln,by rw[qW _ _ _ J,if_pos rfl],fun n hn=>?_,fun x hx=>?_,fun x hx I hX=>?_⟩
 .rw[qW _ _ _ J]
  by_cases e:n=i
  .rw[if_pos e,e]
   exact .inr ⟨i,rfl,vR _,Con.refl _ _,h1⟩
  .rw[if_neg e]
   rcases h.at_ n hn with g|⟨m,g1,g2,g3⟩
   .exact .inl g
   .exact .inr ⟨m,g1,oA,g3⟩
 .obtain rfl:=nY.1 hx
  exact⟨O,by rw[qW _ _ _ J,if_pos rfl]⟩
 .rw[qW _ _ _ J]at I
  have e:x≠i:=fun e=>hX (by rw[e];exact .head _)
  rw[if_neg e]at I
  rcases h.at_ x hx with⟨g,_⟩|⟨m,g1,g2,_⟩<;>omega
theorem II.more(h:II E N i lab X)(hG:Gok E N)(ha:a<N)(hla:lab.getD a 0=(i:Int)){r:Nat×Rat}(hr:r∈E a)(h0:lab.getD r.1 0<0):II E N i (lab.set r.1 (i:Int)) (X++ [r.1]):=by
 have I:=(hG a ha r hr).1
 have hl:r.1<lab.length:=by rw[h.ln];exact I
 have h4:lab.getD r.1 0= -1/\∀m,m<i-> ¬Con E m r.1:=by
  rcases h.at_ r.1 I with g|⟨m,g,_⟩
  .exact g
  .omega
 have h2:Con E i a:=by
  rcases h.at_ a ha with⟨g,_⟩|⟨m,g1,_,g3⟩
  .omega
  .obtain rfl:m=i:=oA
   exact g3.1
 have h3:r.1≠i:=fun e=>by have:=h.me;rw[e]at h0;omega
 refine⟨by rw[uC];exact h.ln,by rw[qW _ _ _ hl,if_neg (fun e=>h3 e.symm)];exact h.me,fun n hn=>?_,fun x O=>?_,fun x O J hX q hq=>?_⟩
 .rw[qW _ _ _ hl]
  by_cases e:n=r.1
  .rw[if_pos e,e]
   exact .inr ⟨i,rfl,vR _,h2.step hr,h4.2⟩
  .rw[if_neg e]
   exact h.at_ n hn
 .rw[qW _ _ _ hl]
  rcases uL.1 O with O|O
  .obtain⟨g1,g2⟩:=h.td x O
   refine⟨g1,?_⟩
   by_cases e:x=r.1
   .rw[if_pos e]
   .rw[if_neg e];exact g2
  .obtain rfl:=nY.1 O
   exact⟨I,by rw[if_pos rfl]⟩
 .rw[qW _ _ _ hl]at J ⊢
  have e:x≠r.1:=fun e=>hX (uL.2 (.inr (by rw[e];exact .head _)))
  rw[if_neg e]at J
  by_cases e2:q.1=r.1
  .rw[if_pos e2];omega
  .rw[if_neg e2]
   exact h.cl x O J (fun hh=>hX (uL.2 (.inl hh))) q hq
theorem vQ(h:II E N i lab (a::X))(J:∀r,r∈E a-> ¬lab.getD r.1 0<0):II E N i lab X:=by
 refine⟨h.ln,h.me,h.at_,fun x hx=>h.td x (.tail _ hx),fun x hx O hX r hr=>?_⟩
 by_cases e:x=a
 .subst e
  have:=J r hr
  omega
 .exact h.cl x hx O (fun I=>by rcases xX.1 I with I|I;exact e I;exact hX I) r hr
theorem II.perm{Y:List Nat}(h:II E N i lab X)(hp:∀x,x∈X↔x∈Y):II E N i lab Y:=⟨h.ln,h.me,h.at_,fun x I=>h.td x ((hp x).2 I),fun x I O J=>h.cl x I O fun hh=>J ((hp x).1 hh)⟩
theorem II.done(h:II E N i lab [])(hG:Gok E N)(hS:∀a b f,(b,f)∈E a->(a,f)∈E b)(hi:i<N):OI E N (i+1) lab:=by
 have h0:∀m,m<i-> ¬Con E m i:=by
  rcases h.at_ i hi with⟨g,_⟩|⟨m,g1,g2,g3⟩
  .have:=h.me;omega
  .have:=h.me
   obtain rfl:m=i:=oA
   exact g3.2
 have h5:∀n,Con E i n->lab.getD n 0=(i:Int):=by
  rintro n ⟨c,s,hr⟩
  induction hr with
  |nil=>exact h.me
  | @cons n b c f s hw he ih=>
   have I:=zO6 hG hi hw
   have J:=h.cl n I ih eN (b,f) he
   have O:=(hG n I (b,f) he).1
   rcases h.at_ b O with⟨g,_⟩|⟨m,g1,g2,g3⟩
   .exact absurd g J
   .rcases xZ m i with e|e
    .exfalso
     refine h0 m e (g3.1.trans ?_)
     exact Con.symm hS ⟨_,_,.cons hw he⟩
    .obtain rfl:m=i:=oA
     exact g1
 refine⟨h.ln,fun n hn=>?_⟩
 rcases h.at_ n hn with⟨J,h2⟩|⟨m,J,h2,h3⟩
 .refine .inl ⟨J,fun m hm hc=>?_⟩
  rcases xZ m i with e|e
  .exact h2 m e hc
  .obtain rfl:m=i:=oA
   have:=h5 n hc
   omega
 .exact .inr ⟨m,J,oA,h3⟩
structure Labd(E:Adj)(N:Nat)(lab:List Int):Prop where
 ln:lab.length=N
 at_:∀n,n<N->∃m:Nat,lab.getD n 0=(m:Int)/\m<=n/\Lst E m n
theorem OI.labd(h:OI E N N lab):Labd E N lab:=by
 refine⟨h.ln,fun n O=>?_⟩
 rcases h.at_ n O with⟨_,J⟩|⟨m,h1,J,h3⟩
 .exact absurd (Con.refl E n) (J n O)
 .refine⟨m,h1,Nat.le_of_not_lt fun I=>h3.2 n I (Con.refl E n),h3⟩
theorem Labd.one{l':List Int}(h:Labd E N l)(k:Labd E N l'):l=l':=by
 refine gE (h.ln.trans k.ln.symm) fun n O h2=>?_
 obtain⟨m,g1,_,g2⟩:=h.at_ n (by rw[<-h.ln];exact O)
 obtain⟨m',J,_,I⟩:=k.at_ n (by rw[<-h.ln];exact O)
 have e:=g2.one I
 have e1:l.getD n 0=l[n]:=by simp[O]
 have e2:l'.getD n 0=l'[n]:=by simp[h2]
 rw[<-e1,<-e2,g1,J,e]
def zKk(l:List Int):Nat:=l.countP (fun z=>decide (z<0))
theorem zJu{z:Int}(I:i<l.length)(h:l.getD i 0<0)(hz: ¬z<0):zKk (l.set i z)+1=zKk l:=by
 induction l generalizing i with
 |nil=>simp at I
 | cons x l ih=>
  cases i with
  |zero=>
   have J:x<0:=by simpa using h
   simp[zKk,J,hz,List.countP_cons]
  |succ i=>
   have:=ih (i:=i) (by simpa using I) (by simpa using h)
   unfold zKk at this ⊢
   simp only[List.set_cons_succ,List.countP_cons]
   omega
end Go.Proofs.Wd
