/- Walks of package vec: Of, Cmp, Norm; of side.Between; of package hull: and what it needs. -/
import Derived.Test.YtehljpeimkbahaaGreatDoorMHE20
import Derived.Test.YtehljpeimkbahaaGreatDoorMHE19
import Derived.Lib.AppendZeros
import Derived.Test.YtehljpeimkbahaaGreatDoorMHE13
theorem kI {P:Prop} (h:P:=by kernel_rfl):P:=h
theorem oP {P:Prop} (h:P:=by omega):P:=h
theorem dB {P:Prop} (h:P:=by decide):P:=h
abbrev zWS:=@Go.wpIn_seq
abbrev zWT:=@Go.wpIn_ret
abbrev zWU:=@Go.wpIn_skip
abbrev zWV:=@Go.wpIn_block
abbrev zWW:=@List.mem_singleton
abbrev zWX:=@Nat.le_trans
abbrev zWY:=@of_decide_eq_true
abbrev zWZ:=@of_decide_eq_false
abbrev zW0:=@List.getElem?_eq_getElem
abbrev zW1:=@Nat.zero_le
abbrev zW2:=@Go.wpIn_exit
abbrev zW3:=@List.mem_cons
abbrev zW4:=@Go.IntKind.wrap_i64
abbrev zW5:=@List.getElem?_map
abbrev zW6:=@Array.getElem?_eq_some_iff
abbrev zW7:=@Nat.le_refl
abbrev zW8:=@List.length_map
abbrev zW9:=@Nat.lt_of_lt_of_le
abbrev zXa:=@List.take_of_length_le
abbrev zXb:=@Go.RowKit.Below.refl
abbrev zXc:=@List.getD_eq_getElem?_getD
abbrev zXd:=@List.length_append
abbrev zXe:=@List.getElem?_eq_some_iff
abbrev zXf:=@List.drop_of_length_le
abbrev zXg:=@List.nil_append
abbrev zXh:=@List.all_append
abbrev zXi:=@List.flatMap_append
abbrev zXj:=@decide_eq_false
abbrev zXk:=@decide_eq_decide
abbrev zXl:=@Rat.mul_eq_zero
abbrev zXm:=@List.drop_append_of_le_length
abbrev zXn:=@List.take_append_of_le_length
abbrev Wp:=Go.World
abbrev Wq:=Go.Value
abbrev Wr:=Go.TypeId
abbrev Ws:=Option
namespace Go.Proofs.Wd
open Tryz
set_option maxRecDepth 100000
set_option maxHeartbeats 1000000
open Go.RowKit Lb
section
variable {f g f' g':UF}
theorem zQW (cs:List Wq) (W:Wp) (h:(CU.agg (fPR (fPT f g) (fPT f' g'))).p cs W):0+3<=cs.length/\f.p (.agg ((cs.drop 0).take 3).toArray) W:=by
 obtain ⟨a,b,rfl,l1,l2,h1,_⟩:=zBb h
 refine ⟨by simp [l1,l2], ?_⟩
 have:=(zC7 a W h1).2
 rwa [zXm oP,zXn (by simp;omega)]
theorem zNO (cs:List Wq) (W:Wp) (h:(CU.agg (fPR (fPT f g) (fPT f' g'))).p cs W):6+3<=cs.length/\f'.p (.agg ((cs.drop 6).take 3).toArray) W:=by
 obtain ⟨a,b,rfl,l1,l2,_,h2⟩:=zBb h
 refine ⟨by simp [l1,l2], ?_⟩
 have:=(zC7 b W h2).2
 rwa [show 6=a.length+0 by omega,List.drop_append,zXf oP,zXg,Nat.add_sub_cancel_left]
end
def zBf (lo hi r:Rat):Bool:=decide (qsg lo r<=0)&&decide (qsg r hi<=0)
theorem zJr {lo hi r:Rat}:zBf lo hi r=true↔lo<=r/\r<=hi:=by
 have key: ∀p q:Rat,decide (qsg p q<=0)=true↔p<=q:=fun p q=>by
  rw [decide_eq_true_iff]
  rcases zEI p q with e|e|e
  ·rw [e];exact ⟨fun _=>Rat.le_of_lt (zGY.1 e),fun _=>by decide⟩
  ·rw [e];exact ⟨fun _=>by rw [zCh.1 e];exact Rat.le_refl,fun _=>by decide⟩
  ·rw [e];exact ⟨fun h=>absurd h dB,fun h=>absurd (zGZ.1 e) (Rat.not_lt.2 h)⟩
 unfold zBf
 rw [Bool.and_eq_true,key,key]
def zPt (lo hi x:V2):Bool:=zBf lo.1 hi.1 x.1&&zBf lo.2 hi.2 x.2
def zL0 (lo hi x:V2):Bool:= !(zBf lo.1 hi.1 x.1)|| !(zBf lo.2 hi.2 x.2)
theorem zRl (lo hi x:V2):zL0 lo hi x= !(zPt lo hi x):=by unfold zL0 zPt;cases zBf lo.1 hi.1 x.1<;>cases zBf lo.2 hi.2 x.2<;>rfl
theorem zRk (lo hi:V2) (ps:List V2):(!(ps.any (zL0 lo hi)))=ps.all (zPt lo hi):=by
 induction ps with
 |nil=>rfl
 |cons p ps ih=>rw [List.any_cons,List.all_cons, <-ih,zRl];cases zPt lo hi p<;>cases ps.any (zL0 lo hi)<;>rfl
def inK (ps:List V2) (p:V2) (k:Nat):Bool:=decide ((ps.length:Int)≥3)&&(List.range k).all fun i=>zBg (at_ ps i) (at_ ps ((i+1) % ps.length)) p==1
theorem zOh (ps:List V2) (p:V2) (k:Nat):inK ps p (k+1)=(inK ps p k&&(zBg (at_ ps k) (at_ ps ((k+1) % ps.length)) p==1)):=by simp [inK,List.range_succ,Bool.and_assoc]
theorem zOg (ps:List V2) (p:V2):inK ps p 0=decide ((ps.length:Int)≥3):=by simp [inK]
theorem zOi {ps:List V2} {p:V2} {k:Nat} (h:inK ps p k=false) (hk:k<=ps.length):inK ps p ps.length=false:=by
 unfold inK at*
 rw [Bool.and_eq_false_iff] at*
 rcases h with h|h
 ·exact .inl h
 ·right
  rw [List.all_eq_false] at*
  obtain ⟨i,hi,e⟩:=h
  exact ⟨i,List.mem_range.2 (by have:=List.mem_range.1 hi;omega),e⟩
theorem zQb {W:Wp} {u v:Wq} {x y:Int} (hu:u= .int .i64 x) (hv:v= .int .i64 y) (hx: -9223372036854775808<=x/\x<=9223372036854775807) (hy: -9223372036854775808<=y/\y<=9223372036854775807):Calls prog 49 #[u,v] W (Ret W (fPN (((x:Int):Rat),((y:Int):Rat))).tS):=by
 refine yB [(uI x).tS,(uI y).tS] func49 rfl kI ⟨hu,hv,trivial⟩ fun a s=> ?_
 refine zWS ?_
 refine zB 0 [] hmix s kI
  zD fun a w1 s=> ?_
 refine z7 (CU.len 6) (cs:=zP6) kI rfl s kI (fun W=>rfl) rfl fun b4 a w s=> ?_
 refine zA rfl ?_
 refine zWS ?_
 refine zB 5 ((5, .s ((uI x).tS))::(6, .s ((fQN ((x:Int):Rat)).tS))::(7, .s ((uI y).tS))::(8, .s ((fQN ((y:Int):Rat)).tS))::(9, .u (fPN (((x:Int):Rat),((y:Int):Rat)))):: []) hmix s kI
  (oc zC<|oc (zH zE zRv (fun u0 W hb (h0:u0= .int .i64 x)=>zSf x h0 hx))<|oc zC<|oc (zH zE zRv (fun u0 W hb (h0:u0= .int .i64 y)=>zSf y h0 hy))<|oc (qA (fun u v W (hu:QNp ((x:Int):Rat) u W) (hv:QNp ((y:Int):Rat) v W)=>zPT (zAu _) (zAu _) hu hv))<|zD) fun a w2 s=> ?_
 refine zR (CU.agg (fPN (((x:Int):Rat),((y:Int):Rat)))) ((fPN (((x:Int):Rat),((y:Int):Rat))).tS) rfl s kI rfl rfl rfl iiz iiz y5 fun a w s=> ?_
 refine zA rfl ?_
 refine zWT ?_
 exact wE s (CU.agg (fPN (((x:Int):Rat),((y:Int):Rat)))) rfl kI rfl rfl (zO _ _) (fun cs W h=>h)
theorem zRP {m:Nat} {W:Wp} {u v:Wq} {p q:V2} (h1:(fPV m p).p u W) (h2:(fPV m q).p v W) (hm:m<=2000) (hm0:0<m) (hT:Tab W):Calls prog 75 #[u,v] W (Ret W (fI (yY p q)).tS):=by
 refine yB [(fPV m p).tS,(fPV m q).tS] func75 rfl kI ⟨h1,h2,trivial⟩ fun a s=> ?_
 refine zWS ?_
 refine zB 0 [] hmix s kI
  zD fun a w1 s=> ?_
 refine yO (CU.agg (fPV m p)) rfl s kI (fun v W h=>yV h) fun b2 a w s=> ?_
 refine yO (CU.agg (fPV m q)) rfl s kI (fun v W h=>yV h) fun b3 a w s=> ?_
 refine yU (uI 0) rfl s kI iiz fun a w s=> ?_
 refine zA rfl ?_
 refine zWS ?_
 refine zWS ?_
 refine zB 6 ((6, .s (wB ((CU.agg (fPV m p)).cf.at 0)))::(7, .s ((fRV m ((p).1)).tS))::(8, .s (wB ((CU.agg (fPV m q)).cf.at 0)))::(9, .s ((fRV m ((q).1)).tS))::(10, .s ((uI (qsg (p).1 (q).1)).tS))::(5, .u (uI (qsg (p).1 (q).1))):: []) hmix s kI
  (oc (zJ (C:=(CU.agg (fPV m p)).cf) 0 kI)<|oc (zP (C:=(CU.agg (fPV m p)).cf) (k:=0) 3 kI (h:=zC7))<|oc (zJ (C:=(CU.agg (fPV m q)).cf) 0 kI)<|oc (zP (C:=(CU.agg (fPV m q)).cf) (k:=0) 3 kI (h:=zC7))<|oc (zI zE zFd (fun u0 u1 W hb (h0:RVp m ((p).1) u0 W) (h1:RVp m ((q).1) u1 W)=>zCP h0 h1 hm hm0 (hT.below (s.up hb))))<|oc zG<|zD) fun a w2 s=> ?_
 refine zA rfl ?_
 refine zWS ?_
 refine zB 2 ((11, .s ((uI (qsg (p).1 (q).1)).tS))::(12, .u (uB (qsg (p).1 (q).1 !=0))):: []) hmix s kI
  (oc zC<|oc (zS .i64 (qsg (p).1 (q).1) 0 (qsg (p).1 (q).1 !=0) iiz iiz rfl rfl)<|zD) fun a w3 s=> ?_
 refine zA rfl ?_
 refine StS.cond s (qsg (p).1 (q).1 !=0) iiz (fun e=> ?_) (fun e=> ?_)
 ·refine zWS ?_
  replace s:=s.drop [4]
  refine zB 2 ((13, .s ((uI (qsg (p).1 (q).1)).tS))::(4, .u (uI (qsg (p).1 (q).1))):: []) hmix s kI
   (oc zC<|oc zG<|zD) fun a w4 s=> ?_
  refine zA rfl ?_
  refine zWT ?_
  exact wD s (t:=4) rfl (fun v W h=>by rw [zPQ e];exact h)
 ·refine zWU ?_
  refine zWS ?_
  replace s:=s.drop [4]
  refine zB 6 ((14, .s (wB ((CU.agg (fPV m p)).cf.at 3)))::(15, .s ((fRV m ((p).2)).tS))::(16, .s (wB ((CU.agg (fPV m q)).cf.at 3)))::(17, .s ((fRV m ((q).2)).tS))::(18, .s ((uI (qsg (p).2 (q).2)).tS))::(4, .u (uI (qsg (p).2 (q).2))):: []) hmix s kI
   (oc (zJ (C:=(CU.agg (fPV m p)).cf) 3 kI)<|oc (zP (C:=(CU.agg (fPV m p)).cf) (k:=3) 3 kI (h:=zC6))<|oc (zJ (C:=(CU.agg (fPV m q)).cf) 3 kI)<|oc (zP (C:=(CU.agg (fPV m q)).cf) (k:=3) 3 kI (h:=zC6))<|oc (zI zE zFd (fun u0 u1 W hb (h0:RVp m ((p).2) u0 W) (h1:RVp m ((q).2) u1 W)=>zCP h0 h1 hm hm0 (hT.below (s.up hb))))<|oc zG<|zD) fun a w5 s=> ?_
  refine zA rfl ?_
  refine zWT ?_
  exact wD s (t:=4) rfl (fun v W h=>by rw [zPP e];exact h)
theorem zKp {m:Nat} {W:Wp} {l:Wq} {ps:List V2} (hl:(SF.row 6 (pvs m ps)).p l W) (hm:m<=2000) (hm0:0<m) (hps:ps.length<=1000000) (hT:Tab W):Calls prog 48 #[l] W (Ret W (wI W 30 6 (pns ps))):=by
 refine yB [(UF.eq l).tS] func48 rfl kI ⟨rfl,trivial⟩ fun a s=> ?_
 replace s:=s.renew [(0, .u (UF.eq l))] (fmz ⟨.inr ⟨_,rfl, .head _⟩,fnz⟩)
 refine zWS ?_
 refine zB 1 ((2, .u (UF.eq (.slice none 0 0))):: []) hmix s kI
  (oc zG<|zD) fun a w1 s=> ?_
 refine zA rfl ?_
 refine zWS ?_
 refine zWS ?_
 refine zB 3 ((5, .u (UF.eq l))::(6, .u (uI ((pvs m ps).length:Int)))::(7, .u (uI 0)):: []) hmix s kI
  (oc zC<|oc (y4 (z:=6) (Cs:=pvs m ps) kI (fun v W hb h=>(yZ hl h (s.up hb))) (fun _=>rfl))<|oc zC<|zD) fun a w2 s=> ?_
 refine zA rfl ?_
 refine zWV ?_
 obtain ⟨base,hbase⟩: ∃b,b=w2.heap.size:=⟨_,rfl⟩
 have hb0:W.heap.size<=base:=by rw [hbase];exact s.gr.size
 have hsz0:base<=w2.heap.size:=by rw [hbase];exact zW7 _
 refine zEy (fun (p:Nat×Wq) w=>p.1<=ps.length/\base<=w.heap.size/\zAR w base 30 6 p.2 (pns (ps.take p.1))) (fun p=> [(5, .u (UF.eq l)),(6, .u (uI ((pvs m ps).length:Int))),(2, .u (UF.eq (p.2))),(7, .u (uI (p.1:Int)))]) (fun p=>ps.length - p.1) (0, .slice none 0 0) (⟨zW1 _,hsz0,zAR.nil _ _ _ _⟩) (s.keepK _ (fmz ⟨.head _,fmz ⟨mz1,fmz ⟨mz3,fmz ⟨mz2,fnz⟩⟩⟩⟩)) fun p a w hI s=> ?_
 have s0:=s
 have hlw:=(SF.row 6 (pvs m ps)).st _ _ _ hl s0.below
 have hT0:=hT
 have hT:=hT0.below s0.below
 replace s:=s.reb rfl [(5, .u (UF.eq l)),(6, .u (uI ((pvs m ps).length:Int))),(2, .u (UF.eq (p.2))),(7, .u (uI (p.1:Int)))] (fmz ⟨.inl (.head _),fmz ⟨.inl mz1,fmz ⟨.inl mz2,fmz ⟨.inl mz3,fnz⟩⟩⟩⟩)
 refine zWS ?_
 refine zB 1 ((8, .u (uB (decide ((p.1:Int)<((pvs m ps).length:Int))))):: []) hmix s kI
  (oc (zS .i64 (p.1:Int) ((pvs m ps).length:Int) (decide ((p.1:Int)<((pvs m ps).length:Int))) iiz iiz rfl rfl)<|zD) fun a w3 s=> ?_
 refine zA rfl ?_
 refine zWS ?_
 refine StS.cond s (decide ((p.1:Int)<((pvs m ps).length:Int))) iiz (fun e=> ?_) (fun e=> ?_)
 ·have hk:p.1<ps.length:=by have:=zWY e;simp at this;omega
  refine zWU ?_
  refine zWS ?_
  refine zWV ?_
  refine zWS ?_
  refine zB 2 ((9, .s (wB (CU.agg (fPV m (at_ ps p.1))).cf))::(10, .u (fPV m (at_ ps p.1))):: []) hmix s kI
   (oc (yJ (z:=6) (Cs:=pvs m ps) (i:=p.1) (C:=CU.agg (fPV m (at_ ps p.1))) kI (qQ hk) (fun v W hb h=>(yZ hlw h (s.up hb))) iiz)<|oc (zK (f:=fPV m (at_ ps p.1)) 6 kI (hz:=zO _ _))<|zD) fun a w4 s=> ?_
  refine z7 (CU.len 6) (cs:=zP6) kI rfl s kI (fun W=>rfl) rfl fun b4 a w s=> ?_
  refine zR (CU.agg (fPV m (at_ ps p.1))) ((fPV m (at_ ps p.1)).tS) rfl s kI rfl rfl rfl iiz iiz y5 fun a w s=> ?_
  refine zA rfl ?_
  refine zCe (K:= [(10, .u (fPV m (at_ ps p.1))),(8, .u (uB (decide ((p.1:Int)<((pvs m ps).length:Int))))),(5, .u (UF.eq l)),(6, .u (uI ((pvs m ps).length:Int))),(7, .u (uI (p.1:Int)))]) [(2, .u (UF.eq (p.2)))] [0] 9 ((11, .u (UF.eq (p.2)))::(12, .s (wB ((CU.agg (fPV m (at_ ps p.1))).cf.at 0)))::(13, .s ((fRV m ((at_ ps p.1).1)).tS))::(14, .s ((fQN ((at_ ps p.1).1)).tS))::(15, .s (wB ((CU.agg (fPV m (at_ ps p.1))).cf.at 3)))::(16, .s ((fRV m ((at_ ps p.1).2)).tS))::(17, .s ((fQN ((at_ ps p.1).2)).tS))::(18, .s ((fPN ((at_ ps p.1).1,(at_ ps p.1).2)).tS))::(19, .s (SF.row 6 [CU.agg (fPN ((at_ ps p.1).1,(at_ ps p.1).2))])):: []) hmix (s.keepK _ (fmz ⟨mz4,fmz ⟨.head _,fmz ⟨mz1,fmz ⟨mz2,fmz ⟨mz3,fmz ⟨mz5,fnz⟩⟩⟩⟩⟩⟩)) kI
   (oc zC<|oc (zJ (C:=(CU.agg (fPV m (at_ ps p.1))).cf) 0 kI)<|oc (zP (C:=(CU.agg (fPV m (at_ ps p.1))).cf) (k:=0) 3 kI (h:=zC7))<|oc (zH zE zS6 (fun u0 W hb (h0:RVp m ((at_ ps p.1).1) u0 W)=>zKV (m:=m) h0 hm hm0 (hT.below (s.up hb))))<|oc (zJ (C:=(CU.agg (fPV m (at_ ps p.1))).cf) 3 kI)<|oc (zP (C:=(CU.agg (fPV m (at_ ps p.1))).cf) (k:=3) 3 kI (h:=zC6))<|oc (zH zE zS6 (fun u0 W hb (h0:RVp m ((at_ ps p.1).2) u0 W)=>zKV (m:=m) h0 hm hm0 (hT.below (s.up hb))))<|oc (qA (fun u v W (hu:QNp ((at_ ps p.1).1) u W) (hv:QNp ((at_ ps p.1).2) v W)=>zPT (zAu _) (zAu _) hu hv))<|oc (zAW (fun u W (hu:(fPN ((at_ ps p.1).1,(at_ ps p.1).2)).p u W)=>zKz hu))<|zD) fun Q' hQ a w5 s hr=> ?_
  refine zM3 ([CU.agg (fPN ((at_ ps p.1).1,(at_ ps p.1).2))]) s0 (s.keepK [(11, .u (UF.eq (p.2))),(10, .u (fPV m (at_ ps p.1))),(8, .u (uB (decide ((p.1:Int)<((pvs m ps).length:Int))))),(5, .u (UF.eq l)),(6, .u (uI ((pvs m ps).length:Int))),(7, .u (uI (p.1:Int)))] (fmz ⟨.head _,fmz ⟨mz1,fmz ⟨mz2,fmz ⟨mz3,fmz ⟨mz4,fmz ⟨mz5,fnz⟩⟩⟩⟩⟩⟩)) hb0 hI.2 rfl kI kI kI (s.fct (.tmp 11)) (hr (_,_) mz8) (zPh _ _) (by simp;omega) (fun q hq hr=>by rcases zW3.1 hq with rfl|hq;cases hr;cases hq) fun v' a w hI' s=> ?_
  have s1:=s
  replace s:StS _ _ _ [⟨4,30,CU.agg (fPV m (at_ ps p.1)),b4,true⟩] _ _ _ _:=s.freeze
  replace s:=s.reb rfl [(20, .u (UF.eq v')),(11, .u (UF.eq (p.2))),(10, .u (fPV m (at_ ps p.1))),(8, .u (uB (decide ((p.1:Int)<((pvs m ps).length:Int))))),(5, .u (UF.eq l)),(6, .u (uI ((pvs m ps).length:Int))),(7, .u (uI (p.1:Int)))] (fmz ⟨.inl (.head _),fmz ⟨.inl mz1,fmz ⟨.inl mz2,fmz ⟨.inl mz3,fmz ⟨.inl mz4,fmz ⟨.inl mz5,fmz ⟨.inl mz6,fnz⟩⟩⟩⟩⟩⟩⟩)
  refine yU (UF.eq v') rfl s kI iiz fun a w s=> ?_
  refine zA rfl (hQ _ _ ?_)
  refine zY 1 ((21, .u (uI ((p.1+1:Nat):Int))):: []) s kI
   (oc (yR .i64 (p.1:Int) 1 ((p.1+1:Nat):Int) iiz iiz (wrap64 _ _ oP oP))<|zD) fun a w6 s=> ?_
  replace s:=s.drop [7]
  refine zAQ (uI ((p.1+1:Nat):Int)) rfl s kI zC kI fun a w s=> ?_
  refine zA rfl ?_
  replace s:=s.popB
  have hbw:=s.below
  replace s:=s1.back (s.keepK [(7, .u (uI ((p.1+1:Nat):Int))),(21, .u (uI ((p.1+1:Nat):Int))),(2, .u (UF.eq v')),(20, .u (UF.eq v')),(11, .u (UF.eq (p.2))),(10, .u (fPV m (at_ ps p.1))),(8, .u (uB (decide ((p.1:Int)<((pvs m ps).length:Int))))),(5, .u (UF.eq l)),(6, .u (uI ((pvs m ps).length:Int)))] (fmz ⟨.head _,fmz ⟨mz1,fmz ⟨mz2,fmz ⟨mz3,fmz ⟨mz4,fmz ⟨mz5,fmz ⟨mz6,fmz ⟨mz7,fmz ⟨mz8,fnz⟩⟩⟩⟩⟩⟩⟩⟩⟩)) rfl
  exact ⟨(p.1+1,v'),(by show ps.length - (p.1+1)<ps.length - p.1;omega),⟨hk,zWX hI'.1 hbw.size,by rw [zIQ hk];exact hI'.2.below hbw⟩,s.keepK _ (fmz ⟨mz7,fmz ⟨mz8,fmz ⟨mz2,fmz ⟨.head _,fnz⟩⟩⟩⟩)⟩
 ·have hk:p.1=ps.length:=by have h7:=zWZ e;have h8:=hI.1;simp at h7;omega
  refine zW2 ?_
  refine zWS ?_
  refine zY 1 ((22, .u (UF.eq (p.2))):: []) s kI
   (oc zC<|zD) fun a w7 s=> ?_
  replace s:=s.drop [2]
  refine yU (UF.eq (p.2)) rfl s kI iiz fun a w s=> ?_
  refine zA rfl ?_
  refine zWT ?_
  exact StS.resN s s0.below rfl (by rw [s.val (.head _)];have:=(hI.2.2.below s.below).mono hb0;rw [hk,List.take_length] at this;exact this)
theorem zO2 {m:Nat} {W:Wp} {u v x:Wq} {lo hi r:Rat} (h1:RVp m lo u W) (h2:RVp m hi v W) (h3:RVp m r x W) (hm:m<=2000) (hm0:0<m) (hT:Tab W):Calls prog 53 #[u,v,x] W (Ret W (fB (zBf lo hi r)).tS):=by
 refine yB [(fRV m lo).tS,(fRV m hi).tS,(fRV m r).tS] func53 rfl kI ⟨h1,h2,h3,trivial⟩ fun a s=> ?_
 refine zWS ?_
 refine zB 0 [] hmix s kI
  zD fun a w1 s=> ?_
 refine yO (CU.agg (fRV m lo)) rfl s kI (fun v W h=>zAe h) fun b3 a w s=> ?_
 refine yO (CU.agg (fRV m hi)) rfl s kI (fun v W h=>zAe h) fun b4 a w s=> ?_
 refine yO (CU.agg (fRV m r)) rfl s kI (fun v W h=>zAe h) fun b5 a w s=> ?_
 refine yU (uB false) rfl s kI iiz fun a w s=> ?_
 refine zA rfl ?_
 refine zWS ?_
 replace s:=s.drop [6]
 refine zB 11 ((7, .s ((fRV m lo).tS))::(8, .s ((fRV m r).tS))::(9, .s ((uI (qsg lo r)).tS))::(10, .s ((uB (decide (qsg lo r<=0))).tS))::(11, .s ((uB (decide (qsg lo r<=0))).tS))::(12, .s (SF.imp ((decide (qsg lo r<=0))=true) ((fRV m r).tS)))::(13, .s (SF.imp ((decide (qsg lo r<=0))=true) ((fRV m hi).tS)))::(14, .s (SF.imp ((decide (qsg lo r<=0))=true) ((uI (qsg r hi)).tS)))::(15, .s (SF.imp ((decide (qsg lo r<=0))=true) ((uB (decide (qsg r hi<=0))).tS)))::(16, .s ((uB ((decide (qsg lo r<=0))&&(decide (qsg r hi<=0)))).tS))::(6, .u (uB ((decide (qsg lo r<=0))&&(decide (qsg r hi<=0))))):: []) hmix s kI
  (oc (zK (f:=fRV m lo) 3 kI (hz:=jD _ _))<|oc (zK (f:=fRV m r) 3 kI (hz:=jD _ _))<|oc (zI zE zFd (fun u0 u1 W hb (h0:RVp m lo u0 W) (h1:RVp m r u1 W)=>zCP h0 h1 hm hm0 (hT.below (s.up hb))))<|oc (zS .i64 (qsg lo r) 0 (decide (qsg lo r<=0)) iiz iiz rfl rfl)<|oc zC<|oc (zF 11 (decide (qsg lo r<=0)) kI iiz (fun e=>z4 [] ((fRV m r).tS) fnz (fun _ _ h _=>h) kI (zK (f:=fRV m r) 3 kI (hz:=jD _ _))) (fun e W h=>absurd h e))<|oc (zF 11 (decide (qsg lo r<=0)) kI iiz (fun e=>z4 [] ((fRV m hi).tS) fnz (fun _ _ h _=>h) kI (zK (f:=fRV m hi) 3 kI (hz:=jD _ _))) (fun e W h=>absurd h e))<|oc (zF 11 (decide (qsg lo r<=0)) kI iiz (fun e=>z4 [(12,(fRV m r).tS),(13,(fRV m hi).tS)] ((uI (qsg r hi)).tS) (fmz ⟨fun v W h=>zQ (c:=(decide (qsg lo r<=0))=true) (f:=(fRV m r).tS) e h,fmz ⟨fun v W h=>zQ (c:=(decide (qsg lo r<=0))=true) (f:=(fRV m hi).tS) e h,fnz⟩⟩) (fun _ _ h _=>h) kI (zI zE zFd (fun u0 u1 W hb (h0:RVp m r u0 W) (h1:RVp m hi u1 W)=>zCP h0 h1 hm hm0 (hT.below (s.up hb))))) (fun e W h=>absurd h e))<|oc (zF 11 (decide (qsg lo r<=0)) kI iiz (fun e=>z4 [(14,(uI (qsg r hi)).tS)] ((uB (decide (qsg r hi<=0))).tS) (fmz ⟨fun v W h=>zQ (c:=(decide (qsg lo r<=0))=true) (f:=(uI (qsg r hi)).tS) e h,fnz⟩) (fun _ _ h _=>h) kI (zS .i64 (qsg r hi) 0 (decide (qsg r hi<=0)) iiz iiz rfl rfl)) (fun e W h=>absurd h e))<|oc (y6 (decide (qsg lo r<=0)) iiz (fun e v W h=>zBc (zQ e h) e) (fun e v W h=>zAy h e))<|oc zG<|zD) fun a w2 s=> ?_
 refine zA rfl ?_
 refine zWT ?_
 exact wD s (t:=6) rfl iiz
theorem zRn {m:Nat} {W:Wp} {u v:Wq} {lo hi x:V2} (h1:(fPV m x).p u W) (h2:(wB (CU.agg (fPR (fPV m lo) (fPV m hi))).cf).p v W) (hm:m<=2000) (hm0:0<m) (hT:Tab W):Calls prog 52 #[u,v] W (Ret W (fB (zL0 lo hi x)).tS):=by
 refine yB [(fPV m x).tS,wB (CU.agg (fPR (fPV m lo) (fPV m hi))).cf] func52 rfl kI ⟨h1,h2,trivial⟩ fun a s=> ?_
 refine zWS ?_
 refine zB 0 [] hmix s kI
  zD fun a w1 s=> ?_
 refine yO (CU.agg (fPV m x)) rfl s kI (fun v W h=>yV h) fun b2 a w s=> ?_
 refine yU (uB false) rfl s kI iiz fun a w s=> ?_
 refine zA rfl ?_
 refine zWS ?_
 replace s:=s.drop [3]
 refine zB 23 ((4, .s (wB ((CU.agg (fPR (fPV m lo) (fPV m hi))).cf.at 0)))::(5, .s (wB ((CU.agg (fPR (fPV m lo) (fPV m hi))).cf.at 0)))::(6, .s ((fRV m ((lo).1)).tS))::(7, .s (wB ((CU.agg (fPR (fPV m lo) (fPV m hi))).cf.at 6)))::(8, .s (wB ((CU.agg (fPR (fPV m lo) (fPV m hi))).cf.at 6)))::(9, .s ((fRV m ((hi).1)).tS))::(10, .s (wB ((CU.agg (fPV m x)).cf.at 0)))::(11, .s ((fRV m ((x).1)).tS))::(12, .s ((uB (zBf (lo).1 (hi).1 (x).1)).tS))::(13, .s ((uB (!(zBf (lo).1 (hi).1 (x).1))).tS))::(14, .s ((uB (!(zBf (lo).1 (hi).1 (x).1))).tS))::(15, .s (SF.imp ((!(zBf (lo).1 (hi).1 (x).1))=false) (wB ((CU.agg (fPR (fPV m lo) (fPV m hi))).cf.at 0))))::(16, .s (SF.imp ((!(zBf (lo).1 (hi).1 (x).1))=false) (wB ((CU.agg (fPR (fPV m lo) (fPV m hi))).cf.at 3))))::(17, .s (SF.imp ((!(zBf (lo).1 (hi).1 (x).1))=false) ((fRV m ((lo).2)).tS)))::(18, .s (SF.imp ((!(zBf (lo).1 (hi).1 (x).1))=false) (wB ((CU.agg (fPR (fPV m lo) (fPV m hi))).cf.at 6))))::(19, .s (SF.imp ((!(zBf (lo).1 (hi).1 (x).1))=false) (wB ((CU.agg (fPR (fPV m lo) (fPV m hi))).cf.at 9))))::(20, .s (SF.imp ((!(zBf (lo).1 (hi).1 (x).1))=false) ((fRV m ((hi).2)).tS)))::(21, .s (SF.imp ((!(zBf (lo).1 (hi).1 (x).1))=false) (wB ((CU.agg (fPV m x)).cf.at 3))))::(22, .s (SF.imp ((!(zBf (lo).1 (hi).1 (x).1))=false) ((fRV m ((x).2)).tS)))::(23, .s (SF.imp ((!(zBf (lo).1 (hi).1 (x).1))=false) ((uB (zBf (lo).2 (hi).2 (x).2)).tS)))::(24, .s (SF.imp ((!(zBf (lo).1 (hi).1 (x).1))=false) ((uB (!(zBf (lo).2 (hi).2 (x).2))).tS)))::(25, .s ((uB ((!(zBf (lo).1 (hi).1 (x).1))||(!(zBf (lo).2 (hi).2 (x).2)))).tS))::(3, .u (uB ((!(zBf (lo).1 (hi).1 (x).1))||(!(zBf (lo).2 (hi).2 (x).2))))):: []) hmix s kI
  (oc (zJ (C:=(CU.agg (fPR (fPV m lo) (fPV m hi))).cf) 0 kI)<|oc (yW (C:=(CU.agg (fPR (fPV m lo) (fPV m hi))).cf) 0 0 kI)<|oc (zP (C:=(CU.agg (fPR (fPV m lo) (fPV m hi))).cf) (k:=0) 3 kI (h:=zQW))<|oc (zJ (C:=(CU.agg (fPR (fPV m lo) (fPV m hi))).cf) 6 kI)<|oc (yW (C:=(CU.agg (fPR (fPV m lo) (fPV m hi))).cf) 6 0 kI)<|oc (zP (C:=(CU.agg (fPR (fPV m lo) (fPV m hi))).cf) (k:=6) 3 kI (h:=zNO))<|oc (zJ (C:=(CU.agg (fPV m x)).cf) 0 kI)<|oc (zP (C:=(CU.agg (fPV m x)).cf) (k:=0) 3 kI (h:=zC7))<|oc (zBd zE zS9 (fun u0 u1 u2 W hb (h0:RVp m ((lo).1) u0 W) (h1:RVp m ((hi).1) u1 W) (h2:RVp m ((x).1) u2 W)=>zO2 (m:=m) h0 h1 h2 hm hm0 (hT.below (s.up hb))))<|oc (zCQ (zBf (lo).1 (hi).1 (x).1) iiz (fun _=>rfl))<|oc zC<|oc (zF 14 (!(zBf (lo).1 (hi).1 (x).1)) kI iiz (fun e=>z4 [] (wB ((CU.agg (fPR (fPV m lo) (fPV m hi))).cf.at 0)) fnz (fun _ _ h _=>h) kI (zJ (C:=(CU.agg (fPR (fPV m lo) (fPV m hi))).cf) 0 kI)) (fun e W h=>absurd h e))<|oc (zF 14 (!(zBf (lo).1 (hi).1 (x).1)) kI iiz (fun e=>z4 [(15,wB ((CU.agg (fPR (fPV m lo) (fPV m hi))).cf.at 0))] (wB ((CU.agg (fPR (fPV m lo) (fPV m hi))).cf.at 3)) (fmz ⟨fun v W h=>zQ (c:=(!(zBf (lo).1 (hi).1 (x).1))=false) (f:=wB ((CU.agg (fPR (fPV m lo) (fPV m hi))).cf.at 0)) e h,fnz⟩) (fun _ _ h _=>h) kI (yW (C:=(CU.agg (fPR (fPV m lo) (fPV m hi))).cf) 0 3 kI)) (fun e W h=>absurd h e))<|oc (zF 14 (!(zBf (lo).1 (hi).1 (x).1)) kI iiz (fun e=>z4 [(16,wB ((CU.agg (fPR (fPV m lo) (fPV m hi))).cf.at 3))] ((fRV m ((lo).2)).tS) (fmz ⟨fun v W h=>zQ (c:=(!(zBf (lo).1 (hi).1 (x).1))=false) (f:=wB ((CU.agg (fPR (fPV m lo) (fPV m hi))).cf.at 3)) e h,fnz⟩) (fun _ _ h _=>h) kI (zP (C:=(CU.agg (fPR (fPV m lo) (fPV m hi))).cf) (k:=3) 3 kI (h:=zQV))) (fun e W h=>absurd h e))<|oc (zF 14 (!(zBf (lo).1 (hi).1 (x).1)) kI iiz (fun e=>z4 [] (wB ((CU.agg (fPR (fPV m lo) (fPV m hi))).cf.at 6)) fnz (fun _ _ h _=>h) kI (zJ (C:=(CU.agg (fPR (fPV m lo) (fPV m hi))).cf) 6 kI)) (fun e W h=>absurd h e))<|oc (zF 14 (!(zBf (lo).1 (hi).1 (x).1)) kI iiz (fun e=>z4 [(18,wB ((CU.agg (fPR (fPV m lo) (fPV m hi))).cf.at 6))] (wB ((CU.agg (fPR (fPV m lo) (fPV m hi))).cf.at 9)) (fmz ⟨fun v W h=>zQ (c:=(!(zBf (lo).1 (hi).1 (x).1))=false) (f:=wB ((CU.agg (fPR (fPV m lo) (fPV m hi))).cf.at 6)) e h,fnz⟩) (fun _ _ h _=>h) kI (yW (C:=(CU.agg (fPR (fPV m lo) (fPV m hi))).cf) 6 3 kI)) (fun e W h=>absurd h e))<|oc (zF 14 (!(zBf (lo).1 (hi).1 (x).1)) kI iiz (fun e=>z4 [(19,wB ((CU.agg (fPR (fPV m lo) (fPV m hi))).cf.at 9))] ((fRV m ((hi).2)).tS) (fmz ⟨fun v W h=>zQ (c:=(!(zBf (lo).1 (hi).1 (x).1))=false) (f:=wB ((CU.agg (fPR (fPV m lo) (fPV m hi))).cf.at 9)) e h,fnz⟩) (fun _ _ h _=>h) kI (zP (C:=(CU.agg (fPR (fPV m lo) (fPV m hi))).cf) (k:=9) 3 kI (h:=zNN))) (fun e W h=>absurd h e))<|oc (zF 14 (!(zBf (lo).1 (hi).1 (x).1)) kI iiz (fun e=>z4 [] (wB ((CU.agg (fPV m x)).cf.at 3)) fnz (fun _ _ h _=>h) kI (zJ (C:=(CU.agg (fPV m x)).cf) 3 kI)) (fun e W h=>absurd h e))<|oc (zF 14 (!(zBf (lo).1 (hi).1 (x).1)) kI iiz (fun e=>z4 [(21,wB ((CU.agg (fPV m x)).cf.at 3))] ((fRV m ((x).2)).tS) (fmz ⟨fun v W h=>zQ (c:=(!(zBf (lo).1 (hi).1 (x).1))=false) (f:=wB ((CU.agg (fPV m x)).cf.at 3)) e h,fnz⟩) (fun _ _ h _=>h) kI (zP (C:=(CU.agg (fPV m x)).cf) (k:=3) 3 kI (h:=zC6))) (fun e W h=>absurd h e))<|oc (zF 14 (!(zBf (lo).1 (hi).1 (x).1)) kI iiz (fun e=>z4 [(17,(fRV m ((lo).2)).tS),(20,(fRV m ((hi).2)).tS),(22,(fRV m ((x).2)).tS)] ((uB (zBf (lo).2 (hi).2 (x).2)).tS) (fmz ⟨fun v W h=>zQ (c:=(!(zBf (lo).1 (hi).1 (x).1))=false) (f:=(fRV m ((lo).2)).tS) e h,fmz ⟨fun v W h=>zQ (c:=(!(zBf (lo).1 (hi).1 (x).1))=false) (f:=(fRV m ((hi).2)).tS) e h,fmz ⟨fun v W h=>zQ (c:=(!(zBf (lo).1 (hi).1 (x).1))=false) (f:=(fRV m ((x).2)).tS) e h,fnz⟩⟩⟩) (fun _ _ h _=>h) kI (zBd zE zS9 (fun u0 u1 u2 W hb (h0:RVp m ((lo).2) u0 W) (h1:RVp m ((hi).2) u1 W) (h2:RVp m ((x).2) u2 W)=>zO2 (m:=m) h0 h1 h2 hm hm0 (hT.below (s.up hb))))) (fun e W h=>absurd h e))<|oc (zF 14 (!(zBf (lo).1 (hi).1 (x).1)) kI iiz (fun e=>z4 [(23,(uB (zBf (lo).2 (hi).2 (x).2)).tS)] ((uB (!(zBf (lo).2 (hi).2 (x).2))).tS) (fmz ⟨fun v W h=>zQ (c:=(!(zBf (lo).1 (hi).1 (x).1))=false) (f:=(uB (zBf (lo).2 (hi).2 (x).2)).tS) e h,fnz⟩) (fun _ _ h _=>h) kI (zCQ (zBf (lo).2 (hi).2 (x).2) iiz (fun _=>rfl))) (fun e W h=>absurd h e))<|oc (y6 (!(zBf (lo).1 (hi).1 (x).1)) iiz (fun e v W h=>zEL h e) (fun e v W h=>zDk (zQ e h) e))<|oc zG<|zD) fun a w2 s=> ?_
 refine zA rfl ?_
 refine zWT ?_
 exact wD s (t:=3) rfl iiz
theorem zSV {m:Nat} {W:Wp} {u l:Wq} {lo hi:V2} {ps:List V2} (h1:(fPR (fPV m lo) (fPV m hi)).p u W) (hl:(SF.row 6 (pvs m ps)).p l W) (hm:m<=2000) (hm0:0<m) (hn:ps.length<=1000000) (hT:Tab W):Calls prog 22 #[u,l] W (Ret W (fB (ps.all (zPt lo hi))).tS):=by
 refine yB [(fPR (fPV m lo) (fPV m hi)).tS,SF.row 6 (pvs m ps)] func22 rfl kI ⟨h1,hl,trivial⟩ fun a s=> ?_
 refine zWS ?_
 refine zB 0 [] hmix s kI
  zD fun a w1 s=> ?_
 refine yO (CU.agg (fPR (fPV m lo) (fPV m hi))) rfl s kI (fun v W h=>zLe h) fun b2 a w s=> ?_
 refine yU (uB false) rfl s kI iiz fun a w s=> ?_
 refine zA rfl ?_
 refine zWS ?_
 replace s:=s.drop [4]
 refine zB 5 ((5, .s (SF.row 6 (pvs m ps)))::(6, .s (SF.fn prog (TB m (zL0 lo hi))))::(7, .s ((uB (ps.any (zL0 lo hi))).tS))::(8, .s ((uB (!(ps.any (zL0 lo hi)))).tS))::(4, .u (uB (!(ps.any (zL0 lo hi))))):: []) hmix s kI
  (oc zC<|oc (zEf (fun u W hb (h:(wF b2 (CU.agg (fPR (fPV m lo) (fPV m hi))).cf).p u W)=>zJc (enters_of func52 kI rfl) (fun W' hb' args R ⟨u1,p,e,h1,hR⟩=>by subst e hR;simpa using zRn h1 ((wB _).st _ _ _ h.2 hb') hm hm0 ((hT.below (s.up hb)).below hb'))))<|oc (zI zE zUF (fun u0 u1 W hb (h0:(SF.row 6 (pvs m ps)).p u0 W) (h1:(SF.fn prog (TB m (zL0 lo hi))).p u1 W)=>zVP h0 h1 hn))<|oc (zCQ (ps.any (zL0 lo hi)) iiz (fun _=>rfl))<|oc zG<|zD) fun a w2 s=> ?_
 refine zA rfl ?_
 refine zWT ?_
 exact wD s (t:=4) rfl (fun v W h=>by rw [<-zRk];exact h)
theorem zSU {m:Nat} {W:Wp} {l v:Wq} {p:V2} {ps:List V2} (hl:(SF.row 6 (pvs m ps)).p l W) (h1:(fPV m p).p v W) (hm:m<=159) (hm0:0<m) (hn:ps.length<=1000000) (hT:Tab W):Calls prog 10 #[l,v] W (Ret W (fB (inK ps p ps.length)).tS):=by
 refine yB [(UF.eq l).tS,(fPV m p).tS] func10 rfl kI ⟨rfl,h1,trivial⟩ fun a s=> ?_
 replace s:=s.renew [(0, .u (UF.eq l)),(1, .u (fPV m p))] (fmz ⟨.inr ⟨_,rfl, .head _⟩,fmz ⟨.inr ⟨_,rfl,mz1⟩,fnz⟩⟩)
 refine zWS ?_
 refine zB 0 [] hmix s kI
  zD fun a w1 s=> ?_
 refine yO (CU.agg (fPV m p)) rfl s kI (fun v W h=>yV h) fun b3 a w s=> ?_
 refine yU (uB false) rfl s kI iiz fun a w s=> ?_
 refine zA rfl ?_
 refine (wpIn_wide (n:=0)).2 (wp_scope_straight ((wpIn_wide (n:=0)).1 ?_))
 refine zWS ?_
 refine zB 4 ((8, .s ((UF.eq l).tS))::(9, .s ((uI ((pvs m ps).length:Int)).tS))::(10, .s ((uB (inK ps p 0)).tS))::(5, .u (uB (inK ps p 0))):: []) hmix s kI
  (oc zC<|oc (y4 (z:=6) (Cs:=pvs m ps) kI (fun v W hb h=>(yZ hl h (s.up hb))) (fun _=>rfl))<|oc (zS .i64 ((pvs m ps).length:Int) 3 (inK ps p 0) iiz iiz (by rw [zOg];simp only [zW8]) rfl)<|oc zG<|zD) fun a w2 s=> ?_
 refine zA rfl ?_
 refine zWS ?_
 refine wpIn_label ?_
 refine zWS ?_
 refine zWS ?_
 refine zB 3 ((11, .u (UF.eq l))::(12, .u (uI ((pvs m ps).length:Int)))::(13, .u (uI 0)):: []) hmix s kI
  (oc zC<|oc (y4 (z:=6) (Cs:=pvs m ps) kI (fun v W hb h=>(yZ hl h (s.up hb))) (fun _=>rfl))<|oc zC<|zD) fun a w3 s=> ?_
 refine zA rfl ?_
 refine zWV ?_
 refine zAx (fun k=>k<=ps.length) (fun k=> [(0, .u (UF.eq l)),(11, .u (UF.eq l)),(12, .u (uI ((pvs m ps).length:Int))),(13, .u (uI (k:Int))),(5, .u (uB (inK ps p k)))]) (fun k=>ps.length - k) (0:Nat) (zW1 _) (s.keepK _ (fmz ⟨mz5,fmz ⟨.head _,fmz ⟨mz1,fmz ⟨mz2,fmz ⟨mz3,fnz⟩⟩⟩⟩⟩)) fun k a w hx s=> ?_
 have hlz:(pvs m ps).length=ps.length:=by simp
 refine zWS ?_
 refine zB 1 ((14, .u (uB (decide ((k:Int)<((pvs m ps).length:Int))))):: []) hmix s kI
  (oc (zS .i64 (k:Int) ((pvs m ps).length:Int) (decide ((k:Int)<((pvs m ps).length:Int))) iiz iiz rfl rfl)<|zD) fun a w4 s=> ?_
 refine zA rfl ?_
 refine zWS ?_
 refine StS.cond s (decide ((k:Int)<((pvs m ps).length:Int))) iiz (fun e=> ?_) (fun e=> ?_)
 ·have hk:k<ps.length:=by have h7:=zWY e;rw [hlz] at h7;omega
  have hni:((k+1) % ps.length)<ps.length:=Nat.mod_lt _ oP
  refine zWU ?_
  refine zWS ?_
  refine zWV ?_
  refine zWS ?_
  refine zB 3 ((15, .u (uI (k:Int)))::(16, .s (wB (CU.agg (fPV m (at_ ps k))).cf))::(17, .u (fPV m (at_ ps k))):: []) hmix s kI
   (oc zC<|oc (yJ (z:=6) (Cs:=pvs m ps) (i:=k) (C:=CU.agg (fPV m (at_ ps k))) kI (qQ hk) (fun v W hb h=>(yZ hl h (s.up hb))) iiz)<|oc (zK (f:=fPV m (at_ ps k)) 6 kI (hz:=zO _ _))<|zD) fun a w5 s=> ?_
  refine z7 (CU.len 6) (cs:=zP6) kI rfl s kI (fun W=>rfl) rfl fun b7 a w s=> ?_
  refine yU (uI (k:Int)) rfl s kI iiz fun a w s=> ?_
  refine zR (CU.agg (fPV m (at_ ps k))) ((fPV m (at_ ps k)).tS) rfl s kI rfl rfl rfl iiz iiz y5 fun a w s=> ?_
  refine zA rfl ?_
  refine zWS ?_
  refine zHQ (K:= [(6, .u (uI (k:Int))),(15, .u (uI (k:Int))),(17, .u (fPV m (at_ ps k))),(14, .u (uB (decide ((k:Int)<((pvs m ps).length:Int))))),(0, .u (UF.eq l)),(11, .u (UF.eq l)),(12, .u (uI ((pvs m ps).length:Int))),(13, .u (uI (k:Int)))]) [(5, .u (uB (inK ps p k)))] [0] 15 ((18, .s ((uB (inK ps p k)).tS))::(19, .s ((uB (inK ps p k)).tS))::(20, .s (SF.imp ((inK ps p k)=true) ((fPV m (at_ ps k)).tS)))::(21, .s (SF.imp ((inK ps p k)=true) ((UF.eq l).tS)))::(22, .s (SF.imp ((inK ps p k)=true) ((uI (k:Int)).tS)))::(23, .s (SF.imp ((inK ps p k)=true) ((uI ((k+1:Nat):Int)).tS)))::(24, .s (SF.imp ((inK ps p k)=true) ((UF.eq l).tS)))::(25, .s (SF.imp ((inK ps p k)=true) ((uI ((pvs m ps).length:Int)).tS)))::(26, .s (SF.imp ((inK ps p k)=true) ((uI ((((k+1) % ps.length):Nat):Int)).tS)))::(27, .s (SF.imp ((inK ps p k)=true) (wB (CU.agg (fPV m (at_ ps ((k+1) % ps.length)))).cf)))::(28, .s (SF.imp ((inK ps p k)=true) ((fPV m (at_ ps ((k+1) % ps.length))).tS)))::(29, .s (SF.imp ((inK ps p k)=true) ((fPV m p).tS)))::(30, .s (SF.imp ((inK ps p k)=true) ((uI (zBg (at_ ps k) (at_ ps ((k+1) % ps.length)) p)).tS)))::(31, .s (SF.imp ((inK ps p k)=true) ((uB (zBg (at_ ps k) (at_ ps ((k+1) % ps.length)) p==1)).tS)))::(32, .u (uB ((inK ps p k)&&(zBg (at_ ps k) (at_ ps ((k+1) % ps.length)) p==1)))):: []) hmix (s.keepK _ (fmz ⟨mz8,fmz ⟨.head _,fmz ⟨mz1,fmz ⟨mz2,fmz ⟨mz3,fmz ⟨mz4,fmz ⟨mz5,fmz ⟨mz6,fmz ⟨mz7,fnz⟩⟩⟩⟩⟩⟩⟩⟩⟩)) kI
   (oc zC<|oc zC<|oc (zF 19 (inK ps p k) kI iiz (fun e=>z4 [] ((fPV m (at_ ps k)).tS) fnz (fun _ _ h _=>h) kI (zK (f:=fPV m (at_ ps k)) 6 kI (hz:=zO _ _))) (fun e W h=>absurd h e))<|oc (zF 19 (inK ps p k) kI iiz (fun e=>z4 [] ((UF.eq l).tS) fnz (fun _ _ h _=>h) kI zC) (fun e W h=>absurd h e))<|oc (zF 19 (inK ps p k) kI iiz (fun e=>z4 [] ((uI (k:Int)).tS) fnz (fun _ _ h _=>h) kI zC) (fun e W h=>absurd h e))<|oc (zF 19 (inK ps p k) kI iiz (fun e=>z4 [(22,(uI (k:Int)).tS)] ((uI ((k+1:Nat):Int)).tS) (fmz ⟨fun v W h=>zQ (c:=(inK ps p k)=true) (f:=(uI (k:Int)).tS) e h,fnz⟩) (fun _ _ h _=>h) kI (yR .i64 (k:Int) 1 ((k+1:Nat):Int) iiz iiz (by rw [zW4];omega))) (fun e W h=>absurd h e))<|oc (zF 19 (inK ps p k) kI iiz (fun e=>z4 [] ((UF.eq l).tS) fnz (fun _ _ h _=>h) kI zC) (fun e W h=>absurd h e))<|oc (zF 19 (inK ps p k) kI iiz (fun e=>z4 [(24,(UF.eq l).tS)] ((uI ((pvs m ps).length:Int)).tS) (fmz ⟨fun v W h=>zQ (c:=(inK ps p k)=true) (f:=(UF.eq l).tS) e h,fnz⟩) (fun _ _ h _=>h) kI (y4 (z:=6) (Cs:=pvs m ps) kI (fun v W hb h=>(yZ hl h (s.up hb))) (fun _=>rfl))) (fun e W h=>absurd h e))<|oc (zF 19 (inK ps p k) kI iiz (fun e=>z4 [(23,(uI ((k+1:Nat):Int)).tS),(25,(uI ((pvs m ps).length:Int)).tS)] ((uI ((((k+1) % ps.length):Nat):Int)).tS) (fmz ⟨fun v W h=>zQ (c:=(inK ps p k)=true) (f:=(uI ((k+1:Nat):Int)).tS) e h,fmz ⟨fun v W h=>zQ (c:=(inK ps p k)=true) (f:=(uI ((pvs m ps).length:Int)).tS) e h,fnz⟩⟩) (fun _ _ h _=>h) kI (zEO .i64 ((k+1:Nat):Int) ((pvs m ps).length:Int) ((((k+1) % ps.length):Nat):Int) iiz iiz oP (by rw [hlz];exact zFO _ _))) (fun e W h=>absurd h e))<|oc (zF 19 (inK ps p k) kI iiz (fun e=>z4 [(21,(UF.eq l).tS),(26,(uI ((((k+1) % ps.length):Nat):Int)).tS)] (wB (CU.agg (fPV m (at_ ps ((k+1) % ps.length)))).cf) (fmz ⟨fun v W h=>zQ (c:=(inK ps p k)=true) (f:=(UF.eq l).tS) e h,fmz ⟨fun v W h=>zQ (c:=(inK ps p k)=true) (f:=(uI ((((k+1) % ps.length):Nat):Int)).tS) e h,fnz⟩⟩) (fun _ _ h _=>h) kI (yJ (z:=6) (Cs:=pvs m ps) (i:=((k+1) % ps.length)) (C:=CU.agg (fPV m (at_ ps ((k+1) % ps.length)))) kI (qQ hni) (fun v W hb h=>(yZ hl h (s.up hb))) iiz)) (fun e W h=>absurd h e))<|oc (zF 19 (inK ps p k) kI iiz (fun e=>z4 [(27,wB (CU.agg (fPV m (at_ ps ((k+1) % ps.length)))).cf)] ((fPV m (at_ ps ((k+1) % ps.length))).tS) (fmz ⟨fun v W h=>zQ (c:=(inK ps p k)=true) (f:=wB (CU.agg (fPV m (at_ ps ((k+1) % ps.length)))).cf) e h,fnz⟩) (fun _ _ h _=>h) kI (zK (f:=fPV m (at_ ps ((k+1) % ps.length))) 6 kI (hz:=zO _ _))) (fun e W h=>absurd h e))<|oc (zF 19 (inK ps p k) kI iiz (fun e=>z4 [] ((fPV m p).tS) fnz (fun _ _ h _=>h) kI (zK (f:=fPV m p) 6 kI (hz:=zO _ _))) (fun e W h=>absurd h e))<|oc (zF 19 (inK ps p k) kI iiz (fun e=>z4 [(20,(fPV m (at_ ps k)).tS),(28,(fPV m (at_ ps ((k+1) % ps.length))).tS),(29,(fPV m p).tS)] ((uI (zBg (at_ ps k) (at_ ps ((k+1) % ps.length)) p)).tS) (fmz ⟨fun v W h=>zQ (c:=(inK ps p k)=true) (f:=(fPV m (at_ ps k)).tS) e h,fmz ⟨fun v W h=>zQ (c:=(inK ps p k)=true) (f:=(fPV m (at_ ps ((k+1) % ps.length))).tS) e h,fmz ⟨fun v W h=>zQ (c:=(inK ps p k)=true) (f:=(fPV m p).tS) e h,fnz⟩⟩⟩) (fun _ _ h _=>h) kI (zBd zE zUL (fun u0 u1 u2 W hb (h0:(fPV m (at_ ps k)).p u0 W) (h1:(fPV m (at_ ps ((k+1) % ps.length))).p u1 W) (h2:(fPV m p).p u2 W)=>zQj (m:=m) h0 h1 h2 hm hm0 (hT.below (s.up hb))))) (fun e W h=>absurd h e))<|oc (zF 19 (inK ps p k) kI iiz (fun e=>z4 [(30,(uI (zBg (at_ ps k) (at_ ps ((k+1) % ps.length)) p)).tS)] ((uB (zBg (at_ ps k) (at_ ps ((k+1) % ps.length)) p==1)).tS) (fmz ⟨fun v W h=>zQ (c:=(inK ps p k)=true) (f:=(uI (zBg (at_ ps k) (at_ ps ((k+1) % ps.length)) p)).tS) e h,fnz⟩) (fun _ _ h _=>h) kI (zS .i64 (zBg (at_ ps k) (at_ ps ((k+1) % ps.length)) p) 1 (zBg (at_ ps k) (at_ ps ((k+1) % ps.length)) p==1) iiz iiz rfl rfl)) (fun e W h=>absurd h e))<|oc (y6 (inK ps p k) iiz (fun e v W h=>zBc (zQ e h) e) (fun e v W h=>zAy h e))<|zD) fun Q' hQ a w6 s=> ?_
  refine yU (uB (inK ps p (k+1))) rfl s kI (fun _ _ h=>by rw [zOh];exact h) fun a w s=> ?_
  refine zA rfl (hQ _ _ ?_)
  refine zWS ?_
  refine zB 2 ((33, .s ((uB (inK ps p (k+1))).tS))::(34, .u (uB (!(inK ps p (k+1))))):: []) hmix s kI
   (oc zC<|oc (zCQ (inK ps p (k+1)) iiz (fun _=>rfl))<|zD) fun a w7 s=> ?_
  refine zA rfl ?_
  refine StS.cond s (!(inK ps p (k+1))) iiz (fun e=> ?_) (fun e=> ?_)
  ·have e5:inK ps p (k+1)=false:=by simpa using e
   refine zW2 ?_
   refine zWS ?_
   refine zB 2 ((36, .s ((uB (inK ps p (k+1))).tS))::(4, .u (uB (inK ps p (k+1)))):: []) hmix s kI
    (oc zC<|oc zG<|zD) fun a w8 s=> ?_
   refine zA rfl ?_
   refine zWT ?_
   exact wD s (t:=4) rfl (fun v W h=>by rw [zOi e5 hk];rw [e5] at h;exact h)
  ·refine zWU ?_
   refine zY 1 ((35, .u (uI ((k+1:Nat):Int))):: []) s kI
    (oc (yR .i64 (k:Int) 1 ((k+1:Nat):Int) iiz iiz (wrap64 _ _ oP oP))<|zD) fun a w9 s=> ?_
   replace s:=s.drop [13]
   refine zAQ (uI ((k+1:Nat):Int)) rfl s kI zC kI fun a w s=> ?_
   refine zA rfl ?_
   replace s:=s.popB
   exact ⟨k+1,hk,(by show ps.length - (k+1)<ps.length - k;omega),s.keepK _ (fmz ⟨mz9,fmz ⟨zQ9,fmz ⟨zVG,fmz ⟨.head _,fmz ⟨mz3,fnz⟩⟩⟩⟩⟩)⟩
 ·have hkN:k=ps.length:=by have h7:=zWZ e;rw [hlz] at h7;omega
  subst hkN
  refine zW2 ?_
  refine zWS ?_
  refine zB 2 ((36, .s ((uB (inK ps p (ps.length))).tS))::(4, .u (uB (inK ps p (ps.length)))):: []) hmix s kI
   (oc zC<|oc zG<|zD) fun a w10 s=> ?_
  refine zA rfl ?_
  refine zWT ?_
  exact wD s (t:=4) rfl iiz
end Go.Proofs.Wd

namespace Go.Proofs.Wd
open Tryz
set_option maxRecDepth 100000
set_option maxHeartbeats 1000000
open Go.RowKit Lb
section
variable {F:Fence} {m:Nat} {P:Program} {w0:Wp} {ops:Array Oper} {G:Nat->SF} {d:Tmp} {ty:Wr} {pos:String} {aft:Array Edge}
theorem qT {x:Operand} {t:Wr} {vs:List Wq} {b' o:Nat} {te:Wr} {cs':List Wq} {D:CU} (k:Nat) (hk:zC2 P t=true) (hx: ∀v W,(fct G x).p v W->(wB ((CU.agg (UF.eq (.agg vs.toArray))).cf.at k)).p v W) (hv:vs[k]?=some (.pointer (some ⟨b',o,none⟩)))
  (hb':w0.heap[b']?=some (.cells cs'.toArray te (0,0))) (hD:D.p cs' w0) (hd: ∀v W,(wB (D.cf.at o)).p v W->(G d).p v W:=by exact fun _ _ h=>h):qN F m P w0 ops G ⟨some d, .load t x,ty,pos,aft,none⟩:=
 qL (fun _ e=>by cases e) (fun _ e=>by cases e) fun b W hb hh=>by
  obtain ⟨a,q,cs,e,⟨ds,h2,rfl⟩,h3⟩:=hx _ _ (hh x (by simp [Op.operands]))
  have h4:ds=vs:=by
   have:=congrArg Array.toList (jH h2)
   simpa using this
  subst h4
  have h5:(ds.drop k)[0]?=some (.pointer (some ⟨b',o,none⟩)):=by rw [List.getElem?_drop];exact hv
  have hm:=(zAX ((hb.block b' (zW6.1 hb').1).trans hb')).drop o
  rw [Nat.zero_add] at hm
  refine ⟨_,by simp [execOp,Instr.loadAt,e,Instr.sureAddr,zA9 hk h3 h5],hd _ _ ⟨b',o,_,rfl,⟨cs',D.us _ _ _ hD (zU hb),rfl⟩,hm⟩⟩
end
theorem zFx {S:Nat->Prop} {w0 w W:Wp} (h:BlS S w0 w) (hb:Below w.heap.size w W):BlS S w0 W:=⟨hb.os.trans h.os,hb.tape.trans h.tape,hb.output.trans h.output,zWX h.size hb.size,fun k hk hs=>(hb.block k (zW9 hk h.size)).trans (h.block k hk hs)⟩
theorem bG3 (a b c:Ws Addr):prog.built 109 [(0, .pointer a),(1, .pointer b),(2, .pointer c)]=some #[.pointer a, .pointer b, .pointer c]:=by kernel_rfl
theorem bG2 (a b c a' b' c':Ws Addr):prog.built 110 [(0, .agg #[.pointer a, .pointer b, .pointer c]),(1, .agg #[.pointer a', .pointer b', .pointer c'])]=some #[.pointer a, .pointer b, .pointer c, .pointer a', .pointer b', .pointer c']:=by kernel_rfl
theorem zVM (a b c a' b' c':Ws Addr) (W:Wp):(Instr.index 110 (.agg #[.pointer a, .pointer b, .pointer c, .pointer a', .pointer b', .pointer c']) (.int .i64 0)).run prog W= .ok (.agg #[.pointer a, .pointer b, .pointer c]) W:=by kernel_rfl
theorem zVL (a b c a' b' c':Ws Addr) (W:Wp):(Instr.index 110 (.agg #[.pointer a, .pointer b, .pointer c, .pointer a', .pointer b', .pointer c']) (.int .i64 1)).run prog W= .ok (.agg #[.pointer a', .pointer b', .pointer c']) W:=by kernel_rfl
def mnR (lo r:Rat):Rat:=if decide (qsg r lo<0)=true then r else lo
def mxR (hi r:Rat):Rat:=if decide (qsg r hi>0)=true then r else hi
def gLo:Nat->V2->V2->V2
 |0,lo,_=>lo
 |1,lo,p=>(mnR lo.1 p.1,lo.2)
 |_+2,lo,p=>(mnR lo.1 p.1,mnR lo.2 p.2)
def gHi:Nat->V2->V2->V2
 |0,hi,_=>hi
 |1,hi,p=>(mxR hi.1 p.1,hi.2)
 |_+2,hi,p=>(mxR hi.1 p.1,mxR hi.2 p.2)
theorem zPy {lo p:V2} (e:decide (qsg (p).1 (gLo 0 lo p).1<0)=true):gLo 1 lo p=((p).1,(gLo 0 lo p).2):=by show (mnR lo.1 p.1,lo.2)=(p.1,lo.2);congr 1;exact if_pos e
theorem zPz {lo p:V2} (e:decide (qsg (p).1 (gLo 0 lo p).1<0)=false):gLo 1 lo p=gLo 0 lo p:=by show (mnR lo.1 p.1,lo.2)=lo;unfold mnR;rw [if_neg (show ¬decide (qsg p.1 lo.1<0)=true from fun h=>by rw [show decide (qsg p.1 lo.1<0)=false from e] at h;cases h)]
theorem zPC {hi p:V2} (e:decide (qsg (p).1 (gHi 0 hi p).1>0)=true):gHi 1 hi p=((p).1,(gHi 0 hi p).2):=by show (mxR hi.1 p.1,hi.2)=(p.1,hi.2);congr 1;exact if_pos e
theorem zPD {hi p:V2} (e:decide (qsg (p).1 (gHi 0 hi p).1>0)=false):gHi 1 hi p=gHi 0 hi p:=by show (mxR hi.1 p.1,hi.2)=hi;unfold mxR;rw [if_neg (show ¬decide (qsg p.1 hi.1>0)=true from fun h=>by rw [show decide (qsg p.1 hi.1>0)=false from e] at h;cases h)]
theorem zPw {lo p:V2} (e:decide (qsg (p).2 (gLo 1 lo p).2<0)=true):gLo 2 lo p=((gLo 1 lo p).1,(p).2):=by show (mnR lo.1 p.1,mnR lo.2 p.2)=(mnR lo.1 p.1,p.2);congr 1;exact if_pos e
theorem zPx {lo p:V2} (e:decide (qsg (p).2 (gLo 1 lo p).2<0)=false):gLo 2 lo p=gLo 1 lo p:=by show (mnR lo.1 p.1,mnR lo.2 p.2)=(mnR lo.1 p.1,lo.2);congr 1;exact if_neg (fun h=>by rw [show decide (qsg p.2 lo.2<0)=false from e] at h;cases h)
theorem zPA {hi p:V2} (e:decide (qsg (p).2 (gHi 1 hi p).2>0)=true):gHi 2 hi p=((gHi 1 hi p).1,(p).2):=by show (mxR hi.1 p.1,mxR hi.2 p.2)=(mxR hi.1 p.1,p.2);congr 1;exact if_pos e
theorem zPB {hi p:V2} (e:decide (qsg (p).2 (gHi 1 hi p).2>0)=false):gHi 2 hi p=gHi 1 hi p:=by show (mxR hi.1 p.1,mxR hi.2 p.2)=(mxR hi.1 p.1,hi.2);congr 1;exact if_neg (fun h=>by rw [show decide (qsg p.2 hi.2>0)=false from e] at h;cases h)
section
variable {f g f' g':UF} {m:Nat} {q:Rat}
theorem zCk {cs:List Wq} {W:Wp} (h:(CU.agg (fPR (fPT f g) (fPT f' g'))).p cs W): ∃s A n c A' n' c' s2 B k d B' k' d' t E l e E' l' e' t2 H i j H' i' j',cs= [.bool s, .slice A n c, .slice A' n' c', .bool s2, .slice B k d, .slice B' k' d', .bool t, .slice E l e, .slice E' l' e', .bool t2, .slice H i j, .slice H' i' j']/\f.p (.agg #[.bool s, .slice A n c, .slice A' n' c']) W/\g.p (.agg #[.bool s2, .slice B k d, .slice B' k' d']) W/\f'.p (.agg #[.bool t, .slice E l e, .slice E' l' e']) W/\g'.p (.agg #[.bool t2, .slice H i j, .slice H' i' j']) W:=by
 obtain ⟨a,b,rfl,l1,l2,ha,hb⟩:=zBb h
 obtain ⟨s,A,n,c,A',n',c',s2,B,k,d,B',k',d',e1,g1,g2⟩:=ha
 obtain ⟨t,E,l,e,E',l',e',t2,H,i,j,H',i',j',e2,g3,g4⟩:=hb
 have r1:a=_:=congrArg Array.toList (jH e1)
 have r2:b=_:=congrArg Array.toList (jH e2)
 subst r1 r2
 exact ⟨s,A,n,c,A',n',c',s2,B,k,d,B',k',d',t,E,l,e,E',l',e',t2,H,i,j,H',i',j',rfl,g1,g2,g3,g4⟩
theorem zC9 {s:Bool} {A A':Ws Addr} {n n' c c':Nat} {s2:Bool} {B B':Ws Addr} {k k' d d':Nat} {t:Bool} {E E':Ws Addr} {l l' e e':Nat} {t2:Bool} {H H':Ws Addr} {i i' j j':Nat} {W:Wp} (h1:f.p (.agg #[.bool s, .slice A n c, .slice A' n' c']) W) (h2:g.p (.agg #[.bool s2, .slice B k d, .slice B' k' d']) W) (h3:f'.p (.agg #[.bool t, .slice E l e, .slice E' l' e']) W) (h4:g'.p (.agg #[.bool t2, .slice H i j, .slice H' i' j']) W):(CU.agg (fPR (fPT f g) (fPT f' g'))).p [.bool s, .slice A n c, .slice A' n' c', .bool s2, .slice B k d, .slice B' k' d', .bool t, .slice E l e, .slice E' l' e', .bool t2, .slice H i j, .slice H' i' j'] W:=
 ⟨[.bool s, .slice A n c, .slice A' n' c', .bool s2, .slice B k d, .slice B' k' d'], [.bool t, .slice E l e, .slice E' l' e', .bool t2, .slice H i j, .slice H' i' j'],rfl,⟨s,A,n,c,A',n',c',s2,B,k,d,B',k',d',rfl,h1,h2⟩,⟨t,E,l,e,E',l',e',t2,H,i,j,H',i',j',rfl,h3,h4⟩⟩
theorem zQi {W w:Wp} {b:Nat} {cs:List Wq} {te:Wr} {z:Nat×Nat} (hT:Tab W) (hh:W.heap[b]?=some (.cells cs.toArray te z)) (hc:(CU.agg (fPR (fPT f g) (fPT f' g'))).p cs W) (h:BlS (fun q=>q=b) W w):Tab w:=fun j hj=>by
 have hne:0≠b:=fun e=>by
  have h0:=hT 0 dB
  obtain ⟨s,A,n,c,A',n',c',s2,B,k,d,B',k',d',t,E,l,e2,E',l',e',t2,H,i,j',H',i',j'',rfl,_⟩:=zCk hc
  subst e
  unfold World.cell? at h0
  simp only [hh] at h0
  simp at h0
 have hlt:=zZ (hT j hj)
 exact (World.cell?_of_block (h.block _ hlt hne)).trans (hT j hj)
theorem zTX (v:Wq) (W:Wp) (h:(fRV m q).p v W):v.cells.size=3/\(∀u,u∈v.cells.toList->u.oneCell'=true)/\v.cells.toList.all yA=true/\ ∀cs,(CU.agg (fPR (fPT f g) (fPT f' g'))).p cs W->0+3<=cs.length/\(CU.agg (fPR (fPT (fRV m q) g) (fPT f' g'))).p (jT cs 0 v.cells.toList) W:=by
 obtain ⟨kk,dd,h1,h2⟩:=h
 obtain ⟨sg,X,x1,x2,X',x3,x4,rfl⟩:=zBN h1
 refine ⟨rfl,fun u hu=>zBS u hu,rfl,fun cs hc=> ?_⟩
 obtain ⟨s,A,n,c,A',n',c',s2,B,k,d,B',k',d',t,E,l,e,E',l',e',t2,H,i,j,H',i',j',rfl,g1,g2,g3,g4⟩:=zCk hc
 exact ⟨by simp,zC9 ⟨kk,dd,h1,h2⟩ g2 g3 g4⟩
theorem zTW (v:Wq) (W:Wp) (h:(fRV m q).p v W):v.cells.size=3/\(∀u,u∈v.cells.toList->u.oneCell'=true)/\v.cells.toList.all yA=true/\ ∀cs,(CU.agg (fPR (fPT f g) (fPT f' g'))).p cs W->3+3<=cs.length/\(CU.agg (fPR (fPT f (fRV m q)) (fPT f' g'))).p (jT cs 3 v.cells.toList) W:=by
 obtain ⟨kk,dd,h1,h2⟩:=h
 obtain ⟨sg,X,x1,x2,X',x3,x4,rfl⟩:=zBN h1
 refine ⟨rfl,fun u hu=>zBS u hu,rfl,fun cs hc=> ?_⟩
 obtain ⟨s,A,n,c,A',n',c',s2,B,k,d,B',k',d',t,E,l,e,E',l',e',t2,H,i,j,H',i',j',rfl,g1,g2,g3,g4⟩:=zCk hc
 exact ⟨by simp,zC9 g1 ⟨kk,dd,h1,h2⟩ g3 g4⟩
theorem zR4 (v:Wq) (W:Wp) (h:(fRV m q).p v W):v.cells.size=3/\(∀u,u∈v.cells.toList->u.oneCell'=true)/\v.cells.toList.all yA=true/\ ∀cs,(CU.agg (fPR (fPT f g) (fPT f' g'))).p cs W->6+3<=cs.length/\(CU.agg (fPR (fPT f g) (fPT (fRV m q) g'))).p (jT cs 6 v.cells.toList) W:=by
 obtain ⟨kk,dd,h1,h2⟩:=h
 obtain ⟨sg,X,x1,x2,X',x3,x4,rfl⟩:=zBN h1
 refine ⟨rfl,fun u hu=>zBS u hu,rfl,fun cs hc=> ?_⟩
 obtain ⟨s,A,n,c,A',n',c',s2,B,k,d,B',k',d',t,E,l,e,E',l',e',t2,H,i,j,H',i',j',rfl,g1,g2,g3,g4⟩:=zCk hc
 exact ⟨by simp,zC9 g1 g2 ⟨kk,dd,h1,h2⟩ g4⟩
theorem zR2 (v:Wq) (W:Wp) (h:(fRV m q).p v W):v.cells.size=3/\(∀u,u∈v.cells.toList->u.oneCell'=true)/\v.cells.toList.all yA=true/\ ∀cs,(CU.agg (fPR (fPT f g) (fPT f' g'))).p cs W->9+3<=cs.length/\(CU.agg (fPR (fPT f g) (fPT f' (fRV m q)))).p (jT cs 9 v.cells.toList) W:=by
 obtain ⟨kk,dd,h1,h2⟩:=h
 obtain ⟨sg,X,x1,x2,X',x3,x4,rfl⟩:=zBN h1
 refine ⟨rfl,fun u hu=>zBS u hu,rfl,fun cs hc=> ?_⟩
 obtain ⟨s,A,n,c,A',n',c',s2,B,k,d,B',k',d',t,E,l,e,E',l',e',t2,H,i,j,H',i',j',rfl,g1,g2,g3,g4⟩:=zCk hc
 exact ⟨by simp,zC9 g1 g2 g3 ⟨kk,dd,h1,h2⟩⟩
end
theorem zRi {m b:Nat} {W:Wp} {v:Wq} {lo hi p:V2} {cs:List Wq} (hh:W.heap[b]?=some (.cells cs.toArray 52 (0,0))) (hc:(CU.agg (fPR (fPV m lo) (fPV m hi))).p cs W) (h1:(fPV m p).p v W) (hm:m<=2000) (hm0:0<m) (hT:Tab W):Calls prog 50 #[.pointer (some ⟨b,0,none⟩),v] W (zKa W b 52 (CU.agg (fPR (fPV m (gLo 2 lo p)) (fPV m (gHi 2 hi p)))) UF.any.tS):=by
 have hTb: ∀w,BlS (fun q=>q=b) W w->Tab w:=fun w h=>zQi hT hh hc h
 refine zEB b [(0,UF.eq (.pointer (some ⟨b,0,none⟩))),(1,fPV m p)] [⟨0,52,CU.agg (fPR (fPV m (gLo 0 lo p)) (fPV m (gHi 0 hi p))),b,false⟩] func50 rfl kI (fun x hx=>by simp at hx;rcases hx with rfl|rfl;exact ⟨by simp,rfl⟩;exact ⟨by simp,h1⟩) ⟨⟨cs,rfl, .inr (.inr rfl),hh,hc,(zJP _ _ hc).2.1,fun y hy=>by cases hy⟩,trivial⟩ (fun x hx=>by simp at hx;subst hx;simp) fun a s=> ?_
 refine zWS ?_
 refine zB 0 [] hmix s kI
  zD fun a w1 s=> ?_
 refine yO (CU.agg (fPV m p)) rfl s kI (fun v W h=>yV h) fun b3 a w s=> ?_
 refine zA rfl ?_
 refine zWS ?_
 refine zB 22 ((6, .s ((UF.eq (.pointer (some ⟨b,0,none⟩))).tS))::(7, .s ((UF.eq (.pointer (some ⟨b,0,none⟩))).tS))::(8, .s ((UF.eq (.pointer (some ⟨b,0,none⟩))).tS))::(9, .s ((UF.eq (.pointer (some ⟨b,0,none⟩))).tS))::(10, .s ((UF.eq (.pointer (some ⟨b,0,none⟩))).tS))::(11, .s ((UF.eq (.pointer (some ⟨b,0,none⟩))).tS))::(12, .s ((UF.eq (.pointer (some ⟨b,6,none⟩))).tS))::(13, .s ((UF.eq (.pointer (some ⟨b,6,none⟩))).tS))::(14, .s ((UF.eq (.pointer (some ⟨b3,0,none⟩))).tS))::(15, .s ((UF.eq (.agg #[.pointer (some ⟨b,0,none⟩), .pointer (some ⟨b,6,none⟩), .pointer (some ⟨b3,0,none⟩)])).tS))::(16, .s ((UF.eq (.pointer (some ⟨b,0,none⟩))).tS))::(17, .s ((UF.eq (.pointer (some ⟨b,0,none⟩))).tS))::(18, .s ((UF.eq (.pointer (some ⟨b,0,none⟩))).tS))::(19, .s ((UF.eq (.pointer (some ⟨b,3,none⟩))).tS))::(20, .s ((UF.eq (.pointer (some ⟨b,0,none⟩))).tS))::(21, .s ((UF.eq (.pointer (some ⟨b,0,none⟩))).tS))::(22, .s ((UF.eq (.pointer (some ⟨b,6,none⟩))).tS))::(23, .s ((UF.eq (.pointer (some ⟨b,9,none⟩))).tS))::(24, .s ((UF.eq (.pointer (some ⟨b3,3,none⟩))).tS))::(25, .s ((UF.eq (.agg #[.pointer (some ⟨b,3,none⟩), .pointer (some ⟨b,9,none⟩), .pointer (some ⟨b3,3,none⟩)])).tS))::(26, .u (UF.eq (.agg #[.pointer (some ⟨b,0,none⟩), .pointer (some ⟨b,6,none⟩), .pointer (some ⟨b3,0,none⟩), .pointer (some ⟨b,3,none⟩), .pointer (some ⟨b,9,none⟩), .pointer (some ⟨b3,3,none⟩)])))::(27, .u (uI 0)):: []) hmix s kI
  (oc (zC (fun _ _ _ h=>h.1))<|oc (jW (a:=⟨b,0,none⟩) iiz)<|oc (qD (b:=b) (o:=0) 0 kI iiz)<|oc (qD (b:=b) (o:=0) 0 kI iiz)<|oc (zC (fun _ _ _ h=>h.1))<|oc (jW (a:=⟨b,0,none⟩) iiz)<|oc (qD (b:=b) (o:=0) 6 kI iiz)<|oc (qD (b:=b) (o:=6) 0 kI iiz)<|oc (qD (b:=b3) (o:=0) 0 kI (fun _ _ h=>h.1))<|oc (zBV (fun u v q W (hu:u= .pointer (some ⟨b,0,none⟩)) (hv:v= .pointer (some ⟨b,6,none⟩)) (hq:q= .pointer (some ⟨b3,0,none⟩))=>by subst hu hv hq;exact ⟨_,bG3 _ _ _,rfl⟩))<|oc (zC (fun _ _ _ h=>h.1))<|oc (jW (a:=⟨b,0,none⟩) iiz)<|oc (qD (b:=b) (o:=0) 0 kI iiz)<|oc (qD (b:=b) (o:=0) 3 kI iiz)<|oc (zC (fun _ _ _ h=>h.1))<|oc (jW (a:=⟨b,0,none⟩) iiz)<|oc (qD (b:=b) (o:=0) 6 kI iiz)<|oc (qD (b:=b) (o:=6) 3 kI iiz)<|oc (qD (b:=b3) (o:=0) 3 kI (fun _ _ h=>h.1))<|oc (zBV (fun u v q W (hu:u= .pointer (some ⟨b,3,none⟩)) (hv:v= .pointer (some ⟨b,9,none⟩)) (hq:q= .pointer (some ⟨b3,3,none⟩))=>by subst hu hv hq;exact ⟨_,bG3 _ _ _,rfl⟩))<|oc (qA (fun u v W (hu:u= .agg #[.pointer (some ⟨b,0,none⟩), .pointer (some ⟨b,6,none⟩), .pointer (some ⟨b3,0,none⟩)]) (hv:v= .agg #[.pointer (some ⟨b,3,none⟩), .pointer (some ⟨b,9,none⟩), .pointer (some ⟨b3,3,none⟩)])=>by subst hu hv;exact ⟨_,bG2 _ _ _ _ _ _,rfl⟩))<|oc zC<|zD) fun a w2 s=> ?_
 refine zA rfl ?_
 refine zWV ?_
 refine zDc 0 (fun k=>CU.agg (fPR (fPV m (gLo k lo p)) (fPV m (gHi k hi p)))) (fun k=>k<=2) (fun k=> [(26, .u (UF.eq (.agg #[.pointer (some ⟨b,0,none⟩), .pointer (some ⟨b,6,none⟩), .pointer (some ⟨b3,0,none⟩), .pointer (some ⟨b,3,none⟩), .pointer (some ⟨b,9,none⟩), .pointer (some ⟨b3,3,none⟩)]))),(27, .u (uI (k:Int)))]) (fun k=>2 - k) (0:Nat) (zW1 _) (s.keepK _ (fmz ⟨.head _,fmz ⟨mz1,fnz⟩⟩)) rfl fun k a w hx s=> ?_
 refine zWS ?_
 refine zB 1 ((28, .u (uB (decide ((k:Int)<2)))):: []) hmix s kI
  (oc (zS .i64 (k:Int) 2 (decide ((k:Int)<2)) iiz iiz rfl rfl)<|zD) fun a w3 s=> ?_
 refine zA rfl ?_
 refine zWS ?_
 refine StS.cond s (decide ((k:Int)<2)) iiz (fun e=> ?_) (fun e=> ?_)
 ·refine zWU ?_
  refine zWS ?_
  refine zWV ?_
  refine zWS ?_
  rcases (show k=0∨k=1 by have:=zWY e;omega) with rfl|rfl
  ·refine zB 1 ((29, .u (UF.eq (.agg #[.pointer (some ⟨b,0,none⟩), .pointer (some ⟨b,6,none⟩), .pointer (some ⟨b3,0,none⟩)]))):: []) hmix s kI
    (oc (zLs (.agg #[.pointer (some ⟨b,0,none⟩), .pointer (some ⟨b,6,none⟩), .pointer (some ⟨b3,0,none⟩), .pointer (some ⟨b,3,none⟩), .pointer (some ⟨b,9,none⟩), .pointer (some ⟨b3,3,none⟩)]) (.int .i64 0) (.agg #[.pointer (some ⟨b,0,none⟩), .pointer (some ⟨b,6,none⟩), .pointer (some ⟨b3,0,none⟩)]) iiz iiz (fun W=>zVM _ _ _ _ _ _ W))<|zD) fun a w4 s=> ?_
   refine z7 (CU.len 3) (cs:= [.pointer none, .pointer none, .pointer none]) kI rfl s kI (fun W=>rfl) rfl fun b5 a w s=> ?_
   refine zR (CU.agg (UF.eq (.agg #[.pointer (some ⟨b,0,none⟩), .pointer (some ⟨b,6,none⟩), .pointer (some ⟨b3,0,none⟩)]))) ((UF.eq (.agg #[.pointer (some ⟨b,0,none⟩), .pointer (some ⟨b,6,none⟩), .pointer (some ⟨b3,0,none⟩)])).tS) rfl s kI rfl rfl rfl iiz iiz (zHy (vs:= [.pointer (some ⟨b,0,none⟩), .pointer (some ⟨b,6,none⟩), .pointer (some ⟨b3,0,none⟩)]) rfl (by intro u hu;simp at hu;rcases hu with rfl|rfl|rfl<;>rfl) rfl) fun a w s=> ?_
   refine zA rfl ?_
   refine zWS ?_
   refine zWS ?_
   obtain ⟨cs0,hh0,hc0,_⟩:=s.boxAt (c:=0) rfl
   obtain ⟨cs3,hh3,hc3,_⟩:=s.boxAt (c:=3) rfl
   refine zB 10 ((30, .s (wB ((CU.agg (UF.eq (.agg #[.pointer (some ⟨b,0,none⟩), .pointer (some ⟨b,6,none⟩), .pointer (some ⟨b3,0,none⟩)]))).cf.at 2)))::(31, .s (wB ((CU.agg (fPV m p)).cf.at 0)))::(32, .s (wB ((CU.agg (fPV m p)).cf.at 0)))::(33, .s ((fRV m ((p).1)).tS))::(34, .s (wB ((CU.agg (UF.eq (.agg #[.pointer (some ⟨b,0,none⟩), .pointer (some ⟨b,6,none⟩), .pointer (some ⟨b3,0,none⟩)]))).cf.at 0)))::(35, .s (wB ((CU.agg (fPR (fPV m (gLo 0 lo p)) (fPV m (gHi 0 hi p)))).cf.at 0)))::(36, .s (wB ((CU.agg (fPR (fPV m (gLo 0 lo p)) (fPV m (gHi 0 hi p)))).cf.at 0)))::(37, .s ((fRV m ((gLo 0 lo p).1)).tS))::(38, .s ((uI (qsg (p).1 (gLo 0 lo p).1)).tS))::(39, .u (uB (decide (qsg (p).1 (gLo 0 lo p).1<0)))):: []) hmix s kI
    (oc (zJ (C:=(CU.agg (UF.eq (.agg #[.pointer (some ⟨b,0,none⟩), .pointer (some ⟨b,6,none⟩), .pointer (some ⟨b3,0,none⟩)]))).cf) 2 kI)<|oc (qT (vs:= [.pointer (some ⟨b,0,none⟩), .pointer (some ⟨b,6,none⟩), .pointer (some ⟨b3,0,none⟩)]) (b':=b3) (o:=0) (D:=CU.agg (fPV m p)) 2 kI iiz rfl hh3 hc3)<|oc (qG (C:=((CU.agg (fPV m p)).cf.at 0)))<|oc (zP (C:=(CU.agg (fPV m p)).cf) (k:=0) 3 kI (h:=zC7))<|oc (zJ (C:=(CU.agg (UF.eq (.agg #[.pointer (some ⟨b,0,none⟩), .pointer (some ⟨b,6,none⟩), .pointer (some ⟨b3,0,none⟩)]))).cf) 0 kI)<|oc (qT (vs:= [.pointer (some ⟨b,0,none⟩), .pointer (some ⟨b,6,none⟩), .pointer (some ⟨b3,0,none⟩)]) (b':=b) (o:=0) (D:=CU.agg (fPR (fPV m (gLo 0 lo p)) (fPV m (gHi 0 hi p)))) 0 kI iiz rfl hh0 hc0)<|oc (qG (C:=((CU.agg (fPR (fPV m (gLo 0 lo p)) (fPV m (gHi 0 hi p)))).cf.at 0)))<|oc (zP (C:=(CU.agg (fPR (fPV m (gLo 0 lo p)) (fPV m (gHi 0 hi p)))).cf) (k:=0) 3 kI (h:=zQW))<|oc (zI zE zFd (fun u0 u1 W hb (h0:RVp m ((p).1) u0 W) (h1:RVp m ((gLo 0 lo p).1) u1 W)=>zCP h0 h1 hm hm0 (hTb _ (zFx s.gr hb))))<|oc (zS .i64 (qsg (p).1 (gLo 0 lo p).1) 0 (decide (qsg (p).1 (gLo 0 lo p).1<0)) iiz iiz rfl rfl)<|zD) fun a w5 s=> ?_
   refine zA rfl ?_
   refine StS.cond s (decide (qsg (p).1 (gLo 0 lo p).1<0)) iiz (fun e=> ?_) (fun e=> ?_)
   ·have eLo:=e
    obtain ⟨cs0,hh0,hc0,_⟩:=s.boxAt (c:=0) rfl
    obtain ⟨cs3,hh3,hc3,_⟩:=s.boxAt (c:=3) rfl
    refine z9 [] 7 ((40, .s (wB ((CU.agg (UF.eq (.agg #[.pointer (some ⟨b,0,none⟩), .pointer (some ⟨b,6,none⟩), .pointer (some ⟨b3,0,none⟩)]))).cf.at 0)))::(41, .s ((UF.eq (.pointer (some ⟨b,0,none⟩))).tS))::(42, .s (wB ((CU.agg (UF.eq (.agg #[.pointer (some ⟨b,0,none⟩), .pointer (some ⟨b,6,none⟩), .pointer (some ⟨b3,0,none⟩)]))).cf.at 2)))::(43, .s (wB ((CU.agg (fPV m p)).cf.at 0)))::(44, .s (wB ((CU.agg (fPV m p)).cf.at 0)))::(45, .u (fRV m ((p).1)))::(46, .u (UF.eq (.pointer (some ⟨b,0,none⟩)))):: []) hmix s kI
     (oc (zJ (C:=(CU.agg (UF.eq (.agg #[.pointer (some ⟨b,0,none⟩), .pointer (some ⟨b,6,none⟩), .pointer (some ⟨b3,0,none⟩)]))).cf) 0 kI)<|oc (jF (C:=(CU.agg (UF.eq (.agg #[.pointer (some ⟨b,0,none⟩), .pointer (some ⟨b,6,none⟩), .pointer (some ⟨b3,0,none⟩)]))).cf) (k:=0) kI (h:=zDW (vs:= [.pointer (some ⟨b,0,none⟩), .pointer (some ⟨b,6,none⟩), .pointer (some ⟨b3,0,none⟩)]) rfl))<|oc (zJ (C:=(CU.agg (UF.eq (.agg #[.pointer (some ⟨b,0,none⟩), .pointer (some ⟨b,6,none⟩), .pointer (some ⟨b3,0,none⟩)]))).cf) 2 kI)<|oc (qT (vs:= [.pointer (some ⟨b,0,none⟩), .pointer (some ⟨b,6,none⟩), .pointer (some ⟨b3,0,none⟩)]) (b':=b3) (o:=0) (D:=CU.agg (fPV m p)) 2 kI iiz rfl hh3 hc3)<|oc (qG (C:=((CU.agg (fPV m p)).cf.at 0)))<|oc (zP (C:=(CU.agg (fPV m p)).cf) (k:=0) 3 kI (h:=zC7))<|oc (jW (a:=⟨b,0,none⟩) iiz)<|zD) fun Q' hQ a w6 s=> ?_
    refine q7 (c:=0) (o:=0) (kk:=3) (CU.agg (fPR (fPV m ((p).1,(gLo 0 lo p).2)) (fPV m (gHi 0 hi p)))) ((fRV m ((p).1)).tS) rfl s kI rfl rfl iiz iiz zTX fun a w s=> ?_
    refine zA rfl (hQ _ _ ?_)
    refine zWS ?_
    obtain ⟨cs0,hh0,hc0,_⟩:=s.boxAt (c:=0) rfl
    obtain ⟨cs3,hh3,hc3,_⟩:=s.boxAt (c:=3) rfl
    refine zB 10 ((47, .s (wB ((CU.agg (UF.eq (.agg #[.pointer (some ⟨b,0,none⟩), .pointer (some ⟨b,6,none⟩), .pointer (some ⟨b3,0,none⟩)]))).cf.at 2)))::(48, .s (wB ((CU.agg (fPV m p)).cf.at 0)))::(49, .s (wB ((CU.agg (fPV m p)).cf.at 0)))::(50, .s ((fRV m ((p).1)).tS))::(51, .s (wB ((CU.agg (UF.eq (.agg #[.pointer (some ⟨b,0,none⟩), .pointer (some ⟨b,6,none⟩), .pointer (some ⟨b3,0,none⟩)]))).cf.at 1)))::(52, .s (wB ((CU.agg (fPR (fPV m ((p).1,(gLo 0 lo p).2)) (fPV m (gHi 0 hi p)))).cf.at 6)))::(53, .s (wB ((CU.agg (fPR (fPV m ((p).1,(gLo 0 lo p).2)) (fPV m (gHi 0 hi p)))).cf.at 6)))::(54, .s ((fRV m ((gHi 0 hi p).1)).tS))::(55, .s ((uI (qsg (p).1 (gHi 0 hi p).1)).tS))::(56, .u (uB (decide (qsg (p).1 (gHi 0 hi p).1>0)))):: []) hmix s kI
     (oc (zJ (C:=(CU.agg (UF.eq (.agg #[.pointer (some ⟨b,0,none⟩), .pointer (some ⟨b,6,none⟩), .pointer (some ⟨b3,0,none⟩)]))).cf) 2 kI)<|oc (qT (vs:= [.pointer (some ⟨b,0,none⟩), .pointer (some ⟨b,6,none⟩), .pointer (some ⟨b3,0,none⟩)]) (b':=b3) (o:=0) (D:=CU.agg (fPV m p)) 2 kI iiz rfl hh3 hc3)<|oc (qG (C:=((CU.agg (fPV m p)).cf.at 0)))<|oc (zP (C:=(CU.agg (fPV m p)).cf) (k:=0) 3 kI (h:=zC7))<|oc (zJ (C:=(CU.agg (UF.eq (.agg #[.pointer (some ⟨b,0,none⟩), .pointer (some ⟨b,6,none⟩), .pointer (some ⟨b3,0,none⟩)]))).cf) 1 kI)<|oc (qT (vs:= [.pointer (some ⟨b,0,none⟩), .pointer (some ⟨b,6,none⟩), .pointer (some ⟨b3,0,none⟩)]) (b':=b) (o:=6) (D:=CU.agg (fPR (fPV m ((p).1,(gLo 0 lo p).2)) (fPV m (gHi 0 hi p)))) 1 kI iiz rfl hh0 hc0)<|oc (qG (C:=((CU.agg (fPR (fPV m ((p).1,(gLo 0 lo p).2)) (fPV m (gHi 0 hi p)))).cf.at 6)))<|oc (zP (C:=(CU.agg (fPR (fPV m ((p).1,(gLo 0 lo p).2)) (fPV m (gHi 0 hi p)))).cf) (k:=6) 3 kI (h:=zNO))<|oc (zI zE zFd (fun u0 u1 W hb (h0:RVp m ((p).1) u0 W) (h1:RVp m ((gHi 0 hi p).1) u1 W)=>zCP h0 h1 hm hm0 (hTb _ (zFx s.gr hb))))<|oc (zS .i64 (qsg (p).1 (gHi 0 hi p).1) 0 (decide (qsg (p).1 (gHi 0 hi p).1>0)) iiz iiz rfl rfl)<|zD) fun a w7 s=> ?_
    refine zA rfl ?_
    refine StS.cond s (decide (qsg (p).1 (gHi 0 hi p).1>0)) iiz (fun e=> ?_) (fun e=> ?_)
    ·have eHi:=e
     obtain ⟨cs0,hh0,hc0,_⟩:=s.boxAt (c:=0) rfl
     obtain ⟨cs3,hh3,hc3,_⟩:=s.boxAt (c:=3) rfl
     refine z9 [] 7 ((57, .s (wB ((CU.agg (UF.eq (.agg #[.pointer (some ⟨b,0,none⟩), .pointer (some ⟨b,6,none⟩), .pointer (some ⟨b3,0,none⟩)]))).cf.at 1)))::(58, .s ((UF.eq (.pointer (some ⟨b,6,none⟩))).tS))::(59, .s (wB ((CU.agg (UF.eq (.agg #[.pointer (some ⟨b,0,none⟩), .pointer (some ⟨b,6,none⟩), .pointer (some ⟨b3,0,none⟩)]))).cf.at 2)))::(60, .s (wB ((CU.agg (fPV m p)).cf.at 0)))::(61, .s (wB ((CU.agg (fPV m p)).cf.at 0)))::(62, .u (fRV m ((p).1)))::(63, .u (UF.eq (.pointer (some ⟨b,6,none⟩)))):: []) hmix s kI
      (oc (zJ (C:=(CU.agg (UF.eq (.agg #[.pointer (some ⟨b,0,none⟩), .pointer (some ⟨b,6,none⟩), .pointer (some ⟨b3,0,none⟩)]))).cf) 1 kI)<|oc (jF (C:=(CU.agg (UF.eq (.agg #[.pointer (some ⟨b,0,none⟩), .pointer (some ⟨b,6,none⟩), .pointer (some ⟨b3,0,none⟩)]))).cf) (k:=1) kI (h:=zDW (vs:= [.pointer (some ⟨b,0,none⟩), .pointer (some ⟨b,6,none⟩), .pointer (some ⟨b3,0,none⟩)]) rfl))<|oc (zJ (C:=(CU.agg (UF.eq (.agg #[.pointer (some ⟨b,0,none⟩), .pointer (some ⟨b,6,none⟩), .pointer (some ⟨b3,0,none⟩)]))).cf) 2 kI)<|oc (qT (vs:= [.pointer (some ⟨b,0,none⟩), .pointer (some ⟨b,6,none⟩), .pointer (some ⟨b3,0,none⟩)]) (b':=b3) (o:=0) (D:=CU.agg (fPV m p)) 2 kI iiz rfl hh3 hc3)<|oc (qG (C:=((CU.agg (fPV m p)).cf.at 0)))<|oc (zP (C:=(CU.agg (fPV m p)).cf) (k:=0) 3 kI (h:=zC7))<|oc (jW (a:=⟨b,6,none⟩) iiz)<|zD) fun Q' hQ a w8 s=> ?_
     refine q7 (c:=0) (o:=6) (kk:=3) (CU.agg (fPR (fPV m ((p).1,(gLo 0 lo p).2)) (fPV m ((p).1,(gHi 0 hi p).2)))) ((fRV m ((p).1)).tS) rfl s kI rfl rfl iiz iiz zR4 fun a w s=> ?_
     refine zA rfl (hQ _ _ ?_)
     refine zY 1 ((64, .u (uI ((0+1:Nat):Int))):: []) s kI
      (oc (yR .i64 ((0:Nat):Int) 1 ((0+1:Nat):Int) iiz iiz (wrap64 _ _ oP oP))<|zD) fun a w9 s=> ?_
     replace s:=s.drop [27]
     refine zAQ (uI ((0+1:Nat):Int)) rfl s kI zC kI fun a w s=> ?_
     refine zA rfl ?_
     rw [<-zPy eLo] at s
     rw [<-zPC eHi] at s
     replace s:=s.popB
     exact ⟨(0+1),dB,dB,s.keepK _ (fmz ⟨zQ9,fmz ⟨.head _,fnz⟩⟩)⟩
    ·have eHi:=e
     refine zWU ?_
     refine zY 1 ((64, .u (uI ((0+1:Nat):Int))):: []) s kI
      (oc (yR .i64 ((0:Nat):Int) 1 ((0+1:Nat):Int) iiz iiz (wrap64 _ _ oP oP))<|zD) fun a w10 s=> ?_
     replace s:=s.drop [27]
     refine zAQ (uI ((0+1:Nat):Int)) rfl s kI zC kI fun a w s=> ?_
     refine zA rfl ?_
     rw [<-zPy eLo] at s
     rw [<-zPD eHi] at s
     replace s:=s.popB
     exact ⟨(0+1),dB,dB,s.keepK _ (fmz ⟨mz8,fmz ⟨.head _,fnz⟩⟩)⟩
   ·have eLo:=e
    refine zWU ?_
    refine zWS ?_
    obtain ⟨cs0,hh0,hc0,_⟩:=s.boxAt (c:=0) rfl
    obtain ⟨cs3,hh3,hc3,_⟩:=s.boxAt (c:=3) rfl
    refine zB 10 ((47, .s (wB ((CU.agg (UF.eq (.agg #[.pointer (some ⟨b,0,none⟩), .pointer (some ⟨b,6,none⟩), .pointer (some ⟨b3,0,none⟩)]))).cf.at 2)))::(48, .s (wB ((CU.agg (fPV m p)).cf.at 0)))::(49, .s (wB ((CU.agg (fPV m p)).cf.at 0)))::(50, .s ((fRV m ((p).1)).tS))::(51, .s (wB ((CU.agg (UF.eq (.agg #[.pointer (some ⟨b,0,none⟩), .pointer (some ⟨b,6,none⟩), .pointer (some ⟨b3,0,none⟩)]))).cf.at 1)))::(52, .s (wB ((CU.agg (fPR (fPV m (gLo 0 lo p)) (fPV m (gHi 0 hi p)))).cf.at 6)))::(53, .s (wB ((CU.agg (fPR (fPV m (gLo 0 lo p)) (fPV m (gHi 0 hi p)))).cf.at 6)))::(54, .s ((fRV m ((gHi 0 hi p).1)).tS))::(55, .s ((uI (qsg (p).1 (gHi 0 hi p).1)).tS))::(56, .u (uB (decide (qsg (p).1 (gHi 0 hi p).1>0)))):: []) hmix s kI
     (oc (zJ (C:=(CU.agg (UF.eq (.agg #[.pointer (some ⟨b,0,none⟩), .pointer (some ⟨b,6,none⟩), .pointer (some ⟨b3,0,none⟩)]))).cf) 2 kI)<|oc (qT (vs:= [.pointer (some ⟨b,0,none⟩), .pointer (some ⟨b,6,none⟩), .pointer (some ⟨b3,0,none⟩)]) (b':=b3) (o:=0) (D:=CU.agg (fPV m p)) 2 kI iiz rfl hh3 hc3)<|oc (qG (C:=((CU.agg (fPV m p)).cf.at 0)))<|oc (zP (C:=(CU.agg (fPV m p)).cf) (k:=0) 3 kI (h:=zC7))<|oc (zJ (C:=(CU.agg (UF.eq (.agg #[.pointer (some ⟨b,0,none⟩), .pointer (some ⟨b,6,none⟩), .pointer (some ⟨b3,0,none⟩)]))).cf) 1 kI)<|oc (qT (vs:= [.pointer (some ⟨b,0,none⟩), .pointer (some ⟨b,6,none⟩), .pointer (some ⟨b3,0,none⟩)]) (b':=b) (o:=6) (D:=CU.agg (fPR (fPV m (gLo 0 lo p)) (fPV m (gHi 0 hi p)))) 1 kI iiz rfl hh0 hc0)<|oc (qG (C:=((CU.agg (fPR (fPV m (gLo 0 lo p)) (fPV m (gHi 0 hi p)))).cf.at 6)))<|oc (zP (C:=(CU.agg (fPR (fPV m (gLo 0 lo p)) (fPV m (gHi 0 hi p)))).cf) (k:=6) 3 kI (h:=zNO))<|oc (zI zE zFd (fun u0 u1 W hb (h0:RVp m ((p).1) u0 W) (h1:RVp m ((gHi 0 hi p).1) u1 W)=>zCP h0 h1 hm hm0 (hTb _ (zFx s.gr hb))))<|oc (zS .i64 (qsg (p).1 (gHi 0 hi p).1) 0 (decide (qsg (p).1 (gHi 0 hi p).1>0)) iiz iiz rfl rfl)<|zD) fun a w11 s=> ?_
    refine zA rfl ?_
    refine StS.cond s (decide (qsg (p).1 (gHi 0 hi p).1>0)) iiz (fun e=> ?_) (fun e=> ?_)
    ·have eHi:=e
     obtain ⟨cs0,hh0,hc0,_⟩:=s.boxAt (c:=0) rfl
     obtain ⟨cs3,hh3,hc3,_⟩:=s.boxAt (c:=3) rfl
     refine z9 [] 7 ((57, .s (wB ((CU.agg (UF.eq (.agg #[.pointer (some ⟨b,0,none⟩), .pointer (some ⟨b,6,none⟩), .pointer (some ⟨b3,0,none⟩)]))).cf.at 1)))::(58, .s ((UF.eq (.pointer (some ⟨b,6,none⟩))).tS))::(59, .s (wB ((CU.agg (UF.eq (.agg #[.pointer (some ⟨b,0,none⟩), .pointer (some ⟨b,6,none⟩), .pointer (some ⟨b3,0,none⟩)]))).cf.at 2)))::(60, .s (wB ((CU.agg (fPV m p)).cf.at 0)))::(61, .s (wB ((CU.agg (fPV m p)).cf.at 0)))::(62, .u (fRV m ((p).1)))::(63, .u (UF.eq (.pointer (some ⟨b,6,none⟩)))):: []) hmix s kI
      (oc (zJ (C:=(CU.agg (UF.eq (.agg #[.pointer (some ⟨b,0,none⟩), .pointer (some ⟨b,6,none⟩), .pointer (some ⟨b3,0,none⟩)]))).cf) 1 kI)<|oc (jF (C:=(CU.agg (UF.eq (.agg #[.pointer (some ⟨b,0,none⟩), .pointer (some ⟨b,6,none⟩), .pointer (some ⟨b3,0,none⟩)]))).cf) (k:=1) kI (h:=zDW (vs:= [.pointer (some ⟨b,0,none⟩), .pointer (some ⟨b,6,none⟩), .pointer (some ⟨b3,0,none⟩)]) rfl))<|oc (zJ (C:=(CU.agg (UF.eq (.agg #[.pointer (some ⟨b,0,none⟩), .pointer (some ⟨b,6,none⟩), .pointer (some ⟨b3,0,none⟩)]))).cf) 2 kI)<|oc (qT (vs:= [.pointer (some ⟨b,0,none⟩), .pointer (some ⟨b,6,none⟩), .pointer (some ⟨b3,0,none⟩)]) (b':=b3) (o:=0) (D:=CU.agg (fPV m p)) 2 kI iiz rfl hh3 hc3)<|oc (qG (C:=((CU.agg (fPV m p)).cf.at 0)))<|oc (zP (C:=(CU.agg (fPV m p)).cf) (k:=0) 3 kI (h:=zC7))<|oc (jW (a:=⟨b,6,none⟩) iiz)<|zD) fun Q' hQ a w12 s=> ?_
     refine q7 (c:=0) (o:=6) (kk:=3) (CU.agg (fPR (fPV m (gLo 0 lo p)) (fPV m ((p).1,(gHi 0 hi p).2)))) ((fRV m ((p).1)).tS) rfl s kI rfl rfl iiz iiz zR4 fun a w s=> ?_
     refine zA rfl (hQ _ _ ?_)
     refine zY 1 ((64, .u (uI ((0+1:Nat):Int))):: []) s kI
      (oc (yR .i64 ((0:Nat):Int) 1 ((0+1:Nat):Int) iiz iiz (wrap64 _ _ oP oP))<|zD) fun a w13 s=> ?_
     replace s:=s.drop [27]
     refine zAQ (uI ((0+1:Nat):Int)) rfl s kI zC kI fun a w s=> ?_
     refine zA rfl ?_
     rw [<-zPz eLo] at s
     rw [<-zPC eHi] at s
     replace s:=s.popB
     exact ⟨(0+1),dB,dB,s.keepK _ (fmz ⟨mz8,fmz ⟨.head _,fnz⟩⟩)⟩
    ·have eHi:=e
     refine zWU ?_
     refine zY 1 ((64, .u (uI ((0+1:Nat):Int))):: []) s kI
      (oc (yR .i64 ((0:Nat):Int) 1 ((0+1:Nat):Int) iiz iiz (wrap64 _ _ oP oP))<|zD) fun a w14 s=> ?_
     replace s:=s.drop [27]
     refine zAQ (uI ((0+1:Nat):Int)) rfl s kI zC kI fun a w s=> ?_
     refine zA rfl ?_
     rw [<-zPz eLo] at s
     rw [<-zPD eHi] at s
     replace s:=s.popB
     exact ⟨(0+1),dB,dB,s.keepK _ (fmz ⟨mz6,fmz ⟨.head _,fnz⟩⟩)⟩
  ·refine zB 1 ((29, .u (UF.eq (.agg #[.pointer (some ⟨b,3,none⟩), .pointer (some ⟨b,9,none⟩), .pointer (some ⟨b3,3,none⟩)]))):: []) hmix s kI
    (oc (zLs (.agg #[.pointer (some ⟨b,0,none⟩), .pointer (some ⟨b,6,none⟩), .pointer (some ⟨b3,0,none⟩), .pointer (some ⟨b,3,none⟩), .pointer (some ⟨b,9,none⟩), .pointer (some ⟨b3,3,none⟩)]) (.int .i64 1) (.agg #[.pointer (some ⟨b,3,none⟩), .pointer (some ⟨b,9,none⟩), .pointer (some ⟨b3,3,none⟩)]) iiz iiz (fun W=>zVL _ _ _ _ _ _ W))<|zD) fun a w15 s=> ?_
   refine z7 (CU.len 3) (cs:= [.pointer none, .pointer none, .pointer none]) kI rfl s kI (fun W=>rfl) rfl fun b5 a w s=> ?_
   refine zR (CU.agg (UF.eq (.agg #[.pointer (some ⟨b,3,none⟩), .pointer (some ⟨b,9,none⟩), .pointer (some ⟨b3,3,none⟩)]))) ((UF.eq (.agg #[.pointer (some ⟨b,3,none⟩), .pointer (some ⟨b,9,none⟩), .pointer (some ⟨b3,3,none⟩)])).tS) rfl s kI rfl rfl rfl iiz iiz (zHy (vs:= [.pointer (some ⟨b,3,none⟩), .pointer (some ⟨b,9,none⟩), .pointer (some ⟨b3,3,none⟩)]) rfl (by intro u hu;simp at hu;rcases hu with rfl|rfl|rfl<;>rfl) rfl) fun a w s=> ?_
   refine zA rfl ?_
   refine zWS ?_
   refine zWS ?_
   obtain ⟨cs0,hh0,hc0,_⟩:=s.boxAt (c:=0) rfl
   obtain ⟨cs3,hh3,hc3,_⟩:=s.boxAt (c:=3) rfl
   refine zB 10 ((30, .s (wB ((CU.agg (UF.eq (.agg #[.pointer (some ⟨b,3,none⟩), .pointer (some ⟨b,9,none⟩), .pointer (some ⟨b3,3,none⟩)]))).cf.at 2)))::(31, .s (wB ((CU.agg (fPV m p)).cf.at 3)))::(32, .s (wB ((CU.agg (fPV m p)).cf.at 3)))::(33, .s ((fRV m ((p).2)).tS))::(34, .s (wB ((CU.agg (UF.eq (.agg #[.pointer (some ⟨b,3,none⟩), .pointer (some ⟨b,9,none⟩), .pointer (some ⟨b3,3,none⟩)]))).cf.at 0)))::(35, .s (wB ((CU.agg (fPR (fPV m (gLo 1 lo p)) (fPV m (gHi 1 hi p)))).cf.at 3)))::(36, .s (wB ((CU.agg (fPR (fPV m (gLo 1 lo p)) (fPV m (gHi 1 hi p)))).cf.at 3)))::(37, .s ((fRV m ((gLo 1 lo p).2)).tS))::(38, .s ((uI (qsg (p).2 (gLo 1 lo p).2)).tS))::(39, .u (uB (decide (qsg (p).2 (gLo 1 lo p).2<0)))):: []) hmix s kI
    (oc (zJ (C:=(CU.agg (UF.eq (.agg #[.pointer (some ⟨b,3,none⟩), .pointer (some ⟨b,9,none⟩), .pointer (some ⟨b3,3,none⟩)]))).cf) 2 kI)<|oc (qT (vs:= [.pointer (some ⟨b,3,none⟩), .pointer (some ⟨b,9,none⟩), .pointer (some ⟨b3,3,none⟩)]) (b':=b3) (o:=3) (D:=CU.agg (fPV m p)) 2 kI iiz rfl hh3 hc3)<|oc (qG (C:=((CU.agg (fPV m p)).cf.at 3)))<|oc (zP (C:=(CU.agg (fPV m p)).cf) (k:=3) 3 kI (h:=zC6))<|oc (zJ (C:=(CU.agg (UF.eq (.agg #[.pointer (some ⟨b,3,none⟩), .pointer (some ⟨b,9,none⟩), .pointer (some ⟨b3,3,none⟩)]))).cf) 0 kI)<|oc (qT (vs:= [.pointer (some ⟨b,3,none⟩), .pointer (some ⟨b,9,none⟩), .pointer (some ⟨b3,3,none⟩)]) (b':=b) (o:=3) (D:=CU.agg (fPR (fPV m (gLo 1 lo p)) (fPV m (gHi 1 hi p)))) 0 kI iiz rfl hh0 hc0)<|oc (qG (C:=((CU.agg (fPR (fPV m (gLo 1 lo p)) (fPV m (gHi 1 hi p)))).cf.at 3)))<|oc (zP (C:=(CU.agg (fPR (fPV m (gLo 1 lo p)) (fPV m (gHi 1 hi p)))).cf) (k:=3) 3 kI (h:=zQV))<|oc (zI zE zFd (fun u0 u1 W hb (h0:RVp m ((p).2) u0 W) (h1:RVp m ((gLo 1 lo p).2) u1 W)=>zCP h0 h1 hm hm0 (hTb _ (zFx s.gr hb))))<|oc (zS .i64 (qsg (p).2 (gLo 1 lo p).2) 0 (decide (qsg (p).2 (gLo 1 lo p).2<0)) iiz iiz rfl rfl)<|zD) fun a w16 s=> ?_
   refine zA rfl ?_
   refine StS.cond s (decide (qsg (p).2 (gLo 1 lo p).2<0)) iiz (fun e=> ?_) (fun e=> ?_)
   ·have eLo:=e
    obtain ⟨cs0,hh0,hc0,_⟩:=s.boxAt (c:=0) rfl
    obtain ⟨cs3,hh3,hc3,_⟩:=s.boxAt (c:=3) rfl
    refine z9 [] 7 ((40, .s (wB ((CU.agg (UF.eq (.agg #[.pointer (some ⟨b,3,none⟩), .pointer (some ⟨b,9,none⟩), .pointer (some ⟨b3,3,none⟩)]))).cf.at 0)))::(41, .s ((UF.eq (.pointer (some ⟨b,3,none⟩))).tS))::(42, .s (wB ((CU.agg (UF.eq (.agg #[.pointer (some ⟨b,3,none⟩), .pointer (some ⟨b,9,none⟩), .pointer (some ⟨b3,3,none⟩)]))).cf.at 2)))::(43, .s (wB ((CU.agg (fPV m p)).cf.at 3)))::(44, .s (wB ((CU.agg (fPV m p)).cf.at 3)))::(45, .u (fRV m ((p).2)))::(46, .u (UF.eq (.pointer (some ⟨b,3,none⟩)))):: []) hmix s kI
     (oc (zJ (C:=(CU.agg (UF.eq (.agg #[.pointer (some ⟨b,3,none⟩), .pointer (some ⟨b,9,none⟩), .pointer (some ⟨b3,3,none⟩)]))).cf) 0 kI)<|oc (jF (C:=(CU.agg (UF.eq (.agg #[.pointer (some ⟨b,3,none⟩), .pointer (some ⟨b,9,none⟩), .pointer (some ⟨b3,3,none⟩)]))).cf) (k:=0) kI (h:=zDW (vs:= [.pointer (some ⟨b,3,none⟩), .pointer (some ⟨b,9,none⟩), .pointer (some ⟨b3,3,none⟩)]) rfl))<|oc (zJ (C:=(CU.agg (UF.eq (.agg #[.pointer (some ⟨b,3,none⟩), .pointer (some ⟨b,9,none⟩), .pointer (some ⟨b3,3,none⟩)]))).cf) 2 kI)<|oc (qT (vs:= [.pointer (some ⟨b,3,none⟩), .pointer (some ⟨b,9,none⟩), .pointer (some ⟨b3,3,none⟩)]) (b':=b3) (o:=3) (D:=CU.agg (fPV m p)) 2 kI iiz rfl hh3 hc3)<|oc (qG (C:=((CU.agg (fPV m p)).cf.at 3)))<|oc (zP (C:=(CU.agg (fPV m p)).cf) (k:=3) 3 kI (h:=zC6))<|oc (jW (a:=⟨b,3,none⟩) iiz)<|zD) fun Q' hQ a w17 s=> ?_
    refine q7 (c:=0) (o:=3) (kk:=3) (CU.agg (fPR (fPV m ((gLo 1 lo p).1,(p).2)) (fPV m (gHi 1 hi p)))) ((fRV m ((p).2)).tS) rfl s kI rfl rfl iiz iiz zTW fun a w s=> ?_
    refine zA rfl (hQ _ _ ?_)
    refine zWS ?_
    obtain ⟨cs0,hh0,hc0,_⟩:=s.boxAt (c:=0) rfl
    obtain ⟨cs3,hh3,hc3,_⟩:=s.boxAt (c:=3) rfl
    refine zB 10 ((47, .s (wB ((CU.agg (UF.eq (.agg #[.pointer (some ⟨b,3,none⟩), .pointer (some ⟨b,9,none⟩), .pointer (some ⟨b3,3,none⟩)]))).cf.at 2)))::(48, .s (wB ((CU.agg (fPV m p)).cf.at 3)))::(49, .s (wB ((CU.agg (fPV m p)).cf.at 3)))::(50, .s ((fRV m ((p).2)).tS))::(51, .s (wB ((CU.agg (UF.eq (.agg #[.pointer (some ⟨b,3,none⟩), .pointer (some ⟨b,9,none⟩), .pointer (some ⟨b3,3,none⟩)]))).cf.at 1)))::(52, .s (wB ((CU.agg (fPR (fPV m ((gLo 1 lo p).1,(p).2)) (fPV m (gHi 1 hi p)))).cf.at 9)))::(53, .s (wB ((CU.agg (fPR (fPV m ((gLo 1 lo p).1,(p).2)) (fPV m (gHi 1 hi p)))).cf.at 9)))::(54, .s ((fRV m ((gHi 1 hi p).2)).tS))::(55, .s ((uI (qsg (p).2 (gHi 1 hi p).2)).tS))::(56, .u (uB (decide (qsg (p).2 (gHi 1 hi p).2>0)))):: []) hmix s kI
     (oc (zJ (C:=(CU.agg (UF.eq (.agg #[.pointer (some ⟨b,3,none⟩), .pointer (some ⟨b,9,none⟩), .pointer (some ⟨b3,3,none⟩)]))).cf) 2 kI)<|oc (qT (vs:= [.pointer (some ⟨b,3,none⟩), .pointer (some ⟨b,9,none⟩), .pointer (some ⟨b3,3,none⟩)]) (b':=b3) (o:=3) (D:=CU.agg (fPV m p)) 2 kI iiz rfl hh3 hc3)<|oc (qG (C:=((CU.agg (fPV m p)).cf.at 3)))<|oc (zP (C:=(CU.agg (fPV m p)).cf) (k:=3) 3 kI (h:=zC6))<|oc (zJ (C:=(CU.agg (UF.eq (.agg #[.pointer (some ⟨b,3,none⟩), .pointer (some ⟨b,9,none⟩), .pointer (some ⟨b3,3,none⟩)]))).cf) 1 kI)<|oc (qT (vs:= [.pointer (some ⟨b,3,none⟩), .pointer (some ⟨b,9,none⟩), .pointer (some ⟨b3,3,none⟩)]) (b':=b) (o:=9) (D:=CU.agg (fPR (fPV m ((gLo 1 lo p).1,(p).2)) (fPV m (gHi 1 hi p)))) 1 kI iiz rfl hh0 hc0)<|oc (qG (C:=((CU.agg (fPR (fPV m ((gLo 1 lo p).1,(p).2)) (fPV m (gHi 1 hi p)))).cf.at 9)))<|oc (zP (C:=(CU.agg (fPR (fPV m ((gLo 1 lo p).1,(p).2)) (fPV m (gHi 1 hi p)))).cf) (k:=9) 3 kI (h:=zNN))<|oc (zI zE zFd (fun u0 u1 W hb (h0:RVp m ((p).2) u0 W) (h1:RVp m ((gHi 1 hi p).2) u1 W)=>zCP h0 h1 hm hm0 (hTb _ (zFx s.gr hb))))<|oc (zS .i64 (qsg (p).2 (gHi 1 hi p).2) 0 (decide (qsg (p).2 (gHi 1 hi p).2>0)) iiz iiz rfl rfl)<|zD) fun a w18 s=> ?_
    refine zA rfl ?_
    refine StS.cond s (decide (qsg (p).2 (gHi 1 hi p).2>0)) iiz (fun e=> ?_) (fun e=> ?_)
    ·have eHi:=e
     obtain ⟨cs0,hh0,hc0,_⟩:=s.boxAt (c:=0) rfl
     obtain ⟨cs3,hh3,hc3,_⟩:=s.boxAt (c:=3) rfl
     refine z9 [] 7 ((57, .s (wB ((CU.agg (UF.eq (.agg #[.pointer (some ⟨b,3,none⟩), .pointer (some ⟨b,9,none⟩), .pointer (some ⟨b3,3,none⟩)]))).cf.at 1)))::(58, .s ((UF.eq (.pointer (some ⟨b,9,none⟩))).tS))::(59, .s (wB ((CU.agg (UF.eq (.agg #[.pointer (some ⟨b,3,none⟩), .pointer (some ⟨b,9,none⟩), .pointer (some ⟨b3,3,none⟩)]))).cf.at 2)))::(60, .s (wB ((CU.agg (fPV m p)).cf.at 3)))::(61, .s (wB ((CU.agg (fPV m p)).cf.at 3)))::(62, .u (fRV m ((p).2)))::(63, .u (UF.eq (.pointer (some ⟨b,9,none⟩)))):: []) hmix s kI
      (oc (zJ (C:=(CU.agg (UF.eq (.agg #[.pointer (some ⟨b,3,none⟩), .pointer (some ⟨b,9,none⟩), .pointer (some ⟨b3,3,none⟩)]))).cf) 1 kI)<|oc (jF (C:=(CU.agg (UF.eq (.agg #[.pointer (some ⟨b,3,none⟩), .pointer (some ⟨b,9,none⟩), .pointer (some ⟨b3,3,none⟩)]))).cf) (k:=1) kI (h:=zDW (vs:= [.pointer (some ⟨b,3,none⟩), .pointer (some ⟨b,9,none⟩), .pointer (some ⟨b3,3,none⟩)]) rfl))<|oc (zJ (C:=(CU.agg (UF.eq (.agg #[.pointer (some ⟨b,3,none⟩), .pointer (some ⟨b,9,none⟩), .pointer (some ⟨b3,3,none⟩)]))).cf) 2 kI)<|oc (qT (vs:= [.pointer (some ⟨b,3,none⟩), .pointer (some ⟨b,9,none⟩), .pointer (some ⟨b3,3,none⟩)]) (b':=b3) (o:=3) (D:=CU.agg (fPV m p)) 2 kI iiz rfl hh3 hc3)<|oc (qG (C:=((CU.agg (fPV m p)).cf.at 3)))<|oc (zP (C:=(CU.agg (fPV m p)).cf) (k:=3) 3 kI (h:=zC6))<|oc (jW (a:=⟨b,9,none⟩) iiz)<|zD) fun Q' hQ a w19 s=> ?_
     refine q7 (c:=0) (o:=9) (kk:=3) (CU.agg (fPR (fPV m ((gLo 1 lo p).1,(p).2)) (fPV m ((gHi 1 hi p).1,(p).2)))) ((fRV m ((p).2)).tS) rfl s kI rfl rfl iiz iiz zR2 fun a w s=> ?_
     refine zA rfl (hQ _ _ ?_)
     refine zY 1 ((64, .u (uI ((1+1:Nat):Int))):: []) s kI
      (oc (yR .i64 ((1:Nat):Int) 1 ((1+1:Nat):Int) iiz iiz (wrap64 _ _ oP oP))<|zD) fun a w20 s=> ?_
     replace s:=s.drop [27]
     refine zAQ (uI ((1+1:Nat):Int)) rfl s kI zC kI fun a w s=> ?_
     refine zA rfl ?_
     rw [<-zPw eLo] at s
     rw [<-zPA eHi] at s
     replace s:=s.popB
     exact ⟨(1+1),dB,dB,s.keepK _ (fmz ⟨zQ9,fmz ⟨.head _,fnz⟩⟩)⟩
    ·have eHi:=e
     refine zWU ?_
     refine zY 1 ((64, .u (uI ((1+1:Nat):Int))):: []) s kI
      (oc (yR .i64 ((1:Nat):Int) 1 ((1+1:Nat):Int) iiz iiz (wrap64 _ _ oP oP))<|zD) fun a w21 s=> ?_
     replace s:=s.drop [27]
     refine zAQ (uI ((1+1:Nat):Int)) rfl s kI zC kI fun a w s=> ?_
     refine zA rfl ?_
     rw [<-zPw eLo] at s
     rw [<-zPB eHi] at s
     replace s:=s.popB
     exact ⟨(1+1),dB,dB,s.keepK _ (fmz ⟨mz8,fmz ⟨.head _,fnz⟩⟩)⟩
   ·have eLo:=e
    refine zWU ?_
    refine zWS ?_
    obtain ⟨cs0,hh0,hc0,_⟩:=s.boxAt (c:=0) rfl
    obtain ⟨cs3,hh3,hc3,_⟩:=s.boxAt (c:=3) rfl
    refine zB 10 ((47, .s (wB ((CU.agg (UF.eq (.agg #[.pointer (some ⟨b,3,none⟩), .pointer (some ⟨b,9,none⟩), .pointer (some ⟨b3,3,none⟩)]))).cf.at 2)))::(48, .s (wB ((CU.agg (fPV m p)).cf.at 3)))::(49, .s (wB ((CU.agg (fPV m p)).cf.at 3)))::(50, .s ((fRV m ((p).2)).tS))::(51, .s (wB ((CU.agg (UF.eq (.agg #[.pointer (some ⟨b,3,none⟩), .pointer (some ⟨b,9,none⟩), .pointer (some ⟨b3,3,none⟩)]))).cf.at 1)))::(52, .s (wB ((CU.agg (fPR (fPV m (gLo 1 lo p)) (fPV m (gHi 1 hi p)))).cf.at 9)))::(53, .s (wB ((CU.agg (fPR (fPV m (gLo 1 lo p)) (fPV m (gHi 1 hi p)))).cf.at 9)))::(54, .s ((fRV m ((gHi 1 hi p).2)).tS))::(55, .s ((uI (qsg (p).2 (gHi 1 hi p).2)).tS))::(56, .u (uB (decide (qsg (p).2 (gHi 1 hi p).2>0)))):: []) hmix s kI
     (oc (zJ (C:=(CU.agg (UF.eq (.agg #[.pointer (some ⟨b,3,none⟩), .pointer (some ⟨b,9,none⟩), .pointer (some ⟨b3,3,none⟩)]))).cf) 2 kI)<|oc (qT (vs:= [.pointer (some ⟨b,3,none⟩), .pointer (some ⟨b,9,none⟩), .pointer (some ⟨b3,3,none⟩)]) (b':=b3) (o:=3) (D:=CU.agg (fPV m p)) 2 kI iiz rfl hh3 hc3)<|oc (qG (C:=((CU.agg (fPV m p)).cf.at 3)))<|oc (zP (C:=(CU.agg (fPV m p)).cf) (k:=3) 3 kI (h:=zC6))<|oc (zJ (C:=(CU.agg (UF.eq (.agg #[.pointer (some ⟨b,3,none⟩), .pointer (some ⟨b,9,none⟩), .pointer (some ⟨b3,3,none⟩)]))).cf) 1 kI)<|oc (qT (vs:= [.pointer (some ⟨b,3,none⟩), .pointer (some ⟨b,9,none⟩), .pointer (some ⟨b3,3,none⟩)]) (b':=b) (o:=9) (D:=CU.agg (fPR (fPV m (gLo 1 lo p)) (fPV m (gHi 1 hi p)))) 1 kI iiz rfl hh0 hc0)<|oc (qG (C:=((CU.agg (fPR (fPV m (gLo 1 lo p)) (fPV m (gHi 1 hi p)))).cf.at 9)))<|oc (zP (C:=(CU.agg (fPR (fPV m (gLo 1 lo p)) (fPV m (gHi 1 hi p)))).cf) (k:=9) 3 kI (h:=zNN))<|oc (zI zE zFd (fun u0 u1 W hb (h0:RVp m ((p).2) u0 W) (h1:RVp m ((gHi 1 hi p).2) u1 W)=>zCP h0 h1 hm hm0 (hTb _ (zFx s.gr hb))))<|oc (zS .i64 (qsg (p).2 (gHi 1 hi p).2) 0 (decide (qsg (p).2 (gHi 1 hi p).2>0)) iiz iiz rfl rfl)<|zD) fun a w22 s=> ?_
    refine zA rfl ?_
    refine StS.cond s (decide (qsg (p).2 (gHi 1 hi p).2>0)) iiz (fun e=> ?_) (fun e=> ?_)
    ·have eHi:=e
     obtain ⟨cs0,hh0,hc0,_⟩:=s.boxAt (c:=0) rfl
     obtain ⟨cs3,hh3,hc3,_⟩:=s.boxAt (c:=3) rfl
     refine z9 [] 7 ((57, .s (wB ((CU.agg (UF.eq (.agg #[.pointer (some ⟨b,3,none⟩), .pointer (some ⟨b,9,none⟩), .pointer (some ⟨b3,3,none⟩)]))).cf.at 1)))::(58, .s ((UF.eq (.pointer (some ⟨b,9,none⟩))).tS))::(59, .s (wB ((CU.agg (UF.eq (.agg #[.pointer (some ⟨b,3,none⟩), .pointer (some ⟨b,9,none⟩), .pointer (some ⟨b3,3,none⟩)]))).cf.at 2)))::(60, .s (wB ((CU.agg (fPV m p)).cf.at 3)))::(61, .s (wB ((CU.agg (fPV m p)).cf.at 3)))::(62, .u (fRV m ((p).2)))::(63, .u (UF.eq (.pointer (some ⟨b,9,none⟩)))):: []) hmix s kI
      (oc (zJ (C:=(CU.agg (UF.eq (.agg #[.pointer (some ⟨b,3,none⟩), .pointer (some ⟨b,9,none⟩), .pointer (some ⟨b3,3,none⟩)]))).cf) 1 kI)<|oc (jF (C:=(CU.agg (UF.eq (.agg #[.pointer (some ⟨b,3,none⟩), .pointer (some ⟨b,9,none⟩), .pointer (some ⟨b3,3,none⟩)]))).cf) (k:=1) kI (h:=zDW (vs:= [.pointer (some ⟨b,3,none⟩), .pointer (some ⟨b,9,none⟩), .pointer (some ⟨b3,3,none⟩)]) rfl))<|oc (zJ (C:=(CU.agg (UF.eq (.agg #[.pointer (some ⟨b,3,none⟩), .pointer (some ⟨b,9,none⟩), .pointer (some ⟨b3,3,none⟩)]))).cf) 2 kI)<|oc (qT (vs:= [.pointer (some ⟨b,3,none⟩), .pointer (some ⟨b,9,none⟩), .pointer (some ⟨b3,3,none⟩)]) (b':=b3) (o:=3) (D:=CU.agg (fPV m p)) 2 kI iiz rfl hh3 hc3)<|oc (qG (C:=((CU.agg (fPV m p)).cf.at 3)))<|oc (zP (C:=(CU.agg (fPV m p)).cf) (k:=3) 3 kI (h:=zC6))<|oc (jW (a:=⟨b,9,none⟩) iiz)<|zD) fun Q' hQ a w23 s=> ?_
     refine q7 (c:=0) (o:=9) (kk:=3) (CU.agg (fPR (fPV m (gLo 1 lo p)) (fPV m ((gHi 1 hi p).1,(p).2)))) ((fRV m ((p).2)).tS) rfl s kI rfl rfl iiz iiz zR2 fun a w s=> ?_
     refine zA rfl (hQ _ _ ?_)
     refine zY 1 ((64, .u (uI ((1+1:Nat):Int))):: []) s kI
      (oc (yR .i64 ((1:Nat):Int) 1 ((1+1:Nat):Int) iiz iiz (wrap64 _ _ oP oP))<|zD) fun a w24 s=> ?_
     replace s:=s.drop [27]
     refine zAQ (uI ((1+1:Nat):Int)) rfl s kI zC kI fun a w s=> ?_
     refine zA rfl ?_
     rw [<-zPx eLo] at s
     rw [<-zPA eHi] at s
     replace s:=s.popB
     exact ⟨(1+1),dB,dB,s.keepK _ (fmz ⟨mz8,fmz ⟨.head _,fnz⟩⟩)⟩
    ·have eHi:=e
     refine zWU ?_
     refine zY 1 ((64, .u (uI ((1+1:Nat):Int))):: []) s kI
      (oc (yR .i64 ((1:Nat):Int) 1 ((1+1:Nat):Int) iiz iiz (wrap64 _ _ oP oP))<|zD) fun a w25 s=> ?_
     replace s:=s.drop [27]
     refine zAQ (uI ((1+1:Nat):Int)) rfl s kI zC kI fun a w s=> ?_
     refine zA rfl ?_
     rw [<-zPx eLo] at s
     rw [<-zPB eHi] at s
     replace s:=s.popB
     exact ⟨(1+1),dB,dB,s.keepK _ (fmz ⟨mz6,fmz ⟨.head _,fnz⟩⟩)⟩
 ·have hk2:k=2:=by have:=zWZ e;omega
  subst hk2
  refine zW2 ?_
  exact wZ s (c:=0) rfl rfl rfl rfl (fun _=>trivial)
end Go.Proofs.Wd

namespace Go.Proofs.Wd
open Tryz
set_option maxRecDepth 100000
set_option maxHeartbeats 1000000
open Go.RowKit Lb
section
variable {S:Nat->Prop} {w0:Wp} {K:List (Nat×KF)} {B:List Bx} {n:Nat} {ds:List Deferred} {a:Act} {w:Wp}
theorem StS.move (h:StS S w0 K B n [] a w) (S':Nat->Prop) (hS: ∀q,inB B q->S' q) (hu:(K.all fun q=>zMP q.2)=true):StS S' w K B n [] a w:=by
 have hu:=qZ hu
 refine ⟨BlS.refl _ _,h.size,h.nd,fun q hq=> ?_,wM (a:=a) B (fun x hx=> ?_) (fun _ _=>rfl) h.bx,⟨[],Marks.nil _ _⟩, .inl hu⟩
 ·obtain ⟨f,e⟩:=hu q hq
  have:=h.sl q hq
  rw [e] at this ⊢
  exact this
 ·cases hr:x.r with
  |true=>exact .inl rfl
  |false=>exact .inr (.inr (hS _ ⟨x,hx,rfl,hr⟩))
theorem vI {S':Nat->Prop} {w1:Wp} {K0:List (Nat×KF)} {B0:List Bx} {n0:Nat} {ds0:List Deferred} {a0:Act} (h0:St w0 K0 B0 n0 ds0 a0 w1) (h:StS S' w1 K B n [] a w) (hS: ∀q,S' q->w0.heap.size<=q) (hu:(K.all fun q=>zMP q.2)=true):St w0 K B n [] a w:=by
 have hu:=qZ hu
 refine ⟨⟨h.gr.os.trans h0.gr.os,h.gr.tape.trans h0.gr.tape,h.gr.output.trans h0.gr.output,zWX h0.gr.size h.gr.size,fun k hk _=>(h.gr.block k (zW9 hk h0.gr.size) fun hh=>by have:=hS k hh;omega).trans (h0.gr.block k hk fun hh=>hh)⟩,h.size,h.nd,fun q hq=> ?_,wM (a:=a) B (fun x hx=> ?_) (fun _ _=>rfl) h.bx,⟨[],Marks.nil _ _⟩, .inl hu⟩
 ·obtain ⟨f,e⟩:=hu q hq
  have:=h.sl q hq
  rw [e] at this ⊢
  exact this
 ·obtain ⟨cs,_,h2,_⟩:=h.bx.mem x hx
  rcases h2 with e|e|e
  ·exact .inl e
  ·exact .inr (.inl (zWX h0.gr.size e))
  ·exact .inr (.inl (hS _ e))
end
theorem zGO {w1 W':Wp} {S:Nat->Prop} {base z:Nat} {e:Wr} {v:Wq} {Cs:List CU} (hR:zAR w1 base e z v Cs) (hI: ∀q,S q->q<base) (h:BlS S w1 W') (hk:jJ w1 W'):(SF.row z Cs).p v W':=by
 refine (hR.keep (fun k hv=> ?_) hk).row
 obtain ⟨h1,h2⟩:=hR.lt k hv
 exact h.block k h2 fun hs=>by have:=hI k hs;omega
theorem zTS {w1 W':Wp} {S:Nat->Prop} (hT:Tab w1) (hI: ∀j,j<64-> ¬S 0) (h:BlS S w1 W'):Tab W':=fun j hj=>
 (World.cell?_of_block (h.block _ (zZ (hT j hj)) (hI j hj))).trans (hT j hj)
theorem zQU (m:Nat) (W:Wp):(CU.agg (fPR (fPV m (0,0)) (fPV m (0,0)))).p (ptZ++ptZ) W:=⟨ptZ,ptZ,rfl,zFY m W,zFY m W⟩
theorem zR0 {f g f' g' f'' g'':UF} (v:Wq) (W:Wp) (h:(fPT f'' g'').p v W):v.cells.size=6/\(∀u,u∈v.cells.toList->u.oneCell'=true)/\v.cells.toList.all yA=true/\ ∀cs,(CU.agg (fPR (fPT f g) (fPT f' g'))).p cs W->0+6<=cs.length/\(CU.agg (fPR (fPT f'' g'') (fPT f' g'))).p (jT cs 0 v.cells.toList) W:=by
 obtain ⟨vs,rfl,hl,h1,h2,h3⟩:=y5 v W h
 refine ⟨by simpa [Value.cells] using hl,by simpa [Value.cells] using h1,by simpa [Value.cells] using h2,fun cs hc=> ?_⟩
 obtain ⟨a,b,rfl,l1,l2,g1,g2⟩:=zBb hc
 refine ⟨by simp [l1,l2],vs,b, ?_,h3,g2⟩
 have e:jT (a++b) 0 (Value.agg vs.toArray).cells.toList=vs++b:=by
  unfold jT
  have:(Value.agg vs.toArray).cells.toList=vs:=rfl
  rw [this,List.take_zero,zXg,Nat.zero_add,hl,zXm oP,zXf oP,zXg]
 rw [e]
theorem zRZ {f g f' g' f'' g'':UF} (v:Wq) (W:Wp) (h:(fPT f'' g'').p v W):v.cells.size=6/\(∀u,u∈v.cells.toList->u.oneCell'=true)/\v.cells.toList.all yA=true/\ ∀cs,(CU.agg (fPR (fPT f g) (fPT f' g'))).p cs W->6+6<=cs.length/\(CU.agg (fPR (fPT f g) (fPT f'' g''))).p (jT cs 6 v.cells.toList) W:=by
 obtain ⟨vs,rfl,hl,h1,h2,h3⟩:=y5 v W h
 refine ⟨by simpa [Value.cells] using hl,by simpa [Value.cells] using h1,by simpa [Value.cells] using h2,fun cs hc=> ?_⟩
 obtain ⟨a,b,rfl,l1,l2,g1,g2⟩:=zBb hc
 refine ⟨by simp [l1,l2],a,vs, ?_,g1,h3⟩
 have e:jT (a++b) 6 (Value.agg vs.toArray).cells.toList=a++vs:=by
  unfold jT
  have:(Value.agg vs.toArray).cells.toList=vs:=rfl
  rw [this,hl,zXn oP,zXa oP,zXf (by simp;omega),List.append_nil]
 rw [e]
theorem bxB (s:Bool) (A A':Ws Addr) (n n' c c':Nat) (s2:Bool) (B B':Ws Addr) (k k' d d':Nat) (t:Bool) (C C':Ws Addr) (i i' j j':Nat) (t2:Bool) (D D':Ws Addr) (x x' y y':Nat):prog.built 52 [(0, .agg #[.bool s, .slice A n c, .slice A' n' c', .bool s2, .slice B k d, .slice B' k' d']),(1, .agg #[.bool t, .slice C i j, .slice C' i' j', .bool t2, .slice D x y, .slice D' x' y'])]=some #[.bool s, .slice A n c, .slice A' n' c', .bool s2, .slice B k d, .slice B' k' d', .bool t, .slice C i j, .slice C' i' j', .bool t2, .slice D x y, .slice D' x' y']:=by kernel_rfl
theorem zUZ {f g f' g':UF} {u v:Wq} {W:Wp} (hu:(fPT f g).p u W) (hv:(fPT f' g').p v W): ∃cells,prog.built 52 [(0,u),(1,v)]=some cells/\(fPR (fPT f g) (fPT f' g')).p (.agg cells) W:=by
 obtain ⟨s,A,n,c,A',n',c',s2,B,k,d,B',k',d',rfl,h1,h2⟩:=hu
 obtain ⟨s3,A3,n3,c3,A4,n4,c4,s4,B3,k3,d3,B4,k4,d4,rfl,h3,h4⟩:=hv
 exact ⟨_,bxB ..,_,_,rfl,⟨s,A,n,c,A',n',c',s2,B,k,d,B',k',d',rfl,h1,h2⟩,⟨s3,A3,n3,c3,A4,n4,c4,s4,B3,k3,d3,B4,k4,d4,rfl,h3,h4⟩⟩
def bLo (ps:List V2):Nat->V2
 |0=>at_ ps 0
 |k+1=>gLo 2 (bLo ps k) (at_ ps k)
def bHi (ps:List V2):Nat->V2
 |0=>at_ ps 0
 |k+1=>gHi 2 (bHi ps k) (at_ ps k)
theorem zSL {a b:Rat} {m:Nat} (h1:QB a m) (h2:QB b m):QB (mnR a b) m:=by unfold mnR;split<;>assumption
theorem zSJ {a b:Rat} {m:Nat} (h1:QB a m) (h2:QB b m):QB (mxR a b) m:=by unfold mxR;split<;>assumption
theorem zPU {ps:List V2} {m:Nat} (h: ∀p,p∈ps->QB p.1 m/\QB p.2 m) (h0:0<ps.length): ∀k,k<=ps.length->QB (bLo ps k).1 m/\QB (bLo ps k).2 m
 |0,_=>h _ (zBm h0)
 |k+1,hk=>by
  have ih:=zPU h h0 k oP
  have hp:=h _ (zBm (show k<ps.length by omega))
  exact ⟨zSL ih.1 hp.1,zSL ih.2 hp.2⟩
theorem zPW {ps:List V2} {m:Nat} (h: ∀p,p∈ps->QB p.1 m/\QB p.2 m) (h0:0<ps.length): ∀k,k<=ps.length->QB (bHi ps k).1 m/\QB (bHi ps k).2 m
 |0,_=>h _ (zBm h0)
 |k+1,hk=>by
  have ih:=zPW h h0 k oP
  have hp:=h _ (zBm (show k<ps.length by omega))
  exact ⟨zSJ ih.1 hp.1,zSJ ih.2 hp.2⟩
def yM (ps:List V2):V2:=if ps.length=0 then (((0:Int):Rat),((0:Int):Rat)) else bLo ps ps.length
def yN (ps:List V2):V2:=if ps.length=0 then (((0:Int):Rat),((0:Int):Rat)) else bHi ps ps.length
theorem zSz {m:Nat} {cs:List Wq} {W:Wp} (hm0:0<m) (h:(CU.agg (fPR (fPN (((0:Int):Rat),((0:Int):Rat))) (fPN (((0:Int):Rat),((0:Int):Rat))))).p cs W):(CU.agg (fPR (fPV m (((0:Int):Rat),((0:Int):Rat))) (fPV m (((0:Int):Rat),((0:Int):Rat))))).p cs W:=by
 obtain ⟨a,b,e,h1,h2⟩:=h
 exact ⟨a,b,e,zAP (m:=m) (QB.zero hm0) (QB.zero hm0) h1,zAP (m:=m) (QB.zero hm0) (QB.zero hm0) h2⟩
theorem zL2 {m:Nat} {W:Wp} {l:Wq} {ps:List V2} (hl:(SF.row 6 (pvs m ps)).p l W) (hm:m<=2000) (hm0:0<m) (hn:ps.length<=1000000) (hT:Tab W):Calls prog 21 #[l] W (Ret W (zAj (fPR (fPV m (yM ps)) (fPV m (yN ps))) (fB (ps.length !=0))).tS):=by
 have hqs:=zIO hm0 hl
 refine yB [(UF.eq l).tS] func21 rfl kI ⟨rfl,trivial⟩ fun a s=> ?_
 replace s:=s.renew [(0, .u (UF.eq l))] (fmz ⟨.inr ⟨_,rfl, .head _⟩,fnz⟩)
 refine zWS ?_
 refine zB 0 [] hmix s kI
  zD fun a w1 s=> ?_
 refine z7 (CU.agg (fPR (fPV m ((0,0):V2)) (fPV m ((0,0):V2)))) (cs:=ptZ++ptZ) kI rfl s kI (fun W=>zQU m W) rfl fun b2 a w s=> ?_
 refine yU (uB false) rfl s kI iiz fun a w s=> ?_
 refine zA rfl ?_
 refine zWS ?_
 have hb2l:b2<w.heap.size:=s.old _ (.head _)
 refine zCU 2 ((6, .s ((UF.eq l).tS))::(7, .s (wI w 30 6 (pns ps))):: []) s kI
  (oc zC<|oc (zH zE zTa (fun u0 W hb (h0:u0=l)=>(zKp (yZ hl h0 (s.up hb)) hm hm0 hn (hT.below (s.up hb))).mono (wG (zAL hb.size))))<|zD) fun a w2 s hr=> ?_
 obtain ⟨v7,e7⟩: ∃v,a.tmps.getD 7 undef=v:=⟨_,rfl⟩
 have hR7:zAR w2 _ 30 6 v7 (pns ps):=e7▸(hr (_,_) mz1)
 replace s:=s.learn 7 v7 e7
 have hIb: ∀q,(fun q=>q=b2) q->q<w.heap.size:=fun q e=>by have e:q=b2:=e;omega
 have hb2:W.heap.size<=b2:=s.inB_new ⟨_, .head _,rfl,rfl⟩
 have sE:=s
 have hKU: ∀{W':Wp},BlS (fun q=>q=b2) w2 W'->jJ w2 W':=fun hb=>zB4 (hb.sub fun q hq=>⟨_, .head _,hq.symm,rfl⟩) s.bx
 have hTw:Tab w2:=hT.below s.below
 have hTb: ∀{W':Wp},BlS (fun q=>q=b2) w2 W'->Tab W':=fun hb=>zTS hTw (fun j hj e=>by have:=zZ (hT j hj);have e:0=b2:=e;rw [e] at this;omega) hb
 replace s:=(s.keepK [(7, .u (UF.eq v7))] (fmz ⟨.head _,fnz⟩)).move (fun q=>q=b2) (fun q hq=>by obtain ⟨x,hx,e,_⟩:=hq;obtain rfl:=zWW.1 hx;exact e.symm) kI
 refine yU (UF.eq v7) rfl s kI iiz fun a w s=> ?_
 refine zA rfl ?_
 refine zWS ?_
 refine zWS ?_
 refine zB 3 ((8, .s ((UF.eq v7).tS))::(9, .s ((uI ((pvs m ps).length:Int)).tS))::(10, .u (uB (decide (ps.length=0)))):: []) hmix s kI
  (oc zC<|oc (y4 (z:=6) (Cs:=pvs m ps) kI (fun v W hb h=>(by rw [show _=v7 from h];exact zCm hqs _ _ (zGO hR7 hIb (s.gr.trans hb) (hKU (s.gr.trans hb))))) (fun _=>rfl))<|oc (zS .i64 ((pvs m ps).length:Int) 0 (decide (ps.length=0)) iiz iiz (by simp only [zW8];rw [Bool.eq_iff_iff,beq_iff_eq,decide_eq_true_iff];omega) rfl)<|zD) fun a w3 s=> ?_
 refine zA rfl ?_
 refine StS.cond s (decide (ps.length=0)) iiz (fun e=> ?_) (fun e=> ?_)
 ·have h0e:=zWY e
  refine zWS ?_
  refine zB 3 ((11, .s ((fPN (((0:Int):Rat),((0:Int):Rat))).tS))::(12, .s ((fPN (((0:Int):Rat),((0:Int):Rat))).tS))::(13, .u (fPR (fPN (((0:Int):Rat),((0:Int):Rat))) (fPN (((0:Int):Rat),((0:Int):Rat))))):: []) hmix s kI
   (oc (zI zE zRz (fun u0 u1 W hb (h0:u0= .int .i64 0) (h1:u1= .int .i64 0)=>zQb h0 h1 dB dB))<|oc (zI zE zRz (fun u0 u1 W hb (h0:u0= .int .i64 0) (h1:u1= .int .i64 0)=>zQb h0 h1 dB dB))<|oc (qA (fun u v W (hu:(fPN (((0:Int):Rat),((0:Int):Rat))).p u W) (hv:(fPN (((0:Int):Rat),((0:Int):Rat))).p v W)=>zUZ hu hv))<|zD) fun a w4 s=> ?_
  refine zR (CU.agg (fPR (fPN (((0:Int):Rat),((0:Int):Rat))) (fPN (((0:Int):Rat),((0:Int):Rat))))) ((fPR (fPN (((0:Int):Rat),((0:Int):Rat))) (fPN (((0:Int):Rat),((0:Int):Rat)))).tS) rfl s kI rfl rfl rfl zCl iiz zBq fun a w s=> ?_
  refine yU (uB false) rfl s kI iiz fun a w s=> ?_
  refine zA rfl ?_
  refine zWT ?_
  replace s:=vI sE (s.keepK [(3, .u (uB false))] (fmz ⟨.head _,fnz⟩)) (fun q e=>by have e:q=b2:=e;rw [e];exact hb2) kI
  exact wR s (CU.agg (fPR (fPN (((0:Int):Rat),((0:Int):Rat))) (fPN (((0:Int):Rat),((0:Int):Rat))))) rfl kI rfl rfl zCl (fun cs v W h1 h2=>⟨_,_,rfl,by rw [show yM ps=(((0:Int):Rat),((0:Int):Rat)) from if_pos h0e,show yN ps=(((0:Int):Rat),((0:Int):Rat)) from if_pos h0e];exact zSz hm0 h1,by rw [show (ps.length !=0)=false by rw [h0e];rfl];exact h2⟩)
 ·have h0l:0<ps.length:=Nat.pos_of_ne_zero (zWZ e)
  refine zWU ?_
  refine zWS ?_
  refine z9 [0,3] 7 ((14, .s ((UF.eq v7).tS))::(15, .s (wB (CU.agg (fPV m (at_ ps 0))).cf))::(16, .u (fPV m (at_ ps 0)))::(17, .s ((UF.eq v7).tS))::(18, .s (wB (CU.agg (fPV m (at_ ps 0))).cf))::(19, .u (fPV m (at_ ps 0)))::(20, .u (UF.eq (.pointer (some ⟨b2,0,none⟩)))):: []) hmix s kI
   (oc zC<|oc (yJ (z:=6) (Cs:=pvs m ps) (i:=0) (C:=CU.agg (fPV m (at_ ps 0))) kI (qQ h0l) (fun v W hb h=>(by rw [show _=v7 from h];exact zCm hqs _ _ (zGO hR7 hIb (s.gr.trans hb) (hKU (s.gr.trans hb))))) iiz)<|oc (zK (f:=fPV m (at_ ps 0)) 6 kI (hz:=zO _ _))<|oc zC<|oc (yJ (z:=6) (Cs:=pvs m ps) (i:=0) (C:=CU.agg (fPV m (at_ ps 0))) kI (qQ h0l) (fun v W hb h=>(by rw [show _=v7 from h];exact zCm hqs _ _ (zGO hR7 hIb (s.gr.trans hb) (hKU (s.gr.trans hb))))) iiz)<|oc (zK (f:=fPV m (at_ ps 0)) 6 kI (hz:=zO _ _))<|oc (qD (b:=b2) (o:=0) 0 kI (fun _ _ h=>h.1))<|zD) fun Q' hQ a w5 s=> ?_
  refine q7 (c:=2) (o:=0) (kk:=6) (CU.agg (fPR (fPV m (at_ ps 0)) (fPV m ((0,0):V2)))) ((fPV m (at_ ps 0)).tS) rfl s kI rfl rfl iiz iiz zR0 fun a w s=> ?_
  refine zAQ (UF.eq (.pointer (some ⟨b2,6,none⟩))) rfl s kI (qD (b:=b2) (o:=0) 6 kI (fun _ _ h=>h.1)) kI fun a w s=> ?_
  refine q7 (c:=2) (o:=6) (kk:=6) (CU.agg (fPR (fPV m (at_ ps 0)) (fPV m (at_ ps 0)))) ((fPV m (at_ ps 0)).tS) rfl s kI rfl rfl iiz iiz zRZ fun a w s=> ?_
  refine zA rfl (hQ _ _ ?_)
  refine zWS ?_
  refine zWS ?_
  refine zB 3 ((22, .u (UF.eq v7))::(23, .u (uI ((pvs m ps).length:Int)))::(24, .u (uI 0)):: []) hmix s kI
   (oc zC<|oc (y4 (z:=6) (Cs:=pvs m ps) kI (fun v W hb h=>(by rw [show _=v7 from h];exact zCm hqs _ _ (zGO hR7 hIb (s.gr.trans hb) (hKU (s.gr.trans hb))))) (fun _=>rfl))<|oc zC<|zD) fun a w6 s=> ?_
  refine zA rfl ?_
  refine zWV ?_
  refine zDc 2 (fun k=>CU.agg (fPR (fPV m (bLo ps k)) (fPV m (bHi ps k)))) (fun k=>k<=ps.length) (fun k=> [(22, .u (UF.eq v7)),(23, .u (uI ((pvs m ps).length:Int))),(24, .u (uI (k:Int)))]) (fun k=>ps.length - k) (0:Nat) (zW1 _) (s.keepK _ (fmz ⟨.head _,fmz ⟨mz1,fmz ⟨mz2,fnz⟩⟩⟩)) rfl fun k a w hx s=> ?_
  have hlz:(pvs m ps).length=ps.length:=by simp
  refine zWS ?_
  refine zB 1 ((25, .u (uB (decide ((k:Int)<((pvs m ps).length:Int))))):: []) hmix s kI
   (oc (zS .i64 (k:Int) ((pvs m ps).length:Int) (decide ((k:Int)<((pvs m ps).length:Int))) iiz iiz rfl rfl)<|zD) fun a w7 s=> ?_
  refine zA rfl ?_
  refine zWS ?_
  refine StS.cond s (decide ((k:Int)<((pvs m ps).length:Int))) iiz (fun e=> ?_) (fun e=> ?_)
  ·have hk:k<ps.length:=by have h7:=zWY e;rw [hlz] at h7;omega
   refine zWU ?_
   refine zWS ?_
   refine zWV ?_
   refine zWS ?_
   refine zB 2 ((26, .s (wB (CU.agg (fPV m (at_ ps k))).cf))::(27, .u (fPV m (at_ ps k))):: []) hmix s kI
    (oc (yJ (z:=6) (Cs:=pvs m ps) (i:=k) (C:=CU.agg (fPV m (at_ ps k))) kI (qQ hk) (fun v W hb h=>(by rw [show _=v7 from h];exact zCm hqs _ _ (zGO hR7 hIb (s.gr.trans hb) (hKU (s.gr.trans hb))))) iiz)<|oc (zK (f:=fPV m (at_ ps k)) 6 kI (hz:=zO _ _))<|zD) fun a w8 s=> ?_
   refine z7 (CU.len 6) (cs:=zP6) kI rfl s kI (fun W=>rfl) rfl fun b5 a w s=> ?_
   refine zR (CU.agg (fPV m (at_ ps k))) ((fPV m (at_ ps k)).tS) rfl s kI rfl rfl rfl iiz iiz y5 fun a w s=> ?_
   refine zA rfl ?_
   refine zB 1 ((28, .u (fPV m (at_ ps k))):: []) hmix s kI
    (oc (zK (f:=fPV m (at_ ps k)) 6 kI (hz:=zO _ _))<|zD) fun a w9 s=> ?_
   refine zM2 (c:=2) (CU.agg (fPR (fPV m (bLo ps (k+1))) (fPV m (bHi ps (k+1))))) (UF.any) rfl zE zUG s kI rfl rfl (fun _ _ h=>h.1) (fun cs v h1 h2 h3=> ?_) fun a w s=> ?_
   ·exact zRi h1 h2 h3 hm hm0 (hTb s.gr)
   refine zA rfl ?_
   refine zY 1 ((30, .u (uI ((k+1:Nat):Int))):: []) s kI
    (oc (yR .i64 (k:Int) 1 ((k+1:Nat):Int) iiz iiz (wrap64 _ _ oP oP))<|zD) fun a w10 s=> ?_
   replace s:=s.drop [24]
   refine zAQ (uI ((k+1:Nat):Int)) rfl s kI zC kI fun a w s=> ?_
   refine zA rfl ?_
   replace s:=s.popB
   exact ⟨k+1,hk,(by show ps.length - (k+1)<ps.length - k;omega),s.keepK _ (fmz ⟨mz6,fmz ⟨mz7,fmz ⟨.head _,fnz⟩⟩⟩)⟩
  ·have hkN:k=ps.length:=by have h7:=zWZ e;rw [hlz] at h7;omega
   subst hkN
   refine zW2 ?_
   refine zWS ?_
   refine zB 1 ((31, .u (fPR (fPV m (bLo ps (ps.length))) (fPV m (bHi ps (ps.length))))):: []) hmix s kI
    (oc (zK (f:=fPR (fPV m (bLo ps (ps.length))) (fPV m (bHi ps (ps.length)))) 12 kI (hz:=zCl))<|zD) fun a w11 s=> ?_
   refine zR (CU.agg (fPR (fPV m (bLo ps (ps.length))) (fPV m (bHi ps (ps.length))))) ((fPR (fPV m (bLo ps (ps.length))) (fPV m (bHi ps (ps.length)))).tS) rfl s kI rfl rfl rfl zCl iiz zBq fun a w s=> ?_
   refine yU (uB true) rfl s kI iiz fun a w s=> ?_
   refine zA rfl ?_
   refine zWT ?_
   replace s:=vI sE (s.keepK [(3, .u (uB true))] (fmz ⟨.head _,fnz⟩)) (fun q e=>by have e:q=b2:=e;rw [e];exact hb2) kI
   exact wR s (CU.agg (fPR (fPV m (bLo ps (ps.length))) (fPV m (bHi ps (ps.length))))) rfl kI rfl rfl zCl (fun cs v W h1 h2=>⟨_,_,rfl,by rw [show yM ps=bLo ps ps.length from if_neg oP,show yN ps=bHi ps ps.length from if_neg oP];exact h1,by rw [show (ps.length !=0)=true from bne_iff_ne.2 oP];exact h2⟩)
end Go.Proofs.Wd

namespace Go.Proofs.Wd
open Tryz
set_option maxRecDepth 100000
set_option maxHeartbeats 1000000
open Go.RowKit Lb
section
variable {F:Fence} {m:Nat} {P:Program} {w0:Wp} {ops:Array Oper} {G:Nat->SF} {d:Tmp} {ty:Wr} {pos:String} {aft:Array Edge}
theorem zLv {x:Operand} {t:Wr} (ht:P.underlying t=some (.slice (P.elem t))) (h: ∀v W,(fct G x).p v W->v= .slice none 0 0) (hd: ∀W,(G d).p (.int .i64 0) W:=by exact fun _=>rfl):qN F m P w0 ops G ⟨some d, .call ⟨.builtin .cap,#[x],#[t]⟩,ty,pos,aft,none⟩:=by
 intro b W K Q hb hr hK
 have e:=h _ _ (qE hr (x:=x) (by simp [Op.operands,Call.operands]))
 refine ⟨fun f hf=>(by
  unfold Oper.about at hf
  simp [resolve,go_sem] at hf), ?_⟩
 rw [Oper.semAt_eq _ _ _ (fun _ e=>by cases e)]
 have:(execOp b.eval ⟨some d, .call ⟨.builtin .cap,#[x],#[t]⟩,ty,pos,aft,none⟩).run P W= .ok (.value (.int .i64 0)) W:=by
  simp [execOp,resolve,invoke,builtin,e,run_cap_slice _ _ _ _ _ _ ht,goInt]
 rw [this]
 exact hK _ _ (fun d' e'=>by cases e';exact hd W) (zXb _ _)
theorem zPi {x hi:Operand} {t:Wr} {A:Ws Addr} {n c k z:Nat} (hsz:jI P t=some z) (hk:k<=c) (hx: ∀v W,(fct G x).p v W->v= .slice A n c) (hh: ∀v W,(fct G hi).p v W->v= .int .i64 (k:Int)) (hd: ∀W,(G d).p (.slice A k c) W:=by exact fun _=>rfl):qN F m P w0 ops G ⟨some d, .slice t x none (some hi) none,ty,pos,aft,none⟩:=
 qL (fun _ e=>by cases e) (fun _ e=>by cases e) fun b W hb hp=>by
  have e:=hx _ _ (hp x (by simp [Op.operands]))
  have e2:=hh _ _ (hp hi (by simp [Op.operands]))
  unfold jI at hsz
  split at hsz<;>try cases hsz
  rename_i e' hu
  obtain ⟨ie,hie,_⟩:=Option.map_eq_some_iff.1 hsz
  exact ⟨.slice A k c,by simp [execOp,e,e2,zGL hu hie A n c k hk],hd _⟩
end
section
variable {S:Nat->Prop} {F:Fence} {m:Nat} {P:Program} {Q:Exit->Act->Wp->Prop} {w0:Wp} {K:List (Nat×KF)} {B:List Bx} {n:Nat} {ds:List Deferred} {a:Act} {w:Wp}
theorem zRX {ops:Array Oper} {k d:Nat} {x y:Operand} {t tn ty:Wr} {pos:String} {aft:Array Edge} {e:Wr} {z j:Nat} (h:StS S w0 K B n ds a w) (ho:ops[k]?=some ⟨some d, .call ⟨.builtin .append,#[x,y],#[t,tn]⟩,ty,pos,aft,none⟩) (happ:zGs P t=some (e,z,true)) (htn:P.underlying tn=some (.int .i64)) (hf:j7 K B n d=true)
  (hx: ∀v W,(Wd.fct (jR K B) x).p v W->v= .slice none 0 0) (hy: ∀v W,(Wd.fct (jR K B) y).p v W->v= .int .i64 (j:Int)) (hj:0<j) (hj2:j<=1000000)
  (fin: ∀g cap a' w',w.heap.size<=g->Below w.heap.size w w'->j<=cap->zAR w' w.heap.size e z (.slice (some ⟨g,0,none⟩) 0 cap) []->StS S w0 ((d, .u (UF.eq (.slice (some ⟨g,0,none⟩) j cap)))::K) B n ds a' w'->zA4 F m P ops Q (k+1) a' w'):zA4 F m P ops Q k a w:=by
 obtain ⟨ht,i,zv,hi,hz,hs,hby,hzs,hzn,hz0⟩:=zCL happ
 have e1:a.eval x= .slice none 0 0:=hx _ _ (h.fct x)
 have e2:a.eval y= .int .i64 (j:Int):=hy _ _ (h.fct y)
 have hb:j*i.bytes<=1000000*1000:=Nat.mul_le_mul hj2 hby
 have hrun:=Lib.run_append_nil_zeros (P:=P) w t tn ty e i zv .i64 .i64 ht htn hi hz j hj oP oP oP
 have hcap:j<=grownCap w j 0 e:=grownCap_ge w j 0 e
 have hcm:grownCap w j 0 e<=maxLen:=grownCap_le_maxLen w j 0 e (by unfold maxLen;omega)
 have hb1:Below w.heap.size w (w.drew.alloc (.cells (Builtin.zeroCells zv.cells j++Builtin.zeroCells zv.cells (grownCap w j 0 e - j)) e)):=⟨rfl,rfl,rfl,by simp,fun q hq=>heap_alloc_old w.drew _ (by exact hq)⟩
 have hR:zAR (w.drew.alloc (.cells (Builtin.zeroCells zv.cells j++Builtin.zeroCells zv.cells (grownCap w j 0 e - j)) e)) w.heap.size e z (.slice (some ⟨w.heap.size,0,none⟩) 0 (grownCap w j 0 e)) []:=by
  refine .inr ⟨w.heap.size,grownCap w j 0 e,_,rfl,zW7 _,heap_alloc_new w.drew _,zW1 _,hcm, ?_, ?_,fun i C hi=>by simp at hi⟩
  ·rw [Array.size_append,size_zeroCells,size_zeroCells,hzs, <-Nat.add_mul]
   congr 1
   omega
  ·rw [Array.toList_append,zXh,zAC hzn,zAC hzn];rfl
 have hrun2:(execOp a.eval ⟨some d, .call ⟨.builtin .append,#[x,y],#[t,tn]⟩,ty,pos,aft,none⟩).run P w= .ok (.value (.slice (some ⟨w.heap.size,0,none⟩) j (grownCap w j 0 e))) (w.drew.alloc (.cells (Builtin.zeroCells zv.cells j++Builtin.zeroCells zv.cells (grownCap w j 0 e - j)) e)):=by
  simp only [execOp,resolve,invoke,builtin,Sem.run_bind,Sem.run_pure,Result.andThen_ok,List.map_toArray,List.map_cons,List.map_nil,e1,e2,hrun]
 refine zAU ho rfl ⟨fun f hf=>(by
  unfold Oper.about at hf
  simp [resolve,go_sem] at hf), ?_⟩
 rw [Oper.semAt_eq _ _ _ (fun _ e=>by cases e),hrun2]
 exact fin _ _ _ _ lr hb1 hcap hR (h.set hf hb1 rfl)
end
abbrev RR:=List (Wq×List V2)
abbrev rrv (L:RR):List CU:=L.map fun x=>wC [x.1]
def RR.ok (m:Nat) (L:RR) (W:Wp):Prop:= ∀x,x∈L->(SF.row 6 (pvs m x.2)).p x.1 W
theorem RR.ok.below {m:Nat} {L:RR} {W W':Wp} (h:RR.ok m L W) (hb:Below W.heap.size W W'):RR.ok m L W':=fun x hx=>(SF.row 6 _).st _ _ _ (h x hx) hb
def rat (L:RR) (k:Nat):Wq×List V2:=L.getD k (.slice none 0 0, [])
theorem zCf {L:RR} {k:Nat} (h:k<L.length):rat L k∈L:=by
 unfold rat;rw [zXc,zW0 h];exact List.getElem_mem h
theorem zHM {L:RR} {k:Nat} (h:k<L.length):(rrv L)[k]?=some (wC [(rat L k).1]):=by
 unfold rat
 rw [zW5,zW0 h,zXc,zW0 h];rfl
def yD (L:RR) (k:Nat):List V2:=(L.take k).flatMap (·.2)
theorem zBY {L:RR} {k:Nat} (h:k<L.length):yD L (k+1)=yD L k++(rat L k).2:=by
 unfold yD rat
 rw [List.take_add_one,zW0 h,zXi,zXc,zW0 h]
 simp
theorem zGj {L:RR}: ∀{k:Nat},k<=L.length->(yD L k).length<=(yD L L.length).length:=fun {k} hk=>by
 unfold yD
 rw [zXa (zW7 L.length)]
 have:=congrArg (fun l=>List.length (List.flatMap (·.2) l)) (List.take_append_drop k L)
 simp only [zXi,zXd] at this
 omega
theorem zNI (m:Nat) (L:RR) (k:Nat) (h:k<L.length):pvs m (yD L (k+1))=pvs m (yD L k)++pvs m (rat L k).2:=by rw [zBY h];simp [pvs]
theorem zJu {m:Nat} {p:V2} (hp:QB p.1 m/\QB p.2 m) (hm:0<m):(QB (p.1+((1:Int):Rat)) (m+2)/\QB (p.2+((1:Int):Rat)) (m+2))/\(QB (p.1 - ((1:Int):Rat)) (m+2)/\QB (p.2 - ((1:Int):Rat)) (m+2)):=by
 have h1:QB ((1:Int):Rat) 1:=(qbz (z:=1) dB).mono dB
 exact ⟨⟨(hp.1.add h1).mono oP,(hp.2.add h1).mono oP⟩,⟨(hp.1.sub h1).mono oP,(hp.2.sub h1).mono oP⟩⟩
theorem zRo {W:Wp} {u v:Wq} {n:Nat} (hu:u= .slice none 0 0) (hv:v= .int .i64 (n:Int)) (hn:n<=1000000):Calls prog 80 #[u,v] W (Ret W (wI W 30 6 [])):=by
 refine yB [(UF.eq (.slice none 0 0)).tS,(uI (n:Int)).tS] func80 rfl kI ⟨hu,hv,trivial⟩ fun a s=> ?_
 replace s:=s.renew [(0, .u (UF.eq (.slice none 0 0))),(1, .u (uI (n:Int)))] (fmz ⟨.inr ⟨_,rfl, .head _⟩,fmz ⟨.inr ⟨_,rfl,mz1⟩,fnz⟩⟩)
 refine zWS ?_
 refine zB 1 ((4, .u (UF.eq (.slice none 0 0))):: []) hmix s kI
  (oc zG<|zD) fun a w1 s=> ?_
 refine zA rfl ?_
 refine zWS ?_
 refine zWS ?_
 refine zB 2 ((5, .s ((uI (n:Int)).tS))::(6, .u (uB false)):: []) hmix s kI
  (oc zC<|oc (zS .i64 (n:Int) 0 false iiz iiz (zXj oP) rfl)<|zD) fun a w2 s=> ?_
 refine zA rfl ?_
 refine StS.cond s false iiz (fun e=>by cases e) (fun e=> ?_)
 refine zWU ?_
 refine zWS ?_
 refine zWS ?_
 refine zY 7 ((8, .s ((uI (n:Int)).tS))::(9, .s ((UF.eq (.slice none 0 0)).tS))::(10, .s ((uI 0).tS))::(11, .s ((UF.eq (.slice none 0 0)).tS))::(12, .s ((uI 0).tS))::(13, .s ((uI 0).tS))::(14, .u (uI (n:Int))):: []) s kI
  (oc zC<|oc zC<|oc (zLv kI iiz)<|oc zC<|oc (zDZ kI (fun v W h=>⟨none,0,0,h,rfl⟩))<|oc (zDN .i64 0 0 0 iiz iiz dB)<|oc (zDN .i64 (n:Int) 0 (n:Int) iiz iiz (by rw [zW4];omega))<|zD) fun a w3 s=> ?_
 replace s:=s.drop [1]
 refine yU (uI (n:Int)) rfl s kI iiz fun a w s=> ?_
 refine zA rfl ?_
 refine zWS ?_
 refine zB 2 ((15, .s ((uI (n:Int)).tS))::(16, .u (uB (decide (0<n)))):: []) hmix s kI
  (oc zC<|oc (zS .i64 (n:Int) 0 (decide (0<n)) iiz iiz (by show decide ((n:Int)>0)=_;rw [zXk];omega) rfl)<|zD) fun a w4 s=> ?_
 refine zA rfl ?_
 refine StS.cond s (decide (0<n)) iiz (fun e=> ?_) (fun e=> ?_)
 ·refine zY 5 ((17, .s ((UF.eq (.slice none 0 0)).tS))::(18, .s ((UF.eq (.slice none 0 0)).tS))::(19, .s ((uI 0).tS))::(20, .u (UF.eq (.slice none 0 0)))::(21, .u (uI (n:Int))):: []) s kI
   (oc zC<|oc zC<|oc (zLv kI iiz)<|oc (zPi (A:=none) (n:=0) (c:=0) (k:=0) (z:=6) kI lr iiz iiz)<|oc zC<|zD) fun a w5 s=> ?_
  have hgs:=s.gr.size
  refine zRX (j:=n) (e:=30) (z:=6) s rfl kI underlying3 kI iiz iiz (zWY e) hn fun g cap a w hg hbw hcap hR s=> ?_
  have hWb:=s.below
  replace s:=s.reb rfl [(22, .u (UF.eq (.slice (some ⟨g,0,none⟩) n cap))),(20, .u (UF.eq (.slice none 0 0))),(21, .u (uI (n:Int))),(16, .u (uB (decide (0<n)))),(1, .u (uI (n:Int))),(14, .u (uI (n:Int))),(6, .u (uB false)),(4, .u (UF.eq (.slice none 0 0))),(0, .u (UF.eq (.slice none 0 0)))] (fmz ⟨.inl (.head _),fmz ⟨.inl mz1,fmz ⟨.inl mz2,fmz ⟨.inl mz3,fmz ⟨.inl mz4,fmz ⟨.inl mz5,fmz ⟨.inl mz6,fmz ⟨.inl mz7,fmz ⟨.inl mz8,fnz⟩⟩⟩⟩⟩⟩⟩⟩⟩)
  refine zAQ (UF.eq (.slice none 0 0)) rfl s kI zC kI fun a w s=> ?_
  refine zAQ (uI 0) rfl s kI (zDZ kI (fun v W h=>⟨none,0,0,h,rfl⟩)) kI fun a w s=> ?_
  refine zAQ (UF.eq (.slice (some ⟨g,0,none⟩) 0 cap)) rfl s kI (zPi (A:=some ⟨g,0,none⟩) (n:=n) (c:=cap) (k:=0) (z:=6) kI (zW1 _) iiz iiz) kI fun a w s=> ?_
  replace s:=s.drop [0]
  refine yU (UF.eq (.slice (some ⟨g,0,none⟩) 0 cap)) rfl s kI iiz fun a w s=> ?_
  refine zA rfl ?_
  refine zWS ?_
  replace s:=s.drop [4]
  refine zB 2 ((26, .s ((UF.eq (.slice (some ⟨g,0,none⟩) 0 cap)).tS))::(4, .u (UF.eq (.slice (some ⟨g,0,none⟩) 0 cap))):: []) hmix s kI
   (oc zC<|oc zG<|zD) fun a w6 s=> ?_
  refine zA rfl ?_
  refine zWT ?_
  exact StS.resN s hWb rfl (by rw [s.val (.head _)];exact (hR.below s.below).mono hgs)
 ·refine zWU ?_
  refine zWS ?_
  replace s:=s.drop [4]
  refine zB 2 ((26, .s ((UF.eq (.slice none 0 0)).tS))::(4, .u (UF.eq (.slice none 0 0))):: []) hmix s kI
   (oc zC<|oc zG<|zD) fun a w7 s=> ?_
  refine zA rfl ?_
  refine zWT ?_
  exact StS.resN s (zXb _ _) rfl (by rw [s.val (.head _)];exact zAR.nil _ _ _ _)
theorem zNG (m:Nat) (ps:List V2): ∀C,C∈pvs m ps->CU.ok 6 C:=fun C hC=>by
 obtain ⟨t,_,rfl⟩:=List.mem_map.1 hC
 exact zDK _ _
theorem zL1 {m:Nat} {W:Wp} {l:Wq} {L:RR} (hl:(SF.row 1 (rrv L)).p l W) (hL:RR.ok m L W) (hn:(yD L L.length).length<=1000000) (hnL:L.length<=1000000):Calls prog 54 #[l] W (Ret W (wI W 30 6 (pvs m (yD L L.length)))):=by
 refine yB [(UF.eq l).tS] func54 rfl kI ⟨rfl,trivial⟩ fun a s=> ?_
 replace s:=s.renew [(0, .u (UF.eq l))] (fmz ⟨.inr ⟨_,rfl, .head _⟩,fnz⟩)
 refine zWS ?_
 refine zB 1 ((2, .u (UF.eq (.slice none 0 0))):: []) hmix s kI
  (oc zG<|zD) fun a w1 s=> ?_
 refine zA rfl ?_
 refine zWS ?_
 refine zB 1 ((3, .u (uI 0)):: []) hmix s kI
  (oc zG<|zD) fun a w2 s=> ?_
 refine zA rfl ?_
 refine zWS ?_
 refine zWS ?_
 refine zB 3 ((9, .u (UF.eq l))::(10, .u (uI ((rrv L).length:Int)))::(11, .u (uI 0)):: []) hmix s kI
  (oc zC<|oc (y4 (z:=1) (Cs:=rrv L) kI (fun v W hb h=>(yZ hl h (s.up hb))) (fun _=>rfl))<|oc zC<|zD) fun a w3 s=> ?_
 refine zA rfl ?_
 refine zWV ?_
 refine zAx (fun k=>k<=L.length) (fun k=> [(9, .u (UF.eq l)),(10, .u (uI ((rrv L).length:Int))),(0, .u (UF.eq l)),(11, .u (uI (k:Int))),(3, .u (uI ((yD L k).length:Int)))]) (fun k=>L.length - k) (0:Nat) (zW1 _) (s.keepK _ (fmz ⟨.head _,fmz ⟨mz1,fmz ⟨mz5,fmz ⟨mz2,fmz ⟨mz3,fnz⟩⟩⟩⟩⟩)) fun k a w hx s=> ?_
 have hlz:(rrv L).length=L.length:=by simp
 refine zWS ?_
 refine zB 1 ((12, .u (uB (decide ((k:Int)<((rrv L).length:Int))))):: []) hmix s kI
  (oc (zS .i64 (k:Int) ((rrv L).length:Int) (decide ((k:Int)<((rrv L).length:Int))) iiz iiz rfl rfl)<|zD) fun a w4 s=> ?_
 refine zA rfl ?_
 refine zWS ?_
 refine StS.cond s (decide ((k:Int)<((rrv L).length:Int))) iiz (fun e=> ?_) (fun e=> ?_)
 ·have hk:k<L.length:=by have h7:=zWY e;rw [hlz] at h7;omega
  have hfk:=zGj (L:=L) (k:=k+1) hk
  have hfs:(yD L (k+1)).length=(yD L k).length+(rat L k).2.length:=by rw [zBY hk,zXd]
  refine zWU ?_
  refine zWS ?_
  refine zWV ?_
  refine zWS ?_
  refine zB 3 ((13, .s (wB (wC [(rat L k).1]).cf))::(14, .s ((UF.eq ((rat L k).1)).tS))::(5, .u (UF.eq ((rat L k).1))):: []) hmix s kI
   (oc (yJ (z:=1) (Cs:=rrv L) (i:=k) (C:=wC [(rat L k).1]) kI (zHM hk) (fun v W hb h=>(yZ hl h (s.up hb))) iiz)<|oc (zAn (C:=(wC [(rat L k).1]).cf) kI iiz zD3)<|oc zG<|zD) fun a w5 s=> ?_
  refine zA rfl ?_
  refine zWS ?_
  refine zY 4 ((15, .s ((uI ((yD L k).length:Int)).tS))::(16, .s ((UF.eq ((rat L k).1)).tS))::(17, .s ((uI (((pvs m ((rat L k).2)).length:Nat):Int)).tS))::(18, .u (uI ((yD L (k+1)).length:Int))):: []) s kI
   (oc zC<|oc zC<|oc (y4 (z:=6) (Cs:=pvs m ((rat L k).2)) kI (fun v W hb h=>(by rw [show _=(rat L k).1 from h];exact (SF.row 6 (pvs m ((rat L k).2))).st _ _ _ (hL _ (zCf hk)) (s.up hb))) (fun _=>rfl))<|oc (yR .i64 ((yD L k).length:Int) (((pvs m ((rat L k).2)).length:Nat):Int) ((yD L (k+1)).length:Int) iiz iiz (by rw [zW4];simp only [zW8];omega))<|zD) fun a w6 s=> ?_
  replace s:=s.drop [3]
  refine yU (uI ((yD L (k+1)).length:Int)) rfl s kI iiz fun a w s=> ?_
  refine zA rfl ?_
  refine zWS ?_
  refine zB 2 ((19, .s ((uI ((yD L (k+1)).length:Int)).tS))::(20, .u (uB false)):: []) hmix s kI
   (oc zC<|oc (zS .i64 ((yD L (k+1)).length:Int) 0 false iiz iiz (zXj oP) rfl)<|zD) fun a w7 s=> ?_
  refine zA rfl ?_
  refine StS.cond s false iiz (fun e=>by cases e) (fun e=> ?_)
  refine zWU ?_
  refine zY 1 ((22, .u (uI ((k+1:Nat):Int))):: []) s kI
   (oc (yR .i64 (k:Int) 1 ((k+1:Nat):Int) iiz iiz (wrap64 _ _ oP oP))<|zD) fun a w8 s=> ?_
  replace s:=s.drop [11]
  refine zAQ (uI ((k+1:Nat):Int)) rfl s kI zC kI fun a w s=> ?_
  refine zA rfl ?_
  exact ⟨k+1,hk,(by show L.length - (k+1)<L.length - k;omega),s.keepK _ (fmz ⟨mz7,fmz ⟨mz8,fmz ⟨mz9,fmz ⟨.head _,fmz ⟨mz3,fnz⟩⟩⟩⟩⟩)⟩
 ·have hkN:k=L.length:=by have h7:=zWZ e;rw [hlz] at h7;omega
  replace s:=s.drop [12]
  subst hkN
  refine zW2 ?_
  refine zWS ?_
  have hgs9:=s.gr.size
  refine qM 2 ((23, .s ((uI ((yD L (L.length)).length:Int)).tS))::(24, .s (wI w4 30 6 [])):: []) hmix s kI
   (oc zC<|oc (zI zE zUt (fun u0 u1 W hb (h0:u0= .slice none 0 0) (h1:u1= .int .i64 ((yD L (L.length)).length:Int))=>(zRo h0 h1 hn).mono (wG (zAL hb.size))))<|zD) fun a w9 s hr=> ?_
  obtain ⟨v24,e24⟩: ∃v,a.tmps.getD 24 undef=v:=⟨_,rfl⟩
  have hR24:zAR w9 _ 30 6 v24 []:=e24▸(hr (_,_) mz1)
  replace s:=s.learn 24 v24 e24
  have hW9:=s.below
  have hL9:RR.ok m L w9:=fun x hx=>(SF.row 6 _).st _ _ _ (hL x hx) hW9
  have hl9:=(SF.row 1 (rrv L)).st _ _ _ hl hW9
  have sE:=s
  replace s:=s.reb rfl [(24, .u (UF.eq v24)),(9, .u (UF.eq l)),(10, .u (uI ((rrv L).length:Int))),(0, .u (UF.eq l)),(11, .u (uI (L.length:Int))),(3, .u (uI ((yD L (L.length)).length:Int)))] (fmz ⟨.inl (.head _),fmz ⟨.inl mz1,fmz ⟨.inl mz2,fmz ⟨.inl mz3,fmz ⟨.inl mz4,fmz ⟨.inl mz5,fnz⟩⟩⟩⟩⟩⟩)
  have hR9:=hR24.mono hgs9
  refine yU (UF.eq v24) rfl s kI iiz fun a w s=> ?_
  refine zA rfl ?_
  refine zWS ?_
  refine zWS ?_
  refine zB 3 ((25, .u (UF.eq l))::(26, .u (uI ((rrv L).length:Int)))::(27, .u (uI 0)):: []) hmix s kI
   (oc zC<|oc (y4 (z:=1) (Cs:=rrv L) kI (fun v W hb h=>(yZ hl9 h (s.up hb))) (fun _=>rfl))<|oc zC<|zD) fun a w10 s=> ?_
  refine zA rfl ?_
  refine zWV ?_
  have hWs:W.heap.size<=w10.heap.size:=zWX hW9.size s.gr.size
  have hRs:=hR9.below s.below
  replace s:=sE.back (s.keepK [(6, .u (UF.eq v24)),(27, .u (uI 0)),(25, .u (UF.eq l)),(26, .u (uI ((rrv L).length:Int)))] (fmz ⟨mz3,fmz ⟨mz2,fmz ⟨.head _,fmz ⟨mz1,fnz⟩⟩⟩⟩)) rfl
  refine zEy (fun (q:Nat×Wq) w=>q.1<=L.length/\W.heap.size<=w.heap.size/\zAR w W.heap.size 30 6 q.2 (pvs m (yD L q.1))) (fun q=> [(25, .u (UF.eq l)),(26, .u (uI ((rrv L).length:Int))),(6, .u (UF.eq (q.2))),(27, .u (uI (q.1:Int)))]) (fun q=>L.length - q.1) (0,v24) (⟨zW1 _,hWs,by simpa [yD] using hRs⟩) (s.keepK _ (fmz ⟨mz2,fmz ⟨mz3,fmz ⟨.head _,fmz ⟨mz1,fnz⟩⟩⟩⟩)) fun q a w hI s=> ?_
  have s0:=s
  have hlw:=(SF.row 1 (rrv L)).st _ _ _ hl s0.below
  have hLw:RR.ok m L _:=hL.below s0.below
  replace s:=s.reb rfl [(25, .u (UF.eq l)),(26, .u (uI ((rrv L).length:Int))),(6, .u (UF.eq (q.2))),(27, .u (uI (q.1:Int)))] (fmz ⟨.inl (.head _),fmz ⟨.inl mz1,fmz ⟨.inl mz2,fmz ⟨.inl mz3,fnz⟩⟩⟩⟩)
  refine zWS ?_
  refine zB 1 ((28, .u (uB (decide ((q.1:Int)<((rrv L).length:Int))))):: []) hmix s kI
   (oc (zS .i64 (q.1:Int) ((rrv L).length:Int) (decide ((q.1:Int)<((rrv L).length:Int))) iiz iiz rfl rfl)<|zD) fun a w11 s=> ?_
  refine zA rfl ?_
  refine zWS ?_
  refine StS.cond s (decide ((q.1:Int)<((rrv L).length:Int))) iiz (fun e=> ?_) (fun e=> ?_)
  ·have hk:q.1<L.length:=by have:=zWY e;simp at this;omega
   refine zWU ?_
   refine zWS ?_
   refine zWV ?_
   refine zWS ?_
   refine zB 3 ((29, .s (wB (wC [(rat L q.1).1]).cf))::(30, .s ((UF.eq ((rat L q.1).1)).tS))::(8, .u (UF.eq ((rat L q.1).1))):: []) hmix s kI
    (oc (yJ (z:=1) (Cs:=rrv L) (i:=q.1) (C:=wC [(rat L q.1).1]) kI (zHM hk) (fun v W hb h=>(yZ hlw h (s.up hb))) iiz)<|oc (zAn (C:=(wC [(rat L q.1).1]).cf) kI iiz zD3)<|oc zG<|zD) fun a w12 s=> ?_
   refine zA rfl ?_
   refine zY 2 ((31, .u (UF.eq (q.2)))::(32, .u (UF.eq ((rat L q.1).1))):: []) s kI
    (oc zC<|oc zC<|zD) fun a w13 s=> ?_
   refine zM3 (pvs m ((rat L q.1).2)) s0 (s.keepK [(31, .u (UF.eq (q.2))),(32, .u (UF.eq ((rat L q.1).1))),(8, .u (UF.eq ((rat L q.1).1))),(28, .u (uB (decide ((q.1:Int)<((rrv L).length:Int))))),(25, .u (UF.eq l)),(26, .u (uI ((rrv L).length:Int))),(6, .u (UF.eq (q.2))),(27, .u (uI (q.1:Int)))] (fmz ⟨.head _,fmz ⟨mz1,fmz ⟨mz2,fmz ⟨mz3,fmz ⟨mz4,fmz ⟨mz5,fmz ⟨mz6,fmz ⟨mz7,fnz⟩⟩⟩⟩⟩⟩⟩⟩)) lr hI.2 rfl kI kI kI (s.fct (.tmp 31)) (by rw [show a.eval (.tmp 32)=(rat L q.1).1 from s.val mz1];exact (SF.row 6 _).st _ _ _ (hLw _ (zCf hk)) s.below) (zNG _ _) (by have:=zGj (L:=L) (k:=q.1+1) hk;rw [zBY hk,zXd] at this;simp;omega) (fun q hq=>by cases hq) fun v' a w hI' s=> ?_
   have s1:=s
   replace s:=s.reb rfl [(33, .u (UF.eq v')),(31, .u (UF.eq (q.2))),(32, .u (UF.eq ((rat L q.1).1))),(8, .u (UF.eq ((rat L q.1).1))),(28, .u (uB (decide ((q.1:Int)<((rrv L).length:Int))))),(25, .u (UF.eq l)),(26, .u (uI ((rrv L).length:Int))),(6, .u (UF.eq (q.2))),(27, .u (uI (q.1:Int)))] (fmz ⟨.inl (.head _),fmz ⟨.inl mz1,fmz ⟨.inl mz2,fmz ⟨.inl mz3,fmz ⟨.inl mz4,fmz ⟨.inl mz5,fmz ⟨.inl mz6,fmz ⟨.inl mz7,fmz ⟨.inl mz8,fnz⟩⟩⟩⟩⟩⟩⟩⟩⟩)
   replace s:=s.drop [6]
   refine yU (UF.eq v') rfl s kI iiz fun a w s=> ?_
   refine zA rfl ?_
   refine zY 1 ((34, .u (uI ((q.1+1:Nat):Int))):: []) s kI
    (oc (yR .i64 (q.1:Int) 1 ((q.1+1:Nat):Int) iiz iiz (wrap64 _ _ oP oP))<|zD) fun a w14 s=> ?_
   replace s:=s.drop [27]
   refine zAQ (uI ((q.1+1:Nat):Int)) rfl s kI zC kI fun a w s=> ?_
   refine zA rfl ?_
   have hbw:=s.below
   replace s:=s1.back (s.keepK [(27, .u (uI ((q.1+1:Nat):Int))),(34, .u (uI ((q.1+1:Nat):Int))),(6, .u (UF.eq v')),(33, .u (UF.eq v')),(31, .u (UF.eq (q.2))),(32, .u (UF.eq ((rat L q.1).1))),(8, .u (UF.eq ((rat L q.1).1))),(28, .u (uB (decide ((q.1:Int)<((rrv L).length:Int))))),(25, .u (UF.eq l)),(26, .u (uI ((rrv L).length:Int)))] (fmz ⟨.head _,fmz ⟨mz1,fmz ⟨mz2,fmz ⟨mz3,fmz ⟨mz4,fmz ⟨mz5,fmz ⟨mz6,fmz ⟨mz7,fmz ⟨mz8,fmz ⟨mz9,fnz⟩⟩⟩⟩⟩⟩⟩⟩⟩⟩)) rfl
   exact ⟨(q.1+1,v'),(by show L.length - (q.1+1)<L.length - q.1;omega),⟨hk,zWX hI'.1 hbw.size,by show zAR _ _ _ _ _ (pvs m (yD L (q.1+1)));rw [zNI m L q.1 hk];exact hI'.2.below hbw⟩,s.keepK _ (fmz ⟨mz8,fmz ⟨mz9,fmz ⟨mz2,fmz ⟨.head _,fnz⟩⟩⟩⟩)⟩
  ·have hk:q.1=L.length:=by have h7:=zWZ e;have h8:=hI.1;simp at h7;omega
   refine zW2 ?_
   refine zWS ?_
   refine zB 2 ((35, .s ((UF.eq (q.2)).tS))::(2, .u (UF.eq (q.2))):: []) hmix s kI
    (oc zC<|oc zG<|zD) fun a w15 s=> ?_
   refine zA rfl ?_
   refine zWT ?_
   exact StS.resN s s0.below rfl (by rw [s.val (.head _)];have:=hI.2.2.below s.below;rw [hk] at this;exact this)
end Go.Proofs.Wd

namespace Go.Proofs.Wd
open Tryz
set_option maxRecDepth 100000
set_option maxHeartbeats 1000000
open Go.RowKit Lb
def zJ0 (ps:List V2):V2:=((yM ps).1 - ((1:Int):Rat),(yM ps).2 - ((1:Int):Rat))
def zJ1 (ps:List V2):V2:=((yN ps).1+((1:Int):Rat),(yN ps).2+((1:Int):Rat))
theorem zPg {m:Nat} (hm:0<m):QB ((1:Int):Rat) m:=(qbz (z:=1) dB).mono oP
theorem zIZ {m:Nat} (hm:0<m):QB ((0:Int):Rat) m:=QB.zero hm
theorem zTw {ps:List V2} {m:Nat} (h: ∀p,p∈ps->QB p.1 m/\QB p.2 m) (hm:0<m):(QB (yM ps).1 m/\QB (yM ps).2 m)/\(QB (yN ps).1 m/\QB (yN ps).2 m):=by
 unfold yM yN
 by_cases e:ps.length=0
 ·rw [if_pos e,if_pos e];exact ⟨⟨zIZ hm,zIZ hm⟩,⟨zIZ hm,zIZ hm⟩⟩
 ·rw [if_neg e,if_neg e];exact ⟨zPU h oP _ lr,zPW h oP _ lr⟩
theorem zOs {L:RR} {k:Nat} {p:V2} (h:p∈yD L k): ∃x,x∈L/\p∈x.2:=by
 unfold yD at h
 obtain ⟨x,hx,hp⟩:=List.mem_flatMap.1 h
 exact ⟨x,List.mem_of_mem_take hx,hp⟩
theorem zRq {m:Nat} {L:RR} {W:Wp} (hL:RR.ok m L W) (hm:0<m) (k:Nat): ∀p,p∈yD L k->QB p.1 m/\QB p.2 m:=fun p hp=>by
 obtain ⟨x,hx,h⟩:=zOs hp
 exact zIO hm (hL x hx) p h
theorem zSx {m:Nat} {p q:V2} {cs:List Wq} {W:Wp} (hp:QB p.1 m/\QB p.2 m) (hq:QB q.1 m/\QB q.2 m) (h:(CU.agg (fPR (fPN p) (fPN q))).p cs W):(CU.agg (fPR (fPV m p) (fPV m q))).p cs W:=by
 obtain ⟨a,b,e,h1,h2⟩:=h
 exact ⟨a,b,e,zAP (p:=p) (m:=m) hp.1 hp.2 h1,zAP (p:=q) (m:=m) hq.1 hq.2 h2⟩
theorem zOn {m:Nat} {W:Wp} {l:Wq} {L:RR} (hl:(SF.row 1 (rrv L)).p l W) (hL:RR.ok m L W) (hm:m<=650) (hm0:0<m) (hn:(yD L L.length).length<=1000000) (hnL:L.length<=1000000) (hT:Tab W):Calls prog 24 #[l] W (Ret W (fPR (fPV (m+2) (zJ0 (yD L L.length))) (fPV (m+2) (zJ1 (yD L L.length)))).tS):=by
 have hbq:=zTw (zRq hL hm0 L.length) hm0
 refine yB [(UF.eq l).tS] func24 rfl kI ⟨rfl,trivial⟩ fun a s=> ?_
 replace s:=s.renew [(0, .u (UF.eq l))] (fmz ⟨.inr ⟨_,rfl, .head _⟩,fnz⟩)
 refine zWS ?_
 refine zB 0 [] hmix s kI
  zD fun a w1 s=> ?_
 refine z7 (CU.len 12) (cs:= [.bool false, .slice none 0 0, .slice none 0 0, .bool false, .slice none 0 0, .slice none 0 0, .bool false, .slice none 0 0, .slice none 0 0, .bool false, .slice none 0 0, .slice none 0 0]) kI rfl s kI (fun W=>rfl) rfl fun b2 a w s=> ?_
 refine zA rfl ?_
 refine zWS ?_
 refine zB 6 ((7, .s ((UF.eq l).tS))::(8, .s (wI w 30 6 (pvs m (yD L L.length))))::(9, .s ((zAj (fPR (fPV m (yM (yD L L.length))) (fPV m (yN (yD L L.length)))) (uB ((yD L L.length).length !=0))).tS))::(6, .s ((zAj (fPR (fPV m (yM (yD L L.length))) (fPV m (yN (yD L L.length)))) (uB ((yD L L.length).length !=0))).tS))::(10, .u (fPR (fPV m (yM (yD L L.length))) (fPV m (yN (yD L L.length)))))::(11, .u (uB ((yD L L.length).length !=0))):: []) hmix s kI
  (oc zC<|oc (zH zE zUE (fun u0 W hb (h0:u0=l)=>(zL1 (yZ hl h0 (s.up hb)) (hL.below (s.up hb)) hn hnL).mono (wG (zAL hb.size))))<|oc (zH zE zRA (fun u0 W hb h0=>zL2 (zBv _ _ h0) oP hm0 hn (hT.below (s.up hb))))<|oc zC<|oc (zAp (A:=(fPR (fPV m (yM (yD L L.length))) (fPV m (yN (yD L L.length)))).tS) (B:=(uB ((yD L L.length).length !=0)).tS) iiz)<|oc (zAo (A:=(fPR (fPV m (yM (yD L L.length))) (fPV m (yN (yD L L.length)))).tS) (B:=(uB ((yD L L.length).length !=0)).tS) iiz)<|zD) fun a w2 s=> ?_
 refine z7 (CU.len 12) (cs:= [.bool false, .slice none 0 0, .slice none 0 0, .bool false, .slice none 0 0, .slice none 0 0, .bool false, .slice none 0 0, .slice none 0 0, .bool false, .slice none 0 0, .slice none 0 0]) kI rfl s kI (fun W=>rfl) rfl fun b3 a w s=> ?_
 refine zR (CU.agg (fPR (fPV m (yM (yD L L.length))) (fPV m (yN (yD L L.length))))) ((fPR (fPV m (yM (yD L L.length))) (fPV m (yN (yD L L.length)))).tS) rfl s kI rfl rfl rfl iiz iiz zBq fun a w s=> ?_
 refine yU (uB ((yD L L.length).length !=0)) rfl s kI iiz fun a w s=> ?_
 refine zA rfl ?_
 refine zWS ?_
 refine zB 1 ((12, .u (fPV m (((1:Int):Rat),((1:Int):Rat)))):: []) hmix s kI
  (oc (zI zE zRz (fun u0 u1 W hb (h0:u0= .int .i64 1) (h1:u1= .int .i64 1)=>(zQb h0 h1 dB dB).mono (wG (fun v W h=>zAP (p:=(((1:Int):Rat),((1:Int):Rat))) (m:=m) (zPg hm0) (zPg hm0) h))))<|zD) fun a w3 s=> ?_
 refine z7 (CU.len 6) (cs:=zP6) kI rfl s kI (fun W=>rfl) rfl fun b5 a w s=> ?_
 refine zR (CU.agg (fPV m (((1:Int):Rat),((1:Int):Rat)))) ((fPV m (((1:Int):Rat),((1:Int):Rat))).tS) rfl s kI rfl rfl rfl iiz iiz y5 fun a w s=> ?_
 refine zA rfl ?_
 refine zWS ?_
 refine z9 [] 9 ((13, .s (wB ((CU.agg (fPR (fPV m (yM (yD L L.length))) (fPV m (yN (yD L L.length))))).cf.at 0)))::(14, .s ((fPV m (yM (yD L L.length))).tS))::(15, .s ((fPV m (((1:Int):Rat),((1:Int):Rat))).tS))::(16, .s ((fPN ((yM (yD L L.length)).1 - ((1:Int):Rat),(yM (yD L L.length)).2 - ((1:Int):Rat))).tS))::(17, .s (wB ((CU.agg (fPR (fPV m (yM (yD L L.length))) (fPV m (yN (yD L L.length))))).cf.at 6)))::(18, .s ((fPV m (yN (yD L L.length))).tS))::(19, .s ((fPV m (((1:Int):Rat),((1:Int):Rat))).tS))::(20, .s ((fPN ((yN (yD L L.length)).1+((1:Int):Rat),(yN (yD L L.length)).2+((1:Int):Rat))).tS))::(21, .u (fPR (fPN ((yM (yD L L.length)).1 - ((1:Int):Rat),(yM (yD L L.length)).2 - ((1:Int):Rat))) (fPN ((yN (yD L L.length)).1+((1:Int):Rat),(yN (yD L L.length)).2+((1:Int):Rat))))):: []) hmix s kI
  (oc (zJ (C:=(CU.agg (fPR (fPV m (yM (yD L L.length))) (fPV m (yN (yD L L.length))))).cf) 0 kI)<|oc (zP (C:=(CU.agg (fPR (fPV m (yM (yD L L.length))) (fPV m (yN (yD L L.length))))).cf) (k:=0) 6 kI (h:=zDj))<|oc (zK (f:=fPV m (((1:Int):Rat),((1:Int):Rat))) 6 kI (hz:=zO _ _))<|oc (zI zE zRy (fun u0 u1 W hb (h0:(fPV m (yM (yD L L.length))).p u0 W) (h1:(fPV m (((1:Int):Rat),((1:Int):Rat))).p u1 W)=>zKo (p:=yM (yD L L.length)) (q:=(((1:Int):Rat),((1:Int):Rat))) h0 h1 hm hm0 (hT.below (s.up hb))))<|oc (zJ (C:=(CU.agg (fPR (fPV m (yM (yD L L.length))) (fPV m (yN (yD L L.length))))).cf) 6 kI)<|oc (zP (C:=(CU.agg (fPR (fPV m (yM (yD L L.length))) (fPV m (yN (yD L L.length))))).cf) (k:=6) 6 kI (h:=zDY))<|oc (zK (f:=fPV m (((1:Int):Rat),((1:Int):Rat))) 6 kI (hz:=zO _ _))<|oc (zI zE zUD (fun u0 u1 W hb (h0:(fPV m (yN (yD L L.length))).p u0 W) (h1:(fPV m (((1:Int):Rat),((1:Int):Rat))).p u1 W)=>zRQ (p:=yN (yD L L.length)) (q:=(((1:Int):Rat),((1:Int):Rat))) h0 h1 hm hm0 (hT.below (s.up hb))))<|oc (qA (fun u v W (hu:(fPN ((yM (yD L L.length)).1 - ((1:Int):Rat),(yM (yD L L.length)).2 - ((1:Int):Rat))).p u W) (hv:(fPN ((yN (yD L L.length)).1+((1:Int):Rat),(yN (yD L L.length)).2+((1:Int):Rat))).p v W)=>zUZ hu hv))<|zD) fun Q' hQ a w4 s=> ?_
 refine zR (CU.agg (fPR (fPN ((yM (yD L L.length)).1 - ((1:Int):Rat),(yM (yD L L.length)).2 - ((1:Int):Rat))) (fPN ((yN (yD L L.length)).1+((1:Int):Rat),(yN (yD L L.length)).2+((1:Int):Rat))))) ((fPR (fPN ((yM (yD L L.length)).1 - ((1:Int):Rat),(yM (yD L L.length)).2 - ((1:Int):Rat))) (fPN ((yN (yD L L.length)).1+((1:Int):Rat),(yN (yD L L.length)).2+((1:Int):Rat)))).tS) rfl s kI rfl rfl rfl iiz iiz zBq fun a w s=> ?_
 refine zA rfl (hQ _ _ ?_)
 refine zWT ?_
 exact wE s (CU.agg (fPR (fPN ((yM (yD L L.length)).1 - ((1:Int):Rat),(yM (yD L L.length)).2 - ((1:Int):Rat))) (fPN ((yN (yD L L.length)).1+((1:Int):Rat),(yN (yD L L.length)).2+((1:Int):Rat))))) rfl kI rfl rfl zCl (fun cs W h=>zSx (p:=zJ0 (yD L L.length)) (q:=zJ1 (yD L L.length)) (zJu hbq.1 hm0).2 (zJu hbq.2 hm0).1 h)
theorem zK5 {m:Nat} {W:Wp} {u v:Wq} {lo hi lo2 hi2:V2} (h1:(fPR (fPV m lo) (fPV m hi)).p u W) (h2:(fPR (fPV m lo2) (fPV m hi2)).p v W) (hm:m<=990) (hm0:0<m):Calls prog 32 #[u,v] W (Ret W (fB ((yY lo lo2==0)&&(yY hi hi2==0))).tS):=by
 refine yB [(fPR (fPV m lo) (fPV m hi)).tS,(fPR (fPV m lo2) (fPV m hi2)).tS] func32 rfl kI ⟨h1,h2,trivial⟩ fun a s=> ?_
 refine zWS ?_
 refine zB 0 [] hmix s kI
  zD fun a w1 s=> ?_
 refine yO (CU.agg (fPR (fPV m lo) (fPV m hi))) rfl s kI (fun v W h=>zLe h) fun b2 a w s=> ?_
 refine yO (CU.agg (fPR (fPV m lo2) (fPV m hi2))) rfl s kI (fun v W h=>zLe h) fun b3 a w s=> ?_
 refine yU (uB false) rfl s kI iiz fun a w s=> ?_
 refine zA rfl ?_
 refine zWS ?_
 replace s:=s.drop [4]
 refine zB 13 ((5, .s (wB ((CU.agg (fPR (fPV m lo) (fPV m hi))).cf.at 0)))::(6, .s ((fPV m lo).tS))::(7, .s (wB ((CU.agg (fPR (fPV m lo2) (fPV m hi2))).cf.at 0)))::(8, .s ((fPV m lo2).tS))::(9, .s ((uB (yY lo lo2==0)).tS))::(10, .s ((uB (yY lo lo2==0)).tS))::(11, .s (SF.imp ((yY lo lo2==0)=true) (wB ((CU.agg (fPR (fPV m lo) (fPV m hi))).cf.at 6))))::(12, .s (SF.imp ((yY lo lo2==0)=true) ((fPV m hi).tS)))::(13, .s (SF.imp ((yY lo lo2==0)=true) (wB ((CU.agg (fPR (fPV m lo2) (fPV m hi2))).cf.at 6))))::(14, .s (SF.imp ((yY lo lo2==0)=true) ((fPV m hi2).tS)))::(15, .s (SF.imp ((yY lo lo2==0)=true) ((uB (yY hi hi2==0)).tS)))::(16, .s ((uB ((yY lo lo2==0)&&(yY hi hi2==0))).tS))::(4, .u (uB ((yY lo lo2==0)&&(yY hi hi2==0)))):: []) hmix s kI
  (oc (zJ (C:=(CU.agg (fPR (fPV m lo) (fPV m hi))).cf) 0 kI)<|oc (zP (C:=(CU.agg (fPR (fPV m lo) (fPV m hi))).cf) (k:=0) 6 kI (h:=zDj))<|oc (zJ (C:=(CU.agg (fPR (fPV m lo2) (fPV m hi2))).cf) 0 kI)<|oc (zP (C:=(CU.agg (fPR (fPV m lo2) (fPV m hi2))).cf) (k:=0) 6 kI (h:=zDj))<|oc (zI zE zHo (fun u0 u1 W hb (h0:(fPV m lo).p u0 W) (h1:(fPV m lo2).p u1 W)=>zBH (m:=m) h0 h1 hm hm0))<|oc zC<|oc (zF 10 (yY lo lo2==0) kI iiz (fun e=>z4 [] (wB ((CU.agg (fPR (fPV m lo) (fPV m hi))).cf.at 6)) fnz (fun _ _ h _=>h) kI (zJ (C:=(CU.agg (fPR (fPV m lo) (fPV m hi))).cf) 6 kI)) (fun e W h=>absurd h e))<|oc (zF 10 (yY lo lo2==0) kI iiz (fun e=>z4 [(11,wB ((CU.agg (fPR (fPV m lo) (fPV m hi))).cf.at 6))] ((fPV m hi).tS) (fmz ⟨fun v W h=>zQ (c:=(yY lo lo2==0)=true) (f:=wB ((CU.agg (fPR (fPV m lo) (fPV m hi))).cf.at 6)) e h,fnz⟩) (fun _ _ h _=>h) kI (zP (C:=(CU.agg (fPR (fPV m lo) (fPV m hi))).cf) (k:=6) 6 kI (h:=zDY))) (fun e W h=>absurd h e))<|oc (zF 10 (yY lo lo2==0) kI iiz (fun e=>z4 [] (wB ((CU.agg (fPR (fPV m lo2) (fPV m hi2))).cf.at 6)) fnz (fun _ _ h _=>h) kI (zJ (C:=(CU.agg (fPR (fPV m lo2) (fPV m hi2))).cf) 6 kI)) (fun e W h=>absurd h e))<|oc (zF 10 (yY lo lo2==0) kI iiz (fun e=>z4 [(13,wB ((CU.agg (fPR (fPV m lo2) (fPV m hi2))).cf.at 6))] ((fPV m hi2).tS) (fmz ⟨fun v W h=>zQ (c:=(yY lo lo2==0)=true) (f:=wB ((CU.agg (fPR (fPV m lo2) (fPV m hi2))).cf.at 6)) e h,fnz⟩) (fun _ _ h _=>h) kI (zP (C:=(CU.agg (fPR (fPV m lo2) (fPV m hi2))).cf) (k:=6) 6 kI (h:=zDY))) (fun e W h=>absurd h e))<|oc (zF 10 (yY lo lo2==0) kI iiz (fun e=>z4 [(12,(fPV m hi).tS),(14,(fPV m hi2).tS)] ((uB (yY hi hi2==0)).tS) (fmz ⟨fun v W h=>zQ (c:=(yY lo lo2==0)=true) (f:=(fPV m hi).tS) e h,fmz ⟨fun v W h=>zQ (c:=(yY lo lo2==0)=true) (f:=(fPV m hi2).tS) e h,fnz⟩⟩) (fun _ _ h _=>h) kI (zI zE zHo (fun u0 u1 W hb (h0:(fPV m hi).p u0 W) (h1:(fPV m hi2).p u1 W)=>zBH (m:=m) h0 h1 hm hm0))) (fun e W h=>absurd h e))<|oc (y6 (yY lo lo2==0) iiz (fun e v W h=>zBc (zQ e h) e) (fun e v W h=>zAy h e))<|oc zG<|zD) fun a w2 s=> ?_
 refine zA rfl ?_
 refine zWT ?_
 exact wD s (t:=4) rfl iiz
end Go.Proofs.Wd

namespace Go.Proofs.Wd
open Tryz
set_option maxRecDepth 100000
set_option maxHeartbeats 1000000
open Go.RowKit Lb
theorem egB (s:Bool) (A A':Ws Addr) (n n' c c':Nat) (s2:Bool) (B B':Ws Addr) (k k' d d':Nat) (t:Bool) (C C':Ws Addr) (i i' j j':Nat) (t2:Bool) (D D':Ws Addr) (x x' y y':Nat):prog.built 49 [(0, .agg #[.bool s, .slice A n c, .slice A' n' c', .bool s2, .slice B k d, .slice B' k' d']),(1, .agg #[.bool t, .slice C i j, .slice C' i' j', .bool t2, .slice D x y, .slice D' x' y'])]=some #[.bool s, .slice A n c, .slice A' n' c', .bool s2, .slice B k d, .slice B' k' d', .bool t, .slice C i j, .slice C' i' j', .bool t2, .slice D x y, .slice D' x' y']:=by kernel_rfl
theorem zVR {f g f' g':UF} {u v:Wq} {W:Wp} (hu:(fPT f g).p u W) (hv:(fPT f' g').p v W): ∃cells,prog.built 49 [(0,u),(1,v)]=some cells/\(fPR (fPT f g) (fPT f' g')).p (.agg cells) W:=by
 obtain ⟨s,A,n,c,A',n',c',s2,B,k,d,B',k',d',rfl,h1,h2⟩:=hu
 obtain ⟨s3,A3,n3,c3,A4,n4,c4,s4,B3,k3,d3,B4,k4,d4,rfl,h3,h4⟩:=hv
 exact ⟨_,egB ..,_,_,rfl,⟨s,A,n,c,A',n',c',s2,B,k,d,B',k',d',rfl,h1,h2⟩,⟨s3,A3,n3,c3,A4,n4,c4,s4,B3,k3,d3,B4,k4,d4,rfl,h3,h4⟩⟩
def zX (ps:List V2) (j:Nat):V2×V2:=if decide (yY (at_ ps j) (at_ ps ((j+1) % ps.length))>0)=true then (at_ ps ((j+1) % ps.length),at_ ps j) else (at_ ps j,at_ ps ((j+1) % ps.length))
theorem zIc {ps:List V2} {j:Nat} (e:decide (yY (at_ ps j) (at_ ps ((j+1) % ps.length))>0)=true):zX ps j=(at_ ps ((j+1) % ps.length),at_ ps j):=if_pos e
theorem zId {ps:List V2} {j:Nat} (e:decide (yY (at_ ps j) (at_ ps ((j+1) % ps.length))>0)=false):zX ps j=(at_ ps j,at_ ps ((j+1) % ps.length)):=if_neg (by rw [e];decide)
def yL (ps:List V2):List (V2×V2):=(List.range ps.length).map (zX ps)
def zD4 (L:RR):List (V2×V2):=L.flatMap fun x=>yL x.2
def eAt (L:RR) (k:Nat):V2×V2:=(zD4 L).getD k ((0,0),(0,0))
abbrev eH (m:Nat) (L:RR) (k:Nat):List UF:= [fPR (fPV m (eAt L k).1) (fPV m (eAt L k).2)]
theorem zHw (L:RR): ∀k,k<=L.length->((L.take k).flatMap fun x=>yL x.2).length=(yD L k).length:=fun k _=>by
 unfold yD
 generalize L.take k=M
 induction M with
 |nil=>rfl
 |cons x M ih=>simp only [List.flatMap_cons,zXd,ih];simp [yL]
theorem zJs (L:RR):(zD4 L).length=(yD L L.length).length:=by
 have:=zHw L L.length lr
 rwa [zXa lr] at this
theorem zPL {L:RR} {k j:Nat} (hk:k<L.length) (hj:j<(rat L k).2.length):eAt L ((yD L k).length+j)=zX (rat L k).2 j:=by
 unfold eAt
 have e0:zD4 L=((L.take k).flatMap fun x=>yL x.2)++((L.drop k).flatMap fun x=>yL x.2):=by
  unfold zD4
  rw [<-zXi,List.take_append_drop]
 have e1:L.drop k=rat L k::L.drop (k+1):=by
  unfold rat
  rw [zXc,zW0 hk,List.drop_eq_getElem_cons hk];rfl
 rw [e0,e1,zXc, <-zHw L k (Nat.le_of_lt hk),List.getElem?_append_right (Nat.le_add_right _ _),Nat.add_sub_cancel_left,List.flatMap_cons,List.getElem?_append_left (by simpa [yL] using hj)]
 unfold yL
 rw [zW5,List.getElem?_range hj]
 rfl
theorem zPs {L:RR} {k j:Nat} (hk:k<L.length) (hj:j<(rat L k).2.length):(yD L k).length+j<(zD4 L).length:=by
 rw [zJs]
 have:=zGj (L:=L) (k:=k+1) hk
 rw [zBY hk,zXd] at this
 omega
theorem zFl {N:Nat} {C O:Nat->Prop} {w0 w w1:Wp} (hb:Below w0.heap.size w0 w) (hr:RndO N C O w w1) (hN:w0.heap.size<=N) (hC: ∀k,C k->w0.heap.size<=k):Below w0.heap.size w0 w1:=
 ⟨hr.os.trans hb.os,hr.tape.trans hb.tape,hr.output.trans hb.output,zWX hb.size hr.size,fun k hk=>(hr.low k (zW9 hk hN) (fun h=>by have:=hC k h;omega)).trans (hb.block k hk)⟩
theorem zS2 (f:Operand->Wq) (x:Operand):(Array.map f #[x]).getD 0 undef=f x:=by simp [Array.getD_eq_getD_getElem?]
theorem zOk {W:Wp} {l:Wq} (hlc:l.cells=#[l]/\yA l=true):Calls prog 47 #[l] W (Ret W (zOu W 74 43 (wC [l]))):=by
 refine yB [(UF.eq l).tS] func47 rfl kI ⟨rfl,trivial⟩ fun a s=> ?_
 refine zWS ?_
 refine zB 0 [] hmix s kI
  zD fun a w1 s=> ?_
 refine yO (wC [l]) rfl s kI (fun v W h=>zI9 h hlc.1 hlc.2) fun b1 a w s=> ?_
 refine yU (UF.eq (.nilFunc)) rfl s kI iiz fun a w s=> ?_
 refine zA rfl ?_
 refine zWS ?_
 replace s:=s.drop [2]
 refine zB 2 ((3, .s ((UF.eq (.func (.func 74) #[] #[.pointer (some ⟨b1,0,none⟩)])).tS))::(2, .u (UF.eq (.func (.func 74) #[] #[.pointer (some ⟨b1,0,none⟩)]))):: []) hmix s kI
  (oc (zEf (fun u W hb (h:(wF b1 (wC [l]).cf).p u W)=>by rw [h.1];rfl))<|oc zG<|zD) fun a w2 s=> ?_
 refine zA rfl ?_
 refine zWT ?_
 obtain ⟨cs,e1,e2,e3⟩:=s.boxAt (c:=1) rfl
 exact StS.resN s (zXb _ _) rfl ⟨b1,cs,s.val (.head _),s.inB_new ⟨_, .head _,rfl,rfl⟩,e1,e2,e3⟩
theorem zLZ {w0 w_:Wp} {m b:Nat} {l:Wq} {L:RR} {C:Nat->Prop} (hh:w_.heap[b]?=some (.cells #[l] 43 (0,0))) (hl:(SF.row 1 (rrv L)).p l w0) (hL:RR.ok m L w0) (hb0:Below w0.heap.size w0 w_) (hCl: ∀k,C k->k<w_.heap.size) (hC0: ∀k,C k->w0.heap.size<=k) (hCb: ¬C b) (hm:m<=990) (hm0:0<m) (hnP: ∀x,x∈L->x.2.length<=1000000) (hnL:L.length<=1000000) (hT:Tab w0):
  ItD prog 74 #[.pointer (some ⟨b,0,none⟩)] (eH m L) (zD4 L).length C w_:=by
 intro l_ J Z W hwW hbW hkW hJs hZs hround hJ0
 have hlc:=zGN hl
 have hw0:w0.heap.size<=w_.heap.size:=hb0.size
 have hbW0:Below w0.heap.size w0 W:=hb0.trans (hbW.mono hb0.size)
 have hlW:=(SF.row 1 (rrv L)).st _ _ _ hl hbW0
 have hLW:RR.ok m L W:=hL.below hbW0
 have hhW:W.heap[b]?=some (.cells #[l] 43 (0,0)):=(hbW.block b (zW6.1 hh).1).trans hh
 refine zOf func74 rfl ?_
 have s:=zM9 (w:=W) (fn:=f74) (args:=#[.func (.yield l_) #[] #[]]++#[.pointer (some ⟨b,0,none⟩)]) noS [(0,UF.eq (.func (.yield l_) #[] #[]))] [⟨1,43,wC [l],b,true⟩] kI (fun q hq=>by obtain rfl:=zWW.1 hq;exact ⟨by simp,rfl⟩) ⟨⟨[l],rfl, .inl rfl,hhW,rfl,by simp [hlc.2],fun y hy=>by cases hy⟩,trivial⟩ (fun x hx=>by obtain rfl:=zWW.1 hx;show 1<2;decide)
 generalize ({ tmps:=#[.func (.yield l_) #[] #[]]++#[.pointer (some ⟨b,0,none⟩)]++Array.replicate (f74.ntmps - (#[.func (.yield l_) #[] #[]]++#[.pointer (some ⟨b,0,none⟩)]:Array Wq).size) undef,defers:= [] }:Act)=a at s ⊢
 refine zWS ?_
 refine zB 3 ((8, .u (UF.eq l))::(9, .u (uI ((rrv L).length:Int)))::(10, .u (uI 0)):: []) hmix s kI
  (oc (zAn (C:=(wC [l]).cf) kI (fun _ _ h=>h.2) zD3)<|oc (y4 (z:=1) (Cs:=rrv L) kI (fun v W hb h=>(yZ hlW h (s.up hb))) (fun _=>rfl))<|oc zC<|zD) fun a w1 s=> ?_
 refine zA rfl ?_
 refine zWV ?_
 have hJw:J 0 (fun _=>False) w1:=hJs _ _ _ _ _ hJ0 s.below (fun q hq=>hq.elim)
 have hBw0:Below w0.heap.size w0 w1:=hbW0.trans (s.below.mono hbW0.size)
 have hW0:=s.gr.size
 replace s:=(s.keepK [(0, .u (UF.eq (.func (.yield l_) #[] #[]))),(8, .u (UF.eq l)),(9, .u (uI ((rrv L).length:Int))),(10, .u (uI ((0:Nat):Int)))] (fmz ⟨mz3,fmz ⟨.head _,fmz ⟨mz1,fmz ⟨mz2,fnz⟩⟩⟩⟩)).self (qZ kI)
 refine zDR (fun k a w=>k<=L.length/\J (yD L k).length (fun _=>False) w/\Below w0.heap.size w0 w/\W.heap.size<=w.heap.size/\StS (inB [⟨1,43,wC [l],b,true⟩]) w [(0, .u (UF.eq (.func (.yield l_) #[] #[]))),(8, .u (UF.eq l)),(9, .u (uI ((rrv L).length:Int))),(10, .u (uI (k:Int)))] [⟨1,43,wC [l],b,true⟩] f74.ntmps [] a w) (fun k=>L.length - k) 0 ⟨zW1 _,hJw,hBw0,hW0,s⟩ fun k a w ⟨hk',hJ,hBw,hWs,s⟩=> ?_
 replace s:=s.toSt (fun q ⟨x,hx,_,hr⟩=>by obtain rfl:=zWW.1 hx;cases hr) rfl
 have hlw:=(SF.row 1 (rrv L)).st _ _ _ hl hBw
 have hLw:RR.ok m L w:=hL.below hBw
 have hTo:=hT
 have hT:=hTo.below hBw
 have hlz:(rrv L).length=L.length:=by simp
 refine zWS ?_
 refine zB 1 ((11, .u (uB (decide ((k:Int)<((rrv L).length:Int))))):: []) hmix s kI
  (oc (zS .i64 (k:Int) ((rrv L).length:Int) (decide ((k:Int)<((rrv L).length:Int))) iiz iiz rfl rfl)<|zD) fun a w2 s=> ?_
 refine zA rfl ?_
 refine zWS ?_
 refine StS.cond s (decide ((k:Int)<((rrv L).length:Int))) iiz (fun e=> ?_) (fun e=> ?_)
 ·have hk:k<L.length:=by have h7:=zWY e;rw [hlz] at h7;omega
  have hqk:=zIO hm0 (hLw _ (zCf hk))
  refine zWU ?_
  refine zWS ?_
  refine zWV ?_
  refine zWS ?_
  refine zB 3 ((12, .s (wB (wC [(rat L k).1]).cf))::(13, .s ((UF.eq ((rat L k).1)).tS))::(4, .u (UF.eq ((rat L k).1))):: []) hmix s kI
   (oc (yJ (z:=1) (Cs:=rrv L) (i:=k) (C:=wC [(rat L k).1]) kI (zHM hk) (fun v W hb h=>(yZ hlw h (s.up hb))) iiz)<|oc (zAn (C:=(wC [(rat L k).1]).cf) kI iiz zD3)<|oc zG<|zD) fun a w3 s=> ?_
  refine zA rfl ?_
  refine zWS ?_
  have hbk:=s.gr.size
  have hbg:W.heap.size<=w3.heap.size:=zWX hWs s.gr.size
  refine zCU 2 ((14, .s ((UF.eq ((rat L k).1)).tS))::(15, .s (wI w3 30 6 (pns ((rat L k).2)))):: []) s kI
   (oc zC<|oc (zH zE zTa (fun u0 W hb (h0:u0=(rat L k).1)=>(zKp (by rw [show _=(rat L k).1 from h0];exact (SF.row 6 (pvs m ((rat L k).2))).st _ _ _ (hLw _ (zCf hk)) (s.up hb)) oP hm0 (hnP _ (zCf hk)) (hT.below (s.up hb))).mono (wG (zAL hb.size))))<|zD) fun a w4 s hr=> ?_
  obtain ⟨v15,e15⟩: ∃v,a.tmps.getD 15 undef=v:=⟨_,rfl⟩
  have hR15:zAR w4 _ 30 6 v15 (pns ((rat L k).2)):=e15▸(hr (_,_) mz1)
  have hR15k:=hR15.mono hbk
  replace hR15:=hR15.mono hbg
  replace s:=s.learn 15 v15 e15
  replace s:=s.drop [4]
  have hW4:W.heap.size<=w4.heap.size:=zWX hWs s.gr.size
  have hB4:=hBw.trans (s.below.mono hBw.size)
  have hJ4:J (yD L k).length (fun q=>v15.ownBlock=some q) w4:=hJs _ _ _ _ _ hJ s.below (fun q hq=> .inr (hR15k.lt q hq).1)
  replace s:=s.reb rfl [(15, .u (UF.eq v15)),(11, .u (uB (decide ((k:Int)<((rrv L).length:Int))))),(0, .u (UF.eq (.func (.yield l_) #[] #[]))),(8, .u (UF.eq l)),(9, .u (uI ((rrv L).length:Int))),(10, .u (uI (k:Int)))] (fmz ⟨.inl (.head _),fmz ⟨.inl mz1,fmz ⟨.inl mz2,fmz ⟨.inl mz3,fmz ⟨.inl mz4,fmz ⟨.inl mz5,fnz⟩⟩⟩⟩⟩⟩)
  have hv15:(SF.row 6 (pvs m ((rat L k).2))).p v15 w4:=zCm hqk _ _ hR15.row
  refine yU (UF.eq v15) rfl s kI iiz fun a w s=> ?_
  refine zA rfl ?_
  refine zWS ?_
  refine zB 3 ((16, .u (UF.eq v15))::(17, .u (uI (((pvs m ((rat L k).2)).length:Nat):Int)))::(18, .u (uI 0)):: []) hmix s kI
   (oc zC<|oc (y4 (z:=6) (Cs:=pvs m ((rat L k).2)) kI (fun v W hb h=>(yZ hv15 h (s.up hb))) (fun _=>rfl))<|oc zC<|zD) fun a w5 s=> ?_
  refine zA rfl ?_
  refine zWV ?_
  have hlzP:(pvs m ((rat L k).2)).length=(rat L k).2.length:=by simp
  have hR16:=hR15.below s.below
  have hJ5:=hJs _ _ _ _ _ hJ4 s.below (fun q hq=> .inl hq)
  have hB5:=hB4.trans (s.below.mono hB4.size)
  have hW5:W.heap.size<=w5.heap.size:=zWX hW4 s.gr.size
  replace s:=(s.keepK [(0, .u (UF.eq (.func (.yield l_) #[] #[]))),(8, .u (UF.eq l)),(9, .u (uI ((rrv L).length:Int))),(10, .u (uI (k:Int))),(4, .u (UF.eq v15)),(16, .u (UF.eq v15)),(17, .u (uI (((pvs m ((rat L k).2)).length:Nat):Int))),(18, .u (uI ((0:Nat):Int)))] (fmz ⟨mz6,fmz ⟨mz7,fmz ⟨mz8,fmz ⟨mz9,fmz ⟨mz3,fmz ⟨.head _,fmz ⟨mz1,fmz ⟨mz2,fnz⟩⟩⟩⟩⟩⟩⟩⟩)).self (qZ kI)
  refine zDR (fun j a w=>j<=(rat L k).2.length/\J ((yD L k).length+j) (fun q=>v15.ownBlock=some q) w/\Below w0.heap.size w0 w/\W.heap.size<=w.heap.size/\zAR w W.heap.size 30 6 v15 (pns ((rat L k).2))/\StS (inB [⟨1,43,wC [l],b,true⟩]) w [(0, .u (UF.eq (.func (.yield l_) #[] #[]))),(8, .u (UF.eq l)),(9, .u (uI ((rrv L).length:Int))),(10, .u (uI (k:Int))),(4, .u (UF.eq v15)),(16, .u (UF.eq v15)),(17, .u (uI (((pvs m ((rat L k).2)).length:Nat):Int))),(18, .u (uI (j:Int)))] [⟨1,43,wC [l],b,true⟩] f74.ntmps [] a w) (fun j=>(rat L k).2.length - j) 0 ⟨zW1 _,hJ5,hB5,hW5,hR16,s⟩ fun j a w ⟨hj',hJj,hBj,hWj,hRj,s⟩=> ?_
  replace s:=s.toSt (fun q ⟨x,hx,_,hr⟩=>by obtain rfl:=zWW.1 hx;cases hr) rfl
  have hT:=hTo.below hBj
  have hv15:(SF.row 6 (pvs m ((rat L k).2))).p v15 w:=zCm hqk _ _ hRj.row
  refine zWS ?_
  refine zB 1 ((19, .u (uB (decide ((j:Int)<(((pvs m ((rat L k).2)).length:Nat):Int))))):: []) hmix s kI
   (oc (zS .i64 (j:Int) (((pvs m ((rat L k).2)).length:Nat):Int) (decide ((j:Int)<(((pvs m ((rat L k).2)).length:Nat):Int))) iiz iiz rfl rfl)<|zD) fun a w6 s=> ?_
  refine zA rfl ?_
  refine zWS ?_
  refine StS.cond s (decide ((j:Int)<(((pvs m ((rat L k).2)).length:Nat):Int))) iiz (fun e=> ?_) (fun e=> ?_)
  ·have hj:j<(rat L k).2.length:=by have h7:=zWY e;rw [hlzP] at h7;omega
   have hj1:(j+1) % (rat L k).2.length<(rat L k).2.length:=Nat.mod_lt _ oP
   refine zWU ?_
   refine zWS ?_
   refine zWV ?_
   refine zWS ?_
   refine zB 3 ((20, .u (uI (j:Int)))::(21, .s (wB (CU.agg (fPV m (at_ (rat L k).2 j))).cf))::(22, .u (fPV m (at_ (rat L k).2 j))):: []) hmix s kI
    (oc zC<|oc (yJ (z:=6) (Cs:=pvs m ((rat L k).2)) (i:=j) (C:=CU.agg (fPV m (at_ (rat L k).2 j))) kI (qQ hj) (fun v W hb h=>(yZ hv15 h (s.up hb))) iiz)<|oc (zK (f:=fPV m (at_ (rat L k).2 j)) 6 kI (hz:=zO _ _))<|zD) fun a w7 s=> ?_
   refine z7 (CU.len 6) (cs:=zP6) kI rfl s kI (fun W=>rfl) rfl fun b6 a w s=> ?_
   refine yU (uI (j:Int)) rfl s kI iiz fun a w s=> ?_
   refine zR (CU.agg (fPV m (at_ (rat L k).2 j))) ((fPV m (at_ (rat L k).2 j)).tS) rfl s kI rfl rfl rfl iiz iiz y5 fun a w s=> ?_
   refine zA rfl ?_
   refine zWS ?_
   have so:=s.old;have sg:=s.gr
   refine zBy (fun i=> [].contains i) [⟨10,7,49, [.bool false, .slice none 0 0, .slice none 0 0, .bool false, .slice none 0 0, .slice none 0 0, .bool false, .slice none 0 0, .slice none 0 0, .bool false, .slice none 0 0, .slice none 0 0],wH w 49 (CU.len 12)⟩] 11 ((23, .s ((fPV m (at_ (rat L k).2 j)).tS))::(24, .s ((UF.eq v15).tS))::(25, .s ((uI (j:Int)).tS))::(26, .s ((uI ((j+1:Nat):Int)).tS))::(27, .s ((UF.eq v15).tS))::(28, .s ((uI (((pvs m ((rat L k).2)).length:Nat):Int)).tS))::(29, .s ((uI ((((j+1) % (rat L k).2.length):Nat):Int)).tS))::(30, .s (wB (CU.agg (fPV m (at_ (rat L k).2 ((j+1) % (rat L k).2.length)))).cf))::(31, .s ((fPV m (at_ (rat L k).2 ((j+1) % (rat L k).2.length))).tS))::(32, .u (fPR (fPV m (at_ (rat L k).2 j)) (fPV m (at_ (rat L k).2 ((j+1) % (rat L k).2.length)))))::(7, .s (wH w 49 (CU.len 12))):: []) hmix s (fmz ⟨⟨by show 10<11;decide,zQ9,⟨_,_,_,rfl⟩,by kernel_rfl,zBO (fun _=>rfl) rfl⟩,fnz⟩) kI
    (oc (zK (f:=fPV m (at_ (rat L k).2 j)) 6 kI (hz:=zO _ _))<|oc zC<|oc zC<|oc (yR .i64 (j:Int) 1 ((j+1:Nat):Int) iiz iiz (by have:=hnP _ (zCf hk);rw [zW4];omega))<|oc zC<|oc (y4 (z:=6) (Cs:=pvs m ((rat L k).2)) kI (fun v W hb h=>(yZ hv15 h (s.up hb))) (fun _=>rfl))<|oc (zEO .i64 ((j+1:Nat):Int) (((pvs m ((rat L k).2)).length:Nat):Int) ((((j+1) % (rat L k).2.length):Nat):Int) iiz iiz (by rw [hlzP];omega) (by rw [hlzP];exact zFO _ _))<|oc (yJ (z:=6) (Cs:=pvs m ((rat L k).2)) (i:=((j+1) % (rat L k).2.length)) (C:=CU.agg (fPV m (at_ (rat L k).2 ((j+1) % (rat L k).2.length)))) kI (qQ hj1) (fun v W hb h=>(yZ hv15 h (s.up hb))) iiz)<|oc (zK (f:=fPV m (at_ (rat L k).2 ((j+1) % (rat L k).2.length))) 6 kI (hz:=zO _ _))<|oc (qA (fun u v W (hu:(fPV m (at_ (rat L k).2 j)).p u W) (hv:(fPV m (at_ (rat L k).2 ((j+1) % (rat L k).2.length))).p v W)=>zVR hu hv))<|oc (zCG (cs:= [.bool false, .slice none 0 0, .slice none 0 0, .bool false, .slice none 0 0, .slice none 0 0, .bool false, .slice none 0 0, .slice none 0 0, .bool false, .slice none 0 0, .slice none 0 0]) kI (zBO (fun _=>rfl) rfl))<|zD) fun Q' hQ a w8 s hr hd=> ?_
   obtain ⟨b7,hB7,e7,s⟩:=s.adoptA false 7 (hr (_,_) zQ9) sg (fun y hy=> .inl (so y hy))
   refine zR (CU.agg (fPR (fPV m (at_ (rat L k).2 j)) (fPV m (at_ (rat L k).2 ((j+1) % (rat L k).2.length))))) ((fPR (fPV m (at_ (rat L k).2 j)) (fPV m (at_ (rat L k).2 ((j+1) % (rat L k).2.length)))).tS) rfl s kI rfl rfl rfl iiz iiz zBq fun a w s=> ?_
   refine zA rfl (hQ _ _ ?_)
   refine zWS ?_
   refine zWS ?_
   refine zB 6 ((33, .s (wB ((CU.agg (fPR (fPV m (at_ (rat L k).2 j)) (fPV m (at_ (rat L k).2 ((j+1) % (rat L k).2.length))))).cf.at 0)))::(34, .s ((fPV m (at_ (rat L k).2 j)).tS))::(35, .s (wB ((CU.agg (fPR (fPV m (at_ (rat L k).2 j)) (fPV m (at_ (rat L k).2 ((j+1) % (rat L k).2.length))))).cf.at 6)))::(36, .s ((fPV m (at_ (rat L k).2 ((j+1) % (rat L k).2.length))).tS))::(37, .s ((uI (yY (at_ (rat L k).2 j) (at_ (rat L k).2 ((j+1) % (rat L k).2.length)))).tS))::(38, .u (uB (decide (yY (at_ (rat L k).2 j) (at_ (rat L k).2 ((j+1) % (rat L k).2.length))>0)))):: []) hmix s kI
    (oc (zJ (C:=(CU.agg (fPR (fPV m (at_ (rat L k).2 j)) (fPV m (at_ (rat L k).2 ((j+1) % (rat L k).2.length))))).cf) 0 kI)<|oc (zP (C:=(CU.agg (fPR (fPV m (at_ (rat L k).2 j)) (fPV m (at_ (rat L k).2 ((j+1) % (rat L k).2.length))))).cf) (k:=0) 6 kI (h:=zDj))<|oc (zJ (C:=(CU.agg (fPR (fPV m (at_ (rat L k).2 j)) (fPV m (at_ (rat L k).2 ((j+1) % (rat L k).2.length))))).cf) 6 kI)<|oc (zP (C:=(CU.agg (fPR (fPV m (at_ (rat L k).2 j)) (fPV m (at_ (rat L k).2 ((j+1) % (rat L k).2.length))))).cf) (k:=6) 6 kI (h:=zDY))<|oc (zI zE zUv (fun u0 u1 W hb (h0:(fPV m (at_ (rat L k).2 j)).p u0 W) (h1:(fPV m (at_ (rat L k).2 ((j+1) % (rat L k).2.length))).p u1 W)=>zRP h0 h1 oP hm0 (hT.below (s.up hb))))<|oc (zS .i64 (yY (at_ (rat L k).2 j) (at_ (rat L k).2 ((j+1) % (rat L k).2.length))) 0 (decide (yY (at_ (rat L k).2 j) (at_ (rat L k).2 ((j+1) % (rat L k).2.length))>0)) iiz iiz rfl rfl)<|zD) fun a w9 s=> ?_
   refine zA rfl ?_
   refine StS.cond s (decide (yY (at_ (rat L k).2 j) (at_ (rat L k).2 ((j+1) % (rat L k).2.length))>0)) iiz (fun e=> ?_) (fun e=> ?_)
   ·have eS:=e
    refine zB 5 ((39, .s (wB ((CU.agg (fPR (fPV m (at_ (rat L k).2 j)) (fPV m (at_ (rat L k).2 ((j+1) % (rat L k).2.length))))).cf.at 6)))::(40, .u (fPV m (at_ (rat L k).2 ((j+1) % (rat L k).2.length))))::(41, .s (wB ((CU.agg (fPR (fPV m (at_ (rat L k).2 j)) (fPV m (at_ (rat L k).2 ((j+1) % (rat L k).2.length))))).cf.at 0)))::(42, .u (fPV m (at_ (rat L k).2 j)))::(43, .u (UF.eq (.pointer (some ⟨b7,0,none⟩)))):: []) hmix s kI
     (oc (zJ (C:=(CU.agg (fPR (fPV m (at_ (rat L k).2 j)) (fPV m (at_ (rat L k).2 ((j+1) % (rat L k).2.length))))).cf) 6 kI)<|oc (zP (C:=(CU.agg (fPR (fPV m (at_ (rat L k).2 j)) (fPV m (at_ (rat L k).2 ((j+1) % (rat L k).2.length))))).cf) (k:=6) 6 kI (h:=zDY))<|oc (zJ (C:=(CU.agg (fPR (fPV m (at_ (rat L k).2 j)) (fPV m (at_ (rat L k).2 ((j+1) % (rat L k).2.length))))).cf) 0 kI)<|oc (zP (C:=(CU.agg (fPR (fPV m (at_ (rat L k).2 j)) (fPV m (at_ (rat L k).2 ((j+1) % (rat L k).2.length))))).cf) (k:=0) 6 kI (h:=zDj))<|oc (qD (b:=b7) (o:=0) 0 kI (fun _ _ h=>h.1))<|zD) fun a w10 s=> ?_
    refine q7 (c:=7) (o:=0) (kk:=6) (CU.agg (fPR (fPV m (at_ (rat L k).2 ((j+1) % (rat L k).2.length))) (fPV m (at_ (rat L k).2 ((j+1) % (rat L k).2.length))))) ((fPV m (at_ (rat L k).2 ((j+1) % (rat L k).2.length))).tS) rfl s kI rfl rfl iiz iiz zR0 fun a w s=> ?_
    refine zAQ (UF.eq (.pointer (some ⟨b7,6,none⟩))) rfl s kI (qD (b:=b7) (o:=0) 6 kI (fun _ _ h=>h.1)) kI fun a w s=> ?_
    refine q7 (c:=7) (o:=6) (kk:=6) (CU.agg (fPR (fPV m (at_ (rat L k).2 ((j+1) % (rat L k).2.length))) (fPV m (at_ (rat L k).2 j)))) ((fPV m (at_ (rat L k).2 j)).tS) rfl s kI rfl rfl iiz iiz zRZ fun a w s=> ?_
    refine zA rfl ?_
    refine zWS ?_
    refine zB 2 ((45, .u (UF.eq (.func (.yield l_) #[] #[])))::(46, .u (fPR (fPV m (at_ (rat L k).2 ((j+1) % (rat L k).2.length))) (fPV m (at_ (rat L k).2 j)))):: []) hmix s kI
     (oc zC<|oc (zK (f:=fPR (fPV m (at_ (rat L k).2 ((j+1) % (rat L k).2.length))) (fPV m (at_ (rat L k).2 j))) 12 kI (hz:=zCl))<|zD) fun a w11 s=> ?_
    have hJ1:J ((yD L k).length+j) (fun q=>v15.ownBlock=some q) w11:=hJs _ _ _ _ _ hJj s.below (fun q hq=> .inl hq)
    have hB1:Below w0.heap.size w0 w11:=hBj.trans (s.below.mono hBj.size)
    have hRy:=hRj.below s.below
    have hws:=s.gr.size
    replace s:=s.popB
    replace s:=s.popB
    have hcx: ∀x,x∈([⟨1,43,wC [l],b,true⟩]:List Bx)->x.b<w_.heap.size/\ ¬C x.b:=fun x hx=>by obtain rfl:=zWW.1 hx;exact ⟨(zW6.1 hh).1,hCb⟩
    refine zIp rfl s iiz kI (qZ kI) hcx (hround _ _ _ _ (zPs hk hj) hJ1 (fun q hq=>hRy.lt q hq) ⟨by simp,fun i f hi=> ?_⟩) fun a w bv hr hbv s=> ?_
    ·match i,hi with
     |0,hi=>obtain rfl:=Option.some.inj hi;rw [zS2,zPL hk hj,zIc eS];exact s.at.sl 46
    have hB2:=zFl hB1 hr hw0 hC0
    have hR2:=hRy.keep (fun q hq=>hr.own q hq) hr.keep
    have hsz2:=hr.size
    have hbz:bv=false->Z w:=fun e2=>by rcases hbv with ⟨e3,_⟩|⟨_,hz⟩;rw [e2] at e3;cases e3;exact hz
    have hbj:bv=true->J ((yD L k).length+j+1) (fun q=>v15.ownBlock=some q) w:=fun e2=>by rcases hbv with ⟨_,hj⟩|⟨e3,_⟩;exact hj;rw [e2] at e3;cases e3
    replace s:=s.toSt (fun q ⟨x,hx,_,hr⟩=>by obtain rfl:=zWW.1 hx;cases hr) rfl
    refine zAQ (uB (!bv)) rfl s kI (zCQ bv iiz (fun _=>rfl)) kI fun a w s=> ?_
    refine zA rfl ?_
    refine StS.cond s (!bv) iiz (fun e=> ?_) (fun e=> ?_)
    ·have hz:=hbz (by simpa using e)
     refine zWT ?_
     exact ⟨s.nd, .tuple #[],by simp [results,results74],⟨_,rfl⟩, .inr (hZs _ _ hz s.below)⟩
    ·have hJ2:=hbj (by simpa using e)
     refine zWU ?_
     refine zY 1 ((49, .u (uI ((j+1:Nat):Int))):: []) s kI
      (oc (yR .i64 (j:Int) 1 ((j+1:Nat):Int) iiz iiz (by have:=hnP _ (zCf hk);rw [zW4];omega))<|zD) fun a w12 s=> ?_
     replace s:=s.drop [18]
     refine zAQ (uI ((j+1:Nat):Int)) rfl s kI zC kI fun a w s=> ?_
     refine zA rfl ?_
     have hsz4:=s.gr.size
     exact ⟨j+1,by show (rat L k).2.length - (j+1)<(rat L k).2.length - j;omega,hj,hJs _ _ _ _ _ hJ2 s.below (fun q hq=> .inl hq),hB2.trans (s.below.mono hB2.size),by omega,hR2.below s.below,(s.keepK _ (fmz ⟨.tail _ zI0,fmz ⟨.tail _ (.tail _ zI0),fmz ⟨.tail _ (.tail _ (.tail _ zI0)),fmz ⟨.tail _ (.tail _ (.tail _ (.tail _ zI0))),fmz ⟨.tail _ (.tail _ (.tail _ (.tail _ (.tail _ zI0)))),fmz ⟨.tail _ (.tail _ (.tail _ (.tail _ (.tail _ (.tail _ zI0))))),fmz ⟨.tail _ (.tail _ (.tail _ (.tail _ (.tail _ (.tail _ (.tail _ zI0)))))),fmz ⟨.head _,fnz⟩⟩⟩⟩⟩⟩⟩⟩)).self (qZ kI)⟩
   ·have eS:=e
    refine zWU ?_
    refine zWS ?_
    refine zB 2 ((45, .u (UF.eq (.func (.yield l_) #[] #[])))::(46, .u (fPR (fPV m (at_ (rat L k).2 j)) (fPV m (at_ (rat L k).2 ((j+1) % (rat L k).2.length))))):: []) hmix s kI
     (oc zC<|oc (zK (f:=fPR (fPV m (at_ (rat L k).2 j)) (fPV m (at_ (rat L k).2 ((j+1) % (rat L k).2.length)))) 12 kI (hz:=zCl))<|zD) fun a w13 s=> ?_
    have hJ1:J ((yD L k).length+j) (fun q=>v15.ownBlock=some q) w13:=hJs _ _ _ _ _ hJj s.below (fun q hq=> .inl hq)
    have hB1:Below w0.heap.size w0 w13:=hBj.trans (s.below.mono hBj.size)
    have hRy:=hRj.below s.below
    have hws:=s.gr.size
    replace s:=s.popB
    replace s:=s.popB
    have hcx: ∀x,x∈([⟨1,43,wC [l],b,true⟩]:List Bx)->x.b<w_.heap.size/\ ¬C x.b:=fun x hx=>by obtain rfl:=zWW.1 hx;exact ⟨(zW6.1 hh).1,hCb⟩
    refine zIp rfl s iiz kI (qZ kI) hcx (hround _ _ _ _ (zPs hk hj) hJ1 (fun q hq=>hRy.lt q hq) ⟨by simp,fun i f hi=> ?_⟩) fun a w bv hr hbv s=> ?_
    ·match i,hi with
     |0,hi=>obtain rfl:=Option.some.inj hi;rw [zS2,zPL hk hj,zId eS];exact s.at.sl 46
    have hB2:=zFl hB1 hr hw0 hC0
    have hR2:=hRy.keep (fun q hq=>hr.own q hq) hr.keep
    have hsz2:=hr.size
    have hbz:bv=false->Z w:=fun e2=>by rcases hbv with ⟨e3,_⟩|⟨_,hz⟩;rw [e2] at e3;cases e3;exact hz
    have hbj:bv=true->J ((yD L k).length+j+1) (fun q=>v15.ownBlock=some q) w:=fun e2=>by rcases hbv with ⟨_,hj⟩|⟨e3,_⟩;exact hj;rw [e2] at e3;cases e3
    replace s:=s.toSt (fun q ⟨x,hx,_,hr⟩=>by obtain rfl:=zWW.1 hx;cases hr) rfl
    refine zAQ (uB (!bv)) rfl s kI (zCQ bv iiz (fun _=>rfl)) kI fun a w s=> ?_
    refine zA rfl ?_
    refine StS.cond s (!bv) iiz (fun e=> ?_) (fun e=> ?_)
    ·have hz:=hbz (by simpa using e)
     refine zWT ?_
     exact ⟨s.nd, .tuple #[],by simp [results,results74],⟨_,rfl⟩, .inr (hZs _ _ hz s.below)⟩
    ·have hJ2:=hbj (by simpa using e)
     refine zWU ?_
     refine zY 1 ((49, .u (uI ((j+1:Nat):Int))):: []) s kI
      (oc (yR .i64 (j:Int) 1 ((j+1:Nat):Int) iiz iiz (by have:=hnP _ (zCf hk);rw [zW4];omega))<|zD) fun a w14 s=> ?_
     replace s:=s.drop [18]
     refine zAQ (uI ((j+1:Nat):Int)) rfl s kI zC kI fun a w s=> ?_
     refine zA rfl ?_
     have hsz4:=s.gr.size
     exact ⟨j+1,by show (rat L k).2.length - (j+1)<(rat L k).2.length - j;omega,hj,hJs _ _ _ _ _ hJ2 s.below (fun q hq=> .inl hq),hB2.trans (s.below.mono hB2.size),by omega,hR2.below s.below,(s.keepK _ (fmz ⟨zVF,fmz ⟨zVE,fmz ⟨zVj,fmz ⟨zI0,fmz ⟨.tail _ zI0,fmz ⟨.tail _ (.tail _ zI0),fmz ⟨.tail _ (.tail _ (.tail _ zI0)),fmz ⟨.head _,fnz⟩⟩⟩⟩⟩⟩⟩⟩)).self (qZ kI)⟩
  ·have hjN:j=(rat L k).2.length:=by have h7:=zWZ e;rw [hlzP] at h7;omega
   refine zW2 ?_
   refine zY 1 ((50, .u (uI ((k+1:Nat):Int))):: []) s kI
    (oc (yR .i64 (k:Int) 1 ((k+1:Nat):Int) iiz iiz (by rw [zW4];omega))<|zD) fun a w15 s=> ?_
   replace s:=s.drop [10]
   refine zAQ (uI ((k+1:Nat):Int)) rfl s kI zC kI fun a w s=> ?_
   refine zA rfl ?_
   have hsz4:=s.gr.size
   have hJ9:=hJs _ _ (fun _=>False) _ _ hJj s.below (fun q hq=>hq.elim)
   rw [hjN, <-zXd, <-zBY hk] at hJ9
   exact ⟨k+1,by show L.length - (k+1)<L.length - k;omega,hk,hJ9,hBj.trans (s.below.mono hBj.size),by omega,(s.keepK _ (fmz ⟨mz3,fmz ⟨mz4,fmz ⟨mz5,fmz ⟨.head _,fnz⟩⟩⟩⟩)).self (qZ kI)⟩
 ·have hkN:k=L.length:=by have h7:=zWZ e;rw [hlz] at h7;omega
  refine zW2 ?_
  exact ⟨s.nd, .tuple #[],by simp [results,results74],⟨_,rfl⟩, .inl ⟨_,by rw [zJs, <-hkN];exact hJs _ _ _ _ _ hJ s.below (fun q hq=> .inl hq)⟩⟩
end Go.Proofs.Wd

namespace Go.Proofs.Wd
open Tryz
set_option maxRecDepth 100000
set_option maxHeartbeats 1000000
open Go.RowKit Lb
section
variable {S:Nat->Prop} {w0:Wp} {K:List (Nat×KF)} {B:List Bx} {n:Nat} {ds:List Deferred} {a:Act} {w:Wp}
theorem StS.wider (h:StS S w0 K B n [] a w) (S2:Nat->Prop) (hS: ∀q,S q->S2 q) (hu:(K.all fun q=>zMP q.2)=true):StS S2 w0 K B n [] a w:=by
 have hu:=qZ hu
 refine ⟨h.gr.sub hS,h.size,h.nd,fun q hq=> ?_,wM (a:=a) B (fun x hx=> ?_) (fun _ _=>rfl) h.bx,⟨[],Marks.nil _ _⟩, .inl hu⟩
 ·obtain ⟨f,e⟩:=hu q hq
  have:=h.sl q hq
  rw [e] at this ⊢
  exact this
 ·obtain ⟨cs,_,h2,_⟩:=h.bx.mem x hx
  rcases h2 with e|e|e
  ·exact .inl e
  ·exact .inr (.inl e)
  ·exact .inr (.inr (hS _ e))
theorem vH {S':Nat->Prop} {w1:Wp} {K0:List (Nat×KF)} {B0:List Bx} {n0:Nat} {ds0:List Deferred} {a0:Act} (h0:StS S w0 K0 B0 n0 ds0 a0 w1) (h:StS S' w1 K B n [] a w) (hS: ∀q,S' q->S q∨w0.heap.size<=q) (hu:(K.all fun q=>zMP q.2)=true):StS S w0 K B n [] a w:=by
 have hu:=qZ hu
 refine ⟨⟨h.gr.os.trans h0.gr.os,h.gr.tape.trans h0.gr.tape,h.gr.output.trans h0.gr.output,zWX h0.gr.size h.gr.size,fun k hk hn=>(h.gr.block k (zW9 hk h0.gr.size) fun hh=>by
  rcases hS k hh with e|e
  ·exact hn e
  ·omega).trans (h0.gr.block k hk hn)⟩,h.size,h.nd,fun q hq=> ?_,wM (a:=a) B (fun x hx=> ?_) (fun _ _=>rfl) h.bx,⟨[],Marks.nil _ _⟩, .inl hu⟩
 ·obtain ⟨f,e⟩:=hu q hq
  have:=h.sl q hq
  rw [e] at this ⊢
  exact this
 ·obtain ⟨cs,_,h2,_⟩:=h.bx.mem x hx
  rcases h2 with e|e|e
  ·exact .inl e
  ·exact .inr (.inl (zWX h0.gr.size e))
  ·rcases hS _ e with e|e
   ·exact .inr (.inr e)
   ·exact .inr (.inl e)
end
theorem zLQ {N:Nat} {w w':Wp} (h:Oth N w w'):zFh w w':=⟨by rw [h.size];exact zW7 _,fun q o ho hc=>by
 rcases h.block q with e|⟨_,⟨o2,h2,h3⟩,_⟩
 ·exact e.trans ho
 ·rw [ho] at h2
  cases h2
  rw [hc] at h3
  cases h3⟩
theorem zGP {w:Wp} {base z:Nat} {e:Wr} {v:Wq} {Cs:List CU} (h:zAR w base e z v Cs): ∃A n c,v= .slice A n c:=by
 rcases h with ⟨rfl,_⟩|⟨g,cap,cur,rfl,_⟩<;>exact ⟨_,_,_,rfl⟩
theorem zJE {w:Wp} {base z:Nat} {e:Wr} {v:Wq} {Cs:List CU} (h:zAR w base e z v Cs) {q:Nat} (hq:v.ownBlock=some q):q<w.heap.size/\ ∃(cs:Array Wq) (t:Wr) (y:Nat×Nat),w.heap[q]?=some (.cells cs t y)/\cs.toList.all yA=true:=by
 refine ⟨(h.lt q hq).2, ?_⟩
 rcases h with ⟨rfl,_⟩|⟨g,cap,cur,rfl,h2,h3,h4,h5,h6,h7,h8⟩
 ·simp [Value.ownBlock] at hq
 ·simp [Value.ownBlock] at hq
  subst hq
  exact ⟨cur,_,_,h3,h7⟩
theorem zTV {A:Ws Addr} {n c:Nat} {C:CU} (hC: ∀cs W,C.p cs W->cs.length=1) (v:Wq) (W:Wp) (h:(UF.eq (.slice A n c)).p v W):v.cells.size=1/\(∀u,u∈v.cells.toList->u.oneCell'=true)/\v.cells.toList.all yA=true/\ ∀cs,C.p cs W->0+1<=cs.length/\(wC [.slice A n c]).p (jT cs 0 v.cells.toList) W:=by
 obtain rfl:v=_:=h
 refine ⟨rfl,fun u hu=>by simp [Value.cells] at hu;rw [hu];rfl,rfl,fun cs hc=> ?_⟩
 obtain ⟨c,rfl⟩:=List.length_eq_one_iff.1 (hC cs W hc)
 exact ⟨by simp,rfl⟩
section
variable {F:Fence} {m:Nat} {P:Program} {w0:Wp} {ops:Array Oper} {G:Nat->SF} {d:Tmp} {ty:Wr} {pos:String} {aft:Array Edge}
theorem zSC {x:Operand} {t:Wr} {v:Wq} {f:SF} (hk:zC2 P t=true) (hx: ∀u W,(fct G x).p u W->(wB (wC [v]).cf).p u W) (hf:f.p v w0) (hd: ∀u W,f.p u W->(G d).p u W:=by exact fun _ _ h=>h):qN F m P w0 ops G ⟨some d, .load t x,ty,pos,aft,none⟩:=
 qL (fun _ e=>by cases e) (fun _ e=>by cases e) fun b W hb hh=>by
  obtain ⟨a,q,cs,e,h2,h3⟩:=hx _ _ (hh x (by simp [Op.operands]))
  obtain rfl:cs= [v]:=h2
  exact ⟨_,by simp [execOp,Instr.loadAt,e,Instr.sureAddr,zA9 hk h3 (u:=v) rfl],hd _ _ (f.st _ _ _ hf hb)⟩
end
theorem zSP {cs:List Wq} (h:cs.length=12): ∃u0 u1 u2 u3 u4 u5 u6 u7 u8 u9 u10 u11,cs= [u0,u1,u2,u3,u4,u5,u6,u7,u8,u9,u10,u11]:=by
 match cs,h with
 | [u0,u1,u2,u3,u4,u5,u6,u7,u8,u9,u10,u11],_=>exact ⟨u0,u1,u2,u3,u4,u5,u6,u7,u8,u9,u10,u11,rfl⟩
theorem zVv (u0 u1 u2 u3 u4 u5 u6 u7 u8 u9 u10 u11:Wq):z5 prog 45 1 [(0, .agg #[u0,u1,u2,u3,u4,u5,u6,u7,u8,u9,u10,u11])]=some (49,#[u0,u1,u2,u3,u4,u5,u6,u7,u8,u9,u10,u11]):=by kernel_rfl
theorem zSa {f g f' g':UF} {u:Wq} {W:Wp} (h:(fPR (fPT f g) (fPT f' g')).p u W): ∃e cs,z5 prog 45 1 [(0,u)]=some (e,cs)/\(SF.row 12 [CU.agg (fPR (fPT f g) (fPT f' g'))]).p (.slice (some ⟨W.heap.size,0,none⟩) 1 1) (W.alloc (.cells cs e)):=by
 obtain ⟨a,b,rfl,h1⟩:=id h
 obtain ⟨u0,u1,u2,u3,u4,u5,u6,u7,u8,u9,u10,u11,e⟩:=zSP (zJP _ _ h).1
 rw [e] at h ⊢
 refine ⟨_,_,zVv ..,zFM (Cs:= [CU.agg (fPR (fPT f g) (fPT f' g'))]) (by simp) fun i C hi=> ?_⟩
 obtain rfl:i=0:=by have:=(zXe.1 hi).1;simp at this;omega
 obtain rfl:_=C:=by simpa using hi
 exact ⟨_,fun j u hj=>by rw [Nat.zero_mul,Nat.zero_add];exact hj,h⟩
abbrev egs (m:Nat) (es:List (V2×V2)):List CU:=es.map fun e=>CU.agg (fPR (fPV m e.1) (fPV m e.2))
theorem zOD {m:Nat} {L:RR} {k:Nat} (h:k<(zD4 L).length):egs m ((zD4 L).take (k+1))=egs m ((zD4 L).take k)++ [CU.agg (fPR (fPV m (eAt L k).1) (fPV m (eAt L k).2))]:=by
 unfold eAt
 rw [List.take_add_one,zW0 h,zXc,zW0 h]
 unfold egs
 rw [List.map_append]
 rfl
theorem zUU (f g f' g':UF): ∀C,C∈ [CU.agg (fPR (fPT f g) (fPT f' g'))]->CU.ok 12 C:=fun C hC=>by
 obtain rfl:=zWW.1 hC
 exact zJP
section
variable {S:Nat->Prop} {F:Fence} {m:Nat} {P:Program} {Q:Exit->Act->Wp->Prop} {w0:Wp} {K:List (Nat×KF)} {B:List Bx} {n:Nat} {ds:List Deferred} {a:Act} {w:Wp}
theorem zM4 {ops:Array Oper} {k d:Nat} {e:Wr} {ty:Wr} {pos:String} {aft:Array Edge} (C:CU) {cs:List Wq} (hz:zeroCells P e=some cs) (ho:ops[k]?=some ⟨some d, .alloc e,ty,pos,aft,none⟩) (h:StS S w0 K B n ds a w) (hf:j7 K B n d=true) (hx: ∀W,C.p cs W) (hn:cs.all yA=true)
  (fin: ∀b a w',w.heap.size<=b->StS S w0 K (⟨d,e,C,b,false⟩::B) n ds a w'->zA4 F m P ops Q (k+1) a w'):zA4 F m P ops Q k a w:=by
 have hrun:(Instr.alloc e true (.tuple #[])).run P w= .ok (.pointer (some ⟨w.heap.size,0,none⟩)) (w.alloc (.cells cs.toArray e (0,0))):=by
  unfold zeroCells at hz
  cases hi:P.info? e with
  |none=>rw [hi] at hz;cases hz
  | some i=>
   rw [hi] at hz
   simp only [Option.bind_some] at hz
   cases hzz:i.zero with
   |none=>rw [hzz] at hz;cases hz
   |some z=>
    rw [hzz] at hz
    simp only [Option.map_some,Option.some.injEq] at hz
    subst hz
    simp [Instr.alloc,zeroValue,typeInfo,hi,hzz,newVar,newRow]
 exact zAU ho rfl (zBJ (fun _ e=>by cases e) (fun _ e=>by cases e) (W':=w.alloc (.cells cs.toArray e (0,0))) (v:= .pointer (some ⟨w.heap.size,0,none⟩)) (by simp [execOp,hrun]) (fin _ _ _ lr (h.lay hf (hx _) hn)))
end
theorem zRm {w00 W:Wp} {m bc:Nat} {l:Wq} {L:RR} (hbW:Below w00.heap.size w00 W) (hh:W.heap[bc]?=some (.cells #[l] 43 (0,0))) (hl:(SF.row 1 (rrv L)).p l w00) (hL:RR.ok m L w00) (hm:m<=990) (hm0:0<m) (hnP: ∀x,x∈L->x.2.length<=1000000) (hnL:L.length<=1000000) (hnE:(zD4 L).length<=1000000) (hT:Tab w00):Calls prog 73 #[.slice none 0 0,(.func (.func 74) #[] #[.pointer (some ⟨bc,0,none⟩)])] W (Ret W (wI W 49 12 (egs m (zD4 L)))):=by
 refine zQq [(UF.eq (.slice none 0 0)).tS,(UF.eq (.func (.func 74) #[] #[.pointer (some ⟨bc,0,none⟩)])).tS] func73 rfl kI ⟨rfl,rfl,trivial⟩ fun a s=> ?_
 replace s:=s.renew [(0, .u (UF.eq (.slice none 0 0))),(1, .u (UF.eq (.func (.func 74) #[] #[.pointer (some ⟨bc,0,none⟩)])))] (fmz ⟨.inr ⟨_,rfl, .head _⟩,fmz ⟨.inr ⟨_,rfl,mz1⟩,fnz⟩⟩)
 refine zWS ?_
 refine zB 0 [] hmix s kI
  zD fun a w1 s=> ?_
 refine yO (wC [.slice none 0 0]) rfl s kI (fun v W h=>zI9 h rfl rfl) fun b2 a w s=> ?_
 refine yU (UF.eq (.slice none 0 0)) rfl s kI iiz fun a w s=> ?_
 refine zA rfl ?_
 refine zWS ?_
 refine zWS ?_
 refine zB 1 ((6, .u (UF.eq (.func (.func 74) #[] #[.pointer (some ⟨bc,0,none⟩)]))):: []) hmix s kI
  (oc zC<|zD) fun a w2 s=> ?_
 refine zA rfl ?_
 refine zWV ?_
 obtain ⟨cs2,hh2,hc2,_⟩:=s.boxAt (c:=2) rfl
 obtain rfl:cs2= [.slice none 0 0]:=hc2
 obtain ⟨base,hbase⟩: ∃b,b=w2.heap.size:=⟨_,rfl⟩
 have hb2:b2<base:=by rw [hbase];exact s.old _ (.head _)
 have hW2b:W.heap.size<=b2:=s.inB_new ⟨_, .head _,rfl,rfl⟩
 replace s:=s.keepK [(6, .u (UF.eq (.func (.func 74) #[] #[.pointer (some ⟨bc,0,none⟩)])))] (fmz ⟨.head _,fnz⟩)
 replace s:StS noS W _ [⟨2,45,CU.len 1,b2,false⟩] f73.ntmps _ a w2:=s.weakB 2 (CU.len 1) rfl (zCH kI) (fun cs W h=>by rw [show cs=_ from h];rfl)
 have hinB: ∀q,inB ([⟨2,45,CU.len 1,b2,false⟩]) q->q=b2:=fun q ⟨x,hx,e,_⟩=>by obtain rfl:=zWW.1 hx;exact e.symm
 have hhc:w2.heap[bc]?=some (.cells #[l] 43 (0,0)):=(s.below.block bc (zW6.1 hh).1).trans hh
 have hbcW:bc<W.heap.size:=(zW6.1 hh).1
 refine zKv (N:=(zD4 L).length) (fun k=> [⟨2,45,CU.len 1,b2,false⟩]) ([⟨2,45,CU.len 1,b2,false⟩]) (.exit 0) (fun k=> [(7, .u (fPR (fPV m (eAt L k).1) (fPV m (eAt L k).2)))]) s iiz (enters_of func74 kI rfl) (zLZ (w0:=w00) hhc hl hL (hbW.trans (s.below.mono hbW.size)) (fun q hq=>by rw [hinB q hq];omega) (fun q hq=>by have:=hbW.size;rw [hinB q hq];omega) (fun hc=>by have:=hinB _ hc;omega) hm hm0 hnP hnL hT) (X:=fun k R W'=>base<=W'.heap.size/\ ∃v,W'.heap[b2]?=some (.cells #[v] 45 (0,0))/\(∀g,v.ownBlock=some g->R g)/\zAR W' base 49 12 v (egs m ((zD4 L).take k))) (XZ:=fun _=>False) (fun k R A B hkc ⟨h1,v,h2,h3,h4⟩=>⟨zWX h1 hkc.1,v,hkc.2 _ _ h2 rfl,h3,h4.keepC hkc⟩) (fun _ _ _ h=>h) ⟨by rw [hbase];exact zW7 _,_,hh2,fun g hg=>by simp [Value.ownBlock] at hg,zAR.nil _ _ _ _⟩ (fun k=>rfl) ?_ rfl rfl rfl (fun k=>rfl) rfl (fun l_ k R xs WR hk hXk hRr hsz so s=> ?_) (fun D WD R hXN s=> ?_) (fun D WD hz s=>hz.elim)
 ·intro k q hq
  obtain rfl:=zWW.1 hq
  exact .inr ⟨0,_,rfl,rfl,rfl⟩
 ·obtain ⟨hbz,v,hv1,hv2,hv3⟩:=hXk
  replace s:=s.is1 hv1
  obtain ⟨A9,n9,c9,rfl⟩:=zGP hv3
  have hWR:b2<WR.heap.size:=zW9 hb2 hbz
  generalize ({ tmps:=_,defers:= [] }:Act)=a at s ⊢
  replace s:=s.move (fun q=>q=b2) (fun q ⟨x,hx,e,_⟩=>by obtain rfl:=zWW.1 hx;exact e.symm) kI
  have sR:=s
  refine zB 0 [] hmix s kI
   zD fun a w3 s=> ?_
  have hszR:=s.gr.size
  have h5sz:=s.gr.size
  refine zM4 (CU.len 12) (cs:= [.bool false, .slice none 0 0, .slice none 0 0, .bool false, .slice none 0 0, .slice none 0 0, .bool false, .slice none 0 0, .slice none 0 0, .bool false, .slice none 0 0, .slice none 0 0]) kI rfl s kI (fun W=>rfl) rfl fun b5 a w hb5n s=> ?_
  replace hb5n:=zWX h5sz hb5n
  refine zR (CU.agg (fPR (fPV m ((eAt L k).1)) (fPV m ((eAt L k).2)))) ((fPR (fPV m ((eAt L k).1)) (fPV m ((eAt L k).2))).tS) rfl s kI rfl rfl rfl iiz iiz zBq fun a w s=> ?_
  refine zA rfl ?_
  have hbl:=s.gr
  have hb5:WR.heap.size<=b5:=hb5n
  refine ⟨s.gr.sub (fun q hq=> .inl ⟨_, .head _,hq.symm,rfl⟩),fun W2 hkc hcell hW2=> ?_⟩
  have hKU1:jJ WR _:=zB4 (s.gr.sub (fun q hq=>⟨_, .head _,hq.symm,rfl⟩)) sR.bx
  have hg2: ∀g,Value.ownBlock (.slice A9 n9 c9)=some g->g≠b2/\g≠b5/\g<WR.heap.size:=fun g hg=>by have h1:=hv3.lt g hg;omega
  have hR1:=hv3.keep (fun g hg=>s.gr.block g (hg2 g hg).2.2 (hg2 g hg).1) hKU1
  have hR2:=hR1.keepC hkc
  have hsz2:WR.heap.size<=W2.heap.size:=zWX s.gr.size hkc.1
  replace s:=hW2 _ _ (s.wider (fun q=>inB ([⟨2,45,CU.len 1,b2,false⟩]) q∨WR.heap.size<=q∨R q) (fun q hq=> .inl ⟨_, .head _,hq.symm,rfl⟩) kI)
  have sW:=s
  replace s:=s.move (fun q=>q=b2∨q=b5) (fun q ⟨x,hx,e,_⟩=>by rcases zW3.1 hx with rfl|hx;exact .inr e.symm;obtain rfl:=zWW.1 hx;exact .inl e.symm) kI
  have sM:=s
  refine zWV ?_
  refine qM 3 ((8, .u (UF.eq (.slice A9 n9 c9)))::(9, .s ((fPR (fPV m ((eAt L k).1)) (fPV m ((eAt L k).2))).tS))::(10, .s (SF.row 12 [CU.agg (fPR (fPV m ((eAt L k).1)) (fPV m ((eAt L k).2)))])):: []) hmix s kI
   (oc (zAn (C:=(wC [.slice A9 n9 c9]).cf) kI (fun _ _ h=>h.2) zD3)<|oc (zK (f:=fPR (fPV m ((eAt L k).1)) (fPV m ((eAt L k).2))) 12 kI (hz:=zCl))<|oc (zAW (fun u W (hu:(fPR (fPV m ((eAt L k).1)) (fPV m ((eAt L k).2))).p u W)=>zSa hu))<|zD) fun a w4 s hr=> ?_
  have hKU3:jJ W2 _:=zB4 (s.gr.sub (fun q hq=>by rcases hq with hq|hq;exact ⟨_,mz1,hq.symm,rfl⟩;exact ⟨_, .head _,hq.symm,rfl⟩)) sM.bx
  have hR3:=hR2.keep (fun g hg=>s.gr.block g (zW9 (hg2 g hg).2.2 hsz2) (fun hq=>by have:=hg2 g hg;rcases hq with hq|hq<;>omega)) hKU3
  have hsz3:=s.gr.size
  replace s:=vH sW s (fun q hq=>by rcases hq with rfl|rfl;exact .inl (.inl ⟨_, .head _,rfl,rfl⟩);exact .inl (.inr (.inl hb5))) kI
  refine zRY ([CU.agg (fPR (fPV m (eAt L k).1) (fPV m (eAt L k).2))]) s (zWX hbz (zWX hsz2 hsz3)) hR3 (fun g hg=> .inl (.inr (.inr (hv2 g hg)))) rfl kI kI kI (s.val (.head _)) (hr (_,_) mz2) (zUU _ _ _ _) (by rw [zW8,List.length_take];simp;omega) (fun x hx e=>by have:=hg2 _ e;rcases zW3.1 hx with rfl|hx;exact this.2.1 rfl;obtain rfl:=zWW.1 hx;exact this.1 rfl) fun v' a w hwz hR4 hob hnb s=> ?_
  rw [<-zOD hk] at hR4
  obtain ⟨A8,n8,c8,rfl⟩:=zGP hR4
  have sA:=s
  replace s:=s.move (fun q=>q=b2∨q=b5) (fun q ⟨x,hx,e,_⟩=>by rcases zW3.1 hx with rfl|hx;exact .inr e.symm;obtain rfl:=zWW.1 hx;exact .inl e.symm) kI
  have sN:=s
  refine q7 (c:=2) (o:=0) (kk:=1) (wC [.slice A8 n8 c8]) ((UF.eq (.slice A8 n8 c8)).tS) rfl s kI rfl rfl (fun _ _ h=>h.1) iiz (zTV fun cs W h=>by rw [show cs=_ from h];rfl) fun a w s=> ?_
  refine zA rfl ?_
  have hKU5:jJ _ _:=zB4 (s.gr.sub (fun q hq=>by rcases hq with hq|hq;exact ⟨_,mz1,hq.symm,rfl⟩;exact ⟨_, .head _,hq.symm,rfl⟩)) sN.bx
  have hR5:=hR4.keep (fun g hg=>s.gr.block g (hR4.lt g hg).2 (fun hq=>by rcases hq with hq|hq;exact hnb _ mz1 (by rw [hg,hq]);exact hnb _ (.head _) (by rw [hg,hq]))) hKU5
  have hsz5:=s.gr.size
  obtain ⟨cs9,hh9,hc9,_⟩:=s.boxAt (c:=2) rfl
  obtain rfl:cs9= [.slice A8 n8 c8]:=hc9
  replace s:=vH sA s (fun q hq=>by rcases hq with rfl|rfl;exact .inl (.inl ⟨_, .head _,rfl,rfl⟩);exact .inl (.inr (.inl hb5))) kI
  replace s:=s.popB
  exact ⟨(s.keepK [] fnz).weakB 2 (CU.len 1) rfl (zCH kI) (fun cs W h=>by rw [show cs=_ from h];rfl),fun q=>Value.ownBlock (.slice A8 n8 c8)=some q,fun q hq=>by rcases hob with e|e;exact .inl (hv2 q (e.symm.trans hq));rw [e] at hq;injection hq with hq;exact .inr oP,fun q hq=>zJE hR5 hq,by omega,_,hh9,fun g hg=>hg,hR5⟩
 ·obtain ⟨hbz,v,hv1,hv2,hv3⟩:=hXN
  replace s:=s.is1 hv1
  rw [zXa lr] at hv3
  have hbW9:W.heap.size<=base:=by omega
  generalize ({ a with defers:=mark D::a.defers }:Act)=a at s ⊢
  refine zWS ?_
  refine qM 2 ((12, .s (wI W 49 12 (egs m (zD4 L))))::(4, .s (wI W 49 12 (egs m (zD4 L)))):: []) hmix s kI
   (oc (zSC (v:=v) (f:=wI W 49 12 (egs m (zD4 L))) kI (fun _ _ h=>h.2) (hv3.mono hbW9))<|oc zG<|zD) fun a w5 s hr=> ?_
  refine zA rfl ?_
  refine zWT ?_
  exact s.resM (v:=a.tmps.getD 4 undef) (fun w' _=>by simp [results,results73]) (fun w' ho=>zAR.keepC (hr (_,_) mz1) (zLQ ho))
theorem zRj {w00 W:Wp} {m bc:Nat} {l:Wq} {L:RR} (hbW:Below w00.heap.size w00 W) (hh:W.heap[bc]?=some (.cells #[l] 43 (0,0))) (hl:(SF.row 1 (rrv L)).p l w00) (hL:RR.ok m L w00) (hm:m<=990) (hm0:0<m) (hnP: ∀x,x∈L->x.2.length<=1000000) (hnL:L.length<=1000000) (hnE:(zD4 L).length<=1000000) (hT:Tab w00):Calls prog 46 #[(.func (.func 74) #[] #[.pointer (some ⟨bc,0,none⟩)])] W (Ret W (wI W 49 12 (egs m (zD4 L)))):=by
 refine yB [(UF.eq (.func (.func 74) #[] #[.pointer (some ⟨bc,0,none⟩)])).tS] func46 rfl kI ⟨rfl,trivial⟩ fun a s=> ?_
 refine zWS ?_
 refine zB 1 ((2, .u (UF.eq (.slice none 0 0))):: []) hmix s kI
  (oc zG<|zD) fun a w1 s=> ?_
 refine zA rfl ?_
 refine zWS ?_
 have hgs1:=s.gr.size
 replace s:=s.drop [2]
 refine qM 3 ((3, .s ((UF.eq (.func (.func 74) #[] #[.pointer (some ⟨bc,0,none⟩)])).tS))::(4, .s (wI w1 49 12 (egs m (zD4 L))))::(2, .s (wI w1 49 12 (egs m (zD4 L)))):: []) hmix s kI
  (oc zC<|oc (zI zE zUw (fun u0 u1 W hb (h0:u0= .slice none 0 0) h1=>by rw [show u0=_ from h0,show u1=_ from h1];exact (zRm (hbW.trans ((s.up hb).mono hbW.size)) (((s.up hb).block bc (zW6.1 hh).1).trans hh) hl hL hm hm0 hnP hnL hnE hT).mono (wG (zAL hb.size))))<|oc zG<|zD) fun a w2 s hr=> ?_
 refine zA rfl ?_
 refine zWT ?_
 exact StS.resN s (zXb _ _) rfl (by have:=hr (_,_) mz2;exact zAR.mono this hgs1)
theorem zOo {W:Wp} {m:Nat} {l:Wq} {L:RR} (hl:(SF.row 1 (rrv L)).p l W) (hL:RR.ok m L W) (hm:m<=990) (hm0:0<m) (hnP: ∀x,x∈L->x.2.length<=1000000) (hnL:L.length<=1000000) (hnE:(zD4 L).length<=1000000) (hT:Tab W):Calls prog 18 #[l] W (Ret W (wI W 49 12 (egs m (zD4 L)))):=by
 refine yB [(UF.eq l).tS] func18 rfl kI ⟨rfl,trivial⟩ fun a s=> ?_
 replace s:=s.renew [(0, .u (UF.eq l))] (fmz ⟨.inr ⟨_,rfl, .head _⟩,fnz⟩)
 refine zWS ?_
 refine zB 1 ((2, .u (UF.eq (.slice none 0 0))):: []) hmix s kI
  (oc zG<|zD) fun a w1 s=> ?_
 refine zA rfl ?_
 refine zWS ?_
 have hgs1:=s.gr.size
 replace s:=s.drop [2]
 refine qM 4 ((3, .s ((UF.eq l).tS))::(4, .s (zOu w1 74 43 (wC [l])))::(5, .s (wI w1 49 12 (egs m (zD4 L))))::(2, .s (wI w1 49 12 (egs m (zD4 L)))):: []) hmix s kI
  (oc zC<|oc (zH zE zUH (fun u0 W hb (h0:u0=l)=>by rw [show u0=l from h0];exact (zOk (zGN hl)).mono (wG (zMb hb.size))))<|oc (zH zE zUI (fun u0 W hb h0=>by obtain ⟨bc,csc,ec,hbc,hhc,hcc,hnc⟩:=h0;obtain rfl:csc= [l]:=hcc;rw [ec];exact (zRj (s.up hb) hhc hl hL hm hm0 hnP hnL hnE hT).mono (wG (zAL hb.size))))<|oc zG<|zD) fun a w2 s hr=> ?_
 refine zA rfl ?_
 refine zWT ?_
 exact StS.resN s (zXb _ _) rfl (by have:=hr (_,_) mz3;exact zAR.mono this hgs1)
end Go.Proofs.Wd

namespace Go.Proofs.Wd
open Tryz
set_option maxRecDepth 100000
set_option maxHeartbeats 1000000
open Go.RowKit Lb
def PX.big6 (x:PX):Bool:=decide (6<max (max (max x.1.n x.1.n') x.2.n) x.2.n')
def g8 (L:List PX):Bool:=(L.take 61).any PX.big6||decide (60<L.length)
theorem zSu {x:PX} (h:x.big6=false) {v:Wq} {W:Wp} (hv:x.u.p v W):(fPV 6 x.p).p v W:=by
 have h:=zWZ h
 exact zHW (fun v W h'=>zVg h' oP oP) (fun v W h'=>zVg h' oP oP) hv
theorem zUd {L:List PX} (h:g8 L=false):L.length<=60/\ ∀x,x∈L->x.big6=false:=by
 unfold g8 at h
 rw [Bool.or_eq_false_iff] at h
 have h2:=zWZ h.2
 refine ⟨by omega,fun x hx=> ?_⟩
 have h1:=List.any_eq_false.1 h.1 x (by rw [zXa oP];exact hx)
 simpa using h1
theorem zNF {L:List PX} (h: ∀x,x∈L->x.big6=false) (v:Wq) (W:Wp) (hv:(SF.row 6 (pxs L)).p v W):(SF.row 6 (pvs 6 (pps L))).p v W:=
 zHO (by simp) (fun i C D hC hD cs W hh=>by
  have hi:i<L.length:=by have:=(zXe.1 hC).1;simpa using this
  rw [zW5,zW0 hi] at hC
  rw [zW5,zW5,zW0 hi] at hD
  cases hC;cases hD
  exact zSu (h _ (List.getElem_mem hi)) hh) v W hv
theorem zSX {L:List PX} {k:Nat} {x:PX} (hk:k<=60) (hx:L[k]?=some x) (h:x.big6=true):g8 L=true:=by
 unfold g8
 rw [Bool.or_eq_true]
 left
 refine List.any_eq_true.2 ⟨x, ?_,h⟩
 have hlt:=(zXe.1 hx).1
 exact List.mem_of_getElem? (i:=k) (by rw [List.getElem?_take,if_pos oP];exact hx)
theorem zSW {L:List PX} (h: ∀j y,j<61->L[j]?=some y->PX.big6 y=false):g8 L=decide (((pxs L).length:Int)>60):=by
 unfold g8
 have:(L.take 61).any PX.big6=false:=by
  refine List.any_eq_false.2 fun x hx=> ?_
  obtain ⟨j,hj⟩:=List.getElem?_of_mem hx
  rw [List.getElem?_take] at hj
  split at hj
  ·rename_i hlt
   rw [h j x hlt hj];simp
  ·cases hj
 rw [this,Bool.false_or,zXk,zW8]
 omega
def fRR (m:Nat) (Ls:List (List V2)):SF:=⟨fun v W=> ∃L:RR,L.map (·.2)=Ls/\(SF.row 1 (rrv L)).p v W/\RR.ok m L W,fun _ _ _ ⟨L,e,h1,h2⟩ hb=>⟨L,e,(SF.row 1 _).st _ _ _ h1 hb,h2.below hb⟩⟩
theorem zL8 {L:RR} {Ls:List (List V2)} (e:L.map (·.2)=Ls):yD L L.length=Ls.flatten:=by
 subst e
 unfold yD
 rw [zXa lr,List.flatMap_def]
theorem zMC {L:RR} {Ls:List (List V2)} (e:L.map (·.2)=Ls):zD4 L=Ls.flatMap yL:=by
 subst e
 unfold zD4
 rw [List.flatMap_map]
theorem zVr (A:Ws Addr) (n c:Nat):z5 prog 43 1 [(0, .slice A n c)]=some (22,#[.slice A n c]):=by kernel_rfl
theorem zVq (A A':Ws Addr) (n n' c c':Nat):z5 prog 43 2 [(0, .slice A n c),(1, .slice A' n' c')]=some (22,#[.slice A n c, .slice A' n' c']):=by kernel_rfl
theorem zO5 {m:Nat} {W:Wp} {e:Wr} {L:RR} {Ls:List (List V2)} (eL:L.map (·.2)=Ls) (hL:RR.ok m L W) (hn:L.length<=9223372036854775807):(fRR m Ls).p (.slice (some ⟨W.heap.size,0,none⟩) L.length L.length) (W.alloc (.cells (L.map (·.1)).toArray e)):=by
 refine ⟨L,eL, ?_,hL.below (zCx W _)⟩
 have:=zFM (W:=W) (e:=e) (z:=1) (Cs:=rrv L) (cs:=L.map (·.1)) (by simpa using hn) (fun i C hi=>by
  have hlt:=(zXe.1 hi).1
  simp at hlt
  rw [zW5,zW0 hlt] at hi
  injection hi with hi
  subst hi
  refine ⟨[(L[i]).1],fun j u hj=> ?_,rfl⟩
  obtain rfl:j=0:=by have:=(zXe.1 hj).1;simp at this;omega
  rw [Nat.mul_one,Nat.add_zero,zW5,zW0 hlt]
  simpa using hj)
 simpa using this
theorem zKy {m:Nat} {u:Wq} {W:Wp} {ps:List V2} (hu:(SF.row 6 (pvs m ps)).p u W): ∃e cs,z5 prog 43 1 [(0,u)]=some (e,cs)/\(fRR m [ps]).p (.slice (some ⟨W.heap.size,0,none⟩) 1 1) (W.alloc (.cells cs e)):=by
 obtain ⟨A,c,e,h⟩:=id hu
 refine ⟨_,_,by rw [e];exact zVr _ _ _, ?_⟩
 rw [<-e]
 exact zO5 (L:= [(u,ps)]) rfl (fun x hx=>by obtain rfl:=zWW.1 hx;exact hu) (by simp)
theorem zR6 {m:Nat} {u v:Wq} {W:Wp} {ps qs:List V2} (hu:(SF.row 6 (pvs m ps)).p u W) (hv:(SF.row 6 (pvs m qs)).p v W): ∃e cs,z5 prog 43 2 [(0,u),(1,v)]=some (e,cs)/\(fRR m [ps,qs]).p (.slice (some ⟨W.heap.size,0,none⟩) 2 2) (W.alloc (.cells cs e)):=by
 obtain ⟨A,c,e,h⟩:=id hu
 obtain ⟨A',c',e',h'⟩:=id hv
 refine ⟨_,_,by rw [e,e'];exact zVq _ _ _ _ _ _, ?_⟩
 rw [<-e, <-e']
 exact zO5 (L:= [(u,ps),(v,qs)]) rfl (fun x hx=>by rcases zW3.1 hx with rfl|hx;exact hu;obtain rfl:=zWW.1 hx;exact hv) (by simp)
theorem zSI (m:Nat) (W:Wp):(fRR m []).p (.slice none 0 0) W:=⟨[],rfl,zHN 1 _,fun x hx=>by cases hx⟩
theorem zOm {m:Nat} {W:Wp} {l:Wq} {Ls:List (List V2)} (h:(fRR m Ls).p l W) (hm:m<=650) (hm0:0<m) (hn:Ls.flatten.length<=1000000) (hnL:Ls.length<=1000000) (hT:Tab W):Calls prog 24 #[l] W (Ret W (fPR (fPV (m+2) (zJ0 Ls.flatten)) (fPV (m+2) (zJ1 Ls.flatten))).tS):=by
 obtain ⟨L,e,h1,h2⟩:=h
 have:=zOn h1 h2 hm hm0 (by rw [zL8 e];exact hn) (by rw [<-e] at hnL;simpa using hnL) hT
 rw [zL8 e] at this
 exact this
theorem zEl {m:Nat} {W:Wp} {l:Wq} {Ls:List (List V2)} (h:(fRR m Ls).p l W) (hm:m<=990) (hm0:0<m) (hnP: ∀x,x∈Ls->x.length<=1000000) (hnL:Ls.length<=1000000) (hnE:(Ls.flatMap yL).length<=1000000) (hT:Tab W):Calls prog 18 #[l] W (Ret W (wI W 49 12 (egs m (Ls.flatMap yL)))):=by
 obtain ⟨L,e,h1,h2⟩:=h
 have:=zOo h1 h2 hm hm0 (fun x hx=>hnP _ (by rw [<-e];exact List.mem_map.2 ⟨x,hx,rfl⟩)) (by rw [<-e] at hnL;simpa using hnL) (by rw [zMC e];exact hnE) hT
 rw [zMC e] at this
 exact this
theorem zQS {m:Nat} {p q:V2} {v:Wq} {W:Wp} (hp:QB p.1 m/\QB p.2 m) (hq:QB q.1 m/\QB q.2 m) (h:(fPR (fPN p) (fPN q)).p v W):(fPR (fPV m p) (fPV m q)).p v W:=by
 obtain ⟨a,b,e,h1,h2⟩:=h
 exact ⟨a,b,e,zAP (p:=p) (m:=m) hp.1 hp.2 h1,zAP (p:=q) (m:=m) hq.1 hq.2 h2⟩
abbrev hfp:V2:=(((1:Int):Rat)*((((1:Int):Rat)+((0:Int):Rat)) / 2),((1:Int):Rat)*((((1:Int):Rat)+((0:Int):Rat)) / 2))
theorem zPe:QB (((1:Int):Rat)*((((1:Int):Rat)+((0:Int):Rat)) / 2)) 1:=⟨by unfold Bd BB;decide+kernel,by unfold BB;decide+kernel⟩
theorem tv1:((yY (zJ0 [T3L].flatten) (((-1:Int):Rat),((-1:Int):Rat))==0)&&(yY (zJ1 [T3L].flatten) (((3:Int):Rat),((3:Int):Rat))==0))=true:=by kernel_rfl
theorem tv2:(yY (zX T3L 1).1 (((0:Int):Rat),((2:Int):Rat))==0)=true:=by kernel_rfl
theorem tv3:(yY (yM []) (yN [])==0)=true:=by kernel_rfl
theorem tv4:inK T3L (((1:Int):Rat),((0:Int):Rat)) T3L.length=false:=by kernel_rfl
theorem tv5:inK T3L hfp T3L.length=true:=by kernel_rfl
theorem zKX {L:List PX} {W:Wp} {l:Wq} (hl:(SF.row 6 (pxs L)).p l W):Calls prog 6 #[l] W (Ret W (fB (g8 L)).tS):=by
 refine yB [SF.row 6 (pxs L)] func6 rfl kI ⟨hl,trivial⟩ fun a s=> ?_
 refine zWS ?_
 refine zB 1 ((2, .u (uB false)):: []) hmix s kI
  (oc zG<|zD) fun a w1 s=> ?_
 refine zA rfl ?_
 refine zWS ?_
 refine zWS ?_
 refine zB 1 ((3, .u (uI 0)):: []) hmix s kI
  (oc zG<|zD) fun a w2 s=> ?_
 refine zA rfl ?_
 refine zWV ?_
 refine zAx (fun k=>k<=L.length/\k<=61/\ ∀j y,j<k->L[j]?=some y->PX.big6 y=false) (fun k=> [(0, .o (SF.row 6 (pxs L))),(3, .u (uI (k:Int)))]) (fun k=>61 - k) (0:Nat) (⟨zW1 _,by omega,fun j y hj=>absurd hj (Nat.not_lt_zero _)⟩) (s.keepK _ (fmz ⟨mz2,fmz ⟨.head _,fnz⟩⟩)) fun k a w hx s=> ?_
 refine zWS ?_
 refine zWS ?_
 refine zB 8 ((4, .s ((uI (k:Int)).tS))::(5, .s (SF.row 6 (pxs L)))::(6, .s ((uI ((pxs L).length:Int)).tS))::(7, .s ((uB (decide ((k:Int)<((pxs L).length:Int)))).tS))::(8, .s ((uB (decide ((k:Int)<((pxs L).length:Int)))).tS))::(9, .s (SF.imp ((decide ((k:Int)<((pxs L).length:Int)))=true) ((uI (k:Int)).tS)))::(10, .s (SF.imp ((decide ((k:Int)<((pxs L).length:Int)))=true) ((uB (decide ((k:Int)<=60))).tS)))::(11, .u (uB ((decide ((k:Int)<((pxs L).length:Int)))&&(decide ((k:Int)<=60))))):: []) hmix s kI
  (oc zC<|oc zC<|oc (zCn (z:=6) (Cs:=pxs L) kI iiz (fun _=>rfl))<|oc (zS .i64 (k:Int) ((pxs L).length:Int) (decide ((k:Int)<((pxs L).length:Int))) iiz iiz rfl rfl)<|oc zC<|oc (zF 8 (decide ((k:Int)<((pxs L).length:Int))) kI iiz (fun e=>z4 [] ((uI (k:Int)).tS) fnz (fun _ _ h _=>h) kI zC) (fun e W h=>absurd h e))<|oc (zF 8 (decide ((k:Int)<((pxs L).length:Int))) kI iiz (fun e=>z4 [(9,(uI (k:Int)).tS)] ((uB (decide ((k:Int)<=60))).tS) (fmz ⟨fun v W h=>zQ (c:=(decide ((k:Int)<((pxs L).length:Int)))=true) (f:=(uI (k:Int)).tS) e h,fnz⟩) (fun _ _ h _=>h) kI (zS .i64 (k:Int) 60 (decide ((k:Int)<=60)) iiz iiz rfl rfl)) (fun e W h=>absurd h e))<|oc (y6 (decide ((k:Int)<((pxs L).length:Int))) iiz (fun e v W h=>zBc (zQ e h) e) (fun e v W h=>zAy h e))<|zD) fun a w3 s=> ?_
 refine zA rfl ?_
 refine StS.cond s ((decide ((k:Int)<((pxs L).length:Int)))&&(decide ((k:Int)<=60))) iiz (fun e=> ?_) (fun e=> ?_)
 ·rw [Bool.and_eq_true] at e
  have hk1:k<L.length:=by have:=zWY e.1;simp at this;omega
  have hk2:k<=60:=by have:=zWY e.2;omega
  obtain ⟨x,hxl⟩: ∃x,L[k]?=some x:=⟨_,zW0 hk1⟩
  have hx_:(pxs L)[k]?=some (PX.cu x):=by rw [zW5,hxl];rfl
  refine zWU ?_
  refine zWS ?_
  refine zWV ?_
  refine zWS ?_
  refine zB 32 ((14, .s (SF.row 6 (pxs L)))::(15, .s ((uI (k:Int)).tS))::(16, .s (wB (PX.cu x).cf))::(17, .s (wB ((PX.cu x).cf.at 0)))::(18, .s (wB ((PX.cu x).cf.at 0)))::(19, .s (wB ((PX.cu x).cf.at 1)))::(20, .s ((fSl (x.1.n)).tS))::(21, .s ((uI (x.1.n:Int)).tS))::(22, .s (SF.row 6 (pxs L)))::(23, .s ((uI (k:Int)).tS))::(24, .s (wB (PX.cu x).cf))::(25, .s (wB ((PX.cu x).cf.at 0)))::(26, .s (wB ((PX.cu x).cf.at 2)))::(27, .s ((fSl (x.1.n')).tS))::(28, .s ((uI (x.1.n':Int)).tS))::(29, .s (SF.row 6 (pxs L)))::(30, .s ((uI (k:Int)).tS))::(31, .s (wB (PX.cu x).cf))::(32, .s (wB ((PX.cu x).cf.at 3)))::(33, .s (wB ((PX.cu x).cf.at 3)))::(34, .s (wB ((PX.cu x).cf.at 4)))::(35, .s ((fSl (x.2.n)).tS))::(36, .s ((uI (x.2.n:Int)).tS))::(37, .s (SF.row 6 (pxs L)))::(38, .s ((uI (k:Int)).tS))::(39, .s (wB (PX.cu x).cf))::(40, .s (wB ((PX.cu x).cf.at 3)))::(41, .s (wB ((PX.cu x).cf.at 5)))::(42, .s ((fSl (x.2.n')).tS))::(43, .s ((uI (x.2.n':Int)).tS))::(44, .s ((uI ((max (max (max x.1.n x.1.n') x.2.n) x.2.n':Nat):Int)).tS))::(45, .u (uB (PX.big6 x))):: []) hmix s kI
   (oc zC<|oc zC<|oc (zBr (z:=6) (Cs:=pxs L) (i:=k) (C:=PX.cu x) kI hx_ iiz iiz)<|oc (zJ (C:=(PX.cu x).cf) 0 kI)<|oc (yW (C:=(PX.cu x).cf) 0 0 kI)<|oc (yW (C:=(PX.cu x).cf) 0 1 kI)<|oc (jF (C:=(PX.cu x).cf) (k:=1) kI (h:=zVA))<|oc (zDZ kI (fun v W ⟨A,c,e⟩=>⟨A,x.1.n,c,e,rfl⟩))<|oc zC<|oc zC<|oc (zBr (z:=6) (Cs:=pxs L) (i:=k) (C:=PX.cu x) kI hx_ iiz iiz)<|oc (zJ (C:=(PX.cu x).cf) 0 kI)<|oc (yW (C:=(PX.cu x).cf) 0 2 kI)<|oc (jF (C:=(PX.cu x).cf) (k:=2) kI (h:=zVz))<|oc (zDZ kI (fun v W ⟨A,c,e⟩=>⟨A,x.1.n',c,e,rfl⟩))<|oc zC<|oc zC<|oc (zBr (z:=6) (Cs:=pxs L) (i:=k) (C:=PX.cu x) kI hx_ iiz iiz)<|oc (zJ (C:=(PX.cu x).cf) 3 kI)<|oc (yW (C:=(PX.cu x).cf) 3 0 kI)<|oc (yW (C:=(PX.cu x).cf) 3 1 kI)<|oc (jF (C:=(PX.cu x).cf) (k:=4) kI (h:=zVy))<|oc (zDZ kI (fun v W ⟨A,c,e⟩=>⟨A,x.2.n,c,e,rfl⟩))<|oc zC<|oc zC<|oc (zBr (z:=6) (Cs:=pxs L) (i:=k) (C:=PX.cu x) kI hx_ iiz iiz)<|oc (zJ (C:=(PX.cu x).cf) 3 kI)<|oc (yW (C:=(PX.cu x).cf) 3 2 kI)<|oc (jF (C:=(PX.cu x).cf) (k:=5) kI (h:=zVx))<|oc (zDZ kI (fun v W ⟨A,c,e⟩=>⟨A,x.2.n',c,e,rfl⟩))<|oc (zQ1 (x.1.n) (x.1.n') (x.2.n) (x.2.n') iiz iiz iiz iiz)<|oc (zS .i64 ((max (max (max x.1.n x.1.n') x.2.n) x.2.n':Nat):Int) 6 (PX.big6 x) iiz iiz (by unfold PX.big6;show decide (((max (max (max x.1.n x.1.n') x.2.n) x.2.n':Nat):Int)>6)=_;rw [zXk];omega) rfl)<|zD) fun a w4 s=> ?_
  refine zA rfl ?_
  refine StS.cond s (PX.big6 x) iiz (fun e=> ?_) (fun e=> ?_)
  ·refine zWS ?_
   refine zB 1 ((2, .u (uB true)):: []) hmix s kI
    (oc zG<|zD) fun a w5 s=> ?_
   refine zA rfl ?_
   refine zWT ?_
   exact wD s (t:=2) rfl (fun v W h=>by rw [zSX hk2 hxl e];exact h)
  ·have hbig:=e
   refine zWU ?_
   refine zY 2 ((12, .s ((uI (k:Int)).tS))::(13, .u (uI ((k+1:Nat):Int))):: []) s kI
    (oc zC<|oc (yR .i64 (k:Int) 1 ((k+1:Nat):Int) iiz iiz (wrap64 _ _ oP oP))<|zD) fun a w6 s=> ?_
   replace s:=s.drop [3]
   refine yU (uI ((k+1:Nat):Int)) rfl s kI iiz fun a w s=> ?_
   refine zA rfl ?_
   exact ⟨k+1,⟨by omega,by omega,fun j y hj hy=>by rcases Nat.lt_or_eq_of_le (Nat.le_of_lt_succ hj) with h|h;exact hx.2.2 j y h hy;rw [h,hxl] at hy;cases hy;exact hbig⟩,(by show 61 - (k+1)<61 - k;omega),s.keepK _ (fmz ⟨mz4,fmz ⟨.head _,fnz⟩⟩)⟩
 ·have hend:L.length<=k∨k=61:=by
   rw [Bool.and_eq_false_iff] at e
   rcases e with e|e
   ·have h7:=zWZ e;simp at h7;omega
   ·have h7:=zWZ e;omega
  refine zW2 ?_
  refine zWS ?_
  refine zB 4 ((46, .s (SF.row 6 (pxs L)))::(47, .s ((uI ((pxs L).length:Int)).tS))::(48, .s ((uB (decide (((pxs L).length:Int)>60))).tS))::(2, .u (uB (decide (((pxs L).length:Int)>60)))):: []) hmix s kI
   (oc zC<|oc (zCn (z:=6) (Cs:=pxs L) kI iiz (fun _=>rfl))<|oc (zS .i64 ((pxs L).length:Int) 60 (decide (((pxs L).length:Int)>60)) iiz iiz rfl rfl)<|oc zG<|zD) fun a w7 s=> ?_
  refine zA rfl ?_
  refine zWT ?_
  exact wD s (t:=2) rfl (fun v W h=>by rw [zSW (fun j y hj hy=>hx.2.2 j y (by have:=(zXe.1 hy).1;omega) hy)];exact h)
theorem zDa {W:Wp}:Calls prog 31 #[] W (Ret W (SF.row 6 (pvs 1 T3L))):=by
 refine yB [] func31 rfl kI trivial fun a s=> ?_
 refine zWS ?_
 refine zB 1 ((0, .u (UF.eq (.slice none 0 0))):: []) hmix s kI
  (oc zG<|zD) fun a w1 s=> ?_
 refine zA rfl ?_
 refine zWS ?_
 replace s:=s.drop [0]
 refine qM 5 ((1, .s ((fPN (((0:Int):Rat),((0:Int):Rat))).tS))::(2, .s ((fPN (((2:Int):Rat),((0:Int):Rat))).tS))::(3, .s ((fPN (((0:Int):Rat),((2:Int):Rat))).tS))::(4, .s (SF.row 6 [CU.agg (fPN (((0:Int):Rat),((0:Int):Rat))),CU.agg (fPN (((2:Int):Rat),((0:Int):Rat))),CU.agg (fPN (((0:Int):Rat),((2:Int):Rat)))]))::(0, .s (SF.row 6 [CU.agg (fPN (((0:Int):Rat),((0:Int):Rat))),CU.agg (fPN (((2:Int):Rat),((0:Int):Rat))),CU.agg (fPN (((0:Int):Rat),((2:Int):Rat)))])):: []) hmix s kI
  (oc (zI zE zEZ (fun u0 u1 W hb (h0:u0= .int .i64 0) (h1:u1= .int .i64 0)=>zCg h0 h1 dB dB))<|oc (zI zE zEZ (fun u0 u1 W hb (h0:u0= .int .i64 2) (h1:u1= .int .i64 0)=>zCg h0 h1 dB dB))<|oc (zI zE zEZ (fun u0 u1 W hb (h0:u0= .int .i64 0) (h1:u1= .int .i64 2)=>zCg h0 h1 dB dB))<|oc (zG6 (fun u v q W (hu:(fPN (((0:Int):Rat),((0:Int):Rat))).p u W) (hv:(fPN (((2:Int):Rat),((0:Int):Rat))).p v W) (hq:(fPN (((0:Int):Rat),((2:Int):Rat))).p q W)=>zR8 hu hv hq))<|oc zG<|zD) fun a w2 s hr=> ?_
 refine zA rfl ?_
 refine zWT ?_
 exact StS.resN s (zXb _ _) (t:=0) rfl (zCm zTU _ _ (hr (_,_) mz4))
theorem zKj {W:Wp} (hT:Tab W):Calls prog 9 #[] W (Ret W (fB true).tS):=by
 refine yB [] func9 rfl kI trivial fun a s=> ?_
 refine zWS ?_
 refine zB 1 ((0, .u (uB false)):: []) hmix s kI
  (oc zG<|zD) fun a w1 s=> ?_
 refine zA rfl ?_
 refine zWS ?_
 refine zB 3 ((5, .s (SF.row 6 (pvs 1 T3L)))::(6, .s (fRR 1 [T3L]))::(7, .u (fPR (fPV 3 (zJ0 [T3L].flatten)) (fPV 3 (zJ1 [T3L].flatten)))):: []) hmix s kI
  (oc (zCF zE zOA (fun W hb=>zDa))<|oc (zAW (fun u W (hu:(SF.row 6 (pvs 1 T3L)).p u W)=>zKy hu))<|oc (zH zE zUQ (fun u0 W hb (h0:(fRR 1 [T3L]).p u0 W)=>zOm (m:=1) (Ls:= [T3L]) h0 dB dB dB dB (hT.below (s.up hb))))<|zD) fun a w2 s=> ?_
 refine z7 (CU.len 12) (cs:= [.bool false, .slice none 0 0, .slice none 0 0, .bool false, .slice none 0 0, .slice none 0 0, .bool false, .slice none 0 0, .slice none 0 0, .bool false, .slice none 0 0, .slice none 0 0]) kI rfl s kI (fun W=>rfl) rfl fun b1 a w s=> ?_
 refine zR (CU.agg (fPR (fPV 3 (zJ0 [T3L].flatten)) (fPV 3 (zJ1 [T3L].flatten)))) ((fPR (fPV 3 (zJ0 [T3L].flatten)) (fPV 3 (zJ1 [T3L].flatten))).tS) rfl s kI rfl rfl rfl iiz iiz zBq fun a w s=> ?_
 refine zA rfl ?_
 refine zWS ?_
 refine qM 3 ((8, .s (SF.row 6 (pvs 1 T3L)))::(9, .s (fRR 1 [T3L]))::(10, .s (wI w 49 12 (egs 1 ([T3L].flatMap yL)))):: []) hmix s kI
  (oc (zCF zE zOA (fun W hb=>zDa))<|oc (zAW (fun u W (hu:(SF.row 6 (pvs 1 T3L)).p u W)=>zKy hu))<|oc (zH zE zOB (fun u0 W hb (h0:(fRR 1 [T3L]).p u0 W)=>(zEl (m:=1) (Ls:= [T3L]) h0 dB dB (fun x hx=>by rw [zWW.1 hx];decide) dB dB (hT.below (s.up hb))).mono (wG (zAL hb.size))))<|zD) fun a w3 s hr=> ?_
 obtain ⟨v10,e10⟩: ∃v,a.tmps.getD 10 undef=v:=⟨_,rfl⟩
 have hv10:(SF.row 12 (egs 1 ([T3L].flatMap yL))).p v10 w3:=zBv _ _ (e10▸(hr (_,_) mz2))
 replace s:=s.learn 10 v10 e10
 have hb0:=s.below
 have hT0:=hT
 have hT:=hT0.below hb0
 replace s:StS _ _ _ [⟨1,52,CU.agg (fPR (fPV 3 (zJ0 [T3L].flatten)) (fPV 3 (zJ1 [T3L].flatten))),b1,true⟩] _ _ _ _:=s.freeze
 replace s:=s.reb rfl [(10, .u (UF.eq v10)),(7, .u (fPR (fPV 3 (zJ0 [T3L].flatten)) (fPV 3 (zJ1 [T3L].flatten)))),(0, .u (uB false))] (fmz ⟨.inl (.head _),fmz ⟨.inl mz1,fmz ⟨.inl mz2,fnz⟩⟩⟩)
 refine yU (UF.eq v10) rfl s kI iiz fun a w s=> ?_
 refine zA rfl ?_
 refine zWS ?_
 refine zB 4 ((12, .s ((zAj (fPR (fPV 1 (yM [])) (fPV 1 (yN []))) (uB false)).tS))::(11, .s ((zAj (fPR (fPV 1 (yM [])) (fPV 1 (yN []))) (uB false)).tS))::(13, .u (fPR (fPV 1 (yM [])) (fPV 1 (yN []))))::(14, .u (uB false)):: []) hmix s kI
  (oc (zH zE zRA (fun u0 W hb (h0:u0= .slice none 0 0)=>(zL2 (m:=1) (ps:= []) (by rw [show u0=_ from h0];exact zHN 6 _) dB dB dB (hT.below (s.up hb))).mono (wG (fun v W h=>h))))<|oc zC<|oc (zAp (A:=(fPR (fPV 1 (yM [])) (fPV 1 (yN []))).tS) (B:=(uB false).tS) iiz)<|oc (zAo (A:=(fPR (fPV 1 (yM [])) (fPV 1 (yN []))).tS) (B:=(uB false).tS) iiz)<|zD) fun a w4 s=> ?_
 refine z7 (CU.len 12) (cs:= [.bool false, .slice none 0 0, .slice none 0 0, .bool false, .slice none 0 0, .slice none 0 0, .bool false, .slice none 0 0, .slice none 0 0, .bool false, .slice none 0 0, .slice none 0 0]) kI rfl s kI (fun W=>rfl) rfl fun b3 a w s=> ?_
 refine zR (CU.agg (fPR (fPV 1 (yM [])) (fPV 1 (yN [])))) ((fPR (fPV 1 (yM [])) (fPV 1 (yN []))).tS) rfl s kI rfl rfl rfl iiz iiz zBq fun a w s=> ?_
 refine yU (uB false) rfl s kI iiz fun a w s=> ?_
 refine zA rfl ?_
 refine zWS ?_
 replace s:=s.drop [0]
 refine zB 45 ((15, .s ((fPR (fPV 3 (zJ0 [T3L].flatten)) (fPV 3 (zJ1 [T3L].flatten))).tS))::(16, .s ((fPN ((((-1):Int):Rat),(((-1):Int):Rat))).tS))::(17, .s ((fPN (((3:Int):Rat),((3:Int):Rat))).tS))::(18, .s ((fPR (fPN ((((-1):Int):Rat),(((-1):Int):Rat))) (fPN (((3:Int):Rat),((3:Int):Rat)))).tS))::(19, .s ((uB true).tS))::(20, .s ((uB true).tS))::(21, .s ((UF.eq v10).tS))::(22, .s ((uI ((egs 1 ([T3L].flatMap yL)).length:Int)).tS))::(23, .s ((uB true).tS))::(24, .s ((uB true).tS))::(25, .s ((uB true).tS))::(26, .s ((UF.eq v10).tS))::(27, .s (wB (CU.agg (fPR (fPV 1 ((zX T3L 1).1)) (fPV 1 ((zX T3L 1).2)))).cf))::(28, .s (wB ((CU.agg (fPR (fPV 1 ((zX T3L 1).1)) (fPV 1 ((zX T3L 1).2)))).cf.at 0)))::(29, .s ((fPV 1 ((zX T3L 1).1)).tS))::(30, .s ((fPN (((0:Int):Rat),((2:Int):Rat))).tS))::(31, .s ((uB true).tS))::(32, .s ((uB true).tS))::(33, .s ((uB true).tS))::(34, .s ((uB false).tS))::(35, .s ((uB true).tS))::(36, .s ((uB true).tS))::(37, .s ((uB true).tS))::(38, .s (wB ((CU.agg (fPR (fPV 1 (yM [])) (fPV 1 (yN [])))).cf.at 0)))::(39, .s ((fPV 1 (yM [])).tS))::(40, .s (wB ((CU.agg (fPR (fPV 1 (yM [])) (fPV 1 (yN [])))).cf.at 6)))::(41, .s ((fPV 1 (yN [])).tS))::(42, .s ((uB true).tS))::(43, .s ((uB true).tS))::(44, .s ((uB true).tS))::(45, .s (SF.row 6 (pvs 1 T3L)))::(46, .s ((fPN (((1:Int):Rat),((0:Int):Rat))).tS))::(47, .s ((uB false).tS))::(48, .s ((uB true).tS))::(49, .s ((uB true).tS))::(50, .s ((uB true).tS))::(51, .s (SF.row 6 (pvs 1 T3L)))::(52, .s ((fPN (((1:Int):Rat),((1:Int):Rat))).tS))::(53, .s ((fQN ((1:Int):Rat)).tS))::(54, .s ((fQN ((0:Int):Rat)).tS))::(55, .s ((fQN ((((1:Int):Rat)+((0:Int):Rat)) / 2)).tS))::(56, .s ((fPN hfp).tS))::(57, .s ((uB true).tS))::(58, .s ((uB true).tS))::(0, .u (uB true)):: []) hmix s kI
  (oc (zK (f:=fPR (fPV 3 (zJ0 [T3L].flatten)) (fPV 3 (zJ1 [T3L].flatten))) 12 kI (hz:=zCl))<|oc (zI zE zEZ (fun u0 u1 W hb (h0:u0= .int .i64 (-1)) (h1:u1= .int .i64 (-1))=>zCg h0 h1 dB dB))<|oc (zI zE zEZ (fun u0 u1 W hb (h0:u0= .int .i64 3) (h1:u1= .int .i64 3)=>zCg h0 h1 dB dB))<|oc (qA (fun u v W (hu:(fPN ((((-1):Int):Rat),(((-1):Int):Rat))).p u W) (hv:(fPN (((3:Int):Rat),((3:Int):Rat))).p v W)=>zUZ hu hv))<|oc (zI zE zUM (fun u0 u1 W hb (h0:(fPR (fPV 3 (zJ0 [T3L].flatten)) (fPV 3 (zJ1 [T3L].flatten))).p u0 W) (h1:(fPR (fPN ((((-1):Int):Rat),(((-1):Int):Rat))) (fPN (((3:Int):Rat),((3:Int):Rat)))).p u1 W)=>(zK5 (m:=3) (lo:=(zJ0 [T3L].flatten)) (hi:=(zJ1 [T3L].flatten)) (lo2:=((((-1):Int):Rat),(((-1):Int):Rat))) (hi2:=(((3:Int):Rat),((3:Int):Rat))) h0 (zQS (p:=((((-1):Int):Rat),(((-1):Int):Rat))) (q:=(((3:Int):Rat),((3:Int):Rat))) ⟨((qbz dB).mono dB),((qbz dB).mono dB)⟩ ⟨((qbz dB).mono dB),((qbz dB).mono dB)⟩ h1) dB dB).mono (wG (fun v W h=>by rw [tv1] at h;exact h))))<|oc zC<|oc (zF 20 true kI iiz (fun _=>zC) arf)<|oc (zF 20 true kI iiz (fun _=>y4 (z:=12) (Cs:=egs 1 ([T3L].flatMap yL)) kI (fun v W hb h=>(yZ hv10 h (s.up hb))) (fun _=>rfl)) arf)<|oc (zF 20 true kI iiz (fun _=>zS .i64 ((egs 1 ([T3L].flatMap yL)).length:Int) 3 true iiz iiz (by rfl) rfl) arf)<|oc (y6 true iiz (fun _ _ _ h=>h) (fun e=>by cases e))<|oc zC<|oc (zF 25 true kI iiz (fun _=>zC) arf)<|oc (zF 25 true kI iiz (fun _=>yJ (z:=12) (Cs:=egs 1 ([T3L].flatMap yL)) (i:=1) (C:=CU.agg (fPR (fPV 1 ((zX T3L 1).1)) (fPV 1 ((zX T3L 1).2)))) kI rfl (fun v W hb h=>(yZ hv10 h (s.up hb))) iiz) arf)<|oc (zF 25 true kI iiz (fun _=>zJ (C:=(CU.agg (fPR (fPV 1 ((zX T3L 1).1)) (fPV 1 ((zX T3L 1).2)))).cf) 0 kI) arf)<|oc (zF 25 true kI iiz (fun _=>zP (C:=(CU.agg (fPR (fPV 1 ((zX T3L 1).1)) (fPV 1 ((zX T3L 1).2)))).cf) (k:=0) 6 kI (h:=zDj)) arf)<|oc (zF 25 true kI iiz (fun _=>zI zE zEZ (fun u0 u1 W hb (h0:u0= .int .i64 0) (h1:u1= .int .i64 2)=>zCg h0 h1 dB dB)) arf)<|oc (zF 25 true kI iiz (fun _=>zI zE zHo (fun u0 u1 W hb (h0:(fPV 1 ((zX T3L 1).1)).p u0 W) (h1:(fPN (((0:Int):Rat),((2:Int):Rat))).p u1 W)=>(zBH (m:=1) (p:=(zX T3L 1).1) (q:=(((0:Int):Rat),((2:Int):Rat))) h0 (zAP (p:=(((0:Int):Rat),((2:Int):Rat))) (m:=1) (qbz dB) (qbz dB) h1) dB dB).mono (wG (fun v W h=>by rw [tv2] at h;exact h)))) arf)<|oc (y6 true iiz (fun _ _ _ h=>h) (fun e=>by cases e))<|oc zC<|oc (zF 33 true kI iiz (fun _=>zC) arf)<|oc (zF 33 true kI iiz (fun _=>zCQ false iiz (fun _=>rfl)) arf)<|oc (y6 true iiz (fun _ _ _ h=>h) (fun e=>by cases e))<|oc zC<|oc (zF 37 true kI iiz (fun _=>zJ (C:=(CU.agg (fPR (fPV 1 (yM [])) (fPV 1 (yN [])))).cf) 0 kI) arf)<|oc (zF 37 true kI iiz (fun _=>zP (C:=(CU.agg (fPR (fPV 1 (yM [])) (fPV 1 (yN [])))).cf) (k:=0) 6 kI (h:=zDj)) arf)<|oc (zF 37 true kI iiz (fun _=>zJ (C:=(CU.agg (fPR (fPV 1 (yM [])) (fPV 1 (yN [])))).cf) 6 kI) arf)<|oc (zF 37 true kI iiz (fun _=>zP (C:=(CU.agg (fPR (fPV 1 (yM [])) (fPV 1 (yN [])))).cf) (k:=6) 6 kI (h:=zDY)) arf)<|oc (zF 37 true kI iiz (fun _=>zI zE zHo (fun u0 u1 W hb (h0:(fPV 1 (yM [])).p u0 W) (h1:(fPV 1 (yN [])).p u1 W)=>(zBH (m:=1) (p:=yM []) (q:=yN []) h0 h1 dB dB).mono (wG (fun v W h=>by rw [tv3] at h;exact h)))) arf)<|oc (y6 true iiz (fun _ _ _ h=>h) (fun e=>by cases e))<|oc zC<|oc (zF 44 true kI iiz (fun _=>zCF zE zOA (fun W hb=>zDa)) arf)<|oc (zF 44 true kI iiz (fun _=>zI zE zEZ (fun u0 u1 W hb (h0:u0= .int .i64 1) (h1:u1= .int .i64 0)=>zCg h0 h1 dB dB)) arf)<|oc (zF 44 true kI iiz (fun _=>zI zE zTr (fun u0 u1 W hb (h0:(SF.row 6 (pvs 1 T3L)).p u0 W) (h1:(fPN (((1:Int):Rat),((0:Int):Rat))).p u1 W)=>(zSU (m:=1) (p:=(((1:Int):Rat),((0:Int):Rat))) h0 (zAP (p:=(((1:Int):Rat),((0:Int):Rat))) (m:=1) (qbz dB) (qbz dB) h1) dB dB dB (hT.below (s.up hb))).mono (wG (fun v W h=>by rw [tv4] at h;exact h)))) arf)<|oc (zF 44 true kI iiz (fun _=>zCQ false iiz (fun _=>rfl)) arf)<|oc (y6 true iiz (fun _ _ _ h=>h) (fun e=>by cases e))<|oc zC<|oc (zF 50 true kI iiz (fun _=>zCF zE zOA (fun W hb=>zDa)) arf)<|oc (zF 50 true kI iiz (fun _=>zI zE zEZ (fun u0 u1 W hb (h0:u0= .int .i64 1) (h1:u1= .int .i64 1)=>zCg h0 h1 dB dB)) arf)<|oc (zF 50 true kI iiz (fun _=>zH zE zHp (fun u0 W hb (h0:u0= .int .i64 1)=>zDX 1 h0 dB)) arf)<|oc (zF 50 true kI iiz (fun _=>zH zE zHp (fun u0 W hb (h0:u0= .int .i64 0)=>zDX 0 h0 dB)) arf)<|oc (zF 50 true kI iiz (fun _=>zI zE zUS (fun u0 u1 W hb (h0:QNp ((1:Int):Rat) u0 W) (h1:QNp ((0:Int):Rat) u1 W)=>zQH (m:=1) (wJ h0 (qbz dB)) (wJ h1 (qbz dB)) dB dB)) arf)<|oc (zF 50 true kI iiz (fun _=>zI zE zTd (fun u0 u1 W hb (h0:(fPN (((1:Int):Rat),((1:Int):Rat))).p u0 W) (h1:QNp ((((1:Int):Rat)+((0:Int):Rat)) / 2) u1 W)=>zGS (m:=1) (p:=(((1:Int):Rat),((1:Int):Rat))) (t:=((((1:Int):Rat)+((0:Int):Rat)) / 2)) (zAP (p:=(((1:Int):Rat),((1:Int):Rat))) (m:=1) (qbz dB) (qbz dB) h0) (wJ h1 zPd) ⟨qbz dB,qbz dB⟩ zPd dB)) arf)<|oc (zF 50 true kI iiz (fun _=>zI zE zTr (fun u0 u1 W hb (h0:(SF.row 6 (pvs 1 T3L)).p u0 W) (h1:(fPN hfp).p u1 W)=>(zSU (m:=1) (p:=hfp) h0 (zAP (p:=hfp) (m:=1) zPe zPe h1) dB dB dB (hT.below (s.up hb))).mono (wG (fun v W h=>by rw [tv5] at h;exact h)))) arf)<|oc (y6 true iiz (fun _ _ _ h=>h) (fun e=>by cases e))<|oc zG<|zD) fun a w5 s=> ?_
 refine zA rfl ?_
 refine zWT ?_
 exact wU s hb0 (t:=0) rfl iiz
end Go.Proofs.Wd

namespace Go.Proofs.Wd
open Tryz
set_option maxRecDepth 100000
set_option maxHeartbeats 1000000
open Go.RowKit Lb
theorem zSe (z:Nat) (W:Wp):(SF.row z []).p (.slice none 0 0) W:=⟨none,0,rfl,zW7 _,by decide,fun _=>rfl,fun i C hi=>by simp at hi⟩
theorem zF3 {F:Fence} {m:Nat} {P:Program} {w0:Wp} {ops:Array Oper} {G:Nat->SF} {d:Tmp} {ty:Wr} {pos:String} {aft:Array Edge} {f:FuncId} {x y z q:Operand} {ats:Array Wr} (hF:zGw F m P) (he:Enters P f) (h: ∀u v r s W,Below w0.heap.size w0 W->(fct G x).p u W->(fct G y).p v W->(fct G z).p r W->(fct G q).p s W->Calls P f #[u,v,r,s] W (Ret W (G d))):qN F m P w0 ops G ⟨some d, .call ⟨.value (.func f),#[x,y,z,q],ats⟩,ty,pos,aft,none⟩:=
 zDm hF he fun b W hb hh=>by simpa using h _ _ _ _ W hb (hh x (by simp)) (hh y (by simp)) (hh z (by simp)) (hh q (by simp))
def zD5 (p q:V2):Prop:= ∃m n,PB p m/\PB q n/\m+n<=81
theorem zD5.sub {p q:V2} (h:zD5 p q):QB (q.1 - p.1) 82/\QB (q.2 - p.2) 82:=by
 obtain ⟨m,n,h1,h2,h3⟩:=h
 exact ⟨(h2.1.sub h1.1).mono oP,(h2.2.sub h1.2).mono oP⟩
theorem zD5.one {p q:V2} (h:zD5 p q):QB p.1 80/\QB p.2 80:=by
 obtain ⟨m,n,h1,h2,h3⟩:=h
 exact ⟨h1.1.mono (by have:=h2.1.pos;omega),h1.2.mono (by have:=h2.1.pos;omega)⟩
theorem zD5.two {p q:V2} (h:zD5 p q):QB q.1 80/\QB q.2 80:=by
 obtain ⟨m,n,h1,h2,h3⟩:=h
 exact ⟨h2.1.mono (by have:=h1.1.pos;omega),h2.2.mono (by have:=h1.1.pos;omega)⟩
def dnm (a b c d:V2):Rat:=(b.1 - a.1)*(d.2 - c.2) - (b.2 - a.2)*(d.1 - c.1)
def tnm (a c d:V2):Rat:=(c.1 - a.1)*(d.2 - c.2) - (c.2 - a.2)*(d.1 - c.1)
def y8 (a b c d:V2):V2:=if dnm a b c d=0 then (((0:Int):Rat),((0:Int):Rat)) else seg a b (tnm a c d / dnm a b c d)
theorem zPp {a b:V2} {m:Nat} (h:zD5 a b) (hm:163<=m): ∃l:Ln,l.bd m/\ ∃s:Rat,s≠0/\ ∀p:V2,(l.A:Rat)*p.1+(l.B:Rat)*p.2+(l.C:Rat)=s*crs a b p:=by
 obtain ⟨k,n,ha,hb,hkn⟩:=h
 refine ⟨⟨-(b.2.num*a.2.den - a.2.num*b.2.den)*(a.1.den*b.1.den),(b.1.num*a.1.den - a.1.num*b.1.den)*(a.2.den*b.2.den),b.2.num*a.1.num*(b.1.den*a.2.den) - b.1.num*a.2.num*(a.1.den*b.2.den)⟩, ?_,(a.1.den:Rat)*b.1.den*(a.2.den*b.2.den), ?_,fun p=> ?_⟩
 ·have d1:=jG ha.1.2;have d2:=jG ha.2.2;have d3:=jG hb.1.2;have d4:=jG hb.2.2
  refine ⟨?_, ?_, ?_⟩
  ·exact ((((hb.2.1.mul d2).add ((ha.2.1.mul d4).neg.mono oP)).neg.mul (d1.mul d3)).mono oP)
  ·exact ((((hb.1.1.mul d1).add ((ha.1.1.mul d3).neg.mono oP)).mul (d2.mul d4)).mono oP)
  ·exact (((hb.2.1.mul ha.1.1).mul (d3.mul d2)).add ((((hb.1.1.mul ha.2.1).mul (d1.mul d4)).neg).mono oP)).mono oP
 ·have: ∀q:Rat,(q.den:Rat)≠0:=fun q h=>q.den_nz (by exact_mod_cast h)
  have h1:=this a.1;have h2:=this a.2;have h3:=this b.1;have h4:=this b.2
  intro h
  rcases zXl.1 h with h|h<;>rcases zXl.1 h with h|h<;>contradiction
 ·simp only [Rat.intCast_mul,Rat.intCast_sub,Rat.intCast_neg,Rat.intCast_natCast,zIY]
  unfold crs
  grind
theorem zN8 {a b c d:V2} (hab:zD5 a b) (hcd:zD5 c d):QB (y8 a b c d).1 327/\QB (y8 a b c d).2 327:=by
 unfold y8
 split
 ·exact ⟨QB.zero dB,QB.zero dB⟩
 ·rename_i hd
  obtain ⟨l,hl,s,hs,he⟩:=zPp hab lr
  obtain ⟨l',hl',s',hs',he'⟩:=zPp hcd lr
  have hne:a≠b:=fun e=>hd (by subst e;unfold dnm;grind)
  have h6:crs a b (seg a b (tnm a c d / dnm a b c d))=0:=by unfold crs seg;grind
  have h7:crs c d (seg a b (tnm a c d / dnm a b c d))=0:=by
   have e1:crs c d (seg a b (tnm a c d / dnm a b c d))=tnm a c d - tnm a c d / dnm a b c d*dnm a b c d:=by
    generalize tnm a c d / dnm a b c d=t
    unfold crs seg tnm dnm
    grind
   rw [e1,Rat.div_mul_cancel hd]
   grind
  have key: ∀q:V2,crs a b q=0->crs c d q≠0->PB (seg a b (tnm a c d / dnm a b c d)) 327:=fun q h1 h2=>
   zOI (l:=l) (l':=l') (q:=q) (m:=163) dB hl hl' (by unfold Ln.on;rw [he,h6];grind) (by unfold Ln.on;rw [he,h1];grind) (by unfold Ln.on;rw [he',h7];grind) (fun h=>by
    unfold Ln.on at h
    rw [he'] at h
    rcases zXl.1 h with h|h
    ·exact hs' h
    ·exact h2 h) (zTu hne l s hs he)
  by_cases h8:crs c d a=0
  ·exact key b (by unfold crs;grind) fun h9=>hd (by unfold crs at h8 h9;unfold dnm;grind)
  ·exact key a (by unfold crs;grind) h8
theorem zPM {a b c d:V2} (hab:zD5 a b) (hcd:zD5 c d):QB (dnm a b c d) 329:=((hab.sub.1.mul hcd.sub.2).sub (hab.sub.2.mul hcd.sub.1)).mono dB
theorem zOX {a c d:V2} (hac:zD5 a c) (hcd:zD5 c d):QB (tnm a c d) 329:=((hac.sub.1.mul hcd.sub.2).sub (hac.sub.2.mul hcd.sub.1)).mono dB
def zBx (a b c d:V2):Int:=if (((pns (yQ a b c d 4)).length:Int)≥2) then 2 else if (((pns (yQ a b c d 4)).length:Int)==1)=true then 1 else if ((!(decide (dnm a b c d=0))&&onS a b (y8 a b c d))&&onS c d (y8 a b c d))=true then 1 else 0
section
variable {S:Nat->Prop} {w0 w1:Wp} {K K0:List (Nat×KF)} {n n0:Nat} {ds0:List Deferred} {a a0:Act} {w:Wp}
theorem yS.thaw: ∀(B:List Bx),yS S w0 a0 w1 B->yS noS w1 a w (frz B)->yS S w0 a w B
 | [],_,_=>trivial
 |x::B,⟨⟨_,_,h2,_,_,_,h6⟩,h7⟩,⟨⟨cs,g1,_,g3,g4,g5,_⟩,g7⟩=>⟨⟨cs,g1,h2,g3,g4,g5,h6⟩,yS.thaw B h7 g7⟩
theorem StS.thaw {B:List Bx} (h0:StS S w0 K0 B n0 ds0 a0 w1) (h:St w1 K (frz B) n [] a w) (hu:(K.all fun q=>zMP q.2)=true):StS S w0 K B n [] a w:=
 ⟨h0.gr.trans h.below,h.size,h.nd,fun q hq=>by
  have h1:=h.sl q hq
  obtain ⟨f,e⟩:=qZ hu q hq
  rw [e] at h1 ⊢
  exact h1,yS.thaw B h0.bx h.bx,⟨[],Marks.nil _ _⟩, .inl (qZ hu)⟩
end
def fMT (k:Int):UF:=⟨⟨fun v _=> ∃vs:List Wq,v= .agg (Value.int .i8 k::vs).toArray/\vs.length=12/\(∀u,u∈vs->u.oneCell'=true)/\vs.all yA=true,fun _ _ _ h _=>h⟩,fun _ _ _ h _=>h⟩
theorem zI3 (k:Int) (cs:List Wq) (W:Wp) (h:(CU.agg (fMT k)).p cs W):cs.length=13:=by
 obtain ⟨vs,e,h1,_⟩:=h
 obtain rfl:cs=Value.int .i8 k::vs:=by simpa using jH e
 simp [h1]
theorem zDp (k:Int) (v:Wq) (W:Wp) (h:(fMT k).p v W): ∃vs:List Wq,v= .agg vs.toArray/\vs.length=13/\(∀u,u∈vs->u.oneCell'=true)/\vs.all yA=true/\(CU.agg (fMT k)).p vs W:=by
 obtain ⟨vs,rfl,h1,h2,h3⟩:=h
 exact ⟨_,rfl,by simp [h1],fun u hu=>by rcases zW3.1 hu with rfl|hu;rfl;exact h2 u hu,by simpa [yA] using h3,vs,rfl,h1,h2,h3⟩
theorem zF8 (k:Int) (cs:List Wq) (W:Wp) (h:(CU.agg (fMT k)).p cs W): ∃u,cs[0]?=some u/\(UF.eq (.int .i8 k)).p u W:=by
 obtain ⟨vs,e,_⟩:=h
 obtain rfl:cs=Value.int .i8 k::vs:=by simpa using jH e
 exact ⟨_,rfl,rfl⟩
theorem zVH (k:Int) (a1 a2 a3 a4 a5 a6 b1 b2 b3 b4 b5 b6:Wq):prog.built 118 [(0, .int .i8 k),(1, .agg #[a1,a2,a3,a4,a5,a6]),(2, .agg #[b1,b2,b3,b4,b5,b6])]=some #[.int .i8 k,a1,a2,a3,a4,a5,a6,b1,b2,b3,b4,b5,b6]:=by kernel_rfl
theorem zVI (a1 a2 a3 a4 a5 a6 b1 b2 b3 b4 b5 b6:Wq):prog.built 118 [(1, .agg #[a1,a2,a3,a4,a5,a6]),(2, .agg #[b1,b2,b3,b4,b5,b6])]=some #[.int .i8 0,a1,a2,a3,a4,a5,a6,b1,b2,b3,b4,b5,b6]:=by kernel_rfl
theorem zEd {f g:UF} {v:Wq} {W:Wp} (h:(fPT f g).p v W): ∃u0 u1 u2 u3 u4 u5,v= .agg #[u0,u1,u2,u3,u4,u5]/\(∀u,u∈ [u0,u1,u2,u3,u4,u5]->u.oneCell'=true)/\ [u0,u1,u2,u3,u4,u5].all yA=true:=by
 obtain ⟨vs,rfl,hl,h1,h2,_⟩:=y5 v W h
 obtain ⟨u0,u1,u2,u3,u4,u5,rfl⟩:=zSO hl
 exact ⟨u0,u1,u2,u3,u4,u5,rfl,h1,h2⟩
theorem zRG {f g f' g':UF} {k:Int} {u v:Wq} {W:Wp} (hu:(fPT f g).p u W) (hv:(fPT f' g').p v W): ∃cells,prog.built 118 [(0, .int .i8 k),(1,u),(2,v)]=some cells/\(fMT k).p (.agg cells) W:=by
 obtain ⟨a1,a2,a3,a4,a5,a6,rfl,h1,h2⟩:=zEd hu
 obtain ⟨b1,b2,b3,b4,b5,b6,rfl,h3,h4⟩:=zEd hv
 exact ⟨_,zVH .., [a1,a2,a3,a4,a5,a6]++ [b1,b2,b3,b4,b5,b6],rfl,rfl,fun u hu=>by rcases List.mem_append.1 hu with h|h;exact h1 u h;exact h3 u h,by rw [zXh,h2,h4];rfl⟩
theorem zUY {f g f' g':UF} {u v:Wq} {W:Wp} (hu:(fPT f g).p u W) (hv:(fPT f' g').p v W): ∃cells,prog.built 118 [(1,u),(2,v)]=some cells/\(fMT 0).p (.agg cells) W:=by
 obtain ⟨a1,a2,a3,a4,a5,a6,rfl,h1,h2⟩:=zEd hu
 obtain ⟨b1,b2,b3,b4,b5,b6,rfl,h3,h4⟩:=zEd hv
 exact ⟨_,zVI .., [a1,a2,a3,a4,a5,a6]++ [b1,b2,b3,b4,b5,b6],rfl,rfl,fun u hu=>by rcases List.mem_append.1 hu with h|h;exact h1 u h;exact h3 u h,by rw [zXh,h2,h4];rfl⟩
theorem zK8 {W:Wp} {u v x y:Wq} {ca cb cc cd:V2} (h1:(fPV 80 ca).p u W) (h2:(fPV 80 cb).p v W) (h3:(fPV 80 cc).p x W) (h4:(fPV 80 cd).p y W):Calls prog 106 #[u,v,x,y] W (Ret W (SF.row 6 (pns (yQ ca cb cc cd 4)))):=by
 have hq4: ∀p,p∈ [ca,cb,cc,cd]->QB p.1 80/\QB p.2 80:=fun p hp=>by
  simp only [zW3,List.not_mem_nil,or_false] at hp
  rcases hp with rfl|rfl|rfl|rfl
  ·exact zDh dB h1
  ·exact zDh dB h2
  ·exact zDh dB h3
  ·exact zDh dB h4
 refine yB [(fPV 80 ca).tS,(fPV 80 cb).tS,(fPV 80 cc).tS,(fPV 80 cd).tS] func106 rfl kI ⟨h1,h2,h3,h4,trivial⟩ fun a s=> ?_
 replace s:=s.renew [(0, .u (fPV 80 ca)),(1, .u (fPV 80 cb)),(2, .u (fPV 80 cc)),(3, .u (fPV 80 cd))] (fmz ⟨.inr ⟨_,rfl, .head _⟩,fmz ⟨.inr ⟨_,rfl,mz1⟩,fmz ⟨.inr ⟨_,rfl,mz2⟩,fmz ⟨.inr ⟨_,rfl,mz3⟩,fnz⟩⟩⟩⟩)
 refine zWS ?_
 refine zB 0 [] hmix s kI
  zD fun a w1 s=> ?_
 refine yO (CU.agg (fPV 80 ca)) rfl s kI (fun v W h=>yV h) fun b4 a w s=> ?_
 refine yO (CU.agg (fPV 80 cb)) rfl s kI (fun v W h=>yV h) fun b5 a w s=> ?_
 refine yO (CU.agg (fPV 80 cc)) rfl s kI (fun v W h=>yV h) fun b6 a w s=> ?_
 refine yO (CU.agg (fPV 80 cd)) rfl s kI (fun v W h=>yV h) fun b7 a w s=> ?_
 refine yU (UF.eq (.slice none 0 0)) rfl s kI iiz fun a w s=> ?_
 refine zA rfl ?_
 refine zWS ?_
 refine zB 1 ((9, .u (UF.eq (.slice none 0 0))):: []) hmix s kI
  (oc zG<|zD) fun a w2 s=> ?_
 refine zA rfl ?_
 refine zWS ?_
 refine qM 5 ((12, .s ((fPV 80 ca).tS))::(13, .s ((fPV 80 cb).tS))::(14, .s ((fPV 80 cc).tS))::(15, .s ((fPV 80 cd).tS))::(16, .s (SF.row 6 (pvs 80 [ca,cb,cc,cd]))):: []) hmix s kI
  (oc (zK (f:=fPV 80 ca) 6 kI (hz:=zO _ _))<|oc (zK (f:=fPV 80 cb) 6 kI (hz:=zO _ _))<|oc (zK (f:=fPV 80 cc) 6 kI (hz:=zO _ _))<|oc (zK (f:=fPV 80 cd) 6 kI (hz:=zO _ _))<|oc (zLo (fun u v r s W (hu:(fPV 80 ca).p u W) (hv:(fPV 80 cb).p v W) (hr:(fPV 80 cc).p r W) (hs:(fPV 80 cd).p s W)=>zR7 hu hv hr hs))<|zD) fun a w3 s hr=> ?_
 obtain ⟨v16,e16⟩: ∃v,a.tmps.getD 16 undef=v:=⟨_,rfl⟩
 have hv16:(SF.row 6 (pvs 80 [ca,cb,cc,cd])).p v16 w3:=e16▸(hr (_,_) mz4)
 replace s:=s.learn 16 v16 e16
 have hbX:=s.below
 replace s:StS _ _ _ [⟨7,30,CU.agg (fPV 80 cd),b7,true⟩,⟨6,30,CU.agg (fPV 80 cc),b6,true⟩,⟨5,30,CU.agg (fPV 80 cb),b5,true⟩,⟨4,30,CU.agg (fPV 80 ca),b4,true⟩] _ _ _ _:=s.freeze
 replace s:=s.reb rfl [(16, .u (UF.eq v16)),(9, .u (UF.eq (.slice none 0 0))),(8, .u (UF.eq (.slice none 0 0))),(0, .u (fPV 80 ca)),(1, .u (fPV 80 cb)),(2, .u (fPV 80 cc)),(3, .u (fPV 80 cd))] (fmz ⟨.inl (.head _),fmz ⟨.inl mz1,fmz ⟨.inl mz2,fmz ⟨.inl mz3,fmz ⟨.inl mz4,fmz ⟨.inl mz5,fmz ⟨.inl mz6,fnz⟩⟩⟩⟩⟩⟩⟩)
 refine yU (UF.eq v16) rfl s kI iiz fun a w s=> ?_
 refine zA rfl ?_
 refine zWS ?_
 refine zWS ?_
 refine zB 1 ((11, .u (uI 0)):: []) hmix s kI
  (oc zG<|zD) fun a w4 s=> ?_
 refine zA rfl ?_
 refine zWV ?_
 have hi0:(SF.row 6 (pns (yQ ca cb cc cd 0))).p (.slice none 0 0) w4:=zSe 6 _
 refine zEy (fun (p:Nat×Wq) w=>p.1<=4/\(SF.row 6 (pns (yQ ca cb cc cd p.1))).p p.2 w) (fun p=> [(10, .u (UF.eq v16)),(9, .u (UF.eq p.2)),(11, .u (uI (p.1:Int)))]) (fun p=>4 - p.1) (0, .slice none 0 0) (⟨zW1 _,hi0⟩) (s.keepK _ (fmz ⟨mz1,fmz ⟨mz3,fmz ⟨.head _,fnz⟩⟩⟩)) fun p a w hI s=> ?_
 have s0:=s
 have hv16w:=(SF.row 6 (pvs 80 [ca,cb,cc,cd])).st _ _ _ hv16 s0.below
 replace s:=s.reb rfl [(10, .u (UF.eq v16)),(9, .u (UF.eq p.2)),(11, .u (uI (p.1:Int)))] (fmz ⟨.inl (.head _),fmz ⟨.inl mz1,fmz ⟨.inl mz2,fnz⟩⟩⟩)
 refine zWS ?_
 refine zWS ?_
 refine zB 2 ((17, .s ((uI (p.1:Int)).tS))::(18, .u (uB (decide ((p.1:Int)<4)))):: []) hmix s kI
  (oc zC<|oc (zS .i64 (p.1:Int) 4 (decide ((p.1:Int)<4)) iiz iiz rfl rfl)<|zD) fun a w5 s=> ?_
 refine zA rfl ?_
 refine StS.cond s (decide ((p.1:Int)<4)) iiz (fun e=> ?_) (fun e=> ?_)
 ·have hk4:p.1<4:=by have:=zWY e;omega
  have hk:p.1<([ca,cb,cc,cd]:List V2).length:=hk4
  refine zWU ?_
  refine zWS ?_
  refine zWV ?_
  refine zWS ?_
  refine zB 16 ((21, .s ((fPV 80 ca).tS))::(22, .s ((fPV 80 cb).tS))::(23, .s ((UF.eq v16).tS))::(24, .s ((uI (p.1:Int)).tS))::(25, .s (wB (CU.agg (fPV 80 (at_ [ca,cb,cc,cd] p.1))).cf))::(26, .s ((fPV 80 (at_ [ca,cb,cc,cd] p.1)).tS))::(27, .s ((uB (onS ca cb (at_ [ca,cb,cc,cd] p.1))).tS))::(28, .s ((uB (onS ca cb (at_ [ca,cb,cc,cd] p.1))).tS))::(29, .s (SF.imp ((onS ca cb (at_ [ca,cb,cc,cd] p.1))=true) ((fPV 80 cc).tS)))::(30, .s (SF.imp ((onS ca cb (at_ [ca,cb,cc,cd] p.1))=true) ((fPV 80 cd).tS)))::(31, .s (SF.imp ((onS ca cb (at_ [ca,cb,cc,cd] p.1))=true) ((UF.eq v16).tS)))::(32, .s (SF.imp ((onS ca cb (at_ [ca,cb,cc,cd] p.1))=true) ((uI (p.1:Int)).tS)))::(33, .s (SF.imp ((onS ca cb (at_ [ca,cb,cc,cd] p.1))=true) (wB (CU.agg (fPV 80 (at_ [ca,cb,cc,cd] p.1))).cf)))::(34, .s (SF.imp ((onS ca cb (at_ [ca,cb,cc,cd] p.1))=true) ((fPV 80 (at_ [ca,cb,cc,cd] p.1)).tS)))::(35, .s (SF.imp ((onS ca cb (at_ [ca,cb,cc,cd] p.1))=true) ((uB (onS cc cd (at_ [ca,cb,cc,cd] p.1))).tS)))::(36, .u (uB ((onS ca cb (at_ [ca,cb,cc,cd] p.1))&&(onS cc cd (at_ [ca,cb,cc,cd] p.1))))):: []) hmix s kI
   (oc (zK (f:=fPV 80 ca) 6 kI (hz:=zO _ _))<|oc (zK (f:=fPV 80 cb) 6 kI (hz:=zO _ _))<|oc zC<|oc zC<|oc (yJ (z:=6) (Cs:=pvs 80 ([ca,cb,cc,cd])) (i:=p.1) (C:=CU.agg (fPV 80 (at_ [ca,cb,cc,cd] p.1))) kI (qQ hk) (fun v W hb h=>(yZ hv16w h (s.up hb))) iiz)<|oc (zK (f:=fPV 80 (at_ [ca,cb,cc,cd] p.1)) 6 kI (hz:=zO _ _))<|oc (zBd zE zJg (fun u0 u1 u2 W hb (h0:(fPV 80 ca).p u0 W) (h1:(fPV 80 cb).p u1 W) (h2:(fPV 80 (at_ [ca,cb,cc,cd] p.1)).p u2 W)=>zFU (m:=80) (M:=80) h0 h1 h2 dB dB dB dB))<|oc zC<|oc (zF 28 (onS ca cb (at_ [ca,cb,cc,cd] p.1)) kI iiz (fun e=>z4 [] ((fPV 80 cc).tS) fnz (fun _ _ h _=>h) kI (zK (f:=fPV 80 cc) 6 kI (hz:=zO _ _))) (fun e W h=>absurd h e))<|oc (zF 28 (onS ca cb (at_ [ca,cb,cc,cd] p.1)) kI iiz (fun e=>z4 [] ((fPV 80 cd).tS) fnz (fun _ _ h _=>h) kI (zK (f:=fPV 80 cd) 6 kI (hz:=zO _ _))) (fun e W h=>absurd h e))<|oc (zF 28 (onS ca cb (at_ [ca,cb,cc,cd] p.1)) kI iiz (fun e=>z4 [] ((UF.eq v16).tS) fnz (fun _ _ h _=>h) kI zC) (fun e W h=>absurd h e))<|oc (zF 28 (onS ca cb (at_ [ca,cb,cc,cd] p.1)) kI iiz (fun e=>z4 [] ((uI (p.1:Int)).tS) fnz (fun _ _ h _=>h) kI zC) (fun e W h=>absurd h e))<|oc (zF 28 (onS ca cb (at_ [ca,cb,cc,cd] p.1)) kI iiz (fun e=>z4 [(31,(UF.eq v16).tS),(32,(uI (p.1:Int)).tS)] (wB (CU.agg (fPV 80 (at_ [ca,cb,cc,cd] p.1))).cf) (fmz ⟨fun v W h=>zQ (c:=(onS ca cb (at_ [ca,cb,cc,cd] p.1))=true) (f:=(UF.eq v16).tS) e h,fmz ⟨fun v W h=>zQ (c:=(onS ca cb (at_ [ca,cb,cc,cd] p.1))=true) (f:=(uI (p.1:Int)).tS) e h,fnz⟩⟩) (fun _ _ h _=>h) kI (yJ (z:=6) (Cs:=pvs 80 ([ca,cb,cc,cd])) (i:=p.1) (C:=CU.agg (fPV 80 (at_ [ca,cb,cc,cd] p.1))) kI (qQ hk) (fun v W hb h=>(yZ hv16w h (s.up hb))) iiz)) (fun e W h=>absurd h e))<|oc (zF 28 (onS ca cb (at_ [ca,cb,cc,cd] p.1)) kI iiz (fun e=>z4 [(33,wB (CU.agg (fPV 80 (at_ [ca,cb,cc,cd] p.1))).cf)] ((fPV 80 (at_ [ca,cb,cc,cd] p.1)).tS) (fmz ⟨fun v W h=>zQ (c:=(onS ca cb (at_ [ca,cb,cc,cd] p.1))=true) (f:=wB (CU.agg (fPV 80 (at_ [ca,cb,cc,cd] p.1))).cf) e h,fnz⟩) (fun _ _ h _=>h) kI (zK (f:=fPV 80 (at_ [ca,cb,cc,cd] p.1)) 6 kI (hz:=zO _ _))) (fun e W h=>absurd h e))<|oc (zF 28 (onS ca cb (at_ [ca,cb,cc,cd] p.1)) kI iiz (fun e=>z4 [(29,(fPV 80 cc).tS),(30,(fPV 80 cd).tS),(34,(fPV 80 (at_ [ca,cb,cc,cd] p.1)).tS)] ((uB (onS cc cd (at_ [ca,cb,cc,cd] p.1))).tS) (fmz ⟨fun v W h=>zQ (c:=(onS ca cb (at_ [ca,cb,cc,cd] p.1))=true) (f:=(fPV 80 cc).tS) e h,fmz ⟨fun v W h=>zQ (c:=(onS ca cb (at_ [ca,cb,cc,cd] p.1))=true) (f:=(fPV 80 cd).tS) e h,fmz ⟨fun v W h=>zQ (c:=(onS ca cb (at_ [ca,cb,cc,cd] p.1))=true) (f:=(fPV 80 (at_ [ca,cb,cc,cd] p.1)).tS) e h,fnz⟩⟩⟩) (fun _ _ h _=>h) kI (zBd zE zJg (fun u0 u1 u2 W hb (h0:(fPV 80 cc).p u0 W) (h1:(fPV 80 cd).p u1 W) (h2:(fPV 80 (at_ [ca,cb,cc,cd] p.1)).p u2 W)=>zFU (m:=80) (M:=80) h0 h1 h2 dB dB dB dB))) (fun e W h=>absurd h e))<|oc (y6 (onS ca cb (at_ [ca,cb,cc,cd] p.1)) iiz (fun e v W h=>zBc (zQ e h) e) (fun e v W h=>zAy h e))<|zD) fun a w6 s=> ?_
  refine zA rfl ?_
  refine StS.cond s ((onS ca cb (at_ [ca,cb,cc,cd] p.1))&&(onS cc cd (at_ [ca,cb,cc,cd] p.1))) iiz (fun e=> ?_) (fun e=> ?_)
  ·refine zCU 6 ((37, .s ((UF.eq p.2).tS))::(38, .s ((UF.eq v16).tS))::(39, .s ((uI (p.1:Int)).tS))::(40, .s (wB (CU.agg (fPV 80 (at_ [ca,cb,cc,cd] p.1))).cf))::(41, .s ((fPV 80 (at_ [ca,cb,cc,cd] p.1)).tS))::(42, .s (SF.row 6 (pns (zFX (yQ ca cb cc cd p.1) (at_ [ca,cb,cc,cd] p.1))))):: []) s kI
    (oc zC<|oc zC<|oc zC<|oc (yJ (z:=6) (Cs:=pvs 80 ([ca,cb,cc,cd])) (i:=p.1) (C:=CU.agg (fPV 80 (at_ [ca,cb,cc,cd] p.1))) kI (qQ hk) (fun v W hb h=>(yZ hv16w h (s.up hb))) iiz)<|oc (zK (f:=fPV 80 (at_ [ca,cb,cc,cd] p.1)) 6 kI (hz:=zO _ _))<|oc (zI zE zTk (fun u0 u1 W hb (h0:u0=p.2) (h1:(fPV 80 (at_ [ca,cb,cc,cd] p.1)).p u1 W)=>zND (m:=80) (L:=yQ ca cb cc cd p.1) (p:=(at_ [ca,cb,cc,cd] p.1)) (yZ hI.2 h0 (s.up hb)) h1 (zJe hq4 p.1 oP) dB dB (by have:=zEY ca cb cc cd p.1;omega)))<|zD) fun a w7 s hr=> ?_
   obtain ⟨v42,e42⟩: ∃v,a.tmps.getD 42 undef=v:=⟨_,rfl⟩
   have hv42:(SF.row 6 (pns (zFX (yQ ca cb cc cd p.1) (at_ [ca,cb,cc,cd] p.1)))).p v42 w7:=e42▸(hr (_,_) mz5)
   replace s:=s.learn 42 v42 e42
   replace s:=s.keepK [(42, .u (UF.eq v42)),(36, .u (uB ((onS ca cb (at_ [ca,cb,cc,cd] p.1))&&(onS cc cd (at_ [ca,cb,cc,cd] p.1))))),(18, .u (uB (decide ((p.1:Int)<4)))),(10, .u (UF.eq v16)),(9, .u (UF.eq p.2)),(11, .u (uI (p.1:Int)))] (fmz ⟨.head _,fmz ⟨mz1,fmz ⟨mz2,fmz ⟨mz3,fmz ⟨mz4,fmz ⟨mz5,fnz⟩⟩⟩⟩⟩⟩)
   have s1:=s0.back s rfl
   replace s:StS _ _ _ [⟨7,30,CU.agg (fPV 80 cd),b7,true⟩,⟨6,30,CU.agg (fPV 80 cc),b6,true⟩,⟨5,30,CU.agg (fPV 80 cb),b5,true⟩,⟨4,30,CU.agg (fPV 80 ca),b4,true⟩] _ _ _ _:=s.freeze
   replace s:=s.reb rfl [(42, .u (UF.eq v42)),(36, .u (uB ((onS ca cb (at_ [ca,cb,cc,cd] p.1))&&(onS cc cd (at_ [ca,cb,cc,cd] p.1))))),(18, .u (uB (decide ((p.1:Int)<4)))),(10, .u (UF.eq v16)),(9, .u (UF.eq p.2)),(11, .u (uI (p.1:Int)))] (fmz ⟨.inl (.head _),fmz ⟨.inl mz1,fmz ⟨.inl mz2,fmz ⟨.inl mz3,fmz ⟨.inl mz4,fmz ⟨.inl mz5,fnz⟩⟩⟩⟩⟩⟩)
   replace s:=s.drop [9]
   refine yU (UF.eq v42) rfl s kI iiz fun a w s=> ?_
   refine zA rfl ?_
   refine zY 2 ((19, .s ((uI (p.1:Int)).tS))::(20, .u (uI ((p.1+1:Nat):Int))):: []) s kI
    (oc zC<|oc (yR .i64 (p.1:Int) 1 ((p.1+1:Nat):Int) iiz iiz (wrap64 _ _ oP oP))<|zD) fun a w8 s=> ?_
   replace s:=s.drop [11]
   refine yU (uI ((p.1+1:Nat):Int)) rfl s kI iiz fun a w s=> ?_
   refine zA rfl ?_
   have hbw:=s.below
   replace s:=s1.back (s.keepK [(11, .u (uI ((p.1+1:Nat):Int))),(20, .u (uI ((p.1+1:Nat):Int))),(9, .u (UF.eq v42)),(42, .u (UF.eq v42)),(36, .u (uB ((onS ca cb (at_ [ca,cb,cc,cd] p.1))&&(onS cc cd (at_ [ca,cb,cc,cd] p.1))))),(18, .u (uB (decide ((p.1:Int)<4)))),(10, .u (UF.eq v16))] (fmz ⟨.head _,fmz ⟨mz1,fmz ⟨mz2,fmz ⟨mz3,fmz ⟨mz4,fmz ⟨mz5,fmz ⟨mz6,fnz⟩⟩⟩⟩⟩⟩⟩)) rfl
   exact ⟨(p.1+1,v42),(by show 4 - (p.1+1)<4 - p.1;omega),⟨hk4,by show (SF.row 6 (pns (yQ ca cb cc cd (p.1+1)))).p v42 _;rw [zRt e];exact (SF.row 6 _).st _ _ _ hv42 hbw⟩,s.keepK _ (fmz ⟨mz6,fmz ⟨mz2,fmz ⟨.head _,fnz⟩⟩⟩)⟩
  ·refine zWU ?_
   refine zY 2 ((19, .s ((uI (p.1:Int)).tS))::(20, .u (uI ((p.1+1:Nat):Int))):: []) s kI
    (oc zC<|oc (yR .i64 (p.1:Int) 1 ((p.1+1:Nat):Int) iiz iiz (wrap64 _ _ oP oP))<|zD) fun a w9 s=> ?_
   replace s:=s.drop [11]
   refine yU (uI ((p.1+1:Nat):Int)) rfl s kI iiz fun a w s=> ?_
   refine zA rfl ?_
   have hbw:=s.below
   replace s:=s0.back (s.keepK [(11, .u (uI ((p.1+1:Nat):Int))),(20, .u (uI ((p.1+1:Nat):Int))),(36, .u (uB ((onS ca cb (at_ [ca,cb,cc,cd] p.1))&&(onS cc cd (at_ [ca,cb,cc,cd] p.1))))),(18, .u (uB (decide ((p.1:Int)<4)))),(10, .u (UF.eq v16)),(9, .u (UF.eq p.2))] (fmz ⟨.head _,fmz ⟨mz1,fmz ⟨mz2,fmz ⟨mz3,fmz ⟨mz4,fmz ⟨mz5,fnz⟩⟩⟩⟩⟩⟩)) rfl
   exact ⟨(p.1+1,p.2),(by show 4 - (p.1+1)<4 - p.1;omega),⟨hk4,by show (SF.row 6 (pns (yQ ca cb cc cd (p.1+1)))).p p.2 _;rw [zRu e];exact (SF.row 6 _).st _ _ _ hI.2 hbw⟩,s.keepK _ (fmz ⟨mz4,fmz ⟨mz5,fmz ⟨.head _,fnz⟩⟩⟩)⟩
 ·have hk:p.1=4:=by have h7:=zWZ e;have h8:=hI.1;omega
  refine zW2 ?_
  refine zWS ?_
  refine zB 2 ((43, .s ((UF.eq p.2).tS))::(8, .u (UF.eq p.2)):: []) hmix s kI
   (oc zC<|oc zG<|zD) fun a w10 s=> ?_
  refine zA rfl ?_
  refine zWT ?_
  exact StS.resN s (hbX.trans (s0.below.mono hbX.size)) rfl (by rw [s.val (.head _)];have:=(SF.row 6 _).st _ _ _ hI.2 s.below;rw [hk] at this;exact this)
theorem zJN {W:Wp} {u v x y:Wq} {ca cb cc cd:V2} (h1:(fPV 80 ca).p u W) (h2:(fPV 80 cb).p v W) (h3:(fPV 80 cc).p x W) (h4:(fPV 80 cd).p y W) (hab:zD5 ca cb) (hcd:zD5 cc cd) (hac:zD5 ca cc):Calls prog 107 #[u,v,x,y] W (Ret W (zAj (fPV 327 (y8 ca cb cc cd)) (fB (!(decide ((dnm ca cb cc cd)=0))))).tS):=by
 have hql:QB (y8 ca cb cc cd).1 327/\QB (y8 ca cb cc cd).2 327:=zN8 hab hcd
 have hqt:QB ((tnm ca cc cd) / (dnm ca cb cc cd)) 658:=((zOX hac hcd).div (zPM hab hcd)).mono dB
 refine yB [(fPV 80 ca).tS,(fPV 80 cb).tS,(fPV 80 cc).tS,(fPV 80 cd).tS] func107 rfl kI ⟨h1,h2,h3,h4,trivial⟩ fun a s=> ?_
 refine zWS ?_
 refine zB 0 [] hmix s kI
  zD fun a w1 s=> ?_
 refine yO (CU.agg (fPV 80 ca)) rfl s kI (fun v W h=>yV h) fun b4 a w s=> ?_
 refine yO (CU.agg (fPV 80 cb)) rfl s kI (fun v W h=>yV h) fun b5 a w s=> ?_
 refine yO (CU.agg (fPV 80 cc)) rfl s kI (fun v W h=>yV h) fun b6 a w s=> ?_
 refine yO (CU.agg (fPV 80 cd)) rfl s kI (fun v W h=>yV h) fun b7 a w s=> ?_
 refine z7 (CU.len 6) (cs:=zP6) kI rfl s kI (fun W=>rfl) rfl fun b8 a w s=> ?_
 refine yU (uB false) rfl s kI iiz fun a w s=> ?_
 refine zA rfl ?_
 refine zWS ?_
 have so:=s.old;have sg:=s.gr
 refine zBy (fun i=> [].contains i) [⟨6,10,30, [.bool false, .slice none 0 0, .slice none 0 0, .bool false, .slice none 0 0, .slice none 0 0],wH w 30 (CU.len 6)⟩,⟨7,11,30, [.bool false, .slice none 0 0, .slice none 0 0, .bool false, .slice none 0 0, .slice none 0 0],wH w 30 (CU.len 6)⟩] 8 ((15, .s ((fPV 80 cb).tS))::(16, .s ((fPV 80 ca).tS))::(17, .u (fPN ((cb).1 - (ca).1,(cb).2 - (ca).2)))::(18, .s ((fPV 80 cd).tS))::(19, .s ((fPV 80 cc).tS))::(20, .u (fPN ((cd).1 - (cc).1,(cd).2 - (cc).2)))::(10, .s (wH w 30 (CU.len 6)))::(11, .s (wH w 30 (CU.len 6))):: []) hmix s (fmz ⟨⟨by show 6<8;decide,mz6,⟨_,_,_,rfl⟩,by kernel_rfl,zBO (fun _=>rfl) rfl⟩,fmz ⟨⟨by show 7<8;decide,mz7,⟨_,_,_,rfl⟩,by kernel_rfl,zBO (fun _=>rfl) rfl⟩,fnz⟩⟩) kI
  (oc (zK (f:=fPV 80 cb) 6 kI (hz:=zO _ _))<|oc (zK (f:=fPV 80 ca) 6 kI (hz:=zO _ _))<|oc (zI zE zFe (fun u0 u1 W hb (h0:(fPV 80 cb).p u0 W) (h1:(fPV 80 ca).p u1 W)=>zBM (m:=80) (p:=cb) (q:=ca) h0 h1 dB dB))<|oc (zK (f:=fPV 80 cd) 6 kI (hz:=zO _ _))<|oc (zK (f:=fPV 80 cc) 6 kI (hz:=zO _ _))<|oc (zI zE zFe (fun u0 u1 W hb (h0:(fPV 80 cd).p u0 W) (h1:(fPV 80 cc).p u1 W)=>zBM (m:=80) (p:=cd) (q:=cc) h0 h1 dB dB))<|oc (zCG (cs:=zP6) kI (zBO (fun _=>rfl) rfl))<|oc (zCG (cs:=zP6) kI (zBO (fun _=>rfl) rfl))<|zD) fun Q' hQ a w2 s hr hd=> ?_
 obtain ⟨b10,hB10,e10,s⟩:=s.adoptA false 10 (hr (_,_) mz6) sg (fun y hy=> .inl (so y hy))
 obtain ⟨b11,hB11,e11,s⟩:=s.adoptA false 11 (hr (_,_) mz7) sg (fun y hy=>by rcases zW3.1 hy with rfl|hy;exact .inr (.inr fun b hb=>hd _ _ (.head _) mz1 (by show 6≠7;decide) _ _ e10 hb);exact .inl (so y hy))
 refine zR (CU.agg (fPN ((cb).1 - (ca).1,(cb).2 - (ca).2))) ((fPN ((cb).1 - (ca).1,(cb).2 - (ca).2)).tS) rfl s kI rfl rfl rfl iiz iiz y5 fun a w s=> ?_
 refine zR (CU.agg (fPN ((cd).1 - (cc).1,(cd).2 - (cc).2))) ((fPN ((cd).1 - (cc).1,(cd).2 - (cc).2)).tS) rfl s kI rfl rfl rfl iiz iiz y5 fun a w s=> ?_
 refine zA rfl (hQ _ _ ?_)
 refine zWS ?_
 refine zB 3 ((21, .s ((fPN ((cb).1 - (ca).1,(cb).2 - (ca).2)).tS))::(22, .s ((fPN ((cd).1 - (cc).1,(cd).2 - (cc).2)).tS))::(23, .u (fQN (dnm ca cb cc cd))):: []) hmix s kI
  (oc (zK (f:=fPN ((cb).1 - (ca).1,(cb).2 - (ca).2)) 6 kI (hz:=zO _ _))<|oc (zK (f:=fPN ((cd).1 - (cc).1,(cd).2 - (cc).2)) 6 kI (hz:=zO _ _))<|oc (zI zE zOv (fun u0 u1 W hb (h0:(fPN ((cb).1 - (ca).1,(cb).2 - (ca).2)).p u0 W) (h1:(fPN ((cd).1 - (cc).1,(cd).2 - (cc).2)).p u1 W)=>zEG (m:=82) (p:=((cb).1 - (ca).1,(cb).2 - (ca).2)) (q:=((cd).1 - (cc).1,(cd).2 - (cc).2)) (zAP (p:=((cb).1 - (ca).1,(cb).2 - (ca).2)) (m:=82) (hab.sub.1.mono (by first|omega|decide)) (hab.sub.2.mono (by first|omega|decide)) h0) (zAP (p:=((cd).1 - (cc).1,(cd).2 - (cc).2)) (m:=82) (hcd.sub.1.mono (by first|omega|decide)) (hcd.sub.2.mono (by first|omega|decide)) h1) hab.sub hcd.sub dB dB))<|zD) fun a w3 s=> ?_
 refine z7 (CU.len 3) (cs:=zR3) kI rfl s kI (fun W=>rfl) rfl fun b12 a w s=> ?_
 refine zR (CU.agg (fQN (dnm ca cb cc cd))) ((fQN (dnm ca cb cc cd)).tS) rfl s kI rfl rfl rfl iiz iiz yP fun a w s=> ?_
 refine zA rfl ?_
 refine zWS ?_
 have so:=s.old;have sg:=s.gr
 refine zBy (fun i=> [9].contains i) [⟨10,13,28, [.bool false, .slice none 0 0, .slice none 0 0],wH w 28 (CU.len 3)⟩] 11 ((25, .s ((fPV 80 cc).tS))::(26, .s ((fPV 80 ca).tS))::(27, .s ((fPN ((cc).1 - (ca).1,(cc).2 - (ca).2)).tS))::(28, .s ((fPN ((cd).1 - (cc).1,(cd).2 - (cc).2)).tS))::(29, .s ((fQN (tnm ca cc cd)).tS))::(30, .s ((fQN (dnm ca cb cc cd)).tS))::(31, .s ((zAj (fQN ((tnm ca cc cd) / (dnm ca cb cc cd))) (uI (if (dnm ca cb cc cd)=0 then 30 else 0))).tS))::(24, .s ((zAj (fQN ((tnm ca cc cd) / (dnm ca cb cc cd))) (uI (if (dnm ca cb cc cd)=0 then 30 else 0))).tS))::(32, .u (fQN ((tnm ca cc cd) / (dnm ca cb cc cd))))::(33, .u (uI (if (dnm ca cb cc cd)=0 then 30 else 0)))::(13, .s (wH w 28 (CU.len 3))):: []) hmix s (fmz ⟨⟨by show 10<11;decide,zQ9,⟨_,_,_,rfl⟩,by kernel_rfl,zBO (fun _=>rfl) rfl⟩,fnz⟩) kI
  (oc (zK (f:=fPV 80 cc) 6 kI (hz:=zO _ _))<|oc (zK (f:=fPV 80 ca) 6 kI (hz:=zO _ _))<|oc (zI zE zFe (fun u0 u1 W hb (h0:(fPV 80 cc).p u0 W) (h1:(fPV 80 ca).p u1 W)=>zBM (m:=80) (p:=cc) (q:=ca) h0 h1 dB dB))<|oc (zK (f:=fPN ((cd).1 - (cc).1,(cd).2 - (cc).2)) 6 kI (hz:=zO _ _))<|oc (zI zE zOv (fun u0 u1 W hb (h0:(fPN ((cc).1 - (ca).1,(cc).2 - (ca).2)).p u0 W) (h1:(fPN ((cd).1 - (cc).1,(cd).2 - (cc).2)).p u1 W)=>zEG (m:=82) (p:=((cc).1 - (ca).1,(cc).2 - (ca).2)) (q:=((cd).1 - (cc).1,(cd).2 - (cc).2)) (zAP (p:=((cc).1 - (ca).1,(cc).2 - (ca).2)) (m:=82) (hac.sub.1.mono (by first|omega|decide)) (hac.sub.2.mono (by first|omega|decide)) h0) (zAP (p:=((cd).1 - (cc).1,(cd).2 - (cc).2)) (m:=82) (hcd.sub.1.mono (by first|omega|decide)) (hcd.sub.2.mono (by first|omega|decide)) h1) hac.sub hcd.sub dB dB))<|oc (zK (f:=fQN (dnm ca cb cc cd)) 3 kI (hz:=jE _))<|oc (zI zE zTb (fun u0 u1 W hb (h0:QNp (tnm ca cc cd) u0 W) (h1:QNp (dnm ca cb cc cd) u1 W)=>zKZ (m:=329) (wJ h0 (zOX hac hcd)) (wJ h1 (zPM hab hcd)) dB dB))<|oc zC<|oc (zAp (A:=(fQN ((tnm ca cc cd) / (dnm ca cb cc cd))).tS) (B:=(uI (if (dnm ca cb cc cd)=0 then 30 else 0)).tS) iiz)<|oc (zAo (A:=(fQN ((tnm ca cc cd) / (dnm ca cb cc cd))).tS) (B:=(uI (if (dnm ca cb cc cd)=0 then 30 else 0)).tS) iiz)<|oc (zCG (cs:=zR3) kI (zBO (fun _=>rfl) rfl))<|zD) fun Q' hQ a w4 s hr hd=> ?_
 obtain ⟨b13,hB13,e13,s⟩:=s.adoptA false 13 (hr (_,_) zQ9) sg (fun y hy=> .inl (so y hy))
 refine zR (CU.agg (fQN ((tnm ca cc cd) / (dnm ca cb cc cd)))) ((fQN ((tnm ca cc cd) / (dnm ca cb cc cd))).tS) rfl s kI rfl rfl rfl iiz iiz yP fun a w s=> ?_
 refine yU (uI (if (dnm ca cb cc cd)=0 then 30 else 0)) rfl s kI iiz fun a w s=> ?_
 refine zA rfl (hQ _ _ ?_)
 refine zWS ?_
 refine zWS ?_
 refine zB 2 ((34, .s ((uI (if (dnm ca cb cc cd)=0 then 30 else 0)).tS))::(35, .u (uB (decide ((dnm ca cb cc cd)=0)))):: []) hmix s kI
  (oc zC<|oc (zS .i64 (if (dnm ca cb cc cd)=0 then 30 else 0) 0 (decide ((dnm ca cb cc cd)=0)) iiz iiz (by show ((if (dnm ca cb cc cd)=0 then (30:Int) else 0) !=0)=_;by_cases h:(dnm ca cb cc cd)=0;(rw [if_pos h,decide_eq_true h];rfl);(rw [if_neg h,zXj h];rfl)) rfl)<|zD) fun a w5 s=> ?_
 refine zA rfl ?_
 refine StS.cond s (decide ((dnm ca cb cc cd)=0)) iiz (fun e=> ?_) (fun e=> ?_)
 ·have h00:=zWY e
  refine zWS ?_
  replace s:=s.drop [9]
  refine zB 1 ((36, .u (fPV 327 (y8 ca cb cc cd))):: []) hmix s kI
   (oc (zI zE zEZ (fun u0 u1 W hb (h0:u0= .int .i64 0) (h1:u1= .int .i64 0)=>(zCg h0 h1 dB dB).mono (wG (fun v W h=>zAP (p:=(y8 ca cb cc cd)) (m:=327) hql.1 hql.2 (by unfold y8;rw [if_pos h00];exact h)))))<|zD) fun a w6 s=> ?_
  refine zR (CU.agg (fPV 327 (y8 ca cb cc cd))) ((fPV 327 (y8 ca cb cc cd)).tS) rfl s kI rfl rfl rfl iiz iiz y5 fun a w s=> ?_
  refine yU (uB false) rfl s kI iiz fun a w s=> ?_
  refine zA rfl ?_
  refine zWT ?_
  exact wR s (CU.agg (fPV 327 (y8 ca cb cc cd))) rfl kI rfl rfl (zO _ _) (fun cs v W h1 h2=>⟨_,_,rfl,h1,by rw [e];exact h2⟩)
 ·have h00:=zWZ e
  refine zWU ?_
  refine zWS ?_
  replace s:=s.drop [9]
  refine zB 4 ((37, .s ((fPV 80 ca).tS))::(38, .s ((fPV 80 cb).tS))::(39, .s ((fQN ((tnm ca cc cd) / (dnm ca cb cc cd))).tS))::(40, .u (fPV 327 (y8 ca cb cc cd))):: []) hmix s kI
   (oc (zK (f:=fPV 80 ca) 6 kI (hz:=zO _ _))<|oc (zK (f:=fPV 80 cb) 6 kI (hz:=zO _ _))<|oc (zK (f:=fQN ((tnm ca cc cd) / (dnm ca cb cc cd))) 3 kI (hz:=jE _))<|oc (zBd zE zUT (fun u0 u1 u2 W hb (h0:(fPV 80 ca).p u0 W) (h1:(fPV 80 cb).p u1 W) (h2:QNp ((tnm ca cc cd) / (dnm ca cb cc cd)) u2 W)=>(zSk (m:=80) (k:=658) 821 (p:=ca) (q:=cb) (t:=(tnm ca cc cd) / (dnm ca cb cc cd)) h0 h1 (wJ h2 hqt) hab.one hab.two hqt dB dB dB).mono (wG (fun v W h=>zAP (p:=(y8 ca cb cc cd)) (m:=327) hql.1 hql.2 (by unfold y8;rw [if_neg h00];exact h)))))<|zD) fun a w7 s=> ?_
  refine zR (CU.agg (fPV 327 (y8 ca cb cc cd))) ((fPV 327 (y8 ca cb cc cd)).tS) rfl s kI rfl rfl rfl iiz iiz y5 fun a w s=> ?_
  refine yU (uB true) rfl s kI iiz fun a w s=> ?_
  refine zA rfl ?_
  refine zWT ?_
  exact wR s (CU.agg (fPV 327 (y8 ca cb cc cd))) rfl kI rfl rfl (zO _ _) (fun cs v W h1 h2=>⟨_,_,rfl,h1,by rw [e];exact h2⟩)
theorem zK7 {W:Wp} {u v x y:Wq} {ca cb cc cd:V2} (h1:(fPV 80 ca).p u W) (h2:(fPV 80 cb).p v W) (h3:(fPV 80 cc).p x W) (h4:(fPV 80 cd).p y W) (hab:zD5 ca cb) (hcd:zD5 cc cd) (hac:zD5 ca cc):Calls prog 87 #[u,v,x,y] W (Ret W (fMT (zBx ca cb cc cd)).tS):=by
 refine yB [(fPV 80 ca).tS,(fPV 80 cb).tS,(fPV 80 cc).tS,(fPV 80 cd).tS] func87 rfl kI ⟨h1,h2,h3,h4,trivial⟩ fun a s=> ?_
 replace s:=s.renew [(0, .u (fPV 80 ca)),(1, .u (fPV 80 cb)),(2, .u (fPV 80 cc)),(3, .u (fPV 80 cd))] (fmz ⟨.inr ⟨_,rfl, .head _⟩,fmz ⟨.inr ⟨_,rfl,mz1⟩,fmz ⟨.inr ⟨_,rfl,mz2⟩,fmz ⟨.inr ⟨_,rfl,mz3⟩,fnz⟩⟩⟩⟩)
 refine zWS ?_
 refine zB 0 [] hmix s kI
  zD fun a w1 s=> ?_
 refine yO (CU.agg (fPV 80 ca)) rfl s kI (fun v W h=>yV h) fun b4 a w s=> ?_
 refine yO (CU.agg (fPV 80 cb)) rfl s kI (fun v W h=>yV h) fun b5 a w s=> ?_
 refine yO (CU.agg (fPV 80 cc)) rfl s kI (fun v W h=>yV h) fun b6 a w s=> ?_
 refine yO (CU.agg (fPV 80 cd)) rfl s kI (fun v W h=>yV h) fun b7 a w s=> ?_
 refine z7 (CU.len 13) (cs:= [.int .i8 0, .bool false, .slice none 0 0, .slice none 0 0, .bool false, .slice none 0 0, .slice none 0 0, .bool false, .slice none 0 0, .slice none 0 0, .bool false, .slice none 0 0, .slice none 0 0]) kI rfl s kI (fun W=>rfl) rfl fun b8 a w s=> ?_
 refine zA rfl ?_
 refine zWS ?_
 refine qM 5 ((12, .s ((fPV 80 ca).tS))::(13, .s ((fPV 80 cb).tS))::(14, .s ((fPV 80 cc).tS))::(15, .s ((fPV 80 cd).tS))::(16, .s (SF.row 6 (pns (yQ ca cb cc cd 4)))):: []) hmix s kI
  (oc (zK (f:=fPV 80 ca) 6 kI (hz:=zO _ _))<|oc (zK (f:=fPV 80 cb) 6 kI (hz:=zO _ _))<|oc (zK (f:=fPV 80 cc) 6 kI (hz:=zO _ _))<|oc (zK (f:=fPV 80 cd) 6 kI (hz:=zO _ _))<|oc (zF3 zE zTp (fun u0 u1 u2 u3 W hb (h0:(fPV 80 ca).p u0 W) (h1:(fPV 80 cb).p u1 W) (h2:(fPV 80 cc).p u2 W) (h3:(fPV 80 cd).p u3 W)=>zK8 h0 h1 h2 h3))<|zD) fun a w2 s hr=> ?_
 obtain ⟨v16,e16⟩: ∃v,a.tmps.getD 16 undef=v:=⟨_,rfl⟩
 have hv16:(SF.row 6 (pns (yQ ca cb cc cd 4))).p v16 w2:=e16▸(hr (_,_) mz4)
 replace s:=s.learn 16 v16 e16
 replace s:=s.keepK [(16, .u (UF.eq v16)),(0, .u (fPV 80 ca)),(1, .u (fPV 80 cb)),(2, .u (fPV 80 cc)),(3, .u (fPV 80 cd))] (fmz ⟨.head _,fmz ⟨mz1,fmz ⟨mz2,fmz ⟨mz3,fmz ⟨mz4,fnz⟩⟩⟩⟩⟩)
 have s1:=s
 replace s:StS _ _ _ [⟨8,118,CU.len 13,b8,true⟩,⟨7,30,CU.agg (fPV 80 cd),b7,true⟩,⟨6,30,CU.agg (fPV 80 cc),b6,true⟩,⟨5,30,CU.agg (fPV 80 cb),b5,true⟩,⟨4,30,CU.agg (fPV 80 ca),b4,true⟩] _ _ _ _:=s.freeze
 replace s:=s.reb rfl [(16, .u (UF.eq v16)),(0, .u (fPV 80 ca)),(1, .u (fPV 80 cb)),(2, .u (fPV 80 cc)),(3, .u (fPV 80 cd))] (fmz ⟨.inl (.head _),fmz ⟨.inl mz1,fmz ⟨.inl mz2,fmz ⟨.inl mz3,fmz ⟨.inl mz4,fnz⟩⟩⟩⟩⟩)
 refine zOZ (UF.eq v16) rfl s kI iiz fun a s=> ?_
 refine zA rfl ?_
 refine zWS ?_
 refine zWS ?_
 refine zB 3 ((17, .s ((UF.eq v16).tS))::(18, .s ((uI ((pns (yQ ca cb cc cd 4)).length:Int)).tS))::(19, .u (uB (decide (((pns (yQ ca cb cc cd 4)).length:Int)≥2)))):: []) hmix s kI
  (oc zC<|oc (y4 (z:=6) (Cs:=pns (yQ ca cb cc cd 4)) kI (fun v W hb h=>(yZ hv16 h (s.up hb))) (fun _=>rfl))<|oc (zS .i64 ((pns (yQ ca cb cc cd 4)).length:Int) 2 (decide (((pns (yQ ca cb cc cd 4)).length:Int)≥2)) iiz iiz rfl rfl)<|zD) fun a w3 s=> ?_
 refine zA rfl ?_
 refine StS.cond s (decide (((pns (yQ ca cb cc cd 4)).length:Int)≥2)) iiz (fun e=> ?_) (fun e=> ?_)
 ·have hlen:0<(yQ ca cb cc cd 4).length:=by have:=zWY e;simp at this;omega
  have hk:zBx ca cb cc cd=2:=if_pos (zWY e)
  refine zWS ?_
  refine z9 [0,3,4] 10 ((20, .s ((UF.eq v16).tS))::(21, .s (wB (CU.agg (fPN (at_ (yQ ca cb cc cd 4) 0))).cf))::(22, .s ((fPN (at_ (yQ ca cb cc cd 4) 0)).tS))::(23, .s ((UF.eq v16).tS))::(24, .s ((UF.eq v16).tS))::(25, .s ((uI ((pns (yQ ca cb cc cd 4)).length:Int)).tS))::(26, .s ((uI (((yQ ca cb cc cd 4).length - 1:Nat):Int)).tS))::(27, .s (wB (CU.agg (fPN (at_ (yQ ca cb cc cd 4) ((yQ ca cb cc cd 4).length - 1)))).cf))::(28, .s ((fPN (at_ (yQ ca cb cc cd 4) ((yQ ca cb cc cd 4).length - 1))).tS))::(29, .u (fMT 2)):: []) hmix s kI
   (oc zC<|oc (yJ (z:=6) (Cs:=pns (yQ ca cb cc cd 4)) (i:=0) (C:=CU.agg (fPN (at_ (yQ ca cb cc cd 4) 0))) kI (zCW (show 0<(yQ ca cb cc cd 4).length by have hx:=hlen;omega)) (fun v W hb h=>(yZ hv16 h (s.up hb))) iiz)<|oc (zK (f:=fPN (at_ (yQ ca cb cc cd 4) 0)) 6 kI (hz:=zO _ _))<|oc zC<|oc zC<|oc (y4 (z:=6) (Cs:=pns (yQ ca cb cc cd 4)) kI (fun v W hb h=>(yZ hv16 h (s.up hb))) (fun _=>rfl))<|oc (zDN .i64 ((pns (yQ ca cb cc cd 4)).length:Int) 1 (((yQ ca cb cc cd 4).length - 1:Nat):Int) iiz iiz (by have:=zEY ca cb cc cd 4;simp only [zW8];rw [zW4];omega))<|oc (yJ (z:=6) (Cs:=pns (yQ ca cb cc cd 4)) (i:=((yQ ca cb cc cd 4).length - 1)) (C:=CU.agg (fPN (at_ (yQ ca cb cc cd 4) ((yQ ca cb cc cd 4).length - 1)))) kI (zCW (show ((yQ ca cb cc cd 4).length - 1)<(yQ ca cb cc cd 4).length by have hx:=hlen;omega)) (fun v W hb h=>(yZ hv16 h (s.up hb))) iiz)<|oc (zK (f:=fPN (at_ (yQ ca cb cc cd 4) ((yQ ca cb cc cd 4).length - 1))) 6 kI (hz:=zO _ _))<|oc (zBV (fun u v q W (hu:u= .int .i8 2) (hv:(fPN (at_ (yQ ca cb cc cd 4) 0)).p v W) (hq:(fPN (at_ (yQ ca cb cc cd 4) ((yQ ca cb cc cd 4).length - 1))).p q W)=>by rw [show u=_ from hu];exact zRG hv hq))<|zD) fun Q' hQ a w4 s=> ?_
  replace s:=s.keepK [(29, .u (fMT 2)),(19, .u (uB (decide (((pns (yQ ca cb cc cd 4)).length:Int)≥2)))),(9, .u (UF.eq v16)),(16, .u (UF.eq v16)),(0, .u (fPV 80 ca)),(1, .u (fPV 80 cb)),(2, .u (fPV 80 cc)),(3, .u (fPV 80 cd))] (fmz ⟨.head _,fmz ⟨mz1,fmz ⟨mz2,fmz ⟨mz3,fmz ⟨mz4,fmz ⟨mz5,fmz ⟨mz6,fmz ⟨mz7,fnz⟩⟩⟩⟩⟩⟩⟩⟩)
  replace s:=s1.thaw s rfl
  refine zR (CU.agg (fMT 2)) ((fMT 2).tS) rfl s kI rfl rfl rfl iiz iiz (zDp _) fun a w s=> ?_
  refine zA rfl (hQ _ _ ?_)
  refine zWT ?_
  exact wE s (CU.agg (fMT 2)) rfl kI rfl rfl (zI3 _) (fun cs W h=>by rw [hk];exact h)
 ·have e2:=zWZ e
  refine zWU ?_
  refine zWS ?_
  refine zWS ?_
  refine zB 3 ((30, .s ((UF.eq v16).tS))::(31, .s ((uI ((pns (yQ ca cb cc cd 4)).length:Int)).tS))::(32, .u (uB (((pns (yQ ca cb cc cd 4)).length:Int)==1))):: []) hmix s kI
   (oc zC<|oc (y4 (z:=6) (Cs:=pns (yQ ca cb cc cd 4)) kI (fun v W hb h=>(yZ hv16 h (s.up hb))) (fun _=>rfl))<|oc (zS .i64 ((pns (yQ ca cb cc cd 4)).length:Int) 1 (((pns (yQ ca cb cc cd 4)).length:Int)==1) iiz iiz rfl rfl)<|zD) fun a w5 s=> ?_
  refine zA rfl ?_
  refine StS.cond s (((pns (yQ ca cb cc cd 4)).length:Int)==1) iiz (fun e=> ?_) (fun e=> ?_)
  ·have hlen:0<(yQ ca cb cc cd 4).length:=by have:=beq_iff_eq.1 e;simp at this;omega
   have hk:zBx ca cb cc cd=1:=by unfold zBx;rw [if_neg e2,if_pos e]
   refine zWS ?_
   refine z9 [0,3] 7 ((33, .s ((UF.eq v16).tS))::(34, .s (wB (CU.agg (fPN (at_ (yQ ca cb cc cd 4) 0))).cf))::(35, .s ((fPN (at_ (yQ ca cb cc cd 4) 0)).tS))::(36, .s ((UF.eq v16).tS))::(37, .s (wB (CU.agg (fPN (at_ (yQ ca cb cc cd 4) 0))).cf))::(38, .s ((fPN (at_ (yQ ca cb cc cd 4) 0)).tS))::(39, .u (fMT 1)):: []) hmix s kI
    (oc zC<|oc (yJ (z:=6) (Cs:=pns (yQ ca cb cc cd 4)) (i:=0) (C:=CU.agg (fPN (at_ (yQ ca cb cc cd 4) 0))) kI (zCW (show 0<(yQ ca cb cc cd 4).length by have hx:=hlen;omega)) (fun v W hb h=>(yZ hv16 h (s.up hb))) iiz)<|oc (zK (f:=fPN (at_ (yQ ca cb cc cd 4) 0)) 6 kI (hz:=zO _ _))<|oc zC<|oc (yJ (z:=6) (Cs:=pns (yQ ca cb cc cd 4)) (i:=0) (C:=CU.agg (fPN (at_ (yQ ca cb cc cd 4) 0))) kI (zCW (show 0<(yQ ca cb cc cd 4).length by have hx:=hlen;omega)) (fun v W hb h=>(yZ hv16 h (s.up hb))) iiz)<|oc (zK (f:=fPN (at_ (yQ ca cb cc cd 4) 0)) 6 kI (hz:=zO _ _))<|oc (zBV (fun u v q W (hu:u= .int .i8 1) (hv:(fPN (at_ (yQ ca cb cc cd 4) 0)).p v W) (hq:(fPN (at_ (yQ ca cb cc cd 4) 0)).p q W)=>by rw [show u=_ from hu];exact zRG hv hq))<|zD) fun Q' hQ a w6 s=> ?_
   replace s:=s.keepK [(39, .u (fMT 1)),(32, .u (uB (((pns (yQ ca cb cc cd 4)).length:Int)==1))),(19, .u (uB (decide (((pns (yQ ca cb cc cd 4)).length:Int)≥2)))),(9, .u (UF.eq v16)),(16, .u (UF.eq v16)),(0, .u (fPV 80 ca)),(1, .u (fPV 80 cb)),(2, .u (fPV 80 cc)),(3, .u (fPV 80 cd))] (fmz ⟨.head _,fmz ⟨mz1,fmz ⟨mz2,fmz ⟨mz3,fmz ⟨mz4,fmz ⟨mz5,fmz ⟨mz6,fmz ⟨mz7,fmz ⟨mz8,fnz⟩⟩⟩⟩⟩⟩⟩⟩⟩)
   replace s:=s1.thaw s rfl
   refine zR (CU.agg (fMT 1)) ((fMT 1).tS) rfl s kI rfl rfl rfl iiz iiz (zDp _) fun a w s=> ?_
   refine zA rfl (hQ _ _ ?_)
   refine zWT ?_
   exact wE s (CU.agg (fMT 1)) rfl kI rfl rfl (zI3 _) (fun cs W h=>by rw [hk];exact h)
  ·have e3:=e
   replace s:=s.keepK [(32, .u (uB (((pns (yQ ca cb cc cd 4)).length:Int)==1))),(19, .u (uB (decide (((pns (yQ ca cb cc cd 4)).length:Int)≥2)))),(9, .u (UF.eq v16)),(16, .u (UF.eq v16)),(0, .u (fPV 80 ca)),(1, .u (fPV 80 cb)),(2, .u (fPV 80 cc)),(3, .u (fPV 80 cd))] (fmz ⟨.head _,fmz ⟨mz1,fmz ⟨mz2,fmz ⟨mz3,fmz ⟨mz4,fmz ⟨mz5,fmz ⟨mz6,fmz ⟨mz7,fnz⟩⟩⟩⟩⟩⟩⟩⟩)
   replace s:=s1.thaw s rfl
   refine zWU ?_
   refine zWS ?_
   refine zB 8 ((41, .s ((fPV 80 ca).tS))::(42, .s ((fPV 80 cb).tS))::(43, .s ((fPV 80 cc).tS))::(44, .s ((fPV 80 cd).tS))::(45, .s ((zAj (fPV 327 (y8 ca cb cc cd)) (uB (!(decide ((dnm ca cb cc cd)=0))))).tS))::(40, .s ((zAj (fPV 327 (y8 ca cb cc cd)) (uB (!(decide ((dnm ca cb cc cd)=0))))).tS))::(46, .u (fPV 327 (y8 ca cb cc cd)))::(47, .u (uB (!(decide ((dnm ca cb cc cd)=0))))):: []) hmix s kI
    (oc (zK (f:=fPV 80 ca) 6 kI (hz:=zO _ _))<|oc (zK (f:=fPV 80 cb) 6 kI (hz:=zO _ _))<|oc (zK (f:=fPV 80 cc) 6 kI (hz:=zO _ _))<|oc (zK (f:=fPV 80 cd) 6 kI (hz:=zO _ _))<|oc (zF3 zE zTo (fun u0 u1 u2 u3 W hb (h0:(fPV 80 ca).p u0 W) (h1:(fPV 80 cb).p u1 W) (h2:(fPV 80 cc).p u2 W) (h3:(fPV 80 cd).p u3 W)=>zJN h0 h1 h2 h3 hab hcd hac))<|oc zC<|oc (zAp (A:=(fPV 327 (y8 ca cb cc cd)).tS) (B:=(uB (!(decide ((dnm ca cb cc cd)=0)))).tS) iiz)<|oc (zAo (A:=(fPV 327 (y8 ca cb cc cd)).tS) (B:=(uB (!(decide ((dnm ca cb cc cd)=0)))).tS) iiz)<|zD) fun a w7 s=> ?_
   refine z7 (CU.len 6) (cs:=zP6) kI rfl s kI (fun W=>rfl) rfl fun b10 a w s=> ?_
   refine zR (CU.agg (fPV 327 (y8 ca cb cc cd))) ((fPV 327 (y8 ca cb cc cd)).tS) rfl s kI rfl rfl rfl iiz iiz y5 fun a w s=> ?_
   refine yU (uB (!(decide ((dnm ca cb cc cd)=0)))) rfl s kI iiz fun a w s=> ?_
   refine zA rfl ?_
   refine zWS ?_
   refine zWS ?_
   refine zB 13 ((48, .s ((uB (!(decide ((dnm ca cb cc cd)=0)))).tS))::(49, .s ((uB (!(decide ((dnm ca cb cc cd)=0)))).tS))::(50, .s (SF.imp ((!(decide ((dnm ca cb cc cd)=0)))=true) ((fPV 80 ca).tS)))::(51, .s (SF.imp ((!(decide ((dnm ca cb cc cd)=0)))=true) ((fPV 80 cb).tS)))::(52, .s (SF.imp ((!(decide ((dnm ca cb cc cd)=0)))=true) ((fPV 327 (y8 ca cb cc cd)).tS)))::(53, .s (SF.imp ((!(decide ((dnm ca cb cc cd)=0)))=true) ((uB (onS ca cb (y8 ca cb cc cd))).tS)))::(54, .s ((uB ((!(decide ((dnm ca cb cc cd)=0)))&&(onS ca cb (y8 ca cb cc cd)))).tS))::(55, .s ((uB ((!(decide ((dnm ca cb cc cd)=0)))&&(onS ca cb (y8 ca cb cc cd)))).tS))::(56, .s (SF.imp (((!(decide ((dnm ca cb cc cd)=0)))&&(onS ca cb (y8 ca cb cc cd)))=true) ((fPV 80 cc).tS)))::(57, .s (SF.imp (((!(decide ((dnm ca cb cc cd)=0)))&&(onS ca cb (y8 ca cb cc cd)))=true) ((fPV 80 cd).tS)))::(58, .s (SF.imp (((!(decide ((dnm ca cb cc cd)=0)))&&(onS ca cb (y8 ca cb cc cd)))=true) ((fPV 327 (y8 ca cb cc cd)).tS)))::(59, .s (SF.imp (((!(decide ((dnm ca cb cc cd)=0)))&&(onS ca cb (y8 ca cb cc cd)))=true) ((uB (onS cc cd (y8 ca cb cc cd))).tS)))::(60, .u (uB (((!(decide ((dnm ca cb cc cd)=0)))&&(onS ca cb (y8 ca cb cc cd)))&&(onS cc cd (y8 ca cb cc cd))))):: []) hmix s kI
    (oc zC<|oc zC<|oc (zF 49 (!(decide ((dnm ca cb cc cd)=0))) kI iiz (fun e=>z4 [] ((fPV 80 ca).tS) fnz (fun _ _ h _=>h) kI (zK (f:=fPV 80 ca) 6 kI (hz:=zO _ _))) (fun e W h=>absurd h e))<|oc (zF 49 (!(decide ((dnm ca cb cc cd)=0))) kI iiz (fun e=>z4 [] ((fPV 80 cb).tS) fnz (fun _ _ h _=>h) kI (zK (f:=fPV 80 cb) 6 kI (hz:=zO _ _))) (fun e W h=>absurd h e))<|oc (zF 49 (!(decide ((dnm ca cb cc cd)=0))) kI iiz (fun e=>z4 [] ((fPV 327 (y8 ca cb cc cd)).tS) fnz (fun _ _ h _=>h) kI (zK (f:=fPV 327 (y8 ca cb cc cd)) 6 kI (hz:=zO _ _))) (fun e W h=>absurd h e))<|oc (zF 49 (!(decide ((dnm ca cb cc cd)=0))) kI iiz (fun e=>z4 [(50,(fPV 80 ca).tS),(51,(fPV 80 cb).tS),(52,(fPV 327 (y8 ca cb cc cd)).tS)] ((uB (onS ca cb (y8 ca cb cc cd))).tS) (fmz ⟨fun v W h=>zQ (c:=(!(decide ((dnm ca cb cc cd)=0)))=true) (f:=(fPV 80 ca).tS) e h,fmz ⟨fun v W h=>zQ (c:=(!(decide ((dnm ca cb cc cd)=0)))=true) (f:=(fPV 80 cb).tS) e h,fmz ⟨fun v W h=>zQ (c:=(!(decide ((dnm ca cb cc cd)=0)))=true) (f:=(fPV 327 (y8 ca cb cc cd)).tS) e h,fnz⟩⟩⟩) (fun _ _ h _=>h) kI (zBd zE zJg (fun u0 u1 u2 W hb (h0:(fPV 80 ca).p u0 W) (h1:(fPV 80 cb).p u1 W) (h2:(fPV 327 (y8 ca cb cc cd)).p u2 W)=>zFU (m:=80) (M:=327) h0 h1 h2 dB dB dB dB))) (fun e W h=>absurd h e))<|oc (y6 (!(decide ((dnm ca cb cc cd)=0))) iiz (fun e v W h=>zBc (zQ e h) e) (fun e v W h=>zAy h e))<|oc zC<|oc (zF 55 ((!(decide ((dnm ca cb cc cd)=0)))&&(onS ca cb (y8 ca cb cc cd))) kI iiz (fun e=>z4 [] ((fPV 80 cc).tS) fnz (fun _ _ h _=>h) kI (zK (f:=fPV 80 cc) 6 kI (hz:=zO _ _))) (fun e W h=>absurd h e))<|oc (zF 55 ((!(decide ((dnm ca cb cc cd)=0)))&&(onS ca cb (y8 ca cb cc cd))) kI iiz (fun e=>z4 [] ((fPV 80 cd).tS) fnz (fun _ _ h _=>h) kI (zK (f:=fPV 80 cd) 6 kI (hz:=zO _ _))) (fun e W h=>absurd h e))<|oc (zF 55 ((!(decide ((dnm ca cb cc cd)=0)))&&(onS ca cb (y8 ca cb cc cd))) kI iiz (fun e=>z4 [] ((fPV 327 (y8 ca cb cc cd)).tS) fnz (fun _ _ h _=>h) kI (zK (f:=fPV 327 (y8 ca cb cc cd)) 6 kI (hz:=zO _ _))) (fun e W h=>absurd h e))<|oc (zF 55 ((!(decide ((dnm ca cb cc cd)=0)))&&(onS ca cb (y8 ca cb cc cd))) kI iiz (fun e=>z4 [(56,(fPV 80 cc).tS),(57,(fPV 80 cd).tS),(58,(fPV 327 (y8 ca cb cc cd)).tS)] ((uB (onS cc cd (y8 ca cb cc cd))).tS) (fmz ⟨fun v W h=>zQ (c:=((!(decide ((dnm ca cb cc cd)=0)))&&(onS ca cb (y8 ca cb cc cd)))=true) (f:=(fPV 80 cc).tS) e h,fmz ⟨fun v W h=>zQ (c:=((!(decide ((dnm ca cb cc cd)=0)))&&(onS ca cb (y8 ca cb cc cd)))=true) (f:=(fPV 80 cd).tS) e h,fmz ⟨fun v W h=>zQ (c:=((!(decide ((dnm ca cb cc cd)=0)))&&(onS ca cb (y8 ca cb cc cd)))=true) (f:=(fPV 327 (y8 ca cb cc cd)).tS) e h,fnz⟩⟩⟩) (fun _ _ h _=>h) kI (zBd zE zJg (fun u0 u1 u2 W hb (h0:(fPV 80 cc).p u0 W) (h1:(fPV 80 cd).p u1 W) (h2:(fPV 327 (y8 ca cb cc cd)).p u2 W)=>zFU (m:=80) (M:=327) h0 h1 h2 dB dB dB dB))) (fun e W h=>absurd h e))<|oc (y6 ((!(decide ((dnm ca cb cc cd)=0)))&&(onS ca cb (y8 ca cb cc cd))) iiz (fun e v W h=>zBc (zQ e h) e) (fun e v W h=>zAy h e))<|zD) fun a w8 s=> ?_
   refine zA rfl ?_
   refine StS.cond s (((!(decide ((dnm ca cb cc cd)=0)))&&(onS ca cb (y8 ca cb cc cd)))&&(onS cc cd (y8 ca cb cc cd))) iiz (fun e=> ?_) (fun e=> ?_)
   ·have hk:zBx ca cb cc cd=1:=by unfold zBx;rw [if_neg e2,if_neg (by rw [e3];decide),if_pos e]
    refine zWS ?_
    refine zB 3 ((61, .s ((fPV 327 (y8 ca cb cc cd)).tS))::(62, .s ((fPV 327 (y8 ca cb cc cd)).tS))::(63, .u (fMT 1)):: []) hmix s kI
     (oc (zK (f:=fPV 327 (y8 ca cb cc cd)) 6 kI (hz:=zO _ _))<|oc (zK (f:=fPV 327 (y8 ca cb cc cd)) 6 kI (hz:=zO _ _))<|oc (zBV (fun u v q W (hu:u= .int .i8 1) (hv:(fPV 327 (y8 ca cb cc cd)).p v W) (hq:(fPV 327 (y8 ca cb cc cd)).p q W)=>by rw [show u=_ from hu];exact zRG hv hq))<|zD) fun a w9 s=> ?_
    refine zR (CU.agg (fMT 1)) ((fMT 1).tS) rfl s kI rfl rfl rfl iiz iiz (zDp _) fun a w s=> ?_
    refine zA rfl ?_
    refine zWT ?_
    exact wE s (CU.agg (fMT 1)) rfl kI rfl rfl (zI3 _) (fun cs W h=>by rw [hk];exact h)
   ·have hk:zBx ca cb cc cd=0:=by unfold zBx;rw [if_neg e2,if_neg (by rw [e3];decide),if_neg (by rw [e];decide)]
    refine zWU ?_
    refine zWS ?_
    refine zB 3 ((64, .s ((fPN (((0:Int):Rat),((0:Int):Rat))).tS))::(65, .s ((fPN (((0:Int):Rat),((0:Int):Rat))).tS))::(66, .u (fMT 0)):: []) hmix s kI
     (oc (zI zE zEZ (fun u0 u1 W hb (h0:u0= .int .i64 0) (h1:u1= .int .i64 0)=>zCg h0 h1 dB dB))<|oc (zI zE zEZ (fun u0 u1 W hb (h0:u0= .int .i64 0) (h1:u1= .int .i64 0)=>zCg h0 h1 dB dB))<|oc (qA (fun u v W (hu:(fPN (((0:Int):Rat),((0:Int):Rat))).p u W) (hv:(fPN (((0:Int):Rat),((0:Int):Rat))).p v W)=>zUY hu hv))<|zD) fun a w10 s=> ?_
    refine zR (CU.agg (fMT 0)) ((fMT 0).tS) rfl s kI rfl rfl rfl iiz iiz (zDp _) fun a w s=> ?_
    refine zA rfl ?_
    refine zWT ?_
    exact wE s (CU.agg (fMT 0)) rfl kI rfl rfl (zI3 _) (fun cs W h=>by rw [hk];exact h)
end Go.Proofs.Wd
