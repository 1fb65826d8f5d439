/- Walks of package vec: Of, Cmp, Norm; of side.Between; of package hull: and what it needs. -/
import Derived.Test.YtiflpcbcaboglaaGreatDoorMHF20
import Derived.Test.YtiflpcbcaboglaaGreatDoorMHF19
import Derived.Lib.AppendZeros
theorem kI {P:Prop} (h:P:=by kernel_rfl):P:=h
theorem oP {P:Prop} (h:P:=by omega):P:=h
theorem dB {P:Prop} (h:P:=by decide):P:=h
theorem fO {c:Prop} {α:Sort _} {R:α->Prop} (e:¬c) (w:α) (h:c):R w:=absurd h e
theorem fP {β γ:Sort _} {p q:β->γ->Prop} (b:β) (c:γ) (h:p b c) (_:q b c):p b c:=h
abbrev zYK:=@Go.wpIn_seq
abbrev zYL:=@Go.wpIn_ret
abbrev zYM:=@Go.wpIn_skip
abbrev zYN:=@Go.wpIn_block
abbrev zYO:=@Nat.le_trans
abbrev zYP:=@List.mem_singleton
abbrev zYQ:=@decide_eq_false
abbrev zYR:=@decide_eq_true
abbrev zYS:=@of_decide_eq_false
abbrev zYT:=@of_decide_eq_true
abbrev zYU:=@List.getElem?_eq_getElem
abbrev zYV:=@Nat.zero_le
abbrev zYW:=@Go.wpIn_exit
abbrev zYX:=@List.getElem?_map
abbrev zYY:=@Go.IntKind.wrap_i64
abbrev zYZ:=@Array.getElem?_eq_some_iff
abbrev zY0:=@List.getD_eq_getElem?_getD
abbrev zY1:=@Nat.le_refl
abbrev zY2:=@Nat.lt_of_lt_of_le
abbrev zY3:=@List.take_of_length_le
abbrev zY4:=@Go.RowKit.Below.refl
abbrev zY5:=@List.length_append
abbrev zY6:=@decide_eq_decide
abbrev zY7:=@List.getElem?_eq_some_iff
abbrev zY8:=@Rat.mul_nonneg
abbrev zY9:=@List.mem_cons
abbrev zZa:=@List.length_map
abbrev zZb:=@Bool.and_eq_false_iff
abbrev zZc:=@decide_eq_false_iff_not
abbrev zZd:=@List.drop_of_length_le
abbrev zZe:=@List.nil_append
abbrev zZf:=@Bool.and_eq_true
abbrev zZg:=@List.range_succ
abbrev zZh:=@List.mem_range
abbrev zZi:=@List.getElem_mem
abbrev zZj:=@List.flatMap_append
abbrev zZk:=@List.any_eq_false
abbrev zZl:=@List.any_eq_true
abbrev zZm:=@List.drop_append_of_le_length
abbrev zZn:=@List.take_append_of_le_length
abbrev Wp:=Go.World
abbrev Wq:=Go.Value
abbrev Wr:=Go.TypeId
abbrev Ws:=Option
namespace Go.Proofs.Wd
open Tryz
variable {a b hi lo p q:V2} {r:Rat} {N base bc c d i j k m n n0 z:Nat} {ps:List V2} {W W' w w0 w00 w1:Wp} {l u v:Wq} {x:Operand} {e t te ty:Wr} {C S S':Nat->Prop} {cs:List Wq} {A:Ws Addr} {K0:List (Nat×KF)} {B0:List Bx} {ds0:List Deferred} {a0:Act} {Cs:List CU} {f f' f'' g g' g'':UF} {ops:Array Oper} {pos:String} {aft:Array Edge} {Ls:List (List V2)}
set_option maxRecDepth 100000
set_option maxHeartbeats 1000000
open Go.RowKit Lb
section
variable {f g f' g':UF}
theorem zSg (cs:List Wq) (W:Wp) (h:(wC (fPR (fPT f g) (fPT f' g'))).p cs W):0+3<=cs.length/\f.p (.agg ((cs.drop 0).take 3).toArray) W:=by
 obtain ⟨a,b,rfl,l1,l2,h1,_⟩:=zBp h
 refine ⟨by simp [l1,l2], ?_⟩
 have:=(zDf a W h1).2
 rwa [zZm oP,zZn (by simp;omega)]
theorem zO0 (cs:List Wq) (W:Wp) (h:(wC (fPR (fPT f g) (fPT f' g'))).p cs W):6+3<=cs.length/\f'.p (.agg ((cs.drop 6).take 3).toArray) W:=by
 obtain ⟨a,b,rfl,l1,l2,_,h2⟩:=zBp h
 refine ⟨by simp [l1,l2], ?_⟩
 have:=(zDf b W h2).2
 rwa [show 6=a.length+0 by omega,List.drop_append,zZd oP,zZe,Nat.add_sub_cancel_left]
end
def zBr (lo hi r:Rat):Bool:=decide (qsg lo r<=0)&&decide (qsg r hi<=0)
theorem zKo {lo hi:Rat}:zBr lo hi r=true↔lo<=r/\r<=hi:=by
 have key: ∀p q:Rat,decide (qsg p q<=0)=true↔p<=q:=fun p q=>by
  rw [decide_eq_true_iff]
  rcases zD7 p q with e|e|e
  ·rw [e];exact ⟨fun _=>Rat.le_of_lt (zC7.1 e),fun _=>by decide⟩
  ·rw [e];exact ⟨fun _=>by rw [zBx.1 e];exact Rat.le_refl,fun _=>by decide⟩
  ·rw [e];exact ⟨fun h=>absurd h dB,fun h=>absurd (zCB.1 e) (Rat.not_lt.2 h)⟩
 unfold zBr
 rw [zZf,key,key]
def jC (lo hi r:Rat):Rat:=(fun s=>if decide (qsg s lo<0)=true then lo else s) (if decide (qsg r hi>0)=true then hi else r)
theorem zKk {lo hi:Rat} (e1:decide (qsg r hi>0)=true) (e2:decide (qsg hi lo<0)=true):jC lo hi r=lo:=by
 have h:(if decide (qsg r hi>0)=true then hi else r)=hi:=if_pos e1
 unfold jC;simp only [h];exact if_pos e2
theorem zGY {lo hi:Rat} (e1:decide (qsg r hi>0)=true) (e2:decide (qsg hi lo<0)=false):jC lo hi r=hi:=by
 have h:(if decide (qsg r hi>0)=true then hi else r)=hi:=if_pos e1
 unfold jC;simp only [h];exact if_neg (fun k=>by rw [e2] at k;cases k)
theorem zGZ {lo hi:Rat} (e1:decide (qsg r hi>0)=false) (e2:decide (qsg r lo<0)=true):jC lo hi r=lo:=by
 have h:(if decide (qsg r hi>0)=true then hi else r)=r:=if_neg (fun k=>by rw [e1] at k;cases k)
 unfold jC;simp only [h];exact if_pos e2
theorem zG0 {lo hi:Rat} (e1:decide (qsg r hi>0)=false) (e2:decide (qsg r lo<0)=false):jC lo hi r=r:=by
 have h:(if decide (qsg r hi>0)=true then hi else r)=r:=if_neg (fun k=>by rw [e1] at k;cases k)
 unfold jC;simp only [h];exact if_neg (fun k=>by rw [e2] at k;cases k)
theorem zEQ {lo hi:Rat} (h1:QB lo m) (h2:QB hi m) (h3:QB r m):QB (jC lo hi r) m:=by
 cases e1:decide (qsg r hi>0)<;>(try cases e2:decide (qsg r lo<0))<;>(try cases e3:decide (qsg hi lo<0))
 all_goals first
  |(rw [zKk e1 e3];exact h1)
  |(rw [zGY e1 e3];exact h2)
  |(rw [zGZ e1 e2];exact h1)
  |(rw [zG0 e1 e2];exact h3)
def y8 (lo hi p:V2):V2:=(jC lo.1 hi.1 p.1,jC lo.2 hi.2 p.2)
def zH0 (lo hi x:V2):Bool:=zBr lo.1 hi.1 x.1&&zBr lo.2 hi.2 x.2
def zNa (lo hi x:V2):Bool:= !(zBr lo.1 hi.1 x.1)|| !(zBr lo.2 hi.2 x.2)
theorem zSC (lo hi x:V2):zNa lo hi x= !(zH0 lo hi x):=by unfold zNa zH0;cases zBr lo.1 hi.1 x.1<;>cases zBr lo.2 hi.2 x.2<;>rfl
theorem zSB (lo hi:V2) (ps:List V2):(!(ps.any (zNa lo hi)))=ps.all (zH0 lo hi):=by
 induction ps with
 |nil=>rfl
 |cons p ps ih=>rw [List.any_cons,List.all_cons, <-ih,zSC];cases zH0 lo hi p<;>cases ps.any (zNa lo hi)<;>rfl
def inK (ps:List V2) (p:V2) (k:Nat):Bool:=decide ((ps.length:Int)≥3)&&(List.range k).all fun i=>zAG (at_ ps i) (at_ ps ((i+1) % ps.length)) p==1
theorem zPu (ps:List V2) (p:V2) (k:Nat):inK ps p (k+1)=(inK ps p k&&(zAG (at_ ps k) (at_ ps ((k+1) % ps.length)) p==1)):=by simp [inK,zZg,Bool.and_assoc]
theorem zPt (ps:List V2) (p:V2):inK ps p 0=decide ((ps.length:Int)≥3):=by simp [inK]
theorem zPv (h:inK ps p k=false) (hk:k<=ps.length):inK ps p ps.length=false:=by
 unfold inK at*
 rw [zZb] at*
 rcases h with h|h
 ·exact .inl h
 ·right
  rw [List.all_eq_false] at*
  obtain ⟨i,hi,e⟩:=h
  exact ⟨i,zZh.2 (by have:=zZh.1 hi;omega),e⟩
theorem zRv {x y:Int} (hu:u= .int .i64 x) (hv:v= .int .i64 y) (hx: -9223372036854775808<=x/\x<=9223372036854775807) (hy: -9223372036854775808<=y/\y<=9223372036854775807):Calls prog 45 #[u,v] W (Ret W (fPN (((x:Int):Rat),((y:Int):Rat))).tS):=by
 refine z9 [(uI x).tS,(uI y).tS] func45 rfl kI ⟨hu,hv,trivial⟩ fun a s=> ?_
 refine zYK ?_
 refine zB 0 [] hmix s kI
  zC fun a w1 s=> ?_
 refine zZ (CU.len 6) (cs:=zP6) kI rfl s kI (fun W=>rfl) rfl fun b4 a w s=> ?_
 refine zA rfl ?_
 refine zYK ?_
 refine zB 5 ((5,.Z (uI x))::(6,.Z (fQN ((x:Int):Rat)))::(7,.Z (uI y))::(8,.Z (fQN ((y:Int):Rat)))::(9,.u (fPN (((x:Int):Rat),((y:Int):Rat)))):: []) hmix s kI
  (oc zE<|oc (zJ zD zSO (fun u0 W hb (h0:u0= .int .i64 x)=>zTw x h0 hx))<|oc zE<|oc (zJ zD zSO (fun u0 W hb (h0:u0= .int .i64 y)=>zTw y h0 hy))<|oc (y4 (fun u v W (hu:QNp ((x:Int):Rat) u W) (hv:QNp ((y:Int):Rat) v W)=>zPX (zAi _) (zAi _) hu hv))<|zC) fun a w2 s=> ?_
 refine zQ (wC (fPN (((x:Int):Rat),((y:Int):Rat)))) ((fPN (((x:Int):Rat),((y:Int):Rat))).tS) rfl s kI rfl rfl rfl iiz iiz yT fun a w s=> ?_
 refine zA rfl ?_
 refine zYL ?_
 exact wI s (wC (fPN (((x:Int):Rat),((y:Int):Rat)))) rfl kI rfl rfl (zP _ _) (fun cs W h=>h)
theorem zS7 (h1:(fPV m p).p u W) (h2:(fPV m q).p v W) (hm:m<=2000) (hm0:0<m) (hT:Tab W):Calls prog 86 #[u,v] W (Ret W (fI (q8 p q)).tS):=by
 refine z9 [(fPV m p).tS,(fPV m q).tS] func86 rfl kI ⟨h1,h2,trivial⟩ fun a s=> ?_
 refine zYK ?_
 refine zB 0 [] hmix s kI
  zC fun a w1 s=> ?_
 refine yK (wC (fPV m p)) rfl s kI (fun v W h=>yS h) fun b2 a w s=> ?_
 refine yK (wC (fPV m q)) rfl s kI (fun v W h=>yS h) fun b3 a w s=> ?_
 refine yR (uI 0) rfl s kI iiz fun a w s=> ?_
 refine zA rfl ?_
 refine zYK ?_
 refine zYK ?_
 refine zB 6 ((6,.X (fPV m p) 0)::(7,.Z (fRV m ((p).1)))::(8,.X (fPV m q) 0)::(9,.Z (fRV m ((q).1)))::(10,.Z (uI (qsg (p).1 (q).1)))::(5,.u (uI (qsg (p).1 (q).1))):: []) hmix s kI
  (oc (zL (C:=cg (fPV m p)) 0 kI)<|oc (zR (C:=cg (fPV m p)) (k:=0) 3 kI (h:=zDf))<|oc (zL (C:=cg (fPV m q)) 0 kI)<|oc (zR (C:=cg (fPV m q)) (k:=0) 3 kI (h:=zDf))<|oc (zI zD zEl (fun u0 u1 W hb (h0:RVp m ((p).1) u0 W) (h1:RVp m ((q).1) u1 W)=>zB8 h0 h1 hm hm0 (hT.below (s.up hb))))<|oc zF<|zC) fun a w2 s=> ?_
 refine zA rfl ?_
 refine zYK ?_
 refine zB 2 ((11,.Z (uI (qsg (p).1 (q).1)))::(12,.u (uB (qsg (p).1 (q).1 !=0))):: []) hmix s kI
  (oc zE<|oc (zS .i64 (qsg (p).1 (q).1) 0 (qsg (p).1 (q).1 !=0) iiz iiz rfl rfl)<|zC) fun a w3 s=> ?_
 refine zA rfl ?_
 refine StS.cond s (qsg (p).1 (q).1 !=0) iiz (fun e=> ?_) (fun e=> ?_)
 ·refine zYK ?_
  replace s:=s.drop [4]
  refine zB 2 ((13,.Z (uI (qsg (p).1 (q).1)))::(4,.u (uI (qsg (p).1 (q).1))):: []) hmix s kI
   (oc zE<|oc zF<|zC) fun a w4 s=> ?_
  refine zA rfl ?_
  refine zYL ?_
  exact wG s (t:=4) rfl (fun v W h=>by rw [zQ8 e];exact h)
 ·refine zYM ?_
  refine zYK ?_
  replace s:=s.drop [4]
  refine zB 6 ((14,.X (fPV m p) 3)::(15,.Z (fRV m ((p).2)))::(16,.X (fPV m q) 3)::(17,.Z (fRV m ((q).2)))::(18,.Z (uI (qsg (p).2 (q).2)))::(4,.u (uI (qsg (p).2 (q).2))):: []) hmix s kI
   (oc (zL (C:=cg (fPV m p)) 3 kI)<|oc (zR (C:=cg (fPV m p)) (k:=3) 3 kI (h:=zDe))<|oc (zL (C:=cg (fPV m q)) 3 kI)<|oc (zR (C:=cg (fPV m q)) (k:=3) 3 kI (h:=zDe))<|oc (zI zD zEl (fun u0 u1 W hb (h0:RVp m ((p).2) u0 W) (h1:RVp m ((q).2) u1 W)=>zB8 h0 h1 hm hm0 (hT.below (s.up hb))))<|oc zF<|zC) fun a w5 s=> ?_
  refine zA rfl ?_
  refine zYL ?_
  exact wG s (t:=4) rfl (fun v W h=>by rw [zQ7 e];exact h)
theorem zLp (hl:(wD 6 (pvs m ps)).p l W) (hm:m<=2000) (hm0:0<m) (hps:ps.length<=1000000) (hT:Tab W):Calls prog 58 #[l] W (Ret W (wL W 30 6 (pns ps))):=by
 refine z9 [(wB l).tS] func58 rfl kI ⟨rfl,trivial⟩ fun a s=> ?_
 replace s:=s.renew [(0,.u (wB l))] (fmz ⟨.inr ⟨_,rfl,.head _⟩,fnz⟩)
 refine zYK ?_
 refine zB 1 ((2,.u (wB (sN))):: []) hmix s kI
  (oc zF<|zC) fun a w1 s=> ?_
 refine zA rfl ?_
 refine zYK ?_
 refine zYK ?_
 refine zB 3 ((5,.u (wB l))::(6,.u (uI ((pvs m ps).length:Int)))::(7,.u (uI 0)):: []) hmix s kI
  (oc zE<|oc (yV (z:=6) (Cs:=pvs m ps) kI (fun v W hb h=>(yU hl h (s.up hb))) (fun _=>rfl))<|oc zE<|zC) fun a w2 s=> ?_
 refine zA rfl ?_
 refine zYN ?_
 obtain ⟨base,hbase⟩: ∃b,b=w2.heap.size:=⟨_,rfl⟩
 have hb0:W.heap.size<=base:=by rw [hbase];exact s.gr.size
 have hsz0:base<=w2.heap.size:=by rw [hbase];exact zY1 _
 refine zD0 (fun (p:Nat×Wq) w=>p.1<=ps.length/\base<=w.heap.size/\zAU w base 30 6 p.2 (pns (ps.take p.1))) (fun p=> [(5,.u (wB l)),(6,.u (uI ((pvs m ps).length:Int))),(2,.u (wB (p.2))),(7,.u (uI (p.1:Int)))]) (fun p=>ps.length - p.1) (0, sN) (⟨zYV _,hsz0,zAU.nil _ _ _ _⟩) (s.keepK _ (fmz ⟨.head _,fmz ⟨mz1,fmz ⟨mz3,fmz ⟨mz2,fnz⟩⟩⟩⟩)) fun p a w hI s=> ?_
 have s0:=s
 have hlw:=(wD 6 (pvs m ps)).st _ _ _ hl s0.below
 have hT0:=hT
 have hT:=hT0.below s0.below
 replace s:=s.reb rfl [(5,.u (wB l)),(6,.u (uI ((pvs m ps).length:Int))),(2,.u (wB (p.2))),(7,.u (uI (p.1:Int)))] (fmz ⟨.inl (.head _),fmz ⟨.inl mz1,fmz ⟨.inl mz2,fmz ⟨.inl mz3,fnz⟩⟩⟩⟩)
 refine zYK ?_
 refine zB 1 ((8,.u (uB (ltz p.1 ((pvs m ps).length)))):: []) hmix s kI
  (oc (zS .i64 (p.1:Int) ((pvs m ps).length:Int) (ltz p.1 ((pvs m ps).length)) iiz iiz rfl rfl)<|zC) fun a w3 s=> ?_
 refine zA rfl ?_
 refine zYK ?_
 refine StS.cond s (ltz p.1 ((pvs m ps).length)) iiz (fun e=> ?_) (fun e=> ?_)
 ·have hk:p.1<ps.length:=by have:=zYT e;simp at this;omega
  refine zYM ?_
  refine zYK ?_
  refine zYN ?_
  refine zYK ?_
  refine zB 2 ((9,.Y (fPV m (at_ ps p.1)))::(10,.u (fPV m (at_ ps p.1))):: []) hmix s kI
   (oc (yH (z:=6) (Cs:=pvs m ps) (i:=p.1) (C:=wC (fPV m (at_ ps p.1))) kI (q6 hk) (fun v W hb h=>(yU hlw h (s.up hb))) iiz)<|oc (zK (f:=fPV m (at_ ps p.1)) 6 kI (hz:=zP _ _))<|zC) fun a w4 s=> ?_
  refine zZ (CU.len 6) (cs:=zP6) kI rfl s kI (fun W=>rfl) rfl fun b4 a w s=> ?_
  refine zQ (wC (fPV m (at_ ps p.1))) ((fPV m (at_ ps p.1)).tS) rfl s kI rfl rfl rfl iiz iiz yT fun a w s=> ?_
  refine zA rfl ?_
  refine zCA (K:= [(10,.u (fPV m (at_ ps p.1))),(8,.u (uB (ltz p.1 ((pvs m ps).length)))),(5,.u (wB l)),(6,.u (uI ((pvs m ps).length:Int))),(7,.u (uI (p.1:Int)))]) [(2,.u (wB (p.2)))] [0] 9 ((11,.u (wB (p.2)))::(12,.X (fPV m (at_ ps p.1)) 0)::(13,.Z (fRV m ((at_ ps p.1).1)))::(14,.Z (fQN ((at_ ps p.1).1)))::(15,.X (fPV m (at_ ps p.1)) 3)::(16,.Z (fRV m ((at_ ps p.1).2)))::(17,.Z (fQN ((at_ ps p.1).2)))::(18,.Z (fPN ((at_ ps p.1).1,(at_ ps p.1).2)))::(19,.s (wD 6 [wC (fPN ((at_ ps p.1).1,(at_ ps p.1).2))])):: []) hmix (s.keepK _ (fmz ⟨mz4,fmz ⟨.head _,fmz ⟨mz1,fmz ⟨mz2,fmz ⟨mz3,fmz ⟨mz5,fnz⟩⟩⟩⟩⟩⟩)) kI
   (oc zE<|oc (zL (C:=cg (fPV m (at_ ps p.1))) 0 kI)<|oc (zR (C:=cg (fPV m (at_ ps p.1))) (k:=0) 3 kI (h:=zDf))<|oc (zJ zD zK0 (fun u0 W hb (h0:RVp m ((at_ ps p.1).1) u0 W)=>zD5 (m:=m) h0 hm hm0 (hT.below (s.up hb))))<|oc (zL (C:=cg (fPV m (at_ ps p.1))) 3 kI)<|oc (zR (C:=cg (fPV m (at_ ps p.1))) (k:=3) 3 kI (h:=zDe))<|oc (zJ zD zK0 (fun u0 W hb (h0:RVp m ((at_ ps p.1).2) u0 W)=>zD5 (m:=m) h0 hm hm0 (hT.below (s.up hb))))<|oc (y4 (fun u v W (hu:QNp ((at_ ps p.1).1) u W) (hv:QNp ((at_ ps p.1).2) v W)=>zPX (zAi _) (zAi _) hu hv))<|oc (jI (fun u W (hu:(fPN ((at_ ps p.1).1,(at_ ps p.1).2)).p u W)=>zEn hu))<|zC) fun Q' hQ a w5 s hr=> ?_
  refine zLv ([wC (fPN ((at_ ps p.1).1,(at_ ps p.1).2))]) s0 (s.keepK [(11,.u (wB (p.2))),(10,.u (fPV m (at_ ps p.1))),(8,.u (uB (ltz p.1 ((pvs m ps).length)))),(5,.u (wB l)),(6,.u (uI ((pvs m ps).length:Int))),(7,.u (uI (p.1:Int)))] (fmz ⟨.head _,fmz ⟨mz1,fmz ⟨mz2,fmz ⟨mz3,fmz ⟨mz4,fmz ⟨mz5,fnz⟩⟩⟩⟩⟩⟩)) hb0 hI.2 rfl kI kI kI (s.fct (.tmp 11)) (hr (_,_) mz8) (zQu _ _) (by simp;omega) (fun q hq hr=>by rcases zY9.1 hq with rfl|hq;cases hr;cases hq) fun v' a w hI' s=> ?_
  have s1:=s
  replace s:StS _ _ _ [⟨4,30,wC (fPV m (at_ ps p.1)),b4,true⟩] _ _ _ _:=s.freeze
  replace s:=s.reb rfl [(20,.u (wB v')),(11,.u (wB (p.2))),(10,.u (fPV m (at_ ps p.1))),(8,.u (uB (ltz p.1 ((pvs m ps).length)))),(5,.u (wB l)),(6,.u (uI ((pvs m ps).length:Int))),(7,.u (uI (p.1:Int)))] (fmz ⟨.inl (.head _),fmz ⟨.inl mz1,fmz ⟨.inl mz2,fmz ⟨.inl mz3,fmz ⟨.inl mz4,fmz ⟨.inl mz5,fmz ⟨.inl mz6,fnz⟩⟩⟩⟩⟩⟩⟩)
  refine yR (wB v') rfl s kI iiz fun a w s=> ?_
  refine zA rfl (hQ _ _ ?_)
  refine zX 1 ((21,.u (uI ((p.1+1:Nat):Int))):: []) s kI
   (oc (yN .i64 (p.1:Int) 1 ((p.1+1:Nat):Int) iiz iiz (wrap64 _ _ oP oP))<|zC) fun a w6 s=> ?_
  replace s:=s.drop [7]
  refine zAN (uI ((p.1+1:Nat):Int)) rfl s kI zE kI fun a w s=> ?_
  refine zA rfl ?_
  replace s:=s.popB
  have hbw:=s.below
  replace s:=s1.back (s.keepK [(7,.u (uI ((p.1+1:Nat):Int))),(21,.u (uI ((p.1+1:Nat):Int))),(2,.u (wB v')),(20,.u (wB v')),(11,.u (wB (p.2))),(10,.u (fPV m (at_ ps p.1))),(8,.u (uB (ltz p.1 ((pvs m ps).length)))),(5,.u (wB l)),(6,.u (uI ((pvs m ps).length:Int)))] (fmz ⟨.head _,fmz ⟨mz1,fmz ⟨mz2,fmz ⟨mz3,fmz ⟨mz4,fmz ⟨mz5,fmz ⟨mz6,fmz ⟨mz7,fmz ⟨mz8,fnz⟩⟩⟩⟩⟩⟩⟩⟩⟩)) rfl
  exact ⟨(p.1+1,v'),(by show ps.length - (p.1+1)<ps.length - p.1;omega),⟨hk,zYO hI'.1 hbw.size,by rw [zJC hk];exact hI'.2.below hbw⟩,s.keepK _ (fmz ⟨mz7,fmz ⟨mz8,fmz ⟨mz2,fmz ⟨.head _,fnz⟩⟩⟩⟩)⟩
 ·have hk:p.1=ps.length:=by have h7:=zYS e;have h8:=hI.1;simp at h7;omega
  refine zYW ?_
  refine zYK ?_
  refine zX 1 ((22,.u (wB (p.2))):: []) s kI
   (oc zE<|zC) fun a w7 s=> ?_
  replace s:=s.drop [2]
  refine yR (wB (p.2)) rfl s kI iiz fun a w s=> ?_
  refine zA rfl ?_
  refine zYL ?_
  exact StS.resN s s0.below rfl (by rw [s.val (.head _)];have:=(hI.2.2.below s.below).mono hb0;rw [hk,List.take_length] at this;exact this)
theorem zQh {x:Wq} {lo hi:Rat} (h1:RVp m lo u W) (h2:RVp m hi v W) (h3:RVp m r x W) (hm:m<=2000) (hm0:0<m) (hT:Tab W):Calls prog 51 #[u,v,x] W (Ret W (fB (zBr lo hi r)).tS):=by
 refine z9 [(fRV m lo).tS,(fRV m hi).tS,(fRV m r).tS] func51 rfl kI ⟨h1,h2,h3,trivial⟩ fun a s=> ?_
 refine zYK ?_
 refine zB 0 [] hmix s kI
  zC fun a w1 s=> ?_
 refine yK (wC (fRV m lo)) rfl s kI (fun v W h=>jZ h) fun b3 a w s=> ?_
 refine yK (wC (fRV m hi)) rfl s kI (fun v W h=>jZ h) fun b4 a w s=> ?_
 refine yK (wC (fRV m r)) rfl s kI (fun v W h=>jZ h) fun b5 a w s=> ?_
 refine yR (uB false) rfl s kI iiz fun a w s=> ?_
 refine zA rfl ?_
 refine zYK ?_
 replace s:=s.drop [6]
 refine zB 11 ((7,.Z (fRV m lo))::(8,.Z (fRV m r))::(9,.Z (uI (qsg lo r)))::(10,.Z (uB (decide (qsg lo r<=0))))::(11,.Z (uB (decide (qsg lo r<=0))))::(12,.s (SF.imp ((decide (qsg lo r<=0))=true) ((fRV m r).tS)))::(13,.s (SF.imp ((decide (qsg lo r<=0))=true) ((fRV m hi).tS)))::(14,.s (SF.imp ((decide (qsg lo r<=0))=true) ((uI (qsg r hi)).tS)))::(15,.s (SF.imp ((decide (qsg lo r<=0))=true) ((uB (decide (qsg r hi<=0))).tS)))::(16,.Z (uB ((decide (qsg lo r<=0))&&(decide (qsg r hi<=0)))))::(6,.u (uB ((decide (qsg lo r<=0))&&(decide (qsg r hi<=0))))):: []) hmix s kI
  (oc (zK (f:=fRV m lo) 3 kI (hz:=y5 _ _))<|oc (zK (f:=fRV m r) 3 kI (hz:=y5 _ _))<|oc (zI zD zEl (fun u0 u1 W hb (h0:RVp m lo u0 W) (h1:RVp m r u1 W)=>zB8 h0 h1 hm hm0 (hT.below (s.up hb))))<|oc (zS .i64 (qsg lo r) 0 (decide (qsg lo r<=0)) iiz iiz rfl rfl)<|oc zE<|oc (zG 11 (decide (qsg lo r<=0)) kI iiz (fun e=>z5 [] ((fRV m r).tS) fnz fP kI (zK (f:=fRV m r) 3 kI (hz:=y5 _ _))) fO)<|oc (zG 11 (decide (qsg lo r<=0)) kI iiz (fun e=>z5 [] ((fRV m hi).tS) fnz fP kI (zK (f:=fRV m hi) 3 kI (hz:=y5 _ _))) fO)<|oc (zG 11 (decide (qsg lo r<=0)) kI iiz (fun e=>z5 [(12,(fRV m r).tS),(13,(fRV m hi).tS)] ((uI (qsg r hi)).tS) (fmz ⟨fun v W h=>zT (c:=(decide (qsg lo r<=0))=true) (f:=(fRV m r).tS) e h,fmz ⟨fun v W h=>zT (c:=(decide (qsg lo r<=0))=true) (f:=(fRV m hi).tS) e h,fnz⟩⟩) fP kI (zI zD zEl (fun u0 u1 W hb (h0:RVp m r u0 W) (h1:RVp m hi u1 W)=>zB8 h0 h1 hm hm0 (hT.below (s.up hb))))) fO)<|oc (zG 11 (decide (qsg lo r<=0)) kI iiz (fun e=>z5 [(14,(uI (qsg r hi)).tS)] ((uB (decide (qsg r hi<=0))).tS) (fmz ⟨fun v W h=>zT (c:=(decide (qsg lo r<=0))=true) (f:=(uI (qsg r hi)).tS) e h,fnz⟩) fP kI (zS .i64 (qsg r hi) 0 (decide (qsg r hi<=0)) iiz iiz rfl rfl)) fO)<|oc (yO (decide (qsg lo r<=0)) iiz (fun e v W h=>zAP (zT e h) e) (fun e v W h=>zAe h e))<|oc zF<|zC) fun a w2 s=> ?_
 refine zA rfl ?_
 refine zYL ?_
 exact wG s (t:=6) rfl iiz
theorem zHZ {x:Wq} {lo hi:Rat} (h1:RVp m lo u W) (h2:RVp m hi v W) (h3:RVp m r x W) (hm:m<=2000) (hm0:0<m) (hT:Tab W):Calls prog 52 #[u,v,x] W (Ret W (fQN (jC lo hi r)).tS):=by
 refine z9 [(fRV m lo).tS,(fRV m hi).tS,(fRV m r).tS] func52 rfl kI ⟨h1,h2,h3,trivial⟩ fun a s=> ?_
 refine zYK ?_
 refine zB 0 [] hmix s kI
  zC fun a w1 s=> ?_
 refine yK (wC (fRV m lo)) rfl s kI (fun v W h=>jZ h) fun b3 a w s=> ?_
 refine yK (wC (fRV m hi)) rfl s kI (fun v W h=>jZ h) fun b4 a w s=> ?_
 refine yK (wC (fRV m r)) rfl s kI (fun v W h=>jZ h) fun b5 a w s=> ?_
 refine zZ (CU.len 3) (cs:=zR3) kI rfl s kI (fun W=>rfl) rfl fun b6 a w s=> ?_
 refine zA rfl ?_
 refine zYK ?_
 refine zYK ?_
 refine zB 4 ((7,.Z (fRV m r))::(8,.Z (fRV m hi))::(9,.Z (uI (qsg r hi)))::(10,.u (uB (decide (qsg r hi>0)))):: []) hmix s kI
  (oc (zK (f:=fRV m r) 3 kI (hz:=y5 _ _))<|oc (zK (f:=fRV m hi) 3 kI (hz:=y5 _ _))<|oc (zI zD zEl (fun u0 u1 W hb (h0:RVp m r u0 W) (h1:RVp m hi u1 W)=>zB8 h0 h1 hm hm0 (hT.below (s.up hb))))<|oc (zS .i64 (qsg r hi) 0 (decide (qsg r hi>0)) iiz iiz rfl rfl)<|zC) fun a w2 s=> ?_
 refine zA rfl ?_
 refine StS.cond s (decide (qsg r hi>0)) iiz (fun e=> ?_) (fun e=> ?_)
 ·have e1:=e
  refine zB 1 ((11,.u (fRV m hi)):: []) hmix s kI
   (oc (zK (f:=fRV m hi) 3 kI (hz:=y5 _ _))<|zC) fun a w3 s=> ?_
  refine zQ (wC (fRV m hi)) ((fRV m hi).tS) rfl s kI rfl rfl rfl (y5 _ _) iiz zGi fun a w s=> ?_
  refine zA rfl ?_
  refine zYK ?_
  refine zYK ?_
  refine zB 4 ((12,.Z (fRV m hi))::(13,.Z (fRV m lo))::(14,.Z (uI (qsg hi lo)))::(15,.u (uB (decide (qsg hi lo<0)))):: []) hmix s kI
   (oc (zK (f:=fRV m hi) 3 kI (hz:=y5 _ _))<|oc (zK (f:=fRV m lo) 3 kI (hz:=y5 _ _))<|oc (zI zD zEl (fun u0 u1 W hb (h0:RVp m hi u0 W) (h1:RVp m lo u1 W)=>zB8 h0 h1 hm hm0 (hT.below (s.up hb))))<|oc (zS .i64 (qsg hi lo) 0 (decide (qsg hi lo<0)) iiz iiz rfl rfl)<|zC) fun a w4 s=> ?_
  refine zA rfl ?_
  refine StS.cond s (decide (qsg hi lo<0)) iiz (fun e=> ?_) (fun e=> ?_)
  ·refine zB 1 ((16,.u (fRV m lo)):: []) hmix s kI
    (oc (zK (f:=fRV m lo) 3 kI (hz:=y5 _ _))<|zC) fun a w5 s=> ?_
   refine zQ (wC (fRV m lo)) ((fRV m lo).tS) rfl s kI rfl rfl rfl (y5 _ _) iiz zGi fun a w s=> ?_
   refine zA rfl ?_
   refine zYK ?_
   refine zB 2 ((17,.Z (fRV m lo))::(18,.u (fQN lo)):: []) hmix s kI
    (oc (zK (f:=fRV m lo) 3 kI (hz:=y5 _ _))<|oc (zJ zD zK0 (fun u0 W hb (h0:RVp m lo u0 W)=>zD5 (m:=m) h0 hm hm0 (hT.below (s.up hb))))<|zC) fun a w6 s=> ?_
   refine zQ (wC (fQN lo)) ((fQN lo).tS) rfl s kI rfl rfl rfl iiz iiz yI fun a w s=> ?_
   refine zA rfl ?_
   refine zYL ?_
   exact wI s (wC (fQN lo)) rfl kI rfl rfl (qX _) (fun cs W h=>by rw [zKk e1 e];exact h)
  ·refine zYM ?_
   refine zYK ?_
   refine zB 2 ((17,.Z (fRV m hi))::(18,.u (fQN hi)):: []) hmix s kI
    (oc (zK (f:=fRV m hi) 3 kI (hz:=y5 _ _))<|oc (zJ zD zK0 (fun u0 W hb (h0:RVp m hi u0 W)=>zD5 (m:=m) h0 hm hm0 (hT.below (s.up hb))))<|zC) fun a w7 s=> ?_
   refine zQ (wC (fQN hi)) ((fQN hi).tS) rfl s kI rfl rfl rfl iiz iiz yI fun a w s=> ?_
   refine zA rfl ?_
   refine zYL ?_
   exact wI s (wC (fQN hi)) rfl kI rfl rfl (qX _) (fun cs W h=>by rw [zGY e1 e];exact h)
 ·have e1:=e
  refine zYM ?_
  refine zYK ?_
  refine zYK ?_
  refine zB 4 ((12,.Z (fRV m r))::(13,.Z (fRV m lo))::(14,.Z (uI (qsg r lo)))::(15,.u (uB (decide (qsg r lo<0)))):: []) hmix s kI
   (oc (zK (f:=fRV m r) 3 kI (hz:=y5 _ _))<|oc (zK (f:=fRV m lo) 3 kI (hz:=y5 _ _))<|oc (zI zD zEl (fun u0 u1 W hb (h0:RVp m r u0 W) (h1:RVp m lo u1 W)=>zB8 h0 h1 hm hm0 (hT.below (s.up hb))))<|oc (zS .i64 (qsg r lo) 0 (decide (qsg r lo<0)) iiz iiz rfl rfl)<|zC) fun a w8 s=> ?_
  refine zA rfl ?_
  refine StS.cond s (decide (qsg r lo<0)) iiz (fun e=> ?_) (fun e=> ?_)
  ·refine zB 1 ((16,.u (fRV m lo)):: []) hmix s kI
    (oc (zK (f:=fRV m lo) 3 kI (hz:=y5 _ _))<|zC) fun a w9 s=> ?_
   refine zQ (wC (fRV m lo)) ((fRV m lo).tS) rfl s kI rfl rfl rfl (y5 _ _) iiz zGi fun a w s=> ?_
   refine zA rfl ?_
   refine zYK ?_
   refine zB 2 ((17,.Z (fRV m lo))::(18,.u (fQN lo)):: []) hmix s kI
    (oc (zK (f:=fRV m lo) 3 kI (hz:=y5 _ _))<|oc (zJ zD zK0 (fun u0 W hb (h0:RVp m lo u0 W)=>zD5 (m:=m) h0 hm hm0 (hT.below (s.up hb))))<|zC) fun a w10 s=> ?_
   refine zQ (wC (fQN lo)) ((fQN lo).tS) rfl s kI rfl rfl rfl iiz iiz yI fun a w s=> ?_
   refine zA rfl ?_
   refine zYL ?_
   exact wI s (wC (fQN lo)) rfl kI rfl rfl (qX _) (fun cs W h=>by rw [zGZ e1 e];exact h)
  ·refine zYM ?_
   refine zYK ?_
   refine zB 2 ((17,.Z (fRV m r))::(18,.u (fQN r)):: []) hmix s kI
    (oc (zK (f:=fRV m r) 3 kI (hz:=y5 _ _))<|oc (zJ zD zK0 (fun u0 W hb (h0:RVp m r u0 W)=>zD5 (m:=m) h0 hm hm0 (hT.below (s.up hb))))<|zC) fun a w11 s=> ?_
   refine zQ (wC (fQN r)) ((fQN r).tS) rfl s kI rfl rfl rfl iiz iiz yI fun a w s=> ?_
   refine zA rfl ?_
   refine zYL ?_
   exact wI s (wC (fQN r)) rfl kI rfl rfl (qX _) (fun cs W h=>by rw [zG0 e1 e];exact h)
theorem zJY (h1:(fPR (fPV m lo) (fPV m hi)).p u W) (h2:(fPV m p).p v W) (hm:m<=2000) (hm0:0<m) (hT:Tab W):Calls prog 23 #[u,v] W (Ret W (fPN (y8 lo hi p)).tS):=by
 refine z9 [(fPR (fPV m lo) (fPV m hi)).tS,(fPV m p).tS] func23 rfl kI ⟨h1,h2,trivial⟩ fun a s=> ?_
 refine zYK ?_
 refine zB 0 [] hmix s kI
  zC fun a w1 s=> ?_
 refine yK (wC (fPR (fPV m lo) (fPV m hi))) rfl s kI (fun v W h=>zJB h) fun b2 a w s=> ?_
 refine yK (wC (fPV m p)) rfl s kI (fun v W h=>yS h) fun b3 a w s=> ?_
 refine zZ (CU.len 6) (cs:=zP6) kI rfl s kI (fun W=>rfl) rfl fun b4 a w s=> ?_
 refine zA rfl ?_
 refine zYK ?_
 refine z7 [] 19 ((5,.X (fPR (fPV m lo) (fPV m hi)) 0)::(6,.X (fPR (fPV m lo) (fPV m hi)) 0)::(7,.Z (fRV m ((lo).1)))::(8,.X (fPR (fPV m lo) (fPV m hi)) 6)::(9,.X (fPR (fPV m lo) (fPV m hi)) 6)::(10,.Z (fRV m ((hi).1)))::(11,.X (fPV m p) 0)::(12,.Z (fRV m ((p).1)))::(13,.Z (fQN (jC (lo).1 (hi).1 (p).1)))::(14,.X (fPR (fPV m lo) (fPV m hi)) 0)::(15,.X (fPR (fPV m lo) (fPV m hi)) 3)::(16,.Z (fRV m ((lo).2)))::(17,.X (fPR (fPV m lo) (fPV m hi)) 6)::(18,.X (fPR (fPV m lo) (fPV m hi)) 9)::(19,.Z (fRV m ((hi).2)))::(20,.X (fPV m p) 3)::(21,.Z (fRV m ((p).2)))::(22,.Z (fQN (jC (lo).2 (hi).2 (p).2)))::(23,.u (fPN (jC (lo).1 (hi).1 (p).1,jC (lo).2 (hi).2 (p).2))):: []) hmix s kI
  (oc (zL (C:=cg (fPR (fPV m lo) (fPV m hi))) 0 kI)<|oc (yW (C:=cg (fPR (fPV m lo) (fPV m hi))) 0 0 kI)<|oc (zR (C:=cg (fPR (fPV m lo) (fPV m hi))) (k:=0) 3 kI (h:=zSg))<|oc (zL (C:=cg (fPR (fPV m lo) (fPV m hi))) 6 kI)<|oc (yW (C:=cg (fPR (fPV m lo) (fPV m hi))) 6 0 kI)<|oc (zR (C:=cg (fPR (fPV m lo) (fPV m hi))) (k:=6) 3 kI (h:=zO0))<|oc (zL (C:=cg (fPV m p)) 0 kI)<|oc (zR (C:=cg (fPV m p)) (k:=0) 3 kI (h:=zDf))<|oc (zAS zD zUs (fun u0 u1 u2 W hb (h0:RVp m ((lo).1) u0 W) (h1:RVp m ((hi).1) u1 W) (h2:RVp m ((p).1) u2 W)=>zHZ (m:=m) h0 h1 h2 hm hm0 (hT.below (s.up hb))))<|oc (zL (C:=cg (fPR (fPV m lo) (fPV m hi))) 0 kI)<|oc (yW (C:=cg (fPR (fPV m lo) (fPV m hi))) 0 3 kI)<|oc (zR (C:=cg (fPR (fPV m lo) (fPV m hi))) (k:=3) 3 kI (h:=zSf))<|oc (zL (C:=cg (fPR (fPV m lo) (fPV m hi))) 6 kI)<|oc (yW (C:=cg (fPR (fPV m lo) (fPV m hi))) 6 3 kI)<|oc (zR (C:=cg (fPR (fPV m lo) (fPV m hi))) (k:=9) 3 kI (h:=zOZ))<|oc (zL (C:=cg (fPV m p)) 3 kI)<|oc (zR (C:=cg (fPV m p)) (k:=3) 3 kI (h:=zDe))<|oc (zAS zD zUs (fun u0 u1 u2 W hb (h0:RVp m ((lo).2) u0 W) (h1:RVp m ((hi).2) u1 W) (h2:RVp m ((p).2) u2 W)=>zHZ (m:=m) h0 h1 h2 hm hm0 (hT.below (s.up hb))))<|oc (y4 (fun u v W (hu:QNp (jC (lo).1 (hi).1 (p).1) u W) (hv:QNp (jC (lo).2 (hi).2 (p).2) v W)=>zPX (zAi _) (zAi _) hu hv))<|zC) fun Q' hQ a w2 s=> ?_
 refine zQ (wC (fPN (jC (lo).1 (hi).1 (p).1,jC (lo).2 (hi).2 (p).2))) ((fPN (jC (lo).1 (hi).1 (p).1,jC (lo).2 (hi).2 (p).2)).tS) rfl s kI rfl rfl rfl iiz iiz yT fun a w s=> ?_
 refine zA rfl (hQ _ _ ?_)
 refine zYL ?_
 exact wI s (wC (fPN (jC (lo).1 (hi).1 (p).1,jC (lo).2 (hi).2 (p).2))) rfl kI rfl rfl (zP _ _) (fun cs W h=>h)
theorem zSF {x:V2} (h1:(fPV m x).p u W) (h2:(wE (cg (fPR (fPV m lo) (fPV m hi)))).p v W) (hm:m<=2000) (hm0:0<m) (hT:Tab W):Calls prog 50 #[u,v] W (Ret W (fB (zNa lo hi x)).tS):=by
 refine z9 [(fPV m x).tS,wE (cg (fPR (fPV m lo) (fPV m hi)))] func50 rfl kI ⟨h1,h2,trivial⟩ fun a s=> ?_
 refine zYK ?_
 refine zB 0 [] hmix s kI
  zC fun a w1 s=> ?_
 refine yK (wC (fPV m x)) rfl s kI (fun v W h=>yS h) fun b2 a w s=> ?_
 refine yR (uB false) rfl s kI iiz fun a w s=> ?_
 refine zA rfl ?_
 refine zYK ?_
 replace s:=s.drop [3]
 refine zB 23 ((4,.X (fPR (fPV m lo) (fPV m hi)) 0)::(5,.X (fPR (fPV m lo) (fPV m hi)) 0)::(6,.Z (fRV m ((lo).1)))::(7,.X (fPR (fPV m lo) (fPV m hi)) 6)::(8,.X (fPR (fPV m lo) (fPV m hi)) 6)::(9,.Z (fRV m ((hi).1)))::(10,.X (fPV m x) 0)::(11,.Z (fRV m ((x).1)))::(12,.Z (uB (zBr (lo).1 (hi).1 (x).1)))::(13,.Z (uB (!(zBr (lo).1 (hi).1 (x).1))))::(14,.Z (uB (!(zBr (lo).1 (hi).1 (x).1))))::(15,.s (SF.imp ((!(zBr (lo).1 (hi).1 (x).1))=false) (wE ((wC (fPR (fPV m lo) (fPV m hi))).cf.at 0))))::(16,.s (SF.imp ((!(zBr (lo).1 (hi).1 (x).1))=false) (wE ((wC (fPR (fPV m lo) (fPV m hi))).cf.at 3))))::(17,.s (SF.imp ((!(zBr (lo).1 (hi).1 (x).1))=false) ((fRV m ((lo).2)).tS)))::(18,.s (SF.imp ((!(zBr (lo).1 (hi).1 (x).1))=false) (wE ((wC (fPR (fPV m lo) (fPV m hi))).cf.at 6))))::(19,.s (SF.imp ((!(zBr (lo).1 (hi).1 (x).1))=false) (wE ((wC (fPR (fPV m lo) (fPV m hi))).cf.at 9))))::(20,.s (SF.imp ((!(zBr (lo).1 (hi).1 (x).1))=false) ((fRV m ((hi).2)).tS)))::(21,.s (SF.imp ((!(zBr (lo).1 (hi).1 (x).1))=false) (wE ((wC (fPV m x)).cf.at 3))))::(22,.s (SF.imp ((!(zBr (lo).1 (hi).1 (x).1))=false) ((fRV m ((x).2)).tS)))::(23,.s (SF.imp ((!(zBr (lo).1 (hi).1 (x).1))=false) ((uB (zBr (lo).2 (hi).2 (x).2)).tS)))::(24,.s (SF.imp ((!(zBr (lo).1 (hi).1 (x).1))=false) ((uB (!(zBr (lo).2 (hi).2 (x).2))).tS)))::(25,.Z (uB ((!(zBr (lo).1 (hi).1 (x).1))||(!(zBr (lo).2 (hi).2 (x).2)))))::(3,.u (uB ((!(zBr (lo).1 (hi).1 (x).1))||(!(zBr (lo).2 (hi).2 (x).2))))):: []) hmix s kI
  (oc (zL (C:=cg (fPR (fPV m lo) (fPV m hi))) 0 kI)<|oc (yW (C:=cg (fPR (fPV m lo) (fPV m hi))) 0 0 kI)<|oc (zR (C:=cg (fPR (fPV m lo) (fPV m hi))) (k:=0) 3 kI (h:=zSg))<|oc (zL (C:=cg (fPR (fPV m lo) (fPV m hi))) 6 kI)<|oc (yW (C:=cg (fPR (fPV m lo) (fPV m hi))) 6 0 kI)<|oc (zR (C:=cg (fPR (fPV m lo) (fPV m hi))) (k:=6) 3 kI (h:=zO0))<|oc (zL (C:=cg (fPV m x)) 0 kI)<|oc (zR (C:=cg (fPV m x)) (k:=0) 3 kI (h:=zDf))<|oc (zAS zD zUt (fun u0 u1 u2 W hb (h0:RVp m ((lo).1) u0 W) (h1:RVp m ((hi).1) u1 W) (h2:RVp m ((x).1) u2 W)=>zQh (m:=m) h0 h1 h2 hm hm0 (hT.below (s.up hb))))<|oc (zBz (zBr (lo).1 (hi).1 (x).1) iiz (fun _=>rfl))<|oc zE<|oc (zG 14 (!(zBr (lo).1 (hi).1 (x).1)) kI iiz (fun e=>z5 [] (wE ((wC (fPR (fPV m lo) (fPV m hi))).cf.at 0)) fnz fP kI (zL (C:=cg (fPR (fPV m lo) (fPV m hi))) 0 kI)) fO)<|oc (zG 14 (!(zBr (lo).1 (hi).1 (x).1)) kI iiz (fun e=>z5 [(15,wE ((wC (fPR (fPV m lo) (fPV m hi))).cf.at 0))] (wE ((wC (fPR (fPV m lo) (fPV m hi))).cf.at 3)) (fmz ⟨fun v W h=>zT (c:=(!(zBr (lo).1 (hi).1 (x).1))=false) (f:=wE ((wC (fPR (fPV m lo) (fPV m hi))).cf.at 0)) e h,fnz⟩) fP kI (yW (C:=cg (fPR (fPV m lo) (fPV m hi))) 0 3 kI)) fO)<|oc (zG 14 (!(zBr (lo).1 (hi).1 (x).1)) kI iiz (fun e=>z5 [(16,wE ((wC (fPR (fPV m lo) (fPV m hi))).cf.at 3))] ((fRV m ((lo).2)).tS) (fmz ⟨fun v W h=>zT (c:=(!(zBr (lo).1 (hi).1 (x).1))=false) (f:=wE ((wC (fPR (fPV m lo) (fPV m hi))).cf.at 3)) e h,fnz⟩) fP kI (zR (C:=cg (fPR (fPV m lo) (fPV m hi))) (k:=3) 3 kI (h:=zSf))) fO)<|oc (zG 14 (!(zBr (lo).1 (hi).1 (x).1)) kI iiz (fun e=>z5 [] (wE ((wC (fPR (fPV m lo) (fPV m hi))).cf.at 6)) fnz fP kI (zL (C:=cg (fPR (fPV m lo) (fPV m hi))) 6 kI)) fO)<|oc (zG 14 (!(zBr (lo).1 (hi).1 (x).1)) kI iiz (fun e=>z5 [(18,wE ((wC (fPR (fPV m lo) (fPV m hi))).cf.at 6))] (wE ((wC (fPR (fPV m lo) (fPV m hi))).cf.at 9)) (fmz ⟨fun v W h=>zT (c:=(!(zBr (lo).1 (hi).1 (x).1))=false) (f:=wE ((wC (fPR (fPV m lo) (fPV m hi))).cf.at 6)) e h,fnz⟩) fP kI (yW (C:=cg (fPR (fPV m lo) (fPV m hi))) 6 3 kI)) fO)<|oc (zG 14 (!(zBr (lo).1 (hi).1 (x).1)) kI iiz (fun e=>z5 [(19,wE ((wC (fPR (fPV m lo) (fPV m hi))).cf.at 9))] ((fRV m ((hi).2)).tS) (fmz ⟨fun v W h=>zT (c:=(!(zBr (lo).1 (hi).1 (x).1))=false) (f:=wE ((wC (fPR (fPV m lo) (fPV m hi))).cf.at 9)) e h,fnz⟩) fP kI (zR (C:=cg (fPR (fPV m lo) (fPV m hi))) (k:=9) 3 kI (h:=zOZ))) fO)<|oc (zG 14 (!(zBr (lo).1 (hi).1 (x).1)) kI iiz (fun e=>z5 [] (wE ((wC (fPV m x)).cf.at 3)) fnz fP kI (zL (C:=cg (fPV m x)) 3 kI)) fO)<|oc (zG 14 (!(zBr (lo).1 (hi).1 (x).1)) kI iiz (fun e=>z5 [(21,wE ((wC (fPV m x)).cf.at 3))] ((fRV m ((x).2)).tS) (fmz ⟨fun v W h=>zT (c:=(!(zBr (lo).1 (hi).1 (x).1))=false) (f:=wE ((wC (fPV m x)).cf.at 3)) e h,fnz⟩) fP kI (zR (C:=cg (fPV m x)) (k:=3) 3 kI (h:=zDe))) fO)<|oc (zG 14 (!(zBr (lo).1 (hi).1 (x).1)) kI iiz (fun e=>z5 [(17,(fRV m ((lo).2)).tS),(20,(fRV m ((hi).2)).tS),(22,(fRV m ((x).2)).tS)] ((uB (zBr (lo).2 (hi).2 (x).2)).tS) (fmz ⟨fun v W h=>zT (c:=(!(zBr (lo).1 (hi).1 (x).1))=false) (f:=(fRV m ((lo).2)).tS) e h,fmz ⟨fun v W h=>zT (c:=(!(zBr (lo).1 (hi).1 (x).1))=false) (f:=(fRV m ((hi).2)).tS) e h,fmz ⟨fun v W h=>zT (c:=(!(zBr (lo).1 (hi).1 (x).1))=false) (f:=(fRV m ((x).2)).tS) e h,fnz⟩⟩⟩) fP kI (zAS zD zUt (fun u0 u1 u2 W hb (h0:RVp m ((lo).2) u0 W) (h1:RVp m ((hi).2) u1 W) (h2:RVp m ((x).2) u2 W)=>zQh (m:=m) h0 h1 h2 hm hm0 (hT.below (s.up hb))))) fO)<|oc (zG 14 (!(zBr (lo).1 (hi).1 (x).1)) kI iiz (fun e=>z5 [(23,(uB (zBr (lo).2 (hi).2 (x).2)).tS)] ((uB (!(zBr (lo).2 (hi).2 (x).2))).tS) (fmz ⟨fun v W h=>zT (c:=(!(zBr (lo).1 (hi).1 (x).1))=false) (f:=(uB (zBr (lo).2 (hi).2 (x).2)).tS) e h,fnz⟩) fP kI (zBz (zBr (lo).2 (hi).2 (x).2) iiz (fun _=>rfl))) fO)<|oc (yO (!(zBr (lo).1 (hi).1 (x).1)) iiz (fun e v W h=>zFf h e) (fun e v W h=>zDB (zT e h) e))<|oc zF<|zC) fun a w2 s=> ?_
 refine zA rfl ?_
 refine zYL ?_
 exact wG s (t:=3) rfl iiz
theorem zFX (h1:(fPR (fPV m lo) (fPV m hi)).p u W) (hl:(wD 6 (pvs m ps)).p l W) (hm:m<=2000) (hm0:0<m) (hn:ps.length<=1000000) (hT:Tab W):Calls prog 22 #[u,l] W (Ret W (fB (ps.all (zH0 lo hi))).tS):=by
 refine z9 [(fPR (fPV m lo) (fPV m hi)).tS,wD 6 (pvs m ps)] func22 rfl kI ⟨h1,hl,trivial⟩ fun a s=> ?_
 refine zYK ?_
 refine zB 0 [] hmix s kI
  zC fun a w1 s=> ?_
 refine yK (wC (fPR (fPV m lo) (fPV m hi))) rfl s kI (fun v W h=>zJB h) fun b2 a w s=> ?_
 refine yR (uB false) rfl s kI iiz fun a w s=> ?_
 refine zA rfl ?_
 refine zYK ?_
 replace s:=s.drop [4]
 refine zB 5 ((5,.s (wD 6 (pvs m ps)))::(6,.s (SF.fn prog (TB m (zNa lo hi))))::(7,.Z (uB (ps.any (zNa lo hi))))::(8,.Z (uB (!(ps.any (zNa lo hi)))))::(4,.u (uB (!(ps.any (zNa lo hi))))):: []) hmix s kI
  (oc zE<|oc (zEI (fun u W hb (h:(wK b2 (cg (fPR (fPV m lo) (fPV m hi)))).p u W)=>zJ1 (enters_of func50 kI rfl) (fun W' hb' args R ⟨u1,p,e,h1,hR⟩=>by subst e hR;simpa using zSF h1 ((wE _).st _ _ _ h.2 hb') hm hm0 ((hT.below (s.up hb)).below hb'))))<|oc (zI zD zWd (fun u0 u1 W hb (h0:(wD 6 (pvs m ps)).p u0 W) (h1:(SF.fn prog (TB m (zNa lo hi))).p u1 W)=>zXf h0 h1 hn))<|oc (zBz (ps.any (zNa lo hi)) iiz (fun _=>rfl))<|oc zF<|zC) fun a w2 s=> ?_
 refine zA rfl ?_
 refine zYL ?_
 exact wG s (t:=4) rfl (fun v W h=>by rw [<-zSB];exact h)
theorem zSE (hl:(wD 6 (pvs m ps)).p l W) (h1:(fPV m p).p v W) (hm:m<=159) (hm0:0<m) (hn:ps.length<=1000000) (hT:Tab W):Calls prog 9 #[l,v] W (Ret W (fB (inK ps p ps.length)).tS):=by
 refine z9 [(wB l).tS,(fPV m p).tS] func9 rfl kI ⟨rfl,h1,trivial⟩ fun a s=> ?_
 replace s:=s.renew [(0,.u (wB l)),(1,.u (fPV m p))] (fmz ⟨.inr ⟨_,rfl,.head _⟩,fmz ⟨.inr ⟨_,rfl,mz1⟩,fnz⟩⟩)
 refine zYK ?_
 refine zB 0 [] hmix s kI
  zC fun a w1 s=> ?_
 refine yK (wC (fPV m p)) rfl s kI (fun v W h=>yS h) fun b3 a w s=> ?_
 refine yR (uB false) rfl s kI iiz fun a w s=> ?_
 refine zA rfl ?_
 refine (wpIn_wide (n:=0)).2 (wp_scope_straight ((wpIn_wide (n:=0)).1 ?_))
 refine zYK ?_
 refine zB 4 ((8,.Z (wB l))::(9,.Z (uI ((pvs m ps).length:Int)))::(10,.Z (uB (inK ps p 0)))::(5,.u (uB (inK ps p 0))):: []) hmix s kI
  (oc zE<|oc (yV (z:=6) (Cs:=pvs m ps) kI (fun v W hb h=>(yU hl h (s.up hb))) (fun _=>rfl))<|oc (zS .i64 ((pvs m ps).length:Int) 3 (inK ps p 0) iiz iiz (by rw [zPt];simp only [zZa]) rfl)<|oc zF<|zC) fun a w2 s=> ?_
 refine zA rfl ?_
 refine zYK ?_
 refine wpIn_label ?_
 refine zYK ?_
 refine zYK ?_
 refine zB 3 ((11,.u (wB l))::(12,.u (uI ((pvs m ps).length:Int)))::(13,.u (uI 0)):: []) hmix s kI
  (oc zE<|oc (yV (z:=6) (Cs:=pvs m ps) kI (fun v W hb h=>(yU hl h (s.up hb))) (fun _=>rfl))<|oc zE<|zC) fun a w3 s=> ?_
 refine zA rfl ?_
 refine zYN ?_
 refine zAF (fun k=>k<=ps.length) (fun k=> [(0,.u (wB l)),(11,.u (wB l)),(12,.u (uI ((pvs m ps).length:Int))),(13,.u (uI ((k:Nat):Int))),(5,.u (uB (inK ps p k)))]) (fun k=>ps.length - k) (0:Nat) (zYV _) (s.keepK _ (fmz ⟨mz5,fmz ⟨.head _,fmz ⟨mz1,fmz ⟨mz2,fmz ⟨mz3,fnz⟩⟩⟩⟩⟩)) fun k a w hx s=> ?_
 have hlz:(pvs m ps).length=ps.length:=by simp
 refine zYK ?_
 refine zB 1 ((14,.u (uB (ltz k ((pvs m ps).length)))):: []) hmix s kI
  (oc (zS .i64 (k:Int) ((pvs m ps).length:Int) (ltz k ((pvs m ps).length)) iiz iiz rfl rfl)<|zC) fun a w4 s=> ?_
 refine zA rfl ?_
 refine zYK ?_
 refine StS.cond s (ltz k ((pvs m ps).length)) iiz (fun e=> ?_) (fun e=> ?_)
 ·have hk:k<ps.length:=by have h7:=zYT e;rw [hlz] at h7;omega
  have hni:((k+1) % ps.length)<ps.length:=Nat.mod_lt _ oP
  refine zYM ?_
  refine zYK ?_
  refine zYN ?_
  refine zYK ?_
  refine zB 3 ((15,.u (uI (k:Int)))::(16,.Y (fPV m (at_ ps k)))::(17,.u (fPV m (at_ ps k))):: []) hmix s kI
   (oc zE<|oc (yH (z:=6) (Cs:=pvs m ps) (i:=k) (C:=wC (fPV m (at_ ps k))) kI (q6 hk) (fun v W hb h=>(yU hl h (s.up hb))) iiz)<|oc (zK (f:=fPV m (at_ ps k)) 6 kI (hz:=zP _ _))<|zC) fun a w5 s=> ?_
  refine zZ (CU.len 6) (cs:=zP6) kI rfl s kI (fun W=>rfl) rfl fun b7 a w s=> ?_
  refine yR (uI (k:Int)) rfl s kI iiz fun a w s=> ?_
  refine zQ (wC (fPV m (at_ ps k))) ((fPV m (at_ ps k)).tS) rfl s kI rfl rfl rfl iiz iiz yT fun a w s=> ?_
  refine zA rfl ?_
  refine zYK ?_
  refine zIy (K:= [(6,.u (uI (k:Int))),(15,.u (uI (k:Int))),(17,.u (fPV m (at_ ps k))),(14,.u (uB (ltz k ((pvs m ps).length)))),(0,.u (wB l)),(11,.u (wB l)),(12,.u (uI ((pvs m ps).length:Int))),(13,.u (uI (k:Int)))]) [(5,.u (uB (inK ps p k)))] [0] 15 ((18,.Z (uB (inK ps p k)))::(19,.Z (uB (inK ps p k)))::(20,.s (SF.imp ((inK ps p k)=true) ((fPV m (at_ ps k)).tS)))::(21,.s (SF.imp ((inK ps p k)=true) ((wB l).tS)))::(22,.s (SF.imp ((inK ps p k)=true) ((uI (k:Int)).tS)))::(23,.s (SF.imp ((inK ps p k)=true) ((uI ((k+1:Nat):Int)).tS)))::(24,.s (SF.imp ((inK ps p k)=true) ((wB l).tS)))::(25,.s (SF.imp ((inK ps p k)=true) ((uI ((pvs m ps).length:Int)).tS)))::(26,.s (SF.imp ((inK ps p k)=true) ((uI ((((k+1) % ps.length):Nat):Int)).tS)))::(27,.s (SF.imp ((inK ps p k)=true) (wE (cg (fPV m (tn ps k))))))::(28,.s (SF.imp ((inK ps p k)=true) ((fPV m (tn ps k)).tS)))::(29,.s (SF.imp ((inK ps p k)=true) ((fPV m p).tS)))::(30,.s (SF.imp ((inK ps p k)=true) ((uI (zAG (at_ ps k) (tn ps k) p)).tS)))::(31,.s (SF.imp ((inK ps p k)=true) ((uB (zAG (at_ ps k) (tn ps k) p==1)).tS)))::(32,.u (uB ((inK ps p k)&&(zAG (at_ ps k) (tn ps k) p==1)))):: []) hmix (s.keepK _ (fmz ⟨mz8,fmz ⟨.head _,fmz ⟨mz1,fmz ⟨mz2,fmz ⟨mz3,fmz ⟨mz4,fmz ⟨mz5,fmz ⟨mz6,fmz ⟨mz7,fnz⟩⟩⟩⟩⟩⟩⟩⟩⟩)) kI
   (oc zE<|oc zE<|oc (zG 19 (inK ps p k) kI iiz (fun e=>z5 [] ((fPV m (at_ ps k)).tS) fnz fP kI (zK (f:=fPV m (at_ ps k)) 6 kI (hz:=zP _ _))) fO)<|oc (zG 19 (inK ps p k) kI iiz (fun e=>z5 [] ((wB l).tS) fnz fP kI zE) fO)<|oc (zG 19 (inK ps p k) kI iiz (fun e=>z5 [] ((uI (k:Int)).tS) fnz fP kI zE) fO)<|oc (zG 19 (inK ps p k) kI iiz (fun e=>z5 [(22,(uI (k:Int)).tS)] ((uI ((k+1:Nat):Int)).tS) (fmz ⟨fun v W h=>zT (c:=(inK ps p k)=true) (f:=(uI (k:Int)).tS) e h,fnz⟩) fP kI (yN .i64 (k:Int) 1 ((k+1:Nat):Int) iiz iiz (by rw [zYY];omega))) fO)<|oc (zG 19 (inK ps p k) kI iiz (fun e=>z5 [] ((wB l).tS) fnz fP kI zE) fO)<|oc (zG 19 (inK ps p k) kI iiz (fun e=>z5 [(24,(wB l).tS)] ((uI ((pvs m ps).length:Int)).tS) (fmz ⟨fun v W h=>zT (c:=(inK ps p k)=true) (f:=(wB l).tS) e h,fnz⟩) fP kI (yV (z:=6) (Cs:=pvs m ps) kI (fun v W hb h=>(yU hl h (s.up hb))) (fun _=>rfl))) fO)<|oc (zG 19 (inK ps p k) kI iiz (fun e=>z5 [(23,(uI ((k+1:Nat):Int)).tS),(25,(uI ((pvs m ps).length:Int)).tS)] ((uI ((((k+1) % ps.length):Nat):Int)).tS) (fmz ⟨fun v W h=>zT (c:=(inK ps p k)=true) (f:=(uI ((k+1:Nat):Int)).tS) e h,fmz ⟨fun v W h=>zT (c:=(inK ps p k)=true) (f:=(uI ((pvs m ps).length:Int)).tS) e h,fnz⟩⟩) fP kI (zFi .i64 ((k+1:Nat):Int) ((pvs m ps).length:Int) ((((k+1) % ps.length):Nat):Int) iiz iiz oP (by rw [hlz];exact zGp _ _))) fO)<|oc (zG 19 (inK ps p k) kI iiz (fun e=>z5 [(21,(wB l).tS),(26,(uI ((((k+1) % ps.length):Nat):Int)).tS)] (wE (cg (fPV m (tn ps k)))) (fmz ⟨fun v W h=>zT (c:=(inK ps p k)=true) (f:=(wB l).tS) e h,fmz ⟨fun v W h=>zT (c:=(inK ps p k)=true) (f:=(uI ((((k+1) % ps.length):Nat):Int)).tS) e h,fnz⟩⟩) fP kI (yH (z:=6) (Cs:=pvs m ps) (i:=((k+1) % ps.length)) (C:=wC (fPV m (tn ps k))) kI (q6 hni) (fun v W hb h=>(yU hl h (s.up hb))) iiz)) fO)<|oc (zG 19 (inK ps p k) kI iiz (fun e=>z5 [(27,wE (cg (fPV m (tn ps k))))] ((fPV m (tn ps k)).tS) (fmz ⟨fun v W h=>zT (c:=(inK ps p k)=true) (f:=wE (cg (fPV m (tn ps k)))) e h,fnz⟩) fP kI (zK (f:=fPV m (tn ps k)) 6 kI (hz:=zP _ _))) fO)<|oc (zG 19 (inK ps p k) kI iiz (fun e=>z5 [] ((fPV m p).tS) fnz fP kI (zK (f:=fPV m p) 6 kI (hz:=zP _ _))) fO)<|oc (zG 19 (inK ps p k) kI iiz (fun e=>z5 [(20,(fPV m (at_ ps k)).tS),(28,(fPV m (tn ps k)).tS),(29,(fPV m p).tS)] ((uI (zAG (at_ ps k) (tn ps k) p)).tS) (fmz ⟨fun v W h=>zT (c:=(inK ps p k)=true) (f:=(fPV m (at_ ps k)).tS) e h,fmz ⟨fun v W h=>zT (c:=(inK ps p k)=true) (f:=(fPV m (tn ps k)).tS) e h,fmz ⟨fun v W h=>zT (c:=(inK ps p k)=true) (f:=(fPV m p).tS) e h,fnz⟩⟩⟩) fP kI (zAS zD zWi (fun u0 u1 u2 W hb (h0:(fPV m (at_ ps k)).p u0 W) (h1:(fPV m (tn ps k)).p u1 W) (h2:(fPV m p).p u2 W)=>zRD (m:=m) h0 h1 h2 hm hm0 (hT.below (s.up hb))))) fO)<|oc (zG 19 (inK ps p k) kI iiz (fun e=>z5 [(30,(uI (zAG (at_ ps k) (tn ps k) p)).tS)] ((uB (zAG (at_ ps k) (tn ps k) p==1)).tS) (fmz ⟨fun v W h=>zT (c:=(inK ps p k)=true) (f:=(uI (zAG (at_ ps k) (tn ps k) p)).tS) e h,fnz⟩) fP kI (zS .i64 (zAG (at_ ps k) (tn ps k) p) 1 (zAG (at_ ps k) (tn ps k) p==1) iiz iiz rfl rfl)) fO)<|oc (yO (inK ps p k) iiz (fun e v W h=>zAP (zT e h) e) (fun e v W h=>zAe h e))<|zC) fun Q' hQ a w6 s=> ?_
  refine yR (uB (inK ps p (k+1))) rfl s kI (fun _ _ h=>by rw [zPu];exact h) fun a w s=> ?_
  refine zA rfl (hQ _ _ ?_)
  refine zYK ?_
  refine zB 2 ((33,.Z (uB (inK ps p (k+1))))::(34,.u (uB (!(inK ps p (k+1))))):: []) hmix s kI
   (oc zE<|oc (zBz (inK ps p (k+1)) iiz (fun _=>rfl))<|zC) fun a w7 s=> ?_
  refine zA rfl ?_
  refine StS.cond s (!(inK ps p (k+1))) iiz (fun e=> ?_) (fun e=> ?_)
  ·have e5:inK ps p (k+1)=false:=by simpa using e
   refine zYW ?_
   refine zYK ?_
   refine zB 2 ((36,.Z (uB (inK ps p (k+1))))::(4,.u (uB (inK ps p (k+1)))):: []) hmix s kI
    (oc zE<|oc zF<|zC) fun a w8 s=> ?_
   refine zA rfl ?_
   refine zYL ?_
   exact wG s (t:=4) rfl (fun v W h=>by rw [zPv e5 hk];rw [e5] at h;exact h)
  ·refine zYM ?_
   refine zX 1 ((35,.u (uI ((k+1:Nat):Int))):: []) s kI
    (oc (yN .i64 (k:Int) 1 ((k+1:Nat):Int) iiz iiz (wrap64 _ _ oP oP))<|zC) fun a w9 s=> ?_
   replace s:=s.drop [13]
   refine zAN (uI ((k+1:Nat):Int)) rfl s kI zE kI fun a w s=> ?_
   refine zA rfl ?_
   replace s:=s.popB
   exact ⟨k+1,hk,(by show ps.length - (k+1)<ps.length - k;omega),s.keepK _ (fmz ⟨mz9,fmz ⟨zPf,fmz ⟨zW7,fmz ⟨.head _,fmz ⟨mz3,fnz⟩⟩⟩⟩⟩)⟩
 ·have hkN:k=ps.length:=by have h7:=zYS e;rw [hlz] at h7;omega
  subst hkN
  refine zYW ?_
  refine zYK ?_
  refine zB 2 ((36,.Z (uB (inK ps p (ps.length))))::(4,.u (uB (inK ps p (ps.length)))):: []) hmix s kI
   (oc zE<|oc zF<|zC) fun a w10 s=> ?_
  refine zA rfl ?_
  refine zYL ?_
  exact wG s (t:=4) rfl iiz
section
variable {F:Fence} {m:Nat} {P:Program} {w0:Wp} {ops:Array Oper} {G:Nat->SF} {d:Tmp} {ty:Wr} {pos:String} {aft:Array Edge}
theorem qT {vs:List Wq} {b' o:Nat} {cs':List Wq} {D:CU} (k:Nat) (hk:zDm P t=true) (hx: ∀v W,(fct G x).p v W->(wE ((wC (wB (.agg vs.toArray))).cf.at k)).p v W) (hv:vs[k]?=some (pO b' o))
  (hb':w0.heap[b']?=some (.cells cs'.toArray te (0,0))) (hD:D.p cs' w0) (hd: ∀v W,(wE (D.cf.at o)).p v W->(G d).p v W:=by exact fun _ _ h=>h):qN F m P w0 ops G ⟨some d,.load t x,ty,pos,aft,none⟩:=
 qK (fun _ e=>by cases e) (fun _ e=>by cases e) fun b W hb hh=>by
  obtain ⟨a,q,cs,e,⟨ds,h2,rfl⟩,h3⟩:=hx _ _ (hh x (by simp [Op.operands]))
  have h4:ds=vs:=by
   have:=congrArg Array.toList (jL h2)
   simpa using this
  subst h4
  have h5:(ds.drop k)[0]?=some (pO b' o):=by rw [List.getElem?_drop];exact hv
  have hm:=(zA7 ((hb.block b' (zYZ.1 hb').1).trans hb')).drop o
  rw [Nat.zero_add] at hm
  refine ⟨_,by simp [execOp,Instr.loadAt,e,Instr.sureAddr,zBk hk h3 h5],hd _ _ ⟨b',o,_,rfl,⟨cs',D.us _ _ _ hD (zV hb),rfl⟩,hm⟩⟩
end
theorem zF5 (h:BlS S w0 w) (hb:bW w W):BlS S w0 W:=⟨hb.os.trans h.os,hb.tape.trans h.tape,hb.output.trans h.output,zYO h.size hb.size,fun k hk hs=>(hb.block k (zY2 hk h.size)).trans (h.block k hk hs)⟩
theorem bG3 (a b c:Ws Addr):prog.built 117 [(0,.pointer a),(1,.pointer b),(2,.pointer c)]=some #[.pointer a,.pointer b,.pointer c]:=by kernel_rfl
theorem bG2 (a b c a' b' c':Ws Addr):prog.built 118 [(0,.agg #[.pointer a,.pointer b,.pointer c]),(1,.agg #[.pointer a',.pointer b',.pointer c'])]=some #[.pointer a,.pointer b,.pointer c,.pointer a',.pointer b',.pointer c']:=by kernel_rfl
theorem zXd (a b c a' b' c':Ws Addr) (W:Wp):(Instr.index 118 (.agg #[.pointer a,.pointer b,.pointer c,.pointer a',.pointer b',.pointer c']) (.int .i64 0)).run prog W= .ok (.agg #[.pointer a,.pointer b,.pointer c]) W:=by kernel_rfl
theorem zXc (a b c a' b' c':Ws Addr) (W:Wp):(Instr.index 118 (.agg #[.pointer a,.pointer b,.pointer c,.pointer a',.pointer b',.pointer c']) (.int .i64 1)).run prog W= .ok (.agg #[.pointer a',.pointer b',.pointer c']) W:=by kernel_rfl
def mnR (lo r:Rat):Rat:=if decide (qsg r lo<0)=true then r else lo
def mxR (hi r:Rat):Rat:=if decide (qsg r hi>0)=true then r else hi
def gLo:Nat->V2->V2->V2
 |0,lo,_=>lo
 |1,lo,p=>(mnR lo.1 p.1,lo.2)
 |_+2,lo,p=>(mnR lo.1 p.1,mnR lo.2 p.2)
def gHi:Nat->V2->V2->V2
 |0,hi,_=>hi
 |1,hi,p=>(mxR hi.1 p.1,hi.2)
 |_+2,hi,p=>(mxR hi.1 p.1,mxR hi.2 p.2)
theorem zQP (e:decide (qsg (p).1 (gLo 0 lo p).1<0)=true):gLo 1 lo p=((p).1,(gLo 0 lo p).2):=by show (mnR lo.1 p.1,lo.2)=(p.1,lo.2);congr 1;exact if_pos e
theorem zQQ (e:decide (qsg (p).1 (gLo 0 lo p).1<0)=false):gLo 1 lo p=gLo 0 lo p:=by show (mnR lo.1 p.1,lo.2)=lo;unfold mnR;rw [if_neg (show ¬decide (qsg p.1 lo.1<0)=true from fun h=>by rw [show decide (qsg p.1 lo.1<0)=false from e] at h;cases h)]
theorem zQT (e:decide (qsg (p).1 (gHi 0 hi p).1>0)=true):gHi 1 hi p=((p).1,(gHi 0 hi p).2):=by show (mxR hi.1 p.1,hi.2)=(p.1,hi.2);congr 1;exact if_pos e
theorem zQU (e:decide (qsg (p).1 (gHi 0 hi p).1>0)=false):gHi 1 hi p=gHi 0 hi p:=by show (mxR hi.1 p.1,hi.2)=hi;unfold mxR;rw [if_neg (show ¬decide (qsg p.1 hi.1>0)=true from fun h=>by rw [show decide (qsg p.1 hi.1>0)=false from e] at h;cases h)]
theorem zQN (e:decide (qsg (p).2 (gLo 1 lo p).2<0)=true):gLo 2 lo p=((gLo 1 lo p).1,(p).2):=by show (mnR lo.1 p.1,mnR lo.2 p.2)=(mnR lo.1 p.1,p.2);congr 1;exact if_pos e
theorem zQO (e:decide (qsg (p).2 (gLo 1 lo p).2<0)=false):gLo 2 lo p=gLo 1 lo p:=by show (mnR lo.1 p.1,mnR lo.2 p.2)=(mnR lo.1 p.1,lo.2);congr 1;exact if_neg (fun h=>by rw [show decide (qsg p.2 lo.2<0)=false from e] at h;cases h)
theorem zQR (e:decide (qsg (p).2 (gHi 1 hi p).2>0)=true):gHi 2 hi p=((gHi 1 hi p).1,(p).2):=by show (mxR hi.1 p.1,mxR hi.2 p.2)=(mxR hi.1 p.1,p.2);congr 1;exact if_pos e
theorem zQS (e:decide (qsg (p).2 (gHi 1 hi p).2>0)=false):gHi 2 hi p=gHi 1 hi p:=by show (mxR hi.1 p.1,mxR hi.2 p.2)=(mxR hi.1 p.1,hi.2);congr 1;exact if_neg (fun h=>by rw [show decide (qsg p.2 hi.2>0)=false from e] at h;cases h)
section
variable {f g f' g':UF} {m:Nat} {q:Rat}
theorem zCF (h:(wC (fPR (fPT f g) (fPT f' g'))).p cs W): ∃s A n c A' n' c' s2 B k d B' k' d' t E l e E' l' e' t2 H i j H' i' j',cs= [.bool s,.slice A n c,.slice A' n' c',.bool s2,.slice B k d,.slice B' k' d',.bool t,.slice E l e,.slice E' l' e',.bool t2,.slice H i j,.slice H' i' j']/\f.p (.agg #[.bool s,.slice A n c,.slice A' n' c']) W/\g.p (.agg #[.bool s2,.slice B k d,.slice B' k' d']) W/\f'.p (.agg #[.bool t,.slice E l e,.slice E' l' e']) W/\g'.p (.agg #[.bool t2,.slice H i j,.slice H' i' j']) W:=by
 obtain ⟨a,b,rfl,l1,l2,ha,hb⟩:=zBp h
 obtain ⟨s,A,n,c,A',n',c',s2,B,k,d,B',k',d',e1,g1,g2⟩:=ha
 obtain ⟨t,E,l,e,E',l',e',t2,H,i,j,H',i',j',e2,g3,g4⟩:=hb
 have r1:a=_:=congrArg Array.toList (jL e1)
 have r2:b=_:=congrArg Array.toList (jL e2)
 subst r1 r2
 exact ⟨s,A,n,c,A',n',c',s2,B,k,d,B',k',d',t,E,l,e,E',l',e',t2,H,i,j,H',i',j',rfl,g1,g2,g3,g4⟩
theorem zDr {s:Bool} {A':Ws Addr} {n' c':Nat} {s2:Bool} {B B':Ws Addr} {k' d':Nat} {t:Bool} {E E':Ws Addr} {l l' e e':Nat} {t2:Bool} {H H':Ws Addr} {i' j':Nat} (h1:f.p (.agg #[.bool s,.slice A n c,.slice A' n' c']) W) (h2:g.p (.agg #[.bool s2,.slice B k d,.slice B' k' d']) W) (h3:f'.p (.agg #[.bool t,.slice E l e,.slice E' l' e']) W) (h4:g'.p (.agg #[.bool t2,.slice H i j,.slice H' i' j']) W):(wC (fPR (fPT f g) (fPT f' g'))).p [.bool s,.slice A n c,.slice A' n' c',.bool s2,.slice B k d,.slice B' k' d',.bool t,.slice E l e,.slice E' l' e',.bool t2,.slice H i j,.slice H' i' j'] W:=
 ⟨[.bool s,.slice A n c,.slice A' n' c',.bool s2,.slice B k d,.slice B' k' d'], [.bool t,.slice E l e,.slice E' l' e',.bool t2,.slice H i j,.slice H' i' j'],rfl,⟨s,A,n,c,A',n',c',s2,B,k,d,B',k',d',rfl,h1,h2⟩,⟨t,E,l,e,E',l',e',t2,H,i,j,H',i',j',rfl,h3,h4⟩⟩
theorem zRC {b:Nat} {z:Nat×Nat} (hT:Tab W) (hh:W.heap[b]?=some (.cells cs.toArray te z)) (hc:(wC (fPR (fPT f g) (fPT f' g'))).p cs W) (h:BlS (fun q=>q=b) W w):Tab w:=fun j hj=>by
 have hne:0≠b:=fun e=>by
  have h0:=hT 0 dB
  obtain ⟨s,A,n,c,A',n',c',s2,B,k,d,B',k',d',t,E,l,e2,E',l',e',t2,H,i,j',H',i',j'',rfl,_⟩:=zCF hc
  subst e
  unfold World.cell? at h0
  simp only [hh] at h0
  simp at h0
 have hlt:=z4 (hT j hj)
 exact (World.cell?_of_block (h.block _ hlt hne)).trans (hT j hj)
theorem zVo (v:Wq) (W:Wp) (h:(fRV m q).p v W):v.cells.size=3/\(∀u,u∈v.cells.toList->u.oneCell'=true)/\v.cells.toList.all yA=true/\ ∀cs,(wC (fPR (fPT f g) (fPT f' g'))).p cs W->0+3<=cs.length/\(wC (fPR (fPT (fRV m q) g) (fPT f' g'))).p (jX cs 0 v.cells.toList) W:=by
 obtain ⟨kk,dd,h1,h2⟩:=h
 obtain ⟨sg,X,x1,x2,X',x3,x4,rfl⟩:=zBM h1
 refine ⟨rfl,fun u hu=>zBJ u hu,rfl,fun cs hc=> ?_⟩
 obtain ⟨s,A,n,c,A',n',c',s2,B,k,d,B',k',d',t,E,l,e,E',l',e',t2,H,i,j,H',i',j',rfl,g1,g2,g3,g4⟩:=zCF hc
 exact ⟨by simp,zDr ⟨kk,dd,h1,h2⟩ g2 g3 g4⟩
theorem zVn (v:Wq) (W:Wp) (h:(fRV m q).p v W):v.cells.size=3/\(∀u,u∈v.cells.toList->u.oneCell'=true)/\v.cells.toList.all yA=true/\ ∀cs,(wC (fPR (fPT f g) (fPT f' g'))).p cs W->3+3<=cs.length/\(wC (fPR (fPT f (fRV m q)) (fPT f' g'))).p (jX cs 3 v.cells.toList) W:=by
 obtain ⟨kk,dd,h1,h2⟩:=h
 obtain ⟨sg,X,x1,x2,X',x3,x4,rfl⟩:=zBM h1
 refine ⟨rfl,fun u hu=>zBJ u hu,rfl,fun cs hc=> ?_⟩
 obtain ⟨s,A,n,c,A',n',c',s2,B,k,d,B',k',d',t,E,l,e,E',l',e',t2,H,i,j,H',i',j',rfl,g1,g2,g3,g4⟩:=zCF hc
 exact ⟨by simp,zDr g1 ⟨kk,dd,h1,h2⟩ g3 g4⟩
theorem zTl (v:Wq) (W:Wp) (h:(fRV m q).p v W):v.cells.size=3/\(∀u,u∈v.cells.toList->u.oneCell'=true)/\v.cells.toList.all yA=true/\ ∀cs,(wC (fPR (fPT f g) (fPT f' g'))).p cs W->6+3<=cs.length/\(wC (fPR (fPT f g) (fPT (fRV m q) g'))).p (jX cs 6 v.cells.toList) W:=by
 obtain ⟨kk,dd,h1,h2⟩:=h
 obtain ⟨sg,X,x1,x2,X',x3,x4,rfl⟩:=zBM h1
 refine ⟨rfl,fun u hu=>zBJ u hu,rfl,fun cs hc=> ?_⟩
 obtain ⟨s,A,n,c,A',n',c',s2,B,k,d,B',k',d',t,E,l,e,E',l',e',t2,H,i,j,H',i',j',rfl,g1,g2,g3,g4⟩:=zCF hc
 exact ⟨by simp,zDr g1 g2 ⟨kk,dd,h1,h2⟩ g4⟩
theorem zTk (v:Wq) (W:Wp) (h:(fRV m q).p v W):v.cells.size=3/\(∀u,u∈v.cells.toList->u.oneCell'=true)/\v.cells.toList.all yA=true/\ ∀cs,(wC (fPR (fPT f g) (fPT f' g'))).p cs W->9+3<=cs.length/\(wC (fPR (fPT f g) (fPT f' (fRV m q)))).p (jX cs 9 v.cells.toList) W:=by
 obtain ⟨kk,dd,h1,h2⟩:=h
 obtain ⟨sg,X,x1,x2,X',x3,x4,rfl⟩:=zBM h1
 refine ⟨rfl,fun u hu=>zBJ u hu,rfl,fun cs hc=> ?_⟩
 obtain ⟨s,A,n,c,A',n',c',s2,B,k,d,B',k',d',t,E,l,e,E',l',e',t2,H,i,j,H',i',j',rfl,g1,g2,g3,g4⟩:=zCF hc
 exact ⟨by simp,zDr g1 g2 g3 ⟨kk,dd,h1,h2⟩⟩
end
theorem zSz {b:Nat} (hh:W.heap[b]?=some (.cells cs.toArray 47 (0,0))) (hc:(wC (fPR (fPV m lo) (fPV m hi))).p cs W) (h1:(fPV m p).p v W) (hm:m<=2000) (hm0:0<m) (hT:Tab W):Calls prog 59 #[pO b 0,v] W (zLb W b 47 (wC (fPR (fPV m (gLo 2 lo p)) (fPV m (gHi 2 hi p)))) UF.any.tS):=by
 have hTb: ∀w,BlS (fun q=>q=b) W w->Tab w:=fun w h=>zRC hT hh hc h
 refine zE7 b [(0,wB (pO b 0)),(1,fPV m p)] [⟨0,47,wC (fPR (fPV m (gLo 0 lo p)) (fPV m (gHi 0 hi p))),b,false⟩] func59 rfl kI (fun x hx=>by simp at hx;rcases hx with rfl|rfl;exact ⟨by simp,rfl⟩;exact ⟨by simp,h1⟩) ⟨⟨cs,rfl,.inr (.inr rfl),hh,hc,(zKN _ _ hc).2.1,fun y hy=>by cases hy⟩,trivial⟩ (fun x hx=>by simp at hx;subst hx;simp) fun a s=> ?_
 refine zYK ?_
 refine zB 0 [] hmix s kI
  zC fun a w1 s=> ?_
 refine yK (wC (fPV m p)) rfl s kI (fun v W h=>yS h) fun b3 a w s=> ?_
 refine zA rfl ?_
 refine zYK ?_
 refine zB 22 ((6,.Z (wB (pO b 0)))::(7,.Z (wB (pO b 0)))::(8,.Z (wB (pO b 0)))::(9,.Z (wB (pO b 0)))::(10,.Z (wB (pO b 0)))::(11,.Z (wB (pO b 0)))::(12,.Z (wB (pO b 6)))::(13,.Z (wB (pO b 6)))::(14,.Z (wB (pO b3 0)))::(15,.Z (wB (.agg #[pO b 0,pO b 6,pO b3 0])))::(16,.Z (wB (pO b 0)))::(17,.Z (wB (pO b 0)))::(18,.Z (wB (pO b 0)))::(19,.Z (wB (pO b 3)))::(20,.Z (wB (pO b 0)))::(21,.Z (wB (pO b 0)))::(22,.Z (wB (pO b 6)))::(23,.Z (wB (pO b 9)))::(24,.Z (wB (pO b3 3)))::(25,.Z (wB (.agg #[pO b 3,pO b 9,pO b3 3])))::(26,.u (wB (.agg #[pO b 0,pO b 6,pO b3 0,pO b 3,pO b 9,pO b3 3])))::(27,.u (uI 0)):: []) hmix s kI
  (oc (zE (fun _ _ _ h=>h.1))<|oc (j9 (a:=⟨b,0,none⟩) iiz)<|oc (qC (b:=b) (o:=0) 0 kI iiz)<|oc (qC (b:=b) (o:=0) 0 kI iiz)<|oc (zE (fun _ _ _ h=>h.1))<|oc (j9 (a:=⟨b,0,none⟩) iiz)<|oc (qC (b:=b) (o:=0) 6 kI iiz)<|oc (qC (b:=b) (o:=6) 0 kI iiz)<|oc (qC (b:=b3) (o:=0) 0 kI (fun _ _ h=>h.1))<|oc (zCa (fun u v q W (hu:u= pO b 0) (hv:v= pO b 6) (hq:q= pO b3 0)=>by subst hu hv hq;exact ⟨_,bG3 _ _ _,rfl⟩))<|oc (zE (fun _ _ _ h=>h.1))<|oc (j9 (a:=⟨b,0,none⟩) iiz)<|oc (qC (b:=b) (o:=0) 0 kI iiz)<|oc (qC (b:=b) (o:=0) 3 kI iiz)<|oc (zE (fun _ _ _ h=>h.1))<|oc (j9 (a:=⟨b,0,none⟩) iiz)<|oc (qC (b:=b) (o:=0) 6 kI iiz)<|oc (qC (b:=b) (o:=6) 3 kI iiz)<|oc (qC (b:=b3) (o:=0) 3 kI (fun _ _ h=>h.1))<|oc (zCa (fun u v q W (hu:u= pO b 3) (hv:v= pO b 9) (hq:q= pO b3 3)=>by subst hu hv hq;exact ⟨_,bG3 _ _ _,rfl⟩))<|oc (y4 (fun u v W (hu:u= .agg #[pO b 0,pO b 6,pO b3 0]) (hv:v= .agg #[pO b 3,pO b 9,pO b3 3])=>by subst hu hv;exact ⟨_,bG2 _ _ _ _ _ _,rfl⟩))<|oc zE<|zC) fun a w2 s=> ?_
 refine zA rfl ?_
 refine zYN ?_
 refine zDu 0 (fun k=>wC (fPR (fPV m (gLo k lo p)) (fPV m (gHi k hi p)))) (fun k=>k<=2) (fun k=> [(26,.u (wB (.agg #[pO b 0,pO b 6,pO b3 0,pO b 3,pO b 9,pO b3 3]))),(27,.u (uI ((k:Nat):Int)))]) (fun k=>2 - k) (0:Nat) (zYV _) (s.keepK _ (fmz ⟨.head _,fmz ⟨mz1,fnz⟩⟩)) rfl fun k a w hx s=> ?_
 refine zYK ?_
 refine zB 1 ((28,.u (uB (decide ((k:Int)<2)))):: []) hmix s kI
  (oc (zS .i64 (k:Int) 2 (decide ((k:Int)<2)) iiz iiz rfl rfl)<|zC) fun a w3 s=> ?_
 refine zA rfl ?_
 refine zYK ?_
 refine StS.cond s (decide ((k:Int)<2)) iiz (fun e=> ?_) (fun e=> ?_)
 ·refine zYM ?_
  refine zYK ?_
  refine zYN ?_
  refine zYK ?_
  rcases (show k=0∨k=1 by have:=zYT e;omega) with rfl|rfl
  ·refine zB 1 ((29,.u (wB (.agg #[pO b 0,pO b 6,pO b3 0]))):: []) hmix s kI
    (oc (zMy (.agg #[pO b 0,pO b 6,pO b3 0,pO b 3,pO b 9,pO b3 3]) (.int .i64 0) (.agg #[pO b 0,pO b 6,pO b3 0]) iiz iiz (fun W=>zXd _ _ _ _ _ _ W))<|zC) fun a w4 s=> ?_
   refine zZ (CU.len 3) (cs:= [.pointer none,.pointer none,.pointer none]) kI rfl s kI (fun W=>rfl) rfl fun b5 a w s=> ?_
   refine zQ (wC (wB (.agg #[pO b 0,pO b 6,pO b3 0]))) ((wB (.agg #[pO b 0,pO b 6,pO b3 0])).tS) rfl s kI rfl rfl rfl iiz iiz (zIj (vs:= [pO b 0,pO b 6,pO b3 0]) rfl (by intro u hu;simp at hu;rcases hu with rfl|rfl|rfl<;>rfl) rfl) fun a w s=> ?_
   refine zA rfl ?_
   refine zYK ?_
   refine zYK ?_
   obtain ⟨cs0,hh0,hc0,_⟩:=s.boxAt (c:=0) rfl
   obtain ⟨cs3,hh3,hc3,_⟩:=s.boxAt (c:=3) rfl
   refine zB 10 ((30,.X (wB (.agg #[pO b 0,pO b 6,pO b3 0])) 2)::(31,.X (fPV m p) 0)::(32,.X (fPV m p) 0)::(33,.Z (fRV m ((p).1)))::(34,.X (wB (.agg #[pO b 0,pO b 6,pO b3 0])) 0)::(35,.X (fPR (fPV m (gLo 0 lo p)) (fPV m (gHi 0 hi p))) 0)::(36,.X (fPR (fPV m (gLo 0 lo p)) (fPV m (gHi 0 hi p))) 0)::(37,.Z (fRV m ((gLo 0 lo p).1)))::(38,.Z (uI (qsg (p).1 (gLo 0 lo p).1)))::(39,.u (uB (decide (qsg (p).1 (gLo 0 lo p).1<0)))):: []) hmix s kI
    (oc (zL (C:=cg (wB (.agg #[pO b 0,pO b 6,pO b3 0]))) 2 kI)<|oc (qT (vs:= [pO b 0,pO b 6,pO b3 0]) (b':=b3) (o:=0) (D:=wC (fPV m p)) 2 kI iiz rfl hh3 hc3)<|oc (qF (C:=((wC (fPV m p)).cf.at 0)))<|oc (zR (C:=cg (fPV m p)) (k:=0) 3 kI (h:=zDf))<|oc (zL (C:=cg (wB (.agg #[pO b 0,pO b 6,pO b3 0]))) 0 kI)<|oc (qT (vs:= [pO b 0,pO b 6,pO b3 0]) (b':=b) (o:=0) (D:=wC (fPR (fPV m (gLo 0 lo p)) (fPV m (gHi 0 hi p)))) 0 kI iiz rfl hh0 hc0)<|oc (qF (C:=((wC (fPR (fPV m (gLo 0 lo p)) (fPV m (gHi 0 hi p)))).cf.at 0)))<|oc (zR (C:=cg (fPR (fPV m (gLo 0 lo p)) (fPV m (gHi 0 hi p)))) (k:=0) 3 kI (h:=zSg))<|oc (zI zD zEl (fun u0 u1 W hb (h0:RVp m ((p).1) u0 W) (h1:RVp m ((gLo 0 lo p).1) u1 W)=>zB8 h0 h1 hm hm0 (hTb _ (zF5 s.gr hb))))<|oc (zS .i64 (qsg (p).1 (gLo 0 lo p).1) 0 (decide (qsg (p).1 (gLo 0 lo p).1<0)) iiz iiz rfl rfl)<|zC) fun a w5 s=> ?_
   refine zA rfl ?_
   refine StS.cond s (decide (qsg (p).1 (gLo 0 lo p).1<0)) iiz (fun e=> ?_) (fun e=> ?_)
   ·have eLo:=e
    obtain ⟨cs0,hh0,hc0,_⟩:=s.boxAt (c:=0) rfl
    obtain ⟨cs3,hh3,hc3,_⟩:=s.boxAt (c:=3) rfl
    refine z7 [] 7 ((40,.X (wB (.agg #[pO b 0,pO b 6,pO b3 0])) 0)::(41,.Z (wB (pO b 0)))::(42,.X (wB (.agg #[pO b 0,pO b 6,pO b3 0])) 2)::(43,.X (fPV m p) 0)::(44,.X (fPV m p) 0)::(45,.u (fRV m ((p).1)))::(46,.u (wB (pO b 0))):: []) hmix s kI
     (oc (zL (C:=cg (wB (.agg #[pO b 0,pO b 6,pO b3 0]))) 0 kI)<|oc (jJ (C:=cg (wB (.agg #[pO b 0,pO b 6,pO b3 0]))) (k:=0) kI (h:=zEm (vs:= [pO b 0,pO b 6,pO b3 0]) rfl))<|oc (zL (C:=cg (wB (.agg #[pO b 0,pO b 6,pO b3 0]))) 2 kI)<|oc (qT (vs:= [pO b 0,pO b 6,pO b3 0]) (b':=b3) (o:=0) (D:=wC (fPV m p)) 2 kI iiz rfl hh3 hc3)<|oc (qF (C:=((wC (fPV m p)).cf.at 0)))<|oc (zR (C:=cg (fPV m p)) (k:=0) 3 kI (h:=zDf))<|oc (j9 (a:=⟨b,0,none⟩) iiz)<|zC) fun Q' hQ a w6 s=> ?_
    refine jA (c:=0) (o:=0) (kk:=3) (wC (fPR (fPV m ((p).1,(gLo 0 lo p).2)) (fPV m (gHi 0 hi p)))) ((fRV m ((p).1)).tS) rfl s kI rfl rfl iiz iiz zVo fun a w s=> ?_
    refine zA rfl (hQ _ _ ?_)
    refine zYK ?_
    obtain ⟨cs0,hh0,hc0,_⟩:=s.boxAt (c:=0) rfl
    obtain ⟨cs3,hh3,hc3,_⟩:=s.boxAt (c:=3) rfl
    refine zB 10 ((47,.X (wB (.agg #[pO b 0,pO b 6,pO b3 0])) 2)::(48,.X (fPV m p) 0)::(49,.X (fPV m p) 0)::(50,.Z (fRV m ((p).1)))::(51,.X (wB (.agg #[pO b 0,pO b 6,pO b3 0])) 1)::(52,.X (fPR (fPV m ((p).1,(gLo 0 lo p).2)) (fPV m (gHi 0 hi p))) 6)::(53,.X (fPR (fPV m ((p).1,(gLo 0 lo p).2)) (fPV m (gHi 0 hi p))) 6)::(54,.Z (fRV m ((gHi 0 hi p).1)))::(55,.Z (uI (qsg (p).1 (gHi 0 hi p).1)))::(56,.u (uB (decide (qsg (p).1 (gHi 0 hi p).1>0)))):: []) hmix s kI
     (oc (zL (C:=cg (wB (.agg #[pO b 0,pO b 6,pO b3 0]))) 2 kI)<|oc (qT (vs:= [pO b 0,pO b 6,pO b3 0]) (b':=b3) (o:=0) (D:=wC (fPV m p)) 2 kI iiz rfl hh3 hc3)<|oc (qF (C:=((wC (fPV m p)).cf.at 0)))<|oc (zR (C:=cg (fPV m p)) (k:=0) 3 kI (h:=zDf))<|oc (zL (C:=cg (wB (.agg #[pO b 0,pO b 6,pO b3 0]))) 1 kI)<|oc (qT (vs:= [pO b 0,pO b 6,pO b3 0]) (b':=b) (o:=6) (D:=wC (fPR (fPV m ((p).1,(gLo 0 lo p).2)) (fPV m (gHi 0 hi p)))) 1 kI iiz rfl hh0 hc0)<|oc (qF (C:=((wC (fPR (fPV m ((p).1,(gLo 0 lo p).2)) (fPV m (gHi 0 hi p)))).cf.at 6)))<|oc (zR (C:=cg (fPR (fPV m ((p).1,(gLo 0 lo p).2)) (fPV m (gHi 0 hi p)))) (k:=6) 3 kI (h:=zO0))<|oc (zI zD zEl (fun u0 u1 W hb (h0:RVp m ((p).1) u0 W) (h1:RVp m ((gHi 0 hi p).1) u1 W)=>zB8 h0 h1 hm hm0 (hTb _ (zF5 s.gr hb))))<|oc (zS .i64 (qsg (p).1 (gHi 0 hi p).1) 0 (decide (qsg (p).1 (gHi 0 hi p).1>0)) iiz iiz rfl rfl)<|zC) fun a w7 s=> ?_
    refine zA rfl ?_
    refine StS.cond s (decide (qsg (p).1 (gHi 0 hi p).1>0)) iiz (fun e=> ?_) (fun e=> ?_)
    ·have eHi:=e
     obtain ⟨cs0,hh0,hc0,_⟩:=s.boxAt (c:=0) rfl
     obtain ⟨cs3,hh3,hc3,_⟩:=s.boxAt (c:=3) rfl
     refine z7 [] 7 ((57,.X (wB (.agg #[pO b 0,pO b 6,pO b3 0])) 1)::(58,.Z (wB (pO b 6)))::(59,.X (wB (.agg #[pO b 0,pO b 6,pO b3 0])) 2)::(60,.X (fPV m p) 0)::(61,.X (fPV m p) 0)::(62,.u (fRV m ((p).1)))::(63,.u (wB (pO b 6))):: []) hmix s kI
      (oc (zL (C:=cg (wB (.agg #[pO b 0,pO b 6,pO b3 0]))) 1 kI)<|oc (jJ (C:=cg (wB (.agg #[pO b 0,pO b 6,pO b3 0]))) (k:=1) kI (h:=zEm (vs:= [pO b 0,pO b 6,pO b3 0]) rfl))<|oc (zL (C:=cg (wB (.agg #[pO b 0,pO b 6,pO b3 0]))) 2 kI)<|oc (qT (vs:= [pO b 0,pO b 6,pO b3 0]) (b':=b3) (o:=0) (D:=wC (fPV m p)) 2 kI iiz rfl hh3 hc3)<|oc (qF (C:=((wC (fPV m p)).cf.at 0)))<|oc (zR (C:=cg (fPV m p)) (k:=0) 3 kI (h:=zDf))<|oc (j9 (a:=⟨b,6,none⟩) iiz)<|zC) fun Q' hQ a w8 s=> ?_
     refine jA (c:=0) (o:=6) (kk:=3) (wC (fPR (fPV m ((p).1,(gLo 0 lo p).2)) (fPV m ((p).1,(gHi 0 hi p).2)))) ((fRV m ((p).1)).tS) rfl s kI rfl rfl iiz iiz zTl fun a w s=> ?_
     refine zA rfl (hQ _ _ ?_)
     refine zX 1 ((64,.u (uI ((0+1:Nat):Int))):: []) s kI
      (oc (yN .i64 ((0:Nat):Int) 1 ((0+1:Nat):Int) iiz iiz (wrap64 _ _ oP oP))<|zC) fun a w9 s=> ?_
     replace s:=s.drop [27]
     refine zAN (uI ((0+1:Nat):Int)) rfl s kI zE kI fun a w s=> ?_
     refine zA rfl ?_
     rw [<-zQP eLo] at s
     rw [<-zQT eHi] at s
     replace s:=s.popB
     exact ⟨(0+1),dB,dB,s.keepK _ (fmz ⟨zPf,fmz ⟨.head _,fnz⟩⟩)⟩
    ·have eHi:=e
     refine zYM ?_
     refine zX 1 ((64,.u (uI ((0+1:Nat):Int))):: []) s kI
      (oc (yN .i64 ((0:Nat):Int) 1 ((0+1:Nat):Int) iiz iiz (wrap64 _ _ oP oP))<|zC) fun a w10 s=> ?_
     replace s:=s.drop [27]
     refine zAN (uI ((0+1:Nat):Int)) rfl s kI zE kI fun a w s=> ?_
     refine zA rfl ?_
     rw [<-zQP eLo] at s
     rw [<-zQU eHi] at s
     replace s:=s.popB
     exact ⟨(0+1),dB,dB,s.keepK _ (fmz ⟨mz8,fmz ⟨.head _,fnz⟩⟩)⟩
   ·have eLo:=e
    refine zYM ?_
    refine zYK ?_
    obtain ⟨cs0,hh0,hc0,_⟩:=s.boxAt (c:=0) rfl
    obtain ⟨cs3,hh3,hc3,_⟩:=s.boxAt (c:=3) rfl
    refine zB 10 ((47,.X (wB (.agg #[pO b 0,pO b 6,pO b3 0])) 2)::(48,.X (fPV m p) 0)::(49,.X (fPV m p) 0)::(50,.Z (fRV m ((p).1)))::(51,.X (wB (.agg #[pO b 0,pO b 6,pO b3 0])) 1)::(52,.X (fPR (fPV m (gLo 0 lo p)) (fPV m (gHi 0 hi p))) 6)::(53,.X (fPR (fPV m (gLo 0 lo p)) (fPV m (gHi 0 hi p))) 6)::(54,.Z (fRV m ((gHi 0 hi p).1)))::(55,.Z (uI (qsg (p).1 (gHi 0 hi p).1)))::(56,.u (uB (decide (qsg (p).1 (gHi 0 hi p).1>0)))):: []) hmix s kI
     (oc (zL (C:=cg (wB (.agg #[pO b 0,pO b 6,pO b3 0]))) 2 kI)<|oc (qT (vs:= [pO b 0,pO b 6,pO b3 0]) (b':=b3) (o:=0) (D:=wC (fPV m p)) 2 kI iiz rfl hh3 hc3)<|oc (qF (C:=((wC (fPV m p)).cf.at 0)))<|oc (zR (C:=cg (fPV m p)) (k:=0) 3 kI (h:=zDf))<|oc (zL (C:=cg (wB (.agg #[pO b 0,pO b 6,pO b3 0]))) 1 kI)<|oc (qT (vs:= [pO b 0,pO b 6,pO b3 0]) (b':=b) (o:=6) (D:=wC (fPR (fPV m (gLo 0 lo p)) (fPV m (gHi 0 hi p)))) 1 kI iiz rfl hh0 hc0)<|oc (qF (C:=((wC (fPR (fPV m (gLo 0 lo p)) (fPV m (gHi 0 hi p)))).cf.at 6)))<|oc (zR (C:=cg (fPR (fPV m (gLo 0 lo p)) (fPV m (gHi 0 hi p)))) (k:=6) 3 kI (h:=zO0))<|oc (zI zD zEl (fun u0 u1 W hb (h0:RVp m ((p).1) u0 W) (h1:RVp m ((gHi 0 hi p).1) u1 W)=>zB8 h0 h1 hm hm0 (hTb _ (zF5 s.gr hb))))<|oc (zS .i64 (qsg (p).1 (gHi 0 hi p).1) 0 (decide (qsg (p).1 (gHi 0 hi p).1>0)) iiz iiz rfl rfl)<|zC) fun a w11 s=> ?_
    refine zA rfl ?_
    refine StS.cond s (decide (qsg (p).1 (gHi 0 hi p).1>0)) iiz (fun e=> ?_) (fun e=> ?_)
    ·have eHi:=e
     obtain ⟨cs0,hh0,hc0,_⟩:=s.boxAt (c:=0) rfl
     obtain ⟨cs3,hh3,hc3,_⟩:=s.boxAt (c:=3) rfl
     refine z7 [] 7 ((57,.X (wB (.agg #[pO b 0,pO b 6,pO b3 0])) 1)::(58,.Z (wB (pO b 6)))::(59,.X (wB (.agg #[pO b 0,pO b 6,pO b3 0])) 2)::(60,.X (fPV m p) 0)::(61,.X (fPV m p) 0)::(62,.u (fRV m ((p).1)))::(63,.u (wB (pO b 6))):: []) hmix s kI
      (oc (zL (C:=cg (wB (.agg #[pO b 0,pO b 6,pO b3 0]))) 1 kI)<|oc (jJ (C:=cg (wB (.agg #[pO b 0,pO b 6,pO b3 0]))) (k:=1) kI (h:=zEm (vs:= [pO b 0,pO b 6,pO b3 0]) rfl))<|oc (zL (C:=cg (wB (.agg #[pO b 0,pO b 6,pO b3 0]))) 2 kI)<|oc (qT (vs:= [pO b 0,pO b 6,pO b3 0]) (b':=b3) (o:=0) (D:=wC (fPV m p)) 2 kI iiz rfl hh3 hc3)<|oc (qF (C:=((wC (fPV m p)).cf.at 0)))<|oc (zR (C:=cg (fPV m p)) (k:=0) 3 kI (h:=zDf))<|oc (j9 (a:=⟨b,6,none⟩) iiz)<|zC) fun Q' hQ a w12 s=> ?_
     refine jA (c:=0) (o:=6) (kk:=3) (wC (fPR (fPV m (gLo 0 lo p)) (fPV m ((p).1,(gHi 0 hi p).2)))) ((fRV m ((p).1)).tS) rfl s kI rfl rfl iiz iiz zTl fun a w s=> ?_
     refine zA rfl (hQ _ _ ?_)
     refine zX 1 ((64,.u (uI ((0+1:Nat):Int))):: []) s kI
      (oc (yN .i64 ((0:Nat):Int) 1 ((0+1:Nat):Int) iiz iiz (wrap64 _ _ oP oP))<|zC) fun a w13 s=> ?_
     replace s:=s.drop [27]
     refine zAN (uI ((0+1:Nat):Int)) rfl s kI zE kI fun a w s=> ?_
     refine zA rfl ?_
     rw [<-zQQ eLo] at s
     rw [<-zQT eHi] at s
     replace s:=s.popB
     exact ⟨(0+1),dB,dB,s.keepK _ (fmz ⟨mz8,fmz ⟨.head _,fnz⟩⟩)⟩
    ·have eHi:=e
     refine zYM ?_
     refine zX 1 ((64,.u (uI ((0+1:Nat):Int))):: []) s kI
      (oc (yN .i64 ((0:Nat):Int) 1 ((0+1:Nat):Int) iiz iiz (wrap64 _ _ oP oP))<|zC) fun a w14 s=> ?_
     replace s:=s.drop [27]
     refine zAN (uI ((0+1:Nat):Int)) rfl s kI zE kI fun a w s=> ?_
     refine zA rfl ?_
     rw [<-zQQ eLo] at s
     rw [<-zQU eHi] at s
     replace s:=s.popB
     exact ⟨(0+1),dB,dB,s.keepK _ (fmz ⟨mz6,fmz ⟨.head _,fnz⟩⟩)⟩
  ·refine zB 1 ((29,.u (wB (.agg #[pO b 3,pO b 9,pO b3 3]))):: []) hmix s kI
    (oc (zMy (.agg #[pO b 0,pO b 6,pO b3 0,pO b 3,pO b 9,pO b3 3]) (.int .i64 1) (.agg #[pO b 3,pO b 9,pO b3 3]) iiz iiz (fun W=>zXc _ _ _ _ _ _ W))<|zC) fun a w15 s=> ?_
   refine zZ (CU.len 3) (cs:= [.pointer none,.pointer none,.pointer none]) kI rfl s kI (fun W=>rfl) rfl fun b5 a w s=> ?_
   refine zQ (wC (wB (.agg #[pO b 3,pO b 9,pO b3 3]))) ((wB (.agg #[pO b 3,pO b 9,pO b3 3])).tS) rfl s kI rfl rfl rfl iiz iiz (zIj (vs:= [pO b 3,pO b 9,pO b3 3]) rfl (by intro u hu;simp at hu;rcases hu with rfl|rfl|rfl<;>rfl) rfl) fun a w s=> ?_
   refine zA rfl ?_
   refine zYK ?_
   refine zYK ?_
   obtain ⟨cs0,hh0,hc0,_⟩:=s.boxAt (c:=0) rfl
   obtain ⟨cs3,hh3,hc3,_⟩:=s.boxAt (c:=3) rfl
   refine zB 10 ((30,.X (wB (.agg #[pO b 3,pO b 9,pO b3 3])) 2)::(31,.X (fPV m p) 3)::(32,.X (fPV m p) 3)::(33,.Z (fRV m ((p).2)))::(34,.X (wB (.agg #[pO b 3,pO b 9,pO b3 3])) 0)::(35,.X (fPR (fPV m (gLo 1 lo p)) (fPV m (gHi 1 hi p))) 3)::(36,.X (fPR (fPV m (gLo 1 lo p)) (fPV m (gHi 1 hi p))) 3)::(37,.Z (fRV m ((gLo 1 lo p).2)))::(38,.Z (uI (qsg (p).2 (gLo 1 lo p).2)))::(39,.u (uB (decide (qsg (p).2 (gLo 1 lo p).2<0)))):: []) hmix s kI
    (oc (zL (C:=cg (wB (.agg #[pO b 3,pO b 9,pO b3 3]))) 2 kI)<|oc (qT (vs:= [pO b 3,pO b 9,pO b3 3]) (b':=b3) (o:=3) (D:=wC (fPV m p)) 2 kI iiz rfl hh3 hc3)<|oc (qF (C:=((wC (fPV m p)).cf.at 3)))<|oc (zR (C:=cg (fPV m p)) (k:=3) 3 kI (h:=zDe))<|oc (zL (C:=cg (wB (.agg #[pO b 3,pO b 9,pO b3 3]))) 0 kI)<|oc (qT (vs:= [pO b 3,pO b 9,pO b3 3]) (b':=b) (o:=3) (D:=wC (fPR (fPV m (gLo 1 lo p)) (fPV m (gHi 1 hi p)))) 0 kI iiz rfl hh0 hc0)<|oc (qF (C:=((wC (fPR (fPV m (gLo 1 lo p)) (fPV m (gHi 1 hi p)))).cf.at 3)))<|oc (zR (C:=cg (fPR (fPV m (gLo 1 lo p)) (fPV m (gHi 1 hi p)))) (k:=3) 3 kI (h:=zSf))<|oc (zI zD zEl (fun u0 u1 W hb (h0:RVp m ((p).2) u0 W) (h1:RVp m ((gLo 1 lo p).2) u1 W)=>zB8 h0 h1 hm hm0 (hTb _ (zF5 s.gr hb))))<|oc (zS .i64 (qsg (p).2 (gLo 1 lo p).2) 0 (decide (qsg (p).2 (gLo 1 lo p).2<0)) iiz iiz rfl rfl)<|zC) fun a w16 s=> ?_
   refine zA rfl ?_
   refine StS.cond s (decide (qsg (p).2 (gLo 1 lo p).2<0)) iiz (fun e=> ?_) (fun e=> ?_)
   ·have eLo:=e
    obtain ⟨cs0,hh0,hc0,_⟩:=s.boxAt (c:=0) rfl
    obtain ⟨cs3,hh3,hc3,_⟩:=s.boxAt (c:=3) rfl
    refine z7 [] 7 ((40,.X (wB (.agg #[pO b 3,pO b 9,pO b3 3])) 0)::(41,.Z (wB (pO b 3)))::(42,.X (wB (.agg #[pO b 3,pO b 9,pO b3 3])) 2)::(43,.X (fPV m p) 3)::(44,.X (fPV m p) 3)::(45,.u (fRV m ((p).2)))::(46,.u (wB (pO b 3))):: []) hmix s kI
     (oc (zL (C:=cg (wB (.agg #[pO b 3,pO b 9,pO b3 3]))) 0 kI)<|oc (jJ (C:=cg (wB (.agg #[pO b 3,pO b 9,pO b3 3]))) (k:=0) kI (h:=zEm (vs:= [pO b 3,pO b 9,pO b3 3]) rfl))<|oc (zL (C:=cg (wB (.agg #[pO b 3,pO b 9,pO b3 3]))) 2 kI)<|oc (qT (vs:= [pO b 3,pO b 9,pO b3 3]) (b':=b3) (o:=3) (D:=wC (fPV m p)) 2 kI iiz rfl hh3 hc3)<|oc (qF (C:=((wC (fPV m p)).cf.at 3)))<|oc (zR (C:=cg (fPV m p)) (k:=3) 3 kI (h:=zDe))<|oc (j9 (a:=⟨b,3,none⟩) iiz)<|zC) fun Q' hQ a w17 s=> ?_
    refine jA (c:=0) (o:=3) (kk:=3) (wC (fPR (fPV m ((gLo 1 lo p).1,(p).2)) (fPV m (gHi 1 hi p)))) ((fRV m ((p).2)).tS) rfl s kI rfl rfl iiz iiz zVn fun a w s=> ?_
    refine zA rfl (hQ _ _ ?_)
    refine zYK ?_
    obtain ⟨cs0,hh0,hc0,_⟩:=s.boxAt (c:=0) rfl
    obtain ⟨cs3,hh3,hc3,_⟩:=s.boxAt (c:=3) rfl
    refine zB 10 ((47,.X (wB (.agg #[pO b 3,pO b 9,pO b3 3])) 2)::(48,.X (fPV m p) 3)::(49,.X (fPV m p) 3)::(50,.Z (fRV m ((p).2)))::(51,.X (wB (.agg #[pO b 3,pO b 9,pO b3 3])) 1)::(52,.X (fPR (fPV m ((gLo 1 lo p).1,(p).2)) (fPV m (gHi 1 hi p))) 9)::(53,.X (fPR (fPV m ((gLo 1 lo p).1,(p).2)) (fPV m (gHi 1 hi p))) 9)::(54,.Z (fRV m ((gHi 1 hi p).2)))::(55,.Z (uI (qsg (p).2 (gHi 1 hi p).2)))::(56,.u (uB (decide (qsg (p).2 (gHi 1 hi p).2>0)))):: []) hmix s kI
     (oc (zL (C:=cg (wB (.agg #[pO b 3,pO b 9,pO b3 3]))) 2 kI)<|oc (qT (vs:= [pO b 3,pO b 9,pO b3 3]) (b':=b3) (o:=3) (D:=wC (fPV m p)) 2 kI iiz rfl hh3 hc3)<|oc (qF (C:=((wC (fPV m p)).cf.at 3)))<|oc (zR (C:=cg (fPV m p)) (k:=3) 3 kI (h:=zDe))<|oc (zL (C:=cg (wB (.agg #[pO b 3,pO b 9,pO b3 3]))) 1 kI)<|oc (qT (vs:= [pO b 3,pO b 9,pO b3 3]) (b':=b) (o:=9) (D:=wC (fPR (fPV m ((gLo 1 lo p).1,(p).2)) (fPV m (gHi 1 hi p)))) 1 kI iiz rfl hh0 hc0)<|oc (qF (C:=((wC (fPR (fPV m ((gLo 1 lo p).1,(p).2)) (fPV m (gHi 1 hi p)))).cf.at 9)))<|oc (zR (C:=cg (fPR (fPV m ((gLo 1 lo p).1,(p).2)) (fPV m (gHi 1 hi p)))) (k:=9) 3 kI (h:=zOZ))<|oc (zI zD zEl (fun u0 u1 W hb (h0:RVp m ((p).2) u0 W) (h1:RVp m ((gHi 1 hi p).2) u1 W)=>zB8 h0 h1 hm hm0 (hTb _ (zF5 s.gr hb))))<|oc (zS .i64 (qsg (p).2 (gHi 1 hi p).2) 0 (decide (qsg (p).2 (gHi 1 hi p).2>0)) iiz iiz rfl rfl)<|zC) fun a w18 s=> ?_
    refine zA rfl ?_
    refine StS.cond s (decide (qsg (p).2 (gHi 1 hi p).2>0)) iiz (fun e=> ?_) (fun e=> ?_)
    ·have eHi:=e
     obtain ⟨cs0,hh0,hc0,_⟩:=s.boxAt (c:=0) rfl
     obtain ⟨cs3,hh3,hc3,_⟩:=s.boxAt (c:=3) rfl
     refine z7 [] 7 ((57,.X (wB (.agg #[pO b 3,pO b 9,pO b3 3])) 1)::(58,.Z (wB (pO b 9)))::(59,.X (wB (.agg #[pO b 3,pO b 9,pO b3 3])) 2)::(60,.X (fPV m p) 3)::(61,.X (fPV m p) 3)::(62,.u (fRV m ((p).2)))::(63,.u (wB (pO b 9))):: []) hmix s kI
      (oc (zL (C:=cg (wB (.agg #[pO b 3,pO b 9,pO b3 3]))) 1 kI)<|oc (jJ (C:=cg (wB (.agg #[pO b 3,pO b 9,pO b3 3]))) (k:=1) kI (h:=zEm (vs:= [pO b 3,pO b 9,pO b3 3]) rfl))<|oc (zL (C:=cg (wB (.agg #[pO b 3,pO b 9,pO b3 3]))) 2 kI)<|oc (qT (vs:= [pO b 3,pO b 9,pO b3 3]) (b':=b3) (o:=3) (D:=wC (fPV m p)) 2 kI iiz rfl hh3 hc3)<|oc (qF (C:=((wC (fPV m p)).cf.at 3)))<|oc (zR (C:=cg (fPV m p)) (k:=3) 3 kI (h:=zDe))<|oc (j9 (a:=⟨b,9,none⟩) iiz)<|zC) fun Q' hQ a w19 s=> ?_
     refine jA (c:=0) (o:=9) (kk:=3) (wC (fPR (fPV m ((gLo 1 lo p).1,(p).2)) (fPV m ((gHi 1 hi p).1,(p).2)))) ((fRV m ((p).2)).tS) rfl s kI rfl rfl iiz iiz zTk fun a w s=> ?_
     refine zA rfl (hQ _ _ ?_)
     refine zX 1 ((64,.u (uI ((1+1:Nat):Int))):: []) s kI
      (oc (yN .i64 ((1:Nat):Int) 1 ((1+1:Nat):Int) iiz iiz (wrap64 _ _ oP oP))<|zC) fun a w20 s=> ?_
     replace s:=s.drop [27]
     refine zAN (uI ((1+1:Nat):Int)) rfl s kI zE kI fun a w s=> ?_
     refine zA rfl ?_
     rw [<-zQN eLo] at s
     rw [<-zQR eHi] at s
     replace s:=s.popB
     exact ⟨(1+1),dB,dB,s.keepK _ (fmz ⟨zPf,fmz ⟨.head _,fnz⟩⟩)⟩
    ·have eHi:=e
     refine zYM ?_
     refine zX 1 ((64,.u (uI ((1+1:Nat):Int))):: []) s kI
      (oc (yN .i64 ((1:Nat):Int) 1 ((1+1:Nat):Int) iiz iiz (wrap64 _ _ oP oP))<|zC) fun a w21 s=> ?_
     replace s:=s.drop [27]
     refine zAN (uI ((1+1:Nat):Int)) rfl s kI zE kI fun a w s=> ?_
     refine zA rfl ?_
     rw [<-zQN eLo] at s
     rw [<-zQS eHi] at s
     replace s:=s.popB
     exact ⟨(1+1),dB,dB,s.keepK _ (fmz ⟨mz8,fmz ⟨.head _,fnz⟩⟩)⟩
   ·have eLo:=e
    refine zYM ?_
    refine zYK ?_
    obtain ⟨cs0,hh0,hc0,_⟩:=s.boxAt (c:=0) rfl
    obtain ⟨cs3,hh3,hc3,_⟩:=s.boxAt (c:=3) rfl
    refine zB 10 ((47,.X (wB (.agg #[pO b 3,pO b 9,pO b3 3])) 2)::(48,.X (fPV m p) 3)::(49,.X (fPV m p) 3)::(50,.Z (fRV m ((p).2)))::(51,.X (wB (.agg #[pO b 3,pO b 9,pO b3 3])) 1)::(52,.X (fPR (fPV m (gLo 1 lo p)) (fPV m (gHi 1 hi p))) 9)::(53,.X (fPR (fPV m (gLo 1 lo p)) (fPV m (gHi 1 hi p))) 9)::(54,.Z (fRV m ((gHi 1 hi p).2)))::(55,.Z (uI (qsg (p).2 (gHi 1 hi p).2)))::(56,.u (uB (decide (qsg (p).2 (gHi 1 hi p).2>0)))):: []) hmix s kI
     (oc (zL (C:=cg (wB (.agg #[pO b 3,pO b 9,pO b3 3]))) 2 kI)<|oc (qT (vs:= [pO b 3,pO b 9,pO b3 3]) (b':=b3) (o:=3) (D:=wC (fPV m p)) 2 kI iiz rfl hh3 hc3)<|oc (qF (C:=((wC (fPV m p)).cf.at 3)))<|oc (zR (C:=cg (fPV m p)) (k:=3) 3 kI (h:=zDe))<|oc (zL (C:=cg (wB (.agg #[pO b 3,pO b 9,pO b3 3]))) 1 kI)<|oc (qT (vs:= [pO b 3,pO b 9,pO b3 3]) (b':=b) (o:=9) (D:=wC (fPR (fPV m (gLo 1 lo p)) (fPV m (gHi 1 hi p)))) 1 kI iiz rfl hh0 hc0)<|oc (qF (C:=((wC (fPR (fPV m (gLo 1 lo p)) (fPV m (gHi 1 hi p)))).cf.at 9)))<|oc (zR (C:=cg (fPR (fPV m (gLo 1 lo p)) (fPV m (gHi 1 hi p)))) (k:=9) 3 kI (h:=zOZ))<|oc (zI zD zEl (fun u0 u1 W hb (h0:RVp m ((p).2) u0 W) (h1:RVp m ((gHi 1 hi p).2) u1 W)=>zB8 h0 h1 hm hm0 (hTb _ (zF5 s.gr hb))))<|oc (zS .i64 (qsg (p).2 (gHi 1 hi p).2) 0 (decide (qsg (p).2 (gHi 1 hi p).2>0)) iiz iiz rfl rfl)<|zC) fun a w22 s=> ?_
    refine zA rfl ?_
    refine StS.cond s (decide (qsg (p).2 (gHi 1 hi p).2>0)) iiz (fun e=> ?_) (fun e=> ?_)
    ·have eHi:=e
     obtain ⟨cs0,hh0,hc0,_⟩:=s.boxAt (c:=0) rfl
     obtain ⟨cs3,hh3,hc3,_⟩:=s.boxAt (c:=3) rfl
     refine z7 [] 7 ((57,.X (wB (.agg #[pO b 3,pO b 9,pO b3 3])) 1)::(58,.Z (wB (pO b 9)))::(59,.X (wB (.agg #[pO b 3,pO b 9,pO b3 3])) 2)::(60,.X (fPV m p) 3)::(61,.X (fPV m p) 3)::(62,.u (fRV m ((p).2)))::(63,.u (wB (pO b 9))):: []) hmix s kI
      (oc (zL (C:=cg (wB (.agg #[pO b 3,pO b 9,pO b3 3]))) 1 kI)<|oc (jJ (C:=cg (wB (.agg #[pO b 3,pO b 9,pO b3 3]))) (k:=1) kI (h:=zEm (vs:= [pO b 3,pO b 9,pO b3 3]) rfl))<|oc (zL (C:=cg (wB (.agg #[pO b 3,pO b 9,pO b3 3]))) 2 kI)<|oc (qT (vs:= [pO b 3,pO b 9,pO b3 3]) (b':=b3) (o:=3) (D:=wC (fPV m p)) 2 kI iiz rfl hh3 hc3)<|oc (qF (C:=((wC (fPV m p)).cf.at 3)))<|oc (zR (C:=cg (fPV m p)) (k:=3) 3 kI (h:=zDe))<|oc (j9 (a:=⟨b,9,none⟩) iiz)<|zC) fun Q' hQ a w23 s=> ?_
     refine jA (c:=0) (o:=9) (kk:=3) (wC (fPR (fPV m (gLo 1 lo p)) (fPV m ((gHi 1 hi p).1,(p).2)))) ((fRV m ((p).2)).tS) rfl s kI rfl rfl iiz iiz zTk fun a w s=> ?_
     refine zA rfl (hQ _ _ ?_)
     refine zX 1 ((64,.u (uI ((1+1:Nat):Int))):: []) s kI
      (oc (yN .i64 ((1:Nat):Int) 1 ((1+1:Nat):Int) iiz iiz (wrap64 _ _ oP oP))<|zC) fun a w24 s=> ?_
     replace s:=s.drop [27]
     refine zAN (uI ((1+1:Nat):Int)) rfl s kI zE kI fun a w s=> ?_
     refine zA rfl ?_
     rw [<-zQO eLo] at s
     rw [<-zQR eHi] at s
     replace s:=s.popB
     exact ⟨(1+1),dB,dB,s.keepK _ (fmz ⟨mz8,fmz ⟨.head _,fnz⟩⟩)⟩
    ·have eHi:=e
     refine zYM ?_
     refine zX 1 ((64,.u (uI ((1+1:Nat):Int))):: []) s kI
      (oc (yN .i64 ((1:Nat):Int) 1 ((1+1:Nat):Int) iiz iiz (wrap64 _ _ oP oP))<|zC) fun a w25 s=> ?_
     replace s:=s.drop [27]
     refine zAN (uI ((1+1:Nat):Int)) rfl s kI zE kI fun a w s=> ?_
     refine zA rfl ?_
     rw [<-zQO eLo] at s
     rw [<-zQS eHi] at s
     replace s:=s.popB
     exact ⟨(1+1),dB,dB,s.keepK _ (fmz ⟨mz6,fmz ⟨.head _,fnz⟩⟩)⟩
 ·have hk2:k=2:=by have:=zYS e;omega
  subst hk2
  refine zYW ?_
  exact vD s (c:=0) rfl rfl rfl rfl (fun _=>trivial)
section
variable {S:Nat->Prop} {w0:Wp} {K:List (Nat×KF)} {B:List Bx} {n:Nat} {ds:List Deferred} {a:Act} {w:Wp}
theorem StS.move (h:StS S w0 K B n [] a w) (S':Nat->Prop) (hS: ∀q,inB B q->S' q) (hu:(K.all fun q=>zN0 q.2)=true):StS S' w K B n [] a w:=by
 have hu:=q7 hu
 refine ⟨BlS.refl _ _,h.size,h.nd,fun q hq=> ?_,wP (a:=a) B (fun x hx=> ?_) (fun _ _=>rfl) h.bx,⟨[],Marks.nil _ _⟩,.inl hu⟩
 ·obtain ⟨f,e⟩:=hu q hq
  have:=h.sl q hq
  rw [e] at this ⊢
  exact this
 ·cases hr:x.r with
  |true=>exact .inl rfl
  |false=>exact .inr (.inr (hS _ ⟨x,hx,rfl,hr⟩))
theorem vL (h0:St w0 K0 B0 n0 ds0 a0 w1) (h:StS S' w1 K B n [] a w) (hS: ∀q,S' q->w0.heap.size<=q) (hu:(K.all fun q=>zN0 q.2)=true):St w0 K B n [] a w:=by
 have hu:=q7 hu
 refine ⟨⟨h.gr.os.trans h0.gr.os,h.gr.tape.trans h0.gr.tape,h.gr.output.trans h0.gr.output,zYO h0.gr.size h.gr.size,fun k hk _=>(h.gr.block k (zY2 hk h0.gr.size) fun hh=>by have:=hS k hh;omega).trans (h0.gr.block k hk fun hh=>hh)⟩,h.size,h.nd,fun q hq=> ?_,wP (a:=a) B (fun x hx=> ?_) (fun _ _=>rfl) h.bx,⟨[],Marks.nil _ _⟩,.inl hu⟩
 ·obtain ⟨f,e⟩:=hu q hq
  have:=h.sl q hq
  rw [e] at this ⊢
  exact this
 ·obtain ⟨cs,_,h2,_⟩:=h.bx.mem x hx
  rcases h2 with e|e|e
  ·exact .inl e
  ·exact .inr (.inl (zYO h0.gr.size e))
  ·exact .inr (.inl (hS _ e))
end
theorem zHr (hR:zAU w1 base e z v Cs) (hI: ∀q,S q->q<base) (h:BlS S w1 W') (hk:jN w1 W'):(wD z Cs).p v W':=by
 refine (hR.keep (fun k hv=> ?_) hk).row
 obtain ⟨h1,h2⟩:=hR.lt k hv
 exact h.block k h2 fun hs=>by have:=hI k hs;omega
theorem zVj (hT:Tab w1) (hI: ∀j,j<64-> ¬S 0) (h:BlS S w1 W'):Tab W':=fun j hj=>
 (World.cell?_of_block (h.block _ (z4 (hT j hj)) (hI j hj))).trans (hT j hj)
theorem zSe (m:Nat) (W:Wp):(wC (fPR (fPV m (0,0)) (fPV m (0,0)))).p (ptZ++ptZ) W:=⟨ptZ,ptZ,rfl,zGx m W,zGx m W⟩
theorem zTi (v:Wq) (W:Wp) (h:(fPT f'' g'').p v W):v.cells.size=6/\(∀u,u∈v.cells.toList->u.oneCell'=true)/\v.cells.toList.all yA=true/\ ∀cs,(wC (fPR (fPT f g) (fPT f' g'))).p cs W->0+6<=cs.length/\(wC (fPR (fPT f'' g'') (fPT f' g'))).p (jX cs 0 v.cells.toList) W:=by
 obtain ⟨vs,rfl,hl,h1,h2,h3⟩:=yT v W h
 refine ⟨by simpa [Value.cells] using hl,by simpa [Value.cells] using h1,by simpa [Value.cells] using h2,fun cs hc=> ?_⟩
 obtain ⟨a,b,rfl,l1,l2,g1,g2⟩:=zBp hc
 refine ⟨by simp [l1,l2],vs,b, ?_,h3,g2⟩
 have e:jX (a++b) 0 (Value.agg vs.toArray).cells.toList=vs++b:=by
  unfold jX
  have:(Value.agg vs.toArray).cells.toList=vs:=rfl
  rw [this,List.take_zero,zZe,Nat.zero_add,hl,zZm oP,zZd oP,zZe]
 rw [e]
theorem zTh (v:Wq) (W:Wp) (h:(fPT f'' g'').p v W):v.cells.size=6/\(∀u,u∈v.cells.toList->u.oneCell'=true)/\v.cells.toList.all yA=true/\ ∀cs,(wC (fPR (fPT f g) (fPT f' g'))).p cs W->6+6<=cs.length/\(wC (fPR (fPT f g) (fPT f'' g''))).p (jX cs 6 v.cells.toList) W:=by
 obtain ⟨vs,rfl,hl,h1,h2,h3⟩:=yT v W h
 refine ⟨by simpa [Value.cells] using hl,by simpa [Value.cells] using h1,by simpa [Value.cells] using h2,fun cs hc=> ?_⟩
 obtain ⟨a,b,rfl,l1,l2,g1,g2⟩:=zBp hc
 refine ⟨by simp [l1,l2],a,vs, ?_,g1,h3⟩
 have e:jX (a++b) 6 (Value.agg vs.toArray).cells.toList=a++vs:=by
  unfold jX
  have:(Value.agg vs.toArray).cells.toList=vs:=rfl
  rw [this,hl,zZn oP,zY3 oP,zZd (by simp;omega),List.append_nil]
 rw [e]
theorem bxB (s:Bool) (A A':Ws Addr) (n n' c c':Nat) (s2:Bool) (B B':Ws Addr) (k k' d d':Nat) (t:Bool) (C C':Ws Addr) (i i' j j':Nat) (t2:Bool) (D D':Ws Addr) (x x' y y':Nat):prog.built 47 [(0,.agg #[.bool s,.slice A n c,.slice A' n' c',.bool s2,.slice B k d,.slice B' k' d']),(1,.agg #[.bool t,.slice C i j,.slice C' i' j',.bool t2,.slice D x y,.slice D' x' y'])]=some #[.bool s,.slice A n c,.slice A' n' c',.bool s2,.slice B k d,.slice B' k' d',.bool t,.slice C i j,.slice C' i' j',.bool t2,.slice D x y,.slice D' x' y']:=by kernel_rfl
theorem zVa (hu:(fPT f g).p u W) (hv:(fPT f' g').p v W): ∃cells,prog.built 47 [(0,u),(1,v)]=some cells/\(fPR (fPT f g) (fPT f' g')).p (.agg cells) W:=by
 obtain ⟨s,A,n,c,A',n',c',s2,B,k,d,B',k',d',rfl,h1,h2⟩:=hu
 obtain ⟨s3,A3,n3,c3,A4,n4,c4,s4,B3,k3,d3,B4,k4,d4,rfl,h3,h4⟩:=hv
 exact ⟨_,bxB ..,_,_,rfl,⟨s,A,n,c,A',n',c',s2,B,k,d,B',k',d',rfl,h1,h2⟩,⟨s3,A3,n3,c3,A4,n4,c4,s4,B3,k3,d3,B4,k4,d4,rfl,h3,h4⟩⟩
def bLo (ps:List V2):Nat->V2
 |0=>at_ ps 0
 |k+1=>gLo 2 (bLo ps k) (at_ ps k)
def bHi (ps:List V2):Nat->V2
 |0=>at_ ps 0
 |k+1=>gHi 2 (bHi ps k) (at_ ps k)
theorem zT0 {a b:Rat} (h1:QB a m) (h2:QB b m):QB (mnR a b) m:=by unfold mnR;split<;>assumption
theorem zTY {a b:Rat} (h1:QB a m) (h2:QB b m):QB (mxR a b) m:=by unfold mxR;split<;>assumption
theorem zRd {ps:List V2} {m:Nat} (h: ∀p,p∈ps->QB p.1 m/\QB p.2 m) (h0:0<ps.length): ∀k,k<=ps.length->QB (bLo ps k).1 m/\QB (bLo ps k).2 m
 |0,_=>h _ (zB2 h0)
 |k+1,hk=>by
  have ih:=zRd h h0 k oP
  have hp:=h _ (zB2 (show k<ps.length by omega))
  exact ⟨zT0 ih.1 hp.1,zT0 ih.2 hp.2⟩
theorem zRf {ps:List V2} {m:Nat} (h: ∀p,p∈ps->QB p.1 m/\QB p.2 m) (h0:0<ps.length): ∀k,k<=ps.length->QB (bHi ps k).1 m/\QB (bHi ps k).2 m
 |0,_=>h _ (zB2 h0)
 |k+1,hk=>by
  have ih:=zRf h h0 k oP
  have hp:=h _ (zB2 (show k<ps.length by omega))
  exact ⟨zTY ih.1 hp.1,zTY ih.2 hp.2⟩
def qP (ps:List V2):V2:=if ps.length=0 then (((0:Int):Rat),((0:Int):Rat)) else bLo ps ps.length
def qQ (ps:List V2):V2:=if ps.length=0 then (((0:Int):Rat),((0:Int):Rat)) else bHi ps ps.length
theorem zTP (hm0:0<m) (h:(wC (fPR (fPN (((0:Int):Rat),((0:Int):Rat))) (fPN (((0:Int):Rat),((0:Int):Rat))))).p cs W):(wC (fPR (fPV m (((0:Int):Rat),((0:Int):Rat))) (fPV m (((0:Int):Rat),((0:Int):Rat))))).p cs W:=by
 obtain ⟨a,b,e,h1,h2⟩:=h
 exact ⟨a,b,e,zAo (m:=m) (QB.zero hm0) (QB.zero hm0) h1,zAo (m:=m) (QB.zero hm0) (QB.zero hm0) h2⟩
theorem zQK (hl:(wD 6 (pvs m ps)).p l W) (hm:m<=2000) (hm0:0<m) (hn:ps.length<=1000000) (hT:Tab W):Calls prog 29 #[l] W (Ret W (zAC (fPR (fPV m (qP ps)) (fPV m (qQ ps))) (fB (ps.length !=0))).tS):=by
 have hqs:=zJz hm0 hl
 refine z9 [(wB l).tS] func29 rfl kI ⟨rfl,trivial⟩ fun a s=> ?_
 replace s:=s.renew [(0,.u (wB l))] (fmz ⟨.inr ⟨_,rfl,.head _⟩,fnz⟩)
 refine zYK ?_
 refine zB 0 [] hmix s kI
  zC fun a w1 s=> ?_
 refine zZ (wC (fPR (fPV m ((0,0):V2)) (fPV m ((0,0):V2)))) (cs:=ptZ++ptZ) kI rfl s kI (fun W=>zSe m W) rfl fun b2 a w s=> ?_
 refine yR (uB false) rfl s kI iiz fun a w s=> ?_
 refine zA rfl ?_
 refine zYK ?_
 have hb2l:b2<w.heap.size:=s.old _ (.head _)
 refine zCf 2 ((6,.Z (wB l))::(7,.s (wL w 30 6 (pns ps))):: []) s kI
  (oc zE<|oc (zJ zD zUq (fun u0 W hb (h0:u0=l)=>(zLp (yU hl h0 (s.up hb)) hm hm0 hn (hT.below (s.up hb))).mono (wH (zBm hb.size))))<|zC) fun a w2 s hr=> ?_
 obtain ⟨v7,e7⟩: ∃v,a.tmps.getD 7 undef=v:=⟨_,rfl⟩
 have hR7:zAU w2 _ 30 6 v7 (pns ps):=e7▸(hr (_,_) mz1)
 replace s:=s.learn 7 v7 e7
 have hIb: ∀q,(fun q=>q=b2) q->q<w.heap.size:=fun q e=>by have e:q=b2:=e;omega
 have hb2:W.heap.size<=b2:=s.inB_new ⟨_,.head _,rfl,rfl⟩
 have sE:=s
 have hKU: ∀{W':Wp},BlS (fun q=>q=b2) w2 W'->jN w2 W':=fun hb=>zCk (hb.sub fun q hq=>⟨_,.head _,hq.symm,rfl⟩) s.bx
 have hTw:Tab w2:=hT.below s.below
 have hTb: ∀{W':Wp},BlS (fun q=>q=b2) w2 W'->Tab W':=fun hb=>zVj hTw (fun j hj e=>by have:=z4 (hT j hj);have e:0=b2:=e;rw [e] at this;omega) hb
 replace s:=(s.keepK [(7,.u (wB v7))] (fmz ⟨.head _,fnz⟩)).move (fun q=>q=b2) (fun q hq=>by obtain ⟨x,hx,e,_⟩:=hq;obtain rfl:=zYP.1 hx;exact e.symm) kI
 refine yR (wB v7) rfl s kI iiz fun a w s=> ?_
 refine zA rfl ?_
 refine zYK ?_
 refine zYK ?_
 refine zB 3 ((8,.Z (wB v7))::(9,.Z (uI ((pvs m ps).length:Int)))::(10,.u (uB (decide (ps.length=0)))):: []) hmix s kI
  (oc zE<|oc (yV (z:=6) (Cs:=pvs m ps) kI (fun v W hb h=>(by rw [show _=v7 from h];exact zCG hqs _ _ (zHr hR7 hIb (s.gr.trans hb) (hKU (s.gr.trans hb))))) (fun _=>rfl))<|oc (zS .i64 ((pvs m ps).length:Int) 0 (decide (ps.length=0)) iiz iiz (by simp only [zZa];rw [Bool.eq_iff_iff,beq_iff_eq,decide_eq_true_iff];omega) rfl)<|zC) fun a w3 s=> ?_
 refine zA rfl ?_
 refine StS.cond s (decide (ps.length=0)) iiz (fun e=> ?_) (fun e=> ?_)
 ·have h0e:=zYT e
  refine zYK ?_
  refine zB 3 ((11,.Z (fPN (((0:Int):Rat),((0:Int):Rat))))::(12,.Z (fPN (((0:Int):Rat),((0:Int):Rat))))::(13,.u (fPR (fPN (((0:Int):Rat),((0:Int):Rat))) (fPN (((0:Int):Rat),((0:Int):Rat))))):: []) hmix s kI
   (oc (zI zD zSS (fun u0 u1 W hb (h0:u0= .int .i64 0) (h1:u1= .int .i64 0)=>zRv h0 h1 dB dB))<|oc (zI zD zSS (fun u0 u1 W hb (h0:u0= .int .i64 0) (h1:u1= .int .i64 0)=>zRv h0 h1 dB dB))<|oc (y4 (fun u v W (hu:(fPN (((0:Int):Rat),((0:Int):Rat))).p u W) (hv:(fPN (((0:Int):Rat),((0:Int):Rat))).p v W)=>zVa hu hv))<|zC) fun a w4 s=> ?_
  refine zQ (wC (fPR (fPN (((0:Int):Rat),((0:Int):Rat))) (fPN (((0:Int):Rat),((0:Int):Rat))))) ((fPR (fPN (((0:Int):Rat),((0:Int):Rat))) (fPN (((0:Int):Rat),((0:Int):Rat)))).tS) rfl s kI rfl rfl rfl zBd iiz zBo fun a w s=> ?_
  refine yR (uB false) rfl s kI iiz fun a w s=> ?_
  refine zA rfl ?_
  refine zYL ?_
  replace s:=vL sE (s.keepK [(3,.u (uB false))] (fmz ⟨.head _,fnz⟩)) (fun q e=>by have e:q=b2:=e;rw [e];exact hb2) kI
  exact wU s (wC (fPR (fPN (((0:Int):Rat),((0:Int):Rat))) (fPN (((0:Int):Rat),((0:Int):Rat))))) rfl kI rfl rfl zBd (fun cs v W h1 h2=>⟨_,_,rfl,by rw [show qP ps=(((0:Int):Rat),((0:Int):Rat)) from if_pos h0e,show qQ ps=(((0:Int):Rat),((0:Int):Rat)) from if_pos h0e];exact zTP hm0 h1,by rw [show (ps.length !=0)=false by rw [h0e];rfl];exact h2⟩)
 ·have h0l:0<ps.length:=Nat.pos_of_ne_zero (zYS e)
  refine zYM ?_
  refine zYK ?_
  refine z7 [0,3] 7 ((14,.Z (wB v7))::(15,.Y (fPV m (at_ ps 0)))::(16,.u (fPV m (at_ ps 0)))::(17,.Z (wB v7))::(18,.Y (fPV m (at_ ps 0)))::(19,.u (fPV m (at_ ps 0)))::(20,.u (wB (pO b2 0))):: []) hmix s kI
   (oc zE<|oc (yH (z:=6) (Cs:=pvs m ps) (i:=0) (C:=wC (fPV m (at_ ps 0))) kI (q6 h0l) (fun v W hb h=>(by rw [show _=v7 from h];exact zCG hqs _ _ (zHr hR7 hIb (s.gr.trans hb) (hKU (s.gr.trans hb))))) iiz)<|oc (zK (f:=fPV m (at_ ps 0)) 6 kI (hz:=zP _ _))<|oc zE<|oc (yH (z:=6) (Cs:=pvs m ps) (i:=0) (C:=wC (fPV m (at_ ps 0))) kI (q6 h0l) (fun v W hb h=>(by rw [show _=v7 from h];exact zCG hqs _ _ (zHr hR7 hIb (s.gr.trans hb) (hKU (s.gr.trans hb))))) iiz)<|oc (zK (f:=fPV m (at_ ps 0)) 6 kI (hz:=zP _ _))<|oc (qC (b:=b2) (o:=0) 0 kI (fun _ _ h=>h.1))<|zC) fun Q' hQ a w5 s=> ?_
  refine jA (c:=2) (o:=0) (kk:=6) (wC (fPR (fPV m (at_ ps 0)) (fPV m ((0,0):V2)))) ((fPV m (at_ ps 0)).tS) rfl s kI rfl rfl iiz iiz zTi fun a w s=> ?_
  refine zAN (wB (pO b2 6)) rfl s kI (qC (b:=b2) (o:=0) 6 kI (fun _ _ h=>h.1)) kI fun a w s=> ?_
  refine jA (c:=2) (o:=6) (kk:=6) (wC (fPR (fPV m (at_ ps 0)) (fPV m (at_ ps 0)))) ((fPV m (at_ ps 0)).tS) rfl s kI rfl rfl iiz iiz zTh fun a w s=> ?_
  refine zA rfl (hQ _ _ ?_)
  refine zYK ?_
  refine zYK ?_
  refine zB 3 ((22,.u (wB v7))::(23,.u (uI ((pvs m ps).length:Int)))::(24,.u (uI 0)):: []) hmix s kI
   (oc zE<|oc (yV (z:=6) (Cs:=pvs m ps) kI (fun v W hb h=>(by rw [show _=v7 from h];exact zCG hqs _ _ (zHr hR7 hIb (s.gr.trans hb) (hKU (s.gr.trans hb))))) (fun _=>rfl))<|oc zE<|zC) fun a w6 s=> ?_
  refine zA rfl ?_
  refine zYN ?_
  refine zDu 2 (fun k=>wC (fPR (fPV m (bLo ps k)) (fPV m (bHi ps k)))) (fun k=>k<=ps.length) (fun k=> [(22,.u (wB v7)),(23,.u (uI ((pvs m ps).length:Int))),(24,.u (uI ((k:Nat):Int)))]) (fun k=>ps.length - k) (0:Nat) (zYV _) (s.keepK _ (fmz ⟨.head _,fmz ⟨mz1,fmz ⟨mz2,fnz⟩⟩⟩)) rfl fun k a w hx s=> ?_
  have hlz:(pvs m ps).length=ps.length:=by simp
  refine zYK ?_
  refine zB 1 ((25,.u (uB (ltz k ((pvs m ps).length)))):: []) hmix s kI
   (oc (zS .i64 (k:Int) ((pvs m ps).length:Int) (ltz k ((pvs m ps).length)) iiz iiz rfl rfl)<|zC) fun a w7 s=> ?_
  refine zA rfl ?_
  refine zYK ?_
  refine StS.cond s (ltz k ((pvs m ps).length)) iiz (fun e=> ?_) (fun e=> ?_)
  ·have hk:k<ps.length:=by have h7:=zYT e;rw [hlz] at h7;omega
   refine zYM ?_
   refine zYK ?_
   refine zYN ?_
   refine zYK ?_
   refine zB 2 ((26,.Y (fPV m (at_ ps k)))::(27,.u (fPV m (at_ ps k))):: []) hmix s kI
    (oc (yH (z:=6) (Cs:=pvs m ps) (i:=k) (C:=wC (fPV m (at_ ps k))) kI (q6 hk) (fun v W hb h=>(by rw [show _=v7 from h];exact zCG hqs _ _ (zHr hR7 hIb (s.gr.trans hb) (hKU (s.gr.trans hb))))) iiz)<|oc (zK (f:=fPV m (at_ ps k)) 6 kI (hz:=zP _ _))<|zC) fun a w8 s=> ?_
   refine zZ (CU.len 6) (cs:=zP6) kI rfl s kI (fun W=>rfl) rfl fun b5 a w s=> ?_
   refine zQ (wC (fPV m (at_ ps k))) ((fPV m (at_ ps k)).tS) rfl s kI rfl rfl rfl iiz iiz yT fun a w s=> ?_
   refine zA rfl ?_
   refine zB 1 ((28,.u (fPV m (at_ ps k))):: []) hmix s kI
    (oc (zK (f:=fPV m (at_ ps k)) 6 kI (hz:=zP _ _))<|zC) fun a w9 s=> ?_
   refine zOf (c:=2) (wC (fPR (fPV m (bLo ps (k+1))) (fPV m (bHi ps (k+1))))) (UF.any) rfl zD zV8 s kI rfl rfl (fun _ _ h=>h.1) (fun cs v h1 h2 h3=> ?_) fun a w s=> ?_
   ·exact zSz h1 h2 h3 hm hm0 (hTb s.gr)
   refine zA rfl ?_
   refine zX 1 ((30,.u (uI ((k+1:Nat):Int))):: []) s kI
    (oc (yN .i64 (k:Int) 1 ((k+1:Nat):Int) iiz iiz (wrap64 _ _ oP oP))<|zC) fun a w10 s=> ?_
   replace s:=s.drop [24]
   refine zAN (uI ((k+1:Nat):Int)) rfl s kI zE kI fun a w s=> ?_
   refine zA rfl ?_
   replace s:=s.popB
   exact ⟨k+1,hk,(by show ps.length - (k+1)<ps.length - k;omega),s.keepK _ (fmz ⟨mz6,fmz ⟨mz7,fmz ⟨.head _,fnz⟩⟩⟩)⟩
  ·have hkN:k=ps.length:=by have h7:=zYS e;rw [hlz] at h7;omega
   subst hkN
   refine zYW ?_
   refine zYK ?_
   refine zB 1 ((31,.u (fPR (fPV m (bLo ps (ps.length))) (fPV m (bHi ps (ps.length))))):: []) hmix s kI
    (oc (zK (f:=fPR (fPV m (bLo ps (ps.length))) (fPV m (bHi ps (ps.length)))) 12 kI (hz:=zBd))<|zC) fun a w11 s=> ?_
   refine zQ (wC (fPR (fPV m (bLo ps (ps.length))) (fPV m (bHi ps (ps.length))))) ((fPR (fPV m (bLo ps (ps.length))) (fPV m (bHi ps (ps.length)))).tS) rfl s kI rfl rfl rfl zBd iiz zBo fun a w s=> ?_
   refine yR (uB true) rfl s kI iiz fun a w s=> ?_
   refine zA rfl ?_
   refine zYL ?_
   replace s:=vL sE (s.keepK [(3,.u (uB true))] (fmz ⟨.head _,fnz⟩)) (fun q e=>by have e:q=b2:=e;rw [e];exact hb2) kI
   exact wU s (wC (fPR (fPV m (bLo ps (ps.length))) (fPV m (bHi ps (ps.length))))) rfl kI rfl rfl zBd (fun cs v W h1 h2=>⟨_,_,rfl,by rw [show qP ps=bLo ps ps.length from if_neg oP,show qQ ps=bHi ps ps.length from if_neg oP];exact h1,by rw [show (ps.length !=0)=true from bne_iff_ne.2 oP];exact h2⟩)
section
variable {F:Fence} {m:Nat} {P:Program} {w0:Wp} {ops:Array Oper} {G:Nat->SF} {d:Tmp} {ty:Wr} {pos:String} {aft:Array Edge}
theorem zMB (ht:P.underlying t=some (.slice (P.elem t))) (h: ∀v W,(fct G x).p v W->v= sN) (hd: ∀W,(G d).p (.int .i64 0) W:=by exact fun _=>rfl):qN F m P w0 ops G ⟨some d,.call ⟨.builtin .cap,#[x],#[t]⟩,ty,pos,aft,none⟩:=by
 intro b W K Q hb hr hK
 have e:=h _ _ (qD hr (x:=x) (by simp [Op.operands,Call.operands]))
 refine ⟨fun f hf=>(by
  unfold Oper.about at hf
  simp [resolve,go_sem] at hf), ?_⟩
 rw [Oper.semAt_eq _ _ _ (fun _ e=>by cases e)]
 have:(execOp b.eval ⟨some d,.call ⟨.builtin .cap,#[x],#[t]⟩,ty,pos,aft,none⟩).run P W= .ok (.value (.int .i64 0)) W:=by
  simp [execOp,resolve,invoke,builtin,e,run_cap_slice _ _ _ _ _ _ ht,goInt]
 rw [this]
 exact hK _ _ (fun d' e'=>by cases e';exact hd W) (zY4 _ _)
theorem zQv {hi:Operand} (hsz:jM P t=some z) (hk:k<=c) (hx: ∀v W,(fct G x).p v W->v= .slice A n c) (hh: ∀v W,(fct G hi).p v W->v= .int .i64 (k:Int)) (hd: ∀W,(G d).p (.slice A k c) W:=by exact fun _=>rfl):qN F m P w0 ops G ⟨some d,.slice t x none (some hi) none,ty,pos,aft,none⟩:=
 qK (fun _ e=>by cases e) (fun _ e=>by cases e) fun b W hb hp=>by
  have e:=hx _ _ (hp x (by simp [Op.operands]))
  have e2:=hh _ _ (hp hi (by simp [Op.operands]))
  unfold jM at hsz
  split at hsz<;>try cases hsz
  rename_i e' hu
  obtain ⟨ie,hie,_⟩:=Option.map_eq_some_iff.1 hsz
  exact ⟨.slice A k c,by simp [execOp,e,e2,zHn hu hie A n c k hk],hd _⟩
end
section
variable {S:Nat->Prop} {F:Fence} {m:Nat} {P:Program} {Q:Exit->Act->Wp->Prop} {w0:Wp} {K:List (Nat×KF)} {B:List Bx} {n:Nat} {ds:List Deferred} {a:Act} {w:Wp}
theorem zTf {y:Operand} {tn:Wr} (h:StS S w0 K B n ds a w) (ho:ops[k]?=some ⟨some d,.call ⟨.builtin .append,#[x,y],#[t,tn]⟩,ty,pos,aft,none⟩) (happ:zG2 P t=some (e,z,true)) (htn:P.underlying tn=some (.int .i64)) (hf:zAf K B n d=true)
  (hx: ∀v W,(Wd.fct (jV K B) x).p v W->v= sN) (hy: ∀v W,(Wd.fct (jV K B) y).p v W->v= .int .i64 (j:Int)) (hj:0<j) (hj2:j<=1000000)
  (fin: ∀g cap a' w',w.heap.size<=g->bW w w'->j<=cap->zAU w' w.heap.size e z (.slice (some ⟨g,0,none⟩) 0 cap) []->StS S w0 ((d,.u (wB (.slice (some ⟨g,0,none⟩) j cap)))::K) B n ds a' w'->zBf F m P ops Q (k+1) a' w'):zBf F m P ops Q k a w:=by
 obtain ⟨ht,i,zv,hi,hz,hs,hby,hzs,hzn,hz0⟩:=zC2 happ
 have e1:a.eval x= sN:=hx _ _ (h.fct x)
 have e2:a.eval y= .int .i64 (j:Int):=hy _ _ (h.fct y)
 have hb:j*i.bytes<=1000000*1000:=Nat.mul_le_mul hj2 hby
 have hrun:=Lib.run_append_nil_zeros (P:=P) w t tn ty e i zv .i64 .i64 ht htn hi hz j hj oP oP oP
 have hcap:j<=grownCap w j 0 e:=grownCap_ge w j 0 e
 have hcm:grownCap w j 0 e<=maxLen:=grownCap_le_maxLen w j 0 e (by unfold maxLen;omega)
 have hb1:bW w (w.drew.alloc (.cells (Builtin.zeroCells zv.cells j++Builtin.zeroCells zv.cells (grownCap w j 0 e - j)) e)):=⟨rfl,rfl,rfl,by simp,fun q hq=>heap_alloc_old w.drew _ (by exact hq)⟩
 have hR:zAU (w.drew.alloc (.cells (Builtin.zeroCells zv.cells j++Builtin.zeroCells zv.cells (grownCap w j 0 e - j)) e)) w.heap.size e z (.slice (some ⟨w.heap.size,0,none⟩) 0 (grownCap w j 0 e)) []:=by
  refine .inr ⟨w.heap.size,grownCap w j 0 e,_,rfl,zY1 _,heap_alloc_new w.drew _,zYV _,hcm, ?_, ?_,fun i C hi=>by simp at hi⟩
  ·rw [Array.size_append,size_zeroCells,size_zeroCells,hzs, <-Nat.add_mul]
   congr 1
   omega
  ·rw [Array.toList_append,List.all_append,zAK hzn,zAK hzn];rfl
 have hrun2:(execOp a.eval ⟨some d,.call ⟨.builtin .append,#[x,y],#[t,tn]⟩,ty,pos,aft,none⟩).run P w= .ok (.value (.slice (some ⟨w.heap.size,0,none⟩) j (grownCap w j 0 e))) (w.drew.alloc (.cells (Builtin.zeroCells zv.cells j++Builtin.zeroCells zv.cells (grownCap w j 0 e - j)) e)):=by
  simp only [execOp,resolve,invoke,builtin,Sem.run_bind,Sem.run_pure,Result.andThen_ok,List.map_toArray,List.map_cons,List.map_nil,e1,e2,hrun]
 refine zA5 ho rfl ⟨fun f hf=>(by
  unfold Oper.about at hf
  simp [resolve,go_sem] at hf), ?_⟩
 rw [Oper.semAt_eq _ _ _ (fun _ e=>by cases e),hrun2]
 exact fin _ _ _ _ lr hb1 hcap hR (h.set hf hb1 rfl)
end
abbrev RR:=List (Wq×List V2)
variable {L:RR}
abbrev rrv (L:RR):List CU:=L.map fun x=>wF [x.1]
def RR.ok (m:Nat) (L:RR) (W:Wp):Prop:= ∀x,x∈L->(wD 6 (pvs m x.2)).p x.1 W
theorem RR.ok.below (h:RR.ok m L W) (hb:bW W W'):RR.ok m L W':=fun x hx=>(wD 6 _).st _ _ _ (h x hx) hb
def rat (L:RR) (k:Nat):Wq×List V2:=L.getD k (sN, [])
theorem zAh (h:k<L.length):rat L k∈L:=by
 unfold rat;rw [zY0,zYU h];exact zZi h
theorem zCx (h:k<L.length):(rrv L)[k]?=some (wF [(rat L k).1]):=by
 unfold rat
 rw [zYX,zYU h,zY0,zYU h];rfl
def zH (L:RR) (k:Nat):List V2:=(L.take k).flatMap (·.2)
theorem zBH (h:k<L.length):zH L (k+1)=zH L k++(rat L k).2:=by
 unfold zH rat
 rw [List.take_add_one,zYU h,zZj,zY0,zYU h]
 simp
theorem zGS: ∀{k:Nat},k<=L.length->(zH L k).length<=(zH L L.length).length:=fun {k} hk=>by
 unfold zH
 rw [zY3 (zY1 L.length)]
 have:=congrArg (fun l=>List.length (List.flatMap (·.2) l)) (List.take_append_drop k L)
 simp only [zZj,zY5] at this
 omega
theorem zOV (m:Nat) (L:RR) (k:Nat) (h:k<L.length):pvs m (zH L (k+1))=pvs m (zH L k)++pvs m (rat L k).2:=by rw [zBH h];simp [pvs]
theorem zB3 (hp:QB p.1 m/\QB p.2 m) (hm:0<m):(QB (p.1+((1:Int):Rat)) (m+2)/\QB (p.2+((1:Int):Rat)) (m+2))/\(QB (p.1 - ((1:Int):Rat)) (m+2)/\QB (p.2 - ((1:Int):Rat)) (m+2)):=by
 have h1:QB ((1:Int):Rat) 1:=(qbz (z:=1) dB).mono dB
 exact ⟨⟨(hp.1.add h1).mono oP,(hp.2.add h1).mono oP⟩,⟨(hp.1.sub h1).mono oP,(hp.2.sub h1).mono oP⟩⟩
def whK (L:RR) (p:V2) (k:Nat):List Nat:=(List.range k).filter fun i=>inK (rat L i).2 p (rat L i).2.length
theorem zVd (h:inK (rat L k).2 p (rat L k).2.length=true):whK L p (k+1)=whK L p k++ [k]:=by
 unfold whK
 rw [zZg,List.filter_append]
 simp [h]
theorem zVe (h:inK (rat L k).2 p (rat L k).2.length=false):whK L p (k+1)=whK L p k:=by
 unfold whK
 rw [zZg,List.filter_append]
 simp [h]
theorem zRs (L:RR) (p:V2) (k:Nat):(whK L p k).length<=k:=by
 have:=List.length_filter_le (fun i=>inK (rat L i).2 p (rat L i).2.length) (List.range k)
 rwa [List.length_range] at this
theorem zSG (hu:u= sN) (hv:v= .int .i64 (n:Int)) (hn:n<=1000000):Calls prog 72 #[u,v] W (Ret W (wL W 30 6 [])):=by
 refine z9 [(wB (sN)).tS,(uI (n:Int)).tS] func72 rfl kI ⟨hu,hv,trivial⟩ fun a s=> ?_
 replace s:=s.renew [(0,.u (wB (sN))),(1,.u (uI (n:Int)))] (fmz ⟨.inr ⟨_,rfl,.head _⟩,fmz ⟨.inr ⟨_,rfl,mz1⟩,fnz⟩⟩)
 refine zYK ?_
 refine zB 1 ((4,.u (wB (sN))):: []) hmix s kI
  (oc zF<|zC) fun a w1 s=> ?_
 refine zA rfl ?_
 refine zYK ?_
 refine zYK ?_
 refine zB 2 ((5,.Z (uI (n:Int)))::(6,.u (uB false)):: []) hmix s kI
  (oc zE<|oc (zS .i64 (n:Int) 0 false iiz iiz (zYQ oP) rfl)<|zC) fun a w2 s=> ?_
 refine zA rfl ?_
 refine StS.cond s false iiz (fun e=>by cases e) (fun e=> ?_)
 refine zYM ?_
 refine zYK ?_
 refine zYK ?_
 refine zX 7 ((8,.Z (uI (n:Int)))::(9,.Z (wB (sN)))::(10,.Z (uI 0))::(11,.Z (wB (sN)))::(12,.Z (uI 0))::(13,.Z (uI 0))::(14,.u (uI (n:Int))):: []) s kI
  (oc zE<|oc zE<|oc (zMB kI iiz)<|oc zE<|oc (zBY kI (fun v W h=>⟨none,0,0,h,rfl⟩))<|oc (zEb .i64 0 0 0 iiz iiz dB)<|oc (zEb .i64 (n:Int) 0 (n:Int) iiz iiz (by rw [zYY];omega))<|zC) fun a w3 s=> ?_
 replace s:=s.drop [1]
 refine yR (uI (n:Int)) rfl s kI iiz fun a w s=> ?_
 refine zA rfl ?_
 refine zYK ?_
 refine zB 2 ((15,.Z (uI (n:Int)))::(16,.u (uB (decide (0<n)))):: []) hmix s kI
  (oc zE<|oc (zS .i64 (n:Int) 0 (decide (0<n)) iiz iiz (by show decide ((n:Int)>0)=_;rw [zY6];omega) rfl)<|zC) fun a w4 s=> ?_
 refine zA rfl ?_
 refine StS.cond s (decide (0<n)) iiz (fun e=> ?_) (fun e=> ?_)
 ·refine zX 5 ((17,.Z (wB (sN)))::(18,.Z (wB (sN)))::(19,.Z (uI 0))::(20,.u (wB (sN)))::(21,.u (uI (n:Int))):: []) s kI
   (oc zE<|oc zE<|oc (zMB kI iiz)<|oc (zQv (A:=none) (n:=0) (c:=0) (k:=0) (z:=6) kI lr iiz iiz)<|oc zE<|zC) fun a w5 s=> ?_
  have hgs:=s.gr.size
  refine zTf (j:=n) (e:=30) (z:=6) s rfl kI underlying3 kI iiz iiz (zYT e) hn fun g cap a w hg hbw hcap hR s=> ?_
  have hWb:=s.below
  replace s:=s.reb rfl [(22,.u (wB (.slice (some ⟨g,0,none⟩) n cap))),(20,.u (wB (sN))),(21,.u (uI (n:Int))),(16,.u (uB (decide (0<n)))),(1,.u (uI (n:Int))),(14,.u (uI (n:Int))),(6,.u (uB false)),(4,.u (wB (sN))),(0,.u (wB (sN)))] (fmz ⟨.inl (.head _),fmz ⟨.inl mz1,fmz ⟨.inl mz2,fmz ⟨.inl mz3,fmz ⟨.inl mz4,fmz ⟨.inl mz5,fmz ⟨.inl mz6,fmz ⟨.inl mz7,fmz ⟨.inl mz8,fnz⟩⟩⟩⟩⟩⟩⟩⟩⟩)
  refine zAN (wB (sN)) rfl s kI zE kI fun a w s=> ?_
  refine zAN (uI 0) rfl s kI (zBY kI (fun v W h=>⟨none,0,0,h,rfl⟩)) kI fun a w s=> ?_
  refine zAN (wB (.slice (some ⟨g,0,none⟩) 0 cap)) rfl s kI (zQv (A:=some ⟨g,0,none⟩) (n:=n) (c:=cap) (k:=0) (z:=6) kI (zYV _) iiz iiz) kI fun a w s=> ?_
  replace s:=s.drop [0]
  refine yR (wB (.slice (some ⟨g,0,none⟩) 0 cap)) rfl s kI iiz fun a w s=> ?_
  refine zA rfl ?_
  refine zYK ?_
  replace s:=s.drop [4]
  refine zB 2 ((26,.Z (wB (.slice (some ⟨g,0,none⟩) 0 cap)))::(4,.u (wB (.slice (some ⟨g,0,none⟩) 0 cap))):: []) hmix s kI
   (oc zE<|oc zF<|zC) fun a w6 s=> ?_
  refine zA rfl ?_
  refine zYL ?_
  exact StS.resN s hWb rfl (by rw [s.val (.head _)];exact (hR.below s.below).mono hgs)
 ·refine zYM ?_
  refine zYK ?_
  replace s:=s.drop [4]
  refine zB 2 ((26,.Z (wB (sN)))::(4,.u (wB (sN))):: []) hmix s kI
   (oc zE<|oc zF<|zC) fun a w7 s=> ?_
  refine zA rfl ?_
  refine zYL ?_
  exact StS.resN s (zY4 _ _) rfl (by rw [s.val (.head _)];exact zAU.nil _ _ _ _)
theorem zOU (m:Nat) (ps:List V2): ∀C,C∈pvs m ps->CU.ok 6 C:=fun C hC=>by
 obtain ⟨t,_,rfl⟩:=List.mem_map.1 hC
 exact zD8 _ _
theorem zNb (hl:(wD 1 (rrv L)).p l W) (hL:RR.ok m L W) (hn:(zH L L.length).length<=1000000) (hnL:L.length<=1000000):Calls prog 44 #[l] W (Ret W (wL W 30 6 (pvs m (zH L L.length)))):=by
 refine z9 [(wB l).tS] func44 rfl kI ⟨rfl,trivial⟩ fun a s=> ?_
 replace s:=s.renew [(0,.u (wB l))] (fmz ⟨.inr ⟨_,rfl,.head _⟩,fnz⟩)
 refine zYK ?_
 refine zB 1 ((2,.u (wB (sN))):: []) hmix s kI
  (oc zF<|zC) fun a w1 s=> ?_
 refine zA rfl ?_
 refine zYK ?_
 refine zB 1 ((3,.u (uI 0)):: []) hmix s kI
  (oc zF<|zC) fun a w2 s=> ?_
 refine zA rfl ?_
 refine zYK ?_
 refine zYK ?_
 refine zB 3 ((9,.u (wB l))::(10,.u (uI ((rrv L).length:Int)))::(11,.u (uI 0)):: []) hmix s kI
  (oc zE<|oc (yV (z:=1) (Cs:=rrv L) kI (fun v W hb h=>(yU hl h (s.up hb))) (fun _=>rfl))<|oc zE<|zC) fun a w3 s=> ?_
 refine zA rfl ?_
 refine zYN ?_
 refine zAF (fun k=>k<=L.length) (fun k=> [(9,.u (wB l)),(10,.u (uI ((rrv L).length:Int))),(0,.u (wB l)),(11,.u (uI ((k:Nat):Int))),(3,.u (uI ((zH L k).length:Int)))]) (fun k=>L.length - k) (0:Nat) (zYV _) (s.keepK _ (fmz ⟨.head _,fmz ⟨mz1,fmz ⟨mz5,fmz ⟨mz2,fmz ⟨mz3,fnz⟩⟩⟩⟩⟩)) fun k a w hx s=> ?_
 have hlz:(rrv L).length=L.length:=by simp
 refine zYK ?_
 refine zB 1 ((12,.u (uB (ltz k ((rrv L).length)))):: []) hmix s kI
  (oc (zS .i64 (k:Int) ((rrv L).length:Int) (ltz k ((rrv L).length)) iiz iiz rfl rfl)<|zC) fun a w4 s=> ?_
 refine zA rfl ?_
 refine zYK ?_
 refine StS.cond s (ltz k ((rrv L).length)) iiz (fun e=> ?_) (fun e=> ?_)
 ·have hk:k<L.length:=by have h7:=zYT e;rw [hlz] at h7;omega
  have hfk:=zGS (L:=L) (k:=k+1) hk
  have hfs:(zH L (k+1)).length=(zH L k).length+(rat L k).2.length:=by rw [zBH hk,zY5]
  refine zYM ?_
  refine zYK ?_
  refine zYN ?_
  refine zYK ?_
  refine zB 3 ((13,.s (wE (wF [(rat L k).1]).cf))::(14,.Z (wB ((rat L k).1)))::(5,.u (wB ((rat L k).1))):: []) hmix s kI
   (oc (yH (z:=1) (Cs:=rrv L) (i:=k) (C:=wF [(rat L k).1]) kI (zCx hk) (fun v W hb h=>(yU hl h (s.up hb))) iiz)<|oc (jB (C:=(wF [(rat L k).1]).cf) kI iiz zBO)<|oc zF<|zC) fun a w5 s=> ?_
  refine zA rfl ?_
  refine zYK ?_
  refine zX 4 ((15,.Z (uI ((zH L k).length:Int)))::(16,.Z (wB ((rat L k).1)))::(17,.Z (uI (((pvs m ((rat L k).2)).length:Nat):Int)))::(18,.u (uI ((zH L (k+1)).length:Int))):: []) s kI
   (oc zE<|oc zE<|oc (yV (z:=6) (Cs:=pvs m ((rat L k).2)) kI (fun v W hb h=>(by rw [show _=(rat L k).1 from h];exact (wD 6 (pvs m ((rat L k).2))).st _ _ _ (hL _ (zAh hk)) (s.up hb))) (fun _=>rfl))<|oc (yN .i64 ((zH L k).length:Int) (((pvs m ((rat L k).2)).length:Nat):Int) ((zH L (k+1)).length:Int) iiz iiz (by rw [zYY];simp only [zZa];omega))<|zC) fun a w6 s=> ?_
  replace s:=s.drop [3]
  refine yR (uI ((zH L (k+1)).length:Int)) rfl s kI iiz fun a w s=> ?_
  refine zA rfl ?_
  refine zYK ?_
  refine zB 2 ((19,.Z (uI ((zH L (k+1)).length:Int)))::(20,.u (uB false)):: []) hmix s kI
   (oc zE<|oc (zS .i64 ((zH L (k+1)).length:Int) 0 false iiz iiz (zYQ oP) rfl)<|zC) fun a w7 s=> ?_
  refine zA rfl ?_
  refine StS.cond s false iiz (fun e=>by cases e) (fun e=> ?_)
  refine zYM ?_
  refine zX 1 ((22,.u (uI ((k+1:Nat):Int))):: []) s kI
   (oc (yN .i64 (k:Int) 1 ((k+1:Nat):Int) iiz iiz (wrap64 _ _ oP oP))<|zC) fun a w8 s=> ?_
  replace s:=s.drop [11]
  refine zAN (uI ((k+1:Nat):Int)) rfl s kI zE kI fun a w s=> ?_
  refine zA rfl ?_
  exact ⟨k+1,hk,(by show L.length - (k+1)<L.length - k;omega),s.keepK _ (fmz ⟨mz7,fmz ⟨mz8,fmz ⟨mz9,fmz ⟨.head _,fmz ⟨mz3,fnz⟩⟩⟩⟩⟩)⟩
 ·have hkN:k=L.length:=by have h7:=zYS e;rw [hlz] at h7;omega
  replace s:=s.drop [12]
  subst hkN
  refine zYW ?_
  refine zYK ?_
  have hgs9:=s.gr.size
  refine qV 2 ((23,.Z (uI ((zH L (L.length)).length:Int)))::(24,.s (wL w4 30 6 [])):: []) hmix s kI
   (oc zE<|oc (zI zD zV3 (fun u0 u1 W hb (h0:u0= sN) (h1:u1= .int .i64 ((zH L (L.length)).length:Int))=>(zSG h0 h1 hn).mono (wH (zBm hb.size))))<|zC) fun a w9 s hr=> ?_
  obtain ⟨v24,e24⟩: ∃v,a.tmps.getD 24 undef=v:=⟨_,rfl⟩
  have hR24:zAU w9 _ 30 6 v24 []:=e24▸(hr (_,_) mz1)
  replace s:=s.learn 24 v24 e24
  have hW9:=s.below
  have hL9:RR.ok m L w9:=fun x hx=>(wD 6 _).st _ _ _ (hL x hx) hW9
  have hl9:=(wD 1 (rrv L)).st _ _ _ hl hW9
  have sE:=s
  replace s:=s.reb rfl [(24,.u (wB v24)),(9,.u (wB l)),(10,.u (uI ((rrv L).length:Int))),(0,.u (wB l)),(11,.u (uI (L.length:Int))),(3,.u (uI ((zH L (L.length)).length:Int)))] (fmz ⟨.inl (.head _),fmz ⟨.inl mz1,fmz ⟨.inl mz2,fmz ⟨.inl mz3,fmz ⟨.inl mz4,fmz ⟨.inl mz5,fnz⟩⟩⟩⟩⟩⟩)
  have hR9:=hR24.mono hgs9
  refine yR (wB v24) rfl s kI iiz fun a w s=> ?_
  refine zA rfl ?_
  refine zYK ?_
  refine zYK ?_
  refine zB 3 ((25,.u (wB l))::(26,.u (uI ((rrv L).length:Int)))::(27,.u (uI 0)):: []) hmix s kI
   (oc zE<|oc (yV (z:=1) (Cs:=rrv L) kI (fun v W hb h=>(yU hl9 h (s.up hb))) (fun _=>rfl))<|oc zE<|zC) fun a w10 s=> ?_
  refine zA rfl ?_
  refine zYN ?_
  have hWs:W.heap.size<=w10.heap.size:=zYO hW9.size s.gr.size
  have hRs:=hR9.below s.below
  replace s:=sE.back (s.keepK [(6,.u (wB v24)),(27,.u (uI 0)),(25,.u (wB l)),(26,.u (uI ((rrv L).length:Int)))] (fmz ⟨mz3,fmz ⟨mz2,fmz ⟨.head _,fmz ⟨mz1,fnz⟩⟩⟩⟩)) rfl
  refine zD0 (fun (q:Nat×Wq) w=>q.1<=L.length/\W.heap.size<=w.heap.size/\zAU w W.heap.size 30 6 q.2 (pvs m (zH L q.1))) (fun q=> [(25,.u (wB l)),(26,.u (uI ((rrv L).length:Int))),(6,.u (wB (q.2))),(27,.u (uI (q.1:Int)))]) (fun q=>L.length - q.1) (0,v24) (⟨zYV _,hWs,by simpa [zH] using hRs⟩) (s.keepK _ (fmz ⟨mz2,fmz ⟨mz3,fmz ⟨.head _,fmz ⟨mz1,fnz⟩⟩⟩⟩)) fun q a w hI s=> ?_
  have s0:=s
  have hlw:=(wD 1 (rrv L)).st _ _ _ hl s0.below
  have hLw:RR.ok m L _:=hL.below s0.below
  replace s:=s.reb rfl [(25,.u (wB l)),(26,.u (uI ((rrv L).length:Int))),(6,.u (wB (q.2))),(27,.u (uI (q.1:Int)))] (fmz ⟨.inl (.head _),fmz ⟨.inl mz1,fmz ⟨.inl mz2,fmz ⟨.inl mz3,fnz⟩⟩⟩⟩)
  refine zYK ?_
  refine zB 1 ((28,.u (uB (ltz q.1 ((rrv L).length)))):: []) hmix s kI
   (oc (zS .i64 (q.1:Int) ((rrv L).length:Int) (ltz q.1 ((rrv L).length)) iiz iiz rfl rfl)<|zC) fun a w11 s=> ?_
  refine zA rfl ?_
  refine zYK ?_
  refine StS.cond s (ltz q.1 ((rrv L).length)) iiz (fun e=> ?_) (fun e=> ?_)
  ·have hk:q.1<L.length:=by have:=zYT e;simp at this;omega
   refine zYM ?_
   refine zYK ?_
   refine zYN ?_
   refine zYK ?_
   refine zB 3 ((29,.s (wE (wF [(rat L q.1).1]).cf))::(30,.Z (wB ((rat L q.1).1)))::(8,.u (wB ((rat L q.1).1))):: []) hmix s kI
    (oc (yH (z:=1) (Cs:=rrv L) (i:=q.1) (C:=wF [(rat L q.1).1]) kI (zCx hk) (fun v W hb h=>(yU hlw h (s.up hb))) iiz)<|oc (jB (C:=(wF [(rat L q.1).1]).cf) kI iiz zBO)<|oc zF<|zC) fun a w12 s=> ?_
   refine zA rfl ?_
   refine zX 2 ((31,.u (wB (q.2)))::(32,.u (wB ((rat L q.1).1))):: []) s kI
    (oc zE<|oc zE<|zC) fun a w13 s=> ?_
   refine zLv (pvs m ((rat L q.1).2)) s0 (s.keepK [(31,.u (wB (q.2))),(32,.u (wB ((rat L q.1).1))),(8,.u (wB ((rat L q.1).1))),(28,.u (uB (ltz q.1 ((rrv L).length)))),(25,.u (wB l)),(26,.u (uI ((rrv L).length:Int))),(6,.u (wB (q.2))),(27,.u (uI (q.1:Int)))] (fmz ⟨.head _,fmz ⟨mz1,fmz ⟨mz2,fmz ⟨mz3,fmz ⟨mz4,fmz ⟨mz5,fmz ⟨mz6,fmz ⟨mz7,fnz⟩⟩⟩⟩⟩⟩⟩⟩)) lr hI.2 rfl kI kI kI (s.fct (.tmp 31)) (by rw [show a.eval (.tmp 32)=(rat L q.1).1 from s.val mz1];exact (wD 6 _).st _ _ _ (hLw _ (zAh hk)) s.below) (zOU _ _) (by have:=zGS (L:=L) (k:=q.1+1) hk;rw [zBH hk,zY5] at this;simp;omega) (fun q hq=>by cases hq) fun v' a w hI' s=> ?_
   have s1:=s
   replace s:=s.reb rfl [(33,.u (wB v')),(31,.u (wB (q.2))),(32,.u (wB ((rat L q.1).1))),(8,.u (wB ((rat L q.1).1))),(28,.u (uB (ltz q.1 ((rrv L).length)))),(25,.u (wB l)),(26,.u (uI ((rrv L).length:Int))),(6,.u (wB (q.2))),(27,.u (uI (q.1:Int)))] (fmz ⟨.inl (.head _),fmz ⟨.inl mz1,fmz ⟨.inl mz2,fmz ⟨.inl mz3,fmz ⟨.inl mz4,fmz ⟨.inl mz5,fmz ⟨.inl mz6,fmz ⟨.inl mz7,fmz ⟨.inl mz8,fnz⟩⟩⟩⟩⟩⟩⟩⟩⟩)
   replace s:=s.drop [6]
   refine yR (wB v') rfl s kI iiz fun a w s=> ?_
   refine zA rfl ?_
   refine zX 1 ((34,.u (uI ((q.1+1:Nat):Int))):: []) s kI
    (oc (yN .i64 (q.1:Int) 1 ((q.1+1:Nat):Int) iiz iiz (wrap64 _ _ oP oP))<|zC) fun a w14 s=> ?_
   replace s:=s.drop [27]
   refine zAN (uI ((q.1+1:Nat):Int)) rfl s kI zE kI fun a w s=> ?_
   refine zA rfl ?_
   have hbw:=s.below
   replace s:=s1.back (s.keepK [(27,.u (uI ((q.1+1:Nat):Int))),(34,.u (uI ((q.1+1:Nat):Int))),(6,.u (wB v')),(33,.u (wB v')),(31,.u (wB (q.2))),(32,.u (wB ((rat L q.1).1))),(8,.u (wB ((rat L q.1).1))),(28,.u (uB (ltz q.1 ((rrv L).length)))),(25,.u (wB l)),(26,.u (uI ((rrv L).length:Int)))] (fmz ⟨.head _,fmz ⟨mz1,fmz ⟨mz2,fmz ⟨mz3,fmz ⟨mz4,fmz ⟨mz5,fmz ⟨mz6,fmz ⟨mz7,fmz ⟨mz8,fmz ⟨mz9,fnz⟩⟩⟩⟩⟩⟩⟩⟩⟩⟩)) rfl
   exact ⟨(q.1+1,v'),(by show L.length - (q.1+1)<L.length - q.1;omega),⟨hk,zYO hI'.1 hbw.size,by show zAU _ _ _ _ _ (pvs m (zH L (q.1+1)));rw [zOV m L q.1 hk];exact hI'.2.below hbw⟩,s.keepK _ (fmz ⟨mz8,fmz ⟨mz9,fmz ⟨mz2,fmz ⟨.head _,fnz⟩⟩⟩⟩)⟩
  ·have hk:q.1=L.length:=by have h7:=zYS e;have h8:=hI.1;simp at h7;omega
   refine zYW ?_
   refine zYK ?_
   refine zB 2 ((35,.Z (wB (q.2)))::(2,.u (wB (q.2))):: []) hmix s kI
    (oc zE<|oc zF<|zC) fun a w15 s=> ?_
   refine zA rfl ?_
   refine zYL ?_
   exact StS.resN s s0.below rfl (by rw [s.val (.head _)];have:=hI.2.2.below s.below;rw [hk] at this;exact this)
def yY (ps:List V2):V2:=((qP ps).1 - ((1:Int):Rat),(qP ps).2 - ((1:Int):Rat))
def yZ (ps:List V2):V2:=((qQ ps).1+((1:Int):Rat),(qQ ps).2+((1:Int):Rat))
theorem zJF (hm:0<m):QB ((1:Int):Rat) m:=(qbz (z:=1) dB).mono oP
theorem zJL (hm:0<m):QB ((0:Int):Rat) m:=QB.zero hm
theorem zRb (h: ∀p,p∈ps->QB p.1 m/\QB p.2 m) (hm:0<m):(QB (qP ps).1 m/\QB (qP ps).2 m)/\(QB (qQ ps).1 m/\QB (qQ ps).2 m):=by
 unfold qP qQ
 by_cases e:ps.length=0
 ·rw [if_pos e,if_pos e];exact ⟨⟨zJL hm,zJL hm⟩,⟨zJL hm,zJL hm⟩⟩
 ·rw [if_neg e,if_neg e];exact ⟨zRd h oP _ lr,zRf h oP _ lr⟩
theorem zPE (h:p∈zH L k): ∃x,x∈L/\p∈x.2:=by
 unfold zH at h
 obtain ⟨x,hx,hp⟩:=List.mem_flatMap.1 h
 exact ⟨x,List.mem_of_mem_take hx,hp⟩
theorem zNh (hL:RR.ok m L W) (hm:0<m) (k:Nat): ∀p,p∈zH L k->QB p.1 m/\QB p.2 m:=fun p hp=>by
 obtain ⟨x,hx,h⟩:=zPE hp
 exact zJz hm (hL x hx) p h
theorem zTN (hp:QB p.1 m/\QB p.2 m) (hq:QB q.1 m/\QB q.2 m) (h:(wC (fPR (fPN p) (fPN q))).p cs W):(wC (fPR (fPV m p) (fPV m q))).p cs W:=by
 obtain ⟨a,b,e,h1,h2⟩:=h
 exact ⟨a,b,e,zAo (p:=p) (m:=m) hp.1 hp.2 h1,zAo (p:=q) (m:=m) hq.1 hq.2 h2⟩
theorem zJX (hl:(wD 1 (rrv L)).p l W) (hL:RR.ok m L W) (hm:m<=650) (hm0:0<m) (hn:(zH L L.length).length<=1000000) (hnL:L.length<=1000000) (hT:Tab W):Calls prog 18 #[l] W (Ret W (fPR (fPV (m+2) (yY (zH L L.length))) (fPV (m+2) (yZ (zH L L.length)))).tS):=by
 have hbq:=zRb (zNh hL hm0 L.length) hm0
 refine z9 [(wB l).tS] func18 rfl kI ⟨rfl,trivial⟩ fun a s=> ?_
 replace s:=s.renew [(0,.u (wB l))] (fmz ⟨.inr ⟨_,rfl,.head _⟩,fnz⟩)
 refine zYK ?_
 refine zB 0 [] hmix s kI
  zC fun a w1 s=> ?_
 refine zZ (CU.len 12) (cs:= [.bool false, sN, sN,.bool false, sN, sN,.bool false, sN, sN,.bool false, sN, sN]) kI rfl s kI (fun W=>rfl) rfl fun b2 a w s=> ?_
 refine zA rfl ?_
 refine zYK ?_
 refine zB 6 ((7,.Z (wB l))::(8,.s (wL w 30 6 (pvs m (zH L L.length))))::(9,.Z (zAC (fPR (fPV m (qP (zH L L.length))) (fPV m (qQ (zH L L.length)))) (uB ((zH L L.length).length !=0))))::(6,.Z (zAC (fPR (fPV m (qP (zH L L.length))) (fPV m (qQ (zH L L.length)))) (uB ((zH L L.length).length !=0))))::(10,.u (fPR (fPV m (qP (zH L L.length))) (fPV m (qQ (zH L L.length)))))::(11,.u (uB ((zH L L.length).length !=0))):: []) hmix s kI
  (oc zE<|oc (zJ zD zWf (fun u0 W hb (h0:u0=l)=>(zNb (yU hl h0 (s.up hb)) (hL.below (s.up hb)) hn hnL).mono (wH (zBm hb.size))))<|oc (zJ zD zUx (fun u0 W hb h0=>zQK (zAw _ _ h0) oP hm0 hn (hT.below (s.up hb))))<|oc zE<|oc (zAR (A:=(fPR (fPV m (qP (zH L L.length))) (fPV m (qQ (zH L L.length)))).tS) (B:=(uB ((zH L L.length).length !=0)).tS) iiz)<|oc (zAQ (A:=(fPR (fPV m (qP (zH L L.length))) (fPV m (qQ (zH L L.length)))).tS) (B:=(uB ((zH L L.length).length !=0)).tS) iiz)<|zC) fun a w2 s=> ?_
 refine zZ (CU.len 12) (cs:= [.bool false, sN, sN,.bool false, sN, sN,.bool false, sN, sN,.bool false, sN, sN]) kI rfl s kI (fun W=>rfl) rfl fun b3 a w s=> ?_
 refine zQ (wC (fPR (fPV m (qP (zH L L.length))) (fPV m (qQ (zH L L.length))))) ((fPR (fPV m (qP (zH L L.length))) (fPV m (qQ (zH L L.length)))).tS) rfl s kI rfl rfl rfl iiz iiz zBo fun a w s=> ?_
 refine yR (uB ((zH L L.length).length !=0)) rfl s kI iiz fun a w s=> ?_
 refine zA rfl ?_
 refine zYK ?_
 refine zB 1 ((12,.u (fPV m (((1:Int):Rat),((1:Int):Rat)))):: []) hmix s kI
  (oc (zI zD zSS (fun u0 u1 W hb (h0:u0= .int .i64 1) (h1:u1= .int .i64 1)=>(zRv h0 h1 dB dB).mono (wH (fun v W h=>zAo (p:=(((1:Int):Rat),((1:Int):Rat))) (m:=m) (zJF hm0) (zJF hm0) h))))<|zC) fun a w3 s=> ?_
 refine zZ (CU.len 6) (cs:=zP6) kI rfl s kI (fun W=>rfl) rfl fun b5 a w s=> ?_
 refine zQ (wC (fPV m (((1:Int):Rat),((1:Int):Rat)))) ((fPV m (((1:Int):Rat),((1:Int):Rat))).tS) rfl s kI rfl rfl rfl iiz iiz yT fun a w s=> ?_
 refine zA rfl ?_
 refine zYK ?_
 refine z7 [] 9 ((13,.X (fPR (fPV m (qP (zH L L.length))) (fPV m (qQ (zH L L.length)))) 0)::(14,.Z (fPV m (qP (zH L L.length))))::(15,.Z (fPV m (((1:Int):Rat),((1:Int):Rat))))::(16,.Z (fPN ((qP (zH L L.length)).1 - ((1:Int):Rat),(qP (zH L L.length)).2 - ((1:Int):Rat))))::(17,.X (fPR (fPV m (qP (zH L L.length))) (fPV m (qQ (zH L L.length)))) 6)::(18,.Z (fPV m (qQ (zH L L.length))))::(19,.Z (fPV m (((1:Int):Rat),((1:Int):Rat))))::(20,.Z (fPN ((qQ (zH L L.length)).1+((1:Int):Rat),(qQ (zH L L.length)).2+((1:Int):Rat))))::(21,.u (fPR (fPN ((qP (zH L L.length)).1 - ((1:Int):Rat),(qP (zH L L.length)).2 - ((1:Int):Rat))) (fPN ((qQ (zH L L.length)).1+((1:Int):Rat),(qQ (zH L L.length)).2+((1:Int):Rat))))):: []) hmix s kI
  (oc (zL (C:=cg (fPR (fPV m (qP (zH L L.length))) (fPV m (qQ (zH L L.length))))) 0 kI)<|oc (zR (C:=cg (fPR (fPV m (qP (zH L L.length))) (fPV m (qQ (zH L L.length))))) (k:=0) 6 kI (h:=zC8))<|oc (zK (f:=fPV m (((1:Int):Rat),((1:Int):Rat))) 6 kI (hz:=zP _ _))<|oc (zI zD zSR (fun u0 u1 W hb (h0:(fPV m (qP (zH L L.length))).p u0 W) (h1:(fPV m (((1:Int):Rat),((1:Int):Rat))).p u1 W)=>zLo (p:=qP (zH L L.length)) (q:=(((1:Int):Rat),((1:Int):Rat))) h0 h1 hm hm0 (hT.below (s.up hb))))<|oc (zL (C:=cg (fPR (fPV m (qP (zH L L.length))) (fPV m (qQ (zH L L.length))))) 6 kI)<|oc (zR (C:=cg (fPR (fPV m (qP (zH L L.length))) (fPV m (qQ (zH L L.length))))) (k:=6) 6 kI (h:=zDA))<|oc (zK (f:=fPV m (((1:Int):Rat),((1:Int):Rat))) 6 kI (hz:=zP _ _))<|oc (zI zD zWe (fun u0 u1 W hb (h0:(fPV m (qQ (zH L L.length))).p u0 W) (h1:(fPV m (((1:Int):Rat),((1:Int):Rat))).p u1 W)=>zS8 (p:=qQ (zH L L.length)) (q:=(((1:Int):Rat),((1:Int):Rat))) h0 h1 hm hm0 (hT.below (s.up hb))))<|oc (y4 (fun u v W (hu:(fPN ((qP (zH L L.length)).1 - ((1:Int):Rat),(qP (zH L L.length)).2 - ((1:Int):Rat))).p u W) (hv:(fPN ((qQ (zH L L.length)).1+((1:Int):Rat),(qQ (zH L L.length)).2+((1:Int):Rat))).p v W)=>zVa hu hv))<|zC) fun Q' hQ a w4 s=> ?_
 refine zQ (wC (fPR (fPN ((qP (zH L L.length)).1 - ((1:Int):Rat),(qP (zH L L.length)).2 - ((1:Int):Rat))) (fPN ((qQ (zH L L.length)).1+((1:Int):Rat),(qQ (zH L L.length)).2+((1:Int):Rat))))) ((fPR (fPN ((qP (zH L L.length)).1 - ((1:Int):Rat),(qP (zH L L.length)).2 - ((1:Int):Rat))) (fPN ((qQ (zH L L.length)).1+((1:Int):Rat),(qQ (zH L L.length)).2+((1:Int):Rat)))).tS) rfl s kI rfl rfl rfl iiz iiz zBo fun a w s=> ?_
 refine zA rfl (hQ _ _ ?_)
 refine zYL ?_
 exact wI s (wC (fPR (fPN ((qP (zH L L.length)).1 - ((1:Int):Rat),(qP (zH L L.length)).2 - ((1:Int):Rat))) (fPN ((qQ (zH L L.length)).1+((1:Int):Rat),(qQ (zH L L.length)).2+((1:Int):Rat))))) rfl kI rfl rfl zBd (fun cs W h=>zTN (p:=yY (zH L L.length)) (q:=yZ (zH L L.length)) (zB3 hbq.1 hm0).2 (zB3 hbq.2 hm0).1 h)
theorem zCY (hl:(wD 1 (rrv L)).p l W) (hL:RR.ok m L W) (h1:(fPV m p).p v W) (hm:m<=159) (hm0:0<m) (hnP: ∀x,x∈L->x.2.length<=1000000) (hnL:L.length<=1000000) (hT:Tab W):Calls prog 16 #[l,v] W (Ret W (wL W 3 1 (zQB (whK L p L.length)))):=by
 refine z9 [(wB l).tS,(fPV m p).tS] func16 rfl kI ⟨rfl,h1,trivial⟩ fun a s=> ?_
 replace s:=s.renew [(0,.u (wB l)),(1,.u (fPV m p))] (fmz ⟨.inr ⟨_,rfl,.head _⟩,fmz ⟨.inr ⟨_,rfl,mz1⟩,fnz⟩⟩)
 refine zYK ?_
 refine zB 0 [] hmix s kI
  zC fun a w1 s=> ?_
 refine yK (wC (fPV m p)) rfl s kI (fun v W h=>yS h) fun b3 a w s=> ?_
 refine yR (wB (sN)) rfl s kI iiz fun a w s=> ?_
 refine zA rfl ?_
 refine zYK ?_
 refine zYK ?_
 refine zB 3 ((7,.u (wB l))::(8,.u (uI ((rrv L).length:Int)))::(9,.u (uI 0)):: []) hmix s kI
  (oc zE<|oc (yV (z:=1) (Cs:=rrv L) kI (fun v W hb h=>(yU hl h (s.up hb))) (fun _=>rfl))<|oc zE<|zC) fun a w2 s=> ?_
 refine zA rfl ?_
 refine zYN ?_
 have hb3:b3<w2.heap.size:=s.old _ (.head _)
 have hWs:W.heap.size<=w2.heap.size:=s.gr.size
 obtain ⟨base,hbase⟩: ∃b,b=w2.heap.size:=⟨_,rfl⟩
 have hb3':b3<base:=by rw [hbase];exact hb3
 have hb0:W.heap.size<=base:=by rw [hbase];exact hWs
 have hsz0:base<=w2.heap.size:=by rw [hbase];exact zY1 _
 replace s:StS _ _ _ [⟨3,30,wC (fPV m p),b3,true⟩] _ _ _ _:=s.freeze
 refine zD0 (fun (q:Nat×Wq) w=>q.1<=L.length/\base<=w.heap.size/\zAU w base 3 1 q.2 (zQB (whK L p q.1))) (fun q=> [(7,.u (wB l)),(8,.u (uI ((rrv L).length:Int))),(4,.u (wB (q.2))),(9,.u (uI (q.1:Int)))]) (fun q=>L.length - q.1) (0, sN) (⟨zYV _,hsz0,zAU.nil _ _ _ _⟩) (s.keepK _ (fmz ⟨.head _,fmz ⟨mz1,fmz ⟨mz3,fmz ⟨mz2,fnz⟩⟩⟩⟩)) fun q a w hI s=> ?_
 have s0:=s
 have hlw:=(wD 1 (rrv L)).st _ _ _ hl s0.below
 have hLw:RR.ok m L _:=hL.below s0.below
 have hT0:=hT
 have hT:=hT0.below s0.below
 replace s:=s.reb rfl [(7,.u (wB l)),(8,.u (uI ((rrv L).length:Int))),(4,.u (wB (q.2))),(9,.u (uI (q.1:Int)))] (fmz ⟨.inl (.head _),fmz ⟨.inl mz1,fmz ⟨.inl mz2,fmz ⟨.inl mz3,fnz⟩⟩⟩⟩)
 refine zYK ?_
 refine zB 1 ((10,.u (uB (ltz q.1 ((rrv L).length)))):: []) hmix s kI
  (oc (zS .i64 (q.1:Int) ((rrv L).length:Int) (ltz q.1 ((rrv L).length)) iiz iiz rfl rfl)<|zC) fun a w3 s=> ?_
 refine zA rfl ?_
 refine zYK ?_
 refine StS.cond s (ltz q.1 ((rrv L).length)) iiz (fun e=> ?_) (fun e=> ?_)
 ·have hk:q.1<L.length:=by have:=zYT e;simp at this;omega
  refine zYM ?_
  refine zYK ?_
  refine zYN ?_
  refine zYK ?_
  refine zB 5 ((11,.Z (uI (q.1:Int)))::(12,.s (wE (wF [(rat L q.1).1]).cf))::(13,.Z (wB ((rat L q.1).1)))::(5,.u (uI (q.1:Int)))::(6,.u (wB ((rat L q.1).1))):: []) hmix s kI
   (oc zE<|oc (yH (z:=1) (Cs:=rrv L) (i:=q.1) (C:=wF [(rat L q.1).1]) kI (zCx hk) (fun v W hb h=>(yU hlw h (s.up hb))) iiz)<|oc (jB (C:=(wF [(rat L q.1).1]).cf) kI iiz zBO)<|oc zF<|oc zF<|zC) fun a w4 s=> ?_
  refine zA rfl ?_
  refine zYK ?_
  refine zB 3 ((14,.Z (wB ((rat L q.1).1)))::(15,.Z (fPV m p))::(16,.u (uB (inK (rat L q.1).2 p (rat L q.1).2.length))):: []) hmix s kI
   (oc zE<|oc (zK (f:=fPV m p) 6 kI (hz:=zP _ _))<|oc (zI zD zVS (fun u0 u1 W hb (h0:u0=(rat L q.1).1) (h1:(fPV m p).p u1 W)=>zSE (by rw [show _=(rat L q.1).1 from h0];exact (wD 6 (pvs m ((rat L q.1).2))).st _ _ _ (hLw _ (zAh hk)) (s.up hb)) h1 hm hm0 (hnP _ (zAh hk)) (hT.below (s.up hb))))<|zC) fun a w5 s=> ?_
  refine zA rfl ?_
  refine StS.cond s (inK (rat L q.1).2 p (rat L q.1).2.length) iiz (fun e=> ?_) (fun e=> ?_)
  ·refine zCf 3 ((17,.u (wB (q.2)))::(18,.Z (uI (q.1:Int)))::(19,.s (wD 1 [wF [.int .i64 (q.1:Int)]])):: []) s kI
    (oc zE<|oc zE<|oc (jI (fun u W (hu:u= .int .i64 (q.1:Int))=>zLC hu))<|zC) fun a w6 s hr=> ?_
   refine zLv ([wF [.int .i64 (q.1:Int)]]) s0 (s.keepK [(17,.u (wB (q.2))),(16,.u (uB (inK (rat L q.1).2 p (rat L q.1).2.length))),(5,.u (uI (q.1:Int))),(6,.u (wB ((rat L q.1).1))),(10,.u (uB (ltz q.1 ((rrv L).length)))),(7,.u (wB l)),(8,.u (uI ((rrv L).length:Int))),(4,.u (wB (q.2))),(9,.u (uI (q.1:Int)))] (fmz ⟨.head _,fmz ⟨mz1,fmz ⟨mz2,fmz ⟨mz3,fmz ⟨mz4,fmz ⟨mz5,fmz ⟨mz6,fmz ⟨mz7,fmz ⟨mz8,fnz⟩⟩⟩⟩⟩⟩⟩⟩⟩)) hb0 hI.2 rfl kI kI kI (s.fct (.tmp 17)) (hr (_,_) mz2) (zQC _) (by have:=zRs L p q.1;simp;omega) (fun x hx hr=>by rcases zY9.1 hx with rfl|hx;exact hb3';cases hx) fun v' a w hI' s=> ?_
   have s1:=s
   replace s:StS _ _ _ [⟨3,30,wC (fPV m p),b3,true⟩] _ _ _ _:=s.freeze
   replace s:=s.reb rfl [(20,.u (wB v')),(17,.u (wB (q.2))),(16,.u (uB (inK (rat L q.1).2 p (rat L q.1).2.length))),(5,.u (uI (q.1:Int))),(6,.u (wB ((rat L q.1).1))),(10,.u (uB (ltz q.1 ((rrv L).length)))),(7,.u (wB l)),(8,.u (uI ((rrv L).length:Int))),(4,.u (wB (q.2))),(9,.u (uI (q.1:Int)))] (fmz ⟨.inl (.head _),fmz ⟨.inl mz1,fmz ⟨.inl mz2,fmz ⟨.inl mz3,fmz ⟨.inl mz4,fmz ⟨.inl mz5,fmz ⟨.inl mz6,fmz ⟨.inl mz7,fmz ⟨.inl mz8,fmz ⟨.inl mz9,fnz⟩⟩⟩⟩⟩⟩⟩⟩⟩⟩)
   replace s:=s.drop [4]
   refine yR (wB v') rfl s kI iiz fun a w s=> ?_
   refine zA rfl ?_
   refine zX 1 ((21,.u (uI ((q.1+1:Nat):Int))):: []) s kI
    (oc (yN .i64 (q.1:Int) 1 ((q.1+1:Nat):Int) iiz iiz (wrap64 _ _ oP oP))<|zC) fun a w7 s=> ?_
   replace s:=s.drop [9]
   refine zAN (uI ((q.1+1:Nat):Int)) rfl s kI zE kI fun a w s=> ?_
   refine zA rfl ?_
   have hbw:=s.below
   replace s:=s1.back (s.keepK [(9,.u (uI ((q.1+1:Nat):Int))),(21,.u (uI ((q.1+1:Nat):Int))),(4,.u (wB v')),(20,.u (wB v')),(17,.u (wB (q.2))),(16,.u (uB (inK (rat L q.1).2 p (rat L q.1).2.length))),(5,.u (uI (q.1:Int))),(6,.u (wB ((rat L q.1).1))),(10,.u (uB (ltz q.1 ((rrv L).length)))),(7,.u (wB l)),(8,.u (uI ((rrv L).length:Int)))] (fmz ⟨.head _,fmz ⟨mz1,fmz ⟨mz2,fmz ⟨mz3,fmz ⟨mz4,fmz ⟨mz5,fmz ⟨mz6,fmz ⟨mz7,fmz ⟨mz8,fmz ⟨mz9,fmz ⟨zPf,fnz⟩⟩⟩⟩⟩⟩⟩⟩⟩⟩⟩)) rfl
   exact ⟨(q.1+1,v'),(by show L.length - (q.1+1)<L.length - q.1;omega),⟨hk,zYO hI'.1 hbw.size,by show zAU _ _ _ _ _ (zQB (whK L p (q.1+1)));rw [zVd e,zMF];exact hI'.2.below hbw⟩,s.keepK _ (fmz ⟨mz9,fmz ⟨zPf,fmz ⟨mz2,fmz ⟨.head _,fnz⟩⟩⟩⟩)⟩
  ·refine zYM ?_
   refine zX 1 ((21,.u (uI ((q.1+1:Nat):Int))):: []) s kI
    (oc (yN .i64 (q.1:Int) 1 ((q.1+1:Nat):Int) iiz iiz (wrap64 _ _ oP oP))<|zC) fun a w8 s=> ?_
   replace s:=s.drop [9]
   refine zAN (uI ((q.1+1:Nat):Int)) rfl s kI zE kI fun a w s=> ?_
   refine zA rfl ?_
   have hbw:=s.below
   replace s:=s0.back (s.keepK [(9,.u (uI ((q.1+1:Nat):Int))),(21,.u (uI ((q.1+1:Nat):Int))),(16,.u (uB (inK (rat L q.1).2 p (rat L q.1).2.length))),(5,.u (uI (q.1:Int))),(6,.u (wB ((rat L q.1).1))),(10,.u (uB (ltz q.1 ((rrv L).length)))),(7,.u (wB l)),(8,.u (uI ((rrv L).length:Int))),(4,.u (wB (q.2)))] (fmz ⟨.head _,fmz ⟨mz1,fmz ⟨mz2,fmz ⟨mz3,fmz ⟨mz4,fmz ⟨mz5,fmz ⟨mz6,fmz ⟨mz7,fmz ⟨mz8,fnz⟩⟩⟩⟩⟩⟩⟩⟩⟩)) rfl
   exact ⟨(q.1+1,q.2),(by show L.length - (q.1+1)<L.length - q.1;omega),⟨hk,zYO hI.2.1 hbw.size,by show zAU _ _ _ _ _ (zQB (whK L p (q.1+1)));rw [zVe e];exact hI.2.2.below hbw⟩,s.keepK _ (fmz ⟨mz6,fmz ⟨mz7,fmz ⟨mz8,fmz ⟨.head _,fnz⟩⟩⟩⟩)⟩
 ·have hk:q.1=L.length:=by have h7:=zYS e;have h8:=hI.1;simp at h7;omega
  refine zYW ?_
  refine zYK ?_
  refine zX 1 ((22,.u (wB (q.2))):: []) s kI
   (oc zE<|zC) fun a w9 s=> ?_
  replace s:=s.drop [4]
  refine yR (wB (q.2)) rfl s kI iiz fun a w s=> ?_
  refine zA rfl ?_
  refine zYL ?_
  exact StS.resN s s0.below rfl (by rw [s.val (.head _)];have:=(hI.2.2.below s.below).mono hb0;rw [hk] at this;exact this)
theorem zMb {lo2 hi2:V2} (h1:(fPR (fPV m lo) (fPV m hi)).p u W) (h2:(fPR (fPV m lo2) (fPV m hi2)).p v W) (hm:m<=990) (hm0:0<m):Calls prog 30 #[u,v] W (Ret W (fB ((q8 lo lo2==0)&&(q8 hi hi2==0))).tS):=by
 refine z9 [(fPR (fPV m lo) (fPV m hi)).tS,(fPR (fPV m lo2) (fPV m hi2)).tS] func30 rfl kI ⟨h1,h2,trivial⟩ fun a s=> ?_
 refine zYK ?_
 refine zB 0 [] hmix s kI
  zC fun a w1 s=> ?_
 refine yK (wC (fPR (fPV m lo) (fPV m hi))) rfl s kI (fun v W h=>zJB h) fun b2 a w s=> ?_
 refine yK (wC (fPR (fPV m lo2) (fPV m hi2))) rfl s kI (fun v W h=>zJB h) fun b3 a w s=> ?_
 refine yR (uB false) rfl s kI iiz fun a w s=> ?_
 refine zA rfl ?_
 refine zYK ?_
 replace s:=s.drop [4]
 refine zB 13 ((5,.X (fPR (fPV m lo) (fPV m hi)) 0)::(6,.Z (fPV m lo))::(7,.X (fPR (fPV m lo2) (fPV m hi2)) 0)::(8,.Z (fPV m lo2))::(9,.Z (uB (q8 lo lo2==0)))::(10,.Z (uB (q8 lo lo2==0)))::(11,.s (SF.imp ((q8 lo lo2==0)=true) (wE ((wC (fPR (fPV m lo) (fPV m hi))).cf.at 6))))::(12,.s (SF.imp ((q8 lo lo2==0)=true) ((fPV m hi).tS)))::(13,.s (SF.imp ((q8 lo lo2==0)=true) (wE ((wC (fPR (fPV m lo2) (fPV m hi2))).cf.at 6))))::(14,.s (SF.imp ((q8 lo lo2==0)=true) ((fPV m hi2).tS)))::(15,.s (SF.imp ((q8 lo lo2==0)=true) ((uB (q8 hi hi2==0)).tS)))::(16,.Z (uB ((q8 lo lo2==0)&&(q8 hi hi2==0))))::(4,.u (uB ((q8 lo lo2==0)&&(q8 hi hi2==0)))):: []) hmix s kI
  (oc (zL (C:=cg (fPR (fPV m lo) (fPV m hi))) 0 kI)<|oc (zR (C:=cg (fPR (fPV m lo) (fPV m hi))) (k:=0) 6 kI (h:=zC8))<|oc (zL (C:=cg (fPR (fPV m lo2) (fPV m hi2))) 0 kI)<|oc (zR (C:=cg (fPR (fPV m lo2) (fPV m hi2))) (k:=0) 6 kI (h:=zC8))<|oc (zI zD zH3 (fun u0 u1 W hb (h0:(fPV m lo).p u0 W) (h1:(fPV m lo2).p u1 W)=>zBU (m:=m) h0 h1 hm hm0))<|oc zE<|oc (zG 10 (q8 lo lo2==0) kI iiz (fun e=>z5 [] (wE ((wC (fPR (fPV m lo) (fPV m hi))).cf.at 6)) fnz fP kI (zL (C:=cg (fPR (fPV m lo) (fPV m hi))) 6 kI)) fO)<|oc (zG 10 (q8 lo lo2==0) kI iiz (fun e=>z5 [(11,wE ((wC (fPR (fPV m lo) (fPV m hi))).cf.at 6))] ((fPV m hi).tS) (fmz ⟨fun v W h=>zT (c:=(q8 lo lo2==0)=true) (f:=wE ((wC (fPR (fPV m lo) (fPV m hi))).cf.at 6)) e h,fnz⟩) fP kI (zR (C:=cg (fPR (fPV m lo) (fPV m hi))) (k:=6) 6 kI (h:=zDA))) fO)<|oc (zG 10 (q8 lo lo2==0) kI iiz (fun e=>z5 [] (wE ((wC (fPR (fPV m lo2) (fPV m hi2))).cf.at 6)) fnz fP kI (zL (C:=cg (fPR (fPV m lo2) (fPV m hi2))) 6 kI)) fO)<|oc (zG 10 (q8 lo lo2==0) kI iiz (fun e=>z5 [(13,wE ((wC (fPR (fPV m lo2) (fPV m hi2))).cf.at 6))] ((fPV m hi2).tS) (fmz ⟨fun v W h=>zT (c:=(q8 lo lo2==0)=true) (f:=wE ((wC (fPR (fPV m lo2) (fPV m hi2))).cf.at 6)) e h,fnz⟩) fP kI (zR (C:=cg (fPR (fPV m lo2) (fPV m hi2))) (k:=6) 6 kI (h:=zDA))) fO)<|oc (zG 10 (q8 lo lo2==0) kI iiz (fun e=>z5 [(12,(fPV m hi).tS),(14,(fPV m hi2).tS)] ((uB (q8 hi hi2==0)).tS) (fmz ⟨fun v W h=>zT (c:=(q8 lo lo2==0)=true) (f:=(fPV m hi).tS) e h,fmz ⟨fun v W h=>zT (c:=(q8 lo lo2==0)=true) (f:=(fPV m hi2).tS) e h,fnz⟩⟩) fP kI (zI zD zH3 (fun u0 u1 W hb (h0:(fPV m hi).p u0 W) (h1:(fPV m hi2).p u1 W)=>zBU (m:=m) h0 h1 hm hm0))) fO)<|oc (yO (q8 lo lo2==0) iiz (fun e v W h=>zAP (zT e h) e) (fun e v W h=>zAe h e))<|oc zF<|zC) fun a w2 s=> ?_
 refine zA rfl ?_
 refine zYL ?_
 exact wG s (t:=4) rfl iiz
theorem egB (s:Bool) (A A':Ws Addr) (n n' c c':Nat) (s2:Bool) (B B':Ws Addr) (k k' d d':Nat) (t:Bool) (C C':Ws Addr) (i i' j j':Nat) (t2:Bool) (D D':Ws Addr) (x x' y y':Nat):prog.built 64 [(0,.agg #[.bool s,.slice A n c,.slice A' n' c',.bool s2,.slice B k d,.slice B' k' d']),(1,.agg #[.bool t,.slice C i j,.slice C' i' j',.bool t2,.slice D x y,.slice D' x' y'])]=some #[.bool s,.slice A n c,.slice A' n' c',.bool s2,.slice B k d,.slice B' k' d',.bool t,.slice C i j,.slice C' i' j',.bool t2,.slice D x y,.slice D' x' y']:=by kernel_rfl
theorem zXh (hu:(fPT f g).p u W) (hv:(fPT f' g').p v W): ∃cells,prog.built 64 [(0,u),(1,v)]=some cells/\(fPR (fPT f g) (fPT f' g')).p (.agg cells) W:=by
 obtain ⟨s,A,n,c,A',n',c',s2,B,k,d,B',k',d',rfl,h1,h2⟩:=hu
 obtain ⟨s3,A3,n3,c3,A4,n4,c4,s4,B3,k3,d3,B4,k4,d4,rfl,h3,h4⟩:=hv
 exact ⟨_,egB ..,_,_,rfl,⟨s,A,n,c,A',n',c',s2,B,k,d,B',k',d',rfl,h1,h2⟩,⟨s3,A3,n3,c3,A4,n4,c4,s4,B3,k3,d3,B4,k4,d4,rfl,h3,h4⟩⟩
def zCq (ps:List V2) (j:Nat):V2×V2:=if decide (q8 (at_ ps j) (at_ ps ((j+1) % ps.length))>0)=true then (at_ ps ((j+1) % ps.length),at_ ps j) else (at_ ps j,at_ ps ((j+1) % ps.length))
theorem zSU (e:decide (q8 (at_ ps j) (at_ ps ((j+1) % ps.length))>0)=true):zCq ps j=(at_ ps ((j+1) % ps.length),at_ ps j):=if_pos e
theorem zSV (e:decide (q8 (at_ ps j) (at_ ps ((j+1) % ps.length))>0)=false):zCq ps j=(at_ ps j,at_ ps ((j+1) % ps.length)):=if_neg (by rw [e];decide)
def zAD (ps:List V2):List (V2×V2):=(List.range ps.length).map (zCq ps)
def zEs (L:RR):List (V2×V2):=L.flatMap fun x=>zAD x.2
def eAt (L:RR) (k:Nat):V2×V2:=(zEs L).getD k ((0,0),(0,0))
abbrev eH (m:Nat) (L:RR) (k:Nat):List UF:= [fPR (fPV m (eAt L k).1) (fPV m (eAt L k).2)]
theorem zIh (L:RR): ∀k,k<=L.length->((L.take k).flatMap fun x=>zAD x.2).length=(zH L k).length:=fun k _=>by
 unfold zH
 generalize L.take k=M
 induction M with
 |nil=>rfl
 |cons x M ih=>simp only [List.flatMap_cons,zY5,ih];simp [zAD]
theorem zKp (L:RR):(zEs L).length=(zH L L.length).length:=by
 have:=zIh L L.length lr
 rwa [zY3 lr] at this
theorem zQ1 (hk:k<L.length) (hj:j<(rat L k).2.length):eAt L ((zH L k).length+j)=zCq (rat L k).2 j:=by
 unfold eAt
 have e0:zEs L=((L.take k).flatMap fun x=>zAD x.2)++((L.drop k).flatMap fun x=>zAD x.2):=by
  unfold zEs
  rw [<-zZj,List.take_append_drop]
 have e1:L.drop k=rat L k::L.drop (k+1):=by
  unfold rat
  rw [zY0,zYU hk,List.drop_eq_getElem_cons hk];rfl
 rw [e0,e1,zY0, <-zIh L k (Nat.le_of_lt hk),List.getElem?_append_right (Nat.le_add_right _ _),Nat.add_sub_cancel_left,List.flatMap_cons,List.getElem?_append_left (by simpa [zAD] using hj)]
 unfold zAD
 rw [zYX,List.getElem?_range hj]
 rfl
theorem zQJ (hk:k<L.length) (hj:j<(rat L k).2.length):(zH L k).length+j<(zEs L).length:=by
 rw [zKp]
 have:=zGS (L:=L) (k:=k+1) hk
 rw [zBH hk,zY5] at this
 omega
theorem zFP {O:Nat->Prop} (hb:bW w0 w) (hr:RndO N C O w w1) (hN:w0.heap.size<=N) (hC: ∀k,C k->w0.heap.size<=k):bW w0 w1:=
 ⟨hr.os.trans hb.os,hr.tape.trans hb.tape,hr.output.trans hb.output,zYO hb.size hr.size,fun k hk=>(hr.low k (zY2 hk hN) (fun h=>by have:=hC k h;omega)).trans (hb.block k hk)⟩
theorem zUk (f:Operand->Wq) (x:Operand):(Array.map f #[x]).getD 0 undef=f x:=by simp [Array.getD_eq_getD_getElem?]
theorem zPx (hlc:l.cells=#[l]/\yA l=true):Calls prog 57 #[l] W (Ret W (zPG W 85 43 (wF [l]))):=by
 refine z9 [(wB l).tS] func57 rfl kI ⟨rfl,trivial⟩ fun a s=> ?_
 refine zYK ?_
 refine zB 0 [] hmix s kI
  zC fun a w1 s=> ?_
 refine yK (wF [l]) rfl s kI (fun v W h=>zJW h hlc.1 hlc.2) fun b1 a w s=> ?_
 refine yR (wB (.nilFunc)) rfl s kI iiz fun a w s=> ?_
 refine zA rfl ?_
 refine zYK ?_
 replace s:=s.drop [2]
 refine zB 2 ((3,.Z (wB (.func (.func 85) #[] #[pO b1 0])))::(2,.u (wB (.func (.func 85) #[] #[pO b1 0]))):: []) hmix s kI
  (oc (zEI (fun u W hb (h:(wK b1 (wF [l]).cf).p u W)=>by rw [h.1];rfl))<|oc zF<|zC) fun a w2 s=> ?_
 refine zA rfl ?_
 refine zYL ?_
 obtain ⟨cs,e1,e2,e3⟩:=s.boxAt (c:=1) rfl
 exact StS.resN s (zY4 _ _) rfl ⟨b1,cs,s.val (.head _),s.inB_new ⟨_,.head _,rfl,rfl⟩,e1,e2,e3⟩
theorem zM9 {w_:Wp} {b:Nat} (hh:w_.heap[b]?=some (.cells #[l] 43 (0,0))) (hl:(wD 1 (rrv L)).p l w0) (hL:RR.ok m L w0) (hb0:bW w0 w_) (hCl: ∀k,C k->k<w_.heap.size) (hC0: ∀k,C k->w0.heap.size<=k) (hCb: ¬C b) (hm:m<=990) (hm0:0<m) (hnP: ∀x,x∈L->x.2.length<=1000000) (hnL:L.length<=1000000) (hT:Tab w0):
  ItD prog 85 #[pO b 0] (eH m L) (zEs L).length C w_:=by
 intro l_ J Z W hwW hbW hkW hJs hZs hround hJ0
 have hlc:=zHq hl
 have hw0:w0.heap.size<=w_.heap.size:=hb0.size
 have hbW0:bW w0 W:=hb0.trans (hbW.mono hb0.size)
 have hlW:=(wD 1 (rrv L)).st _ _ _ hl hbW0
 have hLW:RR.ok m L W:=hL.below hbW0
 have hhW:W.heap[b]?=some (.cells #[l] 43 (0,0)):=(hbW.block b (zYZ.1 hh).1).trans hh
 refine zPs func85 rfl ?_
 have s:=zOl (w:=W) (fn:=f85) (args:=#[.func (.yield l_) #[] #[]]++#[pO b 0]) noS [(0,wB (.func (.yield l_) #[] #[]))] [⟨1,43,wF [l],b,true⟩] kI (fun q hq=>by obtain rfl:=zYP.1 hq;exact ⟨by simp,rfl⟩) ⟨⟨[l],rfl,.inl rfl,hhW,rfl,by simp [hlc.2],fun y hy=>by cases hy⟩,trivial⟩ (fun x hx=>by obtain rfl:=zYP.1 hx;show 1<2;decide)
 generalize ({ tmps:=#[.func (.yield l_) #[] #[]]++#[pO b 0]++Array.replicate (f85.ntmps - (#[.func (.yield l_) #[] #[]]++#[pO b 0]:Array Wq).size) undef,defers:= [] }:Act)=a at s ⊢
 refine zYK ?_
 refine zB 3 ((8,.u (wB l))::(9,.u (uI ((rrv L).length:Int)))::(10,.u (uI 0)):: []) hmix s kI
  (oc (jB (C:=(wF [l]).cf) kI (fun _ _ h=>h.2) zBO)<|oc (yV (z:=1) (Cs:=rrv L) kI (fun v W hb h=>(yU hlW h (s.up hb))) (fun _=>rfl))<|oc zE<|zC) fun a w1 s=> ?_
 refine zA rfl ?_
 refine zYN ?_
 have hJw:J 0 (fun _=>False) w1:=hJs _ _ _ _ _ hJ0 s.below (fun q hq=>hq.elim)
 have hBw0:bW w0 w1:=hbW0.trans (s.below.mono hbW0.size)
 have hW0:=s.gr.size
 replace s:=(s.keepK [(0,.u (wB (.func (.yield l_) #[] #[]))),(8,.u (wB l)),(9,.u (uI ((rrv L).length:Int))),(10,.u (uI ((0:Nat):Int)))] (fmz ⟨mz3,fmz ⟨.head _,fmz ⟨mz1,fmz ⟨mz2,fnz⟩⟩⟩⟩)).self (q7 kI)
 refine zEg (fun k a w=>k<=L.length/\J (zH L k).length (fun _=>False) w/\bW w0 w/\W.heap.size<=w.heap.size/\StS (inB [⟨1,43,wF [l],b,true⟩]) w [(0,.u (wB (.func (.yield l_) #[] #[]))),(8,.u (wB l)),(9,.u (uI ((rrv L).length:Int))),(10,.u (uI ((k:Nat):Int)))] [⟨1,43,wF [l],b,true⟩] f85.ntmps [] a w) (fun k=>L.length - k) 0 ⟨zYV _,hJw,hBw0,hW0,s⟩ fun k a w ⟨hk',hJ,hBw,hWs,s⟩=> ?_
 replace s:=s.toSt (fun q ⟨x,hx,_,hr⟩=>by obtain rfl:=zYP.1 hx;cases hr) rfl
 have hlw:=(wD 1 (rrv L)).st _ _ _ hl hBw
 have hLw:RR.ok m L w:=hL.below hBw
 have hTo:=hT
 have hT:=hTo.below hBw
 have hlz:(rrv L).length=L.length:=by simp
 refine zYK ?_
 refine zB 1 ((11,.u (uB (ltz k ((rrv L).length)))):: []) hmix s kI
  (oc (zS .i64 (k:Int) ((rrv L).length:Int) (ltz k ((rrv L).length)) iiz iiz rfl rfl)<|zC) fun a w2 s=> ?_
 refine zA rfl ?_
 refine zYK ?_
 refine StS.cond s (ltz k ((rrv L).length)) iiz (fun e=> ?_) (fun e=> ?_)
 ·have hk:k<L.length:=by have h7:=zYT e;rw [hlz] at h7;omega
  have hqk:=zJz hm0 (hLw _ (zAh hk))
  refine zYM ?_
  refine zYK ?_
  refine zYN ?_
  refine zYK ?_
  refine zB 3 ((12,.s (wE (wF [(rat L k).1]).cf))::(13,.Z (wB ((rat L k).1)))::(4,.u (wB ((rat L k).1))):: []) hmix s kI
   (oc (yH (z:=1) (Cs:=rrv L) (i:=k) (C:=wF [(rat L k).1]) kI (zCx hk) (fun v W hb h=>(yU hlw h (s.up hb))) iiz)<|oc (jB (C:=(wF [(rat L k).1]).cf) kI iiz zBO)<|oc zF<|zC) fun a w3 s=> ?_
  refine zA rfl ?_
  refine zYK ?_
  have hbk:=s.gr.size
  have hbg:W.heap.size<=w3.heap.size:=zYO hWs s.gr.size
  refine zCf 2 ((14,.Z (wB ((rat L k).1)))::(15,.s (wL w3 30 6 (pns ((rat L k).2)))):: []) s kI
   (oc zE<|oc (zJ zD zUq (fun u0 W hb (h0:u0=(rat L k).1)=>(zLp (by rw [show _=(rat L k).1 from h0];exact (wD 6 (pvs m ((rat L k).2))).st _ _ _ (hLw _ (zAh hk)) (s.up hb)) oP hm0 (hnP _ (zAh hk)) (hT.below (s.up hb))).mono (wH (zBm hb.size))))<|zC) fun a w4 s hr=> ?_
  obtain ⟨v15,e15⟩: ∃v,a.tmps.getD 15 undef=v:=⟨_,rfl⟩
  have hR15:zAU w4 _ 30 6 v15 (pns ((rat L k).2)):=e15▸(hr (_,_) mz1)
  have hR15k:=hR15.mono hbk
  replace hR15:=hR15.mono hbg
  replace s:=s.learn 15 v15 e15
  replace s:=s.drop [4]
  have hW4:W.heap.size<=w4.heap.size:=zYO hWs s.gr.size
  have hB4:=hBw.trans (s.below.mono hBw.size)
  have hJ4:J (zH L k).length (fun q=>v15.ownBlock=some q) w4:=hJs _ _ _ _ _ hJ s.below (fun q hq=> .inr (hR15k.lt q hq).1)
  replace s:=s.reb rfl [(15,.u (wB v15)),(11,.u (uB (ltz k ((rrv L).length)))),(0,.u (wB (.func (.yield l_) #[] #[]))),(8,.u (wB l)),(9,.u (uI ((rrv L).length:Int))),(10,.u (uI (k:Int)))] (fmz ⟨.inl (.head _),fmz ⟨.inl mz1,fmz ⟨.inl mz2,fmz ⟨.inl mz3,fmz ⟨.inl mz4,fmz ⟨.inl mz5,fnz⟩⟩⟩⟩⟩⟩)
  have hv15:(wD 6 (pvs m ((rat L k).2))).p v15 w4:=zCG hqk _ _ hR15.row
  refine yR (wB v15) rfl s kI iiz fun a w s=> ?_
  refine zA rfl ?_
  refine zYK ?_
  refine zB 3 ((16,.u (wB v15))::(17,.u (uI (((pvs m ((rat L k).2)).length:Nat):Int)))::(18,.u (uI 0)):: []) hmix s kI
   (oc zE<|oc (yV (z:=6) (Cs:=pvs m ((rat L k).2)) kI (fun v W hb h=>(yU hv15 h (s.up hb))) (fun _=>rfl))<|oc zE<|zC) fun a w5 s=> ?_
  refine zA rfl ?_
  refine zYN ?_
  have hlzP:(pvs m ((rat L k).2)).length=(rat L k).2.length:=by simp
  have hR16:=hR15.below s.below
  have hJ5:=hJs _ _ _ _ _ hJ4 s.below (fun q hq=> .inl hq)
  have hB5:=hB4.trans (s.below.mono hB4.size)
  have hW5:W.heap.size<=w5.heap.size:=zYO hW4 s.gr.size
  replace s:=(s.keepK [(0,.u (wB (.func (.yield l_) #[] #[]))),(8,.u (wB l)),(9,.u (uI ((rrv L).length:Int))),(10,.u (uI (k:Int))),(4,.u (wB v15)),(16,.u (wB v15)),(17,.u (uI (((pvs m ((rat L k).2)).length:Nat):Int))),(18,.u (uI ((0:Nat):Int)))] (fmz ⟨mz6,fmz ⟨mz7,fmz ⟨mz8,fmz ⟨mz9,fmz ⟨mz3,fmz ⟨.head _,fmz ⟨mz1,fmz ⟨mz2,fnz⟩⟩⟩⟩⟩⟩⟩⟩)).self (q7 kI)
  refine zEg (fun j a w=>j<=(rat L k).2.length/\J ((zH L k).length+j) (fun q=>v15.ownBlock=some q) w/\bW w0 w/\W.heap.size<=w.heap.size/\zAU w W.heap.size 30 6 v15 (pns ((rat L k).2))/\StS (inB [⟨1,43,wF [l],b,true⟩]) w [(0,.u (wB (.func (.yield l_) #[] #[]))),(8,.u (wB l)),(9,.u (uI ((rrv L).length:Int))),(10,.u (uI (k:Int))),(4,.u (wB v15)),(16,.u (wB v15)),(17,.u (uI (((pvs m ((rat L k).2)).length:Nat):Int))),(18,.u (uI ((j:Nat):Int)))] [⟨1,43,wF [l],b,true⟩] f85.ntmps [] a w) (fun j=>(rat L k).2.length - j) 0 ⟨zYV _,hJ5,hB5,hW5,hR16,s⟩ fun j a w ⟨hj',hJj,hBj,hWj,hRj,s⟩=> ?_
  replace s:=s.toSt (fun q ⟨x,hx,_,hr⟩=>by obtain rfl:=zYP.1 hx;cases hr) rfl
  have hT:=hTo.below hBj
  have hv15:(wD 6 (pvs m ((rat L k).2))).p v15 w:=zCG hqk _ _ hRj.row
  refine zYK ?_
  refine zB 1 ((19,.u (uB (ltz j ((pvs m ((rat L k).2)).length)))):: []) hmix s kI
   (oc (zS .i64 (j:Int) (((pvs m ((rat L k).2)).length:Nat):Int) (ltz j ((pvs m ((rat L k).2)).length)) iiz iiz rfl rfl)<|zC) fun a w6 s=> ?_
  refine zA rfl ?_
  refine zYK ?_
  refine StS.cond s (ltz j ((pvs m ((rat L k).2)).length)) iiz (fun e=> ?_) (fun e=> ?_)
  ·have hj:j<(rat L k).2.length:=by have h7:=zYT e;rw [hlzP] at h7;omega
   have hj1:(j+1) % (rat L k).2.length<(rat L k).2.length:=Nat.mod_lt _ oP
   refine zYM ?_
   refine zYK ?_
   refine zYN ?_
   refine zYK ?_
   refine zB 3 ((20,.u (uI (j:Int)))::(21,.Y (fPV m (at_ (rat L k).2 j)))::(22,.u (fPV m (at_ (rat L k).2 j))):: []) hmix s kI
    (oc zE<|oc (yH (z:=6) (Cs:=pvs m ((rat L k).2)) (i:=j) (C:=wC (fPV m (at_ (rat L k).2 j))) kI (q6 hj) (fun v W hb h=>(yU hv15 h (s.up hb))) iiz)<|oc (zK (f:=fPV m (at_ (rat L k).2 j)) 6 kI (hz:=zP _ _))<|zC) fun a w7 s=> ?_
   refine zZ (CU.len 6) (cs:=zP6) kI rfl s kI (fun W=>rfl) rfl fun b6 a w s=> ?_
   refine yR (uI (j:Int)) rfl s kI iiz fun a w s=> ?_
   refine zQ (wC (fPV m (at_ (rat L k).2 j))) ((fPV m (at_ (rat L k).2 j)).tS) rfl s kI rfl rfl rfl iiz iiz yT fun a w s=> ?_
   refine zA rfl ?_
   refine zYK ?_
   have so:=s.old;have sg:=s.gr
   refine zBl (fun i=> [].contains i) [⟨10,7,64, [.bool false, sN, sN,.bool false, sN, sN,.bool false, sN, sN,.bool false, sN, sN],wJ w 64 (CU.len 12)⟩] 11 ((23,.Z (fPV m (at_ (rat L k).2 j)))::(24,.Z (wB v15))::(25,.Z (uI (j:Int)))::(26,.Z (uI ((j+1:Nat):Int)))::(27,.Z (wB v15))::(28,.Z (uI (((pvs m ((rat L k).2)).length:Nat):Int)))::(29,.Z (uI ((((j+1) % (rat L k).2.length):Nat):Int)))::(30,.Y (fPV m (tn (rat L k).2 j)))::(31,.Z (fPV m (tn (rat L k).2 j)))::(32,.u (fPR (fPV m (at_ (rat L k).2 j)) (fPV m (tn (rat L k).2 j))))::(7,.s (wJ w 64 (CU.len 12))):: []) hmix s (fmz ⟨⟨by show 10<11;decide,zPf,⟨_,_,_,rfl⟩,by kernel_rfl,zBt (fun _=>rfl) rfl⟩,fnz⟩) kI
    (oc (zK (f:=fPV m (at_ (rat L k).2 j)) 6 kI (hz:=zP _ _))<|oc zE<|oc zE<|oc (yN .i64 (j:Int) 1 ((j+1:Nat):Int) iiz iiz (by have:=hnP _ (zAh hk);rw [zYY];omega))<|oc zE<|oc (yV (z:=6) (Cs:=pvs m ((rat L k).2)) kI (fun v W hb h=>(yU hv15 h (s.up hb))) (fun _=>rfl))<|oc (zFi .i64 ((j+1:Nat):Int) (((pvs m ((rat L k).2)).length:Nat):Int) ((((j+1) % (rat L k).2.length):Nat):Int) iiz iiz (by rw [hlzP];omega) (by rw [hlzP];exact zGp _ _))<|oc (yH (z:=6) (Cs:=pvs m ((rat L k).2)) (i:=((j+1) % (rat L k).2.length)) (C:=wC (fPV m (tn (rat L k).2 j))) kI (q6 hj1) (fun v W hb h=>(yU hv15 h (s.up hb))) iiz)<|oc (zK (f:=fPV m (tn (rat L k).2 j)) 6 kI (hz:=zP _ _))<|oc (y4 (fun u v W (hu:(fPV m (at_ (rat L k).2 j)).p u W) (hv:(fPV m (tn (rat L k).2 j)).p v W)=>zXh hu hv))<|oc (zCi (cs:= [.bool false, sN, sN,.bool false, sN, sN,.bool false, sN, sN,.bool false, sN, sN]) kI (zBt (fun _=>rfl) rfl))<|zC) fun Q' hQ a w8 s hr hd=> ?_
   obtain ⟨b7,hB7,e7,s⟩:=s.adoptA false 7 (hr (_,_) zPf) sg (fun y hy=> .inl (so y hy))
   refine zQ (wC (fPR (fPV m (at_ (rat L k).2 j)) (fPV m (tn (rat L k).2 j)))) ((fPR (fPV m (at_ (rat L k).2 j)) (fPV m (tn (rat L k).2 j))).tS) rfl s kI rfl rfl rfl iiz iiz zBo fun a w s=> ?_
   refine zA rfl (hQ _ _ ?_)
   refine zYK ?_
   refine zYK ?_
   refine zB 6 ((33,.X (fPR (fPV m (at_ (rat L k).2 j)) (fPV m (tn (rat L k).2 j))) 0)::(34,.Z (fPV m (at_ (rat L k).2 j)))::(35,.X (fPR (fPV m (at_ (rat L k).2 j)) (fPV m (tn (rat L k).2 j))) 6)::(36,.Z (fPV m (tn (rat L k).2 j)))::(37,.Z (uI (q8 (at_ (rat L k).2 j) (tn (rat L k).2 j))))::(38,.u (uB (decide (q8 (at_ (rat L k).2 j) (tn (rat L k).2 j)>0)))):: []) hmix s kI
    (oc (zL (C:=cg (fPR (fPV m (at_ (rat L k).2 j)) (fPV m (tn (rat L k).2 j)))) 0 kI)<|oc (zR (C:=cg (fPR (fPV m (at_ (rat L k).2 j)) (fPV m (tn (rat L k).2 j)))) (k:=0) 6 kI (h:=zC8))<|oc (zL (C:=cg (fPR (fPV m (at_ (rat L k).2 j)) (fPV m (tn (rat L k).2 j)))) 6 kI)<|oc (zR (C:=cg (fPR (fPV m (at_ (rat L k).2 j)) (fPV m (tn (rat L k).2 j)))) (k:=6) 6 kI (h:=zDA))<|oc (zI zD zVV (fun u0 u1 W hb (h0:(fPV m (at_ (rat L k).2 j)).p u0 W) (h1:(fPV m (tn (rat L k).2 j)).p u1 W)=>zS7 h0 h1 oP hm0 (hT.below (s.up hb))))<|oc (zS .i64 (q8 (at_ (rat L k).2 j) (tn (rat L k).2 j)) 0 (decide (q8 (at_ (rat L k).2 j) (tn (rat L k).2 j)>0)) iiz iiz rfl rfl)<|zC) fun a w9 s=> ?_
   refine zA rfl ?_
   refine StS.cond s (decide (q8 (at_ (rat L k).2 j) (tn (rat L k).2 j)>0)) iiz (fun e=> ?_) (fun e=> ?_)
   ·have eS:=e
    refine zB 5 ((39,.X (fPR (fPV m (at_ (rat L k).2 j)) (fPV m (tn (rat L k).2 j))) 6)::(40,.u (fPV m (tn (rat L k).2 j)))::(41,.X (fPR (fPV m (at_ (rat L k).2 j)) (fPV m (tn (rat L k).2 j))) 0)::(42,.u (fPV m (at_ (rat L k).2 j)))::(43,.u (wB (pO b7 0))):: []) hmix s kI
     (oc (zL (C:=cg (fPR (fPV m (at_ (rat L k).2 j)) (fPV m (tn (rat L k).2 j)))) 6 kI)<|oc (zR (C:=cg (fPR (fPV m (at_ (rat L k).2 j)) (fPV m (tn (rat L k).2 j)))) (k:=6) 6 kI (h:=zDA))<|oc (zL (C:=cg (fPR (fPV m (at_ (rat L k).2 j)) (fPV m (tn (rat L k).2 j)))) 0 kI)<|oc (zR (C:=cg (fPR (fPV m (at_ (rat L k).2 j)) (fPV m (tn (rat L k).2 j)))) (k:=0) 6 kI (h:=zC8))<|oc (qC (b:=b7) (o:=0) 0 kI (fun _ _ h=>h.1))<|zC) fun a w10 s=> ?_
    refine jA (c:=7) (o:=0) (kk:=6) (wC (fPR (fPV m (tn (rat L k).2 j)) (fPV m (tn (rat L k).2 j)))) ((fPV m (tn (rat L k).2 j)).tS) rfl s kI rfl rfl iiz iiz zTi fun a w s=> ?_
    refine zAN (wB (pO b7 6)) rfl s kI (qC (b:=b7) (o:=0) 6 kI (fun _ _ h=>h.1)) kI fun a w s=> ?_
    refine jA (c:=7) (o:=6) (kk:=6) (wC (fPR (fPV m (tn (rat L k).2 j)) (fPV m (at_ (rat L k).2 j)))) ((fPV m (at_ (rat L k).2 j)).tS) rfl s kI rfl rfl iiz iiz zTh fun a w s=> ?_
    refine zA rfl ?_
    refine zYK ?_
    refine zB 2 ((45,.u (wB (.func (.yield l_) #[] #[])))::(46,.u (fPR (fPV m (tn (rat L k).2 j)) (fPV m (at_ (rat L k).2 j)))):: []) hmix s kI
     (oc zE<|oc (zK (f:=fPR (fPV m (tn (rat L k).2 j)) (fPV m (at_ (rat L k).2 j))) 12 kI (hz:=zBd))<|zC) fun a w11 s=> ?_
    have hJ1:J ((zH L k).length+j) (fun q=>v15.ownBlock=some q) w11:=hJs _ _ _ _ _ hJj s.below (fun q hq=> .inl hq)
    have hB1:bW w0 w11:=hBj.trans (s.below.mono hBj.size)
    have hRy:=hRj.below s.below
    have hws:=s.gr.size
    replace s:=s.popB
    replace s:=s.popB
    have hcx: ∀x,x∈([⟨1,43,wF [l],b,true⟩]:List Bx)->x.b<w_.heap.size/\ ¬C x.b:=fun x hx=>by obtain rfl:=zYP.1 hx;exact ⟨(zYZ.1 hh).1,hCb⟩
    refine zJa rfl s iiz kI (q7 kI) hcx (hround _ _ _ _ (zQJ hk hj) hJ1 (fun q hq=>hRy.lt q hq) ⟨by simp,fun i f hi=> ?_⟩) fun a w bv hr hbv s=> ?_
    ·match i,hi with
     |0,hi=>obtain rfl:=Option.some.inj hi;rw [zUk,zQ1 hk hj,zSU eS];exact s.at.sl 46
    have hB2:=zFP hB1 hr hw0 hC0
    have hR2:=hRy.keep (fun q hq=>hr.own q hq) hr.keep
    have hsz2:=hr.size
    have hbz:bv=false->Z w:=fun e2=>by rcases hbv with ⟨e3,_⟩|⟨_,hz⟩;rw [e2] at e3;cases e3;exact hz
    have hbj:bv=true->J ((zH L k).length+j+1) (fun q=>v15.ownBlock=some q) w:=fun e2=>by rcases hbv with ⟨_,hj⟩|⟨e3,_⟩;exact hj;rw [e2] at e3;cases e3
    replace s:=s.toSt (fun q ⟨x,hx,_,hr⟩=>by obtain rfl:=zYP.1 hx;cases hr) rfl
    refine zAN (uB (!bv)) rfl s kI (zBz bv iiz (fun _=>rfl)) kI fun a w s=> ?_
    refine zA rfl ?_
    refine StS.cond s (!bv) iiz (fun e=> ?_) (fun e=> ?_)
    ·have hz:=hbz (by simpa using e)
     refine zYL ?_
     exact ⟨s.nd,.tuple #[],by simp [results,results85],⟨_,rfl⟩,.inr (hZs _ _ hz s.below)⟩
    ·have hJ2:=hbj (by simpa using e)
     refine zYM ?_
     refine zX 1 ((49,.u (uI ((j+1:Nat):Int))):: []) s kI
      (oc (yN .i64 (j:Int) 1 ((j+1:Nat):Int) iiz iiz (by have:=hnP _ (zAh hk);rw [zYY];omega))<|zC) fun a w12 s=> ?_
     replace s:=s.drop [18]
     refine zAN (uI ((j+1:Nat):Int)) rfl s kI zE kI fun a w s=> ?_
     refine zA rfl ?_
     have hsz4:=s.gr.size
     exact ⟨j+1,by show (rat L k).2.length - (j+1)<(rat L k).2.length - j;omega,hj,hJs _ _ _ _ _ hJ2 s.below (fun q hq=> .inl hq),hB2.trans (s.below.mono hB2.size),by omega,hR2.below s.below,(s.keepK _ (fmz ⟨.tail _ zJM,fmz ⟨.tail _ (.tail _ zJM),fmz ⟨.tail _ (.tail _ (.tail _ zJM)),fmz ⟨.tail _ (.tail _ (.tail _ (.tail _ zJM))),fmz ⟨.tail _ (.tail _ (.tail _ (.tail _ (.tail _ zJM)))),fmz ⟨.tail _ (.tail _ (.tail _ (.tail _ (.tail _ (.tail _ zJM))))),fmz ⟨.tail _ (.tail _ (.tail _ (.tail _ (.tail _ (.tail _ (.tail _ zJM)))))),fmz ⟨.head _,fnz⟩⟩⟩⟩⟩⟩⟩⟩)).self (q7 kI)⟩
   ·have eS:=e
    refine zYM ?_
    refine zYK ?_
    refine zB 2 ((45,.u (wB (.func (.yield l_) #[] #[])))::(46,.u (fPR (fPV m (at_ (rat L k).2 j)) (fPV m (tn (rat L k).2 j)))):: []) hmix s kI
     (oc zE<|oc (zK (f:=fPR (fPV m (at_ (rat L k).2 j)) (fPV m (tn (rat L k).2 j))) 12 kI (hz:=zBd))<|zC) fun a w13 s=> ?_
    have hJ1:J ((zH L k).length+j) (fun q=>v15.ownBlock=some q) w13:=hJs _ _ _ _ _ hJj s.below (fun q hq=> .inl hq)
    have hB1:bW w0 w13:=hBj.trans (s.below.mono hBj.size)
    have hRy:=hRj.below s.below
    have hws:=s.gr.size
    replace s:=s.popB
    replace s:=s.popB
    have hcx: ∀x,x∈([⟨1,43,wF [l],b,true⟩]:List Bx)->x.b<w_.heap.size/\ ¬C x.b:=fun x hx=>by obtain rfl:=zYP.1 hx;exact ⟨(zYZ.1 hh).1,hCb⟩
    refine zJa rfl s iiz kI (q7 kI) hcx (hround _ _ _ _ (zQJ hk hj) hJ1 (fun q hq=>hRy.lt q hq) ⟨by simp,fun i f hi=> ?_⟩) fun a w bv hr hbv s=> ?_
    ·match i,hi with
     |0,hi=>obtain rfl:=Option.some.inj hi;rw [zUk,zQ1 hk hj,zSV eS];exact s.at.sl 46
    have hB2:=zFP hB1 hr hw0 hC0
    have hR2:=hRy.keep (fun q hq=>hr.own q hq) hr.keep
    have hsz2:=hr.size
    have hbz:bv=false->Z w:=fun e2=>by rcases hbv with ⟨e3,_⟩|⟨_,hz⟩;rw [e2] at e3;cases e3;exact hz
    have hbj:bv=true->J ((zH L k).length+j+1) (fun q=>v15.ownBlock=some q) w:=fun e2=>by rcases hbv with ⟨_,hj⟩|⟨e3,_⟩;exact hj;rw [e2] at e3;cases e3
    replace s:=s.toSt (fun q ⟨x,hx,_,hr⟩=>by obtain rfl:=zYP.1 hx;cases hr) rfl
    refine zAN (uB (!bv)) rfl s kI (zBz bv iiz (fun _=>rfl)) kI fun a w s=> ?_
    refine zA rfl ?_
    refine StS.cond s (!bv) iiz (fun e=> ?_) (fun e=> ?_)
    ·have hz:=hbz (by simpa using e)
     refine zYL ?_
     exact ⟨s.nd,.tuple #[],by simp [results,results85],⟨_,rfl⟩,.inr (hZs _ _ hz s.below)⟩
    ·have hJ2:=hbj (by simpa using e)
     refine zYM ?_
     refine zX 1 ((49,.u (uI ((j+1:Nat):Int))):: []) s kI
      (oc (yN .i64 (j:Int) 1 ((j+1:Nat):Int) iiz iiz (by have:=hnP _ (zAh hk);rw [zYY];omega))<|zC) fun a w14 s=> ?_
     replace s:=s.drop [18]
     refine zAN (uI ((j+1:Nat):Int)) rfl s kI zE kI fun a w s=> ?_
     refine zA rfl ?_
     have hsz4:=s.gr.size
     exact ⟨j+1,by show (rat L k).2.length - (j+1)<(rat L k).2.length - j;omega,hj,hJs _ _ _ _ _ hJ2 s.below (fun q hq=> .inl hq),hB2.trans (s.below.mono hB2.size),by omega,hR2.below s.below,(s.keepK _ (fmz ⟨zW6,fmz ⟨zW5,fmz ⟨zWM,fmz ⟨zJM,fmz ⟨.tail _ zJM,fmz ⟨.tail _ (.tail _ zJM),fmz ⟨.tail _ (.tail _ (.tail _ zJM)),fmz ⟨.head _,fnz⟩⟩⟩⟩⟩⟩⟩⟩)).self (q7 kI)⟩
  ·have hjN:j=(rat L k).2.length:=by have h7:=zYS e;rw [hlzP] at h7;omega
   refine zYW ?_
   refine zX 1 ((50,.u (uI ((k+1:Nat):Int))):: []) s kI
    (oc (yN .i64 (k:Int) 1 ((k+1:Nat):Int) iiz iiz (by rw [zYY];omega))<|zC) fun a w15 s=> ?_
   replace s:=s.drop [10]
   refine zAN (uI ((k+1:Nat):Int)) rfl s kI zE kI fun a w s=> ?_
   refine zA rfl ?_
   have hsz4:=s.gr.size
   have hJ9:=hJs _ _ (fun _=>False) _ _ hJj s.below (fun q hq=>hq.elim)
   rw [hjN, <-zY5, <-zBH hk] at hJ9
   exact ⟨k+1,by show L.length - (k+1)<L.length - k;omega,hk,hJ9,hBj.trans (s.below.mono hBj.size),by omega,(s.keepK _ (fmz ⟨mz3,fmz ⟨mz4,fmz ⟨mz5,fmz ⟨.head _,fnz⟩⟩⟩⟩)).self (q7 kI)⟩
 ·have hkN:k=L.length:=by have h7:=zYS e;rw [hlz] at h7;omega
  refine zYW ?_
  exact ⟨s.nd,.tuple #[],by simp [results,results85],⟨_,rfl⟩,.inl ⟨_,by rw [zKp, <-hkN];exact hJs _ _ _ _ _ hJ s.below (fun q hq=> .inl hq)⟩⟩
section
variable {S:Nat->Prop} {w0:Wp} {K:List (Nat×KF)} {B:List Bx} {n:Nat} {ds:List Deferred} {a:Act} {w:Wp}
theorem StS.wider (h:StS S w0 K B n [] a w) (S2:Nat->Prop) (hS: ∀q,S q->S2 q) (hu:(K.all fun q=>zN0 q.2)=true):StS S2 w0 K B n [] a w:=by
 have hu:=q7 hu
 refine ⟨h.gr.sub hS,h.size,h.nd,fun q hq=> ?_,wP (a:=a) B (fun x hx=> ?_) (fun _ _=>rfl) h.bx,⟨[],Marks.nil _ _⟩,.inl hu⟩
 ·obtain ⟨f,e⟩:=hu q hq
  have:=h.sl q hq
  rw [e] at this ⊢
  exact this
 ·obtain ⟨cs,_,h2,_⟩:=h.bx.mem x hx
  rcases h2 with e|e|e
  ·exact .inl e
  ·exact .inr (.inl e)
  ·exact .inr (.inr (hS _ e))
theorem vK (h0:StS S w0 K0 B0 n0 ds0 a0 w1) (h:StS S' w1 K B n [] a w) (hS: ∀q,S' q->S q∨w0.heap.size<=q) (hu:(K.all fun q=>zN0 q.2)=true):StS S w0 K B n [] a w:=by
 have hu:=q7 hu
 refine ⟨⟨h.gr.os.trans h0.gr.os,h.gr.tape.trans h0.gr.tape,h.gr.output.trans h0.gr.output,zYO h0.gr.size h.gr.size,fun k hk hn=>(h.gr.block k (zY2 hk h0.gr.size) fun hh=>by
  rcases hS k hh with e|e
  ·exact hn e
  ·omega).trans (h0.gr.block k hk hn)⟩,h.size,h.nd,fun q hq=> ?_,wP (a:=a) B (fun x hx=> ?_) (fun _ _=>rfl) h.bx,⟨[],Marks.nil _ _⟩,.inl hu⟩
 ·obtain ⟨f,e⟩:=hu q hq
  have:=h.sl q hq
  rw [e] at this ⊢
  exact this
 ·obtain ⟨cs,_,h2,_⟩:=h.bx.mem x hx
  rcases h2 with e|e|e
  ·exact .inl e
  ·exact .inr (.inl (zYO h0.gr.size e))
  ·rcases hS _ e with e|e
   ·exact .inr (.inr e)
   ·exact .inr (.inl e)
end
theorem zMY {w':Wp} (h:Oth N w w'):zFL w w':=⟨by rw [h.size];exact zY1 _,fun q o ho hc=>by
 rcases h.block q with e|⟨_,⟨o2,h2,h3⟩,_⟩
 ·exact e.trans ho
 ·rw [ho] at h2
  cases h2
  rw [hc] at h3
  cases h3⟩
theorem zHs (h:zAU w base e z v Cs): ∃A n c,v= .slice A n c:=by
 rcases h with ⟨rfl,_⟩|⟨g,cap,cur,rfl,_⟩<;>exact ⟨_,_,_,rfl⟩
theorem zKB (h:zAU w base e z v Cs) {q:Nat} (hq:v.ownBlock=some q):q<w.heap.size/\ ∃(cs:Array Wq) (t:Wr) (y:Nat×Nat),w.heap[q]?=some (.cells cs t y)/\cs.toList.all yA=true:=by
 refine ⟨(h.lt q hq).2, ?_⟩
 rcases h with ⟨rfl,_⟩|⟨g,cap,cur,rfl,h2,h3,h4,h5,h6,h7,h8⟩
 ·simp [Value.ownBlock] at hq
 ·simp [Value.ownBlock] at hq
  subst hq
  exact ⟨cur,_,_,h3,h7⟩
theorem zVm {C:CU} (hC: ∀cs W,C.p cs W->cs.length=1) (v:Wq) (W:Wp) (h:(wB (.slice A n c)).p v W):v.cells.size=1/\(∀u,u∈v.cells.toList->u.oneCell'=true)/\v.cells.toList.all yA=true/\ ∀cs,C.p cs W->0+1<=cs.length/\(wF [.slice A n c]).p (jX cs 0 v.cells.toList) W:=by
 obtain rfl:v=_:=h
 refine ⟨rfl,fun u hu=>by simp [Value.cells] at hu;rw [hu];rfl,rfl,fun cs hc=> ?_⟩
 obtain ⟨c,rfl⟩:=List.length_eq_one_iff.1 (hC cs W hc)
 exact ⟨by simp,rfl⟩
section
variable {F:Fence} {m:Nat} {P:Program} {w0:Wp} {ops:Array Oper} {G:Nat->SF} {d:Tmp} {ty:Wr} {pos:String} {aft:Array Edge}
theorem zTU {f:SF} (hk:zDm P t=true) (hx: ∀u W,(fct G x).p u W->(wE (wF [v]).cf).p u W) (hf:f.p v w0) (hd: ∀u W,f.p u W->(G d).p u W:=by exact fun _ _ h=>h):qN F m P w0 ops G ⟨some d,.load t x,ty,pos,aft,none⟩:=
 qK (fun _ e=>by cases e) (fun _ e=>by cases e) fun b W hb hh=>by
  obtain ⟨a,q,cs,e,h2,h3⟩:=hx _ _ (hh x (by simp [Op.operands]))
  obtain rfl:cs= [v]:=h2
  exact ⟨_,by simp [execOp,Instr.loadAt,e,Instr.sureAddr,zBk hk h3 (u:=v) rfl],hd _ _ (f.st _ _ _ hf hb)⟩
end
theorem zT3 (h:cs.length=12): ∃u0 u1 u2 u3 u4 u5 u6 u7 u8 u9 u10 u11,cs= [u0,u1,u2,u3,u4,u5,u6,u7,u8,u9,u10,u11]:=by
 match cs,h with
 | [u0,u1,u2,u3,u4,u5,u6,u7,u8,u9,u10,u11],_=>exact ⟨u0,u1,u2,u3,u4,u5,u6,u7,u8,u9,u10,u11,rfl⟩
theorem zWX (u0 u1 u2 u3 u4 u5 u6 u7 u8 u9 u10 u11:Wq):yE prog 58 1 [(0,.agg #[u0,u1,u2,u3,u4,u5,u6,u7,u8,u9,u10,u11])]=some (64,#[u0,u1,u2,u3,u4,u5,u6,u7,u8,u9,u10,u11]):=by kernel_rfl
theorem zTq (h:(fPR (fPT f g) (fPT f' g')).p u W): ∃e cs,yE prog 58 1 [(0,u)]=some (e,cs)/\(wD 12 [wC (fPR (fPT f g) (fPT f' g'))]).p (.slice (some ⟨W.heap.size,0,none⟩) 1 1) (W.alloc (.cells cs e)):=by
 obtain ⟨a,b,rfl,h1⟩:=id h
 obtain ⟨u0,u1,u2,u3,u4,u5,u6,u7,u8,u9,u10,u11,e⟩:=zT3 (zKN _ _ h).1
 rw [e] at h ⊢
 refine ⟨_,_,zWX ..,zGm (Cs:= [wC (fPR (fPT f g) (fPT f' g'))]) (by simp) fun i C hi=> ?_⟩
 obtain rfl:i=0:=by have:=(zY7.1 hi).1;simp at this;omega
 obtain rfl:_=C:=by simpa using hi
 exact ⟨_,fun j u hj=>by rw [Nat.zero_mul,Nat.zero_add];exact hj,h⟩
abbrev egs (m:Nat) (es:List (V2×V2)):List CU:=es.map fun e=>wC (fPR (fPV m e.1) (fPV m e.2))
theorem zPN (h:k<(zEs L).length):egs m ((zEs L).take (k+1))=egs m ((zEs L).take k)++ [wC (fPR (fPV m (eAt L k).1) (fPV m (eAt L k).2))]:=by
 unfold eAt
 rw [List.take_add_one,zYU h,zY0,zYU h]
 unfold egs
 rw [List.map_append]
 rfl
theorem zWq (f g f' g':UF): ∀C,C∈ [wC (fPR (fPT f g) (fPT f' g'))]->CU.ok 12 C:=fun C hC=>by
 obtain rfl:=zYP.1 hC
 exact zKN
section
variable {S:Nat->Prop} {F:Fence} {m:Nat} {P:Program} {Q:Exit->Act->Wp->Prop} {w0:Wp} {K:List (Nat×KF)} {B:List Bx} {n:Nat} {ds:List Deferred} {a:Act} {w:Wp}
theorem zOg (C:CU) {cs:List Wq} (hz:zeroCells P e=some cs) (ho:ops[k]?=some ⟨some d,.alloc e,ty,pos,aft,none⟩) (h:StS S w0 K B n ds a w) (hf:zAf K B n d=true) (hx: ∀W,C.p cs W) (hn:cs.all yA=true)
  (fin: ∀b a w',w.heap.size<=b->StS S w0 K (⟨d,e,C,b,false⟩::B) n ds a w'->zBf F m P ops Q (k+1) a w'):zBf F m P ops Q k a w:=by
 have hrun:(Instr.alloc e true (.tuple #[])).run P w= .ok (pO w.heap.size 0) (w.alloc (.cells cs.toArray e (0,0))):=by
  unfold zeroCells at hz
  cases hi:P.info? e with
  |none=>rw [hi] at hz;cases hz
  | some i=>
   rw [hi] at hz
   simp only [Option.bind_some] at hz
   cases hzz:i.zero with
   |none=>rw [hzz] at hz;cases hz
   |some z=>
    rw [hzz] at hz
    simp only [Option.map_some,Option.some.injEq] at hz
    subst hz
    simp [Instr.alloc,zeroValue,typeInfo,hi,hzz,newVar,newRow]
 exact zA5 ho rfl (zBW (fun _ e=>by cases e) (fun _ e=>by cases e) (W':=w.alloc (.cells cs.toArray e (0,0))) (v:= pO w.heap.size 0) (by simp [execOp,hrun]) (fin _ _ _ lr (h.lay hf (hx _) hn)))
end
theorem zSD (hbW:bW w00 W) (hh:W.heap[bc]?=some (.cells #[l] 43 (0,0))) (hl:(wD 1 (rrv L)).p l w00) (hL:RR.ok m L w00) (hm:m<=990) (hm0:0<m) (hnP: ∀x,x∈L->x.2.length<=1000000) (hnL:L.length<=1000000) (hnE:(zEs L).length<=1000000) (hT:Tab w00):Calls prog 84 #[sN,(.func (.func 85) #[] #[pO bc 0])] W (Ret W (wL W 64 12 (egs m (zEs L)))):=by
 refine zRJ [(wB (sN)).tS,(wB (.func (.func 85) #[] #[pO bc 0])).tS] func84 rfl kI ⟨rfl,rfl,trivial⟩ fun a s=> ?_
 replace s:=s.renew [(0,.u (wB (sN))),(1,.u (wB (.func (.func 85) #[] #[pO bc 0])))] (fmz ⟨.inr ⟨_,rfl,.head _⟩,fmz ⟨.inr ⟨_,rfl,mz1⟩,fnz⟩⟩)
 refine zYK ?_
 refine zB 0 [] hmix s kI
  zC fun a w1 s=> ?_
 refine yK (wF [sN]) rfl s kI (fun v W h=>zJW h rfl rfl) fun b2 a w s=> ?_
 refine yR (wB (sN)) rfl s kI iiz fun a w s=> ?_
 refine zA rfl ?_
 refine zYK ?_
 refine zYK ?_
 refine zB 1 ((6,.u (wB (.func (.func 85) #[] #[pO bc 0]))):: []) hmix s kI
  (oc zE<|zC) fun a w2 s=> ?_
 refine zA rfl ?_
 refine zYN ?_
 obtain ⟨cs2,hh2,hc2,_⟩:=s.boxAt (c:=2) rfl
 obtain rfl:cs2= [sN]:=hc2
 obtain ⟨base,hbase⟩: ∃b,b=w2.heap.size:=⟨_,rfl⟩
 have hb2:b2<base:=by rw [hbase];exact s.old _ (.head _)
 have hW2b:W.heap.size<=b2:=s.inB_new ⟨_,.head _,rfl,rfl⟩
 replace s:=s.keepK [(6,.u (wB (.func (.func 85) #[] #[pO bc 0])))] (fmz ⟨.head _,fnz⟩)
 replace s:StS noS W _ [⟨2,58,CU.len 1,b2,false⟩] f84.ntmps _ a w2:=s.weakB 2 (CU.len 1) rfl (zCX kI) (fun cs W h=>by rw [show cs=_ from h];rfl)
 have hinB: ∀q,inB ([⟨2,58,CU.len 1,b2,false⟩]) q->q=b2:=fun q ⟨x,hx,e,_⟩=>by obtain rfl:=zYP.1 hx;exact e.symm
 have hhc:w2.heap[bc]?=some (.cells #[l] 43 (0,0)):=(s.below.block bc (zYZ.1 hh).1).trans hh
 have hbcW:bc<W.heap.size:=(zYZ.1 hh).1
 refine zLy (N:=(zEs L).length) (fun k=> [⟨2,58,CU.len 1,b2,false⟩]) ([⟨2,58,CU.len 1,b2,false⟩]) (.exit 0) (fun k=> [(7,.u (fPR (fPV m (eAt L k).1) (fPV m (eAt L k).2)))]) s iiz (enters_of func85 kI rfl) (zM9 (w0:=w00) hhc hl hL (hbW.trans (s.below.mono hbW.size)) (fun q hq=>by rw [hinB q hq];omega) (fun q hq=>by have:=hbW.size;rw [hinB q hq];omega) (fun hc=>by have:=hinB _ hc;omega) hm hm0 hnP hnL hT) (X:=fun k R W'=>base<=W'.heap.size/\ ∃v,W'.heap[b2]?=some (.cells #[v] 58 (0,0))/\(∀g,v.ownBlock=some g->R g)/\zAU W' base 64 12 v (egs m ((zEs L).take k))) (XZ:=fun _=>False) (fun k R A B hkc ⟨h1,v,h2,h3,h4⟩=>⟨zYO h1 hkc.1,v,hkc.2 _ _ h2 rfl,h3,h4.keepC hkc⟩) (fun _ _ _ h=>h) ⟨by rw [hbase];exact zY1 _,_,hh2,fun g hg=>by simp [Value.ownBlock] at hg,zAU.nil _ _ _ _⟩ (fun k=>rfl) ?_ rfl rfl rfl (fun k=>rfl) rfl (fun l_ k R xs WR hk hXk hRr hsz so s=> ?_) (fun D WD R hXN s=> ?_) (fun D WD hz s=>hz.elim)
 ·intro k q hq
  obtain rfl:=zYP.1 hq
  exact .inr ⟨0,_,rfl,rfl,rfl⟩
 ·obtain ⟨hbz,v,hv1,hv2,hv3⟩:=hXk
  replace s:=s.is1 hv1
  obtain ⟨A9,n9,c9,rfl⟩:=zHs hv3
  have hWR:b2<WR.heap.size:=zY2 hb2 hbz
  generalize ({ tmps:=_,defers:= [] }:Act)=a at s ⊢
  replace s:=s.move (fun q=>q=b2) (fun q ⟨x,hx,e,_⟩=>by obtain rfl:=zYP.1 hx;exact e.symm) kI
  have sR:=s
  refine zB 0 [] hmix s kI
   zC fun a w3 s=> ?_
  have hszR:=s.gr.size
  have h5sz:=s.gr.size
  refine zOg (CU.len 12) (cs:= [.bool false, sN, sN,.bool false, sN, sN,.bool false, sN, sN,.bool false, sN, sN]) kI rfl s kI (fun W=>rfl) rfl fun b5 a w hb5n s=> ?_
  replace hb5n:=zYO h5sz hb5n
  refine zQ (wC (fPR (fPV m ((eAt L k).1)) (fPV m ((eAt L k).2)))) ((fPR (fPV m ((eAt L k).1)) (fPV m ((eAt L k).2))).tS) rfl s kI rfl rfl rfl iiz iiz zBo fun a w s=> ?_
  refine zA rfl ?_
  have hbl:=s.gr
  have hb5:WR.heap.size<=b5:=hb5n
  refine ⟨s.gr.sub (fun q hq=> .inl ⟨_,.head _,hq.symm,rfl⟩),fun W2 hkc hcell hW2=> ?_⟩
  have hKU1:jN WR _:=zCk (s.gr.sub (fun q hq=>⟨_,.head _,hq.symm,rfl⟩)) sR.bx
  have hg2: ∀g,Value.ownBlock (.slice A9 n9 c9)=some g->g≠b2/\g≠b5/\g<WR.heap.size:=fun g hg=>by have h1:=hv3.lt g hg;omega
  have hR1:=hv3.keep (fun g hg=>s.gr.block g (hg2 g hg).2.2 (hg2 g hg).1) hKU1
  have hR2:=hR1.keepC hkc
  have hsz2:WR.heap.size<=W2.heap.size:=zYO s.gr.size hkc.1
  replace s:=hW2 _ _ (s.wider (fun q=>inB ([⟨2,58,CU.len 1,b2,false⟩]) q∨WR.heap.size<=q∨R q) (fun q hq=> .inl ⟨_,.head _,hq.symm,rfl⟩) kI)
  have sW:=s
  replace s:=s.move (fun q=>q=b2∨q=b5) (fun q ⟨x,hx,e,_⟩=>by rcases zY9.1 hx with rfl|hx;exact .inr e.symm;obtain rfl:=zYP.1 hx;exact .inl e.symm) kI
  have sM:=s
  refine zYN ?_
  refine qV 3 ((8,.u (wB (.slice A9 n9 c9)))::(9,.Z (fPR (fPV m ((eAt L k).1)) (fPV m ((eAt L k).2))))::(10,.s (wD 12 [wC (fPR (fPV m ((eAt L k).1)) (fPV m ((eAt L k).2)))])):: []) hmix s kI
   (oc (jB (C:=(wF [.slice A9 n9 c9]).cf) kI (fun _ _ h=>h.2) zBO)<|oc (zK (f:=fPR (fPV m ((eAt L k).1)) (fPV m ((eAt L k).2))) 12 kI (hz:=zBd))<|oc (jI (fun u W (hu:(fPR (fPV m ((eAt L k).1)) (fPV m ((eAt L k).2))).p u W)=>zTq hu))<|zC) fun a w4 s hr=> ?_
  have hKU3:jN W2 _:=zCk (s.gr.sub (fun q hq=>by rcases hq with hq|hq;exact ⟨_,mz1,hq.symm,rfl⟩;exact ⟨_,.head _,hq.symm,rfl⟩)) sM.bx
  have hR3:=hR2.keep (fun g hg=>s.gr.block g (zY2 (hg2 g hg).2.2 hsz2) (fun hq=>by have:=hg2 g hg;rcases hq with hq|hq<;>omega)) hKU3
  have hsz3:=s.gr.size
  replace s:=vK sW s (fun q hq=>by rcases hq with rfl|rfl;exact .inl (.inl ⟨_,.head _,rfl,rfl⟩);exact .inl (.inr (.inl hb5))) kI
  refine zTg ([wC (fPR (fPV m (eAt L k).1) (fPV m (eAt L k).2))]) s (zYO hbz (zYO hsz2 hsz3)) hR3 (fun g hg=> .inl (.inr (.inr (hv2 g hg)))) rfl kI kI kI (s.val (.head _)) (hr (_,_) mz2) (zWq _ _ _ _) (by rw [zZa,List.length_take];simp;omega) (fun x hx e=>by have:=hg2 _ e;rcases zY9.1 hx with rfl|hx;exact this.2.1 rfl;obtain rfl:=zYP.1 hx;exact this.1 rfl) fun v' a w hwz hR4 hob hnb s=> ?_
  rw [<-zPN hk] at hR4
  obtain ⟨A8,n8,c8,rfl⟩:=zHs hR4
  have sA:=s
  replace s:=s.move (fun q=>q=b2∨q=b5) (fun q ⟨x,hx,e,_⟩=>by rcases zY9.1 hx with rfl|hx;exact .inr e.symm;obtain rfl:=zYP.1 hx;exact .inl e.symm) kI
  have sN:=s
  refine jA (c:=2) (o:=0) (kk:=1) (wF [.slice A8 n8 c8]) ((wB (.slice A8 n8 c8)).tS) rfl s kI rfl rfl (fun _ _ h=>h.1) iiz (zVm fun cs W h=>by rw [show cs=_ from h];rfl) fun a w s=> ?_
  refine zA rfl ?_
  have hKU5:jN _ _:=zCk (s.gr.sub (fun q hq=>by rcases hq with hq|hq;exact ⟨_,mz1,hq.symm,rfl⟩;exact ⟨_,.head _,hq.symm,rfl⟩)) sN.bx
  have hR5:=hR4.keep (fun g hg=>s.gr.block g (hR4.lt g hg).2 (fun hq=>by rcases hq with hq|hq;exact hnb _ mz1 (by rw [hg,hq]);exact hnb _ (.head _) (by rw [hg,hq]))) hKU5
  have hsz5:=s.gr.size
  obtain ⟨cs9,hh9,hc9,_⟩:=s.boxAt (c:=2) rfl
  obtain rfl:cs9= [.slice A8 n8 c8]:=hc9
  replace s:=vK sA s (fun q hq=>by rcases hq with rfl|rfl;exact .inl (.inl ⟨_,.head _,rfl,rfl⟩);exact .inl (.inr (.inl hb5))) kI
  replace s:=s.popB
  exact ⟨(s.keepK [] fnz).weakB 2 (CU.len 1) rfl (zCX kI) (fun cs W h=>by rw [show cs=_ from h];rfl),fun q=>Value.ownBlock (.slice A8 n8 c8)=some q,fun q hq=>by rcases hob with e|e;exact .inl (hv2 q (e.symm.trans hq));rw [e] at hq;injection hq with hq;exact .inr oP,fun q hq=>zKB hR5 hq,by omega,_,hh9,fun g hg=>hg,hR5⟩
 ·obtain ⟨hbz,v,hv1,hv2,hv3⟩:=hXN
  replace s:=s.is1 hv1
  rw [zY3 lr] at hv3
  have hbW9:W.heap.size<=base:=by omega
  generalize ({ a with defers:=mark D::a.defers }:Act)=a at s ⊢
  refine zYK ?_
  refine qV 2 ((12,.s (wL W 64 12 (egs m (zEs L))))::(4,.s (wL W 64 12 (egs m (zEs L)))):: []) hmix s kI
   (oc (zTU (v:=v) (f:=wL W 64 12 (egs m (zEs L))) kI (fun _ _ h=>h.2) (hv3.mono hbW9))<|oc zF<|zC) fun a w5 s hr=> ?_
  refine zA rfl ?_
  refine zYL ?_
  exact s.resM (v:=a.tmps.getD 4 undef) (fun w' _=>by simp [results,results84]) (fun w' ho=>zAU.keepC (hr (_,_) mz1) (zMY ho))
theorem zSA (hbW:bW w00 W) (hh:W.heap[bc]?=some (.cells #[l] 43 (0,0))) (hl:(wD 1 (rrv L)).p l w00) (hL:RR.ok m L w00) (hm:m<=990) (hm0:0<m) (hnP: ∀x,x∈L->x.2.length<=1000000) (hnL:L.length<=1000000) (hnE:(zEs L).length<=1000000) (hT:Tab w00):Calls prog 56 #[(.func (.func 85) #[] #[pO bc 0])] W (Ret W (wL W 64 12 (egs m (zEs L)))):=by
 refine z9 [(wB (.func (.func 85) #[] #[pO bc 0])).tS] func56 rfl kI ⟨rfl,trivial⟩ fun a s=> ?_
 refine zYK ?_
 refine zB 1 ((2,.u (wB (sN))):: []) hmix s kI
  (oc zF<|zC) fun a w1 s=> ?_
 refine zA rfl ?_
 refine zYK ?_
 have hgs1:=s.gr.size
 replace s:=s.drop [2]
 refine qV 3 ((3,.Z (wB (.func (.func 85) #[] #[pO bc 0])))::(4,.s (wL w1 64 12 (egs m (zEs L))))::(2,.s (wL w1 64 12 (egs m (zEs L)))):: []) hmix s kI
  (oc zE<|oc (zI zD zVW (fun u0 u1 W hb (h0:u0= sN) h1=>by rw [show u0=_ from h0,show u1=_ from h1];exact (zSD (hbW.trans ((s.up hb).mono hbW.size)) (((s.up hb).block bc (zYZ.1 hh).1).trans hh) hl hL hm hm0 hnP hnL hnE hT).mono (wH (zBm hb.size))))<|oc zF<|zC) fun a w2 s hr=> ?_
 refine zA rfl ?_
 refine zYL ?_
 exact StS.resN s (zY4 _ _) rfl (by have:=hr (_,_) mz2;exact zAU.mono this hgs1)
theorem zPA (hl:(wD 1 (rrv L)).p l W) (hL:RR.ok m L W) (hm:m<=990) (hm0:0<m) (hnP: ∀x,x∈L->x.2.length<=1000000) (hnL:L.length<=1000000) (hnE:(zEs L).length<=1000000) (hT:Tab W):Calls prog 28 #[l] W (Ret W (wL W 64 12 (egs m (zEs L)))):=by
 refine z9 [(wB l).tS] func28 rfl kI ⟨rfl,trivial⟩ fun a s=> ?_
 replace s:=s.renew [(0,.u (wB l))] (fmz ⟨.inr ⟨_,rfl,.head _⟩,fnz⟩)
 refine zYK ?_
 refine zB 1 ((2,.u (wB (sN))):: []) hmix s kI
  (oc zF<|zC) fun a w1 s=> ?_
 refine zA rfl ?_
 refine zYK ?_
 have hgs1:=s.gr.size
 replace s:=s.drop [2]
 refine qV 4 ((3,.Z (wB l))::(4,.s (zPG w1 85 43 (wF [l])))::(5,.s (wL w1 64 12 (egs m (zEs L))))::(2,.s (wL w1 64 12 (egs m (zEs L)))):: []) hmix s kI
  (oc zE<|oc (zJ zD zV9 (fun u0 W hb (h0:u0=l)=>by rw [show u0=l from h0];exact (zPx (zHq hl)).mono (wH (zNl hb.size))))<|oc (zJ zD zWa (fun u0 W hb h0=>by obtain ⟨bc,csc,ec,hbc,hhc,hcc,hnc⟩:=h0;obtain rfl:csc= [l]:=hcc;rw [ec];exact (zSA (s.up hb) hhc hl hL hm hm0 hnP hnL hnE hT).mono (wH (zBm hb.size))))<|oc zF<|zC) fun a w2 s hr=> ?_
 refine zA rfl ?_
 refine zYL ?_
 exact StS.resN s (zY4 _ _) rfl (by have:=hr (_,_) mz3;exact zAU.mono this hgs1)
def PX.big6 (x:PX):Bool:=decide (6<max (max (max x.1.n x.1.n') x.2.n) x.2.n')
def g8 (L:List PX):Bool:=(L.take 61).any PX.big6||decide (60<L.length)
theorem zMk {x:PX} (h:x.big6=false) {v:Wq} {W:Wp} (hv:x.u.p v W):(fPV 6 x.p).p v W:=by
 have h:=zYS h
 exact zIE (fun v W h'=>zWL h' oP oP) (fun v W h'=>zWL h' oP oP) hv
theorem zUa {L:List PX} (h:g8 L=false):L.length<=60/\ ∀x,x∈L->x.big6=false:=by
 unfold g8 at h
 rw [Bool.or_eq_false_iff] at h
 have h2:=zYS h.2
 refine ⟨by omega,fun x hx=> ?_⟩
 have h1:=zZk.1 h.1 x (by rw [zY3 oP];exact hx)
 simpa using h1
theorem zOT {L:List PX} (h: ∀x,x∈L->x.big6=false) (v:Wq) (W:Wp) (hv:(wD 6 (pxs L)).p v W):(wD 6 (pvs 6 (pps L))).p v W:=
 zGn (by simp) (fun i C D hC hD cs W hh=>by
  have hi:i<L.length:=by have:=(zY7.1 hC).1;simpa using this
  rw [zYX,zYU hi] at hC
  rw [zYX,zYX,zYU hi] at hD
  cases hC;cases hD
  exact zMk (h _ (zZi hi)) hh) v W hv
theorem zUc {L:List PX} {x:PX} (hk:k<=60) (hx:L[k]?=some x) (h:x.big6=true):g8 L=true:=by
 unfold g8
 rw [Bool.or_eq_true]
 left
 refine zZl.2 ⟨x, ?_,h⟩
 have hlt:=(zY7.1 hx).1
 exact List.mem_of_getElem? (i:=k) (by rw [List.getElem?_take,if_pos oP];exact hx)
theorem zUb {L:List PX} (h: ∀j y,j<61->L[j]?=some y->PX.big6 y=false):g8 L=decide (((pxs L).length:Int)>60):=by
 unfold g8
 have:(L.take 61).any PX.big6=false:=by
  refine zZk.2 fun x hx=> ?_
  obtain ⟨j,hj⟩:=List.getElem?_of_mem hx
  rw [List.getElem?_take] at hj
  split at hj
  ·rename_i hlt
   rw [h j x hlt hj];simp
  ·cases hj
 rw [this,Bool.false_or,zY6,zZa]
 omega
def fRR (m:Nat) (Ls:List (List V2)):SF:=⟨fun v W=> ∃L:RR,L.map (·.2)=Ls/\(wD 1 (rrv L)).p v W/\RR.ok m L W,fun _ _ _ ⟨L,e,h1,h2⟩ hb=>⟨L,e,(wD 1 _).st _ _ _ h1 hb,h2.below hb⟩⟩
theorem zNi (e:L.map (·.2)=Ls):zH L L.length=Ls.flatten:=by
 subst e
 unfold zH
 rw [zY3 lr,List.flatMap_def]
theorem zNN (e:L.map (·.2)=Ls):zEs L=Ls.flatMap zAD:=by
 subst e
 unfold zEs
 rw [List.flatMap_map]
theorem zWT (A:Ws Addr) (n c:Nat):yE prog 43 1 [(0,.slice A n c)]=some (22,#[.slice A n c]):=by kernel_rfl
theorem zTu (eL:L.map (·.2)=Ls) (hL:RR.ok m L W) (hn:L.length<=9223372036854775807):(fRR m Ls).p (.slice (some ⟨W.heap.size,0,none⟩) L.length L.length) (W.alloc (.cells (L.map (·.1)).toArray e)):=by
 refine ⟨L,eL, ?_,hL.below (zCP W _)⟩
 have:=zGm (W:=W) (e:=e) (z:=1) (Cs:=rrv L) (cs:=L.map (·.1)) (by simpa using hn) (fun i C hi=>by
  have hlt:=(zY7.1 hi).1
  simp at hlt
  rw [zYX,zYU hlt] at hi
  injection hi with hi
  subst hi
  refine ⟨[(L[i]).1],fun j u hj=> ?_,rfl⟩
  obtain rfl:j=0:=by have:=(zY7.1 hj).1;simp at this;omega
  rw [Nat.mul_one,Nat.add_zero,zYX,zYU hlt]
  simpa using hj)
 simpa using this
theorem zQf (hu:(wD 6 (pvs m ps)).p u W): ∃e cs,yE prog 43 1 [(0,u)]=some (e,cs)/\(fRR m [ps]).p (.slice (some ⟨W.heap.size,0,none⟩) 1 1) (W.alloc (.cells cs e)):=by
 obtain ⟨A,c,e,h⟩:=id hu
 refine ⟨_,_,by rw [e];exact zWT _ _ _, ?_⟩
 rw [<-e]
 exact zTu (L:= [(u,ps)]) rfl (fun x hx=>by obtain rfl:=zYP.1 hx;exact hu) (by simp)
theorem zPy (h:(fRR m Ls).p l W) (hm:m<=650) (hm0:0<m) (hn:Ls.flatten.length<=1000000) (hnL:Ls.length<=1000000) (hT:Tab W):Calls prog 18 #[l] W (Ret W (fPR (fPV (m+2) (yY Ls.flatten)) (fPV (m+2) (yZ Ls.flatten))).tS):=by
 obtain ⟨L,e,h1,h2⟩:=h
 have:=zJX h1 h2 hm hm0 (by rw [zNi e];exact hn) (by rw [<-e] at hnL;simpa using hnL) hT
 rw [zNi e] at this
 exact this
theorem zPz (h:(fRR m Ls).p l W) (hm:m<=990) (hm0:0<m) (hnP: ∀x,x∈Ls->x.length<=1000000) (hnL:Ls.length<=1000000) (hnE:(Ls.flatMap zAD).length<=1000000) (hT:Tab W):Calls prog 28 #[l] W (Ret W (wL W 64 12 (egs m (Ls.flatMap zAD)))):=by
 obtain ⟨L,e,h1,h2⟩:=h
 have:=zPA h1 h2 hm hm0 (fun x hx=>hnP _ (by rw [<-e];exact List.mem_map.2 ⟨x,hx,rfl⟩)) (by rw [<-e] at hnL;simpa using hnL) (by rw [zNN e];exact hnE) hT
 rw [zNN e] at this
 exact this
theorem zSd (hp:QB p.1 m/\QB p.2 m) (hq:QB q.1 m/\QB q.2 m) (h:(fPR (fPN p) (fPN q)).p v W):(fPR (fPV m p) (fPV m q)).p v W:=by
 obtain ⟨a,b,e,h1,h2⟩:=h
 exact ⟨a,b,e,zAo (p:=p) (m:=m) hp.1 hp.2 h1,zAo (p:=q) (m:=m) hq.1 hq.2 h2⟩
abbrev hfp:V2:=(((1:Int):Rat)*((((1:Int):Rat)+((0:Int):Rat)) / 2),((1:Int):Rat)*((((1:Int):Rat)+((0:Int):Rat)) / 2))
theorem zQs:QB (((1:Int):Rat)*((((1:Int):Rat)+((0:Int):Rat)) / 2)) 1:=⟨by unfold Bd BB;decide+kernel,by unfold BB;decide+kernel⟩
theorem tv1:((q8 (yY [T3L].flatten) (((-1:Int):Rat),((-1:Int):Rat))==0)&&(q8 (yZ [T3L].flatten) (((3:Int):Rat),((3:Int):Rat))==0))=true:=by kernel_rfl
theorem tv2:(q8 (zCq T3L 1).1 (((0:Int):Rat),((2:Int):Rat))==0)=true:=by kernel_rfl
theorem tv3:(q8 (qP []) (qQ [])==0)=true:=by kernel_rfl
theorem tv4:inK T3L (((1:Int):Rat),((0:Int):Rat)) T3L.length=false:=by kernel_rfl
theorem tv5:inK T3L hfp T3L.length=true:=by kernel_rfl
theorem zHw {L:List PX} (hl:(wD 6 (pxs L)).p l W):Calls prog 5 #[l] W (Ret W (fB (g8 L)).tS):=by
 refine z9 [wD 6 (pxs L)] func5 rfl kI ⟨hl,trivial⟩ fun a s=> ?_
 refine zYK ?_
 refine zB 1 ((2,.u (uB false)):: []) hmix s kI
  (oc zF<|zC) fun a w1 s=> ?_
 refine zA rfl ?_
 refine zYK ?_
 refine zYK ?_
 refine zB 1 ((3,.u (uI 0)):: []) hmix s kI
  (oc zF<|zC) fun a w2 s=> ?_
 refine zA rfl ?_
 refine zYN ?_
 refine zAF (fun k=>k<=L.length/\k<=61/\ ∀j y,j<k->L[j]?=some y->PX.big6 y=false) (fun k=> [(0,.o (wD 6 (pxs L))),(3,.u (uI ((k:Nat):Int)))]) (fun k=>61 - k) (0:Nat) (⟨zYV _,by omega,fun j y hj=>absurd hj (Nat.not_lt_zero _)⟩) (s.keepK _ (fmz ⟨mz2,fmz ⟨.head _,fnz⟩⟩)) fun k a w hx s=> ?_
 refine zYK ?_
 refine zYK ?_
 refine zB 8 ((4,.Z (uI (k:Int)))::(5,.s (wD 6 (pxs L)))::(6,.Z (uI ((pxs L).length:Int)))::(7,.Z (uB (ltz k ((pxs L).length))))::(8,.Z (uB (ltz k ((pxs L).length))))::(9,.s (SF.imp ((ltz k ((pxs L).length))=true) ((uI (k:Int)).tS)))::(10,.s (SF.imp ((ltz k ((pxs L).length))=true) ((uB (decide ((k:Int)<=60))).tS)))::(11,.u (uB ((ltz k ((pxs L).length))&&(decide ((k:Int)<=60))))):: []) hmix s kI
  (oc zE<|oc zE<|oc (zEc (z:=6) (Cs:=pxs L) kI iiz (fun _=>rfl))<|oc (zS .i64 (k:Int) ((pxs L).length:Int) (ltz k ((pxs L).length)) iiz iiz rfl rfl)<|oc zE<|oc (zG 8 (ltz k ((pxs L).length)) kI iiz (fun e=>z5 [] ((uI (k:Int)).tS) fnz fP kI zE) fO)<|oc (zG 8 (ltz k ((pxs L).length)) kI iiz (fun e=>z5 [(9,(uI (k:Int)).tS)] ((uB (decide ((k:Int)<=60))).tS) (fmz ⟨fun v W h=>zT (c:=(ltz k ((pxs L).length))=true) (f:=(uI (k:Int)).tS) e h,fnz⟩) fP kI (zS .i64 (k:Int) 60 (decide ((k:Int)<=60)) iiz iiz rfl rfl)) fO)<|oc (yO (ltz k ((pxs L).length)) iiz (fun e v W h=>zAP (zT e h) e) (fun e v W h=>zAe h e))<|zC) fun a w3 s=> ?_
 refine zA rfl ?_
 refine StS.cond s ((ltz k ((pxs L).length))&&(decide ((k:Int)<=60))) iiz (fun e=> ?_) (fun e=> ?_)
 ·rw [zZf] at e
  have hk1:k<L.length:=by have:=zYT e.1;simp at this;omega
  have hk2:k<=60:=by have:=zYT e.2;omega
  obtain ⟨x,hxl⟩: ∃x,L[k]?=some x:=⟨_,zYU hk1⟩
  have hx_:(pxs L)[k]?=some (PX.cu x):=by rw [zYX,hxl];rfl
  refine zYM ?_
  refine zYK ?_
  refine zYN ?_
  refine zYK ?_
  refine zB 32 ((14,.s (wD 6 (pxs L)))::(15,.Z (uI (k:Int)))::(16,.s (wE (PX.cu x).cf))::(17,.s (wE ((PX.cu x).cf.at 0)))::(18,.s (wE ((PX.cu x).cf.at 0)))::(19,.s (wE ((PX.cu x).cf.at 1)))::(20,.Z (fSl (x.1.n)))::(21,.Z (uI (x.1.n:Int)))::(22,.s (wD 6 (pxs L)))::(23,.Z (uI (k:Int)))::(24,.s (wE (PX.cu x).cf))::(25,.s (wE ((PX.cu x).cf.at 0)))::(26,.s (wE ((PX.cu x).cf.at 2)))::(27,.Z (fSl (x.1.n')))::(28,.Z (uI (x.1.n':Int)))::(29,.s (wD 6 (pxs L)))::(30,.Z (uI (k:Int)))::(31,.s (wE (PX.cu x).cf))::(32,.s (wE ((PX.cu x).cf.at 3)))::(33,.s (wE ((PX.cu x).cf.at 3)))::(34,.s (wE ((PX.cu x).cf.at 4)))::(35,.Z (fSl (x.2.n)))::(36,.Z (uI (x.2.n:Int)))::(37,.s (wD 6 (pxs L)))::(38,.Z (uI (k:Int)))::(39,.s (wE (PX.cu x).cf))::(40,.s (wE ((PX.cu x).cf.at 3)))::(41,.s (wE ((PX.cu x).cf.at 5)))::(42,.Z (fSl (x.2.n')))::(43,.Z (uI (x.2.n':Int)))::(44,.Z (uI ((max (max (max x.1.n x.1.n') x.2.n) x.2.n':Nat):Int)))::(45,.u (uB (PX.big6 x))):: []) hmix s kI
   (oc zE<|oc zE<|oc (zBD (z:=6) (Cs:=pxs L) (i:=k) (C:=PX.cu x) kI hx_ iiz iiz)<|oc (zL (C:=(PX.cu x).cf) 0 kI)<|oc (yW (C:=(PX.cu x).cf) 0 0 kI)<|oc (yW (C:=(PX.cu x).cf) 0 1 kI)<|oc (jJ (C:=(PX.cu x).cf) (k:=1) kI (h:=zW2))<|oc (zBY kI (fun v W ⟨A,c,e⟩=>⟨A,x.1.n,c,e,rfl⟩))<|oc zE<|oc zE<|oc (zBD (z:=6) (Cs:=pxs L) (i:=k) (C:=PX.cu x) kI hx_ iiz iiz)<|oc (zL (C:=(PX.cu x).cf) 0 kI)<|oc (yW (C:=(PX.cu x).cf) 0 2 kI)<|oc (jJ (C:=(PX.cu x).cf) (k:=2) kI (h:=zW1))<|oc (zBY kI (fun v W ⟨A,c,e⟩=>⟨A,x.1.n',c,e,rfl⟩))<|oc zE<|oc zE<|oc (zBD (z:=6) (Cs:=pxs L) (i:=k) (C:=PX.cu x) kI hx_ iiz iiz)<|oc (zL (C:=(PX.cu x).cf) 3 kI)<|oc (yW (C:=(PX.cu x).cf) 3 0 kI)<|oc (yW (C:=(PX.cu x).cf) 3 1 kI)<|oc (jJ (C:=(PX.cu x).cf) (k:=4) kI (h:=zW0))<|oc (zBY kI (fun v W ⟨A,c,e⟩=>⟨A,x.2.n,c,e,rfl⟩))<|oc zE<|oc zE<|oc (zBD (z:=6) (Cs:=pxs L) (i:=k) (C:=PX.cu x) kI hx_ iiz iiz)<|oc (zL (C:=(PX.cu x).cf) 3 kI)<|oc (yW (C:=(PX.cu x).cf) 3 2 kI)<|oc (jJ (C:=(PX.cu x).cf) (k:=5) kI (h:=zWZ))<|oc (zBY kI (fun v W ⟨A,c,e⟩=>⟨A,x.2.n',c,e,rfl⟩))<|oc (zSk (x.1.n) (x.1.n') (x.2.n) (x.2.n') iiz iiz iiz iiz)<|oc (zS .i64 ((max (max (max x.1.n x.1.n') x.2.n) x.2.n':Nat):Int) 6 (PX.big6 x) iiz iiz (by unfold PX.big6;show decide (((max (max (max x.1.n x.1.n') x.2.n) x.2.n':Nat):Int)>6)=_;rw [zY6];omega) rfl)<|zC) fun a w4 s=> ?_
  refine zA rfl ?_
  refine StS.cond s (PX.big6 x) iiz (fun e=> ?_) (fun e=> ?_)
  ·refine zYK ?_
   refine zB 1 ((2,.u (uB true)):: []) hmix s kI
    (oc zF<|zC) fun a w5 s=> ?_
   refine zA rfl ?_
   refine zYL ?_
   exact wG s (t:=2) rfl (fun v W h=>by rw [zUc hk2 hxl e];exact h)
  ·have hbig:=e
   refine zYM ?_
   refine zX 2 ((12,.Z (uI (k:Int)))::(13,.u (uI ((k+1:Nat):Int))):: []) s kI
    (oc zE<|oc (yN .i64 (k:Int) 1 ((k+1:Nat):Int) iiz iiz (wrap64 _ _ oP oP))<|zC) fun a w6 s=> ?_
   replace s:=s.drop [3]
   refine yR (uI ((k+1:Nat):Int)) rfl s kI iiz fun a w s=> ?_
   refine zA rfl ?_
   exact ⟨k+1,⟨by omega,by omega,fun j y hj hy=>by rcases Nat.lt_or_eq_of_le (Nat.le_of_lt_succ hj) with h|h;exact hx.2.2 j y h hy;rw [h,hxl] at hy;cases hy;exact hbig⟩,(by show 61 - (k+1)<61 - k;omega),s.keepK _ (fmz ⟨mz4,fmz ⟨.head _,fnz⟩⟩)⟩
 ·have hend:L.length<=k∨k=61:=by
   rw [zZb] at e
   rcases e with e|e
   ·have h7:=zYS e;simp at h7;omega
   ·have h7:=zYS e;omega
  refine zYW ?_
  refine zYK ?_
  refine zB 4 ((46,.s (wD 6 (pxs L)))::(47,.Z (uI ((pxs L).length:Int)))::(48,.Z (uB (decide (((pxs L).length:Int)>60))))::(2,.u (uB (decide (((pxs L).length:Int)>60)))):: []) hmix s kI
   (oc zE<|oc (zEc (z:=6) (Cs:=pxs L) kI iiz (fun _=>rfl))<|oc (zS .i64 ((pxs L).length:Int) 60 (decide (((pxs L).length:Int)>60)) iiz iiz rfl rfl)<|oc zF<|zC) fun a w7 s=> ?_
  refine zA rfl ?_
  refine zYL ?_
  exact wG s (t:=2) rfl (fun v W h=>by rw [zUb (fun j y hj hy=>hx.2.2 j y (by have:=(zY7.1 hy).1;omega) hy)];exact h)
theorem zDs:Calls prog 27 #[] W (Ret W (wD 6 (pvs 1 T3L))):=by
 refine z9 [] func27 rfl kI trivial fun a s=> ?_
 refine zYK ?_
 refine zB 1 ((0,.u (wB (sN))):: []) hmix s kI
  (oc zF<|zC) fun a w1 s=> ?_
 refine zA rfl ?_
 refine zYK ?_
 replace s:=s.drop [0]
 refine qV 5 ((1,.Z (fPN (((0:Int):Rat),((0:Int):Rat))))::(2,.Z (fPN (((2:Int):Rat),((0:Int):Rat))))::(3,.Z (fPN (((0:Int):Rat),((2:Int):Rat))))::(4,.s (wD 6 [wC (fPN (((0:Int):Rat),((0:Int):Rat))),wC (fPN (((2:Int):Rat),((0:Int):Rat))),wC (fPN (((0:Int):Rat),((2:Int):Rat)))]))::(0,.s (wD 6 [wC (fPN (((0:Int):Rat),((0:Int):Rat))),wC (fPN (((2:Int):Rat),((0:Int):Rat))),wC (fPN (((0:Int):Rat),((2:Int):Rat)))])):: []) hmix s kI
  (oc (zI zD zEw (fun u0 u1 W hb (h0:u0= .int .i64 0) (h1:u1= .int .i64 0)=>zCo h0 h1 dB dB))<|oc (zI zD zEw (fun u0 u1 W hb (h0:u0= .int .i64 2) (h1:u1= .int .i64 0)=>zCo h0 h1 dB dB))<|oc (zI zD zEw (fun u0 u1 W hb (h0:u0= .int .i64 0) (h1:u1= .int .i64 2)=>zCo h0 h1 dB dB))<|oc (zHJ (fun u v q W (hu:(fPN (((0:Int):Rat),((0:Int):Rat))).p u W) (hv:(fPN (((2:Int):Rat),((0:Int):Rat))).p v W) (hq:(fPN (((0:Int):Rat),((2:Int):Rat))).p q W)=>zTo hu hv hq))<|oc zF<|zC) fun a w2 s hr=> ?_
 refine zA rfl ?_
 refine zYL ?_
 exact StS.resN s (zY4 _ _) (t:=0) rfl (zCG zVl _ _ (hr (_,_) mz4))
theorem zF9 (hT:Tab W):Calls prog 8 #[] W (Ret W (fB true).tS):=by
 refine z9 [] func8 rfl kI trivial fun a s=> ?_
 refine zYK ?_
 refine zB 1 ((0,.u (uB false)):: []) hmix s kI
  (oc zF<|zC) fun a w1 s=> ?_
 refine zA rfl ?_
 refine zYK ?_
 refine zB 3 ((5,.s (wD 6 (pvs 1 T3L)))::(6,.s (fRR 1 [T3L]))::(7,.u (fPR (fPV 3 (yY [T3L].flatten)) (fPV 3 (yZ [T3L].flatten)))):: []) hmix s kI
  (oc (zBZ zD zPM (fun W hb=>zDs))<|oc (jI (fun u W (hu:(wD 6 (pvs 1 T3L)).p u W)=>zQf hu))<|oc (zJ zD zUA (fun u0 W hb (h0:(fRR 1 [T3L]).p u0 W)=>zPy (m:=1) (Ls:= [T3L]) h0 dB dB dB dB (hT.below (s.up hb))))<|zC) fun a w2 s=> ?_
 refine zZ (CU.len 12) (cs:= [.bool false, sN, sN,.bool false, sN, sN,.bool false, sN, sN,.bool false, sN, sN]) kI rfl s kI (fun W=>rfl) rfl fun b1 a w s=> ?_
 refine zQ (wC (fPR (fPV 3 (yY [T3L].flatten)) (fPV 3 (yZ [T3L].flatten)))) ((fPR (fPV 3 (yY [T3L].flatten)) (fPV 3 (yZ [T3L].flatten))).tS) rfl s kI rfl rfl rfl iiz iiz zBo fun a w s=> ?_
 refine zA rfl ?_
 refine zYK ?_
 refine qV 3 ((8,.s (wD 6 (pvs 1 T3L)))::(9,.s (fRR 1 [T3L]))::(10,.s (wL w 64 12 (egs 1 ([T3L].flatMap zAD)))):: []) hmix s kI
  (oc (zBZ zD zPM (fun W hb=>zDs))<|oc (jI (fun u W (hu:(wD 6 (pvs 1 T3L)).p u W)=>zQf hu))<|oc (zJ zD zWk (fun u0 W hb (h0:(fRR 1 [T3L]).p u0 W)=>(zPz (m:=1) (Ls:= [T3L]) h0 dB dB (fun x hx=>by rw [zYP.1 hx];decide) dB dB (hT.below (s.up hb))).mono (wH (zBm hb.size))))<|zC) fun a w3 s hr=> ?_
 obtain ⟨v10,e10⟩: ∃v,a.tmps.getD 10 undef=v:=⟨_,rfl⟩
 have hv10:(wD 12 (egs 1 ([T3L].flatMap zAD))).p v10 w3:=zAw _ _ (e10▸(hr (_,_) mz2))
 replace s:=s.learn 10 v10 e10
 have hb0:=s.below
 have hT0:=hT
 have hT:=hT0.below hb0
 replace s:StS _ _ _ [⟨1,47,wC (fPR (fPV 3 (yY [T3L].flatten)) (fPV 3 (yZ [T3L].flatten))),b1,true⟩] _ _ _ _:=s.freeze
 replace s:=s.reb rfl [(10,.u (wB v10)),(7,.u (fPR (fPV 3 (yY [T3L].flatten)) (fPV 3 (yZ [T3L].flatten)))),(0,.u (uB false))] (fmz ⟨.inl (.head _),fmz ⟨.inl mz1,fmz ⟨.inl mz2,fnz⟩⟩⟩)
 refine yR (wB v10) rfl s kI iiz fun a w s=> ?_
 refine zA rfl ?_
 refine zYK ?_
 refine zB 4 ((12,.Z (zAC (fPR (fPV 1 (qP [])) (fPV 1 (qQ []))) (uB false)))::(11,.Z (zAC (fPR (fPV 1 (qP [])) (fPV 1 (qQ []))) (uB false)))::(13,.u (fPR (fPV 1 (qP [])) (fPV 1 (qQ []))))::(14,.u (uB false)):: []) hmix s kI
  (oc (zJ zD zUx (fun u0 W hb (h0:u0= sN)=>(zQK (m:=1) (ps:= []) (by rw [show u0=_ from h0];exact zLR 6 _) dB dB dB (hT.below (s.up hb))).mono (wH (fun v W h=>h))))<|oc zE<|oc (zAR (A:=(fPR (fPV 1 (qP [])) (fPV 1 (qQ []))).tS) (B:=(uB false).tS) iiz)<|oc (zAQ (A:=(fPR (fPV 1 (qP [])) (fPV 1 (qQ []))).tS) (B:=(uB false).tS) iiz)<|zC) fun a w4 s=> ?_
 refine zZ (CU.len 12) (cs:= [.bool false, sN, sN,.bool false, sN, sN,.bool false, sN, sN,.bool false, sN, sN]) kI rfl s kI (fun W=>rfl) rfl fun b3 a w s=> ?_
 refine zQ (wC (fPR (fPV 1 (qP [])) (fPV 1 (qQ [])))) ((fPR (fPV 1 (qP [])) (fPV 1 (qQ []))).tS) rfl s kI rfl rfl rfl iiz iiz zBo fun a w s=> ?_
 refine yR (uB false) rfl s kI iiz fun a w s=> ?_
 refine zA rfl ?_
 refine zYK ?_
 replace s:=s.drop [0]
 refine zB 45 ((15,.Z (fPR (fPV 3 (yY [T3L].flatten)) (fPV 3 (yZ [T3L].flatten))))::(16,.Z (fPN ((((-1):Int):Rat),(((-1):Int):Rat))))::(17,.Z (fPN (((3:Int):Rat),((3:Int):Rat))))::(18,.Z (fPR (fPN ((((-1):Int):Rat),(((-1):Int):Rat))) (fPN (((3:Int):Rat),((3:Int):Rat)))))::(19,.Z (uB true))::(20,.Z (uB true))::(21,.Z (wB v10))::(22,.Z (uI ((egs 1 ([T3L].flatMap zAD)).length:Int)))::(23,.Z (uB true))::(24,.Z (uB true))::(25,.Z (uB true))::(26,.Z (wB v10))::(27,.Y (fPR (fPV 1 ((zCq T3L 1).1)) (fPV 1 ((zCq T3L 1).2))))::(28,.X (fPR (fPV 1 ((zCq T3L 1).1)) (fPV 1 ((zCq T3L 1).2))) 0)::(29,.Z (fPV 1 ((zCq T3L 1).1)))::(30,.Z (fPN (((0:Int):Rat),((2:Int):Rat))))::(31,.Z (uB true))::(32,.Z (uB true))::(33,.Z (uB true))::(34,.Z (uB false))::(35,.Z (uB true))::(36,.Z (uB true))::(37,.Z (uB true))::(38,.X (fPR (fPV 1 (qP [])) (fPV 1 (qQ []))) 0)::(39,.Z (fPV 1 (qP [])))::(40,.X (fPR (fPV 1 (qP [])) (fPV 1 (qQ []))) 6)::(41,.Z (fPV 1 (qQ [])))::(42,.Z (uB true))::(43,.Z (uB true))::(44,.Z (uB true))::(45,.s (wD 6 (pvs 1 T3L)))::(46,.Z (fPN (((1:Int):Rat),((0:Int):Rat))))::(47,.Z (uB false))::(48,.Z (uB true))::(49,.Z (uB true))::(50,.Z (uB true))::(51,.s (wD 6 (pvs 1 T3L)))::(52,.Z (fPN (((1:Int):Rat),((1:Int):Rat))))::(53,.Z (fQN ((1:Int):Rat)))::(54,.Z (fQN ((0:Int):Rat)))::(55,.Z (fQN ((((1:Int):Rat)+((0:Int):Rat)) / 2)))::(56,.Z (fPN hfp))::(57,.Z (uB true))::(58,.Z (uB true))::(0,.u (uB true)):: []) hmix s kI
  (oc (zK (f:=fPR (fPV 3 (yY [T3L].flatten)) (fPV 3 (yZ [T3L].flatten))) 12 kI (hz:=zBd))<|oc (zI zD zEw (fun u0 u1 W hb (h0:u0= .int .i64 (-1)) (h1:u1= .int .i64 (-1))=>zCo h0 h1 dB dB))<|oc (zI zD zEw (fun u0 u1 W hb (h0:u0= .int .i64 3) (h1:u1= .int .i64 3)=>zCo h0 h1 dB dB))<|oc (y4 (fun u v W (hu:(fPN ((((-1):Int):Rat),(((-1):Int):Rat))).p u W) (hv:(fPN (((3:Int):Rat),((3:Int):Rat))).p v W)=>zVa hu hv))<|oc (zI zD zWj (fun u0 u1 W hb (h0:(fPR (fPV 3 (yY [T3L].flatten)) (fPV 3 (yZ [T3L].flatten))).p u0 W) (h1:(fPR (fPN ((((-1):Int):Rat),(((-1):Int):Rat))) (fPN (((3:Int):Rat),((3:Int):Rat)))).p u1 W)=>(zMb (m:=3) (lo:=(yY [T3L].flatten)) (hi:=(yZ [T3L].flatten)) (lo2:=((((-1):Int):Rat),(((-1):Int):Rat))) (hi2:=(((3:Int):Rat),((3:Int):Rat))) h0 (zSd (p:=((((-1):Int):Rat),(((-1):Int):Rat))) (q:=(((3:Int):Rat),((3:Int):Rat))) ⟨((qbz dB).mono dB),((qbz dB).mono dB)⟩ ⟨((qbz dB).mono dB),((qbz dB).mono dB)⟩ h1) dB dB).mono (wH (fun v W h=>by rw [tv1] at h;exact h))))<|oc zE<|oc (zG 20 true kI iiz (fun _=>zE) arf)<|oc (zG 20 true kI iiz (fun _=>yV (z:=12) (Cs:=egs 1 ([T3L].flatMap zAD)) kI (fun v W hb h=>(yU hv10 h (s.up hb))) (fun _=>rfl)) arf)<|oc (zG 20 true kI iiz (fun _=>zS .i64 ((egs 1 ([T3L].flatMap zAD)).length:Int) 3 true iiz iiz (by rfl) rfl) arf)<|oc (yO true iiz (fun _ _ _ h=>h) (fun e=>by cases e))<|oc zE<|oc (zG 25 true kI iiz (fun _=>zE) arf)<|oc (zG 25 true kI iiz (fun _=>yH (z:=12) (Cs:=egs 1 ([T3L].flatMap zAD)) (i:=1) (C:=wC (fPR (fPV 1 ((zCq T3L 1).1)) (fPV 1 ((zCq T3L 1).2)))) kI rfl (fun v W hb h=>(yU hv10 h (s.up hb))) iiz) arf)<|oc (zG 25 true kI iiz (fun _=>zL (C:=cg (fPR (fPV 1 ((zCq T3L 1).1)) (fPV 1 ((zCq T3L 1).2)))) 0 kI) arf)<|oc (zG 25 true kI iiz (fun _=>zR (C:=cg (fPR (fPV 1 ((zCq T3L 1).1)) (fPV 1 ((zCq T3L 1).2)))) (k:=0) 6 kI (h:=zC8)) arf)<|oc (zG 25 true kI iiz (fun _=>zI zD zEw (fun u0 u1 W hb (h0:u0= .int .i64 0) (h1:u1= .int .i64 2)=>zCo h0 h1 dB dB)) arf)<|oc (zG 25 true kI iiz (fun _=>zI zD zH3 (fun u0 u1 W hb (h0:(fPV 1 ((zCq T3L 1).1)).p u0 W) (h1:(fPN (((0:Int):Rat),((2:Int):Rat))).p u1 W)=>(zBU (m:=1) (p:=(zCq T3L 1).1) (q:=(((0:Int):Rat),((2:Int):Rat))) h0 (zAo (p:=(((0:Int):Rat),((2:Int):Rat))) (m:=1) (qbz dB) (qbz dB) h1) dB dB).mono (wH (fun v W h=>by rw [tv2] at h;exact h)))) arf)<|oc (yO true iiz (fun _ _ _ h=>h) (fun e=>by cases e))<|oc zE<|oc (zG 33 true kI iiz (fun _=>zE) arf)<|oc (zG 33 true kI iiz (fun _=>zBz false iiz (fun _=>rfl)) arf)<|oc (yO true iiz (fun _ _ _ h=>h) (fun e=>by cases e))<|oc zE<|oc (zG 37 true kI iiz (fun _=>zL (C:=cg (fPR (fPV 1 (qP [])) (fPV 1 (qQ [])))) 0 kI) arf)<|oc (zG 37 true kI iiz (fun _=>zR (C:=cg (fPR (fPV 1 (qP [])) (fPV 1 (qQ [])))) (k:=0) 6 kI (h:=zC8)) arf)<|oc (zG 37 true kI iiz (fun _=>zL (C:=cg (fPR (fPV 1 (qP [])) (fPV 1 (qQ [])))) 6 kI) arf)<|oc (zG 37 true kI iiz (fun _=>zR (C:=cg (fPR (fPV 1 (qP [])) (fPV 1 (qQ [])))) (k:=6) 6 kI (h:=zDA)) arf)<|oc (zG 37 true kI iiz (fun _=>zI zD zH3 (fun u0 u1 W hb (h0:(fPV 1 (qP [])).p u0 W) (h1:(fPV 1 (qQ [])).p u1 W)=>(zBU (m:=1) (p:=qP []) (q:=qQ []) h0 h1 dB dB).mono (wH (fun v W h=>by rw [tv3] at h;exact h)))) arf)<|oc (yO true iiz (fun _ _ _ h=>h) (fun e=>by cases e))<|oc zE<|oc (zG 44 true kI iiz (fun _=>zBZ zD zPM (fun W hb=>zDs)) arf)<|oc (zG 44 true kI iiz (fun _=>zI zD zEw (fun u0 u1 W hb (h0:u0= .int .i64 1) (h1:u1= .int .i64 0)=>zCo h0 h1 dB dB)) arf)<|oc (zG 44 true kI iiz (fun _=>zI zD zVS (fun u0 u1 W hb (h0:(wD 6 (pvs 1 T3L)).p u0 W) (h1:(fPN (((1:Int):Rat),((0:Int):Rat))).p u1 W)=>(zSE (m:=1) (p:=(((1:Int):Rat),((0:Int):Rat))) h0 (zAo (p:=(((1:Int):Rat),((0:Int):Rat))) (m:=1) (qbz dB) (qbz dB) h1) dB dB dB (hT.below (s.up hb))).mono (wH (fun v W h=>by rw [tv4] at h;exact h)))) arf)<|oc (zG 44 true kI iiz (fun _=>zBz false iiz (fun _=>rfl)) arf)<|oc (yO true iiz (fun _ _ _ h=>h) (fun e=>by cases e))<|oc zE<|oc (zG 50 true kI iiz (fun _=>zBZ zD zPM (fun W hb=>zDs)) arf)<|oc (zG 50 true kI iiz (fun _=>zI zD zEw (fun u0 u1 W hb (h0:u0= .int .i64 1) (h1:u1= .int .i64 1)=>zCo h0 h1 dB dB)) arf)<|oc (zG 50 true kI iiz (fun _=>zJ zD zH4 (fun u0 W hb (h0:u0= .int .i64 1)=>zEo 1 h0 dB)) arf)<|oc (zG 50 true kI iiz (fun _=>zJ zD zH4 (fun u0 W hb (h0:u0= .int .i64 0)=>zEo 0 h0 dB)) arf)<|oc (zG 50 true kI iiz (fun _=>zI zD zWo (fun u0 u1 W hb (h0:QNp ((1:Int):Rat) u0 W) (h1:QNp ((0:Int):Rat) u1 W)=>zRY (m:=1) (wM h0 (qbz dB)) (wM h1 (qbz dB)) dB dB)) arf)<|oc (zG 50 true kI iiz (fun _=>zI zD zUw (fun u0 u1 W hb (h0:(fPN (((1:Int):Rat),((1:Int):Rat))).p u0 W) (h1:QNp ((((1:Int):Rat)+((0:Int):Rat)) / 2) u1 W)=>zHv (m:=1) (p:=(((1:Int):Rat),((1:Int):Rat))) (t:=((((1:Int):Rat)+((0:Int):Rat)) / 2)) (zAo (p:=(((1:Int):Rat),((1:Int):Rat))) (m:=1) (qbz dB) (qbz dB) h0) (wM h1 zQr) ⟨qbz dB,qbz dB⟩ zQr dB)) arf)<|oc (zG 50 true kI iiz (fun _=>zI zD zVS (fun u0 u1 W hb (h0:(wD 6 (pvs 1 T3L)).p u0 W) (h1:(fPN hfp).p u1 W)=>(zSE (m:=1) (p:=hfp) h0 (zAo (p:=hfp) (m:=1) zQs zQs h1) dB dB dB (hT.below (s.up hb))).mono (wH (fun v W h=>by rw [tv5] at h;exact h)))) arf)<|oc (yO true iiz (fun _ _ _ h=>h) (fun e=>by cases e))<|oc zF<|zC) fun a w5 s=> ?_
 refine zA rfl ?_
 refine zYL ?_
 exact vE s hb0 (t:=0) rfl iiz
theorem zKY (f:Nat->Bool) (N:Nat):decide (zFY f N≥0)=(List.range N).any f:=by
 unfold zFY
 cases h:(List.range N).find? f with
 |none=>
  have:=List.find?_eq_none.1 h
  rw [show (List.range N).any f=false from zZk.2 this]
  rfl
 |some k=>
  have h1:=List.find?_some h
  have h2:=List.mem_of_find?_eq_some h
  rw [zZl.2 ⟨k,h2,h1⟩]
  exact zYR (show (k:Int)≥0 by omega)
theorem zHa (ps:List V2) (p:V2):zCn ps p=if ((List.range (nE ps)).any (onK ps p))=true then 0 else 2*((zIZ (crK ps p) (nE ps) % 2:Nat):Int) - 1:=by
 unfold zCn
 have h:=zKY (onK ps p) (nE ps)
 by_cases e:onI ps p≥0
 ·rw [if_pos e,if_pos (by rw [<-h];exact zYR e)]
 ·rw [if_neg e,if_neg (by rw [<-h,zYQ (show ¬zFY (onK ps p) (nE ps)≥0 from e)];decide)]
  rfl
theorem zNz {a b:Rat} (h:(a<=r/\r<=b)∨(b<=r/\r<=a)):zN2 a b r=true:=by
 have le_q: ∀{x y:Rat},x<=y->qsg x y<=0:=fun {x y} h=>by
  rcases zD7 x y with e|e|e
  ·omega
  ·omega
  ·exact absurd (zCB.1 e) (Rat.not_lt.2 h)
 have ge_q: ∀{x y:Rat},x<=y->0<=qsg y x:=fun {x y} h=>by rw [zIC x y];have:=le_q h;omega
 unfold zN2
 rw [zZf]
 constructor
 ·refine zYR ?_
  rcases h with ⟨h1,h2⟩|⟨h1,h2⟩
  ·have:=Int.mul_nonneg_of_nonpos_of_nonpos (le_q h1) (le_q h2);omega
  ·have:=Int.mul_nonneg (ge_q h2) (ge_q h1);omega
 ·unfold zVA
  by_cases e:a=b
  ·subst e
   have:a=r:=by rcases h with ⟨h1,h2⟩|⟨h1,h2⟩<;>grind
   rw [this,zBx.2 rfl];rfl
  ·rw [beq_eq_false_iff_ne.2 (fun h=>e (zBx.1 h))];rfl
theorem zE6 {a b t:Rat} (h0:0<=t) (h1:t<=1):(a<=a+(b - a)*t/\a+(b - a)*t<=b)∨(b<=a+(b - a)*t/\a+(b - a)*t<=a):=by
 rcases (Rat.le_total:a<=b∨b<=a) with h|h
 ·have k1:=zY8 (show 0<=b - a by grind) h0
  have k2:=zY8 (show 0<=b - a by grind) (show 0<=1 - t by grind)
  exact .inl ⟨by grind,by grind⟩
 ·have k1:=zY8 (show 0<=a - b by grind) h0
  have k2:=zY8 (show 0<=a - b by grind) (show 0<=1 - t by grind)
  exact .inr ⟨by grind,by grind⟩
theorem zTQ {t:Rat} (h0:0<=t) (h1:t<=1):onB a b (seg a b t)=true:=by
 unfold onB
 have h2:zAG a b (seg a b t)=0:=by
  unfold zAG
  rw [show crs a b (seg a b t)=0 by unfold crs seg;grind]
  rfl
 rw [h2]
 unfold seg
 rw [zNz (zE6 h0 h1),zNz (zE6 h0 h1)]
 rfl
theorem zN6 (h2:2<=ps.length) (hi:i<ps.length) (h:onB (at_ ps i) (at_ ps ((i+1) % ps.length)) p=true):zCn ps p=0:=by
 rw [zHa]
 refine if_pos (zZl.2 ⟨i,zZh.2 ?_,h⟩)
 unfold nE
 rw [if_pos h2]
 exact hi
theorem zSa {p q:Rat}:decide (qsg p q<=0)=decide (p<=q):=by
 rw [zY6]
 rcases zFd p q with h|h|h
 ·have:=zC7.1 h
  exact ⟨fun _=>by grind,fun _=>by omega⟩
 ·have:=zBx.1 h
  exact ⟨fun _=>by grind,fun _=>by omega⟩
 ·have:=zCB.1 h
  exact ⟨fun _=>by omega,fun _=>by grind⟩
theorem zR9 {p q:Rat}:decide (qsg p q<0)=decide (p<q):=by
 rw [zY6]
 rcases zFd p q with h|h|h
 ·have:=zC7.1 h
  exact ⟨fun _=>this,fun _=>by omega⟩
 ·have:=zBx.1 h
  exact ⟨fun _=>by omega,fun _=>by grind⟩
 ·have:=zCB.1 h
  exact ⟨fun _=>by omega,fun _=>by grind⟩
theorem zMg {p q:Rat}:decide (qsg p q>0)=decide (q<p):=by
 rw [zY6]
 rcases zFd p q with h|h|h
 ·have:=zC7.1 h
  exact ⟨fun _=>by omega,fun _=>by grind⟩
 ·have:=zBx.1 h
  exact ⟨fun _=>by omega,fun _=>by grind⟩
 ·have:=zCB.1 h
  exact ⟨fun _=>this,fun _=>by omega⟩
theorem zOu:(zAG a b p==1)=decide (0<crs a b p):=by
 have h:zAG a b p=1↔0<crs a b p:=by
  unfold zAG
  rw [Int.sign_eq_one_iff_pos,Rat.lt_iff]
  simp
 by_cases e:0<crs a b p
 ·rw [zYR e,beq_iff_eq];exact h.2 e
 ·rw [zYQ e,beq_eq_false_iff_ne];exact fun h1=>e (h.1 h1)
theorem zQ4 {a b:Rat} (h1:r<a) (h2:r<b):zN2 a b r=false:=by
 unfold zN2
 rw [zCB.2 h1,zC7.2 h2]
 rfl
theorem zQ5 {a b:Rat} (h1:a<r) (h2:b<r):zN2 a b r=false:=by
 unfold zN2
 rw [zC7.2 h1,zCB.2 h2]
 rfl
def zFy:Fin 4->V2->V2->Prop
 |0,p,a=>p.1<a.1
 |1,p,a=>a.1<p.1
 |2,p,a=>p.2<a.2
 |3,p,a=>a.2<p.2
theorem zTR {d:Fin 4} (h1:zFy d p a) (h2:zFy d p b):onB a b p=false:=by
 unfold onB
 match d with
 |0=>rw [zQ4 h1 h2];simp
 |1=>rw [zQ5 h1 h2];simp
 |2=>rw [zQ4 h1 h2];simp
 |3=>rw [zQ5 h1 h2];simp
theorem zGW:zN1 a b p=(decide (a.2<=p.2)&&decide (p.2<b.2)&&decide (0<crs a b p)):=by
 unfold zN1
 rw [zSa,zR9,zOu]
theorem zJ8 (a b p:V2):crs a b p=(b.1 - a.1)*(p.2 - a.2) - (b.2 - a.2)*(p.1 - a.1):=by
 unfold crs
 grind
theorem zH7 (h1:p.1<a.1) (h2:p.1<b.1):zN1 a b p=(decide (a.2<=p.2)&&decide (p.2<b.2)):=by
 rw [zGW]
 by_cases e:a.2<=p.2/\p.2<b.2
 ·obtain ⟨e1,e2⟩:=e
  have:0<crs a b p:=by
   rw [zJ8]
   have k1:0<(b.2 - p.2)*(a.1 - p.1):=Rat.mul_pos (by grind) (by grind)
   have k2:0<=(p.2 - a.2)*(b.1 - p.1):=zY8 (by grind) (by grind)
   grind
  rw [zYR e1,zYR e2,zYR this];rfl
 ·have:(decide (a.2<=p.2)&&decide (p.2<b.2))=false:=by
   rw [zZb,zZc,zZc]
   by_cases e1:a.2<=p.2
   ·exact .inr fun e2=>e ⟨e1,e2⟩
   ·exact .inl e1
  rw [this];rfl
theorem zF0 (h1:a.1<p.1) (h2:b.1<p.1):zN1 a b p=false:=by
 rw [zGW]
 by_cases e:a.2<=p.2/\p.2<b.2
 ·obtain ⟨e1,e2⟩:=e
  have: ¬0<crs a b p:=by
   rw [zJ8]
   have k1:0<(b.2 - p.2)*(p.1 - a.1):=Rat.mul_pos (by grind) (by grind)
   have k2:0<=(p.2 - a.2)*(p.1 - b.1):=zY8 (by grind) (by grind)
   grind
  rw [zYQ this,Bool.and_false]
 ·have:(decide (a.2<=p.2)&&decide (p.2<b.2))=false:=by
   rw [zZb,zZc,zZc]
   by_cases e1:a.2<=p.2
   ·exact .inr fun e2=>e ⟨e1,e2⟩
   ·exact .inl e1
  rw [this];rfl
theorem zJ9 (h1:p.2<a.2):zN1 a b p=false:=by
 rw [zGW,zYQ (show ¬a.2<=p.2 by grind)];rfl
theorem zH8 (h1:b.2<p.2):zN1 a b p=false:=by
 rw [zGW,zYQ (show ¬p.2<b.2 by grind),Bool.and_false];rfl
def zLq (p a:V2):Bool:=decide (a.2<=p.2)
theorem zK7 (h1:p.1<a.1) (h2:p.1<b.1):zCp a b p=(zLq p a !=zLq p b):=by
 unfold zCp zLq
 split
 ·rename_i h
  have h:=zYT ((zMg (p:=a.2) (q:=b.2)).symm.trans (zYR h))
  rw [zH7 h2 h1]
  by_cases e1:a.2<=p.2<;>by_cases e2:b.2<=p.2
  ·rw [zYR e1,zYR e2,zYQ (show ¬p.2<a.2 by grind)];rfl
  ·exact absurd e1 (by grind)
  ·rw [zYQ e1,zYR e2,zYR (show p.2<a.2 by grind)];rfl
  ·rw [zYQ e1,zYQ e2];rfl
 ·rename_i h
  have h:=zYS ((zMg (p:=a.2) (q:=b.2)).symm.trans (zYQ h))
  rw [zH7 h1 h2]
  by_cases e1:a.2<=p.2<;>by_cases e2:b.2<=p.2
  ·rw [zYR e1,zYR e2,zYQ (show ¬p.2<b.2 by grind)];rfl
  ·rw [zYR e1,zYQ e2,zYR (show p.2<b.2 by grind)];rfl
  ·exact absurd e2 (by grind)
  ·rw [zYQ e1,zYQ e2];rfl
theorem zNy {d:Fin 4} (h0:d≠0) (h1:zFy d p a) (h2:zFy d p b):zCp a b p=false:=by
 unfold zCp
 match d with
 |0=>exact absurd rfl h0
 |1=>split;exact zF0 h2 h1;exact zF0 h1 h2
 |2=>split;exact zJ9 h2;exact zJ9 h1
 |3=>split;exact zH8 h1;exact zH8 h2
theorem zKe {f:Nat->Bool}: ∀k,(∀j,j<k->f j=false)->zIZ f k=0
 |0,_=>rfl
 |k+1,h=>by rw [zKg (h k (Nat.lt_succ_self k)),zKe k (fun j hj=>h j (Nat.lt_succ_of_lt hj))]
theorem zKc {f s:Nat->Bool}: ∀k,(∀j,j<k->f j=(s j !=s (j+1)))->zIZ f k % 2=if s 0=s k then 0 else 1
 |0,_=>by rw [if_pos rfl];rfl
 | k+1,h=>by
  have ih:=zKc k (fun j hj=>h j (Nat.lt_succ_of_lt hj))
  have hk:=h k (Nat.lt_succ_self k)
  cases hf:f k with
  |true=>
   rw [zQ6 hf]
   rw [hf] at hk
   cases h0:s 0<;>cases h1:s k<;>cases h2:s (k+1)<;>simp [h0,h1,h2] at hk ih ⊢<;>omega
  |false=>
   rw [zKg hf]
   rw [hf] at hk
   cases h0:s 0<;>cases h1:s k<;>cases h2:s (k+1)<;>simp [h0,h1,h2] at hk ih ⊢<;>omega
theorem zNK (h:i<ps.length):at_ ps i∈ps:=by
 unfold at_
 rw [zY0,zYU h]
 exact zZi h
theorem zGU {d:Fin 4} (h: ∀a,a∈ps->zFy d p a):zCn ps p= -1:=by
 have hne: ∀k,k<nE ps->k<ps.length/\(k+1) % ps.length<ps.length/\nE ps=ps.length:=fun k hk=>by
  unfold nE at hk ⊢
  split at hk
  ·rename_i h2
   exact ⟨hk,Nat.mod_lt _ oP,if_pos h2⟩
  ·exact absurd hk (Nat.not_lt_zero _)
 have hB: ∀k,k<nE ps->zFy d p (at_ ps k)/\zFy d p (at_ ps ((k+1) % ps.length)):=fun k hk=>by
  obtain ⟨h1,h2,_⟩:=hne k hk
  exact ⟨h _ (zNK h1),h _ (zNK h2)⟩
 have hon:onI ps p= -1:=zIV fun k hk=>zTR (hB k hk).1 (hB k hk).2
 have hcr:crN ps p % 2=0:=by
  unfold crN
  by_cases h0:d=0
  ·subst h0
   by_cases hn:nE ps=0
   ·rw [hn];rfl
   ·obtain ⟨_,_,he⟩:=hne 0 oP
    have:=zKc (f:=crK ps p) (s:=fun k=>zLq p (at_ ps (k % ps.length))) (nE ps) (fun j hj=>by
     obtain ⟨h1,_,_⟩:=hne j hj
     show zCp _ _ _=_
     rw [zK7 (hB j hj).1 (hB j hj).2]
     show _=(zLq p (at_ ps (j % ps.length)) !=_)
     rw [Nat.mod_eq_of_lt h1])
    rw [this,he]
    simp
  ·rw [zKe (f:=crK ps p) _ fun k hk=>zNy h0 (hB k hk).1 (hB k hk).2]
 unfold zCn
 rw [hon,hcr]
 rfl
end Go.Proofs.Wd
