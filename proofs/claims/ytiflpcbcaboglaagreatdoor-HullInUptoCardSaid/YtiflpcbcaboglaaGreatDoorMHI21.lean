/- Walks of package vec: Of, Cmp, Norm; of side.Between; of package hull: and what it needs. -/
import Derived.Test.YtiflpcbcaboglaaGreatDoorMHI20
import Derived.Test.YtiflpcbcaboglaaGreatDoorMHI19
import Derived.Lib.AppendZeros
import Derived.Test.YtiflpcbcaboglaaGreatDoorMHI13
theorem kI {P:Prop} (h:P:=by kernel_rfl):P:=h
theorem oP {P:Prop} (h:P:=by omega):P:=h
theorem dB {P:Prop} (h:P:=by decide):P:=h
theorem fO {c:Prop} {α:Sort _} {R:α->Prop} (e:¬c) (w:α) (h:c):R w:=absurd h e
theorem fP {β γ:Sort _} {p q:β->γ->Prop} (b:β) (c:γ) (h:p b c) (_:q b c):p b c:=h
abbrev zYa:=@Go.wpIn_seq
abbrev zYb:=@Go.wpIn_skip
abbrev zYc:=@Go.wpIn_ret
abbrev zYd:=@Go.wpIn_block
abbrev zYe:=@Nat.le_trans
abbrev zYf:=@List.mem_singleton
abbrev zYg:=@of_decide_eq_true
abbrev zYh:=@of_decide_eq_false
abbrev zYi:=@List.getElem?_eq_getElem
abbrev zYj:=@Nat.zero_le
abbrev zYk:=@Go.wpIn_exit
abbrev zYl:=@List.mem_cons
abbrev zYm:=@Nat.le_refl
abbrev zYn:=@Go.IntKind.wrap_i64
abbrev zYo:=@List.getElem?_map
abbrev zYp:=@List.getD_eq_getElem?_getD
abbrev zYq:=@List.length_map
abbrev zYr:=@Array.getElem?_eq_some_iff
abbrev zYs:=@List.mem_range
abbrev zYt:=@Nat.lt_of_lt_of_le
abbrev zYu:=@List.take_of_length_le
abbrev zYv:=@Go.RowKit.Below.refl
abbrev zYw:=@List.length_append
abbrev zYx:=@List.getElem?_eq_some_iff
abbrev zYy:=@decide_eq_false
abbrev zYz:=@List.mem_map
abbrev zYA:=@decide_eq_true
abbrev zYB:=@Rat.mul_nonneg
abbrev zYC:=@List.drop_of_length_le
abbrev zYD:=@List.nil_append
abbrev zYE:=@Bool.and_eq_true
abbrev zYF:=@List.range_succ
abbrev zYG:=@List.all_append
abbrev zYH:=@List.flatMap_append
abbrev zYI:=@decide_eq_decide
abbrev zYJ:=@List.any_eq_false
abbrev zYK:=@List.any_eq_true
abbrev zYL:=@Rat.mul_eq_zero
abbrev zYM:=@List.drop_append_of_le_length
abbrev zYN:=@List.take_append_of_le_length
abbrev Wp:=Go.World
abbrev Wq:=Go.Value
abbrev Wr:=Go.TypeId
abbrev Ws:=Option
namespace Go.Proofs.Wd
open Tryz
variable {a b ca cb cc cd hi lo p q:V2} {r:Rat} {ps:List V2} {N base bc c d i j k m n n0 z:Nat} {W W' w w0 w00 w1:Wp} {l u v y:Wq} {x:Operand} {e t te ty:Wr} {C S S':Nat->Prop} {cs:List Wq} {A:Ws Addr} {K0:List (Nat×KF)} {B0:List Bx} {ds0:List Deferred} {a0:Act} {Cs:List CU} {f f' f'' g g' g'':UF} {ops:Array Oper} {pos:String} {aft:Array Edge} {Ls:List (List V2)}
set_option maxRecDepth 100000
set_option maxHeartbeats 1000000
open Go.RowKit Lb
section
variable {f g f' g':UF}
theorem zUX (cs:List Wq) (W:Wp) (h:(wC (fPR (fPT f g) (fPT f' g'))).p cs W):0+3<=cs.length/\f.p (.agg ((cs.drop 0).take 3).toArray) W:=by
 obtain ⟨a,b,rfl,l1,l2,h1,_⟩:=zBf h
 refine ⟨by simp [l1,l2], ?_⟩
 have:=(zC6 a W h1).2
 rwa [zYM oP,zYN (by simp;omega)]
theorem zTl (cs:List Wq) (W:Wp) (h:(wC (fPR (fPT f g) (fPT f' g'))).p cs W):6+3<=cs.length/\f'.p (.agg ((cs.drop 6).take 3).toArray) W:=by
 obtain ⟨a,b,rfl,l1,l2,_,h2⟩:=zBf h
 refine ⟨by simp [l1,l2], ?_⟩
 have:=(zC6 b W h2).2
 rwa [show 6=a.length+0 by omega,List.drop_append,zYC oP,zYD,Nat.add_sub_cancel_left]
end
def zEx (lo hi r:Rat):Bool:=decide (qsg lo r<=0)&&decide (qsg r hi<=0)
theorem zJS {lo hi:Rat}:zEx lo hi r=true↔lo<=r/\r<=hi:=by
 have key: ∀p q:Rat,decide (qsg p q<=0)=true↔p<=q:=fun p q=>by
  rw [decide_eq_true_iff]
  rcases zDd p q with e|e|e
  ·rw [e];exact ⟨fun _=>Rat.le_of_lt (zHl.1 e),fun _=>by decide⟩
  ·rw [e];exact ⟨fun _=>by rw [zC5.1 e];exact Rat.le_refl,fun _=>by decide⟩
  ·rw [e];exact ⟨fun h=>absurd h dB,fun h=>absurd (zFO.1 e) (Rat.not_lt.2 h)⟩
 unfold zEx
 rw [zYE,key,key]
def inK (ps:List V2) (p:V2) (k:Nat):Bool:=decide ((ps.length:Int)≥3)&&(List.range k).all fun i=>yQ (at_ ps i) (at_ ps ((i+1) % ps.length)) p==1
theorem zOT (ps:List V2) (p:V2) (k:Nat):inK ps p (k+1)=(inK ps p k&&(yQ (at_ ps k) (at_ ps ((k+1) % ps.length)) p==1)):=by simp [inK,zYF,Bool.and_assoc]
theorem zOS (ps:List V2) (p:V2):inK ps p 0=decide ((ps.length:Int)≥3):=by simp [inK]
theorem zOU (h:inK ps p k=false) (hk:k<=ps.length):inK ps p ps.length=false:=by
 unfold inK at*
 rw [Bool.and_eq_false_iff] at*
 rcases h with h|h
 ·exact .inl h
 ·right
  rw [List.all_eq_false] at*
  obtain ⟨i,hi,e⟩:=h
  exact ⟨i,zYs.2 (by have:=zYs.1 hi;omega),e⟩
theorem zQU {x y:Int} (hu:u= .int .i64 x) (hv:v= .int .i64 y) (hx: -9223372036854775808<=x/\x<=9223372036854775807) (hy: -9223372036854775808<=y/\y<=9223372036854775807):Calls prog 45 #[u,v] W (Ret W (fPN (((x:Int):Rat),((y:Int):Rat))).tS):=by
 refine z7 [(uI x).tS,(uI y).tS] func45 rfl kI ⟨hu,hv,trivial⟩ fun a s=> ?_
 refine zYa ?_
 refine zB 0 [] hmix s kI
  zD fun a w1 s=> ?_
 refine zZ (CU.len 6) (cs:=zP6) kI rfl s kI (fun W=>rfl) rfl fun b4 a w s=> ?_
 refine zA rfl ?_
 refine zYa ?_
 refine zB 5 ((5,.Z (uI x))::(6,.Z (fQN ((x:Int):Rat)))::(7,.Z (uI y))::(8,.Z (fQN ((y:Int):Rat)))::(9,.u (fPN (((x:Int):Rat),((y:Int):Rat)))):: []) hmix s kI
  (oc zC<|oc (zH zE zSd (fun u0 W hb (h0:u0= .int .i64 x)=>zSZ x h0 hx))<|oc zC<|oc (zH zE zSd (fun u0 W hb (h0:u0= .int .i64 y)=>zSZ y h0 hy))<|oc (y6 (fun u v W (hu:QNp ((x:Int):Rat) u W) (hv:QNp ((y:Int):Rat) v W)=>zQC (zAu _) (zAu _) hu hv))<|zD) fun a w2 s=> ?_
 refine zS (wC (fPN (((x:Int):Rat),((y:Int):Rat)))) ((fPN (((x:Int):Rat),((y:Int):Rat))).tS) rfl s kI rfl rfl rfl iiz iiz yV fun a w s=> ?_
 refine zA rfl ?_
 refine zYc ?_
 exact wH s (wC (fPN (((x:Int):Rat),((y:Int):Rat)))) rfl kI rfl rfl (zO _ _) (fun cs W h=>h)
theorem zSy (h1:(fPV m p).p u W) (h2:(fPV m q).p v W) (hm:m<=2000) (hm0:0<m) (hT:Tab W):Calls prog 86 #[u,v] W (Ret W (fI (jI p q)).tS):=by
 refine z7 [(fPV m p).tS,(fPV m q).tS] func86 rfl kI ⟨h1,h2,trivial⟩ fun a s=> ?_
 refine zYa ?_
 refine zB 0 [] hmix s kI
  zD fun a w1 s=> ?_
 refine yG (wC (fPV m p)) rfl s kI (fun v W h=>yO h) fun b2 a w s=> ?_
 refine yG (wC (fPV m q)) rfl s kI (fun v W h=>yO h) fun b3 a w s=> ?_
 refine yP (uI 0) rfl s kI iiz fun a w s=> ?_
 refine zA rfl ?_
 refine zYa ?_
 refine zYa ?_
 refine zB 6 ((6,.X (fPV m p) 0)::(7,.Z (fRV m ((p).1)))::(8,.X (fPV m q) 0)::(9,.Z (fRV m ((q).1)))::(10,.Z (uI (qsg (p).1 (q).1)))::(5,.u (uI (qsg (p).1 (q).1))):: []) hmix s kI
  (oc (zL (C:=cg (fPV m p)) 0 kI)<|oc (zT (C:=cg (fPV m p)) (k:=0) 3 kI (h:=zC6))<|oc (zL (C:=cg (fPV m q)) 0 kI)<|oc (zT (C:=cg (fPV m q)) (k:=0) 3 kI (h:=zC6))<|oc (zI zE zHM (fun u0 u1 W hb (h0:RVp m ((p).1) u0 W) (h1:RVp m ((q).1) u1 W)=>zEn h0 h1 hm hm0 (hT.below (s.up hb))))<|oc zG<|zD) fun a w2 s=> ?_
 refine zA rfl ?_
 refine zYa ?_
 refine zB 2 ((11,.Z (uI (qsg (p).1 (q).1)))::(12,.u (uB (qsg (p).1 (q).1 !=0))):: []) hmix s kI
  (oc zC<|oc (zR .i64 (qsg (p).1 (q).1) 0 (qsg (p).1 (q).1 !=0) iiz iiz rfl rfl)<|zD) fun a w3 s=> ?_
 refine zA rfl ?_
 refine StS.cond s (qsg (p).1 (q).1 !=0) iiz (fun e=> ?_) (fun e=> ?_)
 ·refine zYa ?_
  replace s:=s.drop [4]
  refine zB 2 ((13,.Z (uI (qsg (p).1 (q).1)))::(4,.u (uI (qsg (p).1 (q).1))):: []) hmix s kI
   (oc zC<|oc zG<|zD) fun a w4 s=> ?_
  refine zA rfl ?_
  refine zYc ?_
  exact wG s (t:=4) rfl (fun v W h=>by rw [zQz e];exact h)
 ·refine zYb ?_
  refine zYa ?_
  replace s:=s.drop [4]
  refine zB 6 ((14,.X (fPV m p) 3)::(15,.Z (fRV m ((p).2)))::(16,.X (fPV m q) 3)::(17,.Z (fRV m ((q).2)))::(18,.Z (uI (qsg (p).2 (q).2)))::(4,.u (uI (qsg (p).2 (q).2))):: []) hmix s kI
   (oc (zL (C:=cg (fPV m p)) 3 kI)<|oc (zT (C:=cg (fPV m p)) (k:=3) 3 kI (h:=zCj))<|oc (zL (C:=cg (fPV m q)) 3 kI)<|oc (zT (C:=cg (fPV m q)) (k:=3) 3 kI (h:=zCj))<|oc (zI zE zHM (fun u0 u1 W hb (h0:RVp m ((p).2) u0 W) (h1:RVp m ((q).2) u1 W)=>zEn h0 h1 hm hm0 (hT.below (s.up hb))))<|oc zG<|zD) fun a w5 s=> ?_
  refine zA rfl ?_
  refine zYc ?_
  exact wG s (t:=4) rfl (fun v W h=>by rw [zQy e];exact h)
theorem zKQ (hl:(wD 6 (pvs m ps)).p l W) (hm:m<=2000) (hm0:0<m) (hps:ps.length<=1000000) (hT:Tab W):Calls prog 58 #[l] W (Ret W (wJ W 30 6 (pns ps))):=by
 refine z7 [(wB l).tS] func58 rfl kI ⟨rfl,trivial⟩ fun a s=> ?_
 replace s:=s.renew [(0,.u (wB l))] (fmz ⟨.inr ⟨_,rfl,.head _⟩,fnz⟩)
 refine zYa ?_
 refine zB 1 ((2,.u (wB (sN))):: []) hmix s kI
  (oc zG<|zD) fun a w1 s=> ?_
 refine zA rfl ?_
 refine zYa ?_
 refine zYa ?_
 refine zB 3 ((5,.u (wB l))::(6,.u (uI ((pvs m ps).length:Int)))::(7,.u (uI 0)):: []) hmix s kI
  (oc zC<|oc (yW (z:=6) (Cs:=pvs m ps) kI (fun v W hb h=>(yU hl h (s.up hb))) (fun _=>rfl))<|oc zC<|zD) fun a w2 s=> ?_
 refine zA rfl ?_
 refine zYd ?_
 obtain ⟨base,hbase⟩: ∃b,b=w2.heap.size:=⟨_,rfl⟩
 have hb0:W.heap.size<=base:=by rw [hbase];exact s.gr.size
 have hsz0:base<=w2.heap.size:=by rw [hbase];exact zYm _
 refine zD4 (fun (p:Nat×Wq) w=>p.1<=ps.length/\base<=w.heap.size/\zAE w base 30 6 p.2 (pns (ps.take p.1))) (fun p=> [(5,.u (wB l)),(6,.u (uI ((pvs m ps).length:Int))),(2,.u (wB (p.2))),(7,.u (uI (p.1:Int)))]) (fun p=>ps.length - p.1) (0, sN) (⟨zYj _,hsz0,zAE.nil _ _ _ _⟩) (s.keepK _ (fmz ⟨.head _,fmz ⟨mz1,fmz ⟨mz3,fmz ⟨mz2,fnz⟩⟩⟩⟩)) fun p a w hI s=> ?_
 have s0:=s
 have hlw:=(wD 6 (pvs m ps)).st _ _ _ hl s0.below
 have hT0:=hT
 have hT:=hT0.below s0.below
 replace s:=s.reb rfl [(5,.u (wB l)),(6,.u (uI ((pvs m ps).length:Int))),(2,.u (wB (p.2))),(7,.u (uI (p.1:Int)))] (fmz ⟨.inl (.head _),fmz ⟨.inl mz1,fmz ⟨.inl mz2,fmz ⟨.inl mz3,fnz⟩⟩⟩⟩)
 refine zYa ?_
 refine zB 1 ((8,.u (uB (ltz p.1 ((pvs m ps).length)))):: []) hmix s kI
  (oc (zR .i64 (p.1:Int) ((pvs m ps).length:Int) (ltz p.1 ((pvs m ps).length)) iiz iiz rfl rfl)<|zD) fun a w3 s=> ?_
 refine zA rfl ?_
 refine zYa ?_
 refine StS.cond s (ltz p.1 ((pvs m ps).length)) iiz (fun e=> ?_) (fun e=> ?_)
 ·have hk:p.1<ps.length:=by have:=zYg e;simp at this;omega
  refine zYb ?_
  refine zYa ?_
  refine zYd ?_
  refine zYa ?_
  refine zB 2 ((9,.Y (fPV m (at_ ps p.1)))::(10,.u (fPV m (at_ ps p.1))):: []) hmix s kI
   (oc (yL (z:=6) (Cs:=pvs m ps) (i:=p.1) (C:=wC (fPV m (at_ ps p.1))) kI (qI hk) (fun v W hb h=>(yU hlw h (s.up hb))) iiz)<|oc (zJ (f:=fPV m (at_ ps p.1)) 6 kI (hz:=zO _ _))<|zD) fun a w4 s=> ?_
  refine zZ (CU.len 6) (cs:=zP6) kI rfl s kI (fun W=>rfl) rfl fun b4 a w s=> ?_
  refine zS (wC (fPV m (at_ ps p.1))) ((fPV m (at_ ps p.1)).tS) rfl s kI rfl rfl rfl iiz iiz yV fun a w s=> ?_
  refine zA rfl ?_
  refine zCr (K:= [(10,.u (fPV m (at_ ps p.1))),(8,.u (uB (ltz p.1 ((pvs m ps).length)))),(5,.u (wB l)),(6,.u (uI ((pvs m ps).length:Int))),(7,.u (uI (p.1:Int)))]) [(2,.u (wB (p.2)))] [0] 9 ((11,.u (wB (p.2)))::(12,.X (fPV m (at_ ps p.1)) 0)::(13,.Z (fRV m ((at_ ps p.1).1)))::(14,.Z (fQN ((at_ ps p.1).1)))::(15,.X (fPV m (at_ ps p.1)) 3)::(16,.Z (fRV m ((at_ ps p.1).2)))::(17,.Z (fQN ((at_ ps p.1).2)))::(18,.Z (fPN ((at_ ps p.1).1,(at_ ps p.1).2)))::(19,.s (wD 6 [wC (fPN ((at_ ps p.1).1,(at_ ps p.1).2))])):: []) hmix (s.keepK _ (fmz ⟨mz4,fmz ⟨.head _,fmz ⟨mz1,fmz ⟨mz2,fmz ⟨mz3,fmz ⟨mz5,fnz⟩⟩⟩⟩⟩⟩)) kI
   (oc zC<|oc (zL (C:=cg (fPV m (at_ ps p.1))) 0 kI)<|oc (zT (C:=cg (fPV m (at_ ps p.1))) (k:=0) 3 kI (h:=zC6))<|oc (zH zE zTP (fun u0 W hb (h0:RVp m ((at_ ps p.1).1) u0 W)=>zLl (m:=m) h0 hm hm0 (hT.below (s.up hb))))<|oc (zL (C:=cg (fPV m (at_ ps p.1))) 3 kI)<|oc (zT (C:=cg (fPV m (at_ ps p.1))) (k:=3) 3 kI (h:=zCj))<|oc (zH zE zTP (fun u0 W hb (h0:RVp m ((at_ ps p.1).2) u0 W)=>zLl (m:=m) h0 hm hm0 (hT.below (s.up hb))))<|oc (y6 (fun u v W (hu:QNp ((at_ ps p.1).1) u W) (hv:QNp ((at_ ps p.1).2) v W)=>zQC (zAu _) (zAu _) hu hv))<|oc (zAb (fun u W (hu:(fPN ((at_ ps p.1).1,(at_ ps p.1).2)).p u W)=>zI2 hu))<|zD) fun Q' hQ a w5 s hr=> ?_
  refine zKV ([wC (fPN ((at_ ps p.1).1,(at_ ps p.1).2))]) s0 (s.keepK [(11,.u (wB (p.2))),(10,.u (fPV m (at_ ps p.1))),(8,.u (uB (ltz p.1 ((pvs m ps).length)))),(5,.u (wB l)),(6,.u (uI ((pvs m ps).length:Int))),(7,.u (uI (p.1:Int)))] (fmz ⟨.head _,fmz ⟨mz1,fmz ⟨mz2,fmz ⟨mz3,fmz ⟨mz4,fmz ⟨mz5,fnz⟩⟩⟩⟩⟩⟩)) hb0 hI.2 rfl kI kI kI (s.fct (.tmp 11)) (hr (_,_) mz8) (zLX _ _) (by simp;omega) (fun q hq hr=>by rcases zYl.1 hq with rfl|hq;cases hr;cases hq) fun v' a w hI' s=> ?_
  have s1:=s
  replace s:StS _ _ _ [⟨4,30,wC (fPV m (at_ ps p.1)),b4,true⟩] _ _ _ _:=s.freeze
  replace s:=s.reb rfl [(20,.u (wB v')),(11,.u (wB (p.2))),(10,.u (fPV m (at_ ps p.1))),(8,.u (uB (ltz p.1 ((pvs m ps).length)))),(5,.u (wB l)),(6,.u (uI ((pvs m ps).length:Int))),(7,.u (uI (p.1:Int)))] (fmz ⟨.inl (.head _),fmz ⟨.inl mz1,fmz ⟨.inl mz2,fmz ⟨.inl mz3,fmz ⟨.inl mz4,fmz ⟨.inl mz5,fmz ⟨.inl mz6,fnz⟩⟩⟩⟩⟩⟩⟩)
  refine yP (wB v') rfl s kI iiz fun a w s=> ?_
  refine zA rfl (hQ _ _ ?_)
  refine zX 1 ((21,.u (uI ((p.1+1:Nat):Int))):: []) s kI
   (oc (yM .i64 (p.1:Int) 1 ((p.1+1:Nat):Int) iiz iiz (wrap64 _ _ oP oP))<|zD) fun a w6 s=> ?_
  replace s:=s.drop [7]
  refine zAS (uI ((p.1+1:Nat):Int)) rfl s kI zC kI fun a w s=> ?_
  refine zA rfl ?_
  replace s:=s.popB
  have hbw:=s.below
  replace s:=s1.back (s.keepK [(7,.u (uI ((p.1+1:Nat):Int))),(21,.u (uI ((p.1+1:Nat):Int))),(2,.u (wB v')),(20,.u (wB v')),(11,.u (wB (p.2))),(10,.u (fPV m (at_ ps p.1))),(8,.u (uB (ltz p.1 ((pvs m ps).length)))),(5,.u (wB l)),(6,.u (uI ((pvs m ps).length:Int)))] (fmz ⟨.head _,fmz ⟨mz1,fmz ⟨mz2,fmz ⟨mz3,fmz ⟨mz4,fmz ⟨mz5,fmz ⟨mz6,fmz ⟨mz7,fmz ⟨mz8,fnz⟩⟩⟩⟩⟩⟩⟩⟩⟩)) rfl
  exact ⟨(p.1+1,v'),(by show ps.length - (p.1+1)<ps.length - p.1;omega),⟨hk,zYe hI'.1 hbw.size,by rw [zJk hk];exact hI'.2.below hbw⟩,s.keepK _ (fmz ⟨mz7,fmz ⟨mz8,fmz ⟨mz2,fmz ⟨.head _,fnz⟩⟩⟩⟩)⟩
 ·have hk:p.1=ps.length:=by have h7:=zYh e;have h8:=hI.1;simp at h7;omega
  refine zYk ?_
  refine zYa ?_
  refine zX 1 ((22,.u (wB (p.2))):: []) s kI
   (oc zC<|zD) fun a w7 s=> ?_
  replace s:=s.drop [2]
  refine yP (wB (p.2)) rfl s kI iiz fun a w s=> ?_
  refine zA rfl ?_
  refine zYc ?_
  exact StS.resN s s0.below rfl (by rw [s.val (.head _)];have:=(hI.2.2.below s.below).mono hb0;rw [hk,List.take_length] at this;exact this)
theorem zIB (hl:(wD 6 (pvs m ps)).p l W) (h1:(fPV m p).p v W) (hm:m<=159) (hm0:0<m) (hn:ps.length<=1000000) (hT:Tab W):Calls prog 9 #[l,v] W (Ret W (fB (inK ps p ps.length)).tS):=by
 refine z7 [(wB l).tS,(fPV m p).tS] func9 rfl kI ⟨rfl,h1,trivial⟩ fun a s=> ?_
 replace s:=s.renew [(0,.u (wB l)),(1,.u (fPV m p))] (fmz ⟨.inr ⟨_,rfl,.head _⟩,fmz ⟨.inr ⟨_,rfl,mz1⟩,fnz⟩⟩)
 refine zYa ?_
 refine zB 0 [] hmix s kI
  zD fun a w1 s=> ?_
 refine yG (wC (fPV m p)) rfl s kI (fun v W h=>yO h) fun b3 a w s=> ?_
 refine yP (uB false) rfl s kI iiz fun a w s=> ?_
 refine zA rfl ?_
 refine (wpIn_wide (n:=0)).2 (wp_scope_straight ((wpIn_wide (n:=0)).1 ?_))
 refine zYa ?_
 refine zB 4 ((8,.Z (wB l))::(9,.Z (uI ((pvs m ps).length:Int)))::(10,.Z (uB (inK ps p 0)))::(5,.u (uB (inK ps p 0))):: []) hmix s kI
  (oc zC<|oc (yW (z:=6) (Cs:=pvs m ps) kI (fun v W hb h=>(yU hl h (s.up hb))) (fun _=>rfl))<|oc (zR .i64 ((pvs m ps).length:Int) 3 (inK ps p 0) iiz iiz (by rw [zOS];simp only [zYq]) rfl)<|oc zG<|zD) fun a w2 s=> ?_
 refine zA rfl ?_
 refine zYa ?_
 refine wpIn_label ?_
 refine zYa ?_
 refine zYa ?_
 refine zB 3 ((11,.u (wB l))::(12,.u (uI ((pvs m ps).length:Int)))::(13,.u (uI 0)):: []) hmix s kI
  (oc zC<|oc (yW (z:=6) (Cs:=pvs m ps) kI (fun v W hb h=>(yU hl h (s.up hb))) (fun _=>rfl))<|oc zC<|zD) fun a w3 s=> ?_
 refine zA rfl ?_
 refine zYd ?_
 refine zAZ (fun k=>k<=ps.length) (fun k=> [(0,.u (wB l)),(11,.u (wB l)),(12,.u (uI ((pvs m ps).length:Int))),(13,.u (uI ((k:Nat):Int))),(5,.u (uB (inK ps p k)))]) (fun k=>ps.length - k) (0:Nat) (zYj _) (s.keepK _ (fmz ⟨mz5,fmz ⟨.head _,fmz ⟨mz1,fmz ⟨mz2,fmz ⟨mz3,fnz⟩⟩⟩⟩⟩)) fun k a w hx s=> ?_
 have hlz:(pvs m ps).length=ps.length:=by simp
 refine zYa ?_
 refine zB 1 ((14,.u (uB (ltz k ((pvs m ps).length)))):: []) hmix s kI
  (oc (zR .i64 (k:Int) ((pvs m ps).length:Int) (ltz k ((pvs m ps).length)) iiz iiz rfl rfl)<|zD) fun a w4 s=> ?_
 refine zA rfl ?_
 refine zYa ?_
 refine StS.cond s (ltz k ((pvs m ps).length)) iiz (fun e=> ?_) (fun e=> ?_)
 ·have hk:k<ps.length:=by have h7:=zYg e;rw [hlz] at h7;omega
  have hni:((k+1) % ps.length)<ps.length:=Nat.mod_lt _ oP
  refine zYb ?_
  refine zYa ?_
  refine zYd ?_
  refine zYa ?_
  refine zB 3 ((15,.u (uI (k:Int)))::(16,.Y (fPV m (at_ ps k)))::(17,.u (fPV m (at_ ps k))):: []) hmix s kI
   (oc zC<|oc (yL (z:=6) (Cs:=pvs m ps) (i:=k) (C:=wC (fPV m (at_ ps k))) kI (qI hk) (fun v W hb h=>(yU hl h (s.up hb))) iiz)<|oc (zJ (f:=fPV m (at_ ps k)) 6 kI (hz:=zO _ _))<|zD) fun a w5 s=> ?_
  refine zZ (CU.len 6) (cs:=zP6) kI rfl s kI (fun W=>rfl) rfl fun b7 a w s=> ?_
  refine yP (uI (k:Int)) rfl s kI iiz fun a w s=> ?_
  refine zS (wC (fPV m (at_ ps k))) ((fPV m (at_ ps k)).tS) rfl s kI rfl rfl rfl iiz iiz yV fun a w s=> ?_
  refine zA rfl ?_
  refine zYa ?_
  refine zE5 (K:= [(6,.u (uI (k:Int))),(15,.u (uI (k:Int))),(17,.u (fPV m (at_ ps k))),(14,.u (uB (ltz k ((pvs m ps).length)))),(0,.u (wB l)),(11,.u (wB l)),(12,.u (uI ((pvs m ps).length:Int))),(13,.u (uI (k:Int)))]) [(5,.u (uB (inK ps p k)))] [0] 15 ((18,.Z (uB (inK ps p k)))::(19,.Z (uB (inK ps p k)))::(20,.s (SF.imp ((inK ps p k)=true) ((fPV m (at_ ps k)).tS)))::(21,.s (SF.imp ((inK ps p k)=true) ((wB l).tS)))::(22,.s (SF.imp ((inK ps p k)=true) ((uI (k:Int)).tS)))::(23,.s (SF.imp ((inK ps p k)=true) ((uI ((k+1:Nat):Int)).tS)))::(24,.s (SF.imp ((inK ps p k)=true) ((wB l).tS)))::(25,.s (SF.imp ((inK ps p k)=true) ((uI ((pvs m ps).length:Int)).tS)))::(26,.s (SF.imp ((inK ps p k)=true) ((uI ((((k+1) % ps.length):Nat):Int)).tS)))::(27,.s (SF.imp ((inK ps p k)=true) (wE (cg (fPV m (tn ps k))))))::(28,.s (SF.imp ((inK ps p k)=true) ((fPV m (tn ps k)).tS)))::(29,.s (SF.imp ((inK ps p k)=true) ((fPV m p).tS)))::(30,.s (SF.imp ((inK ps p k)=true) ((uI (yQ (at_ ps k) (tn ps k) p)).tS)))::(31,.s (SF.imp ((inK ps p k)=true) ((uB (yQ (at_ ps k) (tn ps k) p==1)).tS)))::(32,.u (uB ((inK ps p k)&&(yQ (at_ ps k) (tn ps k) p==1)))):: []) hmix (s.keepK _ (fmz ⟨mz8,fmz ⟨.head _,fmz ⟨mz1,fmz ⟨mz2,fmz ⟨mz3,fmz ⟨mz4,fmz ⟨mz5,fmz ⟨mz6,fmz ⟨mz7,fnz⟩⟩⟩⟩⟩⟩⟩⟩⟩)) kI
   (oc zC<|oc zC<|oc (zF 19 (inK ps p k) kI iiz (fun e=>zQ [] ((fPV m (at_ ps k)).tS) fnz fP kI (zJ (f:=fPV m (at_ ps k)) 6 kI (hz:=zO _ _))) fO)<|oc (zF 19 (inK ps p k) kI iiz (fun e=>zQ [] ((wB l).tS) fnz fP kI zC) fO)<|oc (zF 19 (inK ps p k) kI iiz (fun e=>zQ [] ((uI (k:Int)).tS) fnz fP kI zC) fO)<|oc (zF 19 (inK ps p k) kI iiz (fun e=>zQ [(22,(uI (k:Int)).tS)] ((uI ((k+1:Nat):Int)).tS) (fmz ⟨fun v W h=>zK (c:=(inK ps p k)=true) (f:=(uI (k:Int)).tS) e h,fnz⟩) fP kI (yM .i64 (k:Int) 1 ((k+1:Nat):Int) iiz iiz (by rw [zYn];omega))) fO)<|oc (zF 19 (inK ps p k) kI iiz (fun e=>zQ [] ((wB l).tS) fnz fP kI zC) fO)<|oc (zF 19 (inK ps p k) kI iiz (fun e=>zQ [(24,(wB l).tS)] ((uI ((pvs m ps).length:Int)).tS) (fmz ⟨fun v W h=>zK (c:=(inK ps p k)=true) (f:=(wB l).tS) e h,fnz⟩) fP kI (yW (z:=6) (Cs:=pvs m ps) kI (fun v W hb h=>(yU hl h (s.up hb))) (fun _=>rfl))) fO)<|oc (zF 19 (inK ps p k) kI iiz (fun e=>zQ [(23,(uI ((k+1:Nat):Int)).tS),(25,(uI ((pvs m ps).length:Int)).tS)] ((uI ((((k+1) % ps.length):Nat):Int)).tS) (fmz ⟨fun v W h=>zK (c:=(inK ps p k)=true) (f:=(uI ((k+1:Nat):Int)).tS) e h,fmz ⟨fun v W h=>zK (c:=(inK ps p k)=true) (f:=(uI ((pvs m ps).length:Int)).tS) e h,fnz⟩⟩) fP kI (zCa .i64 ((k+1:Nat):Int) ((pvs m ps).length:Int) ((((k+1) % ps.length):Nat):Int) iiz iiz oP (by rw [hlz];exact zD9 _ _))) fO)<|oc (zF 19 (inK ps p k) kI iiz (fun e=>zQ [(21,(wB l).tS),(26,(uI ((((k+1) % ps.length):Nat):Int)).tS)] (wE (cg (fPV m (tn ps k)))) (fmz ⟨fun v W h=>zK (c:=(inK ps p k)=true) (f:=(wB l).tS) e h,fmz ⟨fun v W h=>zK (c:=(inK ps p k)=true) (f:=(uI ((((k+1) % ps.length):Nat):Int)).tS) e h,fnz⟩⟩) fP kI (yL (z:=6) (Cs:=pvs m ps) (i:=((k+1) % ps.length)) (C:=wC (fPV m (tn ps k))) kI (qI hni) (fun v W hb h=>(yU hl h (s.up hb))) iiz)) fO)<|oc (zF 19 (inK ps p k) kI iiz (fun e=>zQ [(27,wE (cg (fPV m (tn ps k))))] ((fPV m (tn ps k)).tS) (fmz ⟨fun v W h=>zK (c:=(inK ps p k)=true) (f:=wE (cg (fPV m (tn ps k)))) e h,fnz⟩) fP kI (zJ (f:=fPV m (tn ps k)) 6 kI (hz:=zO _ _))) fO)<|oc (zF 19 (inK ps p k) kI iiz (fun e=>zQ [] ((fPV m p).tS) fnz fP kI (zJ (f:=fPV m p) 6 kI (hz:=zO _ _))) fO)<|oc (zF 19 (inK ps p k) kI iiz (fun e=>zQ [(20,(fPV m (at_ ps k)).tS),(28,(fPV m (tn ps k)).tS),(29,(fPV m p).tS)] ((uI (yQ (at_ ps k) (tn ps k) p)).tS) (fmz ⟨fun v W h=>zK (c:=(inK ps p k)=true) (f:=(fPV m (at_ ps k)).tS) e h,fmz ⟨fun v W h=>zK (c:=(inK ps p k)=true) (f:=(fPV m (tn ps k)).tS) e h,fmz ⟨fun v W h=>zK (c:=(inK ps p k)=true) (f:=(fPV m p).tS) e h,fnz⟩⟩⟩) fP kI (jF zE zVG (fun u0 u1 u2 W hb (h0:(fPV m (at_ ps k)).p u0 W) (h1:(fPV m (tn ps k)).p u1 W) (h2:(fPV m p).p u2 W)=>zQ3 (m:=m) h0 h1 h2 hm hm0 (hT.below (s.up hb))))) fO)<|oc (zF 19 (inK ps p k) kI iiz (fun e=>zQ [(30,(uI (yQ (at_ ps k) (tn ps k) p)).tS)] ((uB (yQ (at_ ps k) (tn ps k) p==1)).tS) (fmz ⟨fun v W h=>zK (c:=(inK ps p k)=true) (f:=(uI (yQ (at_ ps k) (tn ps k) p)).tS) e h,fnz⟩) fP kI (zR .i64 (yQ (at_ ps k) (tn ps k) p) 1 (yQ (at_ ps k) (tn ps k) p==1) iiz iiz rfl rfl)) fO)<|oc (yJ (inK ps p k) iiz (fun e v W h=>jU (zK e h) e) (fun e v W h=>jD h e))<|zD) fun Q' hQ a w6 s=> ?_
  refine yP (uB (inK ps p (k+1))) rfl s kI (fun _ _ h=>by rw [zOT];exact h) fun a w s=> ?_
  refine zA rfl (hQ _ _ ?_)
  refine zYa ?_
  refine zB 2 ((33,.Z (uB (inK ps p (k+1))))::(34,.u (uB (!(inK ps p (k+1))))):: []) hmix s kI
   (oc zC<|oc (zCy (inK ps p (k+1)) iiz (fun _=>rfl))<|zD) fun a w7 s=> ?_
  refine zA rfl ?_
  refine StS.cond s (!(inK ps p (k+1))) iiz (fun e=> ?_) (fun e=> ?_)
  ·have e5:inK ps p (k+1)=false:=by simpa using e
   refine zYk ?_
   refine zYa ?_
   refine zB 2 ((36,.Z (uB (inK ps p (k+1))))::(4,.u (uB (inK ps p (k+1)))):: []) hmix s kI
    (oc zC<|oc zG<|zD) fun a w8 s=> ?_
   refine zA rfl ?_
   refine zYc ?_
   exact wG s (t:=4) rfl (fun v W h=>by rw [zOU e5 hk];rw [e5] at h;exact h)
  ·refine zYb ?_
   refine zX 1 ((35,.u (uI ((k+1:Nat):Int))):: []) s kI
    (oc (yM .i64 (k:Int) 1 ((k+1:Nat):Int) iiz iiz (wrap64 _ _ oP oP))<|zD) fun a w9 s=> ?_
   replace s:=s.drop [13]
   refine zAS (uI ((k+1:Nat):Int)) rfl s kI zC kI fun a w s=> ?_
   refine zA rfl ?_
   replace s:=s.popB
   exact ⟨k+1,hk,(by show ps.length - (k+1)<ps.length - k;omega),s.keepK _ (fmz ⟨mz9,fmz ⟨zNs,fmz ⟨zWz,fmz ⟨.head _,fmz ⟨mz3,fnz⟩⟩⟩⟩⟩)⟩
 ·have hkN:k=ps.length:=by have h7:=zYh e;rw [hlz] at h7;omega
  subst hkN
  refine zYk ?_
  refine zYa ?_
  refine zB 2 ((36,.Z (uB (inK ps p (ps.length))))::(4,.u (uB (inK ps p (ps.length)))):: []) hmix s kI
   (oc zC<|oc zG<|zD) fun a w10 s=> ?_
  refine zA rfl ?_
  refine zYc ?_
  exact wG s (t:=4) rfl iiz
section
variable {F:Fence} {m:Nat} {P:Program} {w0:Wp} {ops:Array Oper} {G:Nat->SF} {d:Tmp} {ty:Wr} {pos:String} {aft:Array Edge}
theorem qQ {vs:List Wq} {b' o:Nat} {cs':List Wq} {D:CU} (k:Nat) (hk:zDm P t=true) (hx: ∀v W,(fct G x).p v W->(wE ((wC (wB (.agg vs.toArray))).cf.at k)).p v W) (hv:vs[k]?=some (pO b' o))
  (hb':w0.heap[b']?=some (.cells cs'.toArray te (0,0))) (hD:D.p cs' w0) (hd: ∀v W,(wE (D.cf.at o)).p v W->(G d).p v W:=by exact fun _ _ h=>h):qK F m P w0 ops G ⟨some d,.load t x,ty,pos,aft,none⟩:=
 qJ (fun _ e=>by cases e) (fun _ e=>by cases e) fun b W hb hh=>by
  obtain ⟨a,q,cs,e,⟨ds,h2,rfl⟩,h3⟩:=hx _ _ (hh x (by simp [Op.operands]))
  have h4:ds=vs:=by
   have:=congrArg Array.toList (jH h2)
   simpa using this
  subst h4
  have h5:(ds.drop k)[0]?=some (pO b' o):=by rw [List.getElem?_drop];exact hv
  have hm:=(zA0 ((hb.block b' (zYr.1 hb').1).trans hb')).drop o
  rw [Nat.zero_add] at hm
  refine ⟨_,by simp [execOp,Instr.loadAt,e,Instr.sureAddr,zBc hk h3 h5],hd _ _ ⟨b',o,_,rfl,⟨cs',D.us _ _ _ hD (zV hb),rfl⟩,hm⟩⟩
end
theorem zFX (h:BlS S w0 w) (hb:bW w W):BlS S w0 W:=⟨hb.os.trans h.os,hb.tape.trans h.tape,hb.output.trans h.output,zYe h.size hb.size,fun k hk hs=>(hb.block k (zYt hk h.size)).trans (h.block k hk hs)⟩
theorem bG3 (a b c:Ws Addr):prog.built 117 [(0,.pointer a),(1,.pointer b),(2,.pointer c)]=some #[.pointer a,.pointer b,.pointer c]:=by kernel_rfl
theorem bG2 (a b c a' b' c':Ws Addr):prog.built 118 [(0,.agg #[.pointer a,.pointer b,.pointer c]),(1,.agg #[.pointer a',.pointer b',.pointer c'])]=some #[.pointer a,.pointer b,.pointer c,.pointer a',.pointer b',.pointer c']:=by kernel_rfl
theorem zWF (a b c a' b' c':Ws Addr) (W:Wp):(Instr.index 118 (.agg #[.pointer a,.pointer b,.pointer c,.pointer a',.pointer b',.pointer c']) (.int .i64 0)).run prog W= .ok (.agg #[.pointer a,.pointer b,.pointer c]) W:=by kernel_rfl
theorem zWE (a b c a' b' c':Ws Addr) (W:Wp):(Instr.index 118 (.agg #[.pointer a,.pointer b,.pointer c,.pointer a',.pointer b',.pointer c']) (.int .i64 1)).run prog W= .ok (.agg #[.pointer a',.pointer b',.pointer c']) W:=by kernel_rfl
def mnR (lo r:Rat):Rat:=if decide (qsg r lo<0)=true then r else lo
def mxR (hi r:Rat):Rat:=if decide (qsg r hi>0)=true then r else hi
def gLo:Nat->V2->V2->V2
 |0,lo,_=>lo
 |1,lo,p=>(mnR lo.1 p.1,lo.2)
 |_+2,lo,p=>(mnR lo.1 p.1,mnR lo.2 p.2)
def gHi:Nat->V2->V2->V2
 |0,hi,_=>hi
 |1,hi,p=>(mxR hi.1 p.1,hi.2)
 |_+2,hi,p=>(mxR hi.1 p.1,mxR hi.2 p.2)
theorem zQh (e:decide (qsg (p).1 (gLo 0 lo p).1<0)=true):gLo 1 lo p=((p).1,(gLo 0 lo p).2):=by show (mnR lo.1 p.1,lo.2)=(p.1,lo.2);congr 1;exact if_pos e
theorem zQi (e:decide (qsg (p).1 (gLo 0 lo p).1<0)=false):gLo 1 lo p=gLo 0 lo p:=by show (mnR lo.1 p.1,lo.2)=lo;unfold mnR;rw [if_neg (show ¬decide (qsg p.1 lo.1<0)=true from fun h=>by rw [show decide (qsg p.1 lo.1<0)=false from e] at h;cases h)]
theorem zQl (e:decide (qsg (p).1 (gHi 0 hi p).1>0)=true):gHi 1 hi p=((p).1,(gHi 0 hi p).2):=by show (mxR hi.1 p.1,hi.2)=(p.1,hi.2);congr 1;exact if_pos e
theorem zQm (e:decide (qsg (p).1 (gHi 0 hi p).1>0)=false):gHi 1 hi p=gHi 0 hi p:=by show (mxR hi.1 p.1,hi.2)=hi;unfold mxR;rw [if_neg (show ¬decide (qsg p.1 hi.1>0)=true from fun h=>by rw [show decide (qsg p.1 hi.1>0)=false from e] at h;cases h)]
theorem zQf (e:decide (qsg (p).2 (gLo 1 lo p).2<0)=true):gLo 2 lo p=((gLo 1 lo p).1,(p).2):=by show (mnR lo.1 p.1,mnR lo.2 p.2)=(mnR lo.1 p.1,p.2);congr 1;exact if_pos e
theorem zQg (e:decide (qsg (p).2 (gLo 1 lo p).2<0)=false):gLo 2 lo p=gLo 1 lo p:=by show (mnR lo.1 p.1,mnR lo.2 p.2)=(mnR lo.1 p.1,lo.2);congr 1;exact if_neg (fun h=>by rw [show decide (qsg p.2 lo.2<0)=false from e] at h;cases h)
theorem zQj (e:decide (qsg (p).2 (gHi 1 hi p).2>0)=true):gHi 2 hi p=((gHi 1 hi p).1,(p).2):=by show (mxR hi.1 p.1,mxR hi.2 p.2)=(mxR hi.1 p.1,p.2);congr 1;exact if_pos e
theorem zQk (e:decide (qsg (p).2 (gHi 1 hi p).2>0)=false):gHi 2 hi p=gHi 1 hi p:=by show (mxR hi.1 p.1,mxR hi.2 p.2)=(mxR hi.1 p.1,hi.2);congr 1;exact if_neg (fun h=>by rw [show decide (qsg p.2 hi.2>0)=false from e] at h;cases h)
section
variable {f g f' g':UF} {m:Nat} {q:Rat}
theorem zCw (h:(wC (fPR (fPT f g) (fPT f' g'))).p cs W): ∃s A n c A' n' c' s2 B k d B' k' d' t E l e E' l' e' t2 H i j H' i' j',cs= [.bool s,.slice A n c,.slice A' n' c',.bool s2,.slice B k d,.slice B' k' d',.bool t,.slice E l e,.slice E' l' e',.bool t2,.slice H i j,.slice H' i' j']/\f.p (.agg #[.bool s,.slice A n c,.slice A' n' c']) W/\g.p (.agg #[.bool s2,.slice B k d,.slice B' k' d']) W/\f'.p (.agg #[.bool t,.slice E l e,.slice E' l' e']) W/\g'.p (.agg #[.bool t2,.slice H i j,.slice H' i' j']) W:=by
 obtain ⟨a,b,rfl,l1,l2,ha,hb⟩:=zBf h
 obtain ⟨s,A,n,c,A',n',c',s2,B,k,d,B',k',d',e1,g1,g2⟩:=ha
 obtain ⟨t,E,l,e,E',l',e',t2,H,i,j,H',i',j',e2,g3,g4⟩:=hb
 have r1:a=_:=congrArg Array.toList (jH e1)
 have r2:b=_:=congrArg Array.toList (jH e2)
 subst r1 r2
 exact ⟨s,A,n,c,A',n',c',s2,B,k,d,B',k',d',t,E,l,e,E',l',e',t2,H,i,j,H',i',j',rfl,g1,g2,g3,g4⟩
theorem zDs {s:Bool} {A':Ws Addr} {n' c':Nat} {s2:Bool} {B B':Ws Addr} {k' d':Nat} {t:Bool} {E E':Ws Addr} {l l' e e':Nat} {t2:Bool} {H H':Ws Addr} {i' j':Nat} (h1:f.p (.agg #[.bool s,.slice A n c,.slice A' n' c']) W) (h2:g.p (.agg #[.bool s2,.slice B k d,.slice B' k' d']) W) (h3:f'.p (.agg #[.bool t,.slice E l e,.slice E' l' e']) W) (h4:g'.p (.agg #[.bool t2,.slice H i j,.slice H' i' j']) W):(wC (fPR (fPT f g) (fPT f' g'))).p [.bool s,.slice A n c,.slice A' n' c',.bool s2,.slice B k d,.slice B' k' d',.bool t,.slice E l e,.slice E' l' e',.bool t2,.slice H i j,.slice H' i' j'] W:=
 ⟨[.bool s,.slice A n c,.slice A' n' c',.bool s2,.slice B k d,.slice B' k' d'], [.bool t,.slice E l e,.slice E' l' e',.bool t2,.slice H i j,.slice H' i' j'],rfl,⟨s,A,n,c,A',n',c',s2,B,k,d,B',k',d',rfl,h1,h2⟩,⟨t,E,l,e,E',l',e',t2,H,i,j,H',i',j',rfl,h3,h4⟩⟩
theorem zQ1 {b:Nat} {z:Nat×Nat} (hT:Tab W) (hh:W.heap[b]?=some (.cells cs.toArray te z)) (hc:(wC (fPR (fPT f g) (fPT f' g'))).p cs W) (h:BlS (fun q=>q=b) W w):Tab w:=fun j hj=>by
 have hne:0≠b:=fun e=>by
  have h0:=hT 0 dB
  obtain ⟨s,A,n,c,A',n',c',s2,B,k,d,B',k',d',t,E,l,e2,E',l',e',t2,H,i,j',H',i',j'',rfl,_⟩:=zCw hc
  subst e
  unfold World.cell? at h0
  simp only [hh] at h0
  simp at h0
 have hlt:=z4 (hT j hj)
 exact (World.cell?_of_block (h.block _ hlt hne)).trans (hT j hj)
theorem zUM (v:Wq) (W:Wp) (h:(fRV m q).p v W):v.cells.size=3/\(∀u,u∈v.cells.toList->u.oneCell'=true)/\v.cells.toList.all yA=true/\ ∀cs,(wC (fPR (fPT f g) (fPT f' g'))).p cs W->0+3<=cs.length/\(wC (fPR (fPT (fRV m q) g) (fPT f' g'))).p (jV cs 0 v.cells.toList) W:=by
 obtain ⟨kk,dd,h1,h2⟩:=h
 obtain ⟨sg,X,x1,x2,X',x3,x4,rfl⟩:=zBR h1
 refine ⟨rfl,fun u hu=>zBV u hu,rfl,fun cs hc=> ?_⟩
 obtain ⟨s,A,n,c,A',n',c',s2,B,k,d,B',k',d',t,E,l,e,E',l',e',t2,H,i,j,H',i',j',rfl,g1,g2,g3,g4⟩:=zCw hc
 exact ⟨by simp,zDs ⟨kk,dd,h1,h2⟩ g2 g3 g4⟩
theorem zUL (v:Wq) (W:Wp) (h:(fRV m q).p v W):v.cells.size=3/\(∀u,u∈v.cells.toList->u.oneCell'=true)/\v.cells.toList.all yA=true/\ ∀cs,(wC (fPR (fPT f g) (fPT f' g'))).p cs W->3+3<=cs.length/\(wC (fPR (fPT f (fRV m q)) (fPT f' g'))).p (jV cs 3 v.cells.toList) W:=by
 obtain ⟨kk,dd,h1,h2⟩:=h
 obtain ⟨sg,X,x1,x2,X',x3,x4,rfl⟩:=zBR h1
 refine ⟨rfl,fun u hu=>zBV u hu,rfl,fun cs hc=> ?_⟩
 obtain ⟨s,A,n,c,A',n',c',s2,B,k,d,B',k',d',t,E,l,e,E',l',e',t2,H,i,j,H',i',j',rfl,g1,g2,g3,g4⟩:=zCw hc
 exact ⟨by simp,zDs g1 ⟨kk,dd,h1,h2⟩ g3 g4⟩
theorem zSM (v:Wq) (W:Wp) (h:(fRV m q).p v W):v.cells.size=3/\(∀u,u∈v.cells.toList->u.oneCell'=true)/\v.cells.toList.all yA=true/\ ∀cs,(wC (fPR (fPT f g) (fPT f' g'))).p cs W->6+3<=cs.length/\(wC (fPR (fPT f g) (fPT (fRV m q) g'))).p (jV cs 6 v.cells.toList) W:=by
 obtain ⟨kk,dd,h1,h2⟩:=h
 obtain ⟨sg,X,x1,x2,X',x3,x4,rfl⟩:=zBR h1
 refine ⟨rfl,fun u hu=>zBV u hu,rfl,fun cs hc=> ?_⟩
 obtain ⟨s,A,n,c,A',n',c',s2,B,k,d,B',k',d',t,E,l,e,E',l',e',t2,H,i,j,H',i',j',rfl,g1,g2,g3,g4⟩:=zCw hc
 exact ⟨by simp,zDs g1 g2 ⟨kk,dd,h1,h2⟩ g4⟩
theorem zSL (v:Wq) (W:Wp) (h:(fRV m q).p v W):v.cells.size=3/\(∀u,u∈v.cells.toList->u.oneCell'=true)/\v.cells.toList.all yA=true/\ ∀cs,(wC (fPR (fPT f g) (fPT f' g'))).p cs W->9+3<=cs.length/\(wC (fPR (fPT f g) (fPT f' (fRV m q)))).p (jV cs 9 v.cells.toList) W:=by
 obtain ⟨kk,dd,h1,h2⟩:=h
 obtain ⟨sg,X,x1,x2,X',x3,x4,rfl⟩:=zBR h1
 refine ⟨rfl,fun u hu=>zBV u hu,rfl,fun cs hc=> ?_⟩
 obtain ⟨s,A,n,c,A',n',c',s2,B,k,d,B',k',d',t,E,l,e,E',l',e',t2,H,i,j,H',i',j',rfl,g1,g2,g3,g4⟩:=zCw hc
 exact ⟨by simp,zDs g1 g2 g3 ⟨kk,dd,h1,h2⟩⟩
end
theorem zR0 {b:Nat} (hh:W.heap[b]?=some (.cells cs.toArray 47 (0,0))) (hc:(wC (fPR (fPV m lo) (fPV m hi))).p cs W) (h1:(fPV m p).p v W) (hm:m<=2000) (hm0:0<m) (hT:Tab W):Calls prog 59 #[pO b 0,v] W (zKD W b 47 (wC (fPR (fPV m (gLo 2 lo p)) (fPV m (gHi 2 hi p)))) UF.any.tS):=by
 have hTb: ∀w,BlS (fun q=>q=b) W w->Tab w:=fun w h=>zQ1 hT hh hc h
 refine zE0 b [(0,wB (pO b 0)),(1,fPV m p)] [⟨0,47,wC (fPR (fPV m (gLo 0 lo p)) (fPV m (gHi 0 hi p))),b,false⟩] func59 rfl kI (fun x hx=>by simp at hx;rcases hx with rfl|rfl;exact ⟨by simp,rfl⟩;exact ⟨by simp,h1⟩) ⟨⟨cs,rfl,.inr (.inr rfl),hh,hc,(zKh _ _ hc).2.1,fun y hy=>by cases hy⟩,trivial⟩ (fun x hx=>by simp at hx;subst hx;simp) fun a s=> ?_
 refine zYa ?_
 refine zB 0 [] hmix s kI
  zD fun a w1 s=> ?_
 refine yG (wC (fPV m p)) rfl s kI (fun v W h=>yO h) fun b3 a w s=> ?_
 refine zA rfl ?_
 refine zYa ?_
 refine zB 22 ((6,.Z (wB (pO b 0)))::(7,.Z (wB (pO b 0)))::(8,.Z (wB (pO b 0)))::(9,.Z (wB (pO b 0)))::(10,.Z (wB (pO b 0)))::(11,.Z (wB (pO b 0)))::(12,.Z (wB (pO b 6)))::(13,.Z (wB (pO b 6)))::(14,.Z (wB (pO b3 0)))::(15,.Z (wB (.agg #[pO b 0,pO b 6,pO b3 0])))::(16,.Z (wB (pO b 0)))::(17,.Z (wB (pO b 0)))::(18,.Z (wB (pO b 0)))::(19,.Z (wB (pO b 3)))::(20,.Z (wB (pO b 0)))::(21,.Z (wB (pO b 0)))::(22,.Z (wB (pO b 6)))::(23,.Z (wB (pO b 9)))::(24,.Z (wB (pO b3 3)))::(25,.Z (wB (.agg #[pO b 3,pO b 9,pO b3 3])))::(26,.u (wB (.agg #[pO b 0,pO b 6,pO b3 0,pO b 3,pO b 9,pO b3 3])))::(27,.u (uI 0)):: []) hmix s kI
  (oc (zC (fun _ _ _ h=>h.1))<|oc (jZ (a:=⟨b,0,none⟩) iiz)<|oc (y9 (b:=b) (o:=0) 0 kI iiz)<|oc (y9 (b:=b) (o:=0) 0 kI iiz)<|oc (zC (fun _ _ _ h=>h.1))<|oc (jZ (a:=⟨b,0,none⟩) iiz)<|oc (y9 (b:=b) (o:=0) 6 kI iiz)<|oc (y9 (b:=b) (o:=6) 0 kI iiz)<|oc (y9 (b:=b3) (o:=0) 0 kI (fun _ _ h=>h.1))<|oc (zBY (fun u v q W (hu:u= pO b 0) (hv:v= pO b 6) (hq:q= pO b3 0)=>by subst hu hv hq;exact ⟨_,bG3 _ _ _,rfl⟩))<|oc (zC (fun _ _ _ h=>h.1))<|oc (jZ (a:=⟨b,0,none⟩) iiz)<|oc (y9 (b:=b) (o:=0) 0 kI iiz)<|oc (y9 (b:=b) (o:=0) 3 kI iiz)<|oc (zC (fun _ _ _ h=>h.1))<|oc (jZ (a:=⟨b,0,none⟩) iiz)<|oc (y9 (b:=b) (o:=0) 6 kI iiz)<|oc (y9 (b:=b) (o:=6) 3 kI iiz)<|oc (y9 (b:=b3) (o:=0) 3 kI (fun _ _ h=>h.1))<|oc (zBY (fun u v q W (hu:u= pO b 3) (hv:v= pO b 9) (hq:q= pO b3 3)=>by subst hu hv hq;exact ⟨_,bG3 _ _ _,rfl⟩))<|oc (y6 (fun u v W (hu:u= .agg #[pO b 0,pO b 6,pO b3 0]) (hv:v= .agg #[pO b 3,pO b 9,pO b3 3])=>by subst hu hv;exact ⟨_,bG2 _ _ _ _ _ _,rfl⟩))<|oc zC<|zD) fun a w2 s=> ?_
 refine zA rfl ?_
 refine zYd ?_
 refine zDv 0 (fun k=>wC (fPR (fPV m (gLo k lo p)) (fPV m (gHi k hi p)))) (fun k=>k<=2) (fun k=> [(26,.u (wB (.agg #[pO b 0,pO b 6,pO b3 0,pO b 3,pO b 9,pO b3 3]))),(27,.u (uI ((k:Nat):Int)))]) (fun k=>2 - k) (0:Nat) (zYj _) (s.keepK _ (fmz ⟨.head _,fmz ⟨mz1,fnz⟩⟩)) rfl fun k a w hx s=> ?_
 refine zYa ?_
 refine zB 1 ((28,.u (uB (decide ((k:Int)<2)))):: []) hmix s kI
  (oc (zR .i64 (k:Int) 2 (decide ((k:Int)<2)) iiz iiz rfl rfl)<|zD) fun a w3 s=> ?_
 refine zA rfl ?_
 refine zYa ?_
 refine StS.cond s (decide ((k:Int)<2)) iiz (fun e=> ?_) (fun e=> ?_)
 ·refine zYb ?_
  refine zYa ?_
  refine zYd ?_
  refine zYa ?_
  rcases (show k=0∨k=1 by have:=zYg e;omega) with rfl|rfl
  ·refine zB 1 ((29,.u (wB (.agg #[pO b 0,pO b 6,pO b3 0]))):: []) hmix s kI
    (oc (zL2 (.agg #[pO b 0,pO b 6,pO b3 0,pO b 3,pO b 9,pO b3 3]) (.int .i64 0) (.agg #[pO b 0,pO b 6,pO b3 0]) iiz iiz (fun W=>zWF _ _ _ _ _ _ W))<|zD) fun a w4 s=> ?_
   refine zZ (CU.len 3) (cs:= [.pointer none,.pointer none,.pointer none]) kI rfl s kI (fun W=>rfl) rfl fun b5 a w s=> ?_
   refine zS (wC (wB (.agg #[pO b 0,pO b 6,pO b3 0]))) ((wB (.agg #[pO b 0,pO b 6,pO b3 0])).tS) rfl s kI rfl rfl rfl iiz iiz (zHY (vs:= [pO b 0,pO b 6,pO b3 0]) rfl (by intro u hu;simp at hu;rcases hu with rfl|rfl|rfl<;>rfl) rfl) fun a w s=> ?_
   refine zA rfl ?_
   refine zYa ?_
   refine zYa ?_
   obtain ⟨cs0,hh0,hc0,_⟩:=s.boxAt (c:=0) rfl
   obtain ⟨cs3,hh3,hc3,_⟩:=s.boxAt (c:=3) rfl
   refine zB 10 ((30,.X (wB (.agg #[pO b 0,pO b 6,pO b3 0])) 2)::(31,.X (fPV m p) 0)::(32,.X (fPV m p) 0)::(33,.Z (fRV m ((p).1)))::(34,.X (wB (.agg #[pO b 0,pO b 6,pO b3 0])) 0)::(35,.X (fPR (fPV m (gLo 0 lo p)) (fPV m (gHi 0 hi p))) 0)::(36,.X (fPR (fPV m (gLo 0 lo p)) (fPV m (gHi 0 hi p))) 0)::(37,.Z (fRV m ((gLo 0 lo p).1)))::(38,.Z (uI (qsg (p).1 (gLo 0 lo p).1)))::(39,.u (uB (decide (qsg (p).1 (gLo 0 lo p).1<0)))):: []) hmix s kI
    (oc (zL (C:=cg (wB (.agg #[pO b 0,pO b 6,pO b3 0]))) 2 kI)<|oc (qQ (vs:= [pO b 0,pO b 6,pO b3 0]) (b':=b3) (o:=0) (D:=wC (fPV m p)) 2 kI iiz rfl hh3 hc3)<|oc (qC (C:=((wC (fPV m p)).cf.at 0)))<|oc (zT (C:=cg (fPV m p)) (k:=0) 3 kI (h:=zC6))<|oc (zL (C:=cg (wB (.agg #[pO b 0,pO b 6,pO b3 0]))) 0 kI)<|oc (qQ (vs:= [pO b 0,pO b 6,pO b3 0]) (b':=b) (o:=0) (D:=wC (fPR (fPV m (gLo 0 lo p)) (fPV m (gHi 0 hi p)))) 0 kI iiz rfl hh0 hc0)<|oc (qC (C:=((wC (fPR (fPV m (gLo 0 lo p)) (fPV m (gHi 0 hi p)))).cf.at 0)))<|oc (zT (C:=cg (fPR (fPV m (gLo 0 lo p)) (fPV m (gHi 0 hi p)))) (k:=0) 3 kI (h:=zUX))<|oc (zI zE zHM (fun u0 u1 W hb (h0:RVp m ((p).1) u0 W) (h1:RVp m ((gLo 0 lo p).1) u1 W)=>zEn h0 h1 hm hm0 (hTb _ (zFX s.gr hb))))<|oc (zR .i64 (qsg (p).1 (gLo 0 lo p).1) 0 (decide (qsg (p).1 (gLo 0 lo p).1<0)) iiz iiz rfl rfl)<|zD) fun a w5 s=> ?_
   refine zA rfl ?_
   refine StS.cond s (decide (qsg (p).1 (gLo 0 lo p).1<0)) iiz (fun e=> ?_) (fun e=> ?_)
   ·have eLo:=e
    obtain ⟨cs0,hh0,hc0,_⟩:=s.boxAt (c:=0) rfl
    obtain ⟨cs3,hh3,hc3,_⟩:=s.boxAt (c:=3) rfl
    refine z9 [] 7 ((40,.X (wB (.agg #[pO b 0,pO b 6,pO b3 0])) 0)::(41,.Z (wB (pO b 0)))::(42,.X (wB (.agg #[pO b 0,pO b 6,pO b3 0])) 2)::(43,.X (fPV m p) 0)::(44,.X (fPV m p) 0)::(45,.u (fRV m ((p).1)))::(46,.u (wB (pO b 0))):: []) hmix s kI
     (oc (zL (C:=cg (wB (.agg #[pO b 0,pO b 6,pO b3 0]))) 0 kI)<|oc (jE (C:=cg (wB (.agg #[pO b 0,pO b 6,pO b3 0]))) (k:=0) kI (h:=zEm (vs:= [pO b 0,pO b 6,pO b3 0]) rfl))<|oc (zL (C:=cg (wB (.agg #[pO b 0,pO b 6,pO b3 0]))) 2 kI)<|oc (qQ (vs:= [pO b 0,pO b 6,pO b3 0]) (b':=b3) (o:=0) (D:=wC (fPV m p)) 2 kI iiz rfl hh3 hc3)<|oc (qC (C:=((wC (fPV m p)).cf.at 0)))<|oc (zT (C:=cg (fPV m p)) (k:=0) 3 kI (h:=zC6))<|oc (jZ (a:=⟨b,0,none⟩) iiz)<|zD) fun Q' hQ a w6 s=> ?_
    refine q6 (c:=0) (o:=0) (kk:=3) (wC (fPR (fPV m ((p).1,(gLo 0 lo p).2)) (fPV m (gHi 0 hi p)))) ((fRV m ((p).1)).tS) rfl s kI rfl rfl iiz iiz zUM fun a w s=> ?_
    refine zA rfl (hQ _ _ ?_)
    refine zYa ?_
    obtain ⟨cs0,hh0,hc0,_⟩:=s.boxAt (c:=0) rfl
    obtain ⟨cs3,hh3,hc3,_⟩:=s.boxAt (c:=3) rfl
    refine zB 10 ((47,.X (wB (.agg #[pO b 0,pO b 6,pO b3 0])) 2)::(48,.X (fPV m p) 0)::(49,.X (fPV m p) 0)::(50,.Z (fRV m ((p).1)))::(51,.X (wB (.agg #[pO b 0,pO b 6,pO b3 0])) 1)::(52,.X (fPR (fPV m ((p).1,(gLo 0 lo p).2)) (fPV m (gHi 0 hi p))) 6)::(53,.X (fPR (fPV m ((p).1,(gLo 0 lo p).2)) (fPV m (gHi 0 hi p))) 6)::(54,.Z (fRV m ((gHi 0 hi p).1)))::(55,.Z (uI (qsg (p).1 (gHi 0 hi p).1)))::(56,.u (uB (decide (qsg (p).1 (gHi 0 hi p).1>0)))):: []) hmix s kI
     (oc (zL (C:=cg (wB (.agg #[pO b 0,pO b 6,pO b3 0]))) 2 kI)<|oc (qQ (vs:= [pO b 0,pO b 6,pO b3 0]) (b':=b3) (o:=0) (D:=wC (fPV m p)) 2 kI iiz rfl hh3 hc3)<|oc (qC (C:=((wC (fPV m p)).cf.at 0)))<|oc (zT (C:=cg (fPV m p)) (k:=0) 3 kI (h:=zC6))<|oc (zL (C:=cg (wB (.agg #[pO b 0,pO b 6,pO b3 0]))) 1 kI)<|oc (qQ (vs:= [pO b 0,pO b 6,pO b3 0]) (b':=b) (o:=6) (D:=wC (fPR (fPV m ((p).1,(gLo 0 lo p).2)) (fPV m (gHi 0 hi p)))) 1 kI iiz rfl hh0 hc0)<|oc (qC (C:=((wC (fPR (fPV m ((p).1,(gLo 0 lo p).2)) (fPV m (gHi 0 hi p)))).cf.at 6)))<|oc (zT (C:=cg (fPR (fPV m ((p).1,(gLo 0 lo p).2)) (fPV m (gHi 0 hi p)))) (k:=6) 3 kI (h:=zTl))<|oc (zI zE zHM (fun u0 u1 W hb (h0:RVp m ((p).1) u0 W) (h1:RVp m ((gHi 0 hi p).1) u1 W)=>zEn h0 h1 hm hm0 (hTb _ (zFX s.gr hb))))<|oc (zR .i64 (qsg (p).1 (gHi 0 hi p).1) 0 (decide (qsg (p).1 (gHi 0 hi p).1>0)) iiz iiz rfl rfl)<|zD) fun a w7 s=> ?_
    refine zA rfl ?_
    refine StS.cond s (decide (qsg (p).1 (gHi 0 hi p).1>0)) iiz (fun e=> ?_) (fun e=> ?_)
    ·have eHi:=e
     obtain ⟨cs0,hh0,hc0,_⟩:=s.boxAt (c:=0) rfl
     obtain ⟨cs3,hh3,hc3,_⟩:=s.boxAt (c:=3) rfl
     refine z9 [] 7 ((57,.X (wB (.agg #[pO b 0,pO b 6,pO b3 0])) 1)::(58,.Z (wB (pO b 6)))::(59,.X (wB (.agg #[pO b 0,pO b 6,pO b3 0])) 2)::(60,.X (fPV m p) 0)::(61,.X (fPV m p) 0)::(62,.u (fRV m ((p).1)))::(63,.u (wB (pO b 6))):: []) hmix s kI
      (oc (zL (C:=cg (wB (.agg #[pO b 0,pO b 6,pO b3 0]))) 1 kI)<|oc (jE (C:=cg (wB (.agg #[pO b 0,pO b 6,pO b3 0]))) (k:=1) kI (h:=zEm (vs:= [pO b 0,pO b 6,pO b3 0]) rfl))<|oc (zL (C:=cg (wB (.agg #[pO b 0,pO b 6,pO b3 0]))) 2 kI)<|oc (qQ (vs:= [pO b 0,pO b 6,pO b3 0]) (b':=b3) (o:=0) (D:=wC (fPV m p)) 2 kI iiz rfl hh3 hc3)<|oc (qC (C:=((wC (fPV m p)).cf.at 0)))<|oc (zT (C:=cg (fPV m p)) (k:=0) 3 kI (h:=zC6))<|oc (jZ (a:=⟨b,6,none⟩) iiz)<|zD) fun Q' hQ a w8 s=> ?_
     refine q6 (c:=0) (o:=6) (kk:=3) (wC (fPR (fPV m ((p).1,(gLo 0 lo p).2)) (fPV m ((p).1,(gHi 0 hi p).2)))) ((fRV m ((p).1)).tS) rfl s kI rfl rfl iiz iiz zSM fun a w s=> ?_
     refine zA rfl (hQ _ _ ?_)
     refine zX 1 ((64,.u (uI ((0+1:Nat):Int))):: []) s kI
      (oc (yM .i64 ((0:Nat):Int) 1 ((0+1:Nat):Int) iiz iiz (wrap64 _ _ oP oP))<|zD) fun a w9 s=> ?_
     replace s:=s.drop [27]
     refine zAS (uI ((0+1:Nat):Int)) rfl s kI zC kI fun a w s=> ?_
     refine zA rfl ?_
     rw [<-zQh eLo] at s
     rw [<-zQl eHi] at s
     replace s:=s.popB
     exact ⟨(0+1),dB,dB,s.keepK _ (fmz ⟨zNs,fmz ⟨.head _,fnz⟩⟩)⟩
    ·have eHi:=e
     refine zYb ?_
     refine zX 1 ((64,.u (uI ((0+1:Nat):Int))):: []) s kI
      (oc (yM .i64 ((0:Nat):Int) 1 ((0+1:Nat):Int) iiz iiz (wrap64 _ _ oP oP))<|zD) fun a w10 s=> ?_
     replace s:=s.drop [27]
     refine zAS (uI ((0+1:Nat):Int)) rfl s kI zC kI fun a w s=> ?_
     refine zA rfl ?_
     rw [<-zQh eLo] at s
     rw [<-zQm eHi] at s
     replace s:=s.popB
     exact ⟨(0+1),dB,dB,s.keepK _ (fmz ⟨mz8,fmz ⟨.head _,fnz⟩⟩)⟩
   ·have eLo:=e
    refine zYb ?_
    refine zYa ?_
    obtain ⟨cs0,hh0,hc0,_⟩:=s.boxAt (c:=0) rfl
    obtain ⟨cs3,hh3,hc3,_⟩:=s.boxAt (c:=3) rfl
    refine zB 10 ((47,.X (wB (.agg #[pO b 0,pO b 6,pO b3 0])) 2)::(48,.X (fPV m p) 0)::(49,.X (fPV m p) 0)::(50,.Z (fRV m ((p).1)))::(51,.X (wB (.agg #[pO b 0,pO b 6,pO b3 0])) 1)::(52,.X (fPR (fPV m (gLo 0 lo p)) (fPV m (gHi 0 hi p))) 6)::(53,.X (fPR (fPV m (gLo 0 lo p)) (fPV m (gHi 0 hi p))) 6)::(54,.Z (fRV m ((gHi 0 hi p).1)))::(55,.Z (uI (qsg (p).1 (gHi 0 hi p).1)))::(56,.u (uB (decide (qsg (p).1 (gHi 0 hi p).1>0)))):: []) hmix s kI
     (oc (zL (C:=cg (wB (.agg #[pO b 0,pO b 6,pO b3 0]))) 2 kI)<|oc (qQ (vs:= [pO b 0,pO b 6,pO b3 0]) (b':=b3) (o:=0) (D:=wC (fPV m p)) 2 kI iiz rfl hh3 hc3)<|oc (qC (C:=((wC (fPV m p)).cf.at 0)))<|oc (zT (C:=cg (fPV m p)) (k:=0) 3 kI (h:=zC6))<|oc (zL (C:=cg (wB (.agg #[pO b 0,pO b 6,pO b3 0]))) 1 kI)<|oc (qQ (vs:= [pO b 0,pO b 6,pO b3 0]) (b':=b) (o:=6) (D:=wC (fPR (fPV m (gLo 0 lo p)) (fPV m (gHi 0 hi p)))) 1 kI iiz rfl hh0 hc0)<|oc (qC (C:=((wC (fPR (fPV m (gLo 0 lo p)) (fPV m (gHi 0 hi p)))).cf.at 6)))<|oc (zT (C:=cg (fPR (fPV m (gLo 0 lo p)) (fPV m (gHi 0 hi p)))) (k:=6) 3 kI (h:=zTl))<|oc (zI zE zHM (fun u0 u1 W hb (h0:RVp m ((p).1) u0 W) (h1:RVp m ((gHi 0 hi p).1) u1 W)=>zEn h0 h1 hm hm0 (hTb _ (zFX s.gr hb))))<|oc (zR .i64 (qsg (p).1 (gHi 0 hi p).1) 0 (decide (qsg (p).1 (gHi 0 hi p).1>0)) iiz iiz rfl rfl)<|zD) fun a w11 s=> ?_
    refine zA rfl ?_
    refine StS.cond s (decide (qsg (p).1 (gHi 0 hi p).1>0)) iiz (fun e=> ?_) (fun e=> ?_)
    ·have eHi:=e
     obtain ⟨cs0,hh0,hc0,_⟩:=s.boxAt (c:=0) rfl
     obtain ⟨cs3,hh3,hc3,_⟩:=s.boxAt (c:=3) rfl
     refine z9 [] 7 ((57,.X (wB (.agg #[pO b 0,pO b 6,pO b3 0])) 1)::(58,.Z (wB (pO b 6)))::(59,.X (wB (.agg #[pO b 0,pO b 6,pO b3 0])) 2)::(60,.X (fPV m p) 0)::(61,.X (fPV m p) 0)::(62,.u (fRV m ((p).1)))::(63,.u (wB (pO b 6))):: []) hmix s kI
      (oc (zL (C:=cg (wB (.agg #[pO b 0,pO b 6,pO b3 0]))) 1 kI)<|oc (jE (C:=cg (wB (.agg #[pO b 0,pO b 6,pO b3 0]))) (k:=1) kI (h:=zEm (vs:= [pO b 0,pO b 6,pO b3 0]) rfl))<|oc (zL (C:=cg (wB (.agg #[pO b 0,pO b 6,pO b3 0]))) 2 kI)<|oc (qQ (vs:= [pO b 0,pO b 6,pO b3 0]) (b':=b3) (o:=0) (D:=wC (fPV m p)) 2 kI iiz rfl hh3 hc3)<|oc (qC (C:=((wC (fPV m p)).cf.at 0)))<|oc (zT (C:=cg (fPV m p)) (k:=0) 3 kI (h:=zC6))<|oc (jZ (a:=⟨b,6,none⟩) iiz)<|zD) fun Q' hQ a w12 s=> ?_
     refine q6 (c:=0) (o:=6) (kk:=3) (wC (fPR (fPV m (gLo 0 lo p)) (fPV m ((p).1,(gHi 0 hi p).2)))) ((fRV m ((p).1)).tS) rfl s kI rfl rfl iiz iiz zSM fun a w s=> ?_
     refine zA rfl (hQ _ _ ?_)
     refine zX 1 ((64,.u (uI ((0+1:Nat):Int))):: []) s kI
      (oc (yM .i64 ((0:Nat):Int) 1 ((0+1:Nat):Int) iiz iiz (wrap64 _ _ oP oP))<|zD) fun a w13 s=> ?_
     replace s:=s.drop [27]
     refine zAS (uI ((0+1:Nat):Int)) rfl s kI zC kI fun a w s=> ?_
     refine zA rfl ?_
     rw [<-zQi eLo] at s
     rw [<-zQl eHi] at s
     replace s:=s.popB
     exact ⟨(0+1),dB,dB,s.keepK _ (fmz ⟨mz8,fmz ⟨.head _,fnz⟩⟩)⟩
    ·have eHi:=e
     refine zYb ?_
     refine zX 1 ((64,.u (uI ((0+1:Nat):Int))):: []) s kI
      (oc (yM .i64 ((0:Nat):Int) 1 ((0+1:Nat):Int) iiz iiz (wrap64 _ _ oP oP))<|zD) fun a w14 s=> ?_
     replace s:=s.drop [27]
     refine zAS (uI ((0+1:Nat):Int)) rfl s kI zC kI fun a w s=> ?_
     refine zA rfl ?_
     rw [<-zQi eLo] at s
     rw [<-zQm eHi] at s
     replace s:=s.popB
     exact ⟨(0+1),dB,dB,s.keepK _ (fmz ⟨mz6,fmz ⟨.head _,fnz⟩⟩)⟩
  ·refine zB 1 ((29,.u (wB (.agg #[pO b 3,pO b 9,pO b3 3]))):: []) hmix s kI
    (oc (zL2 (.agg #[pO b 0,pO b 6,pO b3 0,pO b 3,pO b 9,pO b3 3]) (.int .i64 1) (.agg #[pO b 3,pO b 9,pO b3 3]) iiz iiz (fun W=>zWE _ _ _ _ _ _ W))<|zD) fun a w15 s=> ?_
   refine zZ (CU.len 3) (cs:= [.pointer none,.pointer none,.pointer none]) kI rfl s kI (fun W=>rfl) rfl fun b5 a w s=> ?_
   refine zS (wC (wB (.agg #[pO b 3,pO b 9,pO b3 3]))) ((wB (.agg #[pO b 3,pO b 9,pO b3 3])).tS) rfl s kI rfl rfl rfl iiz iiz (zHY (vs:= [pO b 3,pO b 9,pO b3 3]) rfl (by intro u hu;simp at hu;rcases hu with rfl|rfl|rfl<;>rfl) rfl) fun a w s=> ?_
   refine zA rfl ?_
   refine zYa ?_
   refine zYa ?_
   obtain ⟨cs0,hh0,hc0,_⟩:=s.boxAt (c:=0) rfl
   obtain ⟨cs3,hh3,hc3,_⟩:=s.boxAt (c:=3) rfl
   refine zB 10 ((30,.X (wB (.agg #[pO b 3,pO b 9,pO b3 3])) 2)::(31,.X (fPV m p) 3)::(32,.X (fPV m p) 3)::(33,.Z (fRV m ((p).2)))::(34,.X (wB (.agg #[pO b 3,pO b 9,pO b3 3])) 0)::(35,.X (fPR (fPV m (gLo 1 lo p)) (fPV m (gHi 1 hi p))) 3)::(36,.X (fPR (fPV m (gLo 1 lo p)) (fPV m (gHi 1 hi p))) 3)::(37,.Z (fRV m ((gLo 1 lo p).2)))::(38,.Z (uI (qsg (p).2 (gLo 1 lo p).2)))::(39,.u (uB (decide (qsg (p).2 (gLo 1 lo p).2<0)))):: []) hmix s kI
    (oc (zL (C:=cg (wB (.agg #[pO b 3,pO b 9,pO b3 3]))) 2 kI)<|oc (qQ (vs:= [pO b 3,pO b 9,pO b3 3]) (b':=b3) (o:=3) (D:=wC (fPV m p)) 2 kI iiz rfl hh3 hc3)<|oc (qC (C:=((wC (fPV m p)).cf.at 3)))<|oc (zT (C:=cg (fPV m p)) (k:=3) 3 kI (h:=zCj))<|oc (zL (C:=cg (wB (.agg #[pO b 3,pO b 9,pO b3 3]))) 0 kI)<|oc (qQ (vs:= [pO b 3,pO b 9,pO b3 3]) (b':=b) (o:=3) (D:=wC (fPR (fPV m (gLo 1 lo p)) (fPV m (gHi 1 hi p)))) 0 kI iiz rfl hh0 hc0)<|oc (qC (C:=((wC (fPR (fPV m (gLo 1 lo p)) (fPV m (gHi 1 hi p)))).cf.at 3)))<|oc (zT (C:=cg (fPR (fPV m (gLo 1 lo p)) (fPV m (gHi 1 hi p)))) (k:=3) 3 kI (h:=zUW))<|oc (zI zE zHM (fun u0 u1 W hb (h0:RVp m ((p).2) u0 W) (h1:RVp m ((gLo 1 lo p).2) u1 W)=>zEn h0 h1 hm hm0 (hTb _ (zFX s.gr hb))))<|oc (zR .i64 (qsg (p).2 (gLo 1 lo p).2) 0 (decide (qsg (p).2 (gLo 1 lo p).2<0)) iiz iiz rfl rfl)<|zD) fun a w16 s=> ?_
   refine zA rfl ?_
   refine StS.cond s (decide (qsg (p).2 (gLo 1 lo p).2<0)) iiz (fun e=> ?_) (fun e=> ?_)
   ·have eLo:=e
    obtain ⟨cs0,hh0,hc0,_⟩:=s.boxAt (c:=0) rfl
    obtain ⟨cs3,hh3,hc3,_⟩:=s.boxAt (c:=3) rfl
    refine z9 [] 7 ((40,.X (wB (.agg #[pO b 3,pO b 9,pO b3 3])) 0)::(41,.Z (wB (pO b 3)))::(42,.X (wB (.agg #[pO b 3,pO b 9,pO b3 3])) 2)::(43,.X (fPV m p) 3)::(44,.X (fPV m p) 3)::(45,.u (fRV m ((p).2)))::(46,.u (wB (pO b 3))):: []) hmix s kI
     (oc (zL (C:=cg (wB (.agg #[pO b 3,pO b 9,pO b3 3]))) 0 kI)<|oc (jE (C:=cg (wB (.agg #[pO b 3,pO b 9,pO b3 3]))) (k:=0) kI (h:=zEm (vs:= [pO b 3,pO b 9,pO b3 3]) rfl))<|oc (zL (C:=cg (wB (.agg #[pO b 3,pO b 9,pO b3 3]))) 2 kI)<|oc (qQ (vs:= [pO b 3,pO b 9,pO b3 3]) (b':=b3) (o:=3) (D:=wC (fPV m p)) 2 kI iiz rfl hh3 hc3)<|oc (qC (C:=((wC (fPV m p)).cf.at 3)))<|oc (zT (C:=cg (fPV m p)) (k:=3) 3 kI (h:=zCj))<|oc (jZ (a:=⟨b,3,none⟩) iiz)<|zD) fun Q' hQ a w17 s=> ?_
    refine q6 (c:=0) (o:=3) (kk:=3) (wC (fPR (fPV m ((gLo 1 lo p).1,(p).2)) (fPV m (gHi 1 hi p)))) ((fRV m ((p).2)).tS) rfl s kI rfl rfl iiz iiz zUL fun a w s=> ?_
    refine zA rfl (hQ _ _ ?_)
    refine zYa ?_
    obtain ⟨cs0,hh0,hc0,_⟩:=s.boxAt (c:=0) rfl
    obtain ⟨cs3,hh3,hc3,_⟩:=s.boxAt (c:=3) rfl
    refine zB 10 ((47,.X (wB (.agg #[pO b 3,pO b 9,pO b3 3])) 2)::(48,.X (fPV m p) 3)::(49,.X (fPV m p) 3)::(50,.Z (fRV m ((p).2)))::(51,.X (wB (.agg #[pO b 3,pO b 9,pO b3 3])) 1)::(52,.X (fPR (fPV m ((gLo 1 lo p).1,(p).2)) (fPV m (gHi 1 hi p))) 9)::(53,.X (fPR (fPV m ((gLo 1 lo p).1,(p).2)) (fPV m (gHi 1 hi p))) 9)::(54,.Z (fRV m ((gHi 1 hi p).2)))::(55,.Z (uI (qsg (p).2 (gHi 1 hi p).2)))::(56,.u (uB (decide (qsg (p).2 (gHi 1 hi p).2>0)))):: []) hmix s kI
     (oc (zL (C:=cg (wB (.agg #[pO b 3,pO b 9,pO b3 3]))) 2 kI)<|oc (qQ (vs:= [pO b 3,pO b 9,pO b3 3]) (b':=b3) (o:=3) (D:=wC (fPV m p)) 2 kI iiz rfl hh3 hc3)<|oc (qC (C:=((wC (fPV m p)).cf.at 3)))<|oc (zT (C:=cg (fPV m p)) (k:=3) 3 kI (h:=zCj))<|oc (zL (C:=cg (wB (.agg #[pO b 3,pO b 9,pO b3 3]))) 1 kI)<|oc (qQ (vs:= [pO b 3,pO b 9,pO b3 3]) (b':=b) (o:=9) (D:=wC (fPR (fPV m ((gLo 1 lo p).1,(p).2)) (fPV m (gHi 1 hi p)))) 1 kI iiz rfl hh0 hc0)<|oc (qC (C:=((wC (fPR (fPV m ((gLo 1 lo p).1,(p).2)) (fPV m (gHi 1 hi p)))).cf.at 9)))<|oc (zT (C:=cg (fPR (fPV m ((gLo 1 lo p).1,(p).2)) (fPV m (gHi 1 hi p)))) (k:=9) 3 kI (h:=zTk))<|oc (zI zE zHM (fun u0 u1 W hb (h0:RVp m ((p).2) u0 W) (h1:RVp m ((gHi 1 hi p).2) u1 W)=>zEn h0 h1 hm hm0 (hTb _ (zFX s.gr hb))))<|oc (zR .i64 (qsg (p).2 (gHi 1 hi p).2) 0 (decide (qsg (p).2 (gHi 1 hi p).2>0)) iiz iiz rfl rfl)<|zD) fun a w18 s=> ?_
    refine zA rfl ?_
    refine StS.cond s (decide (qsg (p).2 (gHi 1 hi p).2>0)) iiz (fun e=> ?_) (fun e=> ?_)
    ·have eHi:=e
     obtain ⟨cs0,hh0,hc0,_⟩:=s.boxAt (c:=0) rfl
     obtain ⟨cs3,hh3,hc3,_⟩:=s.boxAt (c:=3) rfl
     refine z9 [] 7 ((57,.X (wB (.agg #[pO b 3,pO b 9,pO b3 3])) 1)::(58,.Z (wB (pO b 9)))::(59,.X (wB (.agg #[pO b 3,pO b 9,pO b3 3])) 2)::(60,.X (fPV m p) 3)::(61,.X (fPV m p) 3)::(62,.u (fRV m ((p).2)))::(63,.u (wB (pO b 9))):: []) hmix s kI
      (oc (zL (C:=cg (wB (.agg #[pO b 3,pO b 9,pO b3 3]))) 1 kI)<|oc (jE (C:=cg (wB (.agg #[pO b 3,pO b 9,pO b3 3]))) (k:=1) kI (h:=zEm (vs:= [pO b 3,pO b 9,pO b3 3]) rfl))<|oc (zL (C:=cg (wB (.agg #[pO b 3,pO b 9,pO b3 3]))) 2 kI)<|oc (qQ (vs:= [pO b 3,pO b 9,pO b3 3]) (b':=b3) (o:=3) (D:=wC (fPV m p)) 2 kI iiz rfl hh3 hc3)<|oc (qC (C:=((wC (fPV m p)).cf.at 3)))<|oc (zT (C:=cg (fPV m p)) (k:=3) 3 kI (h:=zCj))<|oc (jZ (a:=⟨b,9,none⟩) iiz)<|zD) fun Q' hQ a w19 s=> ?_
     refine q6 (c:=0) (o:=9) (kk:=3) (wC (fPR (fPV m ((gLo 1 lo p).1,(p).2)) (fPV m ((gHi 1 hi p).1,(p).2)))) ((fRV m ((p).2)).tS) rfl s kI rfl rfl iiz iiz zSL fun a w s=> ?_
     refine zA rfl (hQ _ _ ?_)
     refine zX 1 ((64,.u (uI ((1+1:Nat):Int))):: []) s kI
      (oc (yM .i64 ((1:Nat):Int) 1 ((1+1:Nat):Int) iiz iiz (wrap64 _ _ oP oP))<|zD) fun a w20 s=> ?_
     replace s:=s.drop [27]
     refine zAS (uI ((1+1:Nat):Int)) rfl s kI zC kI fun a w s=> ?_
     refine zA rfl ?_
     rw [<-zQf eLo] at s
     rw [<-zQj eHi] at s
     replace s:=s.popB
     exact ⟨(1+1),dB,dB,s.keepK _ (fmz ⟨zNs,fmz ⟨.head _,fnz⟩⟩)⟩
    ·have eHi:=e
     refine zYb ?_
     refine zX 1 ((64,.u (uI ((1+1:Nat):Int))):: []) s kI
      (oc (yM .i64 ((1:Nat):Int) 1 ((1+1:Nat):Int) iiz iiz (wrap64 _ _ oP oP))<|zD) fun a w21 s=> ?_
     replace s:=s.drop [27]
     refine zAS (uI ((1+1:Nat):Int)) rfl s kI zC kI fun a w s=> ?_
     refine zA rfl ?_
     rw [<-zQf eLo] at s
     rw [<-zQk eHi] at s
     replace s:=s.popB
     exact ⟨(1+1),dB,dB,s.keepK _ (fmz ⟨mz8,fmz ⟨.head _,fnz⟩⟩)⟩
   ·have eLo:=e
    refine zYb ?_
    refine zYa ?_
    obtain ⟨cs0,hh0,hc0,_⟩:=s.boxAt (c:=0) rfl
    obtain ⟨cs3,hh3,hc3,_⟩:=s.boxAt (c:=3) rfl
    refine zB 10 ((47,.X (wB (.agg #[pO b 3,pO b 9,pO b3 3])) 2)::(48,.X (fPV m p) 3)::(49,.X (fPV m p) 3)::(50,.Z (fRV m ((p).2)))::(51,.X (wB (.agg #[pO b 3,pO b 9,pO b3 3])) 1)::(52,.X (fPR (fPV m (gLo 1 lo p)) (fPV m (gHi 1 hi p))) 9)::(53,.X (fPR (fPV m (gLo 1 lo p)) (fPV m (gHi 1 hi p))) 9)::(54,.Z (fRV m ((gHi 1 hi p).2)))::(55,.Z (uI (qsg (p).2 (gHi 1 hi p).2)))::(56,.u (uB (decide (qsg (p).2 (gHi 1 hi p).2>0)))):: []) hmix s kI
     (oc (zL (C:=cg (wB (.agg #[pO b 3,pO b 9,pO b3 3]))) 2 kI)<|oc (qQ (vs:= [pO b 3,pO b 9,pO b3 3]) (b':=b3) (o:=3) (D:=wC (fPV m p)) 2 kI iiz rfl hh3 hc3)<|oc (qC (C:=((wC (fPV m p)).cf.at 3)))<|oc (zT (C:=cg (fPV m p)) (k:=3) 3 kI (h:=zCj))<|oc (zL (C:=cg (wB (.agg #[pO b 3,pO b 9,pO b3 3]))) 1 kI)<|oc (qQ (vs:= [pO b 3,pO b 9,pO b3 3]) (b':=b) (o:=9) (D:=wC (fPR (fPV m (gLo 1 lo p)) (fPV m (gHi 1 hi p)))) 1 kI iiz rfl hh0 hc0)<|oc (qC (C:=((wC (fPR (fPV m (gLo 1 lo p)) (fPV m (gHi 1 hi p)))).cf.at 9)))<|oc (zT (C:=cg (fPR (fPV m (gLo 1 lo p)) (fPV m (gHi 1 hi p)))) (k:=9) 3 kI (h:=zTk))<|oc (zI zE zHM (fun u0 u1 W hb (h0:RVp m ((p).2) u0 W) (h1:RVp m ((gHi 1 hi p).2) u1 W)=>zEn h0 h1 hm hm0 (hTb _ (zFX s.gr hb))))<|oc (zR .i64 (qsg (p).2 (gHi 1 hi p).2) 0 (decide (qsg (p).2 (gHi 1 hi p).2>0)) iiz iiz rfl rfl)<|zD) fun a w22 s=> ?_
    refine zA rfl ?_
    refine StS.cond s (decide (qsg (p).2 (gHi 1 hi p).2>0)) iiz (fun e=> ?_) (fun e=> ?_)
    ·have eHi:=e
     obtain ⟨cs0,hh0,hc0,_⟩:=s.boxAt (c:=0) rfl
     obtain ⟨cs3,hh3,hc3,_⟩:=s.boxAt (c:=3) rfl
     refine z9 [] 7 ((57,.X (wB (.agg #[pO b 3,pO b 9,pO b3 3])) 1)::(58,.Z (wB (pO b 9)))::(59,.X (wB (.agg #[pO b 3,pO b 9,pO b3 3])) 2)::(60,.X (fPV m p) 3)::(61,.X (fPV m p) 3)::(62,.u (fRV m ((p).2)))::(63,.u (wB (pO b 9))):: []) hmix s kI
      (oc (zL (C:=cg (wB (.agg #[pO b 3,pO b 9,pO b3 3]))) 1 kI)<|oc (jE (C:=cg (wB (.agg #[pO b 3,pO b 9,pO b3 3]))) (k:=1) kI (h:=zEm (vs:= [pO b 3,pO b 9,pO b3 3]) rfl))<|oc (zL (C:=cg (wB (.agg #[pO b 3,pO b 9,pO b3 3]))) 2 kI)<|oc (qQ (vs:= [pO b 3,pO b 9,pO b3 3]) (b':=b3) (o:=3) (D:=wC (fPV m p)) 2 kI iiz rfl hh3 hc3)<|oc (qC (C:=((wC (fPV m p)).cf.at 3)))<|oc (zT (C:=cg (fPV m p)) (k:=3) 3 kI (h:=zCj))<|oc (jZ (a:=⟨b,9,none⟩) iiz)<|zD) fun Q' hQ a w23 s=> ?_
     refine q6 (c:=0) (o:=9) (kk:=3) (wC (fPR (fPV m (gLo 1 lo p)) (fPV m ((gHi 1 hi p).1,(p).2)))) ((fRV m ((p).2)).tS) rfl s kI rfl rfl iiz iiz zSL fun a w s=> ?_
     refine zA rfl (hQ _ _ ?_)
     refine zX 1 ((64,.u (uI ((1+1:Nat):Int))):: []) s kI
      (oc (yM .i64 ((1:Nat):Int) 1 ((1+1:Nat):Int) iiz iiz (wrap64 _ _ oP oP))<|zD) fun a w24 s=> ?_
     replace s:=s.drop [27]
     refine zAS (uI ((1+1:Nat):Int)) rfl s kI zC kI fun a w s=> ?_
     refine zA rfl ?_
     rw [<-zQg eLo] at s
     rw [<-zQj eHi] at s
     replace s:=s.popB
     exact ⟨(1+1),dB,dB,s.keepK _ (fmz ⟨mz8,fmz ⟨.head _,fnz⟩⟩)⟩
    ·have eHi:=e
     refine zYb ?_
     refine zX 1 ((64,.u (uI ((1+1:Nat):Int))):: []) s kI
      (oc (yM .i64 ((1:Nat):Int) 1 ((1+1:Nat):Int) iiz iiz (wrap64 _ _ oP oP))<|zD) fun a w25 s=> ?_
     replace s:=s.drop [27]
     refine zAS (uI ((1+1:Nat):Int)) rfl s kI zC kI fun a w s=> ?_
     refine zA rfl ?_
     rw [<-zQg eLo] at s
     rw [<-zQk eHi] at s
     replace s:=s.popB
     exact ⟨(1+1),dB,dB,s.keepK _ (fmz ⟨mz6,fmz ⟨.head _,fnz⟩⟩)⟩
 ·have hk2:k=2:=by have:=zYh e;omega
  subst hk2
  refine zYk ?_
  exact vF s (c:=0) rfl rfl rfl rfl (fun _=>trivial)
section
variable {S:Nat->Prop} {w0:Wp} {K:List (Nat×KF)} {B:List Bx} {n:Nat} {ds:List Deferred} {a:Act} {w:Wp}
theorem StS.move (h:StS S w0 K B n [] a w) (S':Nat->Prop) (hS: ∀q,inB B q->S' q) (hu:(K.all fun q=>zNt q.2)=true):StS S' w K B n [] a w:=by
 have hu:=qY hu
 refine ⟨BlS.refl _ _,h.size,h.nd,fun q hq=> ?_,wP (a:=a) B (fun x hx=> ?_) (fun _ _=>rfl) h.bx,⟨[],Marks.nil _ _⟩,.inl hu⟩
 ·obtain ⟨f,e⟩:=hu q hq
  have:=h.sl q hq
  rw [e] at this ⊢
  exact this
 ·cases hr:x.r with
  |true=>exact .inl rfl
  |false=>exact .inr (.inr (hS _ ⟨x,hx,rfl,hr⟩))
theorem vL (h0:St w0 K0 B0 n0 ds0 a0 w1) (h:StS S' w1 K B n [] a w) (hS: ∀q,S' q->w0.heap.size<=q) (hu:(K.all fun q=>zNt q.2)=true):St w0 K B n [] a w:=by
 have hu:=qY hu
 refine ⟨⟨h.gr.os.trans h0.gr.os,h.gr.tape.trans h0.gr.tape,h.gr.output.trans h0.gr.output,zYe h0.gr.size h.gr.size,fun k hk _=>(h.gr.block k (zYt hk h0.gr.size) fun hh=>by have:=hS k hh;omega).trans (h0.gr.block k hk fun hh=>hh)⟩,h.size,h.nd,fun q hq=> ?_,wP (a:=a) B (fun x hx=> ?_) (fun _ _=>rfl) h.bx,⟨[],Marks.nil _ _⟩,.inl hu⟩
 ·obtain ⟨f,e⟩:=hu q hq
  have:=h.sl q hq
  rw [e] at this ⊢
  exact this
 ·obtain ⟨cs,_,h2,_⟩:=h.bx.mem x hx
  rcases h2 with e|e|e
  ·exact .inl e
  ·exact .inr (.inl (zYe h0.gr.size e))
  ·exact .inr (.inl (hS _ e))
end
theorem zHb (hR:zAE w1 base e z v Cs) (hI: ∀q,S q->q<base) (h:BlS S w1 W') (hk:jK w1 W'):(wD z Cs).p v W':=by
 refine (hR.keep (fun k hv=> ?_) hk).row
 obtain ⟨h1,h2⟩:=hR.lt k hv
 exact h.block k h2 fun hs=>by have:=hI k hs;omega
theorem zUH (hT:Tab w1) (hI: ∀j,j<64-> ¬S 0) (h:BlS S w1 W'):Tab W':=fun j hj=>
 (World.cell?_of_block (h.block _ (z4 (hT j hj)) (hI j hj))).trans (hT j hj)
theorem zRF (m:Nat) (W:Wp):(wC (fPR (fPV m (0,0)) (fPV m (0,0)))).p (ptZ++ptZ) W:=⟨ptZ,ptZ,rfl,zGo m W,zGo m W⟩
theorem zSJ (v:Wq) (W:Wp) (h:(fPT f'' g'').p v W):v.cells.size=6/\(∀u,u∈v.cells.toList->u.oneCell'=true)/\v.cells.toList.all yA=true/\ ∀cs,(wC (fPR (fPT f g) (fPT f' g'))).p cs W->0+6<=cs.length/\(wC (fPR (fPT f'' g'') (fPT f' g'))).p (jV cs 0 v.cells.toList) W:=by
 obtain ⟨vs,rfl,hl,h1,h2,h3⟩:=yV v W h
 refine ⟨by simpa [Value.cells] using hl,by simpa [Value.cells] using h1,by simpa [Value.cells] using h2,fun cs hc=> ?_⟩
 obtain ⟨a,b,rfl,l1,l2,g1,g2⟩:=zBf hc
 refine ⟨by simp [l1,l2],vs,b, ?_,h3,g2⟩
 have e:jV (a++b) 0 (Value.agg vs.toArray).cells.toList=vs++b:=by
  unfold jV
  have:(Value.agg vs.toArray).cells.toList=vs:=rfl
  rw [this,List.take_zero,zYD,Nat.zero_add,hl,zYM oP,zYC oP,zYD]
 rw [e]
theorem zSI (v:Wq) (W:Wp) (h:(fPT f'' g'').p v W):v.cells.size=6/\(∀u,u∈v.cells.toList->u.oneCell'=true)/\v.cells.toList.all yA=true/\ ∀cs,(wC (fPR (fPT f g) (fPT f' g'))).p cs W->6+6<=cs.length/\(wC (fPR (fPT f g) (fPT f'' g''))).p (jV cs 6 v.cells.toList) W:=by
 obtain ⟨vs,rfl,hl,h1,h2,h3⟩:=yV v W h
 refine ⟨by simpa [Value.cells] using hl,by simpa [Value.cells] using h1,by simpa [Value.cells] using h2,fun cs hc=> ?_⟩
 obtain ⟨a,b,rfl,l1,l2,g1,g2⟩:=zBf hc
 refine ⟨by simp [l1,l2],a,vs, ?_,g1,h3⟩
 have e:jV (a++b) 6 (Value.agg vs.toArray).cells.toList=a++vs:=by
  unfold jV
  have:(Value.agg vs.toArray).cells.toList=vs:=rfl
  rw [this,hl,zYN oP,zYu oP,zYC (by simp;omega),List.append_nil]
 rw [e]
theorem bxB (s:Bool) (A A':Ws Addr) (n n' c c':Nat) (s2:Bool) (B B':Ws Addr) (k k' d d':Nat) (t:Bool) (C C':Ws Addr) (i i' j j':Nat) (t2:Bool) (D D':Ws Addr) (x x' y y':Nat):prog.built 47 [(0,.agg #[.bool s,.slice A n c,.slice A' n' c',.bool s2,.slice B k d,.slice B' k' d']),(1,.agg #[.bool t,.slice C i j,.slice C' i' j',.bool t2,.slice D x y,.slice D' x' y'])]=some #[.bool s,.slice A n c,.slice A' n' c',.bool s2,.slice B k d,.slice B' k' d',.bool t,.slice C i j,.slice C' i' j',.bool t2,.slice D x y,.slice D' x' y']:=by kernel_rfl
theorem zVU (hu:(fPT f g).p u W) (hv:(fPT f' g').p v W): ∃cells,prog.built 47 [(0,u),(1,v)]=some cells/\(fPR (fPT f g) (fPT f' g')).p (.agg cells) W:=by
 obtain ⟨s,A,n,c,A',n',c',s2,B,k,d,B',k',d',rfl,h1,h2⟩:=hu
 obtain ⟨s3,A3,n3,c3,A4,n4,c4,s4,B3,k3,d3,B4,k4,d4,rfl,h3,h4⟩:=hv
 exact ⟨_,bxB ..,_,_,rfl,⟨s,A,n,c,A',n',c',s2,B,k,d,B',k',d',rfl,h1,h2⟩,⟨s3,A3,n3,c3,A4,n4,c4,s4,B3,k3,d3,B4,k4,d4,rfl,h3,h4⟩⟩
def bLo (ps:List V2):Nat->V2
 |0=>at_ ps 0
 |k+1=>gLo 2 (bLo ps k) (at_ ps k)
def bHi (ps:List V2):Nat->V2
 |0=>at_ ps 0
 |k+1=>gHi 2 (bHi ps k) (at_ ps k)
theorem zTw {a b:Rat} (h1:QB a m) (h2:QB b m):QB (mnR a b) m:=by unfold mnR;split<;>assumption
theorem zTu {a b:Rat} (h1:QB a m) (h2:QB b m):QB (mxR a b) m:=by unfold mxR;split<;>assumption
theorem zQD {ps:List V2} {m:Nat} (h: ∀p,p∈ps->QB p.1 m/\QB p.2 m) (h0:0<ps.length): ∀k,k<=ps.length->QB (bLo ps k).1 m/\QB (bLo ps k).2 m
 |0,_=>h _ (zBC h0)
 |k+1,hk=>by
  have ih:=zQD h h0 k oP
  have hp:=h _ (zBC (show k<ps.length by omega))
  exact ⟨zTw ih.1 hp.1,zTw ih.2 hp.2⟩
theorem zQE {ps:List V2} {m:Nat} (h: ∀p,p∈ps->QB p.1 m/\QB p.2 m) (h0:0<ps.length): ∀k,k<=ps.length->QB (bHi ps k).1 m/\QB (bHi ps k).2 m
 |0,_=>h _ (zBC h0)
 |k+1,hk=>by
  have ih:=zQE h h0 k oP
  have hp:=h _ (zBC (show k<ps.length by omega))
  exact ⟨zTu ih.1 hp.1,zTu ih.2 hp.2⟩
def qW (ps:List V2):V2:=if ps.length=0 then (((0:Int):Rat),((0:Int):Rat)) else bLo ps ps.length
def qX (ps:List V2):V2:=if ps.length=0 then (((0:Int):Rat),((0:Int):Rat)) else bHi ps ps.length
theorem zTm (hm0:0<m) (h:(wC (fPR (fPN (((0:Int):Rat),((0:Int):Rat))) (fPN (((0:Int):Rat),((0:Int):Rat))))).p cs W):(wC (fPR (fPV m (((0:Int):Rat),((0:Int):Rat))) (fPV m (((0:Int):Rat),((0:Int):Rat))))).p cs W:=by
 obtain ⟨a,b,e,h1,h2⟩:=h
 exact ⟨a,b,e,zAz (m:=m) (QB.zero hm0) (QB.zero hm0) h1,zAz (m:=m) (QB.zero hm0) (QB.zero hm0) h2⟩
theorem zQc (hl:(wD 6 (pvs m ps)).p l W) (hm:m<=2000) (hm0:0<m) (hn:ps.length<=1000000) (hT:Tab W):Calls prog 29 #[l] W (Ret W (zAw (fPR (fPV m (qW ps)) (fPV m (qX ps))) (fB (ps.length !=0))).tS):=by
 have hqs:=zJi hm0 hl
 refine z7 [(wB l).tS] func29 rfl kI ⟨rfl,trivial⟩ fun a s=> ?_
 replace s:=s.renew [(0,.u (wB l))] (fmz ⟨.inr ⟨_,rfl,.head _⟩,fnz⟩)
 refine zYa ?_
 refine zB 0 [] hmix s kI
  zD fun a w1 s=> ?_
 refine zZ (wC (fPR (fPV m ((0,0):V2)) (fPV m ((0,0):V2)))) (cs:=ptZ++ptZ) kI rfl s kI (fun W=>zRF m W) rfl fun b2 a w s=> ?_
 refine yP (uB false) rfl s kI iiz fun a w s=> ?_
 refine zA rfl ?_
 refine zYa ?_
 have hb2l:b2<w.heap.size:=s.old _ (.head _)
 refine zB5 2 ((6,.Z (wB l))::(7,.s (wJ w 30 6 (pns ps))):: []) s kI
  (oc zC<|oc (zH zE zTT (fun u0 W hb (h0:u0=l)=>(zKQ (yU hl h0 (s.up hb)) hm hm0 hn (hT.below (s.up hb))).mono (wI (zBd hb.size))))<|zD) fun a w2 s hr=> ?_
 obtain ⟨v7,e7⟩: ∃v,a.tmps.getD 7 undef=v:=⟨_,rfl⟩
 have hR7:zAE w2 _ 30 6 v7 (pns ps):=e7▸(hr (_,_) mz1)
 replace s:=s.learn 7 v7 e7
 have hIb: ∀q,(fun q=>q=b2) q->q<w.heap.size:=fun q e=>by have e:q=b2:=e;omega
 have hb2:W.heap.size<=b2:=s.inB_new ⟨_,.head _,rfl,rfl⟩
 have sE:=s
 have hKU: ∀{W':Wp},BlS (fun q=>q=b2) w2 W'->jK w2 W':=fun hb=>zCd (hb.sub fun q hq=>⟨_,.head _,hq.symm,rfl⟩) s.bx
 have hTw:Tab w2:=hT.below s.below
 have hTb: ∀{W':Wp},BlS (fun q=>q=b2) w2 W'->Tab W':=fun hb=>zUH hTw (fun j hj e=>by have:=z4 (hT j hj);have e:0=b2:=e;rw [e] at this;omega) hb
 replace s:=(s.keepK [(7,.u (wB v7))] (fmz ⟨.head _,fnz⟩)).move (fun q=>q=b2) (fun q hq=>by obtain ⟨x,hx,e,_⟩:=hq;obtain rfl:=zYf.1 hx;exact e.symm) kI
 refine yP (wB v7) rfl s kI iiz fun a w s=> ?_
 refine zA rfl ?_
 refine zYa ?_
 refine zYa ?_
 refine zB 3 ((8,.Z (wB v7))::(9,.Z (uI ((pvs m ps).length:Int)))::(10,.u (uB (decide (ps.length=0)))):: []) hmix s kI
  (oc zC<|oc (yW (z:=6) (Cs:=pvs m ps) kI (fun v W hb h=>(by rw [show _=v7 from h];exact zCx hqs _ _ (zHb hR7 hIb (s.gr.trans hb) (hKU (s.gr.trans hb))))) (fun _=>rfl))<|oc (zR .i64 ((pvs m ps).length:Int) 0 (decide (ps.length=0)) iiz iiz (by simp only [zYq];rw [Bool.eq_iff_iff,beq_iff_eq,decide_eq_true_iff];omega) rfl)<|zD) fun a w3 s=> ?_
 refine zA rfl ?_
 refine StS.cond s (decide (ps.length=0)) iiz (fun e=> ?_) (fun e=> ?_)
 ·have h0e:=zYg e
  refine zYa ?_
  refine zB 3 ((11,.Z (fPN (((0:Int):Rat),((0:Int):Rat))))::(12,.Z (fPN (((0:Int):Rat),((0:Int):Rat))))::(13,.u (fPR (fPN (((0:Int):Rat),((0:Int):Rat))) (fPN (((0:Int):Rat),((0:Int):Rat))))):: []) hmix s kI
   (oc (zI zE zSi (fun u0 u1 W hb (h0:u0= .int .i64 0) (h1:u1= .int .i64 0)=>zQU h0 h1 dB dB))<|oc (zI zE zSi (fun u0 u1 W hb (h0:u0= .int .i64 0) (h1:u1= .int .i64 0)=>zQU h0 h1 dB dB))<|oc (y6 (fun u v W (hu:(fPN (((0:Int):Rat),((0:Int):Rat))).p u W) (hv:(fPN (((0:Int):Rat),((0:Int):Rat))).p v W)=>zVU hu hv))<|zD) fun a w4 s=> ?_
  refine zS (wC (fPR (fPN (((0:Int):Rat),((0:Int):Rat))) (fPN (((0:Int):Rat),((0:Int):Rat))))) ((fPR (fPN (((0:Int):Rat),((0:Int):Rat))) (fPN (((0:Int):Rat),((0:Int):Rat)))).tS) rfl s kI rfl rfl rfl zC7 iiz zBK fun a w s=> ?_
  refine yP (uB false) rfl s kI iiz fun a w s=> ?_
  refine zA rfl ?_
  refine zYc ?_
  replace s:=vL sE (s.keepK [(3,.u (uB false))] (fmz ⟨.head _,fnz⟩)) (fun q e=>by have e:q=b2:=e;rw [e];exact hb2) kI
  exact wU s (wC (fPR (fPN (((0:Int):Rat),((0:Int):Rat))) (fPN (((0:Int):Rat),((0:Int):Rat))))) rfl kI rfl rfl zC7 (fun cs v W h1 h2=>⟨_,_,rfl,by rw [show qW ps=(((0:Int):Rat),((0:Int):Rat)) from if_pos h0e,show qX ps=(((0:Int):Rat),((0:Int):Rat)) from if_pos h0e];exact zTm hm0 h1,by rw [show (ps.length !=0)=false by rw [h0e];rfl];exact h2⟩)
 ·have h0l:0<ps.length:=Nat.pos_of_ne_zero (zYh e)
  refine zYb ?_
  refine zYa ?_
  refine z9 [0,3] 7 ((14,.Z (wB v7))::(15,.Y (fPV m (at_ ps 0)))::(16,.u (fPV m (at_ ps 0)))::(17,.Z (wB v7))::(18,.Y (fPV m (at_ ps 0)))::(19,.u (fPV m (at_ ps 0)))::(20,.u (wB (pO b2 0))):: []) hmix s kI
   (oc zC<|oc (yL (z:=6) (Cs:=pvs m ps) (i:=0) (C:=wC (fPV m (at_ ps 0))) kI (qI h0l) (fun v W hb h=>(by rw [show _=v7 from h];exact zCx hqs _ _ (zHb hR7 hIb (s.gr.trans hb) (hKU (s.gr.trans hb))))) iiz)<|oc (zJ (f:=fPV m (at_ ps 0)) 6 kI (hz:=zO _ _))<|oc zC<|oc (yL (z:=6) (Cs:=pvs m ps) (i:=0) (C:=wC (fPV m (at_ ps 0))) kI (qI h0l) (fun v W hb h=>(by rw [show _=v7 from h];exact zCx hqs _ _ (zHb hR7 hIb (s.gr.trans hb) (hKU (s.gr.trans hb))))) iiz)<|oc (zJ (f:=fPV m (at_ ps 0)) 6 kI (hz:=zO _ _))<|oc (y9 (b:=b2) (o:=0) 0 kI (fun _ _ h=>h.1))<|zD) fun Q' hQ a w5 s=> ?_
  refine q6 (c:=2) (o:=0) (kk:=6) (wC (fPR (fPV m (at_ ps 0)) (fPV m ((0,0):V2)))) ((fPV m (at_ ps 0)).tS) rfl s kI rfl rfl iiz iiz zSJ fun a w s=> ?_
  refine zAS (wB (pO b2 6)) rfl s kI (y9 (b:=b2) (o:=0) 6 kI (fun _ _ h=>h.1)) kI fun a w s=> ?_
  refine q6 (c:=2) (o:=6) (kk:=6) (wC (fPR (fPV m (at_ ps 0)) (fPV m (at_ ps 0)))) ((fPV m (at_ ps 0)).tS) rfl s kI rfl rfl iiz iiz zSI fun a w s=> ?_
  refine zA rfl (hQ _ _ ?_)
  refine zYa ?_
  refine zYa ?_
  refine zB 3 ((22,.u (wB v7))::(23,.u (uI ((pvs m ps).length:Int)))::(24,.u (uI 0)):: []) hmix s kI
   (oc zC<|oc (yW (z:=6) (Cs:=pvs m ps) kI (fun v W hb h=>(by rw [show _=v7 from h];exact zCx hqs _ _ (zHb hR7 hIb (s.gr.trans hb) (hKU (s.gr.trans hb))))) (fun _=>rfl))<|oc zC<|zD) fun a w6 s=> ?_
  refine zA rfl ?_
  refine zYd ?_
  refine zDv 2 (fun k=>wC (fPR (fPV m (bLo ps k)) (fPV m (bHi ps k)))) (fun k=>k<=ps.length) (fun k=> [(22,.u (wB v7)),(23,.u (uI ((pvs m ps).length:Int))),(24,.u (uI ((k:Nat):Int)))]) (fun k=>ps.length - k) (0:Nat) (zYj _) (s.keepK _ (fmz ⟨.head _,fmz ⟨mz1,fmz ⟨mz2,fnz⟩⟩⟩)) rfl fun k a w hx s=> ?_
  have hlz:(pvs m ps).length=ps.length:=by simp
  refine zYa ?_
  refine zB 1 ((25,.u (uB (ltz k ((pvs m ps).length)))):: []) hmix s kI
   (oc (zR .i64 (k:Int) ((pvs m ps).length:Int) (ltz k ((pvs m ps).length)) iiz iiz rfl rfl)<|zD) fun a w7 s=> ?_
  refine zA rfl ?_
  refine zYa ?_
  refine StS.cond s (ltz k ((pvs m ps).length)) iiz (fun e=> ?_) (fun e=> ?_)
  ·have hk:k<ps.length:=by have h7:=zYg e;rw [hlz] at h7;omega
   refine zYb ?_
   refine zYa ?_
   refine zYd ?_
   refine zYa ?_
   refine zB 2 ((26,.Y (fPV m (at_ ps k)))::(27,.u (fPV m (at_ ps k))):: []) hmix s kI
    (oc (yL (z:=6) (Cs:=pvs m ps) (i:=k) (C:=wC (fPV m (at_ ps k))) kI (qI hk) (fun v W hb h=>(by rw [show _=v7 from h];exact zCx hqs _ _ (zHb hR7 hIb (s.gr.trans hb) (hKU (s.gr.trans hb))))) iiz)<|oc (zJ (f:=fPV m (at_ ps k)) 6 kI (hz:=zO _ _))<|zD) fun a w8 s=> ?_
   refine zZ (CU.len 6) (cs:=zP6) kI rfl s kI (fun W=>rfl) rfl fun b5 a w s=> ?_
   refine zS (wC (fPV m (at_ ps k))) ((fPV m (at_ ps k)).tS) rfl s kI rfl rfl rfl iiz iiz yV fun a w s=> ?_
   refine zA rfl ?_
   refine zB 1 ((28,.u (fPV m (at_ ps k))):: []) hmix s kI
    (oc (zJ (f:=fPV m (at_ ps k)) 6 kI (hz:=zO _ _))<|zD) fun a w9 s=> ?_
   refine zNG (c:=2) (wC (fPR (fPV m (bLo ps (k+1))) (fPV m (bHi ps (k+1))))) (UF.any) rfl zE zVw s kI rfl rfl (fun _ _ h=>h.1) (fun cs v h1 h2 h3=> ?_) fun a w s=> ?_
   ·exact zR0 h1 h2 h3 hm hm0 (hTb s.gr)
   refine zA rfl ?_
   refine zX 1 ((30,.u (uI ((k+1:Nat):Int))):: []) s kI
    (oc (yM .i64 (k:Int) 1 ((k+1:Nat):Int) iiz iiz (wrap64 _ _ oP oP))<|zD) fun a w10 s=> ?_
   replace s:=s.drop [24]
   refine zAS (uI ((k+1:Nat):Int)) rfl s kI zC kI fun a w s=> ?_
   refine zA rfl ?_
   replace s:=s.popB
   exact ⟨k+1,hk,(by show ps.length - (k+1)<ps.length - k;omega),s.keepK _ (fmz ⟨mz6,fmz ⟨mz7,fmz ⟨.head _,fnz⟩⟩⟩)⟩
  ·have hkN:k=ps.length:=by have h7:=zYh e;rw [hlz] at h7;omega
   subst hkN
   refine zYk ?_
   refine zYa ?_
   refine zB 1 ((31,.u (fPR (fPV m (bLo ps (ps.length))) (fPV m (bHi ps (ps.length))))):: []) hmix s kI
    (oc (zJ (f:=fPR (fPV m (bLo ps (ps.length))) (fPV m (bHi ps (ps.length)))) 12 kI (hz:=zC7))<|zD) fun a w11 s=> ?_
   refine zS (wC (fPR (fPV m (bLo ps (ps.length))) (fPV m (bHi ps (ps.length))))) ((fPR (fPV m (bLo ps (ps.length))) (fPV m (bHi ps (ps.length)))).tS) rfl s kI rfl rfl rfl zC7 iiz zBK fun a w s=> ?_
   refine yP (uB true) rfl s kI iiz fun a w s=> ?_
   refine zA rfl ?_
   refine zYc ?_
   replace s:=vL sE (s.keepK [(3,.u (uB true))] (fmz ⟨.head _,fnz⟩)) (fun q e=>by have e:q=b2:=e;rw [e];exact hb2) kI
   exact wU s (wC (fPR (fPV m (bLo ps (ps.length))) (fPV m (bHi ps (ps.length))))) rfl kI rfl rfl zC7 (fun cs v W h1 h2=>⟨_,_,rfl,by rw [show qW ps=bLo ps ps.length from if_neg oP,show qX ps=bHi ps ps.length from if_neg oP];exact h1,by rw [show (ps.length !=0)=true from bne_iff_ne.2 oP];exact h2⟩)
section
variable {F:Fence} {m:Nat} {P:Program} {w0:Wp} {ops:Array Oper} {G:Nat->SF} {d:Tmp} {ty:Wr} {pos:String} {aft:Array Edge}
theorem zL4 (ht:P.underlying t=some (.slice (P.elem t))) (h: ∀v W,(fct G x).p v W->v= sN) (hd: ∀W,(G d).p (.int .i64 0) W:=by exact fun _=>rfl):qK F m P w0 ops G ⟨some d,.call ⟨.builtin .cap,#[x],#[t]⟩,ty,pos,aft,none⟩:=by
 intro b W K Q hb hr hK
 have e:=h _ _ (y4 hr (x:=x) (by simp [Op.operands,Call.operands]))
 refine ⟨fun f hf=>(by
  unfold Oper.about at hf
  simp [resolve,go_sem] at hf), ?_⟩
 rw [Oper.semAt_eq _ _ _ (fun _ e=>by cases e)]
 have:(execOp b.eval ⟨some d,.call ⟨.builtin .cap,#[x],#[t]⟩,ty,pos,aft,none⟩).run P W= .ok (.value (.int .i64 0)) W:=by
  simp [execOp,resolve,invoke,builtin,e,run_cap_slice _ _ _ _ _ _ ht,goInt]
 rw [this]
 exact hK _ _ (fun d' e'=>by cases e';exact hd W) (zYv _ _)
theorem zPY {hi:Operand} (hsz:jJ P t=some z) (hk:k<=c) (hx: ∀v W,(fct G x).p v W->v= .slice A n c) (hh: ∀v W,(fct G hi).p v W->v= .int .i64 (k:Int)) (hd: ∀W,(G d).p (.slice A k c) W:=by exact fun _=>rfl):qK F m P w0 ops G ⟨some d,.slice t x none (some hi) none,ty,pos,aft,none⟩:=
 qJ (fun _ e=>by cases e) (fun _ e=>by cases e) fun b W hb hp=>by
  have e:=hx _ _ (hp x (by simp [Op.operands]))
  have e2:=hh _ _ (hp hi (by simp [Op.operands]))
  unfold jJ at hsz
  split at hsz<;>try cases hsz
  rename_i e' hu
  obtain ⟨ie,hie,_⟩:=Option.map_eq_some_iff.1 hsz
  exact ⟨.slice A k c,by simp [execOp,e,e2,zG7 hu hie A n c k hk],hd _⟩
end
section
variable {S:Nat->Prop} {F:Fence} {m:Nat} {P:Program} {Q:Exit->Act->Wp->Prop} {w0:Wp} {K:List (Nat×KF)} {B:List Bx} {n:Nat} {ds:List Deferred} {a:Act} {w:Wp}
theorem zSG {y:Operand} {tn:Wr} (h:StS S w0 K B n ds a w) (ho:ops[k]?=some ⟨some d,.call ⟨.builtin .append,#[x,y],#[t,tn]⟩,ty,pos,aft,none⟩) (happ:zGN P t=some (e,z,true)) (htn:P.underlying tn=some (.int .i64)) (hf:zAc K B n d=true)
  (hx: ∀v W,(Wd.fct (jS K B) x).p v W->v= sN) (hy: ∀v W,(Wd.fct (jS K B) y).p v W->v= .int .i64 (j:Int)) (hj:0<j) (hj2:j<=1000000)
  (fin: ∀g cap a' w',w.heap.size<=g->bW w w'->j<=cap->zAE w' w.heap.size e z (.slice (some ⟨g,0,none⟩) 0 cap) []->StS S w0 ((d,.u (wB (.slice (some ⟨g,0,none⟩) j cap)))::K) B n ds a' w'->zA7 F m P ops Q (k+1) a' w'):zA7 F m P ops Q k a w:=by
 obtain ⟨ht,i,zv,hi,hz,hs,hby,hzs,hzn,hz0⟩:=zC0 happ
 have e1:a.eval x= sN:=hx _ _ (h.fct x)
 have e2:a.eval y= .int .i64 (j:Int):=hy _ _ (h.fct y)
 have hb:j*i.bytes<=1000000*1000:=Nat.mul_le_mul hj2 hby
 have hrun:=Lib.run_append_nil_zeros (P:=P) w t tn ty e i zv .i64 .i64 ht htn hi hz j hj oP oP oP
 have hcap:j<=grownCap w j 0 e:=grownCap_ge w j 0 e
 have hcm:grownCap w j 0 e<=maxLen:=grownCap_le_maxLen w j 0 e (by unfold maxLen;omega)
 have hb1:bW w (w.drew.alloc (.cells (Builtin.zeroCells zv.cells j++Builtin.zeroCells zv.cells (grownCap w j 0 e - j)) e)):=⟨rfl,rfl,rfl,by simp,fun q hq=>heap_alloc_old w.drew _ (by exact hq)⟩
 have hR:zAE (w.drew.alloc (.cells (Builtin.zeroCells zv.cells j++Builtin.zeroCells zv.cells (grownCap w j 0 e - j)) e)) w.heap.size e z (.slice (some ⟨w.heap.size,0,none⟩) 0 (grownCap w j 0 e)) []:=by
  refine .inr ⟨w.heap.size,grownCap w j 0 e,_,rfl,zYm _,heap_alloc_new w.drew _,zYj _,hcm, ?_, ?_,fun i C hi=>by simp at hi⟩
  ·rw [Array.size_append,size_zeroCells,size_zeroCells,hzs, <-Nat.add_mul]
   congr 1
   omega
  ·rw [Array.toList_append,zYG,zAF hzn,zAF hzn];rfl
 have hrun2:(execOp a.eval ⟨some d,.call ⟨.builtin .append,#[x,y],#[t,tn]⟩,ty,pos,aft,none⟩).run P w= .ok (.value (.slice (some ⟨w.heap.size,0,none⟩) j (grownCap w j 0 e))) (w.drew.alloc (.cells (Builtin.zeroCells zv.cells j++Builtin.zeroCells zv.cells (grownCap w j 0 e - j)) e)):=by
  simp only [execOp,resolve,invoke,builtin,Sem.run_bind,Sem.run_pure,Result.andThen_ok,List.map_toArray,List.map_cons,List.map_nil,e1,e2,hrun]
 refine zAX ho rfl ⟨fun f hf=>(by
  unfold Oper.about at hf
  simp [resolve,go_sem] at hf), ?_⟩
 rw [Oper.semAt_eq _ _ _ (fun _ e=>by cases e),hrun2]
 exact fin _ _ _ _ lr hb1 hcap hR (h.set hf hb1 rfl)
end
abbrev RR:=List (Wq×List V2)
variable {L:RR}
abbrev rrv (L:RR):List CU:=L.map fun x=>wF [x.1]
def RR.ok (m:Nat) (L:RR) (W:Wp):Prop:= ∀x,x∈L->(wD 6 (pvs m x.2)).p x.1 W
theorem RR.ok.below (h:RR.ok m L W) (hb:bW W W'):RR.ok m L W':=fun x hx=>(wD 6 _).st _ _ _ (h x hx) hb
def rat (L:RR) (k:Nat):Wq×List V2:=L.getD k (sN, [])
theorem zBP (h:k<L.length):rat L k∈L:=by
 unfold rat;rw [zYp,zYi h];exact List.getElem_mem h
theorem zGc (h:k<L.length):(rrv L)[k]?=some (wF [(rat L k).1]):=by
 unfold rat
 rw [zYo,zYi h,zYp,zYi h];rfl
def yC (L:RR) (k:Nat):List V2:=(L.take k).flatMap (·.2)
theorem zB1 (h:k<L.length):yC L (k+1)=yC L k++(rat L k).2:=by
 unfold yC rat
 rw [List.take_add_one,zYi h,zYH,zYp,zYi h]
 simp
theorem zGJ: ∀{k:Nat},k<=L.length->(yC L k).length<=(yC L L.length).length:=fun {k} hk=>by
 unfold yC
 rw [zYu (zYm L.length)]
 have:=congrArg (fun l=>List.length (List.flatMap (·.2) l)) (List.take_append_drop k L)
 simp only [zYH,zYw] at this
 omega
theorem zOl (m:Nat) (L:RR) (k:Nat) (h:k<L.length):pvs m (yC L (k+1))=pvs m (yC L k)++pvs m (rat L k).2:=by rw [zB1 h];simp [pvs]
theorem zJV (hp:QB p.1 m/\QB p.2 m) (hm:0<m):(QB (p.1+((1:Int):Rat)) (m+2)/\QB (p.2+((1:Int):Rat)) (m+2))/\(QB (p.1 - ((1:Int):Rat)) (m+2)/\QB (p.2 - ((1:Int):Rat)) (m+2)):=by
 have h1:QB ((1:Int):Rat) 1:=(qbz (z:=1) dB).mono dB
 exact ⟨⟨(hp.1.add h1).mono oP,(hp.2.add h1).mono oP⟩,⟨(hp.1.sub h1).mono oP,(hp.2.sub h1).mono oP⟩⟩
def whK (L:RR) (p:V2) (k:Nat):List Nat:=(List.range k).filter fun i=>inK (rat L i).2 p (rat L i).2.length
theorem zUB (h:inK (rat L k).2 p (rat L k).2.length=true):whK L p (k+1)=whK L p k++ [k]:=by
 unfold whK
 rw [zYF,List.filter_append]
 simp [h]
theorem zUC (h:inK (rat L k).2 p (rat L k).2.length=false):whK L p (k+1)=whK L p k:=by
 unfold whK
 rw [zYF,List.filter_append]
 simp [h]
theorem zQR (L:RR) (p:V2) (k:Nat):(whK L p k).length<=k:=by
 have:=List.length_filter_le (fun i=>inK (rat L i).2 p (rat L i).2.length) (List.range k)
 rwa [List.length_range] at this
theorem zR5 (hu:u= sN) (hv:v= .int .i64 (n:Int)) (hn:n<=1000000):Calls prog 72 #[u,v] W (Ret W (wJ W 30 6 [])):=by
 refine z7 [(wB (sN)).tS,(uI (n:Int)).tS] func72 rfl kI ⟨hu,hv,trivial⟩ fun a s=> ?_
 replace s:=s.renew [(0,.u (wB (sN))),(1,.u (uI (n:Int)))] (fmz ⟨.inr ⟨_,rfl,.head _⟩,fmz ⟨.inr ⟨_,rfl,mz1⟩,fnz⟩⟩)
 refine zYa ?_
 refine zB 1 ((4,.u (wB (sN))):: []) hmix s kI
  (oc zG<|zD) fun a w1 s=> ?_
 refine zA rfl ?_
 refine zYa ?_
 refine zYa ?_
 refine zB 2 ((5,.Z (uI (n:Int)))::(6,.u (uB false)):: []) hmix s kI
  (oc zC<|oc (zR .i64 (n:Int) 0 false iiz iiz (zYy oP) rfl)<|zD) fun a w2 s=> ?_
 refine zA rfl ?_
 refine StS.cond s false iiz (fun e=>by cases e) (fun e=> ?_)
 refine zYb ?_
 refine zYa ?_
 refine zYa ?_
 refine zX 7 ((8,.Z (uI (n:Int)))::(9,.Z (wB (sN)))::(10,.Z (uI 0))::(11,.Z (wB (sN)))::(12,.Z (uI 0))::(13,.Z (uI 0))::(14,.u (uI (n:Int))):: []) s kI
  (oc zC<|oc zC<|oc (zL4 kI iiz)<|oc zC<|oc (zBM kI (fun v W h=>⟨none,0,0,h,rfl⟩))<|oc (zEd .i64 0 0 0 iiz iiz dB)<|oc (zEd .i64 (n:Int) 0 (n:Int) iiz iiz (by rw [zYn];omega))<|zD) fun a w3 s=> ?_
 replace s:=s.drop [1]
 refine yP (uI (n:Int)) rfl s kI iiz fun a w s=> ?_
 refine zA rfl ?_
 refine zYa ?_
 refine zB 2 ((15,.Z (uI (n:Int)))::(16,.u (uB (decide (0<n)))):: []) hmix s kI
  (oc zC<|oc (zR .i64 (n:Int) 0 (decide (0<n)) iiz iiz (by show decide ((n:Int)>0)=_;rw [zYI];omega) rfl)<|zD) fun a w4 s=> ?_
 refine zA rfl ?_
 refine StS.cond s (decide (0<n)) iiz (fun e=> ?_) (fun e=> ?_)
 ·refine zX 5 ((17,.Z (wB (sN)))::(18,.Z (wB (sN)))::(19,.Z (uI 0))::(20,.u (wB (sN)))::(21,.u (uI (n:Int))):: []) s kI
   (oc zC<|oc zC<|oc (zL4 kI iiz)<|oc (zPY (A:=none) (n:=0) (c:=0) (k:=0) (z:=6) kI lr iiz iiz)<|oc zC<|zD) fun a w5 s=> ?_
  have hgs:=s.gr.size
  refine zSG (j:=n) (e:=30) (z:=6) s rfl kI underlying3 kI iiz iiz (zYg e) hn fun g cap a w hg hbw hcap hR s=> ?_
  have hWb:=s.below
  replace s:=s.reb rfl [(22,.u (wB (.slice (some ⟨g,0,none⟩) n cap))),(20,.u (wB (sN))),(21,.u (uI (n:Int))),(16,.u (uB (decide (0<n)))),(1,.u (uI (n:Int))),(14,.u (uI (n:Int))),(6,.u (uB false)),(4,.u (wB (sN))),(0,.u (wB (sN)))] (fmz ⟨.inl (.head _),fmz ⟨.inl mz1,fmz ⟨.inl mz2,fmz ⟨.inl mz3,fmz ⟨.inl mz4,fmz ⟨.inl mz5,fmz ⟨.inl mz6,fmz ⟨.inl mz7,fmz ⟨.inl mz8,fnz⟩⟩⟩⟩⟩⟩⟩⟩⟩)
  refine zAS (wB (sN)) rfl s kI zC kI fun a w s=> ?_
  refine zAS (uI 0) rfl s kI (zBM kI (fun v W h=>⟨none,0,0,h,rfl⟩)) kI fun a w s=> ?_
  refine zAS (wB (.slice (some ⟨g,0,none⟩) 0 cap)) rfl s kI (zPY (A:=some ⟨g,0,none⟩) (n:=n) (c:=cap) (k:=0) (z:=6) kI (zYj _) iiz iiz) kI fun a w s=> ?_
  replace s:=s.drop [0]
  refine yP (wB (.slice (some ⟨g,0,none⟩) 0 cap)) rfl s kI iiz fun a w s=> ?_
  refine zA rfl ?_
  refine zYa ?_
  replace s:=s.drop [4]
  refine zB 2 ((26,.Z (wB (.slice (some ⟨g,0,none⟩) 0 cap)))::(4,.u (wB (.slice (some ⟨g,0,none⟩) 0 cap))):: []) hmix s kI
   (oc zC<|oc zG<|zD) fun a w6 s=> ?_
  refine zA rfl ?_
  refine zYc ?_
  exact StS.resN s hWb rfl (by rw [s.val (.head _)];exact (hR.below s.below).mono hgs)
 ·refine zYb ?_
  refine zYa ?_
  replace s:=s.drop [4]
  refine zB 2 ((26,.Z (wB (sN)))::(4,.u (wB (sN))):: []) hmix s kI
   (oc zC<|oc zG<|zD) fun a w7 s=> ?_
  refine zA rfl ?_
  refine zYc ?_
  exact StS.resN s (zYv _ _) rfl (by rw [s.val (.head _)];exact zAE.nil _ _ _ _)
theorem zOk (m:Nat) (ps:List V2): ∀C,C∈pvs m ps->CU.ok 6 C:=fun C hC=>by
 obtain ⟨t,_,rfl⟩:=zYz.1 hC
 exact zDD _ _
theorem zMF (hl:(wD 1 (rrv L)).p l W) (hL:RR.ok m L W) (hn:(yC L L.length).length<=1000000) (hnL:L.length<=1000000):Calls prog 44 #[l] W (Ret W (wJ W 30 6 (pvs m (yC L L.length)))):=by
 refine z7 [(wB l).tS] func44 rfl kI ⟨rfl,trivial⟩ fun a s=> ?_
 replace s:=s.renew [(0,.u (wB l))] (fmz ⟨.inr ⟨_,rfl,.head _⟩,fnz⟩)
 refine zYa ?_
 refine zB 1 ((2,.u (wB (sN))):: []) hmix s kI
  (oc zG<|zD) fun a w1 s=> ?_
 refine zA rfl ?_
 refine zYa ?_
 refine zB 1 ((3,.u (uI 0)):: []) hmix s kI
  (oc zG<|zD) fun a w2 s=> ?_
 refine zA rfl ?_
 refine zYa ?_
 refine zYa ?_
 refine zB 3 ((9,.u (wB l))::(10,.u (uI ((rrv L).length:Int)))::(11,.u (uI 0)):: []) hmix s kI
  (oc zC<|oc (yW (z:=1) (Cs:=rrv L) kI (fun v W hb h=>(yU hl h (s.up hb))) (fun _=>rfl))<|oc zC<|zD) fun a w3 s=> ?_
 refine zA rfl ?_
 refine zYd ?_
 refine zAZ (fun k=>k<=L.length) (fun k=> [(9,.u (wB l)),(10,.u (uI ((rrv L).length:Int))),(0,.u (wB l)),(11,.u (uI ((k:Nat):Int))),(3,.u (uI ((yC L k).length:Int)))]) (fun k=>L.length - k) (0:Nat) (zYj _) (s.keepK _ (fmz ⟨.head _,fmz ⟨mz1,fmz ⟨mz5,fmz ⟨mz2,fmz ⟨mz3,fnz⟩⟩⟩⟩⟩)) fun k a w hx s=> ?_
 have hlz:(rrv L).length=L.length:=by simp
 refine zYa ?_
 refine zB 1 ((12,.u (uB (ltz k ((rrv L).length)))):: []) hmix s kI
  (oc (zR .i64 (k:Int) ((rrv L).length:Int) (ltz k ((rrv L).length)) iiz iiz rfl rfl)<|zD) fun a w4 s=> ?_
 refine zA rfl ?_
 refine zYa ?_
 refine StS.cond s (ltz k ((rrv L).length)) iiz (fun e=> ?_) (fun e=> ?_)
 ·have hk:k<L.length:=by have h7:=zYg e;rw [hlz] at h7;omega
  have hfk:=zGJ (L:=L) (k:=k+1) hk
  have hfs:(yC L (k+1)).length=(yC L k).length+(rat L k).2.length:=by rw [zB1 hk,zYw]
  refine zYb ?_
  refine zYa ?_
  refine zYd ?_
  refine zYa ?_
  refine zB 3 ((13,.s (wE (wF [(rat L k).1]).cf))::(14,.Z (wB ((rat L k).1)))::(5,.u (wB ((rat L k).1))):: []) hmix s kI
   (oc (yL (z:=1) (Cs:=rrv L) (i:=k) (C:=wF [(rat L k).1]) kI (zGc hk) (fun v W hb h=>(yU hl h (s.up hb))) iiz)<|oc (zAg (C:=(wF [(rat L k).1]).cf) kI iiz zDQ)<|oc zG<|zD) fun a w5 s=> ?_
  refine zA rfl ?_
  refine zYa ?_
  refine zX 4 ((15,.Z (uI ((yC L k).length:Int)))::(16,.Z (wB ((rat L k).1)))::(17,.Z (uI (((pvs m ((rat L k).2)).length:Nat):Int)))::(18,.u (uI ((yC L (k+1)).length:Int))):: []) s kI
   (oc zC<|oc zC<|oc (yW (z:=6) (Cs:=pvs m ((rat L k).2)) kI (fun v W hb h=>(by rw [show _=(rat L k).1 from h];exact (wD 6 (pvs m ((rat L k).2))).st _ _ _ (hL _ (zBP hk)) (s.up hb))) (fun _=>rfl))<|oc (yM .i64 ((yC L k).length:Int) (((pvs m ((rat L k).2)).length:Nat):Int) ((yC L (k+1)).length:Int) iiz iiz (by rw [zYn];simp only [zYq];omega))<|zD) fun a w6 s=> ?_
  replace s:=s.drop [3]
  refine yP (uI ((yC L (k+1)).length:Int)) rfl s kI iiz fun a w s=> ?_
  refine zA rfl ?_
  refine zYa ?_
  refine zB 2 ((19,.Z (uI ((yC L (k+1)).length:Int)))::(20,.u (uB false)):: []) hmix s kI
   (oc zC<|oc (zR .i64 ((yC L (k+1)).length:Int) 0 false iiz iiz (zYy oP) rfl)<|zD) fun a w7 s=> ?_
  refine zA rfl ?_
  refine StS.cond s false iiz (fun e=>by cases e) (fun e=> ?_)
  refine zYb ?_
  refine zX 1 ((22,.u (uI ((k+1:Nat):Int))):: []) s kI
   (oc (yM .i64 (k:Int) 1 ((k+1:Nat):Int) iiz iiz (wrap64 _ _ oP oP))<|zD) fun a w8 s=> ?_
  replace s:=s.drop [11]
  refine zAS (uI ((k+1:Nat):Int)) rfl s kI zC kI fun a w s=> ?_
  refine zA rfl ?_
  exact ⟨k+1,hk,(by show L.length - (k+1)<L.length - k;omega),s.keepK _ (fmz ⟨mz7,fmz ⟨mz8,fmz ⟨mz9,fmz ⟨.head _,fmz ⟨mz3,fnz⟩⟩⟩⟩⟩)⟩
 ·have hkN:k=L.length:=by have h7:=zYh e;rw [hlz] at h7;omega
  replace s:=s.drop [12]
  subst hkN
  refine zYk ?_
  refine zYa ?_
  have hgs9:=s.gr.size
  refine qS 2 ((23,.Z (uI ((yC L (L.length)).length:Int)))::(24,.s (wJ w4 30 6 [])):: []) hmix s kI
   (oc zC<|oc (zI zE zVq (fun u0 u1 W hb (h0:u0= sN) (h1:u1= .int .i64 ((yC L (L.length)).length:Int))=>(zR5 h0 h1 hn).mono (wI (zBd hb.size))))<|zD) fun a w9 s hr=> ?_
  obtain ⟨v24,e24⟩: ∃v,a.tmps.getD 24 undef=v:=⟨_,rfl⟩
  have hR24:zAE w9 _ 30 6 v24 []:=e24▸(hr (_,_) mz1)
  replace s:=s.learn 24 v24 e24
  have hW9:=s.below
  have hL9:RR.ok m L w9:=fun x hx=>(wD 6 _).st _ _ _ (hL x hx) hW9
  have hl9:=(wD 1 (rrv L)).st _ _ _ hl hW9
  have sE:=s
  replace s:=s.reb rfl [(24,.u (wB v24)),(9,.u (wB l)),(10,.u (uI ((rrv L).length:Int))),(0,.u (wB l)),(11,.u (uI (L.length:Int))),(3,.u (uI ((yC L (L.length)).length:Int)))] (fmz ⟨.inl (.head _),fmz ⟨.inl mz1,fmz ⟨.inl mz2,fmz ⟨.inl mz3,fmz ⟨.inl mz4,fmz ⟨.inl mz5,fnz⟩⟩⟩⟩⟩⟩)
  have hR9:=hR24.mono hgs9
  refine yP (wB v24) rfl s kI iiz fun a w s=> ?_
  refine zA rfl ?_
  refine zYa ?_
  refine zYa ?_
  refine zB 3 ((25,.u (wB l))::(26,.u (uI ((rrv L).length:Int)))::(27,.u (uI 0)):: []) hmix s kI
   (oc zC<|oc (yW (z:=1) (Cs:=rrv L) kI (fun v W hb h=>(yU hl9 h (s.up hb))) (fun _=>rfl))<|oc zC<|zD) fun a w10 s=> ?_
  refine zA rfl ?_
  refine zYd ?_
  have hWs:W.heap.size<=w10.heap.size:=zYe hW9.size s.gr.size
  have hRs:=hR9.below s.below
  replace s:=sE.back (s.keepK [(6,.u (wB v24)),(27,.u (uI 0)),(25,.u (wB l)),(26,.u (uI ((rrv L).length:Int)))] (fmz ⟨mz3,fmz ⟨mz2,fmz ⟨.head _,fmz ⟨mz1,fnz⟩⟩⟩⟩)) rfl
  refine zD4 (fun (q:Nat×Wq) w=>q.1<=L.length/\W.heap.size<=w.heap.size/\zAE w W.heap.size 30 6 q.2 (pvs m (yC L q.1))) (fun q=> [(25,.u (wB l)),(26,.u (uI ((rrv L).length:Int))),(6,.u (wB (q.2))),(27,.u (uI (q.1:Int)))]) (fun q=>L.length - q.1) (0,v24) (⟨zYj _,hWs,by simpa [yC] using hRs⟩) (s.keepK _ (fmz ⟨mz2,fmz ⟨mz3,fmz ⟨.head _,fmz ⟨mz1,fnz⟩⟩⟩⟩)) fun q a w hI s=> ?_
  have s0:=s
  have hlw:=(wD 1 (rrv L)).st _ _ _ hl s0.below
  have hLw:RR.ok m L _:=hL.below s0.below
  replace s:=s.reb rfl [(25,.u (wB l)),(26,.u (uI ((rrv L).length:Int))),(6,.u (wB (q.2))),(27,.u (uI (q.1:Int)))] (fmz ⟨.inl (.head _),fmz ⟨.inl mz1,fmz ⟨.inl mz2,fmz ⟨.inl mz3,fnz⟩⟩⟩⟩)
  refine zYa ?_
  refine zB 1 ((28,.u (uB (ltz q.1 ((rrv L).length)))):: []) hmix s kI
   (oc (zR .i64 (q.1:Int) ((rrv L).length:Int) (ltz q.1 ((rrv L).length)) iiz iiz rfl rfl)<|zD) fun a w11 s=> ?_
  refine zA rfl ?_
  refine zYa ?_
  refine StS.cond s (ltz q.1 ((rrv L).length)) iiz (fun e=> ?_) (fun e=> ?_)
  ·have hk:q.1<L.length:=by have:=zYg e;simp at this;omega
   refine zYb ?_
   refine zYa ?_
   refine zYd ?_
   refine zYa ?_
   refine zB 3 ((29,.s (wE (wF [(rat L q.1).1]).cf))::(30,.Z (wB ((rat L q.1).1)))::(8,.u (wB ((rat L q.1).1))):: []) hmix s kI
    (oc (yL (z:=1) (Cs:=rrv L) (i:=q.1) (C:=wF [(rat L q.1).1]) kI (zGc hk) (fun v W hb h=>(yU hlw h (s.up hb))) iiz)<|oc (zAg (C:=(wF [(rat L q.1).1]).cf) kI iiz zDQ)<|oc zG<|zD) fun a w12 s=> ?_
   refine zA rfl ?_
   refine zX 2 ((31,.u (wB (q.2)))::(32,.u (wB ((rat L q.1).1))):: []) s kI
    (oc zC<|oc zC<|zD) fun a w13 s=> ?_
   refine zKV (pvs m ((rat L q.1).2)) s0 (s.keepK [(31,.u (wB (q.2))),(32,.u (wB ((rat L q.1).1))),(8,.u (wB ((rat L q.1).1))),(28,.u (uB (ltz q.1 ((rrv L).length)))),(25,.u (wB l)),(26,.u (uI ((rrv L).length:Int))),(6,.u (wB (q.2))),(27,.u (uI (q.1:Int)))] (fmz ⟨.head _,fmz ⟨mz1,fmz ⟨mz2,fmz ⟨mz3,fmz ⟨mz4,fmz ⟨mz5,fmz ⟨mz6,fmz ⟨mz7,fnz⟩⟩⟩⟩⟩⟩⟩⟩)) lr hI.2 rfl kI kI kI (s.fct (.tmp 31)) (by rw [show a.eval (.tmp 32)=(rat L q.1).1 from s.val mz1];exact (wD 6 _).st _ _ _ (hLw _ (zBP hk)) s.below) (zOk _ _) (by have:=zGJ (L:=L) (k:=q.1+1) hk;rw [zB1 hk,zYw] at this;simp;omega) (fun q hq=>by cases hq) fun v' a w hI' s=> ?_
   have s1:=s
   replace s:=s.reb rfl [(33,.u (wB v')),(31,.u (wB (q.2))),(32,.u (wB ((rat L q.1).1))),(8,.u (wB ((rat L q.1).1))),(28,.u (uB (ltz q.1 ((rrv L).length)))),(25,.u (wB l)),(26,.u (uI ((rrv L).length:Int))),(6,.u (wB (q.2))),(27,.u (uI (q.1:Int)))] (fmz ⟨.inl (.head _),fmz ⟨.inl mz1,fmz ⟨.inl mz2,fmz ⟨.inl mz3,fmz ⟨.inl mz4,fmz ⟨.inl mz5,fmz ⟨.inl mz6,fmz ⟨.inl mz7,fmz ⟨.inl mz8,fnz⟩⟩⟩⟩⟩⟩⟩⟩⟩)
   replace s:=s.drop [6]
   refine yP (wB v') rfl s kI iiz fun a w s=> ?_
   refine zA rfl ?_
   refine zX 1 ((34,.u (uI ((q.1+1:Nat):Int))):: []) s kI
    (oc (yM .i64 (q.1:Int) 1 ((q.1+1:Nat):Int) iiz iiz (wrap64 _ _ oP oP))<|zD) fun a w14 s=> ?_
   replace s:=s.drop [27]
   refine zAS (uI ((q.1+1:Nat):Int)) rfl s kI zC kI fun a w s=> ?_
   refine zA rfl ?_
   have hbw:=s.below
   replace s:=s1.back (s.keepK [(27,.u (uI ((q.1+1:Nat):Int))),(34,.u (uI ((q.1+1:Nat):Int))),(6,.u (wB v')),(33,.u (wB v')),(31,.u (wB (q.2))),(32,.u (wB ((rat L q.1).1))),(8,.u (wB ((rat L q.1).1))),(28,.u (uB (ltz q.1 ((rrv L).length)))),(25,.u (wB l)),(26,.u (uI ((rrv L).length:Int)))] (fmz ⟨.head _,fmz ⟨mz1,fmz ⟨mz2,fmz ⟨mz3,fmz ⟨mz4,fmz ⟨mz5,fmz ⟨mz6,fmz ⟨mz7,fmz ⟨mz8,fmz ⟨mz9,fnz⟩⟩⟩⟩⟩⟩⟩⟩⟩⟩)) rfl
   exact ⟨(q.1+1,v'),(by show L.length - (q.1+1)<L.length - q.1;omega),⟨hk,zYe hI'.1 hbw.size,by show zAE _ _ _ _ _ (pvs m (yC L (q.1+1)));rw [zOl m L q.1 hk];exact hI'.2.below hbw⟩,s.keepK _ (fmz ⟨mz8,fmz ⟨mz9,fmz ⟨mz2,fmz ⟨.head _,fnz⟩⟩⟩⟩)⟩
  ·have hk:q.1=L.length:=by have h7:=zYh e;have h8:=hI.1;simp at h7;omega
   refine zYk ?_
   refine zYa ?_
   refine zB 2 ((35,.Z (wB (q.2)))::(2,.u (wB (q.2))):: []) hmix s kI
    (oc zC<|oc zG<|zD) fun a w15 s=> ?_
   refine zA rfl ?_
   refine zYc ?_
   exact StS.resN s s0.below rfl (by rw [s.val (.head _)];have:=hI.2.2.below s.below;rw [hk] at this;exact this)
def zKr (ps:List V2):V2:=((qW ps).1 - ((1:Int):Rat),(qW ps).2 - ((1:Int):Rat))
def zKs (ps:List V2):V2:=((qX ps).1+((1:Int):Rat),(qX ps).2+((1:Int):Rat))
theorem zPX (hm:0<m):QB ((1:Int):Rat) m:=(qbz (z:=1) dB).mono oP
theorem zJr (hm:0<m):QB ((0:Int):Rat) m:=QB.zero hm
theorem zUi (h: ∀p,p∈ps->QB p.1 m/\QB p.2 m) (hm:0<m):(QB (qW ps).1 m/\QB (qW ps).2 m)/\(QB (qX ps).1 m/\QB (qX ps).2 m):=by
 unfold qW qX
 by_cases e:ps.length=0
 ·rw [if_pos e,if_pos e];exact ⟨⟨zJr hm,zJr hm⟩,⟨zJr hm,zJr hm⟩⟩
 ·rw [if_neg e,if_neg e];exact ⟨zQD h oP _ lr,zQE h oP _ lr⟩
theorem zO8 (h:p∈yC L k): ∃x,x∈L/\p∈x.2:=by
 unfold yC at h
 obtain ⟨x,hx,hp⟩:=List.mem_flatMap.1 h
 exact ⟨x,List.mem_of_mem_take hx,hp⟩
theorem zR7 (hL:RR.ok m L W) (hm:0<m) (k:Nat): ∀p,p∈yC L k->QB p.1 m/\QB p.2 m:=fun p hp=>by
 obtain ⟨x,hx,h⟩:=zO8 hp
 exact zJi hm (hL x hx) p h
theorem zTi (hp:QB p.1 m/\QB p.2 m) (hq:QB q.1 m/\QB q.2 m) (h:(wC (fPR (fPN p) (fPN q))).p cs W):(wC (fPR (fPV m p) (fPV m q))).p cs W:=by
 obtain ⟨a,b,e,h1,h2⟩:=h
 exact ⟨a,b,e,zAz (p:=p) (m:=m) hp.1 hp.2 h1,zAz (p:=q) (m:=m) hq.1 hq.2 h2⟩
theorem zO1 (hl:(wD 1 (rrv L)).p l W) (hL:RR.ok m L W) (hm:m<=650) (hm0:0<m) (hn:(yC L L.length).length<=1000000) (hnL:L.length<=1000000) (hT:Tab W):Calls prog 18 #[l] W (Ret W (fPR (fPV (m+2) (zKr (yC L L.length))) (fPV (m+2) (zKs (yC L L.length)))).tS):=by
 have hbq:=zUi (zR7 hL hm0 L.length) hm0
 refine z7 [(wB l).tS] func18 rfl kI ⟨rfl,trivial⟩ fun a s=> ?_
 replace s:=s.renew [(0,.u (wB l))] (fmz ⟨.inr ⟨_,rfl,.head _⟩,fnz⟩)
 refine zYa ?_
 refine zB 0 [] hmix s kI
  zD fun a w1 s=> ?_
 refine zZ (CU.len 12) (cs:= [.bool false, sN, sN,.bool false, sN, sN,.bool false, sN, sN,.bool false, sN, sN]) kI rfl s kI (fun W=>rfl) rfl fun b2 a w s=> ?_
 refine zA rfl ?_
 refine zYa ?_
 refine zB 6 ((7,.Z (wB l))::(8,.s (wJ w 30 6 (pvs m (yC L L.length))))::(9,.Z (zAw (fPR (fPV m (qW (yC L L.length))) (fPV m (qX (yC L L.length)))) (uB ((yC L L.length).length !=0))))::(6,.Z (zAw (fPR (fPV m (qW (yC L L.length))) (fPV m (qX (yC L L.length)))) (uB ((yC L L.length).length !=0))))::(10,.u (fPR (fPV m (qW (yC L L.length))) (fPV m (qX (yC L L.length)))))::(11,.u (uB ((yC L L.length).length !=0))):: []) hmix s kI
  (oc zC<|oc (zH zE zVB (fun u0 W hb (h0:u0=l)=>(zMF (yU hl h0 (s.up hb)) (hL.below (s.up hb)) hn hnL).mono (wI (zBd hb.size))))<|oc (zH zE zTY (fun u0 W hb h0=>zQc (zCW _ _ h0) oP hm0 hn (hT.below (s.up hb))))<|oc zC<|oc (zAK (A:=(fPR (fPV m (qW (yC L L.length))) (fPV m (qX (yC L L.length)))).tS) (B:=(uB ((yC L L.length).length !=0)).tS) iiz)<|oc (zAJ (A:=(fPR (fPV m (qW (yC L L.length))) (fPV m (qX (yC L L.length)))).tS) (B:=(uB ((yC L L.length).length !=0)).tS) iiz)<|zD) fun a w2 s=> ?_
 refine zZ (CU.len 12) (cs:= [.bool false, sN, sN,.bool false, sN, sN,.bool false, sN, sN,.bool false, sN, sN]) kI rfl s kI (fun W=>rfl) rfl fun b3 a w s=> ?_
 refine zS (wC (fPR (fPV m (qW (yC L L.length))) (fPV m (qX (yC L L.length))))) ((fPR (fPV m (qW (yC L L.length))) (fPV m (qX (yC L L.length)))).tS) rfl s kI rfl rfl rfl iiz iiz zBK fun a w s=> ?_
 refine yP (uB ((yC L L.length).length !=0)) rfl s kI iiz fun a w s=> ?_
 refine zA rfl ?_
 refine zYa ?_
 refine zB 1 ((12,.u (fPV m (((1:Int):Rat),((1:Int):Rat)))):: []) hmix s kI
  (oc (zI zE zSi (fun u0 u1 W hb (h0:u0= .int .i64 1) (h1:u1= .int .i64 1)=>(zQU h0 h1 dB dB).mono (wI (fun v W h=>zAz (p:=(((1:Int):Rat),((1:Int):Rat))) (m:=m) (zPX hm0) (zPX hm0) h))))<|zD) fun a w3 s=> ?_
 refine zZ (CU.len 6) (cs:=zP6) kI rfl s kI (fun W=>rfl) rfl fun b5 a w s=> ?_
 refine zS (wC (fPV m (((1:Int):Rat),((1:Int):Rat)))) ((fPV m (((1:Int):Rat),((1:Int):Rat))).tS) rfl s kI rfl rfl rfl iiz iiz yV fun a w s=> ?_
 refine zA rfl ?_
 refine zYa ?_
 refine z9 [] 9 ((13,.X (fPR (fPV m (qW (yC L L.length))) (fPV m (qX (yC L L.length)))) 0)::(14,.Z (fPV m (qW (yC L L.length))))::(15,.Z (fPV m (((1:Int):Rat),((1:Int):Rat))))::(16,.Z (fPN ((qW (yC L L.length)).1 - ((1:Int):Rat),(qW (yC L L.length)).2 - ((1:Int):Rat))))::(17,.X (fPR (fPV m (qW (yC L L.length))) (fPV m (qX (yC L L.length)))) 6)::(18,.Z (fPV m (qX (yC L L.length))))::(19,.Z (fPV m (((1:Int):Rat),((1:Int):Rat))))::(20,.Z (fPN ((qX (yC L L.length)).1+((1:Int):Rat),(qX (yC L L.length)).2+((1:Int):Rat))))::(21,.u (fPR (fPN ((qW (yC L L.length)).1 - ((1:Int):Rat),(qW (yC L L.length)).2 - ((1:Int):Rat))) (fPN ((qX (yC L L.length)).1+((1:Int):Rat),(qX (yC L L.length)).2+((1:Int):Rat))))):: []) hmix s kI
  (oc (zL (C:=cg (fPR (fPV m (qW (yC L L.length))) (fPV m (qX (yC L L.length))))) 0 kI)<|oc (zT (C:=cg (fPR (fPV m (qW (yC L L.length))) (fPV m (qX (yC L L.length))))) (k:=0) 6 kI (h:=zE9))<|oc (zJ (f:=fPV m (((1:Int):Rat),((1:Int):Rat))) 6 kI (hz:=zO _ _))<|oc (zI zE zSh (fun u0 u1 W hb (h0:(fPV m (qW (yC L L.length))).p u0 W) (h1:(fPV m (((1:Int):Rat),((1:Int):Rat))).p u1 W)=>zKP (p:=qW (yC L L.length)) (q:=(((1:Int):Rat),((1:Int):Rat))) h0 h1 hm hm0 (hT.below (s.up hb))))<|oc (zL (C:=cg (fPR (fPV m (qW (yC L L.length))) (fPV m (qX (yC L L.length))))) 6 kI)<|oc (zT (C:=cg (fPR (fPV m (qW (yC L L.length))) (fPV m (qX (yC L L.length))))) (k:=6) 6 kI (h:=zFQ))<|oc (zJ (f:=fPV m (((1:Int):Rat),((1:Int):Rat))) 6 kI (hz:=zO _ _))<|oc (zI zE zVA (fun u0 u1 W hb (h0:(fPV m (qX (yC L L.length))).p u0 W) (h1:(fPV m (((1:Int):Rat),((1:Int):Rat))).p u1 W)=>zSz (p:=qX (yC L L.length)) (q:=(((1:Int):Rat),((1:Int):Rat))) h0 h1 hm hm0 (hT.below (s.up hb))))<|oc (y6 (fun u v W (hu:(fPN ((qW (yC L L.length)).1 - ((1:Int):Rat),(qW (yC L L.length)).2 - ((1:Int):Rat))).p u W) (hv:(fPN ((qX (yC L L.length)).1+((1:Int):Rat),(qX (yC L L.length)).2+((1:Int):Rat))).p v W)=>zVU hu hv))<|zD) fun Q' hQ a w4 s=> ?_
 refine zS (wC (fPR (fPN ((qW (yC L L.length)).1 - ((1:Int):Rat),(qW (yC L L.length)).2 - ((1:Int):Rat))) (fPN ((qX (yC L L.length)).1+((1:Int):Rat),(qX (yC L L.length)).2+((1:Int):Rat))))) ((fPR (fPN ((qW (yC L L.length)).1 - ((1:Int):Rat),(qW (yC L L.length)).2 - ((1:Int):Rat))) (fPN ((qX (yC L L.length)).1+((1:Int):Rat),(qX (yC L L.length)).2+((1:Int):Rat)))).tS) rfl s kI rfl rfl rfl iiz iiz zBK fun a w s=> ?_
 refine zA rfl (hQ _ _ ?_)
 refine zYc ?_
 exact wH s (wC (fPR (fPN ((qW (yC L L.length)).1 - ((1:Int):Rat),(qW (yC L L.length)).2 - ((1:Int):Rat))) (fPN ((qX (yC L L.length)).1+((1:Int):Rat),(qX (yC L L.length)).2+((1:Int):Rat))))) rfl kI rfl rfl zC7 (fun cs W h=>zTi (p:=zKr (yC L L.length)) (q:=zKs (yC L L.length)) (zJV hbq.1 hm0).2 (zJV hbq.2 hm0).1 h)
theorem zOZ (hl:(wD 1 (rrv L)).p l W) (hL:RR.ok m L W) (h1:(fPV m p).p v W) (hm:m<=159) (hm0:0<m) (hnP: ∀x,x∈L->x.2.length<=1000000) (hnL:L.length<=1000000) (hT:Tab W):Calls prog 16 #[l,v] W (Ret W (wJ W 3 1 (zDq (whK L p L.length)))):=by
 refine z7 [(wB l).tS,(fPV m p).tS] func16 rfl kI ⟨rfl,h1,trivial⟩ fun a s=> ?_
 replace s:=s.renew [(0,.u (wB l)),(1,.u (fPV m p))] (fmz ⟨.inr ⟨_,rfl,.head _⟩,fmz ⟨.inr ⟨_,rfl,mz1⟩,fnz⟩⟩)
 refine zYa ?_
 refine zB 0 [] hmix s kI
  zD fun a w1 s=> ?_
 refine yG (wC (fPV m p)) rfl s kI (fun v W h=>yO h) fun b3 a w s=> ?_
 refine yP (wB (sN)) rfl s kI iiz fun a w s=> ?_
 refine zA rfl ?_
 refine zYa ?_
 refine zYa ?_
 refine zB 3 ((7,.u (wB l))::(8,.u (uI ((rrv L).length:Int)))::(9,.u (uI 0)):: []) hmix s kI
  (oc zC<|oc (yW (z:=1) (Cs:=rrv L) kI (fun v W hb h=>(yU hl h (s.up hb))) (fun _=>rfl))<|oc zC<|zD) fun a w2 s=> ?_
 refine zA rfl ?_
 refine zYd ?_
 have hb3:b3<w2.heap.size:=s.old _ (.head _)
 have hWs:W.heap.size<=w2.heap.size:=s.gr.size
 obtain ⟨base,hbase⟩: ∃b,b=w2.heap.size:=⟨_,rfl⟩
 have hb3':b3<base:=by rw [hbase];exact hb3
 have hb0:W.heap.size<=base:=by rw [hbase];exact hWs
 have hsz0:base<=w2.heap.size:=by rw [hbase];exact zYm _
 replace s:StS _ _ _ [⟨3,30,wC (fPV m p),b3,true⟩] _ _ _ _:=s.freeze
 refine zD4 (fun (q:Nat×Wq) w=>q.1<=L.length/\base<=w.heap.size/\zAE w base 3 1 q.2 (zDq (whK L p q.1))) (fun q=> [(7,.u (wB l)),(8,.u (uI ((rrv L).length:Int))),(4,.u (wB (q.2))),(9,.u (uI (q.1:Int)))]) (fun q=>L.length - q.1) (0, sN) (⟨zYj _,hsz0,zAE.nil _ _ _ _⟩) (s.keepK _ (fmz ⟨.head _,fmz ⟨mz1,fmz ⟨mz3,fmz ⟨mz2,fnz⟩⟩⟩⟩)) fun q a w hI s=> ?_
 have s0:=s
 have hlw:=(wD 1 (rrv L)).st _ _ _ hl s0.below
 have hLw:RR.ok m L _:=hL.below s0.below
 have hT0:=hT
 have hT:=hT0.below s0.below
 replace s:=s.reb rfl [(7,.u (wB l)),(8,.u (uI ((rrv L).length:Int))),(4,.u (wB (q.2))),(9,.u (uI (q.1:Int)))] (fmz ⟨.inl (.head _),fmz ⟨.inl mz1,fmz ⟨.inl mz2,fmz ⟨.inl mz3,fnz⟩⟩⟩⟩)
 refine zYa ?_
 refine zB 1 ((10,.u (uB (ltz q.1 ((rrv L).length)))):: []) hmix s kI
  (oc (zR .i64 (q.1:Int) ((rrv L).length:Int) (ltz q.1 ((rrv L).length)) iiz iiz rfl rfl)<|zD) fun a w3 s=> ?_
 refine zA rfl ?_
 refine zYa ?_
 refine StS.cond s (ltz q.1 ((rrv L).length)) iiz (fun e=> ?_) (fun e=> ?_)
 ·have hk:q.1<L.length:=by have:=zYg e;simp at this;omega
  refine zYb ?_
  refine zYa ?_
  refine zYd ?_
  refine zYa ?_
  refine zB 5 ((11,.Z (uI (q.1:Int)))::(12,.s (wE (wF [(rat L q.1).1]).cf))::(13,.Z (wB ((rat L q.1).1)))::(5,.u (uI (q.1:Int)))::(6,.u (wB ((rat L q.1).1))):: []) hmix s kI
   (oc zC<|oc (yL (z:=1) (Cs:=rrv L) (i:=q.1) (C:=wF [(rat L q.1).1]) kI (zGc hk) (fun v W hb h=>(yU hlw h (s.up hb))) iiz)<|oc (zAg (C:=(wF [(rat L q.1).1]).cf) kI iiz zDQ)<|oc zG<|oc zG<|zD) fun a w4 s=> ?_
  refine zA rfl ?_
  refine zYa ?_
  refine zB 3 ((14,.Z (wB ((rat L q.1).1)))::(15,.Z (fPV m p))::(16,.u (uB (inK (rat L q.1).2 p (rat L q.1).2.length))):: []) hmix s kI
   (oc zC<|oc (zJ (f:=fPV m p) 6 kI (hz:=zO _ _))<|oc (zI zE zSc (fun u0 u1 W hb (h0:u0=(rat L q.1).1) (h1:(fPV m p).p u1 W)=>zIB (by rw [show _=(rat L q.1).1 from h0];exact (wD 6 (pvs m ((rat L q.1).2))).st _ _ _ (hLw _ (zBP hk)) (s.up hb)) h1 hm hm0 (hnP _ (zBP hk)) (hT.below (s.up hb))))<|zD) fun a w5 s=> ?_
  refine zA rfl ?_
  refine StS.cond s (inK (rat L q.1).2 p (rat L q.1).2.length) iiz (fun e=> ?_) (fun e=> ?_)
  ·refine zB5 3 ((17,.u (wB (q.2)))::(18,.Z (uI (q.1:Int)))::(19,.s (wD 1 [wF [.int .i64 (q.1:Int)]])):: []) s kI
    (oc zC<|oc zC<|oc (zAb (fun u W (hu:u= .int .i64 (q.1:Int))=>zK1 hu))<|zD) fun a w6 s hr=> ?_
   refine zKV ([wF [.int .i64 (q.1:Int)]]) s0 (s.keepK [(17,.u (wB (q.2))),(16,.u (uB (inK (rat L q.1).2 p (rat L q.1).2.length))),(5,.u (uI (q.1:Int))),(6,.u (wB ((rat L q.1).1))),(10,.u (uB (ltz q.1 ((rrv L).length)))),(7,.u (wB l)),(8,.u (uI ((rrv L).length:Int))),(4,.u (wB (q.2))),(9,.u (uI (q.1:Int)))] (fmz ⟨.head _,fmz ⟨mz1,fmz ⟨mz2,fmz ⟨mz3,fmz ⟨mz4,fmz ⟨mz5,fmz ⟨mz6,fmz ⟨mz7,fmz ⟨mz8,fnz⟩⟩⟩⟩⟩⟩⟩⟩⟩)) hb0 hI.2 rfl kI kI kI (s.fct (.tmp 17)) (hr (_,_) mz2) (zP5 _) (by have:=zQR L p q.1;simp;omega) (fun x hx hr=>by rcases zYl.1 hx with rfl|hx;exact hb3';cases hx) fun v' a w hI' s=> ?_
   have s1:=s
   replace s:StS _ _ _ [⟨3,30,wC (fPV m p),b3,true⟩] _ _ _ _:=s.freeze
   replace s:=s.reb rfl [(20,.u (wB v')),(17,.u (wB (q.2))),(16,.u (uB (inK (rat L q.1).2 p (rat L q.1).2.length))),(5,.u (uI (q.1:Int))),(6,.u (wB ((rat L q.1).1))),(10,.u (uB (ltz q.1 ((rrv L).length)))),(7,.u (wB l)),(8,.u (uI ((rrv L).length:Int))),(4,.u (wB (q.2))),(9,.u (uI (q.1:Int)))] (fmz ⟨.inl (.head _),fmz ⟨.inl mz1,fmz ⟨.inl mz2,fmz ⟨.inl mz3,fmz ⟨.inl mz4,fmz ⟨.inl mz5,fmz ⟨.inl mz6,fmz ⟨.inl mz7,fmz ⟨.inl mz8,fmz ⟨.inl mz9,fnz⟩⟩⟩⟩⟩⟩⟩⟩⟩⟩)
   replace s:=s.drop [4]
   refine yP (wB v') rfl s kI iiz fun a w s=> ?_
   refine zA rfl ?_
   refine zX 1 ((21,.u (uI ((q.1+1:Nat):Int))):: []) s kI
    (oc (yM .i64 (q.1:Int) 1 ((q.1+1:Nat):Int) iiz iiz (wrap64 _ _ oP oP))<|zD) fun a w7 s=> ?_
   replace s:=s.drop [9]
   refine zAS (uI ((q.1+1:Nat):Int)) rfl s kI zC kI fun a w s=> ?_
   refine zA rfl ?_
   have hbw:=s.below
   replace s:=s1.back (s.keepK [(9,.u (uI ((q.1+1:Nat):Int))),(21,.u (uI ((q.1+1:Nat):Int))),(4,.u (wB v')),(20,.u (wB v')),(17,.u (wB (q.2))),(16,.u (uB (inK (rat L q.1).2 p (rat L q.1).2.length))),(5,.u (uI (q.1:Int))),(6,.u (wB ((rat L q.1).1))),(10,.u (uB (ltz q.1 ((rrv L).length)))),(7,.u (wB l)),(8,.u (uI ((rrv L).length:Int)))] (fmz ⟨.head _,fmz ⟨mz1,fmz ⟨mz2,fmz ⟨mz3,fmz ⟨mz4,fmz ⟨mz5,fmz ⟨mz6,fmz ⟨mz7,fmz ⟨mz8,fmz ⟨mz9,fmz ⟨zNs,fnz⟩⟩⟩⟩⟩⟩⟩⟩⟩⟩⟩)) rfl
   exact ⟨(q.1+1,v'),(by show L.length - (q.1+1)<L.length - q.1;omega),⟨hk,zYe hI'.1 hbw.size,by show zAE _ _ _ _ _ (zDq (whK L p (q.1+1)));rw [zUB e,zL9];exact hI'.2.below hbw⟩,s.keepK _ (fmz ⟨mz9,fmz ⟨zNs,fmz ⟨mz2,fmz ⟨.head _,fnz⟩⟩⟩⟩)⟩
  ·refine zYb ?_
   refine zX 1 ((21,.u (uI ((q.1+1:Nat):Int))):: []) s kI
    (oc (yM .i64 (q.1:Int) 1 ((q.1+1:Nat):Int) iiz iiz (wrap64 _ _ oP oP))<|zD) fun a w8 s=> ?_
   replace s:=s.drop [9]
   refine zAS (uI ((q.1+1:Nat):Int)) rfl s kI zC kI fun a w s=> ?_
   refine zA rfl ?_
   have hbw:=s.below
   replace s:=s0.back (s.keepK [(9,.u (uI ((q.1+1:Nat):Int))),(21,.u (uI ((q.1+1:Nat):Int))),(16,.u (uB (inK (rat L q.1).2 p (rat L q.1).2.length))),(5,.u (uI (q.1:Int))),(6,.u (wB ((rat L q.1).1))),(10,.u (uB (ltz q.1 ((rrv L).length)))),(7,.u (wB l)),(8,.u (uI ((rrv L).length:Int))),(4,.u (wB (q.2)))] (fmz ⟨.head _,fmz ⟨mz1,fmz ⟨mz2,fmz ⟨mz3,fmz ⟨mz4,fmz ⟨mz5,fmz ⟨mz6,fmz ⟨mz7,fmz ⟨mz8,fnz⟩⟩⟩⟩⟩⟩⟩⟩⟩)) rfl
   exact ⟨(q.1+1,q.2),(by show L.length - (q.1+1)<L.length - q.1;omega),⟨hk,zYe hI.2.1 hbw.size,by show zAE _ _ _ _ _ (zDq (whK L p (q.1+1)));rw [zUC e];exact hI.2.2.below hbw⟩,s.keepK _ (fmz ⟨mz6,fmz ⟨mz7,fmz ⟨mz8,fmz ⟨.head _,fnz⟩⟩⟩⟩)⟩
 ·have hk:q.1=L.length:=by have h7:=zYh e;have h8:=hI.1;simp at h7;omega
  refine zYk ?_
  refine zYa ?_
  refine zX 1 ((22,.u (wB (q.2))):: []) s kI
   (oc zC<|zD) fun a w9 s=> ?_
  replace s:=s.drop [4]
  refine yP (wB (q.2)) rfl s kI iiz fun a w s=> ?_
  refine zA rfl ?_
  refine zYc ?_
  exact StS.resN s s0.below rfl (by rw [s.val (.head _)];have:=(hI.2.2.below s.below).mono hb0;rw [hk] at this;exact this)
theorem zLB {lo2 hi2:V2} (h1:(fPR (fPV m lo) (fPV m hi)).p u W) (h2:(fPR (fPV m lo2) (fPV m hi2)).p v W) (hm:m<=990) (hm0:0<m):Calls prog 30 #[u,v] W (Ret W (fB ((jI lo lo2==0)&&(jI hi hi2==0))).tS):=by
 refine z7 [(fPR (fPV m lo) (fPV m hi)).tS,(fPR (fPV m lo2) (fPV m hi2)).tS] func30 rfl kI ⟨h1,h2,trivial⟩ fun a s=> ?_
 refine zYa ?_
 refine zB 0 [] hmix s kI
  zD fun a w1 s=> ?_
 refine yG (wC (fPR (fPV m lo) (fPV m hi))) rfl s kI (fun v W h=>zPW h) fun b2 a w s=> ?_
 refine yG (wC (fPR (fPV m lo2) (fPV m hi2))) rfl s kI (fun v W h=>zPW h) fun b3 a w s=> ?_
 refine yP (uB false) rfl s kI iiz fun a w s=> ?_
 refine zA rfl ?_
 refine zYa ?_
 replace s:=s.drop [4]
 refine zB 13 ((5,.X (fPR (fPV m lo) (fPV m hi)) 0)::(6,.Z (fPV m lo))::(7,.X (fPR (fPV m lo2) (fPV m hi2)) 0)::(8,.Z (fPV m lo2))::(9,.Z (uB (jI lo lo2==0)))::(10,.Z (uB (jI lo lo2==0)))::(11,.s (SF.imp ((jI lo lo2==0)=true) (wE ((wC (fPR (fPV m lo) (fPV m hi))).cf.at 6))))::(12,.s (SF.imp ((jI lo lo2==0)=true) ((fPV m hi).tS)))::(13,.s (SF.imp ((jI lo lo2==0)=true) (wE ((wC (fPR (fPV m lo2) (fPV m hi2))).cf.at 6))))::(14,.s (SF.imp ((jI lo lo2==0)=true) ((fPV m hi2).tS)))::(15,.s (SF.imp ((jI lo lo2==0)=true) ((uB (jI hi hi2==0)).tS)))::(16,.Z (uB ((jI lo lo2==0)&&(jI hi hi2==0))))::(4,.u (uB ((jI lo lo2==0)&&(jI hi hi2==0)))):: []) hmix s kI
  (oc (zL (C:=cg (fPR (fPV m lo) (fPV m hi))) 0 kI)<|oc (zT (C:=cg (fPR (fPV m lo) (fPV m hi))) (k:=0) 6 kI (h:=zE9))<|oc (zL (C:=cg (fPR (fPV m lo2) (fPV m hi2))) 0 kI)<|oc (zT (C:=cg (fPR (fPV m lo2) (fPV m hi2))) (k:=0) 6 kI (h:=zE9))<|oc (zI zE zKw (fun u0 u1 W hb (h0:(fPV m lo).p u0 W) (h1:(fPV m lo2).p u1 W)=>zCP (m:=m) h0 h1 hm hm0))<|oc zC<|oc (zF 10 (jI lo lo2==0) kI iiz (fun e=>zQ [] (wE ((wC (fPR (fPV m lo) (fPV m hi))).cf.at 6)) fnz fP kI (zL (C:=cg (fPR (fPV m lo) (fPV m hi))) 6 kI)) fO)<|oc (zF 10 (jI lo lo2==0) kI iiz (fun e=>zQ [(11,wE ((wC (fPR (fPV m lo) (fPV m hi))).cf.at 6))] ((fPV m hi).tS) (fmz ⟨fun v W h=>zK (c:=(jI lo lo2==0)=true) (f:=wE ((wC (fPR (fPV m lo) (fPV m hi))).cf.at 6)) e h,fnz⟩) fP kI (zT (C:=cg (fPR (fPV m lo) (fPV m hi))) (k:=6) 6 kI (h:=zFQ))) fO)<|oc (zF 10 (jI lo lo2==0) kI iiz (fun e=>zQ [] (wE ((wC (fPR (fPV m lo2) (fPV m hi2))).cf.at 6)) fnz fP kI (zL (C:=cg (fPR (fPV m lo2) (fPV m hi2))) 6 kI)) fO)<|oc (zF 10 (jI lo lo2==0) kI iiz (fun e=>zQ [(13,wE ((wC (fPR (fPV m lo2) (fPV m hi2))).cf.at 6))] ((fPV m hi2).tS) (fmz ⟨fun v W h=>zK (c:=(jI lo lo2==0)=true) (f:=wE ((wC (fPR (fPV m lo2) (fPV m hi2))).cf.at 6)) e h,fnz⟩) fP kI (zT (C:=cg (fPR (fPV m lo2) (fPV m hi2))) (k:=6) 6 kI (h:=zFQ))) fO)<|oc (zF 10 (jI lo lo2==0) kI iiz (fun e=>zQ [(12,(fPV m hi).tS),(14,(fPV m hi2).tS)] ((uB (jI hi hi2==0)).tS) (fmz ⟨fun v W h=>zK (c:=(jI lo lo2==0)=true) (f:=(fPV m hi).tS) e h,fmz ⟨fun v W h=>zK (c:=(jI lo lo2==0)=true) (f:=(fPV m hi2).tS) e h,fnz⟩⟩) fP kI (zI zE zKw (fun u0 u1 W hb (h0:(fPV m hi).p u0 W) (h1:(fPV m hi2).p u1 W)=>zCP (m:=m) h0 h1 hm hm0))) fO)<|oc (yJ (jI lo lo2==0) iiz (fun e v W h=>jU (zK e h) e) (fun e v W h=>jD h e))<|oc zG<|zD) fun a w2 s=> ?_
 refine zA rfl ?_
 refine zYc ?_
 exact wG s (t:=4) rfl iiz
theorem egB (s:Bool) (A A':Ws Addr) (n n' c c':Nat) (s2:Bool) (B B':Ws Addr) (k k' d d':Nat) (t:Bool) (C C':Ws Addr) (i i' j j':Nat) (t2:Bool) (D D':Ws Addr) (x x' y y':Nat):prog.built 64 [(0,.agg #[.bool s,.slice A n c,.slice A' n' c',.bool s2,.slice B k d,.slice B' k' d']),(1,.agg #[.bool t,.slice C i j,.slice C' i' j',.bool t2,.slice D x y,.slice D' x' y'])]=some #[.bool s,.slice A n c,.slice A' n' c',.bool s2,.slice B k d,.slice B' k' d',.bool t,.slice C i j,.slice C' i' j',.bool t2,.slice D x y,.slice D' x' y']:=by kernel_rfl
theorem zWK (hu:(fPT f g).p u W) (hv:(fPT f' g').p v W): ∃cells,prog.built 64 [(0,u),(1,v)]=some cells/\(fPR (fPT f g) (fPT f' g')).p (.agg cells) W:=by
 obtain ⟨s,A,n,c,A',n',c',s2,B,k,d,B',k',d',rfl,h1,h2⟩:=hu
 obtain ⟨s3,A3,n3,c3,A4,n4,c4,s4,B3,k3,d3,B4,k4,d4,rfl,h3,h4⟩:=hv
 exact ⟨_,egB ..,_,_,rfl,⟨s,A,n,c,A',n',c',s2,B,k,d,B',k',d',rfl,h1,h2⟩,⟨s3,A3,n3,c3,A4,n4,c4,s4,B3,k3,d3,B4,k4,d4,rfl,h3,h4⟩⟩
def zCh (ps:List V2) (j:Nat):V2×V2:=if decide (jI (at_ ps j) (at_ ps ((j+1) % ps.length))>0)=true then (at_ ps ((j+1) % ps.length),at_ ps j) else (at_ ps j,at_ ps ((j+1) % ps.length))
theorem zSk (e:decide (jI (at_ ps j) (at_ ps ((j+1) % ps.length))>0)=true):zCh ps j=(at_ ps ((j+1) % ps.length),at_ ps j):=if_pos e
theorem zSl (e:decide (jI (at_ ps j) (at_ ps ((j+1) % ps.length))>0)=false):zCh ps j=(at_ ps j,at_ ps ((j+1) % ps.length)):=if_neg (by rw [e];decide)
def zAx (ps:List V2):List (V2×V2):=(List.range ps.length).map (zCh ps)
def zEs (L:RR):List (V2×V2):=L.flatMap fun x=>zAx x.2
def eAt (L:RR) (k:Nat):V2×V2:=(zEs L).getD k ((0,0),(0,0))
abbrev eH (m:Nat) (L:RR) (k:Nat):List UF:= [fPR (fPV m (eAt L k).1) (fPV m (eAt L k).2)]
theorem zHW (L:RR): ∀k,k<=L.length->((L.take k).flatMap fun x=>zAx x.2).length=(yC L k).length:=fun k _=>by
 unfold yC
 generalize L.take k=M
 induction M with
 |nil=>rfl
 |cons x M ih=>simp only [List.flatMap_cons,zYw,ih];simp [zAx]
theorem zJT (L:RR):(zEs L).length=(yC L L.length).length:=by
 have:=zHW L L.length lr
 rwa [zYu lr] at this
theorem zQu (hk:k<L.length) (hj:j<(rat L k).2.length):eAt L ((yC L k).length+j)=zCh (rat L k).2 j:=by
 unfold eAt
 have e0:zEs L=((L.take k).flatMap fun x=>zAx x.2)++((L.drop k).flatMap fun x=>zAx x.2):=by
  unfold zEs
  rw [<-zYH,List.take_append_drop]
 have e1:L.drop k=rat L k::L.drop (k+1):=by
  unfold rat
  rw [zYp,zYi hk,List.drop_eq_getElem_cons hk];rfl
 rw [e0,e1,zYp, <-zHW L k (Nat.le_of_lt hk),List.getElem?_append_right (Nat.le_add_right _ _),Nat.add_sub_cancel_left,List.flatMap_cons,List.getElem?_append_left (by simpa [zAx] using hj)]
 unfold zAx
 rw [zYo,List.getElem?_range hj]
 rfl
theorem zQb (hk:k<L.length) (hj:j<(rat L k).2.length):(yC L k).length+j<(zEs L).length:=by
 rw [zJT]
 have:=zGJ (L:=L) (k:=k+1) hk
 rw [zB1 hk,zYw] at this
 omega
theorem zFL {O:Nat->Prop} (hb:bW w0 w) (hr:RndO N C O w w1) (hN:w0.heap.size<=N) (hC: ∀k,C k->w0.heap.size<=k):bW w0 w1:=
 ⟨hr.os.trans hb.os,hr.tape.trans hb.tape,hr.output.trans hb.output,zYe hb.size hr.size,fun k hk=>(hr.low k (zYt hk hN) (fun h=>by have:=hC k h;omega)).trans (hb.block k hk)⟩
theorem zTL (f:Operand->Wq) (x:Operand):(Array.map f #[x]).getD 0 undef=f x:=by simp [Array.getD_eq_getD_getElem?]
theorem zOX (hlc:l.cells=#[l]/\yA l=true):Calls prog 57 #[l] W (Ret W (zPa W 85 43 (wF [l]))):=by
 refine z7 [(wB l).tS] func57 rfl kI ⟨rfl,trivial⟩ fun a s=> ?_
 refine zYa ?_
 refine zB 0 [] hmix s kI
  zD fun a w1 s=> ?_
 refine yG (wF [l]) rfl s kI (fun v W h=>zJC h hlc.1 hlc.2) fun b1 a w s=> ?_
 refine yP (wB (.nilFunc)) rfl s kI iiz fun a w s=> ?_
 refine zA rfl ?_
 refine zYa ?_
 replace s:=s.drop [2]
 refine zB 2 ((3,.Z (wB (.func (.func 85) #[] #[pO b1 0])))::(2,.u (wB (.func (.func 85) #[] #[pO b1 0]))):: []) hmix s kI
  (oc (zGq (fun u W hb (h:(wL b1 (wF [l]).cf).p u W)=>by rw [h.1];rfl))<|oc zG<|zD) fun a w2 s=> ?_
 refine zA rfl ?_
 refine zYc ?_
 obtain ⟨cs,e1,e2,e3⟩:=s.boxAt (c:=1) rfl
 exact StS.resN s (zYv _ _) rfl ⟨b1,cs,s.val (.head _),s.inB_new ⟨_,.head _,rfl,rfl⟩,e1,e2,e3⟩
theorem zME {w_:Wp} {b:Nat} (hh:w_.heap[b]?=some (.cells #[l] 43 (0,0))) (hl:(wD 1 (rrv L)).p l w0) (hL:RR.ok m L w0) (hb0:bW w0 w_) (hCl: ∀k,C k->k<w_.heap.size) (hC0: ∀k,C k->w0.heap.size<=k) (hCb: ¬C b) (hm:m<=990) (hm0:0<m) (hnP: ∀x,x∈L->x.2.length<=1000000) (hnL:L.length<=1000000) (hT:Tab w0):
  ItD prog 85 #[pO b 0] (eH m L) (zEs L).length C w_:=by
 intro l_ J Z W hwW hbW hkW hJs hZs hround hJ0
 have hlc:=zHa hl
 have hw0:w0.heap.size<=w_.heap.size:=hb0.size
 have hbW0:bW w0 W:=hb0.trans (hbW.mono hb0.size)
 have hlW:=(wD 1 (rrv L)).st _ _ _ hl hbW0
 have hLW:RR.ok m L W:=hL.below hbW0
 have hhW:W.heap[b]?=some (.cells #[l] 43 (0,0)):=(hbW.block b (zYr.1 hh).1).trans hh
 refine zOR func85 rfl ?_
 have s:=zNM (w:=W) (fn:=f85) (args:=#[.func (.yield l_) #[] #[]]++#[pO b 0]) noS [(0,wB (.func (.yield l_) #[] #[]))] [⟨1,43,wF [l],b,true⟩] kI (fun q hq=>by obtain rfl:=zYf.1 hq;exact ⟨by simp,rfl⟩) ⟨⟨[l],rfl,.inl rfl,hhW,rfl,by simp [hlc.2],fun y hy=>by cases hy⟩,trivial⟩ (fun x hx=>by obtain rfl:=zYf.1 hx;show 1<2;decide)
 generalize ({ tmps:=#[.func (.yield l_) #[] #[]]++#[pO b 0]++Array.replicate (f85.ntmps - (#[.func (.yield l_) #[] #[]]++#[pO b 0]:Array Wq).size) undef,defers:= [] }:Act)=a at s ⊢
 refine zYa ?_
 refine zB 3 ((8,.u (wB l))::(9,.u (uI ((rrv L).length:Int)))::(10,.u (uI 0)):: []) hmix s kI
  (oc (zAg (C:=(wF [l]).cf) kI (fun _ _ h=>h.2) zDQ)<|oc (yW (z:=1) (Cs:=rrv L) kI (fun v W hb h=>(yU hlW h (s.up hb))) (fun _=>rfl))<|oc zC<|zD) fun a w1 s=> ?_
 refine zA rfl ?_
 refine zYd ?_
 have hJw:J 0 (fun _=>False) w1:=hJs _ _ _ _ _ hJ0 s.below (fun q hq=>hq.elim)
 have hBw0:bW w0 w1:=hbW0.trans (s.below.mono hbW0.size)
 have hW0:=s.gr.size
 replace s:=(s.keepK [(0,.u (wB (.func (.yield l_) #[] #[]))),(8,.u (wB l)),(9,.u (uI ((rrv L).length:Int))),(10,.u (uI ((0:Nat):Int)))] (fmz ⟨mz3,fmz ⟨.head _,fmz ⟨mz1,fmz ⟨mz2,fnz⟩⟩⟩⟩)).self (qY kI)
 refine zEh (fun k a w=>k<=L.length/\J (yC L k).length (fun _=>False) w/\bW w0 w/\W.heap.size<=w.heap.size/\StS (inB [⟨1,43,wF [l],b,true⟩]) w [(0,.u (wB (.func (.yield l_) #[] #[]))),(8,.u (wB l)),(9,.u (uI ((rrv L).length:Int))),(10,.u (uI ((k:Nat):Int)))] [⟨1,43,wF [l],b,true⟩] f85.ntmps [] a w) (fun k=>L.length - k) 0 ⟨zYj _,hJw,hBw0,hW0,s⟩ fun k a w ⟨hk',hJ,hBw,hWs,s⟩=> ?_
 replace s:=s.toSt (fun q ⟨x,hx,_,hr⟩=>by obtain rfl:=zYf.1 hx;cases hr) rfl
 have hlw:=(wD 1 (rrv L)).st _ _ _ hl hBw
 have hLw:RR.ok m L w:=hL.below hBw
 have hTo:=hT
 have hT:=hTo.below hBw
 have hlz:(rrv L).length=L.length:=by simp
 refine zYa ?_
 refine zB 1 ((11,.u (uB (ltz k ((rrv L).length)))):: []) hmix s kI
  (oc (zR .i64 (k:Int) ((rrv L).length:Int) (ltz k ((rrv L).length)) iiz iiz rfl rfl)<|zD) fun a w2 s=> ?_
 refine zA rfl ?_
 refine zYa ?_
 refine StS.cond s (ltz k ((rrv L).length)) iiz (fun e=> ?_) (fun e=> ?_)
 ·have hk:k<L.length:=by have h7:=zYg e;rw [hlz] at h7;omega
  have hqk:=zJi hm0 (hLw _ (zBP hk))
  refine zYb ?_
  refine zYa ?_
  refine zYd ?_
  refine zYa ?_
  refine zB 3 ((12,.s (wE (wF [(rat L k).1]).cf))::(13,.Z (wB ((rat L k).1)))::(4,.u (wB ((rat L k).1))):: []) hmix s kI
   (oc (yL (z:=1) (Cs:=rrv L) (i:=k) (C:=wF [(rat L k).1]) kI (zGc hk) (fun v W hb h=>(yU hlw h (s.up hb))) iiz)<|oc (zAg (C:=(wF [(rat L k).1]).cf) kI iiz zDQ)<|oc zG<|zD) fun a w3 s=> ?_
  refine zA rfl ?_
  refine zYa ?_
  have hbk:=s.gr.size
  have hbg:W.heap.size<=w3.heap.size:=zYe hWs s.gr.size
  refine zB5 2 ((14,.Z (wB ((rat L k).1)))::(15,.s (wJ w3 30 6 (pns ((rat L k).2)))):: []) s kI
   (oc zC<|oc (zH zE zTT (fun u0 W hb (h0:u0=(rat L k).1)=>(zKQ (by rw [show _=(rat L k).1 from h0];exact (wD 6 (pvs m ((rat L k).2))).st _ _ _ (hLw _ (zBP hk)) (s.up hb)) oP hm0 (hnP _ (zBP hk)) (hT.below (s.up hb))).mono (wI (zBd hb.size))))<|zD) fun a w4 s hr=> ?_
  obtain ⟨v15,e15⟩: ∃v,a.tmps.getD 15 undef=v:=⟨_,rfl⟩
  have hR15:zAE w4 _ 30 6 v15 (pns ((rat L k).2)):=e15▸(hr (_,_) mz1)
  have hR15k:=hR15.mono hbk
  replace hR15:=hR15.mono hbg
  replace s:=s.learn 15 v15 e15
  replace s:=s.drop [4]
  have hW4:W.heap.size<=w4.heap.size:=zYe hWs s.gr.size
  have hB4:=hBw.trans (s.below.mono hBw.size)
  have hJ4:J (yC L k).length (fun q=>v15.ownBlock=some q) w4:=hJs _ _ _ _ _ hJ s.below (fun q hq=> .inr (hR15k.lt q hq).1)
  replace s:=s.reb rfl [(15,.u (wB v15)),(11,.u (uB (ltz k ((rrv L).length)))),(0,.u (wB (.func (.yield l_) #[] #[]))),(8,.u (wB l)),(9,.u (uI ((rrv L).length:Int))),(10,.u (uI (k:Int)))] (fmz ⟨.inl (.head _),fmz ⟨.inl mz1,fmz ⟨.inl mz2,fmz ⟨.inl mz3,fmz ⟨.inl mz4,fmz ⟨.inl mz5,fnz⟩⟩⟩⟩⟩⟩)
  have hv15:(wD 6 (pvs m ((rat L k).2))).p v15 w4:=zCx hqk _ _ hR15.row
  refine yP (wB v15) rfl s kI iiz fun a w s=> ?_
  refine zA rfl ?_
  refine zYa ?_
  refine zB 3 ((16,.u (wB v15))::(17,.u (uI (((pvs m ((rat L k).2)).length:Nat):Int)))::(18,.u (uI 0)):: []) hmix s kI
   (oc zC<|oc (yW (z:=6) (Cs:=pvs m ((rat L k).2)) kI (fun v W hb h=>(yU hv15 h (s.up hb))) (fun _=>rfl))<|oc zC<|zD) fun a w5 s=> ?_
  refine zA rfl ?_
  refine zYd ?_
  have hlzP:(pvs m ((rat L k).2)).length=(rat L k).2.length:=by simp
  have hR16:=hR15.below s.below
  have hJ5:=hJs _ _ _ _ _ hJ4 s.below (fun q hq=> .inl hq)
  have hB5:=hB4.trans (s.below.mono hB4.size)
  have hW5:W.heap.size<=w5.heap.size:=zYe hW4 s.gr.size
  replace s:=(s.keepK [(0,.u (wB (.func (.yield l_) #[] #[]))),(8,.u (wB l)),(9,.u (uI ((rrv L).length:Int))),(10,.u (uI (k:Int))),(4,.u (wB v15)),(16,.u (wB v15)),(17,.u (uI (((pvs m ((rat L k).2)).length:Nat):Int))),(18,.u (uI ((0:Nat):Int)))] (fmz ⟨mz6,fmz ⟨mz7,fmz ⟨mz8,fmz ⟨mz9,fmz ⟨mz3,fmz ⟨.head _,fmz ⟨mz1,fmz ⟨mz2,fnz⟩⟩⟩⟩⟩⟩⟩⟩)).self (qY kI)
  refine zEh (fun j a w=>j<=(rat L k).2.length/\J ((yC L k).length+j) (fun q=>v15.ownBlock=some q) w/\bW w0 w/\W.heap.size<=w.heap.size/\zAE w W.heap.size 30 6 v15 (pns ((rat L k).2))/\StS (inB [⟨1,43,wF [l],b,true⟩]) w [(0,.u (wB (.func (.yield l_) #[] #[]))),(8,.u (wB l)),(9,.u (uI ((rrv L).length:Int))),(10,.u (uI (k:Int))),(4,.u (wB v15)),(16,.u (wB v15)),(17,.u (uI (((pvs m ((rat L k).2)).length:Nat):Int))),(18,.u (uI ((j:Nat):Int)))] [⟨1,43,wF [l],b,true⟩] f85.ntmps [] a w) (fun j=>(rat L k).2.length - j) 0 ⟨zYj _,hJ5,hB5,hW5,hR16,s⟩ fun j a w ⟨hj',hJj,hBj,hWj,hRj,s⟩=> ?_
  replace s:=s.toSt (fun q ⟨x,hx,_,hr⟩=>by obtain rfl:=zYf.1 hx;cases hr) rfl
  have hT:=hTo.below hBj
  have hv15:(wD 6 (pvs m ((rat L k).2))).p v15 w:=zCx hqk _ _ hRj.row
  refine zYa ?_
  refine zB 1 ((19,.u (uB (ltz j ((pvs m ((rat L k).2)).length)))):: []) hmix s kI
   (oc (zR .i64 (j:Int) (((pvs m ((rat L k).2)).length:Nat):Int) (ltz j ((pvs m ((rat L k).2)).length)) iiz iiz rfl rfl)<|zD) fun a w6 s=> ?_
  refine zA rfl ?_
  refine zYa ?_
  refine StS.cond s (ltz j ((pvs m ((rat L k).2)).length)) iiz (fun e=> ?_) (fun e=> ?_)
  ·have hj:j<(rat L k).2.length:=by have h7:=zYg e;rw [hlzP] at h7;omega
   have hj1:(j+1) % (rat L k).2.length<(rat L k).2.length:=Nat.mod_lt _ oP
   refine zYb ?_
   refine zYa ?_
   refine zYd ?_
   refine zYa ?_
   refine zB 3 ((20,.u (uI (j:Int)))::(21,.Y (fPV m (at_ (rat L k).2 j)))::(22,.u (fPV m (at_ (rat L k).2 j))):: []) hmix s kI
    (oc zC<|oc (yL (z:=6) (Cs:=pvs m ((rat L k).2)) (i:=j) (C:=wC (fPV m (at_ (rat L k).2 j))) kI (qI hj) (fun v W hb h=>(yU hv15 h (s.up hb))) iiz)<|oc (zJ (f:=fPV m (at_ (rat L k).2 j)) 6 kI (hz:=zO _ _))<|zD) fun a w7 s=> ?_
   refine zZ (CU.len 6) (cs:=zP6) kI rfl s kI (fun W=>rfl) rfl fun b6 a w s=> ?_
   refine yP (uI (j:Int)) rfl s kI iiz fun a w s=> ?_
   refine zS (wC (fPV m (at_ (rat L k).2 j))) ((fPV m (at_ (rat L k).2 j)).tS) rfl s kI rfl rfl rfl iiz iiz yV fun a w s=> ?_
   refine zA rfl ?_
   refine zYa ?_
   have so:=s.old;have sg:=s.gr
   refine zBy (fun i=> [].contains i) [⟨10,7,64, [.bool false, sN, sN,.bool false, sN, sN,.bool false, sN, sN,.bool false, sN, sN],wM w 64 (CU.len 12)⟩] 11 ((23,.Z (fPV m (at_ (rat L k).2 j)))::(24,.Z (wB v15))::(25,.Z (uI (j:Int)))::(26,.Z (uI ((j+1:Nat):Int)))::(27,.Z (wB v15))::(28,.Z (uI (((pvs m ((rat L k).2)).length:Nat):Int)))::(29,.Z (uI ((((j+1) % (rat L k).2.length):Nat):Int)))::(30,.Y (fPV m (tn (rat L k).2 j)))::(31,.Z (fPV m (tn (rat L k).2 j)))::(32,.u (fPR (fPV m (at_ (rat L k).2 j)) (fPV m (tn (rat L k).2 j))))::(7,.s (wM w 64 (CU.len 12))):: []) hmix s (fmz ⟨⟨by show 10<11;decide,zNs,⟨_,_,_,rfl⟩,by kernel_rfl,zBS (fun _=>rfl) rfl⟩,fnz⟩) kI
    (oc (zJ (f:=fPV m (at_ (rat L k).2 j)) 6 kI (hz:=zO _ _))<|oc zC<|oc zC<|oc (yM .i64 (j:Int) 1 ((j+1:Nat):Int) iiz iiz (by have:=hnP _ (zBP hk);rw [zYn];omega))<|oc zC<|oc (yW (z:=6) (Cs:=pvs m ((rat L k).2)) kI (fun v W hb h=>(yU hv15 h (s.up hb))) (fun _=>rfl))<|oc (zCa .i64 ((j+1:Nat):Int) (((pvs m ((rat L k).2)).length:Nat):Int) ((((j+1) % (rat L k).2.length):Nat):Int) iiz iiz (by rw [hlzP];omega) (by rw [hlzP];exact zD9 _ _))<|oc (yL (z:=6) (Cs:=pvs m ((rat L k).2)) (i:=((j+1) % (rat L k).2.length)) (C:=wC (fPV m (tn (rat L k).2 j))) kI (qI hj1) (fun v W hb h=>(yU hv15 h (s.up hb))) iiz)<|oc (zJ (f:=fPV m (tn (rat L k).2 j)) 6 kI (hz:=zO _ _))<|oc (y6 (fun u v W (hu:(fPV m (at_ (rat L k).2 j)).p u W) (hv:(fPV m (tn (rat L k).2 j)).p v W)=>zWK hu hv))<|oc (zCU (cs:= [.bool false, sN, sN,.bool false, sN, sN,.bool false, sN, sN,.bool false, sN, sN]) kI (zBS (fun _=>rfl) rfl))<|zD) fun Q' hQ a w8 s hr hd=> ?_
   obtain ⟨b7,hB7,e7,s⟩:=s.adoptA false 7 (hr (_,_) zNs) sg (fun y hy=> .inl (so y hy))
   refine zS (wC (fPR (fPV m (at_ (rat L k).2 j)) (fPV m (tn (rat L k).2 j)))) ((fPR (fPV m (at_ (rat L k).2 j)) (fPV m (tn (rat L k).2 j))).tS) rfl s kI rfl rfl rfl iiz iiz zBK fun a w s=> ?_
   refine zA rfl (hQ _ _ ?_)
   refine zYa ?_
   refine zYa ?_
   refine zB 6 ((33,.X (fPR (fPV m (at_ (rat L k).2 j)) (fPV m (tn (rat L k).2 j))) 0)::(34,.Z (fPV m (at_ (rat L k).2 j)))::(35,.X (fPR (fPV m (at_ (rat L k).2 j)) (fPV m (tn (rat L k).2 j))) 6)::(36,.Z (fPV m (tn (rat L k).2 j)))::(37,.Z (uI (jI (at_ (rat L k).2 j) (tn (rat L k).2 j))))::(38,.u (uB (decide (jI (at_ (rat L k).2 j) (tn (rat L k).2 j)>0)))):: []) hmix s kI
    (oc (zL (C:=cg (fPR (fPV m (at_ (rat L k).2 j)) (fPV m (tn (rat L k).2 j)))) 0 kI)<|oc (zT (C:=cg (fPR (fPV m (at_ (rat L k).2 j)) (fPV m (tn (rat L k).2 j)))) (k:=0) 6 kI (h:=zE9))<|oc (zL (C:=cg (fPR (fPV m (at_ (rat L k).2 j)) (fPV m (tn (rat L k).2 j)))) 6 kI)<|oc (zT (C:=cg (fPR (fPV m (at_ (rat L k).2 j)) (fPV m (tn (rat L k).2 j)))) (k:=6) 6 kI (h:=zFQ))<|oc (zI zE zVi (fun u0 u1 W hb (h0:(fPV m (at_ (rat L k).2 j)).p u0 W) (h1:(fPV m (tn (rat L k).2 j)).p u1 W)=>zSy h0 h1 oP hm0 (hT.below (s.up hb))))<|oc (zR .i64 (jI (at_ (rat L k).2 j) (tn (rat L k).2 j)) 0 (decide (jI (at_ (rat L k).2 j) (tn (rat L k).2 j)>0)) iiz iiz rfl rfl)<|zD) fun a w9 s=> ?_
   refine zA rfl ?_
   refine StS.cond s (decide (jI (at_ (rat L k).2 j) (tn (rat L k).2 j)>0)) iiz (fun e=> ?_) (fun e=> ?_)
   ·have eS:=e
    refine zB 5 ((39,.X (fPR (fPV m (at_ (rat L k).2 j)) (fPV m (tn (rat L k).2 j))) 6)::(40,.u (fPV m (tn (rat L k).2 j)))::(41,.X (fPR (fPV m (at_ (rat L k).2 j)) (fPV m (tn (rat L k).2 j))) 0)::(42,.u (fPV m (at_ (rat L k).2 j)))::(43,.u (wB (pO b7 0))):: []) hmix s kI
     (oc (zL (C:=cg (fPR (fPV m (at_ (rat L k).2 j)) (fPV m (tn (rat L k).2 j)))) 6 kI)<|oc (zT (C:=cg (fPR (fPV m (at_ (rat L k).2 j)) (fPV m (tn (rat L k).2 j)))) (k:=6) 6 kI (h:=zFQ))<|oc (zL (C:=cg (fPR (fPV m (at_ (rat L k).2 j)) (fPV m (tn (rat L k).2 j)))) 0 kI)<|oc (zT (C:=cg (fPR (fPV m (at_ (rat L k).2 j)) (fPV m (tn (rat L k).2 j)))) (k:=0) 6 kI (h:=zE9))<|oc (y9 (b:=b7) (o:=0) 0 kI (fun _ _ h=>h.1))<|zD) fun a w10 s=> ?_
    refine q6 (c:=7) (o:=0) (kk:=6) (wC (fPR (fPV m (tn (rat L k).2 j)) (fPV m (tn (rat L k).2 j)))) ((fPV m (tn (rat L k).2 j)).tS) rfl s kI rfl rfl iiz iiz zSJ fun a w s=> ?_
    refine zAS (wB (pO b7 6)) rfl s kI (y9 (b:=b7) (o:=0) 6 kI (fun _ _ h=>h.1)) kI fun a w s=> ?_
    refine q6 (c:=7) (o:=6) (kk:=6) (wC (fPR (fPV m (tn (rat L k).2 j)) (fPV m (at_ (rat L k).2 j)))) ((fPV m (at_ (rat L k).2 j)).tS) rfl s kI rfl rfl iiz iiz zSI fun a w s=> ?_
    refine zA rfl ?_
    refine zYa ?_
    refine zB 2 ((45,.u (wB (.func (.yield l_) #[] #[])))::(46,.u (fPR (fPV m (tn (rat L k).2 j)) (fPV m (at_ (rat L k).2 j)))):: []) hmix s kI
     (oc zC<|oc (zJ (f:=fPR (fPV m (tn (rat L k).2 j)) (fPV m (at_ (rat L k).2 j))) 12 kI (hz:=zC7))<|zD) fun a w11 s=> ?_
    have hJ1:J ((yC L k).length+j) (fun q=>v15.ownBlock=some q) w11:=hJs _ _ _ _ _ hJj s.below (fun q hq=> .inl hq)
    have hB1:bW w0 w11:=hBj.trans (s.below.mono hBj.size)
    have hRy:=hRj.below s.below
    have hws:=s.gr.size
    replace s:=s.popB
    replace s:=s.popB
    have hcx: ∀x,x∈([⟨1,43,wF [l],b,true⟩]:List Bx)->x.b<w_.heap.size/\ ¬C x.b:=fun x hx=>by obtain rfl:=zYf.1 hx;exact ⟨(zYr.1 hh).1,hCb⟩
    refine zIU rfl s iiz kI (qY kI) hcx (hround _ _ _ _ (zQb hk hj) hJ1 (fun q hq=>hRy.lt q hq) ⟨by simp,fun i f hi=> ?_⟩) fun a w bv hr hbv s=> ?_
    ·match i,hi with
     |0,hi=>obtain rfl:=Option.some.inj hi;rw [zTL,zQu hk hj,zSk eS];exact s.at.sl 46
    have hB2:=zFL hB1 hr hw0 hC0
    have hR2:=hRy.keep (fun q hq=>hr.own q hq) hr.keep
    have hsz2:=hr.size
    have hbz:bv=false->Z w:=fun e2=>by rcases hbv with ⟨e3,_⟩|⟨_,hz⟩;rw [e2] at e3;cases e3;exact hz
    have hbj:bv=true->J ((yC L k).length+j+1) (fun q=>v15.ownBlock=some q) w:=fun e2=>by rcases hbv with ⟨_,hj⟩|⟨e3,_⟩;exact hj;rw [e2] at e3;cases e3
    replace s:=s.toSt (fun q ⟨x,hx,_,hr⟩=>by obtain rfl:=zYf.1 hx;cases hr) rfl
    refine zAS (uB (!bv)) rfl s kI (zCy bv iiz (fun _=>rfl)) kI fun a w s=> ?_
    refine zA rfl ?_
    refine StS.cond s (!bv) iiz (fun e=> ?_) (fun e=> ?_)
    ·have hz:=hbz (by simpa using e)
     refine zYc ?_
     exact ⟨s.nd,.tuple #[],by simp [results,results85],⟨_,rfl⟩,.inr (hZs _ _ hz s.below)⟩
    ·have hJ2:=hbj (by simpa using e)
     refine zYb ?_
     refine zX 1 ((49,.u (uI ((j+1:Nat):Int))):: []) s kI
      (oc (yM .i64 (j:Int) 1 ((j+1:Nat):Int) iiz iiz (by have:=hnP _ (zBP hk);rw [zYn];omega))<|zD) fun a w12 s=> ?_
     replace s:=s.drop [18]
     refine zAS (uI ((j+1:Nat):Int)) rfl s kI zC kI fun a w s=> ?_
     refine zA rfl ?_
     have hsz4:=s.gr.size
     exact ⟨j+1,by show (rat L k).2.length - (j+1)<(rat L k).2.length - j;omega,hj,hJs _ _ _ _ _ hJ2 s.below (fun q hq=> .inl hq),hB2.trans (s.below.mono hB2.size),by omega,hR2.below s.below,(s.keepK _ (fmz ⟨.tail _ zJs,fmz ⟨.tail _ (.tail _ zJs),fmz ⟨.tail _ (.tail _ (.tail _ zJs)),fmz ⟨.tail _ (.tail _ (.tail _ (.tail _ zJs))),fmz ⟨.tail _ (.tail _ (.tail _ (.tail _ (.tail _ zJs)))),fmz ⟨.tail _ (.tail _ (.tail _ (.tail _ (.tail _ (.tail _ zJs))))),fmz ⟨.tail _ (.tail _ (.tail _ (.tail _ (.tail _ (.tail _ (.tail _ zJs)))))),fmz ⟨.head _,fnz⟩⟩⟩⟩⟩⟩⟩⟩)).self (qY kI)⟩
   ·have eS:=e
    refine zYb ?_
    refine zYa ?_
    refine zB 2 ((45,.u (wB (.func (.yield l_) #[] #[])))::(46,.u (fPR (fPV m (at_ (rat L k).2 j)) (fPV m (tn (rat L k).2 j)))):: []) hmix s kI
     (oc zC<|oc (zJ (f:=fPR (fPV m (at_ (rat L k).2 j)) (fPV m (tn (rat L k).2 j))) 12 kI (hz:=zC7))<|zD) fun a w13 s=> ?_
    have hJ1:J ((yC L k).length+j) (fun q=>v15.ownBlock=some q) w13:=hJs _ _ _ _ _ hJj s.below (fun q hq=> .inl hq)
    have hB1:bW w0 w13:=hBj.trans (s.below.mono hBj.size)
    have hRy:=hRj.below s.below
    have hws:=s.gr.size
    replace s:=s.popB
    replace s:=s.popB
    have hcx: ∀x,x∈([⟨1,43,wF [l],b,true⟩]:List Bx)->x.b<w_.heap.size/\ ¬C x.b:=fun x hx=>by obtain rfl:=zYf.1 hx;exact ⟨(zYr.1 hh).1,hCb⟩
    refine zIU rfl s iiz kI (qY kI) hcx (hround _ _ _ _ (zQb hk hj) hJ1 (fun q hq=>hRy.lt q hq) ⟨by simp,fun i f hi=> ?_⟩) fun a w bv hr hbv s=> ?_
    ·match i,hi with
     |0,hi=>obtain rfl:=Option.some.inj hi;rw [zTL,zQu hk hj,zSl eS];exact s.at.sl 46
    have hB2:=zFL hB1 hr hw0 hC0
    have hR2:=hRy.keep (fun q hq=>hr.own q hq) hr.keep
    have hsz2:=hr.size
    have hbz:bv=false->Z w:=fun e2=>by rcases hbv with ⟨e3,_⟩|⟨_,hz⟩;rw [e2] at e3;cases e3;exact hz
    have hbj:bv=true->J ((yC L k).length+j+1) (fun q=>v15.ownBlock=some q) w:=fun e2=>by rcases hbv with ⟨_,hj⟩|⟨e3,_⟩;exact hj;rw [e2] at e3;cases e3
    replace s:=s.toSt (fun q ⟨x,hx,_,hr⟩=>by obtain rfl:=zYf.1 hx;cases hr) rfl
    refine zAS (uB (!bv)) rfl s kI (zCy bv iiz (fun _=>rfl)) kI fun a w s=> ?_
    refine zA rfl ?_
    refine StS.cond s (!bv) iiz (fun e=> ?_) (fun e=> ?_)
    ·have hz:=hbz (by simpa using e)
     refine zYc ?_
     exact ⟨s.nd,.tuple #[],by simp [results,results85],⟨_,rfl⟩,.inr (hZs _ _ hz s.below)⟩
    ·have hJ2:=hbj (by simpa using e)
     refine zYb ?_
     refine zX 1 ((49,.u (uI ((j+1:Nat):Int))):: []) s kI
      (oc (yM .i64 (j:Int) 1 ((j+1:Nat):Int) iiz iiz (by have:=hnP _ (zBP hk);rw [zYn];omega))<|zD) fun a w14 s=> ?_
     replace s:=s.drop [18]
     refine zAS (uI ((j+1:Nat):Int)) rfl s kI zC kI fun a w s=> ?_
     refine zA rfl ?_
     have hsz4:=s.gr.size
     exact ⟨j+1,by show (rat L k).2.length - (j+1)<(rat L k).2.length - j;omega,hj,hJs _ _ _ _ _ hJ2 s.below (fun q hq=> .inl hq),hB2.trans (s.below.mono hB2.size),by omega,hR2.below s.below,(s.keepK _ (fmz ⟨zWy,fmz ⟨zWx,fmz ⟨zWe,fmz ⟨zJs,fmz ⟨.tail _ zJs,fmz ⟨.tail _ (.tail _ zJs),fmz ⟨.tail _ (.tail _ (.tail _ zJs)),fmz ⟨.head _,fnz⟩⟩⟩⟩⟩⟩⟩⟩)).self (qY kI)⟩
  ·have hjN:j=(rat L k).2.length:=by have h7:=zYh e;rw [hlzP] at h7;omega
   refine zYk ?_
   refine zX 1 ((50,.u (uI ((k+1:Nat):Int))):: []) s kI
    (oc (yM .i64 (k:Int) 1 ((k+1:Nat):Int) iiz iiz (by rw [zYn];omega))<|zD) fun a w15 s=> ?_
   replace s:=s.drop [10]
   refine zAS (uI ((k+1:Nat):Int)) rfl s kI zC kI fun a w s=> ?_
   refine zA rfl ?_
   have hsz4:=s.gr.size
   have hJ9:=hJs _ _ (fun _=>False) _ _ hJj s.below (fun q hq=>hq.elim)
   rw [hjN, <-zYw, <-zB1 hk] at hJ9
   exact ⟨k+1,by show L.length - (k+1)<L.length - k;omega,hk,hJ9,hBj.trans (s.below.mono hBj.size),by omega,(s.keepK _ (fmz ⟨mz3,fmz ⟨mz4,fmz ⟨mz5,fmz ⟨.head _,fnz⟩⟩⟩⟩)).self (qY kI)⟩
 ·have hkN:k=L.length:=by have h7:=zYh e;rw [hlz] at h7;omega
  refine zYk ?_
  exact ⟨s.nd,.tuple #[],by simp [results,results85],⟨_,rfl⟩,.inl ⟨_,by rw [zJT, <-hkN];exact hJs _ _ _ _ _ hJ s.below (fun q hq=> .inl hq)⟩⟩
section
variable {S:Nat->Prop} {w0:Wp} {K:List (Nat×KF)} {B:List Bx} {n:Nat} {ds:List Deferred} {a:Act} {w:Wp}
theorem StS.wider (h:StS S w0 K B n [] a w) (S2:Nat->Prop) (hS: ∀q,S q->S2 q) (hu:(K.all fun q=>zNt q.2)=true):StS S2 w0 K B n [] a w:=by
 have hu:=qY hu
 refine ⟨h.gr.sub hS,h.size,h.nd,fun q hq=> ?_,wP (a:=a) B (fun x hx=> ?_) (fun _ _=>rfl) h.bx,⟨[],Marks.nil _ _⟩,.inl hu⟩
 ·obtain ⟨f,e⟩:=hu q hq
  have:=h.sl q hq
  rw [e] at this ⊢
  exact this
 ·obtain ⟨cs,_,h2,_⟩:=h.bx.mem x hx
  rcases h2 with e|e|e
  ·exact .inl e
  ·exact .inr (.inl e)
  ·exact .inr (.inr (hS _ e))
theorem vK (h0:StS S w0 K0 B0 n0 ds0 a0 w1) (h:StS S' w1 K B n [] a w) (hS: ∀q,S' q->S q∨w0.heap.size<=q) (hu:(K.all fun q=>zNt q.2)=true):StS S w0 K B n [] a w:=by
 have hu:=qY hu
 refine ⟨⟨h.gr.os.trans h0.gr.os,h.gr.tape.trans h0.gr.tape,h.gr.output.trans h0.gr.output,zYe h0.gr.size h.gr.size,fun k hk hn=>(h.gr.block k (zYt hk h0.gr.size) fun hh=>by
  rcases hS k hh with e|e
  ·exact hn e
  ·omega).trans (h0.gr.block k hk hn)⟩,h.size,h.nd,fun q hq=> ?_,wP (a:=a) B (fun x hx=> ?_) (fun _ _=>rfl) h.bx,⟨[],Marks.nil _ _⟩,.inl hu⟩
 ·obtain ⟨f,e⟩:=hu q hq
  have:=h.sl q hq
  rw [e] at this ⊢
  exact this
 ·obtain ⟨cs,_,h2,_⟩:=h.bx.mem x hx
  rcases h2 with e|e|e
  ·exact .inl e
  ·exact .inr (.inl (zYe h0.gr.size e))
  ·rcases hS _ e with e|e
   ·exact .inr (.inr e)
   ·exact .inr (.inl e)
end
theorem zMs {w':Wp} (h:Oth N w w'):zFH w w':=⟨by rw [h.size];exact zYm _,fun q o ho hc=>by
 rcases h.block q with e|⟨_,⟨o2,h2,h3⟩,_⟩
 ·exact e.trans ho
 ·rw [ho] at h2
  cases h2
  rw [hc] at h3
  cases h3⟩
theorem zHc (h:zAE w base e z v Cs): ∃A n c,v= .slice A n c:=by
 rcases h with ⟨rfl,_⟩|⟨g,cap,cur,rfl,_⟩<;>exact ⟨_,_,_,rfl⟩
theorem zJ5 (h:zAE w base e z v Cs) {q:Nat} (hq:v.ownBlock=some q):q<w.heap.size/\ ∃(cs:Array Wq) (t:Wr) (y:Nat×Nat),w.heap[q]?=some (.cells cs t y)/\cs.toList.all yA=true:=by
 refine ⟨(h.lt q hq).2, ?_⟩
 rcases h with ⟨rfl,_⟩|⟨g,cap,cur,rfl,h2,h3,h4,h5,h6,h7,h8⟩
 ·simp [Value.ownBlock] at hq
 ·simp [Value.ownBlock] at hq
  subst hq
  exact ⟨cur,_,_,h3,h7⟩
theorem zUK {C:CU} (hC: ∀cs W,C.p cs W->cs.length=1) (v:Wq) (W:Wp) (h:(wB (.slice A n c)).p v W):v.cells.size=1/\(∀u,u∈v.cells.toList->u.oneCell'=true)/\v.cells.toList.all yA=true/\ ∀cs,C.p cs W->0+1<=cs.length/\(wF [.slice A n c]).p (jV cs 0 v.cells.toList) W:=by
 obtain rfl:v=_:=h
 refine ⟨rfl,fun u hu=>by simp [Value.cells] at hu;rw [hu];rfl,rfl,fun cs hc=> ?_⟩
 obtain ⟨c,rfl⟩:=List.length_eq_one_iff.1 (hC cs W hc)
 exact ⟨by simp,rfl⟩
section
variable {F:Fence} {m:Nat} {P:Program} {w0:Wp} {ops:Array Oper} {G:Nat->SF} {d:Tmp} {ty:Wr} {pos:String} {aft:Array Edge}
theorem zTr {f:SF} (hk:zDm P t=true) (hx: ∀u W,(fct G x).p u W->(wE (wF [v]).cf).p u W) (hf:f.p v w0) (hd: ∀u W,f.p u W->(G d).p u W:=by exact fun _ _ h=>h):qK F m P w0 ops G ⟨some d,.load t x,ty,pos,aft,none⟩:=
 qJ (fun _ e=>by cases e) (fun _ e=>by cases e) fun b W hb hh=>by
  obtain ⟨a,q,cs,e,h2,h3⟩:=hx _ _ (hh x (by simp [Op.operands]))
  obtain rfl:cs= [v]:=h2
  exact ⟨_,by simp [execOp,Instr.loadAt,e,Instr.sureAddr,zBc hk h3 (u:=v) rfl],hd _ _ (f.st _ _ _ hf hb)⟩
end
theorem zTA (h:cs.length=12): ∃u0 u1 u2 u3 u4 u5 u6 u7 u8 u9 u10 u11,cs= [u0,u1,u2,u3,u4,u5,u6,u7,u8,u9,u10,u11]:=by
 match cs,h with
 | [u0,u1,u2,u3,u4,u5,u6,u7,u8,u9,u10,u11],_=>exact ⟨u0,u1,u2,u3,u4,u5,u6,u7,u8,u9,u10,u11,rfl⟩
theorem zWp (u0 u1 u2 u3 u4 u5 u6 u7 u8 u9 u10 u11:Wq):z5 prog 58 1 [(0,.agg #[u0,u1,u2,u3,u4,u5,u6,u7,u8,u9,u10,u11])]=some (64,#[u0,u1,u2,u3,u4,u5,u6,u7,u8,u9,u10,u11]):=by kernel_rfl
theorem zST (h:(fPR (fPT f g) (fPT f' g')).p u W): ∃e cs,z5 prog 58 1 [(0,u)]=some (e,cs)/\(wD 12 [wC (fPR (fPT f g) (fPT f' g'))]).p (.slice (some ⟨W.heap.size,0,none⟩) 1 1) (W.alloc (.cells cs e)):=by
 obtain ⟨a,b,rfl,h1⟩:=id h
 obtain ⟨u0,u1,u2,u3,u4,u5,u6,u7,u8,u9,u10,u11,e⟩:=zTA (zKh _ _ h).1
 rw [e] at h ⊢
 refine ⟨_,_,zWp ..,zGd (Cs:= [wC (fPR (fPT f g) (fPT f' g'))]) (by simp) fun i C hi=> ?_⟩
 obtain rfl:i=0:=by have:=(zYx.1 hi).1;simp at this;omega
 obtain rfl:_=C:=by simpa using hi
 exact ⟨_,fun j u hj=>by rw [Nat.zero_mul,Nat.zero_add];exact hj,h⟩
abbrev egs (m:Nat) (es:List (V2×V2)):List CU:=es.map fun e=>wC (fPR (fPV m e.1) (fPV m e.2))
theorem zPj (h:k<(zEs L).length):egs m ((zEs L).take (k+1))=egs m ((zEs L).take k)++ [wC (fPR (fPV m (eAt L k).1) (fPV m (eAt L k).2))]:=by
 unfold eAt
 rw [List.take_add_one,zYi h,zYp,zYi h]
 unfold egs
 rw [List.map_append]
 rfl
theorem zVP (f g f' g':UF): ∀C,C∈ [wC (fPR (fPT f g) (fPT f' g'))]->CU.ok 12 C:=fun C hC=>by
 obtain rfl:=zYf.1 hC
 exact zKh
section
variable {S:Nat->Prop} {F:Fence} {m:Nat} {P:Program} {Q:Exit->Act->Wp->Prop} {w0:Wp} {K:List (Nat×KF)} {B:List Bx} {n:Nat} {ds:List Deferred} {a:Act} {w:Wp}
theorem zNH (C:CU) {cs:List Wq} (hz:zeroCells P e=some cs) (ho:ops[k]?=some ⟨some d,.alloc e,ty,pos,aft,none⟩) (h:StS S w0 K B n ds a w) (hf:zAc K B n d=true) (hx: ∀W,C.p cs W) (hn:cs.all yA=true)
  (fin: ∀b a w',w.heap.size<=b->StS S w0 K (⟨d,e,C,b,false⟩::B) n ds a w'->zA7 F m P ops Q (k+1) a w'):zA7 F m P ops Q k a w:=by
 have hrun:(Instr.alloc e true (.tuple #[])).run P w= .ok (pO w.heap.size 0) (w.alloc (.cells cs.toArray e (0,0))):=by
  unfold zeroCells at hz
  cases hi:P.info? e with
  |none=>rw [hi] at hz;cases hz
  | some i=>
   rw [hi] at hz
   simp only [Option.bind_some] at hz
   cases hzz:i.zero with
   |none=>rw [hzz] at hz;cases hz
   |some z=>
    rw [hzz] at hz
    simp only [Option.map_some,Option.some.injEq] at hz
    subst hz
    simp [Instr.alloc,zeroValue,typeInfo,hi,hzz,newVar,newRow]
 exact zAX ho rfl (zBL (fun _ e=>by cases e) (fun _ e=>by cases e) (W':=w.alloc (.cells cs.toArray e (0,0))) (v:= pO w.heap.size 0) (by simp [execOp,hrun]) (fin _ _ _ lr (h.lay hf (hx _) hn)))
end
theorem zR2 (hbW:bW w00 W) (hh:W.heap[bc]?=some (.cells #[l] 43 (0,0))) (hl:(wD 1 (rrv L)).p l w00) (hL:RR.ok m L w00) (hm:m<=990) (hm0:0<m) (hnP: ∀x,x∈L->x.2.length<=1000000) (hnL:L.length<=1000000) (hnE:(zEs L).length<=1000000) (hT:Tab w00):Calls prog 84 #[sN,(.func (.func 85) #[] #[pO bc 0])] W (Ret W (wJ W 64 12 (egs m (zEs L)))):=by
 refine zRa [(wB (sN)).tS,(wB (.func (.func 85) #[] #[pO bc 0])).tS] func84 rfl kI ⟨rfl,rfl,trivial⟩ fun a s=> ?_
 replace s:=s.renew [(0,.u (wB (sN))),(1,.u (wB (.func (.func 85) #[] #[pO bc 0])))] (fmz ⟨.inr ⟨_,rfl,.head _⟩,fmz ⟨.inr ⟨_,rfl,mz1⟩,fnz⟩⟩)
 refine zYa ?_
 refine zB 0 [] hmix s kI
  zD fun a w1 s=> ?_
 refine yG (wF [sN]) rfl s kI (fun v W h=>zJC h rfl rfl) fun b2 a w s=> ?_
 refine yP (wB (sN)) rfl s kI iiz fun a w s=> ?_
 refine zA rfl ?_
 refine zYa ?_
 refine zYa ?_
 refine zB 1 ((6,.u (wB (.func (.func 85) #[] #[pO bc 0]))):: []) hmix s kI
  (oc zC<|zD) fun a w2 s=> ?_
 refine zA rfl ?_
 refine zYd ?_
 obtain ⟨cs2,hh2,hc2,_⟩:=s.boxAt (c:=2) rfl
 obtain rfl:cs2= [sN]:=hc2
 obtain ⟨base,hbase⟩: ∃b,b=w2.heap.size:=⟨_,rfl⟩
 have hb2:b2<base:=by rw [hbase];exact s.old _ (.head _)
 have hW2b:W.heap.size<=b2:=s.inB_new ⟨_,.head _,rfl,rfl⟩
 replace s:=s.keepK [(6,.u (wB (.func (.func 85) #[] #[pO bc 0])))] (fmz ⟨.head _,fnz⟩)
 replace s:StS noS W _ [⟨2,58,CU.len 1,b2,false⟩] f84.ntmps _ a w2:=s.weakB 2 (CU.len 1) rfl (zCV kI) (fun cs W h=>by rw [show cs=_ from h];rfl)
 have hinB: ∀q,inB ([⟨2,58,CU.len 1,b2,false⟩]) q->q=b2:=fun q ⟨x,hx,e,_⟩=>by obtain rfl:=zYf.1 hx;exact e.symm
 have hhc:w2.heap[bc]?=some (.cells #[l] 43 (0,0)):=(s.below.block bc (zYr.1 hh).1).trans hh
 have hbcW:bc<W.heap.size:=(zYr.1 hh).1
 refine zKX (N:=(zEs L).length) (fun k=> [⟨2,58,CU.len 1,b2,false⟩]) ([⟨2,58,CU.len 1,b2,false⟩]) (.exit 0) (fun k=> [(7,.u (fPR (fPV m (eAt L k).1) (fPV m (eAt L k).2)))]) s iiz (enters_of func85 kI rfl) (zME (w0:=w00) hhc hl hL (hbW.trans (s.below.mono hbW.size)) (fun q hq=>by rw [hinB q hq];omega) (fun q hq=>by have:=hbW.size;rw [hinB q hq];omega) (fun hc=>by have:=hinB _ hc;omega) hm hm0 hnP hnL hT) (X:=fun k R W'=>base<=W'.heap.size/\ ∃v,W'.heap[b2]?=some (.cells #[v] 58 (0,0))/\(∀g,v.ownBlock=some g->R g)/\zAE W' base 64 12 v (egs m ((zEs L).take k))) (XZ:=fun _=>False) (fun k R A B hkc ⟨h1,v,h2,h3,h4⟩=>⟨zYe h1 hkc.1,v,hkc.2 _ _ h2 rfl,h3,h4.keepC hkc⟩) (fun _ _ _ h=>h) ⟨by rw [hbase];exact zYm _,_,hh2,fun g hg=>by simp [Value.ownBlock] at hg,zAE.nil _ _ _ _⟩ (fun k=>rfl) ?_ rfl rfl rfl (fun k=>rfl) rfl (fun l_ k R xs WR hk hXk hRr hsz so s=> ?_) (fun D WD R hXN s=> ?_) (fun D WD hz s=>hz.elim)
 ·intro k q hq
  obtain rfl:=zYf.1 hq
  exact .inr ⟨0,_,rfl,rfl,rfl⟩
 ·obtain ⟨hbz,v,hv1,hv2,hv3⟩:=hXk
  replace s:=s.is1 hv1
  obtain ⟨A9,n9,c9,rfl⟩:=zHc hv3
  have hWR:b2<WR.heap.size:=zYt hb2 hbz
  generalize ({ tmps:=_,defers:= [] }:Act)=a at s ⊢
  replace s:=s.move (fun q=>q=b2) (fun q ⟨x,hx,e,_⟩=>by obtain rfl:=zYf.1 hx;exact e.symm) kI
  have sR:=s
  refine zB 0 [] hmix s kI
   zD fun a w3 s=> ?_
  have hszR:=s.gr.size
  have h5sz:=s.gr.size
  refine zNH (CU.len 12) (cs:= [.bool false, sN, sN,.bool false, sN, sN,.bool false, sN, sN,.bool false, sN, sN]) kI rfl s kI (fun W=>rfl) rfl fun b5 a w hb5n s=> ?_
  replace hb5n:=zYe h5sz hb5n
  refine zS (wC (fPR (fPV m ((eAt L k).1)) (fPV m ((eAt L k).2)))) ((fPR (fPV m ((eAt L k).1)) (fPV m ((eAt L k).2))).tS) rfl s kI rfl rfl rfl iiz iiz zBK fun a w s=> ?_
  refine zA rfl ?_
  have hbl:=s.gr
  have hb5:WR.heap.size<=b5:=hb5n
  refine ⟨s.gr.sub (fun q hq=> .inl ⟨_,.head _,hq.symm,rfl⟩),fun W2 hkc hcell hW2=> ?_⟩
  have hKU1:jK WR _:=zCd (s.gr.sub (fun q hq=>⟨_,.head _,hq.symm,rfl⟩)) sR.bx
  have hg2: ∀g,Value.ownBlock (.slice A9 n9 c9)=some g->g≠b2/\g≠b5/\g<WR.heap.size:=fun g hg=>by have h1:=hv3.lt g hg;omega
  have hR1:=hv3.keep (fun g hg=>s.gr.block g (hg2 g hg).2.2 (hg2 g hg).1) hKU1
  have hR2:=hR1.keepC hkc
  have hsz2:WR.heap.size<=W2.heap.size:=zYe s.gr.size hkc.1
  replace s:=hW2 _ _ (s.wider (fun q=>inB ([⟨2,58,CU.len 1,b2,false⟩]) q∨WR.heap.size<=q∨R q) (fun q hq=> .inl ⟨_,.head _,hq.symm,rfl⟩) kI)
  have sW:=s
  replace s:=s.move (fun q=>q=b2∨q=b5) (fun q ⟨x,hx,e,_⟩=>by rcases zYl.1 hx with rfl|hx;exact .inr e.symm;obtain rfl:=zYf.1 hx;exact .inl e.symm) kI
  have sM:=s
  refine zYd ?_
  refine qS 3 ((8,.u (wB (.slice A9 n9 c9)))::(9,.Z (fPR (fPV m ((eAt L k).1)) (fPV m ((eAt L k).2))))::(10,.s (wD 12 [wC (fPR (fPV m ((eAt L k).1)) (fPV m ((eAt L k).2)))])):: []) hmix s kI
   (oc (zAg (C:=(wF [.slice A9 n9 c9]).cf) kI (fun _ _ h=>h.2) zDQ)<|oc (zJ (f:=fPR (fPV m ((eAt L k).1)) (fPV m ((eAt L k).2))) 12 kI (hz:=zC7))<|oc (zAb (fun u W (hu:(fPR (fPV m ((eAt L k).1)) (fPV m ((eAt L k).2))).p u W)=>zST hu))<|zD) fun a w4 s hr=> ?_
  have hKU3:jK W2 _:=zCd (s.gr.sub (fun q hq=>by rcases hq with hq|hq;exact ⟨_,mz1,hq.symm,rfl⟩;exact ⟨_,.head _,hq.symm,rfl⟩)) sM.bx
  have hR3:=hR2.keep (fun g hg=>s.gr.block g (zYt (hg2 g hg).2.2 hsz2) (fun hq=>by have:=hg2 g hg;rcases hq with hq|hq<;>omega)) hKU3
  have hsz3:=s.gr.size
  replace s:=vK sW s (fun q hq=>by rcases hq with rfl|rfl;exact .inl (.inl ⟨_,.head _,rfl,rfl⟩);exact .inl (.inr (.inl hb5))) kI
  refine zSH ([wC (fPR (fPV m (eAt L k).1) (fPV m (eAt L k).2))]) s (zYe hbz (zYe hsz2 hsz3)) hR3 (fun g hg=> .inl (.inr (.inr (hv2 g hg)))) rfl kI kI kI (s.val (.head _)) (hr (_,_) mz2) (zVP _ _ _ _) (by rw [zYq,List.length_take];simp;omega) (fun x hx e=>by have:=hg2 _ e;rcases zYl.1 hx with rfl|hx;exact this.2.1 rfl;obtain rfl:=zYf.1 hx;exact this.1 rfl) fun v' a w hwz hR4 hob hnb s=> ?_
  rw [<-zPj hk] at hR4
  obtain ⟨A8,n8,c8,rfl⟩:=zHc hR4
  have sA:=s
  replace s:=s.move (fun q=>q=b2∨q=b5) (fun q ⟨x,hx,e,_⟩=>by rcases zYl.1 hx with rfl|hx;exact .inr e.symm;obtain rfl:=zYf.1 hx;exact .inl e.symm) kI
  have sN:=s
  refine q6 (c:=2) (o:=0) (kk:=1) (wF [.slice A8 n8 c8]) ((wB (.slice A8 n8 c8)).tS) rfl s kI rfl rfl (fun _ _ h=>h.1) iiz (zUK fun cs W h=>by rw [show cs=_ from h];rfl) fun a w s=> ?_
  refine zA rfl ?_
  have hKU5:jK _ _:=zCd (s.gr.sub (fun q hq=>by rcases hq with hq|hq;exact ⟨_,mz1,hq.symm,rfl⟩;exact ⟨_,.head _,hq.symm,rfl⟩)) sN.bx
  have hR5:=hR4.keep (fun g hg=>s.gr.block g (hR4.lt g hg).2 (fun hq=>by rcases hq with hq|hq;exact hnb _ mz1 (by rw [hg,hq]);exact hnb _ (.head _) (by rw [hg,hq]))) hKU5
  have hsz5:=s.gr.size
  obtain ⟨cs9,hh9,hc9,_⟩:=s.boxAt (c:=2) rfl
  obtain rfl:cs9= [.slice A8 n8 c8]:=hc9
  replace s:=vK sA s (fun q hq=>by rcases hq with rfl|rfl;exact .inl (.inl ⟨_,.head _,rfl,rfl⟩);exact .inl (.inr (.inl hb5))) kI
  replace s:=s.popB
  exact ⟨(s.keepK [] fnz).weakB 2 (CU.len 1) rfl (zCV kI) (fun cs W h=>by rw [show cs=_ from h];rfl),fun q=>Value.ownBlock (.slice A8 n8 c8)=some q,fun q hq=>by rcases hob with e|e;exact .inl (hv2 q (e.symm.trans hq));rw [e] at hq;injection hq with hq;exact .inr oP,fun q hq=>zJ5 hR5 hq,by omega,_,hh9,fun g hg=>hg,hR5⟩
 ·obtain ⟨hbz,v,hv1,hv2,hv3⟩:=hXN
  replace s:=s.is1 hv1
  rw [zYu lr] at hv3
  have hbW9:W.heap.size<=base:=by omega
  generalize ({ a with defers:=mark D::a.defers }:Act)=a at s ⊢
  refine zYa ?_
  refine qS 2 ((12,.s (wJ W 64 12 (egs m (zEs L))))::(4,.s (wJ W 64 12 (egs m (zEs L)))):: []) hmix s kI
   (oc (zTr (v:=v) (f:=wJ W 64 12 (egs m (zEs L))) kI (fun _ _ h=>h.2) (hv3.mono hbW9))<|oc zG<|zD) fun a w5 s hr=> ?_
  refine zA rfl ?_
  refine zYc ?_
  exact s.resM (v:=a.tmps.getD 4 undef) (fun w' _=>by simp [results,results84]) (fun w' ho=>zAE.keepC (hr (_,_) mz1) (zMs ho))
theorem zR1 (hbW:bW w00 W) (hh:W.heap[bc]?=some (.cells #[l] 43 (0,0))) (hl:(wD 1 (rrv L)).p l w00) (hL:RR.ok m L w00) (hm:m<=990) (hm0:0<m) (hnP: ∀x,x∈L->x.2.length<=1000000) (hnL:L.length<=1000000) (hnE:(zEs L).length<=1000000) (hT:Tab w00):Calls prog 56 #[(.func (.func 85) #[] #[pO bc 0])] W (Ret W (wJ W 64 12 (egs m (zEs L)))):=by
 refine z7 [(wB (.func (.func 85) #[] #[pO bc 0])).tS] func56 rfl kI ⟨rfl,trivial⟩ fun a s=> ?_
 refine zYa ?_
 refine zB 1 ((2,.u (wB (sN))):: []) hmix s kI
  (oc zG<|zD) fun a w1 s=> ?_
 refine zA rfl ?_
 refine zYa ?_
 have hgs1:=s.gr.size
 replace s:=s.drop [2]
 refine qS 3 ((3,.Z (wB (.func (.func 85) #[] #[pO bc 0])))::(4,.s (wJ w1 64 12 (egs m (zEs L))))::(2,.s (wJ w1 64 12 (egs m (zEs L)))):: []) hmix s kI
  (oc zC<|oc (zI zE zVj (fun u0 u1 W hb (h0:u0= sN) h1=>by rw [show u0=_ from h0,show u1=_ from h1];exact (zR2 (hbW.trans ((s.up hb).mono hbW.size)) (((s.up hb).block bc (zYr.1 hh).1).trans hh) hl hL hm hm0 hnP hnL hnE hT).mono (wI (zBd hb.size))))<|oc zG<|zD) fun a w2 s hr=> ?_
 refine zA rfl ?_
 refine zYc ?_
 exact StS.resN s (zYv _ _) rfl (by have:=hr (_,_) mz2;exact zAE.mono this hgs1)
theorem zO3 (hl:(wD 1 (rrv L)).p l W) (hL:RR.ok m L W) (hm:m<=990) (hm0:0<m) (hnP: ∀x,x∈L->x.2.length<=1000000) (hnL:L.length<=1000000) (hnE:(zEs L).length<=1000000) (hT:Tab W):Calls prog 28 #[l] W (Ret W (wJ W 64 12 (egs m (zEs L)))):=by
 refine z7 [(wB l).tS] func28 rfl kI ⟨rfl,trivial⟩ fun a s=> ?_
 replace s:=s.renew [(0,.u (wB l))] (fmz ⟨.inr ⟨_,rfl,.head _⟩,fnz⟩)
 refine zYa ?_
 refine zB 1 ((2,.u (wB (sN))):: []) hmix s kI
  (oc zG<|zD) fun a w1 s=> ?_
 refine zA rfl ?_
 refine zYa ?_
 have hgs1:=s.gr.size
 replace s:=s.drop [2]
 refine qS 4 ((3,.Z (wB l))::(4,.s (zPa w1 85 43 (wF [l])))::(5,.s (wJ w1 64 12 (egs m (zEs L))))::(2,.s (wJ w1 64 12 (egs m (zEs L)))):: []) hmix s kI
  (oc zC<|oc (zH zE zVx (fun u0 W hb (h0:u0=l)=>by rw [show u0=l from h0];exact (zOX (zHa hl)).mono (wI (zMP hb.size))))<|oc (zH zE zVy (fun u0 W hb h0=>by obtain ⟨bc,csc,ec,hbc,hhc,hcc,hnc⟩:=h0;obtain rfl:csc= [l]:=hcc;rw [ec];exact (zR1 (s.up hb) hhc hl hL hm hm0 hnP hnL hnE hT).mono (wI (zBd hb.size))))<|oc zG<|zD) fun a w2 s hr=> ?_
 refine zA rfl ?_
 refine zYc ?_
 exact StS.resN s (zYv _ _) rfl (by have:=hr (_,_) mz3;exact zAE.mono this hgs1)
def zCF (a b p:V2):Bool:=(decide (qsg a.2 p.2<=0)&&decide (qsg p.2 b.2<0))&&(yQ a b p==1)
def zC8 (a b p:V2):Bool:=if qsg a.2 b.2>0 then zCF b a p else zCF a b p
theorem zPo (h:decide (qsg a.2 b.2>0)=true):zC8 a b p=zCF b a p:=if_pos (zYg h)
theorem zPp (h:decide (qsg a.2 b.2>0)=false):zC8 a b p=zCF a b p:=if_neg (zYh h)
def zEr (f:Nat->Bool) (N:Nat):Int:=match (List.range N).find? f with|some k=>(k:Int)|none=> -1
def zRP (f:Nat->Bool) (k:Nat):Prop:= ∀j,j<k->f j=false
theorem zIE {f:Nat->Bool} (h:zRP f N):zEr f N= -1:=by
 unfold zEr
 rw [List.find?_eq_none.2 (fun x hx=>by rw [h x (zYs.1 hx)];simp)]
theorem zMM {f:Nat->Bool} (hk:k<N) (h:zRP f k) (e:f k=true):zEr f N=(k:Int):=by
 unfold zEr
 have:(List.range N).find? f=some k:=by
  rw [List.find?_range_eq_some]
  exact ⟨e,zYs.2 hk,fun j hj=>by rw [h j hj];rfl⟩
 rw [this]
def zEw (f:Nat->Bool):Nat->Nat
 |0=>0
 |k+1=>zEw f k+(if f k=true then 1 else 0)
theorem zM7 (f:Nat->Bool): ∀k,zEw f k<=k
 |0=>zYm _
 |k+1=>by
  have:=zM7 f k
  show zEw f k+_<=_
  split<;>omega
theorem zQx {f:Nat->Bool} (h:f k=true):zEw f (k+1)=zEw f k+1:=by show _+(if f k=true then 1 else 0)=_;rw [if_pos h]
theorem zM8 {f:Nat->Bool} (h:f k=false):zEw f (k+1)=zEw f k:=by show _+(if f k=true then 1 else 0)=_;rw [if_neg (by simp [h])];rfl
def onK (ps:List V2) (p:V2) (k:Nat):Bool:=onB (at_ ps k) (at_ ps ((k+1) % ps.length)) p
def crK (ps:List V2) (p:V2) (k:Nat):Bool:=zC8 (at_ ps k) (at_ ps ((k+1) % ps.length)) p
def onI (ps:List V2) (p:V2):Int:=zEr (onK ps p) (nE ps)
def crN (ps:List V2) (p:V2):Nat:=zEw (crK ps p) (nE ps)
def zBl (ps:List V2) (p:V2):Int:=if onI ps p≥0 then 0 else 2*((crN ps p % 2:Nat):Int) - 1
section
variable {f g f' g' f'' g'':UF}
end
section
variable {F:Fence} {m:Nat} {P:Program} {w0:Wp} {ops:Array Oper} {G:Nat->SF} {d:Tmp} {ty:Wr} {pos:String} {aft:Array Edge}
end
theorem zIe (z:Nat) (W:Wp):(wD z []).p (sN) W:=⟨none,0,rfl,zYm _,by decide,fun _=>rfl,fun i C hi=>by simp at hi⟩
abbrev T3L:List V2:= [(((0:Int):Rat),((0:Int):Rat)),(((2:Int):Rat),((0:Int):Rat)),(((0:Int):Rat),((2:Int):Rat))]
abbrev hlf (x:Int):Rat:=((x:Rat)+((0:Int):Rat)) / 2
theorem zPT:QB (hlf 1) 1:=⟨by unfold Bd BB;decide+kernel,by unfold BB;decide+kernel⟩
theorem zUJ: ∀p,p∈T3L->QB p.1 1/\QB p.2 1:=fun p hp=>by
 have h0:=qbz (z:=0) dB
 have h2:=qbz (z:=2) dB
 simp only [zYl,List.not_mem_nil,or_false] at hp
 rcases hp with rfl|rfl|rfl
 ·exact ⟨h0,h0⟩
 ·exact ⟨h2,h0⟩
 ·exact ⟨h0,h2⟩
def PX.big6 (x:PX):Bool:=decide (6<max (max (max x.1.n x.1.n') x.2.n) x.2.n')
def g8 (L:List PX):Bool:=(L.take 61).any PX.big6||decide (60<L.length)
theorem zLO {x:PX} (h:x.big6=false) {v:Wq} {W:Wp} (hv:x.u.p v W):(fPV 6 x.p).p v W:=by
 have h:=zYh h
 exact zIo (fun v W h'=>zUu h' oP oP) (fun v W h'=>zUu h' oP oP) hv
theorem zU7 {L:List PX} (h:g8 L=false):L.length<=60/\ ∀x,x∈L->x.big6=false:=by
 unfold g8 at h
 rw [Bool.or_eq_false_iff] at h
 have h2:=zYh h.2
 refine ⟨by omega,fun x hx=> ?_⟩
 have h1:=zYJ.1 h.1 x (by rw [zYu oP];exact hx)
 simpa using h1
theorem zOj {L:List PX} (h: ∀x,x∈L->x.big6=false) (v:Wq) (W:Wp) (hv:(wD 6 (pxs L)).p v W):(wD 6 (pvs 6 (pps L))).p v W:=
 zIf (by simp) (fun i C D hC hD cs W hh=>by
  have hi:i<L.length:=by have:=(zYx.1 hC).1;simpa using this
  rw [zYo,zYi hi] at hC
  rw [zYo,zYo,zYi hi] at hD
  cases hC;cases hD
  exact zLO (h _ (List.getElem_mem hi)) hh) v W hv
theorem zTG {L:List PX} {x:PX} (hk:k<=60) (hx:L[k]?=some x) (h:x.big6=true):g8 L=true:=by
 unfold g8
 rw [Bool.or_eq_true]
 left
 refine zYK.2 ⟨x, ?_,h⟩
 have hlt:=(zYx.1 hx).1
 exact List.mem_of_getElem? (i:=k) (by rw [List.getElem?_take,if_pos oP];exact hx)
theorem zTF {L:List PX} (h: ∀j y,j<61->L[j]?=some y->PX.big6 y=false):g8 L=decide (((pxs L).length:Int)>60):=by
 unfold g8
 have:(L.take 61).any PX.big6=false:=by
  refine zYJ.2 fun x hx=> ?_
  obtain ⟨j,hj⟩:=List.getElem?_of_mem hx
  rw [List.getElem?_take] at hj
  split at hj
  ·rename_i hlt
   rw [h j x hlt hj];simp
  ·cases hj
 rw [this,Bool.false_or,zYI,zYq]
 omega
def fRR (m:Nat) (Ls:List (List V2)):SF:=⟨fun v W=> ∃L:RR,L.map (·.2)=Ls/\(wD 1 (rrv L)).p v W/\RR.ok m L W,fun _ _ _ ⟨L,e,h1,h2⟩ hb=>⟨L,e,(wD 1 _).st _ _ _ h1 hb,h2.below hb⟩⟩
theorem zML (e:L.map (·.2)=Ls):yC L L.length=Ls.flatten:=by
 subst e
 unfold yC
 rw [zYu lr,List.flatMap_def]
theorem zNf (e:L.map (·.2)=Ls):zEs L=Ls.flatMap zAx:=by
 subst e
 unfold zEs
 rw [List.flatMap_map]
theorem zWl (A:Ws Addr) (n c:Nat):z5 prog 43 1 [(0,.slice A n c)]=some (22,#[.slice A n c]):=by kernel_rfl
theorem zWk (A A' A'':Ws Addr) (n n' n'' c c' c'':Nat):z5 prog 43 3 [(0,.slice A n c),(1,.slice A' n' c'),(2,.slice A'' n'' c'')]=some (22,#[.slice A n c,.slice A' n' c',.slice A'' n'' c'']):=by kernel_rfl
theorem zPM (eL:L.map (·.2)=Ls) (hL:RR.ok m L W) (hn:L.length<=9223372036854775807):(fRR m Ls).p (.slice (some ⟨W.heap.size,0,none⟩) L.length L.length) (W.alloc (.cells (L.map (·.1)).toArray e)):=by
 refine ⟨L,eL, ?_,hL.below (zCg W _)⟩
 have:=zGd (W:=W) (e:=e) (z:=1) (Cs:=rrv L) (cs:=L.map (·.1)) (by simpa using hn) (fun i C hi=>by
  have hlt:=(zYx.1 hi).1
  simp at hlt
  rw [zYo,zYi hlt] at hi
  injection hi with hi
  subst hi
  refine ⟨[(L[i]).1],fun j u hj=> ?_,rfl⟩
  obtain rfl:j=0:=by have:=(zYx.1 hj).1;simp at this;omega
  rw [Nat.mul_one,Nat.add_zero,zYo,zYi hlt]
  simpa using hj)
 simpa using this
theorem zPI (hu:(wD 6 (pvs m ps)).p u W): ∃e cs,z5 prog 43 1 [(0,u)]=some (e,cs)/\(fRR m [ps]).p (.slice (some ⟨W.heap.size,0,none⟩) 1 1) (W.alloc (.cells cs e)):=by
 obtain ⟨A,c,e,h⟩:=id hu
 refine ⟨_,_,by rw [e];exact zWl _ _ _, ?_⟩
 rw [<-e]
 exact zPM (L:= [(u,ps)]) rfl (fun x hx=>by obtain rfl:=zYf.1 hx;exact hu) (by simp)
theorem zSO {x:Wq} {qs rs:List V2} (hu:(wD 6 (pvs m ps)).p u W) (hv:(wD 6 (pvs m qs)).p v W) (hx:(wD 6 (pvs m rs)).p x W): ∃e cs,z5 prog 43 3 [(0,u),(1,v),(2,x)]=some (e,cs)/\(fRR m [ps,qs,rs]).p (.slice (some ⟨W.heap.size,0,none⟩) 3 3) (W.alloc (.cells cs e)):=by
 obtain ⟨A,c,e,h⟩:=id hu
 obtain ⟨A',c',e',h'⟩:=id hv
 obtain ⟨A'',c'',e'',h''⟩:=id hx
 refine ⟨_,_,by rw [e,e',e''];exact zWk _ _ _ _ _ _ _ _ _, ?_⟩
 rw [<-e, <-e', <-e'']
 exact zPM (L:= [(u,ps),(v,qs),(x,rs)]) rfl (fun y hy=>by rcases zYl.1 hy with rfl|hy;exact hu;rcases zYl.1 hy with rfl|hy;exact hv;obtain rfl:=zYf.1 hy;exact hx) (by simp)
theorem zO0 (h:(fRR m Ls).p l W) (hm:m<=650) (hm0:0<m) (hn:Ls.flatten.length<=1000000) (hnL:Ls.length<=1000000) (hT:Tab W):Calls prog 18 #[l] W (Ret W (fPR (fPV (m+2) (zKr Ls.flatten)) (fPV (m+2) (zKs Ls.flatten))).tS):=by
 obtain ⟨L,e,h1,h2⟩:=h
 have:=zO1 h1 h2 hm hm0 (by rw [zML e];exact hn) (by rw [<-e] at hnL;simpa using hnL) hT
 rw [zML e] at this
 exact this
theorem zO2 (h:(fRR m Ls).p l W) (hm:m<=990) (hm0:0<m) (hnP: ∀x,x∈Ls->x.length<=1000000) (hnL:Ls.length<=1000000) (hnE:(Ls.flatMap zAx).length<=1000000) (hT:Tab W):Calls prog 28 #[l] W (Ret W (wJ W 64 12 (egs m (Ls.flatMap zAx)))):=by
 obtain ⟨L,e,h1,h2⟩:=h
 have:=zO3 h1 h2 hm hm0 (fun x hx=>hnP _ (by rw [<-e];exact zYz.2 ⟨x,hx,rfl⟩)) (by rw [<-e] at hnL;simpa using hnL) (by rw [zNf e];exact hnE) hT
 rw [zNf e] at this
 exact this
def whL (Ls:List (List V2)) (p:V2):List Nat:=(List.range Ls.length).filter fun i=>inK (Ls.getD i []) p (Ls.getD i []).length
theorem zOY (h:(fRR m Ls).p l W) (h1:(fPV m p).p v W) (hm:m<=159) (hm0:0<m) (hnP: ∀x,x∈Ls->x.length<=1000000) (hnL:Ls.length<=1000000) (hT:Tab W):Calls prog 16 #[l,v] W (Ret W (wJ W 3 1 (zDq (whL Ls p)))):=by
 obtain ⟨L,e,h2,h3⟩:=h
 have:=zOZ h2 h3 h1 hm hm0 (fun x hx=>hnP _ (by rw [<-e];exact zYz.2 ⟨x,hx,rfl⟩)) (by rw [<-e] at hnL;simpa using hnL) hT
 have e2:whK L p L.length=whL Ls p:=by
  subst e
  unfold whK whL
  rw [zYq]
  refine List.filter_congr fun i hi=> ?_
  have hi:=zYs.1 hi
  have:(L.map (·.2)).getD i []=(rat L i).2:=by
   unfold rat
   rw [zYp,zYp,zYo,zYi hi];rfl
  rw [this]
 rw [e2] at this
 exact this
theorem zRE (hp:QB p.1 m/\QB p.2 m) (hq:QB q.1 m/\QB q.2 m) (h:(fPR (fPN p) (fPN q)).p v W):(fPR (fPV m p) (fPV m q)).p v W:=by
 obtain ⟨a,b,e,h1,h2⟩:=h
 exact ⟨a,b,e,zAz (p:=p) (m:=m) hp.1 hp.2 h1,zAz (p:=q) (m:=m) hq.1 hq.2 h2⟩
abbrev hfp:V2:=(((1:Int):Rat)*((((1:Int):Rat)+((0:Int):Rat)) / 2),((1:Int):Rat)*((((1:Int):Rat)+((0:Int):Rat)) / 2))
theorem zPU:QB (((1:Int):Rat)*((((1:Int):Rat)+((0:Int):Rat)) / 2)) 1:=⟨by unfold Bd BB;decide+kernel,by unfold BB;decide+kernel⟩
theorem tv1:((jI (zKr [T3L].flatten) (((-1:Int):Rat),((-1:Int):Rat))==0)&&(jI (zKs [T3L].flatten) (((3:Int):Rat),((3:Int):Rat))==0))=true:=by kernel_rfl
theorem tv2:(jI (zCh T3L 1).1 (((0:Int):Rat),((2:Int):Rat))==0)=true:=by kernel_rfl
theorem tv3:(jI (qW []) (qX [])==0)=true:=by kernel_rfl
theorem tv4:inK T3L (((1:Int):Rat),((0:Int):Rat)) T3L.length=false:=by kernel_rfl
theorem tv5:inK T3L hfp T3L.length=true:=by kernel_rfl
theorem zLp {L:List PX} (hl:(wD 6 (pxs L)).p l W):Calls prog 5 #[l] W (Ret W (fB (g8 L)).tS):=by
 refine z7 [wD 6 (pxs L)] func5 rfl kI ⟨hl,trivial⟩ fun a s=> ?_
 refine zYa ?_
 refine zB 1 ((2,.u (uB false)):: []) hmix s kI
  (oc zG<|zD) fun a w1 s=> ?_
 refine zA rfl ?_
 refine zYa ?_
 refine zYa ?_
 refine zB 1 ((3,.u (uI 0)):: []) hmix s kI
  (oc zG<|zD) fun a w2 s=> ?_
 refine zA rfl ?_
 refine zYd ?_
 refine zAZ (fun k=>k<=L.length/\k<=61/\ ∀j y,j<k->L[j]?=some y->PX.big6 y=false) (fun k=> [(0,.o (wD 6 (pxs L))),(3,.u (uI ((k:Nat):Int)))]) (fun k=>61 - k) (0:Nat) (⟨zYj _,by omega,fun j y hj=>absurd hj (Nat.not_lt_zero _)⟩) (s.keepK _ (fmz ⟨mz2,fmz ⟨.head _,fnz⟩⟩)) fun k a w hx s=> ?_
 refine zYa ?_
 refine zYa ?_
 refine zB 8 ((4,.Z (uI (k:Int)))::(5,.s (wD 6 (pxs L)))::(6,.Z (uI ((pxs L).length:Int)))::(7,.Z (uB (ltz k ((pxs L).length))))::(8,.Z (uB (ltz k ((pxs L).length))))::(9,.s (SF.imp ((ltz k ((pxs L).length))=true) ((uI (k:Int)).tS)))::(10,.s (SF.imp ((ltz k ((pxs L).length))=true) ((uB (decide ((k:Int)<=60))).tS)))::(11,.u (uB ((ltz k ((pxs L).length))&&(decide ((k:Int)<=60))))):: []) hmix s kI
  (oc zC<|oc zC<|oc (zDh (z:=6) (Cs:=pxs L) kI iiz (fun _=>rfl))<|oc (zR .i64 (k:Int) ((pxs L).length:Int) (ltz k ((pxs L).length)) iiz iiz rfl rfl)<|oc zC<|oc (zF 8 (ltz k ((pxs L).length)) kI iiz (fun e=>zQ [] ((uI (k:Int)).tS) fnz fP kI zC) fO)<|oc (zF 8 (ltz k ((pxs L).length)) kI iiz (fun e=>zQ [(9,(uI (k:Int)).tS)] ((uB (decide ((k:Int)<=60))).tS) (fmz ⟨fun v W h=>zK (c:=(ltz k ((pxs L).length))=true) (f:=(uI (k:Int)).tS) e h,fnz⟩) fP kI (zR .i64 (k:Int) 60 (decide ((k:Int)<=60)) iiz iiz rfl rfl)) fO)<|oc (yJ (ltz k ((pxs L).length)) iiz (fun e v W h=>jU (zK e h) e) (fun e v W h=>jD h e))<|zD) fun a w3 s=> ?_
 refine zA rfl ?_
 refine StS.cond s ((ltz k ((pxs L).length))&&(decide ((k:Int)<=60))) iiz (fun e=> ?_) (fun e=> ?_)
 ·rw [zYE] at e
  have hk1:k<L.length:=by have:=zYg e.1;simp at this;omega
  have hk2:k<=60:=by have:=zYg e.2;omega
  obtain ⟨x,hxl⟩: ∃x,L[k]?=some x:=⟨_,zYi hk1⟩
  have hx_:(pxs L)[k]?=some (PX.cu x):=by rw [zYo,hxl];rfl
  refine zYb ?_
  refine zYa ?_
  refine zYd ?_
  refine zYa ?_
  refine zB 32 ((14,.s (wD 6 (pxs L)))::(15,.Z (uI (k:Int)))::(16,.s (wE (PX.cu x).cf))::(17,.s (wE ((PX.cu x).cf.at 0)))::(18,.s (wE ((PX.cu x).cf.at 0)))::(19,.s (wE ((PX.cu x).cf.at 1)))::(20,.Z (fSl (x.1.n)))::(21,.Z (uI (x.1.n:Int)))::(22,.s (wD 6 (pxs L)))::(23,.Z (uI (k:Int)))::(24,.s (wE (PX.cu x).cf))::(25,.s (wE ((PX.cu x).cf.at 0)))::(26,.s (wE ((PX.cu x).cf.at 2)))::(27,.Z (fSl (x.1.n')))::(28,.Z (uI (x.1.n':Int)))::(29,.s (wD 6 (pxs L)))::(30,.Z (uI (k:Int)))::(31,.s (wE (PX.cu x).cf))::(32,.s (wE ((PX.cu x).cf.at 3)))::(33,.s (wE ((PX.cu x).cf.at 3)))::(34,.s (wE ((PX.cu x).cf.at 4)))::(35,.Z (fSl (x.2.n)))::(36,.Z (uI (x.2.n:Int)))::(37,.s (wD 6 (pxs L)))::(38,.Z (uI (k:Int)))::(39,.s (wE (PX.cu x).cf))::(40,.s (wE ((PX.cu x).cf.at 3)))::(41,.s (wE ((PX.cu x).cf.at 5)))::(42,.Z (fSl (x.2.n')))::(43,.Z (uI (x.2.n':Int)))::(44,.Z (uI ((max (max (max x.1.n x.1.n') x.2.n) x.2.n':Nat):Int)))::(45,.u (uB (PX.big6 x))):: []) hmix s kI
   (oc zC<|oc zC<|oc (zBg (z:=6) (Cs:=pxs L) (i:=k) (C:=PX.cu x) kI hx_ iiz iiz)<|oc (zL (C:=(PX.cu x).cf) 0 kI)<|oc (qB (C:=(PX.cu x).cf) 0 0 kI)<|oc (qB (C:=(PX.cu x).cf) 0 1 kI)<|oc (jE (C:=(PX.cu x).cf) (k:=1) kI (h:=zWu))<|oc (zBM kI (fun v W ⟨A,c,e⟩=>⟨A,x.1.n,c,e,rfl⟩))<|oc zC<|oc zC<|oc (zBg (z:=6) (Cs:=pxs L) (i:=k) (C:=PX.cu x) kI hx_ iiz iiz)<|oc (zL (C:=(PX.cu x).cf) 0 kI)<|oc (qB (C:=(PX.cu x).cf) 0 2 kI)<|oc (jE (C:=(PX.cu x).cf) (k:=2) kI (h:=zWt))<|oc (zBM kI (fun v W ⟨A,c,e⟩=>⟨A,x.1.n',c,e,rfl⟩))<|oc zC<|oc zC<|oc (zBg (z:=6) (Cs:=pxs L) (i:=k) (C:=PX.cu x) kI hx_ iiz iiz)<|oc (zL (C:=(PX.cu x).cf) 3 kI)<|oc (qB (C:=(PX.cu x).cf) 3 0 kI)<|oc (qB (C:=(PX.cu x).cf) 3 1 kI)<|oc (jE (C:=(PX.cu x).cf) (k:=4) kI (h:=zWs))<|oc (zBM kI (fun v W ⟨A,c,e⟩=>⟨A,x.2.n,c,e,rfl⟩))<|oc zC<|oc zC<|oc (zBg (z:=6) (Cs:=pxs L) (i:=k) (C:=PX.cu x) kI hx_ iiz iiz)<|oc (zL (C:=(PX.cu x).cf) 3 kI)<|oc (qB (C:=(PX.cu x).cf) 3 2 kI)<|oc (jE (C:=(PX.cu x).cf) (k:=5) kI (h:=zWr))<|oc (zBM kI (fun v W ⟨A,c,e⟩=>⟨A,x.2.n',c,e,rfl⟩))<|oc (zRK (x.1.n) (x.1.n') (x.2.n) (x.2.n') iiz iiz iiz iiz)<|oc (zR .i64 ((max (max (max x.1.n x.1.n') x.2.n) x.2.n':Nat):Int) 6 (PX.big6 x) iiz iiz (by unfold PX.big6;show decide (((max (max (max x.1.n x.1.n') x.2.n) x.2.n':Nat):Int)>6)=_;rw [zYI];omega) rfl)<|zD) fun a w4 s=> ?_
  refine zA rfl ?_
  refine StS.cond s (PX.big6 x) iiz (fun e=> ?_) (fun e=> ?_)
  ·refine zYa ?_
   refine zB 1 ((2,.u (uB true)):: []) hmix s kI
    (oc zG<|zD) fun a w5 s=> ?_
   refine zA rfl ?_
   refine zYc ?_
   exact wG s (t:=2) rfl (fun v W h=>by rw [zTG hk2 hxl e];exact h)
  ·have hbig:=e
   refine zYb ?_
   refine zX 2 ((12,.Z (uI (k:Int)))::(13,.u (uI ((k+1:Nat):Int))):: []) s kI
    (oc zC<|oc (yM .i64 (k:Int) 1 ((k+1:Nat):Int) iiz iiz (wrap64 _ _ oP oP))<|zD) fun a w6 s=> ?_
   replace s:=s.drop [3]
   refine yP (uI ((k+1:Nat):Int)) rfl s kI iiz fun a w s=> ?_
   refine zA rfl ?_
   exact ⟨k+1,⟨by omega,by omega,fun j y hj hy=>by rcases Nat.lt_or_eq_of_le (Nat.le_of_lt_succ hj) with h|h;exact hx.2.2 j y h hy;rw [h,hxl] at hy;cases hy;exact hbig⟩,(by show 61 - (k+1)<61 - k;omega),s.keepK _ (fmz ⟨mz4,fmz ⟨.head _,fnz⟩⟩)⟩
 ·have hend:L.length<=k∨k=61:=by
   rw [Bool.and_eq_false_iff] at e
   rcases e with e|e
   ·have h7:=zYh e;simp at h7;omega
   ·have h7:=zYh e;omega
  refine zYk ?_
  refine zYa ?_
  refine zB 4 ((46,.s (wD 6 (pxs L)))::(47,.Z (uI ((pxs L).length:Int)))::(48,.Z (uB (decide (((pxs L).length:Int)>60))))::(2,.u (uB (decide (((pxs L).length:Int)>60)))):: []) hmix s kI
   (oc zC<|oc (zDh (z:=6) (Cs:=pxs L) kI iiz (fun _=>rfl))<|oc (zR .i64 ((pxs L).length:Int) 60 (decide (((pxs L).length:Int)>60)) iiz iiz rfl rfl)<|oc zG<|zD) fun a w7 s=> ?_
  refine zA rfl ?_
  refine zYc ?_
  exact wG s (t:=2) rfl (fun v W h=>by rw [zTF (fun j y hj hy=>hx.2.2 j y (by have:=(zYx.1 hy).1;omega) hy)];exact h)
theorem zDt:Calls prog 27 #[] W (Ret W (wD 6 (pvs 1 T3L))):=by
 refine z7 [] func27 rfl kI trivial fun a s=> ?_
 refine zYa ?_
 refine zB 1 ((0,.u (wB (sN))):: []) hmix s kI
  (oc zG<|zD) fun a w1 s=> ?_
 refine zA rfl ?_
 refine zYa ?_
 replace s:=s.drop [0]
 refine qS 5 ((1,.Z (fPN (((0:Int):Rat),((0:Int):Rat))))::(2,.Z (fPN (((2:Int):Rat),((0:Int):Rat))))::(3,.Z (fPN (((0:Int):Rat),((2:Int):Rat))))::(4,.s (wD 6 [wC (fPN (((0:Int):Rat),((0:Int):Rat))),wC (fPN (((2:Int):Rat),((0:Int):Rat))),wC (fPN (((0:Int):Rat),((2:Int):Rat)))]))::(0,.s (wD 6 [wC (fPN (((0:Int):Rat),((0:Int):Rat))),wC (fPN (((2:Int):Rat),((0:Int):Rat))),wC (fPN (((0:Int):Rat),((2:Int):Rat)))])):: []) hmix s kI
  (oc (zI zE zFp (fun u0 u1 W hb (h0:u0= .int .i64 0) (h1:u1= .int .i64 0)=>zCs h0 h1 dB dB))<|oc (zI zE zFp (fun u0 u1 W hb (h0:u0= .int .i64 2) (h1:u1= .int .i64 0)=>zCs h0 h1 dB dB))<|oc (zI zE zFp (fun u0 u1 W hb (h0:u0= .int .i64 0) (h1:u1= .int .i64 2)=>zCs h0 h1 dB dB))<|oc (zHt (fun u v q W (hu:(fPN (((0:Int):Rat),((0:Int):Rat))).p u W) (hv:(fPN (((2:Int):Rat),((0:Int):Rat))).p v W) (hq:(fPN (((0:Int):Rat),((2:Int):Rat))).p q W)=>zSR hu hv hq))<|oc zG<|zD) fun a w2 s hr=> ?_
 refine zA rfl ?_
 refine zYc ?_
 exact StS.resN s (zYv _ _) (t:=0) rfl (zCx zUJ _ _ (hr (_,_) mz4))
theorem zH3 (hT:Tab W):Calls prog 8 #[] W (Ret W (fB true).tS):=by
 refine z7 [] func8 rfl kI trivial fun a s=> ?_
 refine zYa ?_
 refine zB 1 ((0,.u (uB false)):: []) hmix s kI
  (oc zG<|zD) fun a w1 s=> ?_
 refine zA rfl ?_
 refine zYa ?_
 refine zB 3 ((5,.s (wD 6 (pvs 1 T3L)))::(6,.s (fRR 1 [T3L]))::(7,.u (fPR (fPV 3 (zKr [T3L].flatten)) (fPV 3 (zKs [T3L].flatten)))):: []) hmix s kI
  (oc (zCb zE zPh (fun W hb=>zDt))<|oc (zAb (fun u W (hu:(wD 6 (pvs 1 T3L)).p u W)=>zPI hu))<|oc (zH zE zVM (fun u0 W hb (h0:(fRR 1 [T3L]).p u0 W)=>zO0 (m:=1) (Ls:= [T3L]) h0 dB dB dB dB (hT.below (s.up hb))))<|zD) fun a w2 s=> ?_
 refine zZ (CU.len 12) (cs:= [.bool false, sN, sN,.bool false, sN, sN,.bool false, sN, sN,.bool false, sN, sN]) kI rfl s kI (fun W=>rfl) rfl fun b1 a w s=> ?_
 refine zS (wC (fPR (fPV 3 (zKr [T3L].flatten)) (fPV 3 (zKs [T3L].flatten)))) ((fPR (fPV 3 (zKr [T3L].flatten)) (fPV 3 (zKs [T3L].flatten))).tS) rfl s kI rfl rfl rfl iiz iiz zBK fun a w s=> ?_
 refine zA rfl ?_
 refine zYa ?_
 refine qS 3 ((8,.s (wD 6 (pvs 1 T3L)))::(9,.s (fRR 1 [T3L]))::(10,.s (wJ w 64 12 (egs 1 ([T3L].flatMap zAx)))):: []) hmix s kI
  (oc (zCb zE zPh (fun W hb=>zDt))<|oc (zAb (fun u W (hu:(wD 6 (pvs 1 T3L)).p u W)=>zPI hu))<|oc (zH zE zVI (fun u0 W hb (h0:(fRR 1 [T3L]).p u0 W)=>(zO2 (m:=1) (Ls:= [T3L]) h0 dB dB (fun x hx=>by rw [zYf.1 hx];decide) dB dB (hT.below (s.up hb))).mono (wI (zBd hb.size))))<|zD) fun a w3 s hr=> ?_
 obtain ⟨v10,e10⟩: ∃v,a.tmps.getD 10 undef=v:=⟨_,rfl⟩
 have hv10:(wD 12 (egs 1 ([T3L].flatMap zAx))).p v10 w3:=zCW _ _ (e10▸(hr (_,_) mz2))
 replace s:=s.learn 10 v10 e10
 have hb0:=s.below
 have hT0:=hT
 have hT:=hT0.below hb0
 replace s:StS _ _ _ [⟨1,47,wC (fPR (fPV 3 (zKr [T3L].flatten)) (fPV 3 (zKs [T3L].flatten))),b1,true⟩] _ _ _ _:=s.freeze
 replace s:=s.reb rfl [(10,.u (wB v10)),(7,.u (fPR (fPV 3 (zKr [T3L].flatten)) (fPV 3 (zKs [T3L].flatten)))),(0,.u (uB false))] (fmz ⟨.inl (.head _),fmz ⟨.inl mz1,fmz ⟨.inl mz2,fnz⟩⟩⟩)
 refine yP (wB v10) rfl s kI iiz fun a w s=> ?_
 refine zA rfl ?_
 refine zYa ?_
 refine zB 4 ((12,.Z (zAw (fPR (fPV 1 (qW [])) (fPV 1 (qX []))) (uB false)))::(11,.Z (zAw (fPR (fPV 1 (qW [])) (fPV 1 (qX []))) (uB false)))::(13,.u (fPR (fPV 1 (qW [])) (fPV 1 (qX []))))::(14,.u (uB false)):: []) hmix s kI
  (oc (zH zE zTY (fun u0 W hb (h0:u0= sN)=>(zQc (m:=1) (ps:= []) (by rw [show u0=_ from h0];exact zIe 6 _) dB dB dB (hT.below (s.up hb))).mono (wI (fun v W h=>h))))<|oc zC<|oc (zAK (A:=(fPR (fPV 1 (qW [])) (fPV 1 (qX []))).tS) (B:=(uB false).tS) iiz)<|oc (zAJ (A:=(fPR (fPV 1 (qW [])) (fPV 1 (qX []))).tS) (B:=(uB false).tS) iiz)<|zD) fun a w4 s=> ?_
 refine zZ (CU.len 12) (cs:= [.bool false, sN, sN,.bool false, sN, sN,.bool false, sN, sN,.bool false, sN, sN]) kI rfl s kI (fun W=>rfl) rfl fun b3 a w s=> ?_
 refine zS (wC (fPR (fPV 1 (qW [])) (fPV 1 (qX [])))) ((fPR (fPV 1 (qW [])) (fPV 1 (qX []))).tS) rfl s kI rfl rfl rfl iiz iiz zBK fun a w s=> ?_
 refine yP (uB false) rfl s kI iiz fun a w s=> ?_
 refine zA rfl ?_
 refine zYa ?_
 replace s:=s.drop [0]
 refine zB 45 ((15,.Z (fPR (fPV 3 (zKr [T3L].flatten)) (fPV 3 (zKs [T3L].flatten))))::(16,.Z (fPN ((((-1):Int):Rat),(((-1):Int):Rat))))::(17,.Z (fPN (((3:Int):Rat),((3:Int):Rat))))::(18,.Z (fPR (fPN ((((-1):Int):Rat),(((-1):Int):Rat))) (fPN (((3:Int):Rat),((3:Int):Rat)))))::(19,.Z (uB true))::(20,.Z (uB true))::(21,.Z (wB v10))::(22,.Z (uI ((egs 1 ([T3L].flatMap zAx)).length:Int)))::(23,.Z (uB true))::(24,.Z (uB true))::(25,.Z (uB true))::(26,.Z (wB v10))::(27,.Y (fPR (fPV 1 ((zCh T3L 1).1)) (fPV 1 ((zCh T3L 1).2))))::(28,.X (fPR (fPV 1 ((zCh T3L 1).1)) (fPV 1 ((zCh T3L 1).2))) 0)::(29,.Z (fPV 1 ((zCh T3L 1).1)))::(30,.Z (fPN (((0:Int):Rat),((2:Int):Rat))))::(31,.Z (uB true))::(32,.Z (uB true))::(33,.Z (uB true))::(34,.Z (uB false))::(35,.Z (uB true))::(36,.Z (uB true))::(37,.Z (uB true))::(38,.X (fPR (fPV 1 (qW [])) (fPV 1 (qX []))) 0)::(39,.Z (fPV 1 (qW [])))::(40,.X (fPR (fPV 1 (qW [])) (fPV 1 (qX []))) 6)::(41,.Z (fPV 1 (qX [])))::(42,.Z (uB true))::(43,.Z (uB true))::(44,.Z (uB true))::(45,.s (wD 6 (pvs 1 T3L)))::(46,.Z (fPN (((1:Int):Rat),((0:Int):Rat))))::(47,.Z (uB false))::(48,.Z (uB true))::(49,.Z (uB true))::(50,.Z (uB true))::(51,.s (wD 6 (pvs 1 T3L)))::(52,.Z (fPN (((1:Int):Rat),((1:Int):Rat))))::(53,.Z (fQN ((1:Int):Rat)))::(54,.Z (fQN ((0:Int):Rat)))::(55,.Z (fQN ((((1:Int):Rat)+((0:Int):Rat)) / 2)))::(56,.Z (fPN hfp))::(57,.Z (uB true))::(58,.Z (uB true))::(0,.u (uB true)):: []) hmix s kI
  (oc (zJ (f:=fPR (fPV 3 (zKr [T3L].flatten)) (fPV 3 (zKs [T3L].flatten))) 12 kI (hz:=zC7))<|oc (zI zE zFp (fun u0 u1 W hb (h0:u0= .int .i64 (-1)) (h1:u1= .int .i64 (-1))=>zCs h0 h1 dB dB))<|oc (zI zE zFp (fun u0 u1 W hb (h0:u0= .int .i64 3) (h1:u1= .int .i64 3)=>zCs h0 h1 dB dB))<|oc (y6 (fun u v W (hu:(fPN ((((-1):Int):Rat),(((-1):Int):Rat))).p u W) (hv:(fPN (((3:Int):Rat),((3:Int):Rat))).p v W)=>zVU hu hv))<|oc (zI zE zVH (fun u0 u1 W hb (h0:(fPR (fPV 3 (zKr [T3L].flatten)) (fPV 3 (zKs [T3L].flatten))).p u0 W) (h1:(fPR (fPN ((((-1):Int):Rat),(((-1):Int):Rat))) (fPN (((3:Int):Rat),((3:Int):Rat)))).p u1 W)=>(zLB (m:=3) (lo:=(zKr [T3L].flatten)) (hi:=(zKs [T3L].flatten)) (lo2:=((((-1):Int):Rat),(((-1):Int):Rat))) (hi2:=(((3:Int):Rat),((3:Int):Rat))) h0 (zRE (p:=((((-1):Int):Rat),(((-1):Int):Rat))) (q:=(((3:Int):Rat),((3:Int):Rat))) ⟨((qbz dB).mono dB),((qbz dB).mono dB)⟩ ⟨((qbz dB).mono dB),((qbz dB).mono dB)⟩ h1) dB dB).mono (wI (fun v W h=>by rw [tv1] at h;exact h))))<|oc zC<|oc (zF 20 true kI iiz (fun _=>zC) arf)<|oc (zF 20 true kI iiz (fun _=>yW (z:=12) (Cs:=egs 1 ([T3L].flatMap zAx)) kI (fun v W hb h=>(yU hv10 h (s.up hb))) (fun _=>rfl)) arf)<|oc (zF 20 true kI iiz (fun _=>zR .i64 ((egs 1 ([T3L].flatMap zAx)).length:Int) 3 true iiz iiz (by rfl) rfl) arf)<|oc (yJ true iiz (fun _ _ _ h=>h) (fun e=>by cases e))<|oc zC<|oc (zF 25 true kI iiz (fun _=>zC) arf)<|oc (zF 25 true kI iiz (fun _=>yL (z:=12) (Cs:=egs 1 ([T3L].flatMap zAx)) (i:=1) (C:=wC (fPR (fPV 1 ((zCh T3L 1).1)) (fPV 1 ((zCh T3L 1).2)))) kI rfl (fun v W hb h=>(yU hv10 h (s.up hb))) iiz) arf)<|oc (zF 25 true kI iiz (fun _=>zL (C:=cg (fPR (fPV 1 ((zCh T3L 1).1)) (fPV 1 ((zCh T3L 1).2)))) 0 kI) arf)<|oc (zF 25 true kI iiz (fun _=>zT (C:=cg (fPR (fPV 1 ((zCh T3L 1).1)) (fPV 1 ((zCh T3L 1).2)))) (k:=0) 6 kI (h:=zE9)) arf)<|oc (zF 25 true kI iiz (fun _=>zI zE zFp (fun u0 u1 W hb (h0:u0= .int .i64 0) (h1:u1= .int .i64 2)=>zCs h0 h1 dB dB)) arf)<|oc (zF 25 true kI iiz (fun _=>zI zE zKw (fun u0 u1 W hb (h0:(fPV 1 ((zCh T3L 1).1)).p u0 W) (h1:(fPN (((0:Int):Rat),((2:Int):Rat))).p u1 W)=>(zCP (m:=1) (p:=(zCh T3L 1).1) (q:=(((0:Int):Rat),((2:Int):Rat))) h0 (zAz (p:=(((0:Int):Rat),((2:Int):Rat))) (m:=1) (qbz dB) (qbz dB) h1) dB dB).mono (wI (fun v W h=>by rw [tv2] at h;exact h)))) arf)<|oc (yJ true iiz (fun _ _ _ h=>h) (fun e=>by cases e))<|oc zC<|oc (zF 33 true kI iiz (fun _=>zC) arf)<|oc (zF 33 true kI iiz (fun _=>zCy false iiz (fun _=>rfl)) arf)<|oc (yJ true iiz (fun _ _ _ h=>h) (fun e=>by cases e))<|oc zC<|oc (zF 37 true kI iiz (fun _=>zL (C:=cg (fPR (fPV 1 (qW [])) (fPV 1 (qX [])))) 0 kI) arf)<|oc (zF 37 true kI iiz (fun _=>zT (C:=cg (fPR (fPV 1 (qW [])) (fPV 1 (qX [])))) (k:=0) 6 kI (h:=zE9)) arf)<|oc (zF 37 true kI iiz (fun _=>zL (C:=cg (fPR (fPV 1 (qW [])) (fPV 1 (qX [])))) 6 kI) arf)<|oc (zF 37 true kI iiz (fun _=>zT (C:=cg (fPR (fPV 1 (qW [])) (fPV 1 (qX [])))) (k:=6) 6 kI (h:=zFQ)) arf)<|oc (zF 37 true kI iiz (fun _=>zI zE zKw (fun u0 u1 W hb (h0:(fPV 1 (qW [])).p u0 W) (h1:(fPV 1 (qX [])).p u1 W)=>(zCP (m:=1) (p:=qW []) (q:=qX []) h0 h1 dB dB).mono (wI (fun v W h=>by rw [tv3] at h;exact h)))) arf)<|oc (yJ true iiz (fun _ _ _ h=>h) (fun e=>by cases e))<|oc zC<|oc (zF 44 true kI iiz (fun _=>zCb zE zPh (fun W hb=>zDt)) arf)<|oc (zF 44 true kI iiz (fun _=>zI zE zFp (fun u0 u1 W hb (h0:u0= .int .i64 1) (h1:u1= .int .i64 0)=>zCs h0 h1 dB dB)) arf)<|oc (zF 44 true kI iiz (fun _=>zI zE zSc (fun u0 u1 W hb (h0:(wD 6 (pvs 1 T3L)).p u0 W) (h1:(fPN (((1:Int):Rat),((0:Int):Rat))).p u1 W)=>(zIB (m:=1) (p:=(((1:Int):Rat),((0:Int):Rat))) h0 (zAz (p:=(((1:Int):Rat),((0:Int):Rat))) (m:=1) (qbz dB) (qbz dB) h1) dB dB dB (hT.below (s.up hb))).mono (wI (fun v W h=>by rw [tv4] at h;exact h)))) arf)<|oc (zF 44 true kI iiz (fun _=>zCy false iiz (fun _=>rfl)) arf)<|oc (yJ true iiz (fun _ _ _ h=>h) (fun e=>by cases e))<|oc zC<|oc (zF 50 true kI iiz (fun _=>zCb zE zPh (fun W hb=>zDt)) arf)<|oc (zF 50 true kI iiz (fun _=>zI zE zFp (fun u0 u1 W hb (h0:u0= .int .i64 1) (h1:u1= .int .i64 1)=>zCs h0 h1 dB dB)) arf)<|oc (zF 50 true kI iiz (fun _=>zH zE zFq (fun u0 W hb (h0:u0= .int .i64 1)=>zCt 1 h0 dB)) arf)<|oc (zF 50 true kI iiz (fun _=>zH zE zFq (fun u0 W hb (h0:u0= .int .i64 0)=>zCt 0 h0 dB)) arf)<|oc (zF 50 true kI iiz (fun _=>zI zE zTZ (fun u0 u1 W hb (h0:QNp ((1:Int):Rat) u0 W) (h1:QNp ((0:Int):Rat) u1 W)=>zLw (m:=1) (wK h0 (qbz dB)) (wK h1 (qbz dB)) dB dB)) arf)<|oc (zF 50 true kI iiz (fun _=>zI zE zTX (fun u0 u1 W hb (h0:(fPN (((1:Int):Rat),((1:Int):Rat))).p u0 W) (h1:QNp ((((1:Int):Rat)+((0:Int):Rat)) / 2) u1 W)=>zHf (m:=1) (p:=(((1:Int):Rat),((1:Int):Rat))) (t:=((((1:Int):Rat)+((0:Int):Rat)) / 2)) (zAz (p:=(((1:Int):Rat),((1:Int):Rat))) (m:=1) (qbz dB) (qbz dB) h0) (wK h1 zPT) ⟨qbz dB,qbz dB⟩ zPT dB)) arf)<|oc (zF 50 true kI iiz (fun _=>zI zE zSc (fun u0 u1 W hb (h0:(wD 6 (pvs 1 T3L)).p u0 W) (h1:(fPN hfp).p u1 W)=>(zIB (m:=1) (p:=hfp) h0 (zAz (p:=hfp) (m:=1) zPU zPU h1) dB dB dB (hT.below (s.up hb))).mono (wI (fun v W h=>by rw [tv5] at h;exact h)))) arf)<|oc (yJ true iiz (fun _ _ _ h=>h) (fun e=>by cases e))<|oc zG<|zD) fun a w5 s=> ?_
 refine zA rfl ?_
 refine zYc ?_
 exact vG s hb0 (t:=0) rfl iiz
theorem zKt (f:Nat->Bool) (N:Nat):decide (zEr f N≥0)=(List.range N).any f:=by
 unfold zEr
 cases h:(List.range N).find? f with
 |none=>
  have:=List.find?_eq_none.1 h
  rw [show (List.range N).any f=false from zYJ.2 this]
  rfl
 |some k=>
  have h1:=List.find?_some h
  have h2:=List.mem_of_find?_eq_some h
  rw [zYK.2 ⟨k,h2,h1⟩]
  exact zYA (show (k:Int)≥0 by omega)
theorem zGU (ps:List V2) (p:V2):zBl ps p=if ((List.range (nE ps)).any (onK ps p))=true then 0 else 2*((zEw (crK ps p) (nE ps) % 2:Nat):Int) - 1:=by
 unfold zBl
 have h:=zKt (onK ps p) (nE ps)
 by_cases e:onI ps p≥0
 ·rw [if_pos e,if_pos (by rw [<-h];exact zYA e)]
 ·rw [if_neg e,if_neg (by rw [<-h,zYy (show ¬zEr (onK ps p) (nE ps)≥0 from e)];decide)]
  rfl
theorem zIJ {a b:Rat} (h:(a<=r/\r<=b)∨(b<=r/\r<=a)):zSm a b r=true:=by
 have le_q: ∀{x y:Rat},x<=y->qsg x y<=0:=fun {x y} h=>by
  rcases zDd x y with e|e|e
  ·omega
  ·omega
  ·exact absurd (zFO.1 e) (Rat.not_lt.2 h)
 have ge_q: ∀{x y:Rat},x<=y->0<=qsg y x:=fun {x y} h=>by rw [zIl x y];have:=le_q h;omega
 unfold zSm
 rw [zYE]
 constructor
 ·refine zYA ?_
  rcases h with ⟨h1,h2⟩|⟨h1,h2⟩
  ·have:=Int.mul_nonneg_of_nonpos_of_nonpos (le_q h1) (le_q h2);omega
  ·have:=Int.mul_nonneg (ge_q h2) (ge_q h1);omega
 ·unfold zUZ
  by_cases e:a=b
  ·subst e
   have:a=r:=by rcases h with ⟨h1,h2⟩|⟨h1,h2⟩<;>grind
   rw [this,zC5.2 rfl];rfl
  ·rw [beq_eq_false_iff_ne.2 (fun h=>e (zC5.1 h))];rfl
theorem zEZ {a b t:Rat} (h0:0<=t) (h1:t<=1):(a<=a+(b - a)*t/\a+(b - a)*t<=b)∨(b<=a+(b - a)*t/\a+(b - a)*t<=a):=by
 rcases (Rat.le_total:a<=b∨b<=a) with h|h
 ·have k1:=zYB (show 0<=b - a by grind) h0
  have k2:=zYB (show 0<=b - a by grind) (show 0<=1 - t by grind)
  exact .inl ⟨by grind,by grind⟩
 ·have k1:=zYB (show 0<=a - b by grind) h0
  have k2:=zYB (show 0<=a - b by grind) (show 0<=1 - t by grind)
  exact .inr ⟨by grind,by grind⟩
theorem zTn {t:Rat} (h0:0<=t) (h1:t<=1):onB a b (seg a b t)=true:=by
 unfold onB
 have h2:yQ a b (seg a b t)=0:=by
  unfold yQ
  rw [show crs a b (seg a b t)=0 by unfold crs seg;grind]
  rfl
 rw [h2]
 unfold seg
 rw [zIJ (zEZ h0 h1),zIJ (zEZ h0 h1)]
 rfl
theorem zNx (h2:2<=ps.length) (hi:i<ps.length) (h:onB (at_ ps i) (at_ ps ((i+1) % ps.length)) p=true):zBl ps p=0:=by
 rw [zGU]
 refine if_pos (zYK.2 ⟨i,zYs.2 ?_,h⟩)
 unfold nE
 rw [if_pos h2]
 exact hi
theorem zSY (z:Nat) (W:Wp):(wD z []).p (sN) W:=⟨none,0,rfl,zYm _,by decide,fun _=>rfl,fun i C hi=>by simp at hi⟩
theorem zGt {F:Fence} {P:Program} {G:Nat->SF} {d:Tmp} {f:FuncId} {y z q:Operand} {ats:Array Wr} (hF:zHZ F m P) (he:Enters P f) (h: ∀u v r s W,bW w0 W->(fct G x).p u W->(fct G y).p v W->(fct G z).p r W->(fct G q).p s W->Calls P f #[u,v,r,s] W (Ret W (G d))):qK F m P w0 ops G ⟨some d,.call ⟨.value (.func f),#[x,y,z,q],ats⟩,ty,pos,aft,none⟩:=
 zDG hF he fun b W hb hh=>by simpa using h _ _ _ _ W hb (hh x (by simp)) (hh y (by simp)) (hh z (by simp)) (hh q (by simp))
def zEt (p q:V2):Prop:= ∃m n,PB p m/\PB q n/\m+n<=81
theorem zEt.sub (h:zEt p q):QB (q.1 - p.1) 82/\QB (q.2 - p.2) 82:=by
 obtain ⟨m,n,h1,h2,h3⟩:=h
 exact ⟨(h2.1.sub h1.1).mono oP,(h2.2.sub h1.2).mono oP⟩
theorem zEt.one (h:zEt p q):QB p.1 80/\QB p.2 80:=by
 obtain ⟨m,n,h1,h2,h3⟩:=h
 exact ⟨h1.1.mono (by have:=h2.1.pos;omega),h1.2.mono (by have:=h2.1.pos;omega)⟩
theorem zEt.two (h:zEt p q):QB q.1 80/\QB q.2 80:=by
 obtain ⟨m,n,h1,h2,h3⟩:=h
 exact ⟨h2.1.mono (by have:=h1.1.pos;omega),h2.2.mono (by have:=h1.1.pos;omega)⟩
def dnm (a b c d:V2):Rat:=(b.1 - a.1)*(d.2 - c.2) - (b.2 - a.2)*(d.1 - c.1)
def tnm (a c d:V2):Rat:=(c.1 - a.1)*(d.2 - c.2) - (c.2 - a.2)*(d.1 - c.1)
def yZ (a b c d:V2):V2:=if dnm a b c d=0 then (((0:Int):Rat),((0:Int):Rat)) else seg a b (tnm a c d / dnm a b c d)
theorem zP8 (h:zEt a b) (hm:163<=m): ∃l:Ln,l.bd m/\ ∃s:Rat,s≠0/\ ∀p:V2,(l.A:Rat)*p.1+(l.B:Rat)*p.2+(l.C:Rat)=s*crs a b p:=by
 obtain ⟨k,n,ha,hb,hkn⟩:=h
 refine ⟨⟨-(b.2.num*a.2.den - a.2.num*b.2.den)*(a.1.den*b.1.den),(b.1.num*a.1.den - a.1.num*b.1.den)*(a.2.den*b.2.den),b.2.num*a.1.num*(b.1.den*a.2.den) - b.1.num*a.2.num*(a.1.den*b.2.den)⟩, ?_,(a.1.den:Rat)*b.1.den*(a.2.den*b.2.den), ?_,fun p=> ?_⟩
 ·have d1:=q7 ha.1.2;have d2:=q7 ha.2.2;have d3:=q7 hb.1.2;have d4:=q7 hb.2.2
  refine ⟨?_, ?_, ?_⟩
  ·exact ((((hb.2.1.mul d2).add ((ha.2.1.mul d4).neg.mono oP)).neg.mul (d1.mul d3)).mono oP)
  ·exact ((((hb.1.1.mul d1).add ((ha.1.1.mul d3).neg.mono oP)).mul (d2.mul d4)).mono oP)
  ·exact (((hb.2.1.mul ha.1.1).mul (d3.mul d2)).add ((((hb.1.1.mul ha.2.1).mul (d1.mul d4)).neg).mono oP)).mono oP
 ·have: ∀q:Rat,(q.den:Rat)≠0:=fun q h=>q.den_nz (by exact_mod_cast h)
  have h1:=this a.1;have h2:=this a.2;have h3:=this b.1;have h4:=this b.2
  intro h
  rcases zYL.1 h with h|h<;>rcases zYL.1 h with h|h<;>contradiction
 ·simp only [Rat.intCast_mul,Rat.intCast_sub,Rat.intCast_neg,Rat.intCast_natCast,zFg]
  unfold crs
  grind
theorem zOK {c d:V2} (hab:zEt a b) (hcd:zEt c d):QB (yZ a b c d).1 327/\QB (yZ a b c d).2 327:=by
 unfold yZ
 split
 ·exact ⟨QB.zero dB,QB.zero dB⟩
 ·rename_i hd
  obtain ⟨l,hl,s,hs,he⟩:=zP8 hab lr
  obtain ⟨l',hl',s',hs',he'⟩:=zP8 hcd lr
  have hne:a≠b:=fun e=>hd (by subst e;unfold dnm;grind)
  have h6:crs a b (seg a b (tnm a c d / dnm a b c d))=0:=by unfold crs seg;grind
  have h7:crs c d (seg a b (tnm a c d / dnm a b c d))=0:=by
   have e1:crs c d (seg a b (tnm a c d / dnm a b c d))=tnm a c d - tnm a c d / dnm a b c d*dnm a b c d:=by
    generalize tnm a c d / dnm a b c d=t
    unfold crs seg tnm dnm
    grind
   rw [e1,Rat.div_mul_cancel hd]
   grind
  have key: ∀q:V2,crs a b q=0->crs c d q≠0->PB (seg a b (tnm a c d / dnm a b c d)) 327:=fun q h1 h2=>
   zPn (l:=l) (l':=l') (q:=q) (m:=163) dB hl hl' (by unfold Ln.on;rw [he,h6];grind) (by unfold Ln.on;rw [he,h1];grind) (by unfold Ln.on;rw [he',h7];grind) (fun h=>by
    unfold Ln.on at h
    rw [he'] at h
    rcases zYL.1 h with h|h
    ·exact hs' h
    ·exact h2 h) (zUg hne l s hs he)
  by_cases h8:crs c d a=0
  ·exact key b (by unfold crs;grind) fun h9=>hd (by unfold crs at h8 h9;unfold dnm;grind)
  ·exact key a (by unfold crs;grind) h8
theorem zQv {c d:V2} (hab:zEt a b) (hcd:zEt c d):QB (dnm a b c d) 329:=((hab.sub.1.mul hcd.sub.2).sub (hab.sub.2.mul hcd.sub.1)).mono dB
theorem zPE {c d:V2} (hac:zEt a c) (hcd:zEt c d):QB (tnm a c d) 329:=((hac.sub.1.mul hcd.sub.2).sub (hac.sub.2.mul hcd.sub.1)).mono dB
def zBx (a b c d:V2):Int:=if (((pns (yR a b c d 4)).length:Int)≥2) then 2 else if (((pns (yR a b c d 4)).length:Int)==1)=true then 1 else if ((!(decide (dnm a b c d=0))&&onS a b (yZ a b c d))&&onS c d (yZ a b c d))=true then 1 else 0
section
variable {S:Nat->Prop} {w0 w1:Wp} {K K0:List (Nat×KF)} {n n0:Nat} {ds0:List Deferred} {a a0:Act} {w:Wp}
theorem yS.thaw: ∀(B:List Bx),yS S w0 a0 w1 B->yS noS w1 a w (frz B)->yS S w0 a w B
 | [],_,_=>trivial
 |x::B,⟨⟨_,_,h2,_,_,_,h6⟩,h7⟩,⟨⟨cs,g1,_,g3,g4,g5,_⟩,g7⟩=>⟨⟨cs,g1,h2,g3,g4,g5,h6⟩,yS.thaw B h7 g7⟩
theorem StS.thaw {B:List Bx} (h0:StS S w0 K0 B n0 ds0 a0 w1) (h:St w1 K (frz B) n [] a w) (hu:(K.all fun q=>zNt q.2)=true):StS S w0 K B n [] a w:=
 ⟨h0.gr.trans h.below,h.size,h.nd,fun q hq=>by
  have h1:=h.sl q hq
  obtain ⟨f,e⟩:=qY hu q hq
  rw [e] at h1 ⊢
  exact h1,yS.thaw B h0.bx h.bx,⟨[],Marks.nil _ _⟩,.inl (qY hu)⟩
end
def fMT (k:Int):UF:=⟨⟨fun v _=> ∃vs:List Wq,v= .agg (Value.int .i8 k::vs).toArray/\vs.length=12/\(∀u,u∈vs->u.oneCell'=true)/\vs.all yA=true,fun _ _ _ h _=>h⟩,fun _ _ _ h _=>h⟩
theorem zJv (k:Int) (cs:List Wq) (W:Wp) (h:(wC (fMT k)).p cs W):cs.length=13:=by
 obtain ⟨vs,e,h1,_⟩:=h
 obtain rfl:cs=Value.int .i8 k::vs:=by simpa using jH e
 simp [h1]
theorem zDK (k:Int) (v:Wq) (W:Wp) (h:(fMT k).p v W): ∃vs:List Wq,v= .agg vs.toArray/\vs.length=13/\(∀u,u∈vs->u.oneCell'=true)/\vs.all yA=true/\(wC (fMT k)).p vs W:=by
 obtain ⟨vs,rfl,h1,h2,h3⟩:=h
 exact ⟨_,rfl,by simp [h1],fun u hu=>by rcases zYl.1 hu with rfl|hu;rfl;exact h2 u hu,by simpa [yA] using h3,vs,rfl,h1,h2,h3⟩
theorem zGy (k:Int) (cs:List Wq) (W:Wp) (h:(wC (fMT k)).p cs W): ∃u,cs[0]?=some u/\(wB (.int .i8 k)).p u W:=by
 obtain ⟨vs,e,_⟩:=h
 obtain rfl:cs=Value.int .i8 k::vs:=by simpa using jH e
 exact ⟨_,rfl,rfl⟩
theorem zWA (k:Int) (a1 a2 a3 a4 a5 a6 b1 b2 b3 b4 b5 b6:Wq):prog.built 112 [(0,.int .i8 k),(1,.agg #[a1,a2,a3,a4,a5,a6]),(2,.agg #[b1,b2,b3,b4,b5,b6])]=some #[.int .i8 k,a1,a2,a3,a4,a5,a6,b1,b2,b3,b4,b5,b6]:=by kernel_rfl
theorem zWB (a1 a2 a3 a4 a5 a6 b1 b2 b3 b4 b5 b6:Wq):prog.built 112 [(1,.agg #[a1,a2,a3,a4,a5,a6]),(2,.agg #[b1,b2,b3,b4,b5,b6])]=some #[.int .i8 0,a1,a2,a3,a4,a5,a6,b1,b2,b3,b4,b5,b6]:=by kernel_rfl
theorem zEG (h:(fPT f g).p v W): ∃u0 u1 u2 u3 u4 u5,v= .agg #[u0,u1,u2,u3,u4,u5]/\(∀u,u∈ [u0,u1,u2,u3,u4,u5]->u.oneCell'=true)/\ [u0,u1,u2,u3,u4,u5].all yA=true:=by
 obtain ⟨vs,rfl,hl,h1,h2,_⟩:=yV v W h
 obtain ⟨u0,u1,u2,u3,u4,u5,rfl⟩:=zTz hl
 exact ⟨u0,u1,u2,u3,u4,u5,rfl,h1,h2⟩
theorem zSp {k:Int} (hu:(fPT f g).p u W) (hv:(fPT f' g').p v W): ∃cells,prog.built 112 [(0,.int .i8 k),(1,u),(2,v)]=some cells/\(fMT k).p (.agg cells) W:=by
 obtain ⟨a1,a2,a3,a4,a5,a6,rfl,h1,h2⟩:=zEG hu
 obtain ⟨b1,b2,b3,b4,b5,b6,rfl,h3,h4⟩:=zEG hv
 exact ⟨_,zWA .., [a1,a2,a3,a4,a5,a6]++ [b1,b2,b3,b4,b5,b6],rfl,rfl,fun u hu=>by rcases List.mem_append.1 hu with h|h;exact h1 u h;exact h3 u h,by rw [zYG,h2,h4];rfl⟩
theorem zVT (hu:(fPT f g).p u W) (hv:(fPT f' g').p v W): ∃cells,prog.built 112 [(1,u),(2,v)]=some cells/\(fMT 0).p (.agg cells) W:=by
 obtain ⟨a1,a2,a3,a4,a5,a6,rfl,h1,h2⟩:=zEG hu
 obtain ⟨b1,b2,b3,b4,b5,b6,rfl,h3,h4⟩:=zEG hv
 exact ⟨_,zWB .., [a1,a2,a3,a4,a5,a6]++ [b1,b2,b3,b4,b5,b6],rfl,rfl,fun u hu=>by rcases List.mem_append.1 hu with h|h;exact h1 u h;exact h3 u h,by rw [zYG,h2,h4];rfl⟩
theorem zLE {x:Wq} (h1:(fPV 80 ca).p u W) (h2:(fPV 80 cb).p v W) (h3:(fPV 80 cc).p x W) (h4:(fPV 80 cd).p y W):Calls prog 105 #[u,v,x,y] W (Ret W (wD 6 (pns (yR ca cb cc cd 4)))):=by
 have hq4: ∀p,p∈ [ca,cb,cc,cd]->QB p.1 80/\QB p.2 80:=fun p hp=>by
  simp only [zYl,List.not_mem_nil,or_false] at hp
  rcases hp with rfl|rfl|rfl|rfl
  ·exact zB6 dB h1
  ·exact zB6 dB h2
  ·exact zB6 dB h3
  ·exact zB6 dB h4
 refine z7 [(fPV 80 ca).tS,(fPV 80 cb).tS,(fPV 80 cc).tS,(fPV 80 cd).tS] func105 rfl kI ⟨h1,h2,h3,h4,trivial⟩ fun a s=> ?_
 replace s:=s.renew [(0,.u (fPV 80 ca)),(1,.u (fPV 80 cb)),(2,.u (fPV 80 cc)),(3,.u (fPV 80 cd))] (fmz ⟨.inr ⟨_,rfl,.head _⟩,fmz ⟨.inr ⟨_,rfl,mz1⟩,fmz ⟨.inr ⟨_,rfl,mz2⟩,fmz ⟨.inr ⟨_,rfl,mz3⟩,fnz⟩⟩⟩⟩)
 refine zYa ?_
 refine zB 0 [] hmix s kI
  zD fun a w1 s=> ?_
 refine yG (wC (fPV 80 ca)) rfl s kI (fun v W h=>yO h) fun b4 a w s=> ?_
 refine yG (wC (fPV 80 cb)) rfl s kI (fun v W h=>yO h) fun b5 a w s=> ?_
 refine yG (wC (fPV 80 cc)) rfl s kI (fun v W h=>yO h) fun b6 a w s=> ?_
 refine yG (wC (fPV 80 cd)) rfl s kI (fun v W h=>yO h) fun b7 a w s=> ?_
 refine yP (wB (sN)) rfl s kI iiz fun a w s=> ?_
 refine zA rfl ?_
 refine zYa ?_
 refine zB 1 ((9,.u (wB (sN))):: []) hmix s kI
  (oc zG<|zD) fun a w2 s=> ?_
 refine zA rfl ?_
 refine zYa ?_
 refine qS 5 ((12,.Z (fPV 80 ca))::(13,.Z (fPV 80 cb))::(14,.Z (fPV 80 cc))::(15,.Z (fPV 80 cd))::(16,.s (wD 6 (pvs 80 [ca,cb,cc,cd]))):: []) hmix s kI
  (oc (zJ (f:=fPV 80 ca) 6 kI (hz:=zO _ _))<|oc (zJ (f:=fPV 80 cb) 6 kI (hz:=zO _ _))<|oc (zJ (f:=fPV 80 cc) 6 kI (hz:=zO _ _))<|oc (zJ (f:=fPV 80 cd) 6 kI (hz:=zO _ _))<|oc (zLZ (fun u v r s W (hu:(fPV 80 ca).p u W) (hv:(fPV 80 cb).p v W) (hr:(fPV 80 cc).p r W) (hs:(fPV 80 cd).p s W)=>zSQ hu hv hr hs))<|zD) fun a w3 s hr=> ?_
 obtain ⟨v16,e16⟩: ∃v,a.tmps.getD 16 undef=v:=⟨_,rfl⟩
 have hv16:(wD 6 (pvs 80 [ca,cb,cc,cd])).p v16 w3:=e16▸(hr (_,_) mz4)
 replace s:=s.learn 16 v16 e16
 have hbX:=s.below
 replace s:StS _ _ _ [⟨7,30,wC (fPV 80 cd),b7,true⟩,⟨6,30,wC (fPV 80 cc),b6,true⟩,⟨5,30,wC (fPV 80 cb),b5,true⟩,⟨4,30,wC (fPV 80 ca),b4,true⟩] _ _ _ _:=s.freeze
 replace s:=s.reb rfl [(16,.u (wB v16)),(9,.u (wB (sN))),(8,.u (wB (sN))),(0,.u (fPV 80 ca)),(1,.u (fPV 80 cb)),(2,.u (fPV 80 cc)),(3,.u (fPV 80 cd))] (fmz ⟨.inl (.head _),fmz ⟨.inl mz1,fmz ⟨.inl mz2,fmz ⟨.inl mz3,fmz ⟨.inl mz4,fmz ⟨.inl mz5,fmz ⟨.inl mz6,fnz⟩⟩⟩⟩⟩⟩⟩)
 refine yP (wB v16) rfl s kI iiz fun a w s=> ?_
 refine zA rfl ?_
 refine zYa ?_
 refine zYa ?_
 refine zB 1 ((11,.u (uI 0)):: []) hmix s kI
  (oc zG<|zD) fun a w4 s=> ?_
 refine zA rfl ?_
 refine zYd ?_
 have hi0:(wD 6 (pns (yR ca cb cc cd 0))).p (sN) w4:=zSY 6 _
 refine zD4 (fun (p:Nat×Wq) w=>p.1<=4/\(wD 6 (pns (yR ca cb cc cd p.1))).p p.2 w) (fun p=> [(10,.u (wB v16)),(9,.u (wB p.2)),(11,.u (uI (p.1:Int)))]) (fun p=>4 - p.1) (0, sN) (⟨zYj _,hi0⟩) (s.keepK _ (fmz ⟨mz1,fmz ⟨mz3,fmz ⟨.head _,fnz⟩⟩⟩)) fun p a w hI s=> ?_
 have s0:=s
 have hv16w:=(wD 6 (pvs 80 [ca,cb,cc,cd])).st _ _ _ hv16 s0.below
 replace s:=s.reb rfl [(10,.u (wB v16)),(9,.u (wB p.2)),(11,.u (uI (p.1:Int)))] (fmz ⟨.inl (.head _),fmz ⟨.inl mz1,fmz ⟨.inl mz2,fnz⟩⟩⟩)
 refine zYa ?_
 refine zYa ?_
 refine zB 2 ((17,.Z (uI (p.1:Int)))::(18,.u (uB (decide ((p.1:Int)<4)))):: []) hmix s kI
  (oc zC<|oc (zR .i64 (p.1:Int) 4 (decide ((p.1:Int)<4)) iiz iiz rfl rfl)<|zD) fun a w5 s=> ?_
 refine zA rfl ?_
 refine StS.cond s (decide ((p.1:Int)<4)) iiz (fun e=> ?_) (fun e=> ?_)
 ·have hk4:p.1<4:=by have:=zYg e;omega
  have hk:p.1<([ca,cb,cc,cd]:List V2).length:=hk4
  refine zYb ?_
  refine zYa ?_
  refine zYd ?_
  refine zYa ?_
  refine zB 16 ((21,.Z (fPV 80 ca))::(22,.Z (fPV 80 cb))::(23,.Z (wB v16))::(24,.Z (uI (p.1:Int)))::(25,.Y (fPV 80 (at_ [ca,cb,cc,cd] p.1)))::(26,.Z (fPV 80 (at_ [ca,cb,cc,cd] p.1)))::(27,.Z (uB (onS ca cb (at_ [ca,cb,cc,cd] p.1))))::(28,.Z (uB (onS ca cb (at_ [ca,cb,cc,cd] p.1))))::(29,.s (SF.imp ((onS ca cb (at_ [ca,cb,cc,cd] p.1))=true) ((fPV 80 cc).tS)))::(30,.s (SF.imp ((onS ca cb (at_ [ca,cb,cc,cd] p.1))=true) ((fPV 80 cd).tS)))::(31,.s (SF.imp ((onS ca cb (at_ [ca,cb,cc,cd] p.1))=true) ((wB v16).tS)))::(32,.s (SF.imp ((onS ca cb (at_ [ca,cb,cc,cd] p.1))=true) ((uI (p.1:Int)).tS)))::(33,.s (SF.imp ((onS ca cb (at_ [ca,cb,cc,cd] p.1))=true) (wE (cg (fPV 80 (at_ [ca,cb,cc,cd] p.1))))))::(34,.s (SF.imp ((onS ca cb (at_ [ca,cb,cc,cd] p.1))=true) ((fPV 80 (at_ [ca,cb,cc,cd] p.1)).tS)))::(35,.s (SF.imp ((onS ca cb (at_ [ca,cb,cc,cd] p.1))=true) ((uB (onS cc cd (at_ [ca,cb,cc,cd] p.1))).tS)))::(36,.u (uB ((onS ca cb (at_ [ca,cb,cc,cd] p.1))&&(onS cc cd (at_ [ca,cb,cc,cd] p.1))))):: []) hmix s kI
   (oc (zJ (f:=fPV 80 ca) 6 kI (hz:=zO _ _))<|oc (zJ (f:=fPV 80 cb) 6 kI (hz:=zO _ _))<|oc zC<|oc zC<|oc (yL (z:=6) (Cs:=pvs 80 ([ca,cb,cc,cd])) (i:=p.1) (C:=wC (fPV 80 (at_ [ca,cb,cc,cd] p.1))) kI (qI hk) (fun v W hb h=>(yU hv16w h (s.up hb))) iiz)<|oc (zJ (f:=fPV 80 (at_ [ca,cb,cc,cd] p.1)) 6 kI (hz:=zO _ _))<|oc (jF zE zJI (fun u0 u1 u2 W hb (h0:(fPV 80 ca).p u0 W) (h1:(fPV 80 cb).p u1 W) (h2:(fPV 80 (at_ [ca,cb,cc,cd] p.1)).p u2 W)=>zGk (m:=80) (M:=80) h0 h1 h2 dB dB dB dB))<|oc zC<|oc (zF 28 (onS ca cb (at_ [ca,cb,cc,cd] p.1)) kI iiz (fun e=>zQ [] ((fPV 80 cc).tS) fnz fP kI (zJ (f:=fPV 80 cc) 6 kI (hz:=zO _ _))) fO)<|oc (zF 28 (onS ca cb (at_ [ca,cb,cc,cd] p.1)) kI iiz (fun e=>zQ [] ((fPV 80 cd).tS) fnz fP kI (zJ (f:=fPV 80 cd) 6 kI (hz:=zO _ _))) fO)<|oc (zF 28 (onS ca cb (at_ [ca,cb,cc,cd] p.1)) kI iiz (fun e=>zQ [] ((wB v16).tS) fnz fP kI zC) fO)<|oc (zF 28 (onS ca cb (at_ [ca,cb,cc,cd] p.1)) kI iiz (fun e=>zQ [] ((uI (p.1:Int)).tS) fnz fP kI zC) fO)<|oc (zF 28 (onS ca cb (at_ [ca,cb,cc,cd] p.1)) kI iiz (fun e=>zQ [(31,(wB v16).tS),(32,(uI (p.1:Int)).tS)] (wE (cg (fPV 80 (at_ [ca,cb,cc,cd] p.1)))) (fmz ⟨fun v W h=>zK (c:=(onS ca cb (at_ [ca,cb,cc,cd] p.1))=true) (f:=(wB v16).tS) e h,fmz ⟨fun v W h=>zK (c:=(onS ca cb (at_ [ca,cb,cc,cd] p.1))=true) (f:=(uI (p.1:Int)).tS) e h,fnz⟩⟩) fP kI (yL (z:=6) (Cs:=pvs 80 ([ca,cb,cc,cd])) (i:=p.1) (C:=wC (fPV 80 (at_ [ca,cb,cc,cd] p.1))) kI (qI hk) (fun v W hb h=>(yU hv16w h (s.up hb))) iiz)) fO)<|oc (zF 28 (onS ca cb (at_ [ca,cb,cc,cd] p.1)) kI iiz (fun e=>zQ [(33,wE (cg (fPV 80 (at_ [ca,cb,cc,cd] p.1))))] ((fPV 80 (at_ [ca,cb,cc,cd] p.1)).tS) (fmz ⟨fun v W h=>zK (c:=(onS ca cb (at_ [ca,cb,cc,cd] p.1))=true) (f:=wE (cg (fPV 80 (at_ [ca,cb,cc,cd] p.1)))) e h,fnz⟩) fP kI (zJ (f:=fPV 80 (at_ [ca,cb,cc,cd] p.1)) 6 kI (hz:=zO _ _))) fO)<|oc (zF 28 (onS ca cb (at_ [ca,cb,cc,cd] p.1)) kI iiz (fun e=>zQ [(29,(fPV 80 cc).tS),(30,(fPV 80 cd).tS),(34,(fPV 80 (at_ [ca,cb,cc,cd] p.1)).tS)] ((uB (onS cc cd (at_ [ca,cb,cc,cd] p.1))).tS) (fmz ⟨fun v W h=>zK (c:=(onS ca cb (at_ [ca,cb,cc,cd] p.1))=true) (f:=(fPV 80 cc).tS) e h,fmz ⟨fun v W h=>zK (c:=(onS ca cb (at_ [ca,cb,cc,cd] p.1))=true) (f:=(fPV 80 cd).tS) e h,fmz ⟨fun v W h=>zK (c:=(onS ca cb (at_ [ca,cb,cc,cd] p.1))=true) (f:=(fPV 80 (at_ [ca,cb,cc,cd] p.1)).tS) e h,fnz⟩⟩⟩) fP kI (jF zE zJI (fun u0 u1 u2 W hb (h0:(fPV 80 cc).p u0 W) (h1:(fPV 80 cd).p u1 W) (h2:(fPV 80 (at_ [ca,cb,cc,cd] p.1)).p u2 W)=>zGk (m:=80) (M:=80) h0 h1 h2 dB dB dB dB))) fO)<|oc (yJ (onS ca cb (at_ [ca,cb,cc,cd] p.1)) iiz (fun e v W h=>jU (zK e h) e) (fun e v W h=>jD h e))<|zD) fun a w6 s=> ?_
  refine zA rfl ?_
  refine StS.cond s ((onS ca cb (at_ [ca,cb,cc,cd] p.1))&&(onS cc cd (at_ [ca,cb,cc,cd] p.1))) iiz (fun e=> ?_) (fun e=> ?_)
  ·refine zB5 6 ((37,.Z (wB p.2))::(38,.Z (wB v16))::(39,.Z (uI (p.1:Int)))::(40,.Y (fPV 80 (at_ [ca,cb,cc,cd] p.1)))::(41,.Z (fPV 80 (at_ [ca,cb,cc,cd] p.1)))::(42,.s (wD 6 (pns (zGn (yR ca cb cc cd p.1) (at_ [ca,cb,cc,cd] p.1))))):: []) s kI
    (oc zC<|oc zC<|oc zC<|oc (yL (z:=6) (Cs:=pvs 80 ([ca,cb,cc,cd])) (i:=p.1) (C:=wC (fPV 80 (at_ [ca,cb,cc,cd] p.1))) kI (qI hk) (fun v W hb h=>(yU hv16w h (s.up hb))) iiz)<|oc (zJ (f:=fPV 80 (at_ [ca,cb,cc,cd] p.1)) 6 kI (hz:=zO _ _))<|oc (zI zE zT6 (fun u0 u1 W hb (h0:u0=p.2) (h1:(fPV 80 (at_ [ca,cb,cc,cd] p.1)).p u1 W)=>zOf (m:=80) (L:=yR ca cb cc cd p.1) (p:=(at_ [ca,cb,cc,cd] p.1)) (yU hI.2 h0 (s.up hb)) h1 (zJG hq4 p.1 oP) dB dB (by have:=zFo ca cb cc cd p.1;omega)))<|zD) fun a w7 s hr=> ?_
   obtain ⟨v42,e42⟩: ∃v,a.tmps.getD 42 undef=v:=⟨_,rfl⟩
   have hv42:(wD 6 (pns (zGn (yR ca cb cc cd p.1) (at_ [ca,cb,cc,cd] p.1)))).p v42 w7:=e42▸(hr (_,_) mz5)
   replace s:=s.learn 42 v42 e42
   replace s:=s.keepK [(42,.u (wB v42)),(36,.u (uB ((onS ca cb (at_ [ca,cb,cc,cd] p.1))&&(onS cc cd (at_ [ca,cb,cc,cd] p.1))))),(18,.u (uB (decide ((p.1:Int)<4)))),(10,.u (wB v16)),(9,.u (wB p.2)),(11,.u (uI (p.1:Int)))] (fmz ⟨.head _,fmz ⟨mz1,fmz ⟨mz2,fmz ⟨mz3,fmz ⟨mz4,fmz ⟨mz5,fnz⟩⟩⟩⟩⟩⟩)
   have s1:=s0.back s rfl
   replace s:StS _ _ _ [⟨7,30,wC (fPV 80 cd),b7,true⟩,⟨6,30,wC (fPV 80 cc),b6,true⟩,⟨5,30,wC (fPV 80 cb),b5,true⟩,⟨4,30,wC (fPV 80 ca),b4,true⟩] _ _ _ _:=s.freeze
   replace s:=s.reb rfl [(42,.u (wB v42)),(36,.u (uB ((onS ca cb (at_ [ca,cb,cc,cd] p.1))&&(onS cc cd (at_ [ca,cb,cc,cd] p.1))))),(18,.u (uB (decide ((p.1:Int)<4)))),(10,.u (wB v16)),(9,.u (wB p.2)),(11,.u (uI (p.1:Int)))] (fmz ⟨.inl (.head _),fmz ⟨.inl mz1,fmz ⟨.inl mz2,fmz ⟨.inl mz3,fmz ⟨.inl mz4,fmz ⟨.inl mz5,fnz⟩⟩⟩⟩⟩⟩)
   replace s:=s.drop [9]
   refine yP (wB v42) rfl s kI iiz fun a w s=> ?_
   refine zA rfl ?_
   refine zX 2 ((19,.Z (uI (p.1:Int)))::(20,.u (uI ((p.1+1:Nat):Int))):: []) s kI
    (oc zC<|oc (yM .i64 (p.1:Int) 1 ((p.1+1:Nat):Int) iiz iiz (wrap64 _ _ oP oP))<|zD) fun a w8 s=> ?_
   replace s:=s.drop [11]
   refine yP (uI ((p.1+1:Nat):Int)) rfl s kI iiz fun a w s=> ?_
   refine zA rfl ?_
   have hbw:=s.below
   replace s:=s1.back (s.keepK [(11,.u (uI ((p.1+1:Nat):Int))),(20,.u (uI ((p.1+1:Nat):Int))),(9,.u (wB v42)),(42,.u (wB v42)),(36,.u (uB ((onS ca cb (at_ [ca,cb,cc,cd] p.1))&&(onS cc cd (at_ [ca,cb,cc,cd] p.1))))),(18,.u (uB (decide ((p.1:Int)<4)))),(10,.u (wB v16))] (fmz ⟨.head _,fmz ⟨mz1,fmz ⟨mz2,fmz ⟨mz3,fmz ⟨mz4,fmz ⟨mz5,fmz ⟨mz6,fnz⟩⟩⟩⟩⟩⟩⟩)) rfl
   exact ⟨(p.1+1,v42),(by show 4 - (p.1+1)<4 - p.1;omega),⟨hk4,by show (wD 6 (pns (yR ca cb cc cd (p.1+1)))).p v42 _;rw [zSa e];exact (wD 6 _).st _ _ _ hv42 hbw⟩,s.keepK _ (fmz ⟨mz6,fmz ⟨mz2,fmz ⟨.head _,fnz⟩⟩⟩)⟩
  ·refine zYb ?_
   refine zX 2 ((19,.Z (uI (p.1:Int)))::(20,.u (uI ((p.1+1:Nat):Int))):: []) s kI
    (oc zC<|oc (yM .i64 (p.1:Int) 1 ((p.1+1:Nat):Int) iiz iiz (wrap64 _ _ oP oP))<|zD) fun a w9 s=> ?_
   replace s:=s.drop [11]
   refine yP (uI ((p.1+1:Nat):Int)) rfl s kI iiz fun a w s=> ?_
   refine zA rfl ?_
   have hbw:=s.below
   replace s:=s0.back (s.keepK [(11,.u (uI ((p.1+1:Nat):Int))),(20,.u (uI ((p.1+1:Nat):Int))),(36,.u (uB ((onS ca cb (at_ [ca,cb,cc,cd] p.1))&&(onS cc cd (at_ [ca,cb,cc,cd] p.1))))),(18,.u (uB (decide ((p.1:Int)<4)))),(10,.u (wB v16)),(9,.u (wB p.2))] (fmz ⟨.head _,fmz ⟨mz1,fmz ⟨mz2,fmz ⟨mz3,fmz ⟨mz4,fmz ⟨mz5,fnz⟩⟩⟩⟩⟩⟩)) rfl
   exact ⟨(p.1+1,p.2),(by show 4 - (p.1+1)<4 - p.1;omega),⟨hk4,by show (wD 6 (pns (yR ca cb cc cd (p.1+1)))).p p.2 _;rw [zSb e];exact (wD 6 _).st _ _ _ hI.2 hbw⟩,s.keepK _ (fmz ⟨mz4,fmz ⟨mz5,fmz ⟨.head _,fnz⟩⟩⟩)⟩
 ·have hk:p.1=4:=by have h7:=zYh e;have h8:=hI.1;omega
  refine zYk ?_
  refine zYa ?_
  refine zB 2 ((43,.Z (wB p.2))::(8,.u (wB p.2)):: []) hmix s kI
   (oc zC<|oc zG<|zD) fun a w10 s=> ?_
  refine zA rfl ?_
  refine zYc ?_
  exact StS.resN s (hbX.trans (s0.below.mono hbX.size)) rfl (by rw [s.val (.head _)];have:=(wD 6 _).st _ _ _ hI.2 s.below;rw [hk] at this;exact this)
theorem zKf {x:Wq} (h1:(fPV 80 ca).p u W) (h2:(fPV 80 cb).p v W) (h3:(fPV 80 cc).p x W) (h4:(fPV 80 cd).p y W) (hab:zEt ca cb) (hcd:zEt cc cd) (hac:zEt ca cc):Calls prog 106 #[u,v,x,y] W (Ret W (zAw (fPV 327 (yZ ca cb cc cd)) (fB (!(decide ((dnm ca cb cc cd)=0))))).tS):=by
 have hql:QB (yZ ca cb cc cd).1 327/\QB (yZ ca cb cc cd).2 327:=zOK hab hcd
 have hqt:QB ((tnm ca cc cd) / (dnm ca cb cc cd)) 658:=((zPE hac hcd).div (zQv hab hcd)).mono dB
 refine z7 [(fPV 80 ca).tS,(fPV 80 cb).tS,(fPV 80 cc).tS,(fPV 80 cd).tS] func106 rfl kI ⟨h1,h2,h3,h4,trivial⟩ fun a s=> ?_
 refine zYa ?_
 refine zB 0 [] hmix s kI
  zD fun a w1 s=> ?_
 refine yG (wC (fPV 80 ca)) rfl s kI (fun v W h=>yO h) fun b4 a w s=> ?_
 refine yG (wC (fPV 80 cb)) rfl s kI (fun v W h=>yO h) fun b5 a w s=> ?_
 refine yG (wC (fPV 80 cc)) rfl s kI (fun v W h=>yO h) fun b6 a w s=> ?_
 refine yG (wC (fPV 80 cd)) rfl s kI (fun v W h=>yO h) fun b7 a w s=> ?_
 refine zZ (CU.len 6) (cs:=zP6) kI rfl s kI (fun W=>rfl) rfl fun b8 a w s=> ?_
 refine yP (uB false) rfl s kI iiz fun a w s=> ?_
 refine zA rfl ?_
 refine zYa ?_
 have so:=s.old;have sg:=s.gr
 refine zBy (fun i=> [].contains i) [⟨6,10,30, [.bool false, sN, sN,.bool false, sN, sN],wM w 30 (CU.len 6)⟩,⟨7,11,30, [.bool false, sN, sN,.bool false, sN, sN],wM w 30 (CU.len 6)⟩] 8 ((15,.Z (fPV 80 cb))::(16,.Z (fPV 80 ca))::(17,.u (fPN ((cb).1 - (ca).1,(cb).2 - (ca).2)))::(18,.Z (fPV 80 cd))::(19,.Z (fPV 80 cc))::(20,.u (fPN ((cd).1 - (cc).1,(cd).2 - (cc).2)))::(10,.s (wM w 30 (CU.len 6)))::(11,.s (wM w 30 (CU.len 6))):: []) hmix s (fmz ⟨⟨by show 6<8;decide,mz6,⟨_,_,_,rfl⟩,by kernel_rfl,zBS (fun _=>rfl) rfl⟩,fmz ⟨⟨by show 7<8;decide,mz7,⟨_,_,_,rfl⟩,by kernel_rfl,zBS (fun _=>rfl) rfl⟩,fnz⟩⟩) kI
  (oc (zJ (f:=fPV 80 cb) 6 kI (hz:=zO _ _))<|oc (zJ (f:=fPV 80 ca) 6 kI (hz:=zO _ _))<|oc (zI zE zFE (fun u0 u1 W hb (h0:(fPV 80 cb).p u0 W) (h1:(fPV 80 ca).p u1 W)=>zBQ (m:=80) (p:=cb) (q:=ca) h0 h1 dB dB))<|oc (zJ (f:=fPV 80 cd) 6 kI (hz:=zO _ _))<|oc (zJ (f:=fPV 80 cc) 6 kI (hz:=zO _ _))<|oc (zI zE zFE (fun u0 u1 W hb (h0:(fPV 80 cd).p u0 W) (h1:(fPV 80 cc).p u1 W)=>zBQ (m:=80) (p:=cd) (q:=cc) h0 h1 dB dB))<|oc (zCU (cs:=zP6) kI (zBS (fun _=>rfl) rfl))<|oc (zCU (cs:=zP6) kI (zBS (fun _=>rfl) rfl))<|zD) fun Q' hQ a w2 s hr hd=> ?_
 obtain ⟨b10,hB10,e10,s⟩:=s.adoptA false 10 (hr (_,_) mz6) sg (fun y hy=> .inl (so y hy))
 obtain ⟨b11,hB11,e11,s⟩:=s.adoptA false 11 (hr (_,_) mz7) sg (fun y hy=>by rcases zYl.1 hy with rfl|hy;exact .inr (.inr fun b hb=>hd _ _ (.head _) mz1 (by show 6≠7;decide) _ _ e10 hb);exact .inl (so y hy))
 refine zS (wC (fPN ((cb).1 - (ca).1,(cb).2 - (ca).2))) ((fPN ((cb).1 - (ca).1,(cb).2 - (ca).2)).tS) rfl s kI rfl rfl rfl iiz iiz yV fun a w s=> ?_
 refine zS (wC (fPN ((cd).1 - (cc).1,(cd).2 - (cc).2))) ((fPN ((cd).1 - (cc).1,(cd).2 - (cc).2)).tS) rfl s kI rfl rfl rfl iiz iiz yV fun a w s=> ?_
 refine zA rfl (hQ _ _ ?_)
 refine zYa ?_
 refine zB 3 ((21,.Z (fPN ((cb).1 - (ca).1,(cb).2 - (ca).2)))::(22,.Z (fPN ((cd).1 - (cc).1,(cd).2 - (cc).2)))::(23,.u (fQN (dnm ca cb cc cd))):: []) hmix s kI
  (oc (zJ (f:=fPN ((cb).1 - (ca).1,(cb).2 - (ca).2)) 6 kI (hz:=zO _ _))<|oc (zJ (f:=fPN ((cd).1 - (cc).1,(cd).2 - (cc).2)) 6 kI (hz:=zO _ _))<|oc (zI zE zPb (fun u0 u1 W hb (h0:(fPN ((cb).1 - (ca).1,(cb).2 - (ca).2)).p u0 W) (h1:(fPN ((cd).1 - (cc).1,(cd).2 - (cc).2)).p u1 W)=>zE6 (m:=82) (p:=((cb).1 - (ca).1,(cb).2 - (ca).2)) (q:=((cd).1 - (cc).1,(cd).2 - (cc).2)) (zAz (p:=((cb).1 - (ca).1,(cb).2 - (ca).2)) (m:=82) (hab.sub.1.mono (by first|omega|decide)) (hab.sub.2.mono (by first|omega|decide)) h0) (zAz (p:=((cd).1 - (cc).1,(cd).2 - (cc).2)) (m:=82) (hcd.sub.1.mono (by first|omega|decide)) (hcd.sub.2.mono (by first|omega|decide)) h1) hab.sub hcd.sub dB dB))<|zD) fun a w3 s=> ?_
 refine zZ (CU.len 3) (cs:=zR3) kI rfl s kI (fun W=>rfl) rfl fun b12 a w s=> ?_
 refine zS (wC (fQN (dnm ca cb cc cd))) ((fQN (dnm ca cb cc cd)).tS) rfl s kI rfl rfl rfl iiz iiz yN fun a w s=> ?_
 refine zA rfl ?_
 refine zYa ?_
 have so:=s.old;have sg:=s.gr
 refine zBy (fun i=> [9].contains i) [⟨10,13,28, [.bool false, sN, sN],wM w 28 (CU.len 3)⟩] 11 ((25,.Z (fPV 80 cc))::(26,.Z (fPV 80 ca))::(27,.Z (fPN ((cc).1 - (ca).1,(cc).2 - (ca).2)))::(28,.Z (fPN ((cd).1 - (cc).1,(cd).2 - (cc).2)))::(29,.Z (fQN (tnm ca cc cd)))::(30,.Z (fQN (dnm ca cb cc cd)))::(31,.Z (zAw (fQN ((tnm ca cc cd) / (dnm ca cb cc cd))) (uI (if (dnm ca cb cc cd)=0 then 30 else 0))))::(24,.Z (zAw (fQN ((tnm ca cc cd) / (dnm ca cb cc cd))) (uI (if (dnm ca cb cc cd)=0 then 30 else 0))))::(32,.u (fQN ((tnm ca cc cd) / (dnm ca cb cc cd))))::(33,.u (uI (if (dnm ca cb cc cd)=0 then 30 else 0)))::(13,.s (wM w 28 (CU.len 3))):: []) hmix s (fmz ⟨⟨by show 10<11;decide,zNs,⟨_,_,_,rfl⟩,by kernel_rfl,zBS (fun _=>rfl) rfl⟩,fnz⟩) kI
  (oc (zJ (f:=fPV 80 cc) 6 kI (hz:=zO _ _))<|oc (zJ (f:=fPV 80 ca) 6 kI (hz:=zO _ _))<|oc (zI zE zFE (fun u0 u1 W hb (h0:(fPV 80 cc).p u0 W) (h1:(fPV 80 ca).p u1 W)=>zBQ (m:=80) (p:=cc) (q:=ca) h0 h1 dB dB))<|oc (zJ (f:=fPN ((cd).1 - (cc).1,(cd).2 - (cc).2)) 6 kI (hz:=zO _ _))<|oc (zI zE zPb (fun u0 u1 W hb (h0:(fPN ((cc).1 - (ca).1,(cc).2 - (ca).2)).p u0 W) (h1:(fPN ((cd).1 - (cc).1,(cd).2 - (cc).2)).p u1 W)=>zE6 (m:=82) (p:=((cc).1 - (ca).1,(cc).2 - (ca).2)) (q:=((cd).1 - (cc).1,(cd).2 - (cc).2)) (zAz (p:=((cc).1 - (ca).1,(cc).2 - (ca).2)) (m:=82) (hac.sub.1.mono (by first|omega|decide)) (hac.sub.2.mono (by first|omega|decide)) h0) (zAz (p:=((cd).1 - (cc).1,(cd).2 - (cc).2)) (m:=82) (hcd.sub.1.mono (by first|omega|decide)) (hcd.sub.2.mono (by first|omega|decide)) h1) hac.sub hcd.sub dB dB))<|oc (zJ (f:=fQN (dnm ca cb cc cd)) 3 kI (hz:=jC _))<|oc (zI zE zTV (fun u0 u1 W hb (h0:QNp (tnm ca cc cd) u0 W) (h1:QNp (dnm ca cb cc cd) u1 W)=>zLt (m:=329) (wK h0 (zPE hac hcd)) (wK h1 (zQv hab hcd)) dB dB))<|oc zC<|oc (zAK (A:=(fQN ((tnm ca cc cd) / (dnm ca cb cc cd))).tS) (B:=(uI (if (dnm ca cb cc cd)=0 then 30 else 0)).tS) iiz)<|oc (zAJ (A:=(fQN ((tnm ca cc cd) / (dnm ca cb cc cd))).tS) (B:=(uI (if (dnm ca cb cc cd)=0 then 30 else 0)).tS) iiz)<|oc (zCU (cs:=zR3) kI (zBS (fun _=>rfl) rfl))<|zD) fun Q' hQ a w4 s hr hd=> ?_
 obtain ⟨b13,hB13,e13,s⟩:=s.adoptA false 13 (hr (_,_) zNs) sg (fun y hy=> .inl (so y hy))
 refine zS (wC (fQN ((tnm ca cc cd) / (dnm ca cb cc cd)))) ((fQN ((tnm ca cc cd) / (dnm ca cb cc cd))).tS) rfl s kI rfl rfl rfl iiz iiz yN fun a w s=> ?_
 refine yP (uI (if (dnm ca cb cc cd)=0 then 30 else 0)) rfl s kI iiz fun a w s=> ?_
 refine zA rfl (hQ _ _ ?_)
 refine zYa ?_
 refine zYa ?_
 refine zB 2 ((34,.Z (uI (if (dnm ca cb cc cd)=0 then 30 else 0)))::(35,.u (uB (decide ((dnm ca cb cc cd)=0)))):: []) hmix s kI
  (oc zC<|oc (zR .i64 (if (dnm ca cb cc cd)=0 then 30 else 0) 0 (decide ((dnm ca cb cc cd)=0)) iiz iiz (by show ((if (dnm ca cb cc cd)=0 then (30:Int) else 0) !=0)=_;by_cases h:(dnm ca cb cc cd)=0;(rw [if_pos h,zYA h];rfl);(rw [if_neg h,zYy h];rfl)) rfl)<|zD) fun a w5 s=> ?_
 refine zA rfl ?_
 refine StS.cond s (decide ((dnm ca cb cc cd)=0)) iiz (fun e=> ?_) (fun e=> ?_)
 ·have h00:=zYg e
  refine zYa ?_
  replace s:=s.drop [9]
  refine zB 1 ((36,.u (fPV 327 (yZ ca cb cc cd))):: []) hmix s kI
   (oc (zI zE zFp (fun u0 u1 W hb (h0:u0= .int .i64 0) (h1:u1= .int .i64 0)=>(zCs h0 h1 dB dB).mono (wI (fun v W h=>zAz (p:=(yZ ca cb cc cd)) (m:=327) hql.1 hql.2 (by unfold yZ;rw [if_pos h00];exact h)))))<|zD) fun a w6 s=> ?_
  refine zS (wC (fPV 327 (yZ ca cb cc cd))) ((fPV 327 (yZ ca cb cc cd)).tS) rfl s kI rfl rfl rfl iiz iiz yV fun a w s=> ?_
  refine yP (uB false) rfl s kI iiz fun a w s=> ?_
  refine zA rfl ?_
  refine zYc ?_
  exact wU s (wC (fPV 327 (yZ ca cb cc cd))) rfl kI rfl rfl (zO _ _) (fun cs v W h1 h2=>⟨_,_,rfl,h1,by rw [e];exact h2⟩)
 ·have h00:=zYh e
  refine zYb ?_
  refine zYa ?_
  replace s:=s.drop [9]
  refine zB 4 ((37,.Z (fPV 80 ca))::(38,.Z (fPV 80 cb))::(39,.Z (fQN ((tnm ca cc cd) / (dnm ca cb cc cd))))::(40,.u (fPV 327 (yZ ca cb cc cd))):: []) hmix s kI
   (oc (zJ (f:=fPV 80 ca) 6 kI (hz:=zO _ _))<|oc (zJ (f:=fPV 80 cb) 6 kI (hz:=zO _ _))<|oc (zJ (f:=fQN ((tnm ca cc cd) / (dnm ca cb cc cd))) 3 kI (hz:=jC _))<|oc (jF zE zSj (fun u0 u1 u2 W hb (h0:(fPV 80 ca).p u0 W) (h1:(fPV 80 cb).p u1 W) (h2:QNp ((tnm ca cc cd) / (dnm ca cb cc cd)) u2 W)=>(zLr (m:=80) (k:=658) 821 (p:=ca) (q:=cb) (t:=(tnm ca cc cd) / (dnm ca cb cc cd)) h0 h1 (wK h2 hqt) hab.one hab.two hqt dB dB dB).mono (wI (fun v W h=>zAz (p:=(yZ ca cb cc cd)) (m:=327) hql.1 hql.2 (by unfold yZ;rw [if_neg h00];exact h)))))<|zD) fun a w7 s=> ?_
  refine zS (wC (fPV 327 (yZ ca cb cc cd))) ((fPV 327 (yZ ca cb cc cd)).tS) rfl s kI rfl rfl rfl iiz iiz yV fun a w s=> ?_
  refine yP (uB true) rfl s kI iiz fun a w s=> ?_
  refine zA rfl ?_
  refine zYc ?_
  exact wU s (wC (fPV 327 (yZ ca cb cc cd))) rfl kI rfl rfl (zO _ _) (fun cs v W h1 h2=>⟨_,_,rfl,h1,by rw [e];exact h2⟩)
theorem zLD {x:Wq} (h1:(fPV 80 ca).p u W) (h2:(fPV 80 cb).p v W) (h3:(fPV 80 cc).p x W) (h4:(fPV 80 cd).p y W) (hab:zEt ca cb) (hcd:zEt cc cd) (hac:zEt ca cc):Calls prog 83 #[u,v,x,y] W (Ret W (fMT (zBx ca cb cc cd)).tS):=by
 refine z7 [(fPV 80 ca).tS,(fPV 80 cb).tS,(fPV 80 cc).tS,(fPV 80 cd).tS] func83 rfl kI ⟨h1,h2,h3,h4,trivial⟩ fun a s=> ?_
 replace s:=s.renew [(0,.u (fPV 80 ca)),(1,.u (fPV 80 cb)),(2,.u (fPV 80 cc)),(3,.u (fPV 80 cd))] (fmz ⟨.inr ⟨_,rfl,.head _⟩,fmz ⟨.inr ⟨_,rfl,mz1⟩,fmz ⟨.inr ⟨_,rfl,mz2⟩,fmz ⟨.inr ⟨_,rfl,mz3⟩,fnz⟩⟩⟩⟩)
 refine zYa ?_
 refine zB 0 [] hmix s kI
  zD fun a w1 s=> ?_
 refine yG (wC (fPV 80 ca)) rfl s kI (fun v W h=>yO h) fun b4 a w s=> ?_
 refine yG (wC (fPV 80 cb)) rfl s kI (fun v W h=>yO h) fun b5 a w s=> ?_
 refine yG (wC (fPV 80 cc)) rfl s kI (fun v W h=>yO h) fun b6 a w s=> ?_
 refine yG (wC (fPV 80 cd)) rfl s kI (fun v W h=>yO h) fun b7 a w s=> ?_
 refine zZ (CU.len 13) (cs:= [.int .i8 0,.bool false, sN, sN,.bool false, sN, sN,.bool false, sN, sN,.bool false, sN, sN]) kI rfl s kI (fun W=>rfl) rfl fun b8 a w s=> ?_
 refine zA rfl ?_
 refine zYa ?_
 refine qS 5 ((12,.Z (fPV 80 ca))::(13,.Z (fPV 80 cb))::(14,.Z (fPV 80 cc))::(15,.Z (fPV 80 cd))::(16,.s (wD 6 (pns (yR ca cb cc cd 4)))):: []) hmix s kI
  (oc (zJ (f:=fPV 80 ca) 6 kI (hz:=zO _ _))<|oc (zJ (f:=fPV 80 cb) 6 kI (hz:=zO _ _))<|oc (zJ (f:=fPV 80 cc) 6 kI (hz:=zO _ _))<|oc (zJ (f:=fPV 80 cd) 6 kI (hz:=zO _ _))<|oc (zGt zE zUb (fun u0 u1 u2 u3 W hb (h0:(fPV 80 ca).p u0 W) (h1:(fPV 80 cb).p u1 W) (h2:(fPV 80 cc).p u2 W) (h3:(fPV 80 cd).p u3 W)=>zLE h0 h1 h2 h3))<|zD) fun a w2 s hr=> ?_
 obtain ⟨v16,e16⟩: ∃v,a.tmps.getD 16 undef=v:=⟨_,rfl⟩
 have hv16:(wD 6 (pns (yR ca cb cc cd 4))).p v16 w2:=e16▸(hr (_,_) mz4)
 replace s:=s.learn 16 v16 e16
 replace s:=s.keepK [(16,.u (wB v16)),(0,.u (fPV 80 ca)),(1,.u (fPV 80 cb)),(2,.u (fPV 80 cc)),(3,.u (fPV 80 cd))] (fmz ⟨.head _,fmz ⟨mz1,fmz ⟨mz2,fmz ⟨mz3,fmz ⟨mz4,fnz⟩⟩⟩⟩⟩)
 have s1:=s
 replace s:StS _ _ _ [⟨8,112,CU.len 13,b8,true⟩,⟨7,30,wC (fPV 80 cd),b7,true⟩,⟨6,30,wC (fPV 80 cc),b6,true⟩,⟨5,30,wC (fPV 80 cb),b5,true⟩,⟨4,30,wC (fPV 80 ca),b4,true⟩] _ _ _ _:=s.freeze
 replace s:=s.reb rfl [(16,.u (wB v16)),(0,.u (fPV 80 ca)),(1,.u (fPV 80 cb)),(2,.u (fPV 80 cc)),(3,.u (fPV 80 cd))] (fmz ⟨.inl (.head _),fmz ⟨.inl mz1,fmz ⟨.inl mz2,fmz ⟨.inl mz3,fmz ⟨.inl mz4,fnz⟩⟩⟩⟩⟩)
 refine zPG (wB v16) rfl s kI iiz fun a s=> ?_
 refine zA rfl ?_
 refine zYa ?_
 refine zYa ?_
 refine zB 3 ((17,.Z (wB v16))::(18,.Z (uI ((pns (yR ca cb cc cd 4)).length:Int)))::(19,.u (uB (decide (((pns (yR ca cb cc cd 4)).length:Int)≥2)))):: []) hmix s kI
  (oc zC<|oc (yW (z:=6) (Cs:=pns (yR ca cb cc cd 4)) kI (fun v W hb h=>(yU hv16 h (s.up hb))) (fun _=>rfl))<|oc (zR .i64 ((pns (yR ca cb cc cd 4)).length:Int) 2 (decide (((pns (yR ca cb cc cd 4)).length:Int)≥2)) iiz iiz rfl rfl)<|zD) fun a w3 s=> ?_
 refine zA rfl ?_
 refine StS.cond s (decide (((pns (yR ca cb cc cd 4)).length:Int)≥2)) iiz (fun e=> ?_) (fun e=> ?_)
 ·have hlen:0<(yR ca cb cc cd 4).length:=by have:=zYg e;simp at this;omega
  have hk:zBx ca cb cc cd=2:=if_pos (zYg e)
  refine zYa ?_
  refine z9 [0,3,4] 10 ((20,.Z (wB v16))::(21,.Y (fPN (at_ (yR ca cb cc cd 4) 0)))::(22,.Z (fPN (at_ (yR ca cb cc cd 4) 0)))::(23,.Z (wB v16))::(24,.Z (wB v16))::(25,.Z (uI ((pns (yR ca cb cc cd 4)).length:Int)))::(26,.Z (uI (((yR ca cb cc cd 4).length - 1:Nat):Int)))::(27,.Y (fPN (at_ (yR ca cb cc cd 4) ((yR ca cb cc cd 4).length - 1))))::(28,.Z (fPN (at_ (yR ca cb cc cd 4) ((yR ca cb cc cd 4).length - 1))))::(29,.u (fMT 2)):: []) hmix s kI
   (oc zC<|oc (yL (z:=6) (Cs:=pns (yR ca cb cc cd 4)) (i:=0) (C:=wC (fPN (at_ (yR ca cb cc cd 4) 0))) kI (zDe (show 0<(yR ca cb cc cd 4).length by have hx:=hlen;omega)) (fun v W hb h=>(yU hv16 h (s.up hb))) iiz)<|oc (zJ (f:=fPN (at_ (yR ca cb cc cd 4) 0)) 6 kI (hz:=zO _ _))<|oc zC<|oc zC<|oc (yW (z:=6) (Cs:=pns (yR ca cb cc cd 4)) kI (fun v W hb h=>(yU hv16 h (s.up hb))) (fun _=>rfl))<|oc (zEd .i64 ((pns (yR ca cb cc cd 4)).length:Int) 1 (((yR ca cb cc cd 4).length - 1:Nat):Int) iiz iiz (by have:=zFo ca cb cc cd 4;simp only [zYq];rw [zYn];omega))<|oc (yL (z:=6) (Cs:=pns (yR ca cb cc cd 4)) (i:=((yR ca cb cc cd 4).length - 1)) (C:=wC (fPN (at_ (yR ca cb cc cd 4) ((yR ca cb cc cd 4).length - 1)))) kI (zDe (show ((yR ca cb cc cd 4).length - 1)<(yR ca cb cc cd 4).length by have hx:=hlen;omega)) (fun v W hb h=>(yU hv16 h (s.up hb))) iiz)<|oc (zJ (f:=fPN (at_ (yR ca cb cc cd 4) ((yR ca cb cc cd 4).length - 1))) 6 kI (hz:=zO _ _))<|oc (zBY (fun u v q W (hu:u= .int .i8 2) (hv:(fPN (at_ (yR ca cb cc cd 4) 0)).p v W) (hq:(fPN (at_ (yR ca cb cc cd 4) ((yR ca cb cc cd 4).length - 1))).p q W)=>by rw [show u=_ from hu];exact zSp hv hq))<|zD) fun Q' hQ a w4 s=> ?_
  replace s:=s.keepK [(29,.u (fMT 2)),(19,.u (uB (decide (((pns (yR ca cb cc cd 4)).length:Int)≥2)))),(9,.u (wB v16)),(16,.u (wB v16)),(0,.u (fPV 80 ca)),(1,.u (fPV 80 cb)),(2,.u (fPV 80 cc)),(3,.u (fPV 80 cd))] (fmz ⟨.head _,fmz ⟨mz1,fmz ⟨mz2,fmz ⟨mz3,fmz ⟨mz4,fmz ⟨mz5,fmz ⟨mz6,fmz ⟨mz7,fnz⟩⟩⟩⟩⟩⟩⟩⟩)
  replace s:=s1.thaw s rfl
  refine zS (wC (fMT 2)) ((fMT 2).tS) rfl s kI rfl rfl rfl iiz iiz (zDK _) fun a w s=> ?_
  refine zA rfl (hQ _ _ ?_)
  refine zYc ?_
  exact wH s (wC (fMT 2)) rfl kI rfl rfl (zJv _) (fun cs W h=>by rw [hk];exact h)
 ·have e2:=zYh e
  refine zYb ?_
  refine zYa ?_
  refine zYa ?_
  refine zB 3 ((30,.Z (wB v16))::(31,.Z (uI ((pns (yR ca cb cc cd 4)).length:Int)))::(32,.u (uB (((pns (yR ca cb cc cd 4)).length:Int)==1))):: []) hmix s kI
   (oc zC<|oc (yW (z:=6) (Cs:=pns (yR ca cb cc cd 4)) kI (fun v W hb h=>(yU hv16 h (s.up hb))) (fun _=>rfl))<|oc (zR .i64 ((pns (yR ca cb cc cd 4)).length:Int) 1 (((pns (yR ca cb cc cd 4)).length:Int)==1) iiz iiz rfl rfl)<|zD) fun a w5 s=> ?_
  refine zA rfl ?_
  refine StS.cond s (((pns (yR ca cb cc cd 4)).length:Int)==1) iiz (fun e=> ?_) (fun e=> ?_)
  ·have hlen:0<(yR ca cb cc cd 4).length:=by have:=beq_iff_eq.1 e;simp at this;omega
   have hk:zBx ca cb cc cd=1:=by unfold zBx;rw [if_neg e2,if_pos e]
   refine zYa ?_
   refine z9 [0,3] 7 ((33,.Z (wB v16))::(34,.Y (fPN (at_ (yR ca cb cc cd 4) 0)))::(35,.Z (fPN (at_ (yR ca cb cc cd 4) 0)))::(36,.Z (wB v16))::(37,.Y (fPN (at_ (yR ca cb cc cd 4) 0)))::(38,.Z (fPN (at_ (yR ca cb cc cd 4) 0)))::(39,.u (fMT 1)):: []) hmix s kI
    (oc zC<|oc (yL (z:=6) (Cs:=pns (yR ca cb cc cd 4)) (i:=0) (C:=wC (fPN (at_ (yR ca cb cc cd 4) 0))) kI (zDe (show 0<(yR ca cb cc cd 4).length by have hx:=hlen;omega)) (fun v W hb h=>(yU hv16 h (s.up hb))) iiz)<|oc (zJ (f:=fPN (at_ (yR ca cb cc cd 4) 0)) 6 kI (hz:=zO _ _))<|oc zC<|oc (yL (z:=6) (Cs:=pns (yR ca cb cc cd 4)) (i:=0) (C:=wC (fPN (at_ (yR ca cb cc cd 4) 0))) kI (zDe (show 0<(yR ca cb cc cd 4).length by have hx:=hlen;omega)) (fun v W hb h=>(yU hv16 h (s.up hb))) iiz)<|oc (zJ (f:=fPN (at_ (yR ca cb cc cd 4) 0)) 6 kI (hz:=zO _ _))<|oc (zBY (fun u v q W (hu:u= .int .i8 1) (hv:(fPN (at_ (yR ca cb cc cd 4) 0)).p v W) (hq:(fPN (at_ (yR ca cb cc cd 4) 0)).p q W)=>by rw [show u=_ from hu];exact zSp hv hq))<|zD) fun Q' hQ a w6 s=> ?_
   replace s:=s.keepK [(39,.u (fMT 1)),(32,.u (uB (((pns (yR ca cb cc cd 4)).length:Int)==1))),(19,.u (uB (decide (((pns (yR ca cb cc cd 4)).length:Int)≥2)))),(9,.u (wB v16)),(16,.u (wB v16)),(0,.u (fPV 80 ca)),(1,.u (fPV 80 cb)),(2,.u (fPV 80 cc)),(3,.u (fPV 80 cd))] (fmz ⟨.head _,fmz ⟨mz1,fmz ⟨mz2,fmz ⟨mz3,fmz ⟨mz4,fmz ⟨mz5,fmz ⟨mz6,fmz ⟨mz7,fmz ⟨mz8,fnz⟩⟩⟩⟩⟩⟩⟩⟩⟩)
   replace s:=s1.thaw s rfl
   refine zS (wC (fMT 1)) ((fMT 1).tS) rfl s kI rfl rfl rfl iiz iiz (zDK _) fun a w s=> ?_
   refine zA rfl (hQ _ _ ?_)
   refine zYc ?_
   exact wH s (wC (fMT 1)) rfl kI rfl rfl (zJv _) (fun cs W h=>by rw [hk];exact h)
  ·have e3:=e
   replace s:=s.keepK [(32,.u (uB (((pns (yR ca cb cc cd 4)).length:Int)==1))),(19,.u (uB (decide (((pns (yR ca cb cc cd 4)).length:Int)≥2)))),(9,.u (wB v16)),(16,.u (wB v16)),(0,.u (fPV 80 ca)),(1,.u (fPV 80 cb)),(2,.u (fPV 80 cc)),(3,.u (fPV 80 cd))] (fmz ⟨.head _,fmz ⟨mz1,fmz ⟨mz2,fmz ⟨mz3,fmz ⟨mz4,fmz ⟨mz5,fmz ⟨mz6,fmz ⟨mz7,fnz⟩⟩⟩⟩⟩⟩⟩⟩)
   replace s:=s1.thaw s rfl
   refine zYb ?_
   refine zYa ?_
   refine zB 8 ((41,.Z (fPV 80 ca))::(42,.Z (fPV 80 cb))::(43,.Z (fPV 80 cc))::(44,.Z (fPV 80 cd))::(45,.Z (zAw (fPV 327 (yZ ca cb cc cd)) (uB (!(decide ((dnm ca cb cc cd)=0))))))::(40,.Z (zAw (fPV 327 (yZ ca cb cc cd)) (uB (!(decide ((dnm ca cb cc cd)=0))))))::(46,.u (fPV 327 (yZ ca cb cc cd)))::(47,.u (uB (!(decide ((dnm ca cb cc cd)=0))))):: []) hmix s kI
    (oc (zJ (f:=fPV 80 ca) 6 kI (hz:=zO _ _))<|oc (zJ (f:=fPV 80 cb) 6 kI (hz:=zO _ _))<|oc (zJ (f:=fPV 80 cc) 6 kI (hz:=zO _ _))<|oc (zJ (f:=fPV 80 cd) 6 kI (hz:=zO _ _))<|oc (zGt zE zUa (fun u0 u1 u2 u3 W hb (h0:(fPV 80 ca).p u0 W) (h1:(fPV 80 cb).p u1 W) (h2:(fPV 80 cc).p u2 W) (h3:(fPV 80 cd).p u3 W)=>zKf h0 h1 h2 h3 hab hcd hac))<|oc zC<|oc (zAK (A:=(fPV 327 (yZ ca cb cc cd)).tS) (B:=(uB (!(decide ((dnm ca cb cc cd)=0)))).tS) iiz)<|oc (zAJ (A:=(fPV 327 (yZ ca cb cc cd)).tS) (B:=(uB (!(decide ((dnm ca cb cc cd)=0)))).tS) iiz)<|zD) fun a w7 s=> ?_
   refine zZ (CU.len 6) (cs:=zP6) kI rfl s kI (fun W=>rfl) rfl fun b10 a w s=> ?_
   refine zS (wC (fPV 327 (yZ ca cb cc cd))) ((fPV 327 (yZ ca cb cc cd)).tS) rfl s kI rfl rfl rfl iiz iiz yV fun a w s=> ?_
   refine yP (uB (!(decide ((dnm ca cb cc cd)=0)))) rfl s kI iiz fun a w s=> ?_
   refine zA rfl ?_
   refine zYa ?_
   refine zYa ?_
   refine zB 13 ((48,.Z (uB (!(decide ((dnm ca cb cc cd)=0)))))::(49,.Z (uB (!(decide ((dnm ca cb cc cd)=0)))))::(50,.s (SF.imp ((!(decide ((dnm ca cb cc cd)=0)))=true) ((fPV 80 ca).tS)))::(51,.s (SF.imp ((!(decide ((dnm ca cb cc cd)=0)))=true) ((fPV 80 cb).tS)))::(52,.s (SF.imp ((!(decide ((dnm ca cb cc cd)=0)))=true) ((fPV 327 (yZ ca cb cc cd)).tS)))::(53,.s (SF.imp ((!(decide ((dnm ca cb cc cd)=0)))=true) ((uB (onS ca cb (yZ ca cb cc cd))).tS)))::(54,.Z (uB ((!(decide ((dnm ca cb cc cd)=0)))&&(onS ca cb (yZ ca cb cc cd)))))::(55,.Z (uB ((!(decide ((dnm ca cb cc cd)=0)))&&(onS ca cb (yZ ca cb cc cd)))))::(56,.s (SF.imp (((!(decide ((dnm ca cb cc cd)=0)))&&(onS ca cb (yZ ca cb cc cd)))=true) ((fPV 80 cc).tS)))::(57,.s (SF.imp (((!(decide ((dnm ca cb cc cd)=0)))&&(onS ca cb (yZ ca cb cc cd)))=true) ((fPV 80 cd).tS)))::(58,.s (SF.imp (((!(decide ((dnm ca cb cc cd)=0)))&&(onS ca cb (yZ ca cb cc cd)))=true) ((fPV 327 (yZ ca cb cc cd)).tS)))::(59,.s (SF.imp (((!(decide ((dnm ca cb cc cd)=0)))&&(onS ca cb (yZ ca cb cc cd)))=true) ((uB (onS cc cd (yZ ca cb cc cd))).tS)))::(60,.u (uB (((!(decide ((dnm ca cb cc cd)=0)))&&(onS ca cb (yZ ca cb cc cd)))&&(onS cc cd (yZ ca cb cc cd))))):: []) hmix s kI
    (oc zC<|oc zC<|oc (zF 49 (!(decide ((dnm ca cb cc cd)=0))) kI iiz (fun e=>zQ [] ((fPV 80 ca).tS) fnz fP kI (zJ (f:=fPV 80 ca) 6 kI (hz:=zO _ _))) fO)<|oc (zF 49 (!(decide ((dnm ca cb cc cd)=0))) kI iiz (fun e=>zQ [] ((fPV 80 cb).tS) fnz fP kI (zJ (f:=fPV 80 cb) 6 kI (hz:=zO _ _))) fO)<|oc (zF 49 (!(decide ((dnm ca cb cc cd)=0))) kI iiz (fun e=>zQ [] ((fPV 327 (yZ ca cb cc cd)).tS) fnz fP kI (zJ (f:=fPV 327 (yZ ca cb cc cd)) 6 kI (hz:=zO _ _))) fO)<|oc (zF 49 (!(decide ((dnm ca cb cc cd)=0))) kI iiz (fun e=>zQ [(50,(fPV 80 ca).tS),(51,(fPV 80 cb).tS),(52,(fPV 327 (yZ ca cb cc cd)).tS)] ((uB (onS ca cb (yZ ca cb cc cd))).tS) (fmz ⟨fun v W h=>zK (c:=(!(decide ((dnm ca cb cc cd)=0)))=true) (f:=(fPV 80 ca).tS) e h,fmz ⟨fun v W h=>zK (c:=(!(decide ((dnm ca cb cc cd)=0)))=true) (f:=(fPV 80 cb).tS) e h,fmz ⟨fun v W h=>zK (c:=(!(decide ((dnm ca cb cc cd)=0)))=true) (f:=(fPV 327 (yZ ca cb cc cd)).tS) e h,fnz⟩⟩⟩) fP kI (jF zE zJI (fun u0 u1 u2 W hb (h0:(fPV 80 ca).p u0 W) (h1:(fPV 80 cb).p u1 W) (h2:(fPV 327 (yZ ca cb cc cd)).p u2 W)=>zGk (m:=80) (M:=327) h0 h1 h2 dB dB dB dB))) fO)<|oc (yJ (!(decide ((dnm ca cb cc cd)=0))) iiz (fun e v W h=>jU (zK e h) e) (fun e v W h=>jD h e))<|oc zC<|oc (zF 55 ((!(decide ((dnm ca cb cc cd)=0)))&&(onS ca cb (yZ ca cb cc cd))) kI iiz (fun e=>zQ [] ((fPV 80 cc).tS) fnz fP kI (zJ (f:=fPV 80 cc) 6 kI (hz:=zO _ _))) fO)<|oc (zF 55 ((!(decide ((dnm ca cb cc cd)=0)))&&(onS ca cb (yZ ca cb cc cd))) kI iiz (fun e=>zQ [] ((fPV 80 cd).tS) fnz fP kI (zJ (f:=fPV 80 cd) 6 kI (hz:=zO _ _))) fO)<|oc (zF 55 ((!(decide ((dnm ca cb cc cd)=0)))&&(onS ca cb (yZ ca cb cc cd))) kI iiz (fun e=>zQ [] ((fPV 327 (yZ ca cb cc cd)).tS) fnz fP kI (zJ (f:=fPV 327 (yZ ca cb cc cd)) 6 kI (hz:=zO _ _))) fO)<|oc (zF 55 ((!(decide ((dnm ca cb cc cd)=0)))&&(onS ca cb (yZ ca cb cc cd))) kI iiz (fun e=>zQ [(56,(fPV 80 cc).tS),(57,(fPV 80 cd).tS),(58,(fPV 327 (yZ ca cb cc cd)).tS)] ((uB (onS cc cd (yZ ca cb cc cd))).tS) (fmz ⟨fun v W h=>zK (c:=((!(decide ((dnm ca cb cc cd)=0)))&&(onS ca cb (yZ ca cb cc cd)))=true) (f:=(fPV 80 cc).tS) e h,fmz ⟨fun v W h=>zK (c:=((!(decide ((dnm ca cb cc cd)=0)))&&(onS ca cb (yZ ca cb cc cd)))=true) (f:=(fPV 80 cd).tS) e h,fmz ⟨fun v W h=>zK (c:=((!(decide ((dnm ca cb cc cd)=0)))&&(onS ca cb (yZ ca cb cc cd)))=true) (f:=(fPV 327 (yZ ca cb cc cd)).tS) e h,fnz⟩⟩⟩) fP kI (jF zE zJI (fun u0 u1 u2 W hb (h0:(fPV 80 cc).p u0 W) (h1:(fPV 80 cd).p u1 W) (h2:(fPV 327 (yZ ca cb cc cd)).p u2 W)=>zGk (m:=80) (M:=327) h0 h1 h2 dB dB dB dB))) fO)<|oc (yJ ((!(decide ((dnm ca cb cc cd)=0)))&&(onS ca cb (yZ ca cb cc cd))) iiz (fun e v W h=>jU (zK e h) e) (fun e v W h=>jD h e))<|zD) fun a w8 s=> ?_
   refine zA rfl ?_
   refine StS.cond s (((!(decide ((dnm ca cb cc cd)=0)))&&(onS ca cb (yZ ca cb cc cd)))&&(onS cc cd (yZ ca cb cc cd))) iiz (fun e=> ?_) (fun e=> ?_)
   ·have hk:zBx ca cb cc cd=1:=by unfold zBx;rw [if_neg e2,if_neg (by rw [e3];decide),if_pos e]
    refine zYa ?_
    refine zB 3 ((61,.Z (fPV 327 (yZ ca cb cc cd)))::(62,.Z (fPV 327 (yZ ca cb cc cd)))::(63,.u (fMT 1)):: []) hmix s kI
     (oc (zJ (f:=fPV 327 (yZ ca cb cc cd)) 6 kI (hz:=zO _ _))<|oc (zJ (f:=fPV 327 (yZ ca cb cc cd)) 6 kI (hz:=zO _ _))<|oc (zBY (fun u v q W (hu:u= .int .i8 1) (hv:(fPV 327 (yZ ca cb cc cd)).p v W) (hq:(fPV 327 (yZ ca cb cc cd)).p q W)=>by rw [show u=_ from hu];exact zSp hv hq))<|zD) fun a w9 s=> ?_
    refine zS (wC (fMT 1)) ((fMT 1).tS) rfl s kI rfl rfl rfl iiz iiz (zDK _) fun a w s=> ?_
    refine zA rfl ?_
    refine zYc ?_
    exact wH s (wC (fMT 1)) rfl kI rfl rfl (zJv _) (fun cs W h=>by rw [hk];exact h)
   ·have hk:zBx ca cb cc cd=0:=by unfold zBx;rw [if_neg e2,if_neg (by rw [e3];decide),if_neg (by rw [e];decide)]
    refine zYb ?_
    refine zYa ?_
    refine zB 3 ((64,.Z (fPN (((0:Int):Rat),((0:Int):Rat))))::(65,.Z (fPN (((0:Int):Rat),((0:Int):Rat))))::(66,.u (fMT 0)):: []) hmix s kI
     (oc (zI zE zFp (fun u0 u1 W hb (h0:u0= .int .i64 0) (h1:u1= .int .i64 0)=>zCs h0 h1 dB dB))<|oc (zI zE zFp (fun u0 u1 W hb (h0:u0= .int .i64 0) (h1:u1= .int .i64 0)=>zCs h0 h1 dB dB))<|oc (y6 (fun u v W (hu:(fPN (((0:Int):Rat),((0:Int):Rat))).p u W) (hv:(fPN (((0:Int):Rat),((0:Int):Rat))).p v W)=>zVT hu hv))<|zD) fun a w10 s=> ?_
    refine zS (wC (fMT 0)) ((fMT 0).tS) rfl s kI rfl rfl rfl iiz iiz (zDK _) fun a w s=> ?_
    refine zA rfl ?_
    refine zYc ?_
    exact wH s (wC (fMT 0)) rfl kI rfl rfl (zJv _) (fun cs W h=>by rw [hk];exact h)
theorem zUU (z:Int) {n:Nat} (h:0<n): ∃k:Nat,k<n/\(z.tmod n+n).tmod n=(k:Int):=by
 have h1: -(n:Int)<z.tmod n:=Int.lt_tmod_of_pos z oP
 have h2:z.tmod n<n:=Int.tmod_lt_of_pos z oP
 have h3:0<=(z.tmod n+n).tmod n:=Int.tmod_nonneg _ oP
 have h4:(z.tmod n+n).tmod n<n:=Int.tmod_lt_of_pos _ oP
 exact ⟨((z.tmod n+n).tmod n).toNat,by omega,by omega⟩
theorem zQQ {z:Int} (h1: -9223372036854775808<=z) (h2:z<=9223372036854775807):IntKind.i64.wrap z=z:=by
 rw [zYn]
 omega
theorem zTf (ps:List PX): ∀C,C∈pxs ps->CU.ok 6 C:=fun C hC=>by
 obtain ⟨t,_,rfl⟩:=zYz.1 hC
 exact zDD _ _
theorem zOi (ps:List PX) (x:PX):pxs ps++ [PX.cu x]=pxs (ps++ [x]):=by simp [pxs]
end Go.Proofs.Wd
