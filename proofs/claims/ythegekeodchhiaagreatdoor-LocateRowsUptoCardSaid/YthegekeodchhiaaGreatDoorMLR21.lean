/- Walks of locate.Row, cuts.Find: where a number is among others; Walks  and what it needs. -/
import Derived.Test.YthegekeodchhiaaGreatDoorMLR20
theorem kI {P:Prop} (h:P:=by kernel_rfl):P:=h
theorem oP {P:Prop} (h:P:=by omega):P:=h
theorem dB {P:Prop} (h:P:=by decide):P:=h
abbrev zWf:=@Go.wpIn_seq
abbrev zWg:=@Go.wpIn_ret
abbrev zWh:=@Go.wpIn_skip
abbrev zWi:=@of_decide_eq_true
abbrev zWj:=@Go.wpIn_block
abbrev zWk:=@of_decide_eq_false
abbrev zWl:=@List.mem_cons
abbrev zWm:=@Go.wpIn_exit
abbrev zWn:=@Nat.lt_or_eq_of_le
abbrev zWo:=@Nat.zero_le
abbrev zWp:=@Nat.le_of_lt_succ
abbrev zWq:=@Nat.le_trans
abbrev zWr:=@Nat.le_refl
abbrev zWs:=@Nat.not_lt_zero
abbrev zWt:=@Bool.and_eq_true
abbrev zWu:=@Go.wpIn_wide
abbrev zWv:=@Bool.and_eq_false_iff
abbrev zWw:=@Go.RowKit.Below.refl
abbrev zWx:=@Go.wp_scope_straight
abbrev zWy:=@Bool.or_eq_false_iff
abbrev zWz:=@List.getElem?_eq_getElem
abbrev zWA:=@List.take_append_of_le_length
abbrev Wm:=Go.World
abbrev Wn:=Go.Value
namespace Go.Proofs.Wd
open Tryz
set_option maxRecDepth 100000
set_option maxHeartbeats 1000000
open Go.RowKit Lb
theorem zHH {m:Nat} {W:Wm} {u l:Wn} {y:Rat} {L:List Rat} (h1:RVp m y u W) (hl:(SF.row 3 (rvs m L)).p l W) (hm:m<=2000) (hm0:0<m) (hn:L.length<=1000000) (hT:Tab W):Calls prog 7 #[u,l] W (Ret W (yU (fI (zAK L y).1) (fB (zAK L y).2)).tS):=by
 refine z9 [(fRV m y).tS,(UF.eq l).tS] func7 rfl kI ⟨h1,rfl,trivial⟩ fun a s=> ?_
 replace s:=s.renew [(0, .u (fRV m y)),(1, .u (UF.eq l))] (fmz ⟨.inr ⟨_,rfl, .head _⟩,fmz ⟨.inr ⟨_,rfl,mz1⟩,fnz⟩⟩)
 refine zWf ?_
 refine zC 0 [] hmix s kI
  zD fun a w1 s=> ?_
 refine yD (CU.agg (fRV m y)) rfl s kI (fun v W h=>y6 h) fun b2 a w s=> ?_
 refine zS (uI 0) rfl s kI iiz fun a w s=> ?_
 refine zS (uB false) rfl s kI iiz fun a w s=> ?_
 refine zA rfl ?_
 refine (zWu (n:=0)).2 (zWx ((zWu (n:=0)).1 ?_))
 refine zWf ?_
 replace s:=s.drop [4]
 refine zC 1 ((4, .u (uI (-1))):: []) hmix s kI
  (oc zF<|zD) fun a w2 s=> ?_
 refine zA rfl ?_
 refine zWf ?_
 refine wpIn_label ?_
 refine zWf ?_
 refine zWf ?_
 refine zC 3 ((9, .u (UF.eq l))::(10, .u (uI ((rvs m L).length:Int)))::(11, .u (uI 0)):: []) hmix s kI
  (oc zB<|oc (y8 (z:=3) (Cs:=rvs m L) kI (fun v W hb h=>(yT hl h (s.up hb))) (fun _=>rfl))<|oc zB<|zD) fun a w3 s=> ?_
 refine zA rfl ?_
 refine zWj ?_
 refine q8 (fun p=>p.1<=L.length/\p.2=zA4 L y p.1/\ ∀j,j<p.1->(qsg (qAt L j) y==0)=false) (fun p=> [(9, .u (UF.eq l)),(10, .u (uI ((rvs m L).length:Int))),(5, .u (uB false)),(11, .u (uI (p.1:Int))),(4, .u (uI ((p.2:Int) - 1)))]) (fun p=>L.length - p.1) ((0,0):Nat×Nat) (⟨zWo _,rfl,fun j hj=>absurd hj (zWs _)⟩) (s.keepK _ (fmz ⟨.head _,fmz ⟨mz1,fmz ⟨mz4,fmz ⟨mz2,fmz ⟨mz3,fnz⟩⟩⟩⟩⟩)) fun p a w hx s=> ?_
 have hcl:=zGG L y p.1
 have hlz:(rvs m L).length=L.length:=by simp
 refine zWf ?_
 refine zC 1 ((12, .u (uB (decide ((p.1:Int)<((rvs m L).length:Int))))):: []) hmix s kI
  (oc (zO .i64 (p.1:Int) ((rvs m L).length:Int) (decide ((p.1:Int)<((rvs m L).length:Int))) iiz iiz rfl rfl)<|zD) fun a w4 s=> ?_
 refine zA rfl ?_
 refine zWf ?_
 refine StS.cond s (decide ((p.1:Int)<((rvs m L).length:Int))) iiz (fun e=> ?_) (fun e=> ?_)
 ·have hk:p.1<L.length:=by have h7:=zWi e;rw [hlz] at h7;omega
  refine zWh ?_
  refine zWf ?_
  refine zWj ?_
  refine zWf ?_
  refine zC 3 ((13, .u (uI (p.1:Int)))::(14, .Y (fRV m (qAt L p.1)))::(15, .u (fRV m (qAt L p.1))):: []) hmix s kI
   (oc zB<|oc (zZ (z:=3) (Cs:=rvs m L) (i:=p.1) (C:=CU.agg (fRV m (qAt L p.1))) kI (zEl hk) (fun v W hb h=>(yT hl h (s.up hb))) iiz)<|oc (zI (f:=fRV m (qAt L p.1)) 3 kI (hz:=zT _ _))<|zD) fun a w5 s=> ?_
  refine z4 (CU.len 3) (cs:=zR3) kI rfl s kI (fun W=>rfl) rfl fun b7 a w s=> ?_
  refine zS (uI (p.1:Int)) rfl s kI iiz fun a w s=> ?_
  refine zN (CU.agg (fRV m (qAt L p.1))) ((fRV m (qAt L p.1)).tS) rfl s kI rfl rfl rfl iiz iiz zCP fun a w s=> ?_
  refine zA rfl ?_
  refine zWf ?_
  refine zC 4 ((16, .Z (fRV m (qAt L p.1)))::(17, .Z (fRV m y))::(18, .Z (uI (qsg (qAt L p.1) y)))::(8, .u (uI (qsg (qAt L p.1) y))):: []) hmix s kI
   (oc (zI (f:=fRV m (qAt L p.1)) 3 kI (hz:=zT _ _))<|oc (zI (f:=fRV m y) 3 kI (hz:=zT _ _))<|oc (zJ zE zHQ (fun u0 u1 W hb (h0:RVp m (qAt L p.1) u0 W) (h1:RVp m y u1 W)=>zEm (m:=m) h0 h1 hm hm0 (hT.below (s.up hb))))<|oc zF<|zD) fun a w6 s=> ?_
  refine zA rfl ?_
  refine zWj ?_
  refine zWf ?_
  refine zC 3 ((20, .Z (uI (qsg (qAt L p.1) y)))::(21, .Z (uB (qsg (qAt L p.1) y==0)))::(19, .u (uB (qsg (qAt L p.1) y==0))):: []) hmix s kI
   (oc zB<|oc (zO .i64 (qsg (qAt L p.1) y) 0 (qsg (qAt L p.1) y==0) iiz iiz rfl rfl)<|oc zF<|zD) fun a w7 s=> ?_
  refine zA rfl ?_
  refine StS.cond s (qsg (qAt L p.1) y==0) iiz (fun e=> ?_) (fun e=> ?_)
  ·refine zWf ?_
   replace s:=s.drop [4,5]
   refine zC 3 ((22, .Z (uI (p.1:Int)))::(4, .u (uI (p.1:Int)))::(5, .u (uB true)):: []) hmix s kI
    (oc zB<|oc zF<|oc zF<|zD) fun a w8 s=> ?_
   refine zA rfl ?_
   refine zWm ?_
   refine zWf ?_
   refine zR 2 ((29, .u (uI (p.1:Int)))::(30, .u (uB true)):: []) s kI
    (oc zB<|oc zB<|zD) fun a w9 s=> ?_
   replace s:=s.drop [4]
   refine zS (uI (p.1:Int)) rfl s kI iiz fun a w s=> ?_
   replace s:=s.drop [5]
   refine zS (uB true) rfl s kI iiz fun a w s=> ?_
   refine zA rfl ?_
   refine zWg ?_
   refine wN s (fI (zAK L y).1) (fB (zAK L y).2) (t:=4) (r:=5) rfl (fun v W h=> ?_) (fun v W h=> ?_)
   ·rw [zDx hk hx.2.2 e];exact h
   ·rw [zDx hk hx.2.2 e];exact h
  ·have hne:=e
   refine zWf ?_
   refine zC 3 ((24, .Z (uI (qsg (qAt L p.1) y)))::(25, .Z (uB (decide (qsg (qAt L p.1) y<0))))::(23, .u (uB (decide (qsg (qAt L p.1) y<0)))):: []) hmix s kI
    (oc zB<|oc (zO .i64 (qsg (qAt L p.1) y) 0 (decide (qsg (qAt L p.1) y<0)) iiz iiz rfl rfl)<|oc zF<|zD) fun a w10 s=> ?_
   refine zA rfl ?_
   refine StS.cond s (decide (qsg (qAt L p.1) y<0)) iiz (fun e=> ?_) (fun e=> ?_)
   ·refine zR 2 ((26, .Z (uI ((p.2:Int) - 1)))::(27, .u (uI (((p.2+1:Nat):Int) - 1))):: []) s kI
     (oc zB<|oc (yM .i64 ((p.2:Int) - 1) 1 (((p.2+1:Nat):Int) - 1) iiz iiz (by rw [IntKind.wrap_i64];omega))<|zD) fun a w11 s=> ?_
    replace s:=s.drop [4]
    refine zS (uI (((p.2+1:Nat):Int) - 1)) rfl s kI iiz fun a w s=> ?_
    refine zA rfl ?_
    refine zR 1 ((28, .u (uI ((p.1+1:Nat):Int))):: []) s kI
     (oc (yM .i64 (p.1:Int) 1 ((p.1+1:Nat):Int) iiz iiz (wrap64 _ _ oP oP))<|zD) fun a w12 s=> ?_
    replace s:=s.drop [11]
    refine zC0 (uI ((p.1+1:Nat):Int)) rfl s kI zB kI fun a w s=> ?_
    refine zA rfl ?_
    replace s:=s.popB
    exact ⟨(p.1+1,p.2+1),⟨hk,(by show _=zA4 L y (p.1+1);rw [zJ1 e,hx.2.1]),fun j hj=>by rcases zWn (zWp hj) with h|h;exact hx.2.2 j h;rw [h];exact hne⟩,(by show L.length - (p.1+1)<L.length - p.1;omega),s.keepK _ (fmz ⟨zNx,fmz ⟨zRj,fmz ⟨zSL,fmz ⟨.head _,fmz ⟨mz2,fnz⟩⟩⟩⟩⟩)⟩
   ·refine zWh ?_
    refine zR 1 ((28, .u (uI ((p.1+1:Nat):Int))):: []) s kI
     (oc (yM .i64 (p.1:Int) 1 ((p.1+1:Nat):Int) iiz iiz (wrap64 _ _ oP oP))<|zD) fun a w13 s=> ?_
    replace s:=s.drop [11]
    refine zC0 (uI ((p.1+1:Nat):Int)) rfl s kI zB kI fun a w s=> ?_
    refine zA rfl ?_
    replace s:=s.popB
    exact ⟨(p.1+1,p.2),⟨hk,(by show _=zA4 L y (p.1+1);rw [zJ3 e,hx.2.1]),fun j hj=>by rcases zWn (zWp hj) with h|h;exact hx.2.2 j h;rw [h];exact hne⟩,(by show L.length - (p.1+1)<L.length - p.1;omega),s.keepK _ (fmz ⟨mz9,fmz ⟨zGp,fmz ⟨zNx,fmz ⟨.head _,fmz ⟨zRj,fnz⟩⟩⟩⟩⟩)⟩
 ·have hk:p.1=L.length:=by have h7:=zWk e;have h8:=hx.1;rw [hlz] at h7;omega
  refine zWm ?_
  refine zWf ?_
  refine zR 2 ((29, .u (uI ((p.2:Int) - 1)))::(30, .u (uB false)):: []) s kI
   (oc zB<|oc zB<|zD) fun a w14 s=> ?_
  replace s:=s.drop [4]
  refine zS (uI ((p.2:Int) - 1)) rfl s kI iiz fun a w s=> ?_
  replace s:=s.drop [5]
  refine zS (uB false) rfl s kI iiz fun a w s=> ?_
  refine zA rfl ?_
  refine zWg ?_
  refine wN s (fI (zAK L y).1) (fB (zAK L y).2) (t:=4) (r:=5) rfl (fun v W h=> ?_) (fun v W h=> ?_)
  ·rw [zCr (fun j hj=>hx.2.2 j oP), <-hk, <-hx.2.1];exact h
  ·rw [zCr (fun j hj=>hx.2.2 j oP)];exact h
theorem zRL {m:Nat} {W:Wm} {l u:Wn} {x:Rat} {L:List Rat} (hl:(SF.row 3 (rvs m L)).p l W) (h1:RVp m x u W) (hm:m<=2000) (hm0:0<m) (hn:L.length<=1000000) (hT:Tab W):Calls prog 48 #[l,u] W (Ret W (zBu (fI (qA L x).1) (fB (qA L x).2.1) (fB (qA L x).2.2)).tS):=by
 refine z9 [(UF.eq l).tS,(fRV m x).tS] func48 rfl kI ⟨rfl,h1,trivial⟩ fun a s=> ?_
 replace s:=s.renew [(0, .u (UF.eq l)),(1, .u (fRV m x))] (fmz ⟨.inr ⟨_,rfl, .head _⟩,fmz ⟨.inr ⟨_,rfl,mz1⟩,fnz⟩⟩)
 refine zWf ?_
 refine zC 0 [] hmix s kI
  zD fun a w1 s=> ?_
 refine yD (CU.agg (fRV m x)) rfl s kI (fun v W h=>y6 h) fun b3 a w s=> ?_
 refine zS (uI 0) rfl s kI iiz fun a w s=> ?_
 refine zS (uB false) rfl s kI iiz fun a w s=> ?_
 refine zS (uB false) rfl s kI iiz fun a w s=> ?_
 refine zA rfl ?_
 refine (zWu (n:=0)).2 (zWx ((zWu (n:=0)).1 ?_))
 refine zWf ?_
 replace s:=s.drop [4]
 refine zC 1 ((4, .u (uI (-1))):: []) hmix s kI
  (oc zF<|zD) fun a w2 s=> ?_
 refine zA rfl ?_
 refine zWf ?_
 refine wpIn_label ?_
 refine zWf ?_
 refine zWf ?_
 refine zC 3 ((10, .u (UF.eq l))::(11, .u (uI ((rvs m L).length:Int)))::(12, .u (uI 0)):: []) hmix s kI
  (oc zB<|oc (y8 (z:=3) (Cs:=rvs m L) kI (fun v W hb h=>(yT hl h (s.up hb))) (fun _=>rfl))<|oc zB<|zD) fun a w3 s=> ?_
 refine zA rfl ?_
 refine zWj ?_
 refine q8 (fun p=>p.1<=L.length/\p.2=zH7 L x p.1/\ ∀j,j<p.1->(qsg (qAt L j) x==0)=false) (fun p=> [(0, .u (UF.eq l)),(10, .u (UF.eq l)),(11, .u (uI ((rvs m L).length:Int))),(5, .u (uB false)),(6, .u (uB false)),(12, .u (uI (p.1:Int))),(4, .u (uI (p.2)))]) (fun p=>L.length - p.1) ((0,-1):Nat×Int) (⟨zWo _,rfl,fun j hj=>absurd hj (zWs _)⟩) (s.keepK _ (fmz ⟨mz6,fmz ⟨.head _,fmz ⟨mz1,fmz ⟨mz5,fmz ⟨mz4,fmz ⟨mz2,fmz ⟨mz3,fnz⟩⟩⟩⟩⟩⟩⟩)) fun p a w hx s=> ?_
 have hlz:(rvs m L).length=L.length:=by simp
 refine zWf ?_
 refine zC 1 ((13, .u (uB (decide ((p.1:Int)<((rvs m L).length:Int))))):: []) hmix s kI
  (oc (zO .i64 (p.1:Int) ((rvs m L).length:Int) (decide ((p.1:Int)<((rvs m L).length:Int))) iiz iiz rfl rfl)<|zD) fun a w4 s=> ?_
 refine zA rfl ?_
 refine zWf ?_
 refine StS.cond s (decide ((p.1:Int)<((rvs m L).length:Int))) iiz (fun e=> ?_) (fun e=> ?_)
 ·have hk:p.1<L.length:=by have h7:=zWi e;rw [hlz] at h7;omega
  refine zWh ?_
  refine zWf ?_
  refine zWj ?_
  refine zWf ?_
  refine zC 3 ((14, .u (uI (p.1:Int)))::(15, .Y (fRV m (qAt L p.1)))::(16, .u (fRV m (qAt L p.1))):: []) hmix s kI
   (oc zB<|oc (zZ (z:=3) (Cs:=rvs m L) (i:=p.1) (C:=CU.agg (fRV m (qAt L p.1))) kI (zEl hk) (fun v W hb h=>(yT hl h (s.up hb))) iiz)<|oc (zI (f:=fRV m (qAt L p.1)) 3 kI (hz:=zT _ _))<|zD) fun a w5 s=> ?_
  refine z4 (CU.len 3) (cs:=zR3) kI rfl s kI (fun W=>rfl) rfl fun b8 a w s=> ?_
  refine zS (uI (p.1:Int)) rfl s kI iiz fun a w s=> ?_
  refine zN (CU.agg (fRV m (qAt L p.1))) ((fRV m (qAt L p.1)).tS) rfl s kI rfl rfl rfl iiz iiz zCP fun a w s=> ?_
  refine zA rfl ?_
  refine zWf ?_
  refine zWf ?_
  refine zC 4 ((17, .Z (fRV m (qAt L p.1)))::(18, .Z (fRV m x))::(19, .Z (uI (qsg (qAt L p.1) x)))::(9, .u (uI (qsg (qAt L p.1) x))):: []) hmix s kI
   (oc (zI (f:=fRV m (qAt L p.1)) 3 kI (hz:=zT _ _))<|oc (zI (f:=fRV m x) 3 kI (hz:=zT _ _))<|oc (zJ zE zHQ (fun u0 u1 W hb (h0:RVp m (qAt L p.1) u0 W) (h1:RVp m x u1 W)=>zEm (m:=m) h0 h1 hm hm0 (hT.below (s.up hb))))<|oc zF<|zD) fun a w6 s=> ?_
  refine zA rfl ?_
  refine zWj ?_
  refine zWf ?_
  refine zC 3 ((21, .Z (uI (qsg (qAt L p.1) x)))::(22, .Z (uB (qsg (qAt L p.1) (x)==0)))::(20, .u (uB (qsg (qAt L p.1) (x)==0))):: []) hmix s kI
   (oc zB<|oc (zO .i64 (qsg (qAt L p.1) x) 0 (qsg (qAt L p.1) (x)==0) iiz iiz rfl rfl)<|oc zF<|zD) fun a w7 s=> ?_
  refine zA rfl ?_
  refine StS.cond s (qsg (qAt L p.1) (x)==0) iiz (fun e=> ?_) (fun e=> ?_)
  ·refine zWf ?_
   replace s:=s.drop [4,5,6]
   refine zC 4 ((23, .Z (uI (p.1:Int)))::(4, .u (uI (p.1:Int)))::(5, .u (uB true))::(6, .u (uB true)):: []) hmix s kI
    (oc zB<|oc zF<|oc zF<|oc zF<|zD) fun a w8 s=> ?_
   refine zA rfl ?_
   refine zWg ?_
   refine vF s (fI (qA L x).1) (fB (qA L x).2.1) (fB (qA L x).2.2) (t:=4) (r:=5) (q:=6) rfl (fun v W h=> ?_) (fun v W h=> ?_) (fun v W h=> ?_)
   ·rw [zGF hk hx.2.2 e];exact h
   ·rw [zGF hk hx.2.2 e];exact h
   ·rw [zGF hk hx.2.2 e];exact h
  ·have hne:=e
   refine zWf ?_
   refine zC 24 ((25, .Z (uI (p.2)))::(26, .Z (uB (decide (p.2≥0))))::(27, .Z (uB (decide (p.2≥0))))::(28, .s (SF.imp ((decide (p.2≥0))=false) ((uI (p.1:Int)).tS)))::(29, .s (SF.imp ((decide (p.2≥0))=false) ((uI ((p.1+1:Nat):Int)).tS)))::(30, .s (SF.imp ((decide (p.2≥0))=false) ((UF.eq l).tS)))::(31, .s (SF.imp ((decide (p.2≥0))=false) ((uI ((rvs m L).length:Int)).tS)))::(32, .s (SF.imp ((decide (p.2≥0))=false) ((uB (decide (((p.1+1:Nat):Int)≥((rvs m L).length:Int)))).tS)))::(33, .Z (uB ((decide (p.2≥0))||(decide (((p.1+1:Nat):Int)≥((rvs m L).length:Int))))))::(34, .Z (uB ((decide (p.2≥0))||(decide (((p.1+1:Nat):Int)≥((rvs m L).length:Int))))))::(35, .s (SF.imp (((decide (p.2≥0))||(decide (((p.1+1:Nat):Int)≥((rvs m L).length:Int))))=false) ((uI (qsg (qAt L p.1) x)).tS)))::(36, .s (SF.imp (((decide (p.2≥0))||(decide (((p.1+1:Nat):Int)≥((rvs m L).length:Int))))=false) ((uB (decide (qsg (qAt L p.1) x>0))).tS)))::(37, .Z (uB (((decide (p.2≥0))||(decide (((p.1+1:Nat):Int)≥((rvs m L).length:Int))))||(decide (qsg (qAt L p.1) x>0)))))::(38, .Z (uB (((decide (p.2≥0))||(decide (((p.1+1:Nat):Int)≥((rvs m L).length:Int))))||(decide (qsg (qAt L p.1) x>0)))))::(39, .s (SF.imp ((((decide (p.2≥0))||(decide (((p.1+1:Nat):Int)≥((rvs m L).length:Int))))||(decide (qsg (qAt L p.1) x>0)))=false) ((fRV m x).tS)))::(40, .s (SF.imp ((((decide (p.2≥0))||(decide (((p.1+1:Nat):Int)≥((rvs m L).length:Int))))||(decide (qsg (qAt L p.1) x>0)))=false) ((UF.eq l).tS)))::(41, .s (SF.imp ((((decide (p.2≥0))||(decide (((p.1+1:Nat):Int)≥((rvs m L).length:Int))))||(decide (qsg (qAt L p.1) x>0)))=false) ((uI (p.1:Int)).tS)))::(42, .s (SF.imp ((((decide (p.2≥0))||(decide (((p.1+1:Nat):Int)≥((rvs m L).length:Int))))||(decide (qsg (qAt L p.1) x>0)))=false) ((uI ((p.1+1:Nat):Int)).tS)))::(43, .s (SF.imp ((((decide (p.2≥0))||(decide (((p.1+1:Nat):Int)≥((rvs m L).length:Int))))||(decide (qsg (qAt L p.1) x>0)))=false) (wB (cg (fRV m (qAt L (p.1+1)))))))::(44, .s (SF.imp ((((decide (p.2≥0))||(decide (((p.1+1:Nat):Int)≥((rvs m L).length:Int))))||(decide (qsg (qAt L p.1) x>0)))=false) ((fRV m (qAt L (p.1+1))).tS)))::(45, .s (SF.imp ((((decide (p.2≥0))||(decide (((p.1+1:Nat):Int)≥((rvs m L).length:Int))))||(decide (qsg (qAt L p.1) x>0)))=false) ((uI (qsg x (qAt L (p.1+1)))).tS)))::(46, .s (SF.imp ((((decide (p.2≥0))||(decide (((p.1+1:Nat):Int)≥((rvs m L).length:Int))))||(decide (qsg (qAt L p.1) x>0)))=false) ((uB (decide (qsg x (qAt L (p.1+1))≥0))).tS)))::(47, .Z (uB ((((decide (p.2≥0))||(decide (((p.1+1:Nat):Int)≥((rvs m L).length:Int))))||(decide (qsg (qAt L p.1) x>0)))||(decide (qsg x (qAt L (p.1+1))≥0)))))::(24, .u (uB ((((decide (p.2≥0))||(decide (((p.1+1:Nat):Int)≥((rvs m L).length:Int))))||(decide (qsg (qAt L p.1) x>0)))||(decide (qsg x (qAt L (p.1+1))≥0))))):: []) hmix s kI
    (oc zB<|oc (zO .i64 (p.2) 0 (decide (p.2≥0)) iiz iiz rfl rfl)<|oc zB<|oc (zG 27 (decide (p.2≥0)) kI iiz (fun e=>zQ [] ((uI (p.1:Int)).tS) fnz (fun _ _ h _=>h) kI zB) (fun e W h=>absurd h e))<|oc (zG 27 (decide (p.2≥0)) kI iiz (fun e=>zQ [(28,(uI (p.1:Int)).tS)] ((uI ((p.1+1:Nat):Int)).tS) (fmz ⟨fun v W h=>zL (c:=(decide (p.2≥0))=false) (f:=(uI (p.1:Int)).tS) e h,fnz⟩) (fun _ _ h _=>h) kI (yM .i64 (p.1:Int) 1 ((p.1+1:Nat):Int) iiz iiz (wrap64 _ _ oP oP))) (fun e W h=>absurd h e))<|oc (zG 27 (decide (p.2≥0)) kI iiz (fun e=>zQ [] ((UF.eq l).tS) fnz (fun _ _ h _=>h) kI zB) (fun e W h=>absurd h e))<|oc (zG 27 (decide (p.2≥0)) kI iiz (fun e=>zQ [(30,(UF.eq l).tS)] ((uI ((rvs m L).length:Int)).tS) (fmz ⟨fun v W h=>zL (c:=(decide (p.2≥0))=false) (f:=(UF.eq l).tS) e h,fnz⟩) (fun _ _ h _=>h) kI (y8 (z:=3) (Cs:=rvs m L) kI (fun v W hb h=>(yT hl h (s.up hb))) (fun _=>rfl))) (fun e W h=>absurd h e))<|oc (zG 27 (decide (p.2≥0)) kI iiz (fun e=>zQ [(29,(uI ((p.1+1:Nat):Int)).tS),(31,(uI ((rvs m L).length:Int)).tS)] ((uB (decide (((p.1+1:Nat):Int)≥((rvs m L).length:Int)))).tS) (fmz ⟨fun v W h=>zL (c:=(decide (p.2≥0))=false) (f:=(uI ((p.1+1:Nat):Int)).tS) e h,fmz ⟨fun v W h=>zL (c:=(decide (p.2≥0))=false) (f:=(uI ((rvs m L).length:Int)).tS) e h,fnz⟩⟩) (fun _ _ h _=>h) kI (zO .i64 ((p.1+1:Nat):Int) ((rvs m L).length:Int) (decide (((p.1+1:Nat):Int)≥((rvs m L).length:Int))) iiz iiz rfl rfl)) (fun e W h=>absurd h e))<|oc (yO (decide (p.2≥0)) iiz (fun e v W h=>zCz h e) (fun e v W h=>zBJ (zL e h) e))<|oc zB<|oc (zG 34 ((decide (p.2≥0))||(decide (((p.1+1:Nat):Int)≥((rvs m L).length:Int)))) kI iiz (fun e=>zQ [] ((uI (qsg (qAt L p.1) x)).tS) fnz (fun _ _ h _=>h) kI zB) (fun e W h=>absurd h e))<|oc (zG 34 ((decide (p.2≥0))||(decide (((p.1+1:Nat):Int)≥((rvs m L).length:Int)))) kI iiz (fun e=>zQ [(35,(uI (qsg (qAt L p.1) x)).tS)] ((uB (decide (qsg (qAt L p.1) x>0))).tS) (fmz ⟨fun v W h=>zL (c:=((decide (p.2≥0))||(decide (((p.1+1:Nat):Int)≥((rvs m L).length:Int))))=false) (f:=(uI (qsg (qAt L p.1) x)).tS) e h,fnz⟩) (fun _ _ h _=>h) kI (zO .i64 (qsg (qAt L p.1) x) 0 (decide (qsg (qAt L p.1) x>0)) iiz iiz rfl rfl)) (fun e W h=>absurd h e))<|oc (yO ((decide (p.2≥0))||(decide (((p.1+1:Nat):Int)≥((rvs m L).length:Int)))) iiz (fun e v W h=>zCz h e) (fun e v W h=>zBJ (zL e h) e))<|oc zB<|oc (zG 38 (((decide (p.2≥0))||(decide (((p.1+1:Nat):Int)≥((rvs m L).length:Int))))||(decide (qsg (qAt L p.1) x>0))) kI iiz (fun e=>zQ [] ((fRV m x).tS) fnz (fun _ _ h _=>h) kI (zI (f:=fRV m x) 3 kI (hz:=zT _ _))) (fun e W h=>absurd h e))<|oc (zG 38 (((decide (p.2≥0))||(decide (((p.1+1:Nat):Int)≥((rvs m L).length:Int))))||(decide (qsg (qAt L p.1) x>0))) kI iiz (fun e=>zQ [] ((UF.eq l).tS) fnz (fun _ _ h _=>h) kI zB) (fun e W h=>absurd h e))<|oc (zG 38 (((decide (p.2≥0))||(decide (((p.1+1:Nat):Int)≥((rvs m L).length:Int))))||(decide (qsg (qAt L p.1) x>0))) kI iiz (fun e=>zQ [] ((uI (p.1:Int)).tS) fnz (fun _ _ h _=>h) kI zB) (fun e W h=>absurd h e))<|oc (zG 38 (((decide (p.2≥0))||(decide (((p.1+1:Nat):Int)≥((rvs m L).length:Int))))||(decide (qsg (qAt L p.1) x>0))) kI iiz (fun e=>zQ [(41,(uI (p.1:Int)).tS)] ((uI ((p.1+1:Nat):Int)).tS) (fmz ⟨fun v W h=>zL (c:=(((decide (p.2≥0))||(decide (((p.1+1:Nat):Int)≥((rvs m L).length:Int))))||(decide (qsg (qAt L p.1) x>0)))=false) (f:=(uI (p.1:Int)).tS) e h,fnz⟩) (fun _ _ h _=>h) kI (yM .i64 (p.1:Int) 1 ((p.1+1:Nat):Int) iiz iiz (wrap64 _ _ oP oP))) (fun e W h=>absurd h e))<|oc (zG 38 (((decide (p.2≥0))||(decide (((p.1+1:Nat):Int)≥((rvs m L).length:Int))))||(decide (qsg (qAt L p.1) x>0))) kI iiz (fun e=>zQ [(40,(UF.eq l).tS),(42,(uI ((p.1+1:Nat):Int)).tS)] (wB (cg (fRV m (qAt L (p.1+1))))) (fmz ⟨fun v W h=>zL (c:=(((decide (p.2≥0))||(decide (((p.1+1:Nat):Int)≥((rvs m L).length:Int))))||(decide (qsg (qAt L p.1) x>0)))=false) (f:=(UF.eq l).tS) e h,fmz ⟨fun v W h=>zL (c:=(((decide (p.2≥0))||(decide (((p.1+1:Nat):Int)≥((rvs m L).length:Int))))||(decide (qsg (qAt L p.1) x>0)))=false) (f:=(uI ((p.1+1:Nat):Int)).tS) e h,fnz⟩⟩) (fun _ _ h _=>h) kI (zZ (z:=3) (Cs:=rvs m L) (i:=p.1+1) (C:=CU.agg (fRV m (qAt L (p.1+1)))) kI (zEl (by simp only [zWy] at e;have h7:=zWk e.1.2;rw [hlz] at h7;omega)) (fun v W hb h=>(yT hl h (s.up hb))) iiz)) (fun e W h=>absurd h e))<|oc (zG 38 (((decide (p.2≥0))||(decide (((p.1+1:Nat):Int)≥((rvs m L).length:Int))))||(decide (qsg (qAt L p.1) x>0))) kI iiz (fun e=>zQ [(43,wB (cg (fRV m (qAt L (p.1+1)))))] ((fRV m (qAt L (p.1+1))).tS) (fmz ⟨fun v W h=>zL (c:=(((decide (p.2≥0))||(decide (((p.1+1:Nat):Int)≥((rvs m L).length:Int))))||(decide (qsg (qAt L p.1) x>0)))=false) (f:=wB (cg (fRV m (qAt L (p.1+1))))) e h,fnz⟩) (fun _ _ h _=>h) kI (zI (f:=fRV m (qAt L (p.1+1))) 3 kI (hz:=zT _ _))) (fun e W h=>absurd h e))<|oc (zG 38 (((decide (p.2≥0))||(decide (((p.1+1:Nat):Int)≥((rvs m L).length:Int))))||(decide (qsg (qAt L p.1) x>0))) kI iiz (fun e=>zQ [(39,(fRV m x).tS),(44,(fRV m (qAt L (p.1+1))).tS)] ((uI (qsg x (qAt L (p.1+1)))).tS) (fmz ⟨fun v W h=>zL (c:=(((decide (p.2≥0))||(decide (((p.1+1:Nat):Int)≥((rvs m L).length:Int))))||(decide (qsg (qAt L p.1) x>0)))=false) (f:=(fRV m x).tS) e h,fmz ⟨fun v W h=>zL (c:=(((decide (p.2≥0))||(decide (((p.1+1:Nat):Int)≥((rvs m L).length:Int))))||(decide (qsg (qAt L p.1) x>0)))=false) (f:=(fRV m (qAt L (p.1+1))).tS) e h,fnz⟩⟩) (fun _ _ h _=>h) kI (zJ zE zHQ (fun u0 u1 W hb (h0:RVp m x u0 W) (h1:RVp m (qAt L (p.1+1)) u1 W)=>zEm (m:=m) h0 h1 hm hm0 (hT.below (s.up hb))))) (fun e W h=>absurd h e))<|oc (zG 38 (((decide (p.2≥0))||(decide (((p.1+1:Nat):Int)≥((rvs m L).length:Int))))||(decide (qsg (qAt L p.1) x>0))) kI iiz (fun e=>zQ [(45,(uI (qsg x (qAt L (p.1+1)))).tS)] ((uB (decide (qsg x (qAt L (p.1+1))≥0))).tS) (fmz ⟨fun v W h=>zL (c:=(((decide (p.2≥0))||(decide (((p.1+1:Nat):Int)≥((rvs m L).length:Int))))||(decide (qsg (qAt L p.1) x>0)))=false) (f:=(uI (qsg x (qAt L (p.1+1)))).tS) e h,fnz⟩) (fun _ _ h _=>h) kI (zO .i64 (qsg x (qAt L (p.1+1))) 0 (decide (qsg x (qAt L (p.1+1))≥0)) iiz iiz rfl rfl)) (fun e W h=>absurd h e))<|oc (yO (((decide (p.2≥0))||(decide (((p.1+1:Nat):Int)≥((rvs m L).length:Int))))||(decide (qsg (qAt L p.1) x>0))) iiz (fun e v W h=>zCz h e) (fun e v W h=>zBJ (zL e h) e))<|oc zF<|zD) fun a w9 s=> ?_
   refine zA rfl ?_
   refine StS.cond s ((((decide (p.2≥0))||(decide (((p.1+1:Nat):Int)≥((rvs m L).length:Int))))||(decide (qsg (qAt L p.1) x>0)))||(decide (qsg x (qAt L (p.1+1))≥0))) iiz (fun e=> ?_) (fun e=> ?_)
   ·have e':=e
    rw [hlz] at e'
    refine zWm ?_
    refine zR 1 ((49, .u (uI ((p.1+1:Nat):Int))):: []) s kI
     (oc (yM .i64 (p.1:Int) 1 ((p.1+1:Nat):Int) iiz iiz (wrap64 _ _ oP oP))<|zD) fun a w10 s=> ?_
    replace s:=s.drop [12]
    refine zC0 (uI ((p.1+1:Nat):Int)) rfl s kI zB kI fun a w s=> ?_
    refine zA rfl ?_
    replace s:=s.popB
    exact ⟨(p.1+1,p.2),⟨hk,(by show _=zH7 L x (p.1+1);unfold zH7;rw [<-hx.2.1,if_pos e']),fun j hj=>by rcases zWn (zWp hj) with h|h;exact hx.2.2 j h;rw [h];exact hne⟩,(by show L.length - (p.1+1)<L.length - p.1;omega),s.keepK _ (fmz ⟨mz9,fmz ⟨zGp,fmz ⟨zNx,fmz ⟨zRj,fmz ⟨zSL,fmz ⟨.head _,fmz ⟨zRW,fnz⟩⟩⟩⟩⟩⟩⟩)⟩
   ·have e':=e
    rw [hlz] at e'
    refine zWh ?_
    replace s:=s.drop [4]
    refine zC 2 ((48, .Z (uI (p.1:Int)))::(4, .u (uI (p.1:Int))):: []) hmix s kI
     (oc zB<|oc zF<|zD) fun a w11 s=> ?_
    refine zA rfl ?_
    refine zR 1 ((49, .u (uI ((p.1+1:Nat):Int))):: []) s kI
     (oc (yM .i64 (p.1:Int) 1 ((p.1+1:Nat):Int) iiz iiz (wrap64 _ _ oP oP))<|zD) fun a w12 s=> ?_
    replace s:=s.drop [12]
    refine zC0 (uI ((p.1+1:Nat):Int)) rfl s kI zB kI fun a w s=> ?_
    refine zA rfl ?_
    replace s:=s.popB
    exact ⟨(p.1+1,(p.1:Int)),⟨hk,(by show _=zH7 L x (p.1+1);unfold zH7;rw [<-hx.2.1,if_neg (by rw [e'];decide)]),fun j hj=>by rcases zWn (zWp hj) with h|h;exact hx.2.2 j h;rw [h];exact hne⟩,(by show L.length - (p.1+1)<L.length - p.1;omega),s.keepK _ (fmz ⟨zGp,fmz ⟨zNx,fmz ⟨zRj,fmz ⟨zSL,fmz ⟨zRW,fmz ⟨.head _,fmz ⟨mz2,fnz⟩⟩⟩⟩⟩⟩⟩)⟩
 ·have hk:p.1=L.length:=by have h7:=zWk e;have h8:=hx.1;rw [hlz] at h7;omega
  have hms:=zNa (fun j hj=>hx.2.2 j oP)
  rw [<-hk, <-hx.2.1] at hms
  refine zWm ?_
  refine zWf ?_
  refine zWf ?_
  refine zC 2 ((50, .Z (uI (p.2)))::(51, .u (uB (decide (p.2<0)))):: []) hmix s kI
   (oc zB<|oc (zO .i64 (p.2) 0 (decide (p.2<0)) iiz iiz rfl rfl)<|zD) fun a w13 s=> ?_
  refine zA rfl ?_
  refine StS.cond s (decide (p.2<0)) iiz (fun e=> ?_) (fun e=> ?_)
  ·refine zWf ?_
   replace s:=s.drop [4,5,6]
   refine zC 3 ((4, .u (uI 0))::(5, .u (uB false))::(6, .u (uB false)):: []) hmix s kI
    (oc zF<|oc zF<|oc zF<|zD) fun a w14 s=> ?_
   refine zA rfl ?_
   refine zWg ?_
   refine vF s (fI (qA L x).1) (fB (qA L x).2.1) (fB (qA L x).2.2) (t:=4) (r:=5) (q:=6) rfl (fun v W h=> ?_) (fun v W h=> ?_) (fun v W h=> ?_)
   ·rw [hms,if_pos (zWi e)];exact h
   ·rw [hms,if_pos (zWi e)];exact h
   ·rw [hms,if_pos (zWi e)];exact h
  ·refine zWh ?_
   refine zWf ?_
   replace s:=s.drop [5,6]
   refine zR 1 ((52, .u (uI (p.2))):: []) s kI
    (oc zB<|zD) fun a w15 s=> ?_
   replace s:=s.drop [4]
   refine zS (uI (p.2)) rfl s kI iiz fun a w s=> ?_
   refine zS (uB false) rfl s kI iiz fun a w s=> ?_
   refine zS (uB true) rfl s kI iiz fun a w s=> ?_
   refine zA rfl ?_
   refine zWg ?_
   refine vF s (fI (qA L x).1) (fB (qA L x).2.1) (fB (qA L x).2.2) (t:=4) (r:=5) (q:=6) rfl (fun v W h=> ?_) (fun v W h=> ?_) (fun v W h=> ?_)
   ·rw [hms,if_neg (zWk e)];exact h
   ·rw [hms,if_neg (zWk e)];exact h
   ·rw [hms,if_neg (zWk e)];exact h
end Go.Proofs.Wd

namespace Go.Proofs.Wd
open Tryz
set_option maxRecDepth 100000
set_option maxHeartbeats 1000000
open Go.RowKit Lb
def vG (W:Wm) (l:Wn) (z:Nat) (Cs:List CU):SF:=⟨fun v w=>(SF.row z Cs).p v w/\(v=l∨ ∀k,v.ownBlock=some k->W.heap.size<=k),fun _ _ _ h hb=>⟨(SF.row z Cs).st _ _ _ h.1 hb,h.2⟩⟩
theorem zPC {L:List Rat} {p:Rat} {k:Nat} (hk:zL8 L p=k) (h:(decide ((k:Int)<((qls L).length:Int))&&(qsg (qAt L k) p==0))=true):zBZ L p=L:=by
 unfold zBZ
 rw [hk]
 refine if_pos ?_
 rw [zWt] at h ⊢
 exact ⟨decide_eq_true (by have:=zWi h.1;simp at this;omega),h.2⟩
theorem zPD {L:List Rat} {p:Rat} {k:Nat} (hk:zL8 L p=k) (h:(decide ((k:Int)<((qls L).length:Int))&&(qsg (qAt L k) p==0))=false):zBZ L p=L.take k++ [p]++L.drop k:=by
 unfold zBZ
 rw [hk]
 refine if_neg fun h'=> ?_
 rw [zWt] at h'
 rw [zWv] at h
 rcases h with h|h
 ·have:=zWk h
  have:=zWi h'.1
  simp at*
  omega
 ·rw [h] at h';exact absurd h'.2 dB
theorem zHl {m:Nat} {W:Wm} {l u:Wn} {L:List Rat} {x:Rat} (hl:(SF.row 3 (qls L)).p l W) (h1:RVp m x u W) (hqL: ∀y,y∈L->QB y m) (hm:m<=990) (hm0:0<m) (hn:L.length<=1000000):Calls prog 41 #[l,u] W (Ret W (vG W l 3 (qls (zBZ L x)))):=by
 refine z9 [(UF.eq l).tS,(fRV m x).tS] func41 rfl kI ⟨rfl,h1,trivial⟩ fun a s=> ?_
 replace s:=s.renew [(0, .u (UF.eq l)),(1, .u (fRV m x))] (fmz ⟨.inr ⟨_,rfl, .head _⟩,fmz ⟨.inr ⟨_,rfl,mz1⟩,fnz⟩⟩)
 refine zWf ?_
 refine zC 0 [] hmix s kI
  zD fun a w1 s=> ?_
 refine yD (CU.agg (fRV m x)) rfl s kI (fun v W h=>y6 h) fun b3 a w s=> ?_
 refine zS (UF.eq (.slice none 0 0)) rfl s kI iiz fun a w s=> ?_
 refine zA rfl ?_
 refine zWf ?_
 refine zC 1 ((5, .u (uI 0)):: []) hmix s kI
  (oc zF<|zD) fun a w2 s=> ?_
 refine zA rfl ?_
 refine zWf ?_
 refine zWj ?_
 refine q8 (fun k=>k<=L.length/\ ∀j,j<k->decide (qsg (qAt L j) x<0)=true) (fun k=> [(0, .u (UF.eq l)),(5, .u (uI ((k:Nat):Int)))]) (fun k=>L.length - k) (0:Nat) (⟨zWo _,fun j hj=>absurd hj (zWs _)⟩) (s.keepK _ (fmz ⟨mz2,fmz ⟨.head _,fnz⟩⟩)) fun k a w hx s=> ?_
 refine zWf ?_
 refine zWf ?_
 refine zC 13 ((7, .Z (uI (k:Int)))::(8, .Z (UF.eq l))::(9, .Z (uI ((qls L).length:Int)))::(10, .Z (uB (decide ((k:Int)<((qls L).length:Int)))))::(11, .Z (uB (decide ((k:Int)<((qls L).length:Int)))))::(12, .s (SF.imp ((decide ((k:Int)<((qls L).length:Int)))=true) ((UF.eq l).tS)))::(13, .s (SF.imp ((decide ((k:Int)<((qls L).length:Int)))=true) ((uI (k:Int)).tS)))::(14, .s (SF.imp ((decide ((k:Int)<((qls L).length:Int)))=true) (wB (cg (fQN (qAt L k))))))::(15, .s (SF.imp ((decide ((k:Int)<((qls L).length:Int)))=true) ((fQN (qAt L k)).tS)))::(16, .s (SF.imp ((decide ((k:Int)<((qls L).length:Int)))=true) ((fRV m x).tS)))::(17, .s (SF.imp ((decide ((k:Int)<((qls L).length:Int)))=true) ((uI (qsg (qAt L k) x)).tS)))::(18, .s (SF.imp ((decide ((k:Int)<((qls L).length:Int)))=true) ((uB (decide (qsg (qAt L k) x<0))).tS)))::(19, .u (uB ((decide ((k:Int)<((qls L).length:Int)))&&(decide (qsg (qAt L k) x<0))))):: []) hmix s kI
  (oc zB<|oc zB<|oc (y8 (z:=3) (Cs:=qls L) kI (fun v W hb h=>(yT hl h (s.up hb))) (fun _=>rfl))<|oc (zO .i64 (k:Int) ((qls L).length:Int) (decide ((k:Int)<((qls L).length:Int))) iiz iiz rfl rfl)<|oc zB<|oc (zG 11 (decide ((k:Int)<((qls L).length:Int))) kI iiz (fun e=>zQ [] ((UF.eq l).tS) fnz (fun _ _ h _=>h) kI zB) (fun e W h=>absurd h e))<|oc (zG 11 (decide ((k:Int)<((qls L).length:Int))) kI iiz (fun e=>zQ [] ((uI (k:Int)).tS) fnz (fun _ _ h _=>h) kI zB) (fun e W h=>absurd h e))<|oc (zG 11 (decide ((k:Int)<((qls L).length:Int))) kI iiz (fun e=>zQ [(12,(UF.eq l).tS),(13,(uI (k:Int)).tS)] (wB (cg (fQN (qAt L k)))) (fmz ⟨fun v W h=>zL (c:=(decide ((k:Int)<((qls L).length:Int)))=true) (f:=(UF.eq l).tS) e h,fmz ⟨fun v W h=>zL (c:=(decide ((k:Int)<((qls L).length:Int)))=true) (f:=(uI (k:Int)).tS) e h,fnz⟩⟩) (fun _ _ h _=>h) kI (zZ (z:=3) (Cs:=qls L) (i:=k) (C:=CU.agg (fQN (qAt L k))) kI (zAS (by have:=zWi e;simp at this;omega)) (fun v W hb h=>(yT hl h (s.up hb))) iiz)) (fun e W h=>absurd h e))<|oc (zG 11 (decide ((k:Int)<((qls L).length:Int))) kI iiz (fun e=>zQ [(14,wB (cg (fQN (qAt L k))))] ((fQN (qAt L k)).tS) (fmz ⟨fun v W h=>zL (c:=(decide ((k:Int)<((qls L).length:Int)))=true) (f:=wB (cg (fQN (qAt L k)))) e h,fnz⟩) (fun _ _ h _=>h) kI (zI (f:=fQN (qAt L k)) 3 kI (hz:=z5 _))) (fun e W h=>absurd h e))<|oc (zG 11 (decide ((k:Int)<((qls L).length:Int))) kI iiz (fun e=>zQ [] ((fRV m x).tS) fnz (fun _ _ h _=>h) kI (zI (f:=fRV m x) 3 kI (hz:=zT _ _))) (fun e W h=>absurd h e))<|oc (zG 11 (decide ((k:Int)<((qls L).length:Int))) kI iiz (fun e=>zQ [(15,(fQN (qAt L k)).tS),(16,(fRV m x).tS)] ((uI (qsg (qAt L k) x)).tS) (fmz ⟨fun v W h=>zL (c:=(decide ((k:Int)<((qls L).length:Int)))=true) (f:=(fQN (qAt L k)).tS) e h,fmz ⟨fun v W h=>zL (c:=(decide ((k:Int)<((qls L).length:Int)))=true) (f:=(fRV m x).tS) e h,fnz⟩⟩) (fun _ _ h _=>h) kI (zJ zE zJX (fun u0 u1 W hb (h0:QNp (qAt L k) u0 W) (h1:RVp m x u1 W)=>zAZ (m:=m) (wD h0 (hqL _ (qU (qs:=L) (k:=k) (by have:=zWi e;simp at this;omega)))) h1 hm hm0))) (fun e W h=>absurd h e))<|oc (zG 11 (decide ((k:Int)<((qls L).length:Int))) kI iiz (fun e=>zQ [(17,(uI (qsg (qAt L k) x)).tS)] ((uB (decide (qsg (qAt L k) x<0))).tS) (fmz ⟨fun v W h=>zL (c:=(decide ((k:Int)<((qls L).length:Int)))=true) (f:=(uI (qsg (qAt L k) x)).tS) e h,fnz⟩) (fun _ _ h _=>h) kI (zO .i64 (qsg (qAt L k) x) 0 (decide (qsg (qAt L k) x<0)) iiz iiz rfl rfl)) (fun e W h=>absurd h e))<|oc (yO (decide ((k:Int)<((qls L).length:Int))) iiz (fun e v W h=>jM (zL e h) e) (fun e v W h=>qV h e))<|zD) fun a w3 s=> ?_
 refine zA rfl ?_
 refine StS.cond s ((decide ((k:Int)<((qls L).length:Int)))&&(decide (qsg (qAt L k) x<0))) iiz (fun e=> ?_) (fun e=> ?_)
 ·rw [zWt] at e
  have hk:k<L.length:=by have:=zWi e.1;simp at this;omega
  have hlt:=e.2
  refine zWh ?_
  refine zWj ?_
  refine zR 2 ((20, .Z (uI (k:Int)))::(21, .u (uI ((k+1:Nat):Int))):: []) s kI
   (oc zB<|oc (yM .i64 (k:Int) 1 ((k+1:Nat):Int) iiz iiz (wrap64 _ _ oP oP))<|zD) fun a w4 s=> ?_
  replace s:=s.drop [5]
  refine zS (uI ((k+1:Nat):Int)) rfl s kI iiz fun a w s=> ?_
  refine zA rfl ?_
  exact ⟨k+1,⟨hk,fun j hj=>by rcases zWn (zWp hj) with h|h;exact hx.2 j h;rw [h];exact hlt⟩,(by show L.length - (k+1)<L.length - k;omega),s.keepK _ (fmz ⟨mz3,fmz ⟨.head _,fnz⟩⟩)⟩
 ·have hkl:=hx.1
  have hpos:zL8 L x=k:=by
   rw [zWv] at e
   rcases zWn hkl with h|h
   ·exact zDs h hx.2 (by rcases e with e|e;exact absurd (show (k:Int)<((qls L).length:Int) by simp;omega) (zWk e);exact e)
   ·unfold zL8;rw [h];exact zCn (by rw [<-h];exact hx.2)
  clear e
  refine zWm ?_
  refine zWf ?_
  refine zWf ?_
  refine zC 13 ((22, .Z (uI (k:Int)))::(23, .Z (UF.eq l))::(24, .Z (uI ((qls L).length:Int)))::(25, .Z (uB (decide ((k:Int)<((qls L).length:Int)))))::(26, .Z (uB (decide ((k:Int)<((qls L).length:Int)))))::(27, .s (SF.imp ((decide ((k:Int)<((qls L).length:Int)))=true) ((UF.eq l).tS)))::(28, .s (SF.imp ((decide ((k:Int)<((qls L).length:Int)))=true) ((uI (k:Int)).tS)))::(29, .s (SF.imp ((decide ((k:Int)<((qls L).length:Int)))=true) (wB (cg (fQN (qAt L k))))))::(30, .s (SF.imp ((decide ((k:Int)<((qls L).length:Int)))=true) ((fQN (qAt L k)).tS)))::(31, .s (SF.imp ((decide ((k:Int)<((qls L).length:Int)))=true) ((fRV m x).tS)))::(32, .s (SF.imp ((decide ((k:Int)<((qls L).length:Int)))=true) ((uI (qsg (qAt L k) x)).tS)))::(33, .s (SF.imp ((decide ((k:Int)<((qls L).length:Int)))=true) ((uB (qsg (qAt L k) x==0)).tS)))::(34, .u (uB ((decide ((k:Int)<((qls L).length:Int)))&&(qsg (qAt L k) x==0)))):: []) hmix s kI
   (oc zB<|oc zB<|oc (y8 (z:=3) (Cs:=qls L) kI (fun v W hb h=>(yT hl h (s.up hb))) (fun _=>rfl))<|oc (zO .i64 (k:Int) ((qls L).length:Int) (decide ((k:Int)<((qls L).length:Int))) iiz iiz rfl rfl)<|oc zB<|oc (zG 26 (decide ((k:Int)<((qls L).length:Int))) kI iiz (fun e=>zQ [] ((UF.eq l).tS) fnz (fun _ _ h _=>h) kI zB) (fun e W h=>absurd h e))<|oc (zG 26 (decide ((k:Int)<((qls L).length:Int))) kI iiz (fun e=>zQ [] ((uI (k:Int)).tS) fnz (fun _ _ h _=>h) kI zB) (fun e W h=>absurd h e))<|oc (zG 26 (decide ((k:Int)<((qls L).length:Int))) kI iiz (fun e=>zQ [(27,(UF.eq l).tS),(28,(uI (k:Int)).tS)] (wB (cg (fQN (qAt L k)))) (fmz ⟨fun v W h=>zL (c:=(decide ((k:Int)<((qls L).length:Int)))=true) (f:=(UF.eq l).tS) e h,fmz ⟨fun v W h=>zL (c:=(decide ((k:Int)<((qls L).length:Int)))=true) (f:=(uI (k:Int)).tS) e h,fnz⟩⟩) (fun _ _ h _=>h) kI (zZ (z:=3) (Cs:=qls L) (i:=k) (C:=CU.agg (fQN (qAt L k))) kI (zAS (by have:=zWi e;simp at this;omega)) (fun v W hb h=>(yT hl h (s.up hb))) iiz)) (fun e W h=>absurd h e))<|oc (zG 26 (decide ((k:Int)<((qls L).length:Int))) kI iiz (fun e=>zQ [(29,wB (cg (fQN (qAt L k))))] ((fQN (qAt L k)).tS) (fmz ⟨fun v W h=>zL (c:=(decide ((k:Int)<((qls L).length:Int)))=true) (f:=wB (cg (fQN (qAt L k)))) e h,fnz⟩) (fun _ _ h _=>h) kI (zI (f:=fQN (qAt L k)) 3 kI (hz:=z5 _))) (fun e W h=>absurd h e))<|oc (zG 26 (decide ((k:Int)<((qls L).length:Int))) kI iiz (fun e=>zQ [] ((fRV m x).tS) fnz (fun _ _ h _=>h) kI (zI (f:=fRV m x) 3 kI (hz:=zT _ _))) (fun e W h=>absurd h e))<|oc (zG 26 (decide ((k:Int)<((qls L).length:Int))) kI iiz (fun e=>zQ [(30,(fQN (qAt L k)).tS),(31,(fRV m x).tS)] ((uI (qsg (qAt L k) x)).tS) (fmz ⟨fun v W h=>zL (c:=(decide ((k:Int)<((qls L).length:Int)))=true) (f:=(fQN (qAt L k)).tS) e h,fmz ⟨fun v W h=>zL (c:=(decide ((k:Int)<((qls L).length:Int)))=true) (f:=(fRV m x).tS) e h,fnz⟩⟩) (fun _ _ h _=>h) kI (zJ zE zJX (fun u0 u1 W hb (h0:QNp (qAt L k) u0 W) (h1:RVp m x u1 W)=>zAZ (m:=m) (wD h0 (hqL _ (qU (qs:=L) (k:=k) (by have:=zWi e;simp at this;omega)))) h1 hm hm0))) (fun e W h=>absurd h e))<|oc (zG 26 (decide ((k:Int)<((qls L).length:Int))) kI iiz (fun e=>zQ [(32,(uI (qsg (qAt L k) x)).tS)] ((uB (qsg (qAt L k) x==0)).tS) (fmz ⟨fun v W h=>zL (c:=(decide ((k:Int)<((qls L).length:Int)))=true) (f:=(uI (qsg (qAt L k) x)).tS) e h,fnz⟩) (fun _ _ h _=>h) kI (zO .i64 (qsg (qAt L k) x) 0 (qsg (qAt L k) x==0) iiz iiz rfl rfl)) (fun e W h=>absurd h e))<|oc (yO (decide ((k:Int)<((qls L).length:Int))) iiz (fun e v W h=>jM (zL e h) e) (fun e v W h=>qV h e))<|zD) fun a w5 s=> ?_
  refine zA rfl ?_
  refine StS.cond s ((decide ((k:Int)<((qls L).length:Int)))&&(qsg (qAt L k) x==0)) iiz (fun e=> ?_) (fun e=> ?_)
  ·refine zWf ?_
   refine zC 2 ((35, .Z (UF.eq l))::(4, .u (UF.eq l)):: []) hmix s kI
    (oc zB<|oc zF<|zD) fun a w6 s=> ?_
   refine zA rfl ?_
   refine zWg ?_
   exact StS.resN s (zWw _ _) (t:=4) rfl (by rw [s.val (.head _),zPC hpos e];exact ⟨(SF.row 3 _).st _ _ _ hl s.below, .inl rfl⟩)
  ·refine zWh ?_
   refine zWf ?_
   have hbX:=s.below
   have hlX:=(SF.row 3 _).st _ _ _ hl hbX
   have hX3:b3<w5.heap.size:=s.old _ (.head _)
   replace s:StS _ _ _ [⟨3,27,CU.agg (fRV m x),b3,true⟩] _ _ _ _:=s.freeze
   replace s:=s.reb rfl [(34, .u (uB ((decide ((k:Int)<((qls L).length:Int)))&&(qsg (qAt L k) x==0)))),(19, .u (uB ((decide ((k:Int)<((qls L).length:Int)))&&(decide (qsg (qAt L k) x<0))))),(0, .u (UF.eq l)),(5, .u (uI (k:Int)))] (fmz ⟨.inl (.head _),fmz ⟨.inl mz1,fmz ⟨.inl mz2,fmz ⟨.inl mz3,fnz⟩⟩⟩⟩)
   refine qZ 5 ((36, .s (wW w5 27))::(37, .Z (UF.eq l))::(38, .Z (uI (k:Int)))::(39, .s (SF.row 3 (qls (L.take k))))::(40, .s (wM w5 27 3 (qls (L.take k)))):: []) hmix s kI
    (oc (zFb (z:=3) kI)<|oc zB<|oc zB<|oc (zGi (z:=3) (k:=k) (Cs:=qls L) kI (by simp;omega) (fun v W hb h=>(yT hlX h (s.up hb))) iiz (fun v W h=>by rw [zJx] at h;exact h))<|oc (zIz (qls (L.take k)) kI iiz (fun v W hb h=>h) (zBY _) (by simp;omega))<|zD) fun a w7 s hr=> ?_
   obtain ⟨v40,e40⟩: ∃v,a.tmps.getD 40 undef=v:=⟨_,rfl⟩
   have hv40:zAW w7 w5.heap.size 27 3 v40 (qls (L.take k)):=e40▸(hr (_,_) mz4)
   replace s:=s.learn 40 v40 e40
   refine zPs (UF.eq v40) rfl s kI iiz fun a s=> ?_
   refine zA rfl ?_
   refine zWf ?_
   have sb:=s;have so: ∀q,q∈ [(⟨3,27,CU.agg (fRV m x),b3,true⟩:Bx)]->q.b<w5.heap.size:=fun q hq=>by rcases zWl.1 hq with rfl|hq;exact hX3;cases hq
   have sg:w5.heap.size<=w5.heap.size:=zWr _
   have hwX:=s.below
   refine zGd (GW w5) hmix s fun w8 hw8 s=> ?_
   have hwb:=hwX.trans (hw8.mono hwX.size)
   have hz:=hwb.size
   refine zD5 [5,6,7] [0,1,2,3,5,6,7] ((41, .u (UF.eq v40))::(42, .Z (fRV m x))::(43, .Z (fQN x))::(44, .s (SF.row 3 (qls [x])))::(46, .Z (UF.eq l))::(47, .Z (uI (k:Int)))::(48, .u (fRW w5 3 (qls (L.drop k)))):: []) (zKJ hwb) s kI
    (oc zB<|oc (zI (f:=fRV m x) 3 kI (hz:=zT _ _))<|oc (zH zE zCa (fun u0 W hb (h0:RVp m x u0 W)=>jA (m:=m) h0 oP))<|oc (qB (fun u W (hu:QNp x u W)=>zI9 (jZ _) hu))<|oc zB<|oc zB<|oc (zDb (W0:=w5) (l0:=l) (z:=3) (k:=k) (Cs:=qls L) kI (by simp;omega) hlX iiz iiz (fun v W h=>by rw [zJy] at h;exact h))<|zD)
    (zBt rfl (zKl.c zEg hwb) (zBt rfl (zKl.c zEg hwb) (zBt rfl (zKl.c (zDj (x:= .tmp 46) (lo:= .tmp 47) (l0:=l) (z:=3) (k:=k) (Cs:=qls L) kI (by simp;omega) hlX iiz iiz) hwb) zEf))) fun a w9 hbw s hr=> ?_
   replace hwb:=hwb.trans (hbw.mono hwb.size)
   have hN:=hv40.below (hw8.trans (hbw.mono hw8.size))
   refine zCQ (i:=4) (x:= .tmp 41) (y:= .tmp 44) (qls [x]) hwb s sg hN rfl (zA6 rfl) kI kI kI (s.fct (.tmp 41)) (hr (_,_) mz3) (zBY _) (by simp;omega) so fun v45 a w10 hwb hN45 s=> ?_
   have hR45:=hN45.row
   refine zCQ (i:=8) (x:= .tmp 45) (y:= .tmp 48) (qls (L.drop k)) hwb s sg hN45 rfl (zA6 rfl) kI kI kI (s.fct (.tmp 45)) ((SF.row 3 _).st _ _ _ (s.sl (48, .u (fRW w5 3 (qls (L.drop k)))) mz2) hwb) (zBY _) (by simp;omega) so fun v49 a w11 hwb hN49 s=> ?_
   have hR49:=hN49.row
   have hR:(SF.row 3 (qls (zBZ L x))).p v49 w11:=by have:=hR49;rw [zHq, <-zPD hpos e] at this;exact this
   replace s:=s.drop [4]
   refine zD5 [] [9] ((4, .u (UF.eq v49)):: []) (zKJ hwb) s kI (zGm zF<|zD) zEf fun a w12 hbw s hr=> ?_
   refine zEB kI ?_
   refine zWg ?_
   exact StS.resN s hbX (t:=4) rfl (by rw [s.val (.head _)];exact ⟨(SF.row 3 _).st _ _ _ hR hbw, .inr fun k hk=>zWq hbX.size (hN49.lt k hk).1⟩)
theorem zDz {m:Nat} {W:Wm} {l u:Wn} {L:List Rat} {x:Rat} (hl:(SF.row 3 (qls L)).p l W) (h1:RVp m x u W) (hqL: ∀y,y∈L->QB y m) (hm:m<=990) (hm0:0<m) (hn:L.length<=1000000):Calls prog 77 #[l,u] W (Ret W (vG W l 3 (qls (zBZ L x)))):=by
 refine z9 [(UF.eq l).tS,(fRV m x).tS] func77 rfl kI ⟨rfl,h1,trivial⟩ fun a s=> ?_
 replace s:=s.renew [(0, .u (UF.eq l)),(1, .u (fRV m x))] (fmz ⟨.inr ⟨_,rfl, .head _⟩,fmz ⟨.inr ⟨_,rfl,mz1⟩,fnz⟩⟩)
 refine zWf ?_
 refine zC 0 [] hmix s kI
  zD fun a w1 s=> ?_
 refine yD (CU.agg (fRV m x)) rfl s kI (fun v W h=>y6 h) fun b3 a w s=> ?_
 refine zS (UF.eq (.slice none 0 0)) rfl s kI iiz fun a w s=> ?_
 refine zA rfl ?_
 refine zWf ?_
 refine zC 1 ((5, .u (uI 0)):: []) hmix s kI
  (oc zF<|zD) fun a w2 s=> ?_
 refine zA rfl ?_
 refine zWf ?_
 refine zWj ?_
 refine q8 (fun k=>k<=L.length/\ ∀j,j<k->decide (qsg (qAt L j) x<0)=true) (fun k=> [(0, .u (UF.eq l)),(5, .u (uI ((k:Nat):Int)))]) (fun k=>L.length - k) (0:Nat) (⟨zWo _,fun j hj=>absurd hj (zWs _)⟩) (s.keepK _ (fmz ⟨mz2,fmz ⟨.head _,fnz⟩⟩)) fun k a w hx s=> ?_
 refine zWf ?_
 refine zWf ?_
 refine zC 13 ((7, .Z (uI (k:Int)))::(8, .Z (UF.eq l))::(9, .Z (uI ((qls L).length:Int)))::(10, .Z (uB (decide ((k:Int)<((qls L).length:Int)))))::(11, .Z (uB (decide ((k:Int)<((qls L).length:Int)))))::(12, .s (SF.imp ((decide ((k:Int)<((qls L).length:Int)))=true) ((UF.eq l).tS)))::(13, .s (SF.imp ((decide ((k:Int)<((qls L).length:Int)))=true) ((uI (k:Int)).tS)))::(14, .s (SF.imp ((decide ((k:Int)<((qls L).length:Int)))=true) (wB (cg (fQN (qAt L k))))))::(15, .s (SF.imp ((decide ((k:Int)<((qls L).length:Int)))=true) ((fQN (qAt L k)).tS)))::(16, .s (SF.imp ((decide ((k:Int)<((qls L).length:Int)))=true) ((fRV m x).tS)))::(17, .s (SF.imp ((decide ((k:Int)<((qls L).length:Int)))=true) ((uI (qsg (qAt L k) x)).tS)))::(18, .s (SF.imp ((decide ((k:Int)<((qls L).length:Int)))=true) ((uB (decide (qsg (qAt L k) x<0))).tS)))::(19, .u (uB ((decide ((k:Int)<((qls L).length:Int)))&&(decide (qsg (qAt L k) x<0))))):: []) hmix s kI
  (oc zB<|oc zB<|oc (y8 (z:=3) (Cs:=qls L) kI (fun v W hb h=>(yT hl h (s.up hb))) (fun _=>rfl))<|oc (zO .i64 (k:Int) ((qls L).length:Int) (decide ((k:Int)<((qls L).length:Int))) iiz iiz rfl rfl)<|oc zB<|oc (zG 11 (decide ((k:Int)<((qls L).length:Int))) kI iiz (fun e=>zQ [] ((UF.eq l).tS) fnz (fun _ _ h _=>h) kI zB) (fun e W h=>absurd h e))<|oc (zG 11 (decide ((k:Int)<((qls L).length:Int))) kI iiz (fun e=>zQ [] ((uI (k:Int)).tS) fnz (fun _ _ h _=>h) kI zB) (fun e W h=>absurd h e))<|oc (zG 11 (decide ((k:Int)<((qls L).length:Int))) kI iiz (fun e=>zQ [(12,(UF.eq l).tS),(13,(uI (k:Int)).tS)] (wB (cg (fQN (qAt L k)))) (fmz ⟨fun v W h=>zL (c:=(decide ((k:Int)<((qls L).length:Int)))=true) (f:=(UF.eq l).tS) e h,fmz ⟨fun v W h=>zL (c:=(decide ((k:Int)<((qls L).length:Int)))=true) (f:=(uI (k:Int)).tS) e h,fnz⟩⟩) (fun _ _ h _=>h) kI (zZ (z:=3) (Cs:=qls L) (i:=k) (C:=CU.agg (fQN (qAt L k))) kI (zAS (by have:=zWi e;simp at this;omega)) (fun v W hb h=>(yT hl h (s.up hb))) iiz)) (fun e W h=>absurd h e))<|oc (zG 11 (decide ((k:Int)<((qls L).length:Int))) kI iiz (fun e=>zQ [(14,wB (cg (fQN (qAt L k))))] ((fQN (qAt L k)).tS) (fmz ⟨fun v W h=>zL (c:=(decide ((k:Int)<((qls L).length:Int)))=true) (f:=wB (cg (fQN (qAt L k)))) e h,fnz⟩) (fun _ _ h _=>h) kI (zI (f:=fQN (qAt L k)) 3 kI (hz:=z5 _))) (fun e W h=>absurd h e))<|oc (zG 11 (decide ((k:Int)<((qls L).length:Int))) kI iiz (fun e=>zQ [] ((fRV m x).tS) fnz (fun _ _ h _=>h) kI (zI (f:=fRV m x) 3 kI (hz:=zT _ _))) (fun e W h=>absurd h e))<|oc (zG 11 (decide ((k:Int)<((qls L).length:Int))) kI iiz (fun e=>zQ [(15,(fQN (qAt L k)).tS),(16,(fRV m x).tS)] ((uI (qsg (qAt L k) x)).tS) (fmz ⟨fun v W h=>zL (c:=(decide ((k:Int)<((qls L).length:Int)))=true) (f:=(fQN (qAt L k)).tS) e h,fmz ⟨fun v W h=>zL (c:=(decide ((k:Int)<((qls L).length:Int)))=true) (f:=(fRV m x).tS) e h,fnz⟩⟩) (fun _ _ h _=>h) kI (zJ zE zJX (fun u0 u1 W hb (h0:QNp (qAt L k) u0 W) (h1:RVp m x u1 W)=>zAZ (m:=m) (wD h0 (hqL _ (qU (qs:=L) (k:=k) (by have:=zWi e;simp at this;omega)))) h1 hm hm0))) (fun e W h=>absurd h e))<|oc (zG 11 (decide ((k:Int)<((qls L).length:Int))) kI iiz (fun e=>zQ [(17,(uI (qsg (qAt L k) x)).tS)] ((uB (decide (qsg (qAt L k) x<0))).tS) (fmz ⟨fun v W h=>zL (c:=(decide ((k:Int)<((qls L).length:Int)))=true) (f:=(uI (qsg (qAt L k) x)).tS) e h,fnz⟩) (fun _ _ h _=>h) kI (zO .i64 (qsg (qAt L k) x) 0 (decide (qsg (qAt L k) x<0)) iiz iiz rfl rfl)) (fun e W h=>absurd h e))<|oc (yO (decide ((k:Int)<((qls L).length:Int))) iiz (fun e v W h=>jM (zL e h) e) (fun e v W h=>qV h e))<|zD) fun a w3 s=> ?_
 refine zA rfl ?_
 refine StS.cond s ((decide ((k:Int)<((qls L).length:Int)))&&(decide (qsg (qAt L k) x<0))) iiz (fun e=> ?_) (fun e=> ?_)
 ·rw [zWt] at e
  have hk:k<L.length:=by have:=zWi e.1;simp at this;omega
  have hlt:=e.2
  refine zWh ?_
  refine zWj ?_
  refine zR 2 ((20, .Z (uI (k:Int)))::(21, .u (uI ((k+1:Nat):Int))):: []) s kI
   (oc zB<|oc (yM .i64 (k:Int) 1 ((k+1:Nat):Int) iiz iiz (wrap64 _ _ oP oP))<|zD) fun a w4 s=> ?_
  replace s:=s.drop [5]
  refine zS (uI ((k+1:Nat):Int)) rfl s kI iiz fun a w s=> ?_
  refine zA rfl ?_
  exact ⟨k+1,⟨hk,fun j hj=>by rcases zWn (zWp hj) with h|h;exact hx.2 j h;rw [h];exact hlt⟩,(by show L.length - (k+1)<L.length - k;omega),s.keepK _ (fmz ⟨mz3,fmz ⟨.head _,fnz⟩⟩)⟩
 ·have hkl:=hx.1
  have hpos:zL8 L x=k:=by
   rw [zWv] at e
   rcases zWn hkl with h|h
   ·exact zDs h hx.2 (by rcases e with e|e;exact absurd (show (k:Int)<((qls L).length:Int) by simp;omega) (zWk e);exact e)
   ·unfold zL8;rw [h];exact zCn (by rw [<-h];exact hx.2)
  clear e
  refine zWm ?_
  refine zWf ?_
  refine zWf ?_
  refine zC 13 ((22, .Z (uI (k:Int)))::(23, .Z (UF.eq l))::(24, .Z (uI ((qls L).length:Int)))::(25, .Z (uB (decide ((k:Int)<((qls L).length:Int)))))::(26, .Z (uB (decide ((k:Int)<((qls L).length:Int)))))::(27, .s (SF.imp ((decide ((k:Int)<((qls L).length:Int)))=true) ((UF.eq l).tS)))::(28, .s (SF.imp ((decide ((k:Int)<((qls L).length:Int)))=true) ((uI (k:Int)).tS)))::(29, .s (SF.imp ((decide ((k:Int)<((qls L).length:Int)))=true) (wB (cg (fQN (qAt L k))))))::(30, .s (SF.imp ((decide ((k:Int)<((qls L).length:Int)))=true) ((fQN (qAt L k)).tS)))::(31, .s (SF.imp ((decide ((k:Int)<((qls L).length:Int)))=true) ((fRV m x).tS)))::(32, .s (SF.imp ((decide ((k:Int)<((qls L).length:Int)))=true) ((uI (qsg (qAt L k) x)).tS)))::(33, .s (SF.imp ((decide ((k:Int)<((qls L).length:Int)))=true) ((uB (qsg (qAt L k) x==0)).tS)))::(34, .u (uB ((decide ((k:Int)<((qls L).length:Int)))&&(qsg (qAt L k) x==0)))):: []) hmix s kI
   (oc zB<|oc zB<|oc (y8 (z:=3) (Cs:=qls L) kI (fun v W hb h=>(yT hl h (s.up hb))) (fun _=>rfl))<|oc (zO .i64 (k:Int) ((qls L).length:Int) (decide ((k:Int)<((qls L).length:Int))) iiz iiz rfl rfl)<|oc zB<|oc (zG 26 (decide ((k:Int)<((qls L).length:Int))) kI iiz (fun e=>zQ [] ((UF.eq l).tS) fnz (fun _ _ h _=>h) kI zB) (fun e W h=>absurd h e))<|oc (zG 26 (decide ((k:Int)<((qls L).length:Int))) kI iiz (fun e=>zQ [] ((uI (k:Int)).tS) fnz (fun _ _ h _=>h) kI zB) (fun e W h=>absurd h e))<|oc (zG 26 (decide ((k:Int)<((qls L).length:Int))) kI iiz (fun e=>zQ [(27,(UF.eq l).tS),(28,(uI (k:Int)).tS)] (wB (cg (fQN (qAt L k)))) (fmz ⟨fun v W h=>zL (c:=(decide ((k:Int)<((qls L).length:Int)))=true) (f:=(UF.eq l).tS) e h,fmz ⟨fun v W h=>zL (c:=(decide ((k:Int)<((qls L).length:Int)))=true) (f:=(uI (k:Int)).tS) e h,fnz⟩⟩) (fun _ _ h _=>h) kI (zZ (z:=3) (Cs:=qls L) (i:=k) (C:=CU.agg (fQN (qAt L k))) kI (zAS (by have:=zWi e;simp at this;omega)) (fun v W hb h=>(yT hl h (s.up hb))) iiz)) (fun e W h=>absurd h e))<|oc (zG 26 (decide ((k:Int)<((qls L).length:Int))) kI iiz (fun e=>zQ [(29,wB (cg (fQN (qAt L k))))] ((fQN (qAt L k)).tS) (fmz ⟨fun v W h=>zL (c:=(decide ((k:Int)<((qls L).length:Int)))=true) (f:=wB (cg (fQN (qAt L k)))) e h,fnz⟩) (fun _ _ h _=>h) kI (zI (f:=fQN (qAt L k)) 3 kI (hz:=z5 _))) (fun e W h=>absurd h e))<|oc (zG 26 (decide ((k:Int)<((qls L).length:Int))) kI iiz (fun e=>zQ [] ((fRV m x).tS) fnz (fun _ _ h _=>h) kI (zI (f:=fRV m x) 3 kI (hz:=zT _ _))) (fun e W h=>absurd h e))<|oc (zG 26 (decide ((k:Int)<((qls L).length:Int))) kI iiz (fun e=>zQ [(30,(fQN (qAt L k)).tS),(31,(fRV m x).tS)] ((uI (qsg (qAt L k) x)).tS) (fmz ⟨fun v W h=>zL (c:=(decide ((k:Int)<((qls L).length:Int)))=true) (f:=(fQN (qAt L k)).tS) e h,fmz ⟨fun v W h=>zL (c:=(decide ((k:Int)<((qls L).length:Int)))=true) (f:=(fRV m x).tS) e h,fnz⟩⟩) (fun _ _ h _=>h) kI (zJ zE zJX (fun u0 u1 W hb (h0:QNp (qAt L k) u0 W) (h1:RVp m x u1 W)=>zAZ (m:=m) (wD h0 (hqL _ (qU (qs:=L) (k:=k) (by have:=zWi e;simp at this;omega)))) h1 hm hm0))) (fun e W h=>absurd h e))<|oc (zG 26 (decide ((k:Int)<((qls L).length:Int))) kI iiz (fun e=>zQ [(32,(uI (qsg (qAt L k) x)).tS)] ((uB (qsg (qAt L k) x==0)).tS) (fmz ⟨fun v W h=>zL (c:=(decide ((k:Int)<((qls L).length:Int)))=true) (f:=(uI (qsg (qAt L k) x)).tS) e h,fnz⟩) (fun _ _ h _=>h) kI (zO .i64 (qsg (qAt L k) x) 0 (qsg (qAt L k) x==0) iiz iiz rfl rfl)) (fun e W h=>absurd h e))<|oc (yO (decide ((k:Int)<((qls L).length:Int))) iiz (fun e v W h=>jM (zL e h) e) (fun e v W h=>qV h e))<|zD) fun a w5 s=> ?_
  refine zA rfl ?_
  refine StS.cond s ((decide ((k:Int)<((qls L).length:Int)))&&(qsg (qAt L k) x==0)) iiz (fun e=> ?_) (fun e=> ?_)
  ·refine zWf ?_
   refine zC 2 ((35, .Z (UF.eq l))::(4, .u (UF.eq l)):: []) hmix s kI
    (oc zB<|oc zF<|zD) fun a w6 s=> ?_
   refine zA rfl ?_
   refine zWg ?_
   exact StS.resN s (zWw _ _) (t:=4) rfl (by rw [s.val (.head _),zPC hpos e];exact ⟨(SF.row 3 _).st _ _ _ hl s.below, .inl rfl⟩)
  ·refine zWh ?_
   refine zWf ?_
   have hbX:=s.below
   have hlX:=(SF.row 3 _).st _ _ _ hl hbX
   have hX3:b3<w5.heap.size:=s.old _ (.head _)
   replace s:StS _ _ _ [⟨3,27,CU.agg (fRV m x),b3,true⟩] _ _ _ _:=s.freeze
   replace s:=s.reb rfl [(34, .u (uB ((decide ((k:Int)<((qls L).length:Int)))&&(qsg (qAt L k) x==0)))),(19, .u (uB ((decide ((k:Int)<((qls L).length:Int)))&&(decide (qsg (qAt L k) x<0))))),(0, .u (UF.eq l)),(5, .u (uI (k:Int)))] (fmz ⟨.inl (.head _),fmz ⟨.inl mz1,fmz ⟨.inl mz2,fmz ⟨.inl mz3,fnz⟩⟩⟩⟩)
   refine qZ 5 ((36, .s (wW w5 27))::(37, .Z (UF.eq l))::(38, .Z (uI (k:Int)))::(39, .s (SF.row 3 (qls (L.take k))))::(40, .s (wM w5 27 3 (qls (L.take k)))):: []) hmix s kI
    (oc (zFb (z:=3) kI)<|oc zB<|oc zB<|oc (zGi (z:=3) (k:=k) (Cs:=qls L) kI (by simp;omega) (fun v W hb h=>(yT hlX h (s.up hb))) iiz (fun v W h=>by rw [zJx] at h;exact h))<|oc (zIz (qls (L.take k)) kI iiz (fun v W hb h=>h) (zBY _) (by simp;omega))<|zD) fun a w7 s hr=> ?_
   obtain ⟨v40,e40⟩: ∃v,a.tmps.getD 40 undef=v:=⟨_,rfl⟩
   have hv40:zAW w7 w5.heap.size 27 3 v40 (qls (L.take k)):=e40▸(hr (_,_) mz4)
   replace s:=s.learn 40 v40 e40
   refine zPs (UF.eq v40) rfl s kI iiz fun a s=> ?_
   refine zA rfl ?_
   refine zWf ?_
   have sb:=s;have so: ∀q,q∈ [(⟨3,27,CU.agg (fRV m x),b3,true⟩:Bx)]->q.b<w5.heap.size:=fun q hq=>by rcases zWl.1 hq with rfl|hq;exact hX3;cases hq
   have sg:w5.heap.size<=w5.heap.size:=zWr _
   have hwX:=s.below
   refine zGd (GW w5) hmix s fun w8 hw8 s=> ?_
   have hwb:=hwX.trans (hw8.mono hwX.size)
   have hz:=hwb.size
   refine zD5 [5,6,7] [0,1,2,3,5,6,7] ((41, .u (UF.eq v40))::(42, .Z (fRV m x))::(43, .Z (fQN x))::(44, .s (SF.row 3 (qls [x])))::(46, .Z (UF.eq l))::(47, .Z (uI (k:Int)))::(48, .u (fRW w5 3 (qls (L.drop k)))):: []) (zKJ hwb) s kI
    (oc zB<|oc (zI (f:=fRV m x) 3 kI (hz:=zT _ _))<|oc (zH zE zCa (fun u0 W hb (h0:RVp m x u0 W)=>jA (m:=m) h0 oP))<|oc (qB (fun u W (hu:QNp x u W)=>zI9 (jZ _) hu))<|oc zB<|oc zB<|oc (zDb (W0:=w5) (l0:=l) (z:=3) (k:=k) (Cs:=qls L) kI (by simp;omega) hlX iiz iiz (fun v W h=>by rw [zJy] at h;exact h))<|zD)
    (zBt rfl (zKl.c zEg hwb) (zBt rfl (zKl.c zEg hwb) (zBt rfl (zKl.c (zDj (x:= .tmp 46) (lo:= .tmp 47) (l0:=l) (z:=3) (k:=k) (Cs:=qls L) kI (by simp;omega) hlX iiz iiz) hwb) zEf))) fun a w9 hbw s hr=> ?_
   replace hwb:=hwb.trans (hbw.mono hwb.size)
   have hN:=hv40.below (hw8.trans (hbw.mono hw8.size))
   refine zCQ (i:=4) (x:= .tmp 41) (y:= .tmp 44) (qls [x]) hwb s sg hN rfl (zA6 rfl) kI kI kI (s.fct (.tmp 41)) (hr (_,_) mz3) (zBY _) (by simp;omega) so fun v45 a w10 hwb hN45 s=> ?_
   have hR45:=hN45.row
   refine zCQ (i:=8) (x:= .tmp 45) (y:= .tmp 48) (qls (L.drop k)) hwb s sg hN45 rfl (zA6 rfl) kI kI kI (s.fct (.tmp 45)) ((SF.row 3 _).st _ _ _ (s.sl (48, .u (fRW w5 3 (qls (L.drop k)))) mz2) hwb) (zBY _) (by simp;omega) so fun v49 a w11 hwb hN49 s=> ?_
   have hR49:=hN49.row
   have hR:(SF.row 3 (qls (zBZ L x))).p v49 w11:=by have:=hR49;rw [zHq, <-zPD hpos e] at this;exact this
   replace s:=s.drop [4]
   refine zD5 [] [9] ((4, .u (UF.eq v49)):: []) (zKJ hwb) s kI (zGm zF<|zD) zEf fun a w12 hbw s hr=> ?_
   refine zEB kI ?_
   refine zWg ?_
   exact StS.resN s hbX (t:=4) rfl (by rw [s.val (.head _)];exact ⟨(SF.row 3 _).st _ _ _ hR hbw, .inr fun k hk=>zWq hbX.size (hN49.lt k hk).1⟩)
end Go.Proofs.Wd

namespace Go.Proofs.Wd
open Tryz
set_option maxRecDepth 100000
set_option maxHeartbeats 1000000
open Go.RowKit Lb
theorem zRy {a b:V2} (h:decide (qsg (a.1+a.2) (b.1+b.2)<0)=true):zBf a b=true:=by unfold zBf;rw [h];rfl
theorem zRz {a b:V2} (h:decide (qsg (a.1+a.2) (b.1+b.2)<0)=false):zBf a b=((qsg (a.1+a.2) (b.1+b.2)==0)&&decide (qsg a.1 b.1<0)):=by unfold zBf;rw [h];rfl
theorem zSx {L:List V2} {p:V2} {k:Nat} (hk:zOz L p=k) (h:(decide ((k:Int)<((pns L).length:Int))&&(!(zBf p (at_ L k))))=true):zH5 L p=L:=by
 unfold zH5
 rw [hk]
 refine if_pos ?_
 rw [zWt] at h ⊢
 exact ⟨decide_eq_true (by have:=zWi h.1;simp at this;omega),h.2⟩
theorem zSy {L:List V2} {p:V2} {k:Nat} (hk:zOz L p=k) (h:(decide ((k:Int)<((pns L).length:Int))&&(!(zBf p (at_ L k))))=false):zH5 L p=L.take k++ [p]++L.drop k:=by
 unfold zH5
 rw [hk]
 refine if_neg fun h'=> ?_
 rw [zWt] at h'
 rw [zWv] at h
 rcases h with h|h
 ·have:=zWk h
  have:=zWi h'.1
  simp at*
  omega
 ·rw [h] at h';exact absurd h'.2 dB
theorem zJu {m:Nat} {W:Wm} {u:Wn} {ca:V2} (h1:(fPV m ca).p u W) (hm:m<=400) (hm0:0<m):Calls prog 128 #[u] W (Ret W (fQN (ca.1+ca.2)).tS):=by
 have ha:=zHt hm0 h1
 refine z9 [(fPV m ca).tS] func128 rfl kI ⟨h1,trivial⟩ fun a s=> ?_
 refine zWf ?_
 refine zC 0 [] hmix s kI
  zD fun a w1 s=> ?_
 refine yD (CU.agg (fPV m ca)) rfl s kI (fun v W h=>zAB h) fun b1 a w s=> ?_
 refine z4 (CU.len 3) (cs:=zR3) kI rfl s kI (fun W=>rfl) rfl fun b2 a w s=> ?_
 refine zA rfl ?_
 refine zWf ?_
 refine zC 6 ((3, .X (fPV m ca) 0)::(4, .Z (fRV m ((ca).1)))::(5, .X (fPV m ca) 3)::(6, .Z (fRV m ((ca).2)))::(7, .s (SF.row 3 (rvs m [(ca).1,(ca).2])))::(8, .u (fQN (ca.1+ca.2))):: []) hmix s kI
  (oc (zK (C:=cg (fPV m ca)) 0 kI)<|oc (yB (C:=cg (fPV m ca)) (k:=0) 3 kI (h:=zFM))<|oc (zK (C:=cg (fPV m ca)) 3 kI)<|oc (yB (C:=cg (fPV m ca)) (k:=3) 3 kI (h:=zH6))<|oc (yK (fun u v W (hu:RVp m ((ca).1) u W) (hv:RVp m ((ca).2) v W)=>zC3 hu hv))<|oc (zH zE zMZ (fun u0 W hb (h0:(SF.row 3 (rvs m [(ca).1,(ca).2])).p u0 W)=>zDy h0 ha.1 ha.2 oP))<|zD) fun a w2 s=> ?_
 refine zN (CU.agg (fQN (ca.1+ca.2))) ((fQN (ca.1+ca.2)).tS) rfl s kI rfl rfl rfl iiz iiz zU fun a w s=> ?_
 refine zA rfl ?_
 refine zWg ?_
 exact wI s (CU.agg (fQN (ca.1+ca.2))) rfl kI rfl rfl (z5 _) (fun cs W h=>h)
theorem zHk {m:Nat} {W:Wm} {u v:Wn} {ca cb:V2} (h1:(fPV m ca).p u W) (h2:(fPV m cb).p v W) (hm:m<=400) (hm0:0<m):Calls prog 106 #[u,v] W (Ret W (fB (zBf ca cb)).tS):=by
 have ha:=zHt hm0 h1
 have hb_:=zHt hm0 h2
 refine z9 [(fPV m ca).tS,(fPV m cb).tS] func106 rfl kI ⟨h1,h2,trivial⟩ fun a s=> ?_
 refine zWf ?_
 refine zC 0 [] hmix s kI
  zD fun a w1 s=> ?_
 refine yD (CU.agg (fPV m ca)) rfl s kI (fun v W h=>zAB h) fun b2 a w s=> ?_
 refine yD (CU.agg (fPV m cb)) rfl s kI (fun v W h=>zAB h) fun b3 a w s=> ?_
 refine zS (uB false) rfl s kI iiz fun a w s=> ?_
 refine zA rfl ?_
 refine zWf ?_
 refine zC 6 ((6, .Z (fPV m ca))::(7, .Z (fQN ((ca).1+(ca).2)))::(8, .Z (fPV m cb))::(9, .Z (fQN ((cb).1+(cb).2)))::(10, .Z (uI (qsg (ca.1+ca.2) (cb.1+cb.2))))::(5, .u (uI (qsg (ca.1+ca.2) (cb.1+cb.2)))):: []) hmix s kI
  (oc (zI (f:=fPV m ca) 6 kI (hz:=jF _ _))<|oc (zH zE zPU (fun u0 W hb (h0:(fPV m ca).p u0 W)=>zJu (m:=m) (ca:=ca) h0 oP hm0))<|oc (zI (f:=fPV m cb) 6 kI (hz:=jF _ _))<|oc (zH zE zPU (fun u0 W hb (h0:(fPV m cb).p u0 W)=>zJu (m:=m) (ca:=cb) h0 oP hm0))<|oc (zJ zE zJX (fun u0 u1 W hb (h0:QNp ((ca).1+(ca).2) u0 W) (h1:QNp ((cb).1+(cb).2) u1 W)=>zAZ (m:=2*m+1) (wD h0 ((ha.1.add ha.2).mono oP)) (wD h1 ((hb_.1.add hb_.2).mono oP)) oP oP))<|oc zF<|zD) fun a w2 s=> ?_
 refine zA rfl ?_
 refine zWf ?_
 cases e0:decide (qsg (ca.1+ca.2) (cb.1+cb.2)<0)
 ·replace s:=s.drop [4]
  refine zC 15 ((11, .Z (uI (qsg (ca.1+ca.2) (cb.1+cb.2))))::(12, .Z (uB false))::(13, .Z (uB false))::(14, .Z (uI (qsg (ca.1+ca.2) (cb.1+cb.2))))::(15, .Z (uB (qsg (ca.1+ca.2) (cb.1+cb.2)==0)))::(16, .Z (uB (qsg (ca.1+ca.2) (cb.1+cb.2)==0)))::(17, .s (SF.imp ((qsg (ca.1+ca.2) (cb.1+cb.2)==0)=true) (wB ((CU.agg (fPV m ca)).cf.at 0))))::(18, .s (SF.imp ((qsg (ca.1+ca.2) (cb.1+cb.2)==0)=true) ((fRV m ((ca).1)).tS)))::(19, .s (SF.imp ((qsg (ca.1+ca.2) (cb.1+cb.2)==0)=true) (wB ((CU.agg (fPV m cb)).cf.at 0))))::(20, .s (SF.imp ((qsg (ca.1+ca.2) (cb.1+cb.2)==0)=true) ((fRV m ((cb).1)).tS)))::(21, .s (SF.imp ((qsg (ca.1+ca.2) (cb.1+cb.2)==0)=true) ((uI (qsg ca.1 cb.1)).tS)))::(22, .s (SF.imp ((qsg (ca.1+ca.2) (cb.1+cb.2)==0)=true) ((uB (decide (qsg ca.1 cb.1<0))).tS)))::(23, .Z (uB ((qsg (ca.1+ca.2) (cb.1+cb.2)==0)&&(decide (qsg ca.1 cb.1<0)))))::(24, .Z (uB ((qsg (ca.1+ca.2) (cb.1+cb.2)==0)&&(decide (qsg ca.1 cb.1<0)))))::(4, .u (uB ((qsg (ca.1+ca.2) (cb.1+cb.2)==0)&&(decide (qsg ca.1 cb.1<0))))):: []) hmix s kI
   (oc zB<|oc (zO .i64 (qsg (ca.1+ca.2) (cb.1+cb.2)) 0 false iiz iiz e0 rfl)<|oc zB<|oc (zG 13 false kI iiz (fun _=>zB) arf)<|oc (zG 13 false kI iiz (fun _=>zO .i64 (qsg (ca.1+ca.2) (cb.1+cb.2)) 0 (qsg (ca.1+ca.2) (cb.1+cb.2)==0) iiz iiz rfl rfl) arf)<|oc (zG 13 false kI iiz (fun _=>zB) arf)<|oc (zG 16 (qsg (ca.1+ca.2) (cb.1+cb.2)==0) kI iiz (fun e=>zQ [] (wB ((CU.agg (fPV m ca)).cf.at 0)) fnz (fun _ _ h _=>h) kI (zK (C:=cg (fPV m ca)) 0 kI)) (fun e W h=>absurd h e))<|oc (zG 16 (qsg (ca.1+ca.2) (cb.1+cb.2)==0) kI iiz (fun e=>zQ [(17,wB ((CU.agg (fPV m ca)).cf.at 0))] ((fRV m ((ca).1)).tS) (fmz ⟨fun v W h=>zL (c:=(qsg (ca.1+ca.2) (cb.1+cb.2)==0)=true) (f:=wB ((CU.agg (fPV m ca)).cf.at 0)) e h,fnz⟩) (fun _ _ h _=>h) kI (yB (C:=cg (fPV m ca)) (k:=0) 3 kI (h:=zFM))) (fun e W h=>absurd h e))<|oc (zG 16 (qsg (ca.1+ca.2) (cb.1+cb.2)==0) kI iiz (fun e=>zQ [] (wB ((CU.agg (fPV m cb)).cf.at 0)) fnz (fun _ _ h _=>h) kI (zK (C:=cg (fPV m cb)) 0 kI)) (fun e W h=>absurd h e))<|oc (zG 16 (qsg (ca.1+ca.2) (cb.1+cb.2)==0) kI iiz (fun e=>zQ [(19,wB ((CU.agg (fPV m cb)).cf.at 0))] ((fRV m ((cb).1)).tS) (fmz ⟨fun v W h=>zL (c:=(qsg (ca.1+ca.2) (cb.1+cb.2)==0)=true) (f:=wB ((CU.agg (fPV m cb)).cf.at 0)) e h,fnz⟩) (fun _ _ h _=>h) kI (yB (C:=cg (fPV m cb)) (k:=0) 3 kI (h:=zFM))) (fun e W h=>absurd h e))<|oc (zG 16 (qsg (ca.1+ca.2) (cb.1+cb.2)==0) kI iiz (fun e=>zQ [(18,(fRV m ((ca).1)).tS),(20,(fRV m ((cb).1)).tS)] ((uI (qsg ca.1 cb.1)).tS) (fmz ⟨fun v W h=>zL (c:=(qsg (ca.1+ca.2) (cb.1+cb.2)==0)=true) (f:=(fRV m ((ca).1)).tS) e h,fmz ⟨fun v W h=>zL (c:=(qsg (ca.1+ca.2) (cb.1+cb.2)==0)=true) (f:=(fRV m ((cb).1)).tS) e h,fnz⟩⟩) (fun _ _ h _=>h) kI (zJ zE zJX (fun u0 u1 W hb (h0:RVp m ((ca).1) u0 W) (h1:RVp m ((cb).1) u1 W)=>zAZ (m:=m) h0 h1 oP hm0))) (fun e W h=>absurd h e))<|oc (zG 16 (qsg (ca.1+ca.2) (cb.1+cb.2)==0) kI iiz (fun e=>zQ [(21,(uI (qsg ca.1 cb.1)).tS)] ((uB (decide (qsg ca.1 cb.1<0))).tS) (fmz ⟨fun v W h=>zL (c:=(qsg (ca.1+ca.2) (cb.1+cb.2)==0)=true) (f:=(uI (qsg ca.1 cb.1)).tS) e h,fnz⟩) (fun _ _ h _=>h) kI (zO .i64 (qsg ca.1 cb.1) 0 (decide (qsg ca.1 cb.1<0)) iiz iiz rfl rfl)) (fun e W h=>absurd h e))<|oc (zG 13 false kI iiz (fun _=>yO (qsg (ca.1+ca.2) (cb.1+cb.2)==0) iiz (fun e v W h=>jM (zL e h) e) (fun e v W h=>qV h e)) arf)<|oc (yO false iiz (fun e=>by cases e) (fun _ _ _ h=>h))<|oc zF<|zD) fun a w3 s=> ?_
  refine zA rfl ?_
  refine zWg ?_
  exact wJ s (t:=4) rfl (fun v W h=>by rw [zRz e0];exact h)
 ·replace s:=s.drop [4]
  refine zC 15 ((11, .Z (uI (qsg (ca.1+ca.2) (cb.1+cb.2))))::(12, .Z (uB true))::(13, .Z (uB true))::(16, .Z (UF.eq undef))::(24, .Z (uB true))::(4, .u (uB true)):: []) hmix s kI
   (oc zB<|oc (zO .i64 (qsg (ca.1+ca.2) (cb.1+cb.2)) 0 true iiz iiz e0 rfl)<|oc zB<|oc (zG 13 true kI iiz (fun e=>by cases e) (fun _ _=>trivial))<|oc (zG 13 true kI iiz (fun e=>by cases e) (fun _ _=>trivial))<|oc (zG 13 true kI iiz (fun e=>by cases e) (fun _ _=>rfl))<|oc (zBU 16 undef kI iiz (fun e=>by cases e) (fun _=>trivial))<|oc (zBU 16 undef kI iiz (fun e=>by cases e) (fun _=>trivial))<|oc (zBU 16 undef kI iiz (fun e=>by cases e) (fun _=>trivial))<|oc (zBU 16 undef kI iiz (fun e=>by cases e) (fun _=>trivial))<|oc (zBU 16 undef kI iiz (fun e=>by cases e) (fun _=>trivial))<|oc (zBU 16 undef kI iiz (fun e=>by cases e) (fun _=>trivial))<|oc (zG 13 true kI iiz (fun e=>by cases e) (fun _ _=>trivial))<|oc (yO true iiz (fun _ _ _ h=>h) (fun e=>by cases e))<|oc zF<|zD) fun a w4 s=> ?_
  refine zA rfl ?_
  refine zWg ?_
  exact wJ s (t:=4) rfl (fun v W h=>by rw [zRy e0];exact h)
theorem zHj {m:Nat} {W:Wm} {l u:Wn} {L:List V2} {x:V2} (hl:(SF.row 6 (pns L)).p l W) (h1:(fPN x).p u W) (hqx:QB x.1 m/\QB x.2 m) (hqL: ∀y,y∈L->QB y.1 m/\QB y.2 m) (hm:m<=400) (hm0:0<m) (hn:L.length<=1000000):Calls prog 74 #[l,u] W (Ret W (vG W l 6 (pns (zH5 L x)))):=by
 refine z9 [(UF.eq l).tS,(fPN x).tS] func74 rfl kI ⟨rfl,h1,trivial⟩ fun a s=> ?_
 replace s:=s.renew [(0, .u (UF.eq l)),(1, .u (fPN x))] (fmz ⟨.inr ⟨_,rfl, .head _⟩,fmz ⟨.inr ⟨_,rfl,mz1⟩,fnz⟩⟩)
 refine zWf ?_
 refine zC 0 [] hmix s kI
  zD fun a w1 s=> ?_
 refine yD (CU.agg (fPN x)) rfl s kI (fun v W h=>zAB h) fun b3 a w s=> ?_
 refine zS (UF.eq (.slice none 0 0)) rfl s kI iiz fun a w s=> ?_
 refine zA rfl ?_
 refine zWf ?_
 refine zC 1 ((5, .u (uI 0)):: []) hmix s kI
  (oc zF<|zD) fun a w2 s=> ?_
 refine zA rfl ?_
 refine zWf ?_
 refine zWj ?_
 refine q8 (fun k=>k<=L.length/\ ∀j,j<k->zBf (at_ L j) x=true) (fun k=> [(0, .u (UF.eq l)),(5, .u (uI ((k:Nat):Int)))]) (fun k=>L.length - k) (0:Nat) (⟨zWo _,fun j hj=>absurd hj (zWs _)⟩) (s.keepK _ (fmz ⟨mz2,fmz ⟨.head _,fnz⟩⟩)) fun k a w hx s=> ?_
 refine zWf ?_
 refine zWf ?_
 refine zC 12 ((6, .Z (uI (k:Int)))::(7, .Z (UF.eq l))::(8, .Z (uI ((pns L).length:Int)))::(9, .Z (uB (decide ((k:Int)<((pns L).length:Int)))))::(10, .Z (uB (decide ((k:Int)<((pns L).length:Int)))))::(11, .s (SF.imp ((decide ((k:Int)<((pns L).length:Int)))=true) ((UF.eq l).tS)))::(12, .s (SF.imp ((decide ((k:Int)<((pns L).length:Int)))=true) ((uI (k:Int)).tS)))::(13, .s (SF.imp ((decide ((k:Int)<((pns L).length:Int)))=true) (wB (cg (fPN (at_ L k))))))::(14, .s (SF.imp ((decide ((k:Int)<((pns L).length:Int)))=true) ((fPN (at_ L k)).tS)))::(15, .s (SF.imp ((decide ((k:Int)<((pns L).length:Int)))=true) ((fPN x).tS)))::(16, .s (SF.imp ((decide ((k:Int)<((pns L).length:Int)))=true) ((uB (zBf (at_ L k) x)).tS)))::(17, .u (uB ((decide ((k:Int)<((pns L).length:Int)))&&(zBf (at_ L k) x)))):: []) hmix s kI
  (oc zB<|oc zB<|oc (y8 (z:=6) (Cs:=pns L) kI (fun v W hb h=>(yT hl h (s.up hb))) (fun _=>rfl))<|oc (zO .i64 (k:Int) ((pns L).length:Int) (decide ((k:Int)<((pns L).length:Int))) iiz iiz rfl rfl)<|oc zB<|oc (zG 10 (decide ((k:Int)<((pns L).length:Int))) kI iiz (fun e=>zQ [] ((UF.eq l).tS) fnz (fun _ _ h _=>h) kI zB) (fun e W h=>absurd h e))<|oc (zG 10 (decide ((k:Int)<((pns L).length:Int))) kI iiz (fun e=>zQ [] ((uI (k:Int)).tS) fnz (fun _ _ h _=>h) kI zB) (fun e W h=>absurd h e))<|oc (zG 10 (decide ((k:Int)<((pns L).length:Int))) kI iiz (fun e=>zQ [(11,(UF.eq l).tS),(12,(uI (k:Int)).tS)] (wB (cg (fPN (at_ L k)))) (fmz ⟨fun v W h=>zL (c:=(decide ((k:Int)<((pns L).length:Int)))=true) (f:=(UF.eq l).tS) e h,fmz ⟨fun v W h=>zL (c:=(decide ((k:Int)<((pns L).length:Int)))=true) (f:=(uI (k:Int)).tS) e h,fnz⟩⟩) (fun _ _ h _=>h) kI (zZ (z:=6) (Cs:=pns L) (i:=k) (C:=CU.agg (fPN (at_ L k))) kI (zE9 (by have:=zWi e;simp at this;omega)) (fun v W hb h=>(yT hl h (s.up hb))) iiz)) (fun e W h=>absurd h e))<|oc (zG 10 (decide ((k:Int)<((pns L).length:Int))) kI iiz (fun e=>zQ [(13,wB (cg (fPN (at_ L k))))] ((fPN (at_ L k)).tS) (fmz ⟨fun v W h=>zL (c:=(decide ((k:Int)<((pns L).length:Int)))=true) (f:=wB (cg (fPN (at_ L k)))) e h,fnz⟩) (fun _ _ h _=>h) kI (zI (f:=fPN (at_ L k)) 6 kI (hz:=jF _ _))) (fun e W h=>absurd h e))<|oc (zG 10 (decide ((k:Int)<((pns L).length:Int))) kI iiz (fun e=>zQ [] ((fPN x).tS) fnz (fun _ _ h _=>h) kI (zI (f:=fPN x) 6 kI (hz:=jF _ _))) (fun e W h=>absurd h e))<|oc (zG 10 (decide ((k:Int)<((pns L).length:Int))) kI iiz (fun e=>zQ [(14,(fPN (at_ L k)).tS),(15,(fPN x).tS)] ((uB (zBf (at_ L k) x)).tS) (fmz ⟨fun v W h=>zL (c:=(decide ((k:Int)<((pns L).length:Int)))=true) (f:=(fPN (at_ L k)).tS) e h,fmz ⟨fun v W h=>zL (c:=(decide ((k:Int)<((pns L).length:Int)))=true) (f:=(fPN x).tS) e h,fnz⟩⟩) (fun _ _ h _=>h) kI (zJ zE zPZ (fun u0 u1 W hb (h0:(fPN (at_ L k)).p u0 W) (h1:(fPN x).p u1 W)=>zHk (m:=m) (ca:=at_ L k) (cb:=x) (zCy (p:=at_ L k) (m:=m) (hqL _ (zFs (l:=L) (i:=k) (by have:=zWi e;simp at this;omega))).1 (hqL _ (zFs (l:=L) (i:=k) (by have:=zWi e;simp at this;omega))).2 h0) (zCy (p:=x) (m:=m) hqx.1 hqx.2 h1) hm hm0))) (fun e W h=>absurd h e))<|oc (yO (decide ((k:Int)<((pns L).length:Int))) iiz (fun e v W h=>jM (zL e h) e) (fun e v W h=>qV h e))<|zD) fun a w3 s=> ?_
 refine zA rfl ?_
 refine StS.cond s ((decide ((k:Int)<((pns L).length:Int)))&&(zBf (at_ L k) x)) iiz (fun e=> ?_) (fun e=> ?_)
 ·rw [zWt] at e
  have hk:k<L.length:=by have:=zWi e.1;simp at this;omega
  have hlt:=e.2
  refine zWh ?_
  refine zWj ?_
  refine zR 2 ((18, .Z (uI (k:Int)))::(19, .u (uI ((k+1:Nat):Int))):: []) s kI
   (oc zB<|oc (yM .i64 (k:Int) 1 ((k+1:Nat):Int) iiz iiz (wrap64 _ _ oP oP))<|zD) fun a w4 s=> ?_
  replace s:=s.drop [5]
  refine zS (uI ((k+1:Nat):Int)) rfl s kI iiz fun a w s=> ?_
  refine zA rfl ?_
  exact ⟨k+1,⟨hk,fun j hj=>by rcases zWn (zWp hj) with h|h;exact hx.2 j h;rw [h];exact hlt⟩,(by show L.length - (k+1)<L.length - k;omega),s.keepK _ (fmz ⟨mz3,fmz ⟨.head _,fnz⟩⟩)⟩
 ·have hkl:=hx.1
  have hpos:zOz L x=k:=by
   rw [zWv] at e
   rcases zWn hkl with h|h
   ·exact zDs h hx.2 (by rcases e with e|e;exact absurd (show (k:Int)<((pns L).length:Int) by simp;omega) (zWk e);exact e)
   ·unfold zOz;rw [h];exact zCn (by rw [<-h];exact hx.2)
  clear e
  refine zWm ?_
  refine zWf ?_
  refine zWf ?_
  refine zC 13 ((20, .Z (uI (k:Int)))::(21, .Z (UF.eq l))::(22, .Z (uI ((pns L).length:Int)))::(23, .Z (uB (decide ((k:Int)<((pns L).length:Int)))))::(24, .Z (uB (decide ((k:Int)<((pns L).length:Int)))))::(25, .s (SF.imp ((decide ((k:Int)<((pns L).length:Int)))=true) ((fPN x).tS)))::(26, .s (SF.imp ((decide ((k:Int)<((pns L).length:Int)))=true) ((UF.eq l).tS)))::(27, .s (SF.imp ((decide ((k:Int)<((pns L).length:Int)))=true) ((uI (k:Int)).tS)))::(28, .s (SF.imp ((decide ((k:Int)<((pns L).length:Int)))=true) (wB (cg (fPN (at_ L k))))))::(29, .s (SF.imp ((decide ((k:Int)<((pns L).length:Int)))=true) ((fPN (at_ L k)).tS)))::(30, .s (SF.imp ((decide ((k:Int)<((pns L).length:Int)))=true) ((uB (zBf x (at_ L k))).tS)))::(31, .s (SF.imp ((decide ((k:Int)<((pns L).length:Int)))=true) ((uB (!(zBf x (at_ L k)))).tS)))::(32, .u (uB ((decide ((k:Int)<((pns L).length:Int)))&&(!(zBf x (at_ L k)))))):: []) hmix s kI
   (oc zB<|oc zB<|oc (y8 (z:=6) (Cs:=pns L) kI (fun v W hb h=>(yT hl h (s.up hb))) (fun _=>rfl))<|oc (zO .i64 (k:Int) ((pns L).length:Int) (decide ((k:Int)<((pns L).length:Int))) iiz iiz rfl rfl)<|oc zB<|oc (zG 24 (decide ((k:Int)<((pns L).length:Int))) kI iiz (fun e=>zQ [] ((fPN x).tS) fnz (fun _ _ h _=>h) kI (zI (f:=fPN x) 6 kI (hz:=jF _ _))) (fun e W h=>absurd h e))<|oc (zG 24 (decide ((k:Int)<((pns L).length:Int))) kI iiz (fun e=>zQ [] ((UF.eq l).tS) fnz (fun _ _ h _=>h) kI zB) (fun e W h=>absurd h e))<|oc (zG 24 (decide ((k:Int)<((pns L).length:Int))) kI iiz (fun e=>zQ [] ((uI (k:Int)).tS) fnz (fun _ _ h _=>h) kI zB) (fun e W h=>absurd h e))<|oc (zG 24 (decide ((k:Int)<((pns L).length:Int))) kI iiz (fun e=>zQ [(26,(UF.eq l).tS),(27,(uI (k:Int)).tS)] (wB (cg (fPN (at_ L k)))) (fmz ⟨fun v W h=>zL (c:=(decide ((k:Int)<((pns L).length:Int)))=true) (f:=(UF.eq l).tS) e h,fmz ⟨fun v W h=>zL (c:=(decide ((k:Int)<((pns L).length:Int)))=true) (f:=(uI (k:Int)).tS) e h,fnz⟩⟩) (fun _ _ h _=>h) kI (zZ (z:=6) (Cs:=pns L) (i:=k) (C:=CU.agg (fPN (at_ L k))) kI (zE9 (by have:=zWi e;simp at this;omega)) (fun v W hb h=>(yT hl h (s.up hb))) iiz)) (fun e W h=>absurd h e))<|oc (zG 24 (decide ((k:Int)<((pns L).length:Int))) kI iiz (fun e=>zQ [(28,wB (cg (fPN (at_ L k))))] ((fPN (at_ L k)).tS) (fmz ⟨fun v W h=>zL (c:=(decide ((k:Int)<((pns L).length:Int)))=true) (f:=wB (cg (fPN (at_ L k)))) e h,fnz⟩) (fun _ _ h _=>h) kI (zI (f:=fPN (at_ L k)) 6 kI (hz:=jF _ _))) (fun e W h=>absurd h e))<|oc (zG 24 (decide ((k:Int)<((pns L).length:Int))) kI iiz (fun e=>zQ [(25,(fPN x).tS),(29,(fPN (at_ L k)).tS)] ((uB (zBf x (at_ L k))).tS) (fmz ⟨fun v W h=>zL (c:=(decide ((k:Int)<((pns L).length:Int)))=true) (f:=(fPN x).tS) e h,fmz ⟨fun v W h=>zL (c:=(decide ((k:Int)<((pns L).length:Int)))=true) (f:=(fPN (at_ L k)).tS) e h,fnz⟩⟩) (fun _ _ h _=>h) kI (zJ zE zPZ (fun u0 u1 W hb (h0:(fPN x).p u0 W) (h1:(fPN (at_ L k)).p u1 W)=>zHk (m:=m) (ca:=x) (cb:=at_ L k) (zCy (p:=x) (m:=m) hqx.1 hqx.2 h0) (zCy (p:=at_ L k) (m:=m) (hqL _ (zFs (l:=L) (i:=k) (by have:=zWi e;simp at this;omega))).1 (hqL _ (zFs (l:=L) (i:=k) (by have:=zWi e;simp at this;omega))).2 h1) hm hm0))) (fun e W h=>absurd h e))<|oc (zG 24 (decide ((k:Int)<((pns L).length:Int))) kI iiz (fun e=>zQ [(30,(uB (zBf x (at_ L k))).tS)] ((uB (!(zBf x (at_ L k)))).tS) (fmz ⟨fun v W h=>zL (c:=(decide ((k:Int)<((pns L).length:Int)))=true) (f:=(uB (zBf x (at_ L k))).tS) e h,fnz⟩) (fun _ _ h _=>h) kI (zCA (zBf x (at_ L k)) iiz (fun _=>rfl))) (fun e W h=>absurd h e))<|oc (yO (decide ((k:Int)<((pns L).length:Int))) iiz (fun e v W h=>jM (zL e h) e) (fun e v W h=>qV h e))<|zD) fun a w5 s=> ?_
  refine zA rfl ?_
  refine StS.cond s ((decide ((k:Int)<((pns L).length:Int)))&&(!(zBf x (at_ L k)))) iiz (fun e=> ?_) (fun e=> ?_)
  ·refine zWf ?_
   refine zC 2 ((33, .Z (UF.eq l))::(4, .u (UF.eq l)):: []) hmix s kI
    (oc zB<|oc zF<|zD) fun a w6 s=> ?_
   refine zA rfl ?_
   refine zWg ?_
   exact StS.resN s (zWw _ _) (t:=4) rfl (by rw [s.val (.head _),zSx hpos e];exact ⟨(SF.row 6 _).st _ _ _ hl s.below, .inl rfl⟩)
  ·refine zWh ?_
   refine zWf ?_
   have hbX:=s.below
   have hlX:=(SF.row 6 _).st _ _ _ hl hbX
   have hX3:b3<w5.heap.size:=s.old _ (.head _)
   replace s:StS _ _ _ [⟨3,132,CU.agg (fPN x),b3,true⟩] _ _ _ _:=s.freeze
   replace s:=s.reb rfl [(32, .u (uB ((decide ((k:Int)<((pns L).length:Int)))&&(!(zBf x (at_ L k)))))),(17, .u (uB ((decide ((k:Int)<((pns L).length:Int)))&&(zBf (at_ L k) x)))),(0, .u (UF.eq l)),(5, .u (uI (k:Int)))] (fmz ⟨.inl (.head _),fmz ⟨.inl mz1,fmz ⟨.inl mz2,fmz ⟨.inl mz3,fnz⟩⟩⟩⟩)
   have sb:=s;have so: ∀q,q∈ [(⟨3,132,CU.agg (fPN x),b3,true⟩:Bx)]->q.b<w5.heap.size:=fun q hq=>by rcases zWl.1 hq with rfl|hq;exact hX3;cases hq
   have sg:w5.heap.size<=w5.heap.size:=zWr _
   have hwX:=s.below
   refine zGd (GW w5) hmix s fun w7 hw8 s=> ?_
   have hwb:=hwX.trans (hw8.mono hwX.size)
   have hz:=hwb.size
   refine zD5 [8,9,10] [0,1,2,3,4,5,6,8,9,10] ((34, .s (wW w7 132))::(35, .Z (UF.eq l))::(36, .Z (uI (k:Int)))::(37, .s (SF.row 6 (pns (L.take k))))::(38, .s (wM w7 132 6 (pns (L.take k))))::(39, .Z (fPN x))::(40, .s (SF.row 6 (pns [x])))::(42, .Z (UF.eq l))::(43, .Z (uI (k:Int)))::(44, .u (fRW w5 6 (pns (L.drop k)))):: []) (zKJ hwb) s kI
    (oc (zFb (z:=6) kI)<|oc zB<|oc zB<|oc (zGi (z:=6) (k:=k) (Cs:=pns L) kI (by simp;omega) (fun v W hb h=>(yT hlX h (s.up hb))) iiz (fun v W h=>by rw [zOA] at h;exact h))<|oc (zIz (pns (L.take k)) kI iiz (fun v W hb h=>h) (zJC _) (by simp;omega))<|oc (zI (f:=fPN x) 6 kI (hz:=jF _ _))<|oc (qB (fun u W (hu:(fPN x).p u W)=>zSa hu))<|oc zB<|oc zB<|oc (zDb (W0:=w5) (l0:=l) (z:=6) (k:=k) (Cs:=pns L) kI (by simp;omega) hlX iiz iiz (fun v W h=>by rw [zOC] at h;exact h))<|zD)
    (zBt rfl (zKl.c zEg hwb) (zBt rfl (zKl.c zEg hwb) (zBt rfl (zKl.c (zDj (x:= .tmp 42) (lo:= .tmp 43) (l0:=l) (z:=6) (k:=k) (Cs:=pns L) kI (by simp;omega) hlX iiz iiz) hwb) zEf))) fun a w8 hbw s hr=> ?_
   replace hwb:=hwb.trans (hbw.mono hwb.size)
   refine zCQ (i:=7) (x:= .tmp 38) (y:= .tmp 40) (pns [x]) hwb s sg (zAW.mono (hr (_,_) mz4) hz) rfl (zA6 rfl) kI kI kI rfl (hr (_,_) mz6) (zJC _) (by simp;omega) so fun v41 a w9 hwb hN41 s=> ?_
   have hR41:=hN41.row
   refine zCQ (i:=11) (x:= .tmp 41) (y:= .tmp 44) (pns (L.drop k)) hwb s sg hN41 rfl (zA6 rfl) kI kI kI (s.fct (.tmp 41)) ((SF.row 6 _).st _ _ _ (s.sl (44, .u (fRW w5 6 (pns (L.drop k)))) mz1) hwb) (zJC _) (by simp;omega) so fun v45 a w10 hwb hN45 s=> ?_
   have hR45:=hN45.row
   have hR:(SF.row 6 (pns (zH5 L x))).p v45 w10:=by have:=hR45;rw [zL9, <-zSy hpos e] at this;exact this
   replace s:=s.drop [4]
   refine zD5 [] [12] ((4, .u (UF.eq v45)):: []) (zKJ hwb) s kI (zGm zF<|zD) zEf fun a w11 hbw s hr=> ?_
   refine zEB kI ?_
   refine zWg ?_
   exact StS.resN s hbX (t:=4) rfl (by rw [s.val (.head _)];exact ⟨(SF.row 6 _).st _ _ _ hR hbw, .inr fun k hk=>zWq hbX.size (hN45.lt k hk).1⟩)
end Go.Proofs.Wd

namespace Go.Proofs.Wd
open Tryz
set_option maxRecDepth 100000
set_option maxHeartbeats 1000000
open Go.RowKit Lb
def zOD (lo hi x:Rat):Rat×Bool:=if decide (qsg lo hi≥0)=true then (((0:Int):Rat),false) else ((x - lo) / (hi - lo),true)
theorem zMd {lo hi x:Rat} (h:decide (qsg lo hi≥0)=true):zOD lo hi x=(((0:Int):Rat),false):=if_pos h
theorem zMe {lo hi x:Rat} (h:decide (qsg lo hi≥0)=false):zOD lo hi x=((x - lo) / (hi - lo),true):=if_neg (by rw [h];decide)
theorem zMN {lo hi x:Rat} {L:List V2} (h:decide (qsg lo hi≥0)=true):jN lo hi x L= []:=if_pos (zWi h)
theorem zMO {lo hi x:Rat} {L:List V2} (h:decide (qsg lo hi≥0)=false):jN lo hi x L=L.map (zDn lo hi x):=if_neg (zWk h)
theorem zD9 {lo hi x:Rat} {m:Nat} (h1:QB lo m) (h2:QB hi m) (h3:QB x m):QB ((x - lo) / (hi - lo)) (4*m+2):=((h3.sub h1).div (h2.sub h1)).mono oP
theorem zCm {p q:Rat} {m:Nat} (h:QB p m) (h':QB q m):QB (p - q) (2*m+1):=(h.sub h').mono oP
theorem zIA {p q:Rat} {m:Nat} (h:QB p (4*m+2)) (h':QB q (2*m+1)):QB (p*q) (6*m+3):=(h.mul h').mono oP
theorem zSY {lo hi x:Rat} {l:V2} {m:Nat} (h1:QB lo m) (h2:QB hi m) (h3:QB x m) (hl:QB l.1 m/\QB l.2 m):QB (zDn lo hi x l) (7*m+4):=(hl.1.add ((zD9 h1 h2 h3).mul (hl.2.sub hl.1))).mono oP
theorem zHr {L:List V2} {k:Nat} (hk:k<L.length) (G:V2->Rat):qls ((L.take k).map G)++qls [G (at_ L k)]=qls ((L.take (k+1)).map G):=by
 unfold qls at_
 rw [List.take_add_one,zWz hk,List.map_append,List.map_append,List.getD_eq_getElem?_getD,zWz hk]
 rfl
theorem zMx {m:Nat} {W:Wm} {u v z:Wn} {lo hi x:Rat} (h1:RVp m lo u W) (h2:RVp m hi v W) (h3:RVp m x z W) (hm:m<=100) (hm0:0<m) (hT:Tab W):Calls prog 131 #[u,v,z] W (Ret W (yU (fQN (zOD lo hi x).1) (fB (zOD lo hi x).2)).tS):=by
 have q1:=h1.qb hm0
 have q2:=h2.qb hm0
 have q3:=h3.qb hm0
 refine z9 [(fRV m lo).tS,(fRV m hi).tS,(fRV m x).tS] func131 rfl kI ⟨h1,h2,h3,trivial⟩ fun a s=> ?_
 refine zWf ?_
 refine zC 0 [] hmix s kI
  zD fun a w1 s=> ?_
 refine yD (CU.agg (fRV m lo)) rfl s kI (fun v W h=>y6 h) fun b3 a w s=> ?_
 refine yD (CU.agg (fRV m hi)) rfl s kI (fun v W h=>y6 h) fun b4 a w s=> ?_
 refine yD (CU.agg (fRV m x)) rfl s kI (fun v W h=>y6 h) fun b5 a w s=> ?_
 refine z4 (CU.len 3) (cs:=zR3) kI rfl s kI (fun W=>rfl) rfl fun b6 a w s=> ?_
 refine zS (uB false) rfl s kI iiz fun a w s=> ?_
 refine zA rfl ?_
 refine zWf ?_
 refine zWf ?_
 refine zC 4 ((10, .Z (fRV m lo))::(11, .Z (fRV m hi))::(12, .Z (uI (qsg lo hi)))::(13, .u (uB (decide (qsg lo hi≥0)))):: []) hmix s kI
  (oc (zI (f:=fRV m lo) 3 kI (hz:=zT _ _))<|oc (zI (f:=fRV m hi) 3 kI (hz:=zT _ _))<|oc (zJ zE zHQ (fun u0 u1 W hb (h0:RVp m lo u0 W) (h1:RVp m hi u1 W)=>zEm (m:=m) h0 h1 oP hm0 (hT.below (s.up hb))))<|oc (zO .i64 (qsg lo hi) 0 (decide (qsg lo hi≥0)) iiz iiz rfl rfl)<|zD) fun a w2 s=> ?_
 refine zA rfl ?_
 refine StS.cond s (decide (qsg lo hi≥0)) iiz (fun e=> ?_) (fun e=> ?_)
 ·refine zWf ?_
  replace s:=s.drop [7]
  refine zC 1 ((14, .u (fQN ((0:Int):Rat))):: []) hmix s kI
   (oc (zH zE zS2 (fun u0 W hb (h0:u0= .int .i64 0)=>by rw [show u0=_ from h0];exact zN5 0 dB))<|zD) fun a w3 s=> ?_
  refine zN (CU.agg (fQN ((0:Int):Rat))) ((fQN ((0:Int):Rat)).tS) rfl s kI rfl rfl rfl iiz iiz zU fun a w s=> ?_
  refine zS (uB false) rfl s kI iiz fun a w s=> ?_
  refine zA rfl ?_
  refine zWg ?_
  exact wK s (CU.agg (fQN ((0:Int):Rat))) rfl kI rfl rfl (z5 _) (fun cs v W h1 h2=>by rw [zMd e];exact ⟨_,_,rfl,h1,h2⟩)
 ·refine zWh ?_
  refine zWf ?_
  have so:=s.old;have sg:=s.gr
  refine qL [9] [⟨10,8,27, [.bool false, .slice none 0 0, .slice none 0 0],wH w2 27 (CU.len 3)⟩] 11 ((16, .Z (fRV m x))::(17, .Z (fRV m lo))::(18, .Z (fQN (x - lo)))::(19, .Z (fRV m hi))::(20, .Z (fRV m lo))::(21, .Z (fQN (hi - lo)))::(22, .Z (yU (fQN ((x - lo) / (hi - lo))) (uI (if hi - lo=0 then 30 else 0))))::(15, .Z (yU (fQN ((x - lo) / (hi - lo))) (uI (if hi - lo=0 then 30 else 0))))::(23, .u (fQN ((x - lo) / (hi - lo))))::(24, .u (uI (if hi - lo=0 then 30 else 0)))::(8, .s (wH w2 27 (CU.len 3))):: []) hmix s (fmz ⟨⟨by show 10<11;decide,zGp,⟨_,_,_,rfl⟩,by kernel_rfl,jI (fun _=>rfl) rfl⟩,fnz⟩) kI
   (oc (zI (f:=fRV m x) 3 kI (hz:=zT _ _))<|oc (zI (f:=fRV m lo) 3 kI (hz:=zT _ _))<|oc (zJ zE zM2 (fun u0 u1 W hb (h0:RVp m x u0 W) (h1:RVp m lo u1 W)=>zLL (m:=m) h0 h1 oP hm0 (hT.below (s.up hb))))<|oc (zI (f:=fRV m hi) 3 kI (hz:=zT _ _))<|oc (zI (f:=fRV m lo) 3 kI (hz:=zT _ _))<|oc (zJ zE zM2 (fun u0 u1 W hb (h0:RVp m hi u0 W) (h1:RVp m lo u1 W)=>zLL (m:=m) h0 h1 oP hm0 (hT.below (s.up hb))))<|oc (zJ zE zTj (fun u0 u1 W hb (h0:QNp (x - lo) u0 W) (h1:QNp (hi - lo) u1 W)=>zSi (m:=(2*m+1)) (wD h0 ((q3.sub q1).mono oP)) (wD h1 ((q2.sub q1).mono oP)) oP oP (hT.below (s.up hb))))<|oc zB<|oc (yY (A:=(fQN ((x - lo) / (hi - lo))).tS) (B:=(uI (if hi - lo=0 then 30 else 0)).tS) iiz)<|oc (yX (A:=(fQN ((x - lo) / (hi - lo))).tS) (B:=(uI (if hi - lo=0 then 30 else 0)).tS) iiz)<|oc (zAL (cs:=zR3) kI (jI (fun _=>rfl) rfl))<|zD) fun Q' hQ a w4 s hr hd=> ?_
  obtain ⟨b8,hB8,e8,s⟩:=s.adoptA false 8 (hr (_,_) zGp) sg (fun y hy=> .inl (so y hy))
  refine zN (CU.agg (fQN ((x - lo) / (hi - lo)))) ((fQN ((x - lo) / (hi - lo))).tS) rfl s kI rfl rfl rfl iiz iiz zU fun a w s=> ?_
  refine zS (uI (if hi - lo=0 then 30 else 0)) rfl s kI iiz fun a w s=> ?_
  refine zA rfl (hQ _ _ ?_)
  refine zWf ?_
  replace s:=s.drop [7]
  refine zC 1 ((25, .u (fQN ((x - lo) / (hi - lo)))):: []) hmix s kI
   (oc (zI (f:=fQN ((x - lo) / (hi - lo))) 3 kI (hz:=z5 _))<|zD) fun a w5 s=> ?_
  refine zN (CU.agg (fQN ((x - lo) / (hi - lo)))) ((fQN ((x - lo) / (hi - lo))).tS) rfl s kI rfl rfl rfl iiz iiz zU fun a w s=> ?_
  refine zS (uB true) rfl s kI iiz fun a w s=> ?_
  refine zA rfl ?_
  refine zWg ?_
  exact wK s (CU.agg (fQN ((x - lo) / (hi - lo)))) rfl kI rfl rfl (z5 _) (fun cs v W h1 h2=>by rw [zMe e];exact ⟨_,_,rfl,h1,h2⟩)
theorem zMA {m:Nat} {W:Wm} {u v:Wn} {l:V2} {t:Rat} (h1:(fPV m l).p u W) (h2:RVp (4*m+2) t v W) (hm:m<=100) (hm0:0<m) (hT:Tab W):Calls prog 132 #[u,v] W (Ret W (fQN (l.1+t*(l.2 - l.1))).tS):=by
 have hl:=zHt hm0 h1
 have ht:=h2.qb oP
 refine z9 [(fPV m l).tS,(fRV (4*m+2) t).tS] func132 rfl kI ⟨h1,h2,trivial⟩ fun a s=> ?_
 refine zWf ?_
 refine zC 0 [] hmix s kI
  zD fun a w1 s=> ?_
 refine yD (CU.agg (fPV m l)) rfl s kI (fun v W h=>zAB h) fun b2 a w s=> ?_
 refine yD (CU.agg (fRV (4*m+2) t)) rfl s kI (fun v W h=>y6 h) fun b3 a w s=> ?_
 refine z4 (CU.len 3) (cs:=zR3) kI rfl s kI (fun W=>rfl) rfl fun b4 a w s=> ?_
 refine zA rfl ?_
 refine zWf ?_
 refine yC [] 12 ((5, .X (fPV m l) 0)::(6, .Z (fRV m ((l).1)))::(7, .Z (fRV (4*m+2) t))::(8, .X (fPV m l) 3)::(9, .Z (fRV m ((l).2)))::(10, .X (fPV m l) 0)::(11, .Z (fRV m ((l).1)))::(12, .Z (fQN (l.2 - l.1)))::(13, .s (SF.row 3 (rvs (4*m+2) [t,(l.2 - l.1)])))::(14, .Z (fQN (t*(l.2 - l.1))))::(15, .s (SF.row 3 (rvs (6*m+3) [(l).1,(t*(l.2 - l.1))])))::(16, .u (fQN ((l).1+(t*(l.2 - l.1))))):: []) hmix s kI
  (oc (zK (C:=cg (fPV m l)) 0 kI)<|oc (yB (C:=cg (fPV m l)) (k:=0) 3 kI (h:=zFM))<|oc (zI (f:=fRV (4*m+2) t) 3 kI (hz:=zT _ _))<|oc (zK (C:=cg (fPV m l)) 3 kI)<|oc (yB (C:=cg (fPV m l)) (k:=3) 3 kI (h:=zH6))<|oc (zK (C:=cg (fPV m l)) 0 kI)<|oc (yB (C:=cg (fPV m l)) (k:=0) 3 kI (h:=zFM))<|oc (zJ zE zM2 (fun u0 u1 W hb (h0:RVp m ((l).2) u0 W) (h1:RVp m ((l).1) u1 W)=>zLL (m:=m) h0 h1 oP hm0 (hT.below (s.up hb))))<|oc (yK (fun u v W (hu:RVp (4*m+2) t u W) (hv:QNp (l.2 - l.1) v W)=>zC3 hu (wD hv (QB.mono (zCm hl.2 hl.1) (m':=(4*m+2)) (by first|omega|decide)))))<|oc (zH zE zTi (fun u0 W hb (h0:(SF.row 3 (rvs (4*m+2) [t,(l.2 - l.1)])).p u0 W)=>zQJ (m:=(4*m+2)) (p:=t) (q:=(l.2 - l.1)) (zLw _ _ h0) ht ((hl.2.sub hl.1).mono oP) oP (hT.below (s.up hb))))<|oc (yK (fun u v W (hu:RVp m ((l).1) u W) (hv:QNp (t*(l.2 - l.1)) v W)=>zC3 (RVp.mono hu (m':=(6*m+3)) (by first|omega|decide)) (wD hv (zIA ht (zCm hl.2 hl.1)))))<|oc (zH zE zPR (fun u0 W hb (h0:(SF.row 3 (rvs (6*m+3) [(l).1,(t*(l.2 - l.1))])).p u0 W)=>zLK (m:=6*m+3) (p:=l.1) (q:=t*(l.2 - l.1)) (zLw _ _ h0) (hl.1.mono oP) ((ht.mul (hl.2.sub hl.1)).mono oP) oP (hT.below (s.up hb))))<|zD) fun Q' hQ a w2 s=> ?_
 refine zN (CU.agg (fQN ((l).1+(t*(l.2 - l.1))))) ((fQN ((l).1+(t*(l.2 - l.1)))).tS) rfl s kI rfl rfl rfl iiz iiz zU fun a w s=> ?_
 refine zA rfl (hQ _ _ ?_)
 refine zWg ?_
 exact wI s (CU.agg (fQN (l.1+t*(l.2 - l.1)))) rfl kI rfl rfl (z5 _) (fun cs W h=>h)
theorem zSR {m:Nat} {W:Wm} {u v z l:Wn} {lo hi x:Rat} {L:List V2} (h1:RVp m lo u W) (h2:RVp m hi v W) (h3:RVp m x z W) (hl:(SF.row 6 (pvs m L)).p l W) (hm:m<=100) (hm0:0<m) (hn:L.length<=1000000) (hT:Tab W):Calls prog 111 #[u,v,z,l] W (Ret W (wM W 27 3 (qls (jN lo hi x L)))):=by
 have q1:=h1.qb hm0
 have q2:=h2.qb hm0
 have q3:=h3.qb hm0
 refine z9 [(fRV m lo).tS,(fRV m hi).tS,(fRV m x).tS,(UF.eq l).tS] func111 rfl kI ⟨h1,h2,h3,rfl,trivial⟩ fun a s=> ?_
 replace s:=s.renew [(0, .u (fRV m lo)),(1, .u (fRV m hi)),(2, .u (fRV m x)),(3, .u (UF.eq l))] (fmz ⟨.inr ⟨_,rfl, .head _⟩,fmz ⟨.inr ⟨_,rfl,mz1⟩,fmz ⟨.inr ⟨_,rfl,mz2⟩,fmz ⟨.inr ⟨_,rfl,mz3⟩,fnz⟩⟩⟩⟩)
 refine zWf ?_
 refine zC 0 [] hmix s kI
  zD fun a w1 s=> ?_
 refine yD (CU.agg (fRV m lo)) rfl s kI (fun v W h=>y6 h) fun b4 a w s=> ?_
 refine yD (CU.agg (fRV m hi)) rfl s kI (fun v W h=>y6 h) fun b5 a w s=> ?_
 refine yD (CU.agg (fRV m x)) rfl s kI (fun v W h=>y6 h) fun b6 a w s=> ?_
 refine zS (UF.eq (.slice none 0 0)) rfl s kI iiz fun a w s=> ?_
 refine zA rfl ?_
 refine zWf ?_
 cases hc:decide (qsg lo hi≥0)
 ·refine zC 7 ((14, .Z (fRV m lo))::(15, .Z (fRV m hi))::(16, .Z (fRV m x))::(17, .Z (yU (fQN ((x - lo) / (hi - lo))) (uB true)))::(13, .Z (yU (fQN ((x - lo) / (hi - lo))) (uB true)))::(18, .u (fQN ((x - lo) / (hi - lo))))::(19, .u (uB true)):: []) hmix s kI
   (oc (zI (f:=fRV m lo) 3 kI (hz:=zT _ _))<|oc (zI (f:=fRV m hi) 3 kI (hz:=zT _ _))<|oc (zI (f:=fRV m x) 3 kI (hz:=zT _ _))<|oc (zBK zE zPS (fun u0 u1 u2 W hb (h0:RVp m lo u0 W) (h1:RVp m hi u1 W) (h2:RVp m x u2 W)=>(zMx (m:=m) h0 h1 h2 hm hm0 (hT.below (s.up hb))).mono (wF (fun v W h=>by rw [zMe hc] at h;exact h))))<|oc zB<|oc (yY (A:=(fQN ((x - lo) / (hi - lo))).tS) (B:=(uB true).tS) iiz)<|oc (yX (A:=(fQN ((x - lo) / (hi - lo))).tS) (B:=(uB true).tS) iiz)<|zD) fun a w2 s=> ?_
  refine z4 (CU.len 3) (cs:=zR3) kI rfl s kI (fun W=>rfl) rfl fun b9 a w s=> ?_
  refine zN (CU.agg (fQN ((x - lo) / (hi - lo)))) ((fQN ((x - lo) / (hi - lo))).tS) rfl s kI rfl rfl rfl iiz iiz zU fun a w s=> ?_
  refine zS (uB true) rfl s kI iiz fun a w s=> ?_
  refine zA rfl ?_
  refine zWf ?_
  refine zWf ?_
  refine zC 2 ((20, .Z (uB true))::(21, .u (uB false)):: []) hmix s kI
   (oc zB<|oc (zCA true iiz (fun _=>rfl))<|zD) fun a w3 s=> ?_
  refine zA rfl ?_
  refine StS.cond s false iiz (fun e=>by cases e) (fun e=> ?_)
  refine zWh ?_
  refine zWf ?_
  refine zWf ?_
  refine zC 3 ((22, .u (UF.eq l))::(23, .u (uI ((pvs m L).length:Int)))::(24, .u (uI 0)):: []) hmix s kI
   (oc zB<|oc (y8 (z:=6) (Cs:=pvs m L) kI (fun v W hb h=>(yT hl h (s.up hb))) (fun _=>rfl))<|oc zB<|zD) fun a w4 s=> ?_
  refine zA rfl ?_
  refine zWj ?_
  obtain ⟨base,hbase⟩: ∃b,b=w4.heap.size:=⟨_,rfl⟩
  have hb0:W.heap.size<=base:=by rw [hbase];exact s.gr.size
  have hsz0:base<=w4.heap.size:=by rw [hbase];exact zWr _
  replace s:StS _ _ _ [⟨9,27,CU.agg (fQN ((x - lo) / (hi - lo))),b9,true⟩,⟨6,27,CU.agg (fRV m x),b6,true⟩,⟨5,27,CU.agg (fRV m hi),b5,true⟩,⟨4,27,CU.agg (fRV m lo),b4,true⟩] _ _ _ _:=s.freeze
  have hbx9:b9<base:=by rw [hbase];exact s.old _ (.head _)
  have hbx6:b6<base:=by rw [hbase];exact s.old _ mz1
  have hbx5:b5<base:=by rw [hbase];exact s.old _ mz2
  have hbx4:b4<base:=by rw [hbase];exact s.old _ mz3
  refine zBO (fun (p:Nat×Wn) w=>p.1<=L.length/\base<=w.heap.size/\zAW w base 27 3 p.2 (qls ((L.take p.1).map (zDn lo hi x)))) (fun p=> [(22, .u (UF.eq l)),(23, .u (uI ((pvs m L).length:Int))),(8, .u (UF.eq (p.2))),(24, .u (uI (p.1:Int)))]) (fun p=>L.length - p.1) (0, .slice none 0 0) (⟨zWo _,hsz0,zAW.nil _ _ _ _⟩) (s.keepK _ (fmz ⟨.head _,fmz ⟨mz1,fmz ⟨mz7,fmz ⟨mz2,fnz⟩⟩⟩⟩)) fun p a w hI s=> ?_
  have s0:=s
  have hlw:=(SF.row 6 (pvs m L)).st _ _ _ hl s0.below
  have hT0:=hT
  have hT:=hT0.below s0.below
  replace s:=s.reb rfl [(22, .u (UF.eq l)),(23, .u (uI ((pvs m L).length:Int))),(8, .u (UF.eq (p.2))),(24, .u (uI (p.1:Int)))] (fmz ⟨.inl (.head _),fmz ⟨.inl mz1,fmz ⟨.inl mz2,fmz ⟨.inl mz3,fnz⟩⟩⟩⟩)
  refine zWf ?_
  refine zC 1 ((25, .u (uB (decide ((p.1:Int)<((pvs m L).length:Int))))):: []) hmix s kI
   (oc (zO .i64 (p.1:Int) ((pvs m L).length:Int) (decide ((p.1:Int)<((pvs m L).length:Int))) iiz iiz rfl rfl)<|zD) fun a w5 s=> ?_
  refine zA rfl ?_
  refine zWf ?_
  refine StS.cond s (decide ((p.1:Int)<((pvs m L).length:Int))) iiz (fun e=> ?_) (fun e=> ?_)
  ·have hk:p.1<L.length:=by have:=zWi e;simp at this;omega
   refine zWh ?_
   refine zWf ?_
   refine zWj ?_
   refine zWf ?_
   refine zC 2 ((26, .Y (fPV m (at_ L p.1)))::(27, .u (fPV m (at_ L p.1))):: []) hmix s kI
    (oc (zZ (z:=6) (Cs:=pvs m L) (i:=p.1) (C:=CU.agg (fPV m (at_ L p.1))) kI (zDa hk) (fun v W hb h=>(yT hlw h (s.up hb))) iiz)<|oc (zI (f:=fPV m (at_ L p.1)) 6 kI (hz:=jF _ _))<|zD) fun a w6 s=> ?_
   refine z4 (CU.len 6) (cs:=zP6) kI rfl s kI (fun W=>rfl) rfl fun b12 a w s=> ?_
   refine zN (CU.agg (fPV m (at_ L p.1))) ((fPV m (at_ L p.1)).tS) rfl s kI rfl rfl rfl iiz iiz zBo fun a w s=> ?_
   refine zA rfl ?_
   refine zA8 5 ((28, .u (UF.eq (p.2)))::(29, .Z (fPV m (at_ L p.1)))::(30, .Z (fQN ((x - lo) / (hi - lo))))::(31, .Z (fQN ((zDn lo hi x) (at_ L p.1))))::(32, .s (SF.row 3 (qls [((zDn lo hi x) (at_ L p.1))]))):: []) s kI
    (oc zB<|oc (zI (f:=fPV m (at_ L p.1)) 6 kI (hz:=jF _ _))<|oc (zI (f:=fQN ((x - lo) / (hi - lo))) 3 kI (hz:=z5 _))<|oc (zJ zE zTm (fun u0 u1 W hb (h0:(fPV m (at_ L p.1)).p u0 W) (h1:QNp ((x - lo) / (hi - lo)) u1 W)=>zMA (m:=m) (l:=at_ L p.1) (t:=((x - lo) / (hi - lo))) h0 (wD h1 (zD9 q1 q2 q3)) hm hm0 (hT.below (s.up hb))))<|oc (qB (fun u W (hu:QNp ((zDn lo hi x) (at_ L p.1)) u W)=>zI9 (jZ _) hu))<|zD) fun a w7 s hr=> ?_
   refine zFw (qls [((zDn lo hi x) (at_ L p.1))]) s0 (s.keepK [(28, .u (UF.eq (p.2))),(27, .u (fPV m (at_ L p.1))),(25, .u (uB (decide ((p.1:Int)<((pvs m L).length:Int))))),(22, .u (UF.eq l)),(23, .u (uI ((pvs m L).length:Int))),(8, .u (UF.eq (p.2))),(24, .u (uI (p.1:Int)))] (fmz ⟨.head _,fmz ⟨mz1,fmz ⟨mz2,fmz ⟨mz3,fmz ⟨mz4,fmz ⟨mz5,fmz ⟨mz6,fnz⟩⟩⟩⟩⟩⟩⟩)) hb0 hI.2 rfl kI kI kI (s.fct (.tmp 28)) (hr (_,_) mz4) (zBY _) (by simp;omega) (fun q hq hr=>by rcases zWl.1 hq with rfl|hq;cases hr;rcases zWl.1 hq with rfl|hq;exact hbx9;rcases zWl.1 hq with rfl|hq;exact hbx6;rcases zWl.1 hq with rfl|hq;exact hbx5;rcases zWl.1 hq with rfl|hq;exact hbx4;cases hq) fun v' a w hI' s=> ?_
   have s1:=s
   replace s:StS _ _ _ [⟨12,132,CU.agg (fPV m (at_ L p.1)),b12,true⟩,⟨9,27,CU.agg (fQN ((x - lo) / (hi - lo))),b9,true⟩,⟨6,27,CU.agg (fRV m x),b6,true⟩,⟨5,27,CU.agg (fRV m hi),b5,true⟩,⟨4,27,CU.agg (fRV m lo),b4,true⟩] _ _ _ _:=s.freeze
   replace s:=s.reb rfl [(33, .u (UF.eq v')),(28, .u (UF.eq (p.2))),(27, .u (fPV m (at_ L p.1))),(25, .u (uB (decide ((p.1:Int)<((pvs m L).length:Int))))),(22, .u (UF.eq l)),(23, .u (uI ((pvs m L).length:Int))),(8, .u (UF.eq (p.2))),(24, .u (uI (p.1:Int)))] (fmz ⟨.inl (.head _),fmz ⟨.inl mz1,fmz ⟨.inl mz2,fmz ⟨.inl mz3,fmz ⟨.inl mz4,fmz ⟨.inl mz5,fmz ⟨.inl mz6,fmz ⟨.inl mz7,fnz⟩⟩⟩⟩⟩⟩⟩⟩)
   replace s:=s.drop [8]
   refine zS (UF.eq v') rfl s kI iiz fun a w s=> ?_
   refine zA rfl ?_
   refine zR 1 ((34, .u (uI ((p.1+1:Nat):Int))):: []) s kI
    (oc (yM .i64 (p.1:Int) 1 ((p.1+1:Nat):Int) iiz iiz (wrap64 _ _ oP oP))<|zD) fun a w8 s=> ?_
   replace s:=s.drop [24]
   refine zC0 (uI ((p.1+1:Nat):Int)) rfl s kI zB kI fun a w s=> ?_
   refine zA rfl ?_
   replace s:=s.popB
   have hbw:=s.below
   replace s:=s1.back (s.keepK [(24, .u (uI ((p.1+1:Nat):Int))),(34, .u (uI ((p.1+1:Nat):Int))),(8, .u (UF.eq v')),(33, .u (UF.eq v')),(28, .u (UF.eq (p.2))),(27, .u (fPV m (at_ L p.1))),(25, .u (uB (decide ((p.1:Int)<((pvs m L).length:Int))))),(22, .u (UF.eq l)),(23, .u (uI ((pvs m L).length:Int)))] (fmz ⟨.head _,fmz ⟨mz1,fmz ⟨mz2,fmz ⟨mz3,fmz ⟨mz4,fmz ⟨mz5,fmz ⟨mz6,fmz ⟨mz7,fmz ⟨mz8,fnz⟩⟩⟩⟩⟩⟩⟩⟩⟩)) rfl
   exact ⟨(p.1+1,v'),(by show L.length - (p.1+1)<L.length - p.1;omega),⟨hk,zWq hI'.1 hbw.size,by rw [<-zHr hk (zDn lo hi x)];exact hI'.2.below hbw⟩,s.keepK _ (fmz ⟨mz7,fmz ⟨mz8,fmz ⟨mz2,fmz ⟨.head _,fnz⟩⟩⟩⟩)⟩
  ·have hk:p.1=L.length:=by have h7:=zWk e;have h8:=hI.1;simp at h7;omega
   refine zWm ?_
   refine zWf ?_
   refine zR 1 ((35, .u (UF.eq (p.2))):: []) s kI
    (oc zB<|zD) fun a w9 s=> ?_
   replace s:=s.drop [8]
   refine zS (UF.eq (p.2)) rfl s kI iiz fun a w s=> ?_
   refine zA rfl ?_
   refine zWg ?_
   exact StS.resN s s0.below (t:=8) rfl (by rw [s.val (.head _),zMO hc];have:=(hI.2.2.below s.below).mono hb0;rw [hk,List.take_length] at this;exact this)
 ·refine zC 7 ((14, .Z (fRV m lo))::(15, .Z (fRV m hi))::(16, .Z (fRV m x))::(17, .Z (yU (fQN ((0:Int):Rat)) (uB false)))::(13, .Z (yU (fQN ((0:Int):Rat)) (uB false)))::(18, .u (fQN ((0:Int):Rat)))::(19, .u (uB false)):: []) hmix s kI
   (oc (zI (f:=fRV m lo) 3 kI (hz:=zT _ _))<|oc (zI (f:=fRV m hi) 3 kI (hz:=zT _ _))<|oc (zI (f:=fRV m x) 3 kI (hz:=zT _ _))<|oc (zBK zE zPS (fun u0 u1 u2 W hb (h0:RVp m lo u0 W) (h1:RVp m hi u1 W) (h2:RVp m x u2 W)=>(zMx (m:=m) h0 h1 h2 hm hm0 (hT.below (s.up hb))).mono (wF (fun v W h=>by rw [zMd hc] at h;exact h))))<|oc zB<|oc (yY (A:=(fQN ((0:Int):Rat)).tS) (B:=(uB false).tS) iiz)<|oc (yX (A:=(fQN ((0:Int):Rat)).tS) (B:=(uB false).tS) iiz)<|zD) fun a w10 s=> ?_
  refine z4 (CU.len 3) (cs:=zR3) kI rfl s kI (fun W=>rfl) rfl fun b9 a w s=> ?_
  refine zN (CU.agg (fQN ((0:Int):Rat))) ((fQN ((0:Int):Rat)).tS) rfl s kI rfl rfl rfl iiz iiz zU fun a w s=> ?_
  refine zS (uB false) rfl s kI iiz fun a w s=> ?_
  refine zA rfl ?_
  refine zWf ?_
  refine zWf ?_
  refine zC 2 ((20, .Z (uB false))::(21, .u (uB true)):: []) hmix s kI
   (oc zB<|oc (zCA false iiz (fun _=>rfl))<|zD) fun a w11 s=> ?_
  refine zA rfl ?_
  refine StS.cond s true iiz (fun e=> ?_) (fun e=>by cases e)
  refine zWf ?_
  replace s:=s.drop [8]
  refine zC 1 ((8, .u (UF.eq (.slice none 0 0))):: []) hmix s kI
   (oc zF<|zD) fun a w12 s=> ?_
  refine zA rfl ?_
  refine zWg ?_
  exact StS.resN s (zWw _ _) (t:=8) rfl (by rw [s.val (.head _),zMN hc];exact zAW.nil _ _ _ _)
end Go.Proofs.Wd

namespace Go.Proofs.Wd
open Tryz
set_option maxRecDepth 100000
set_option maxHeartbeats 1000000
open Go.RowKit Lb
theorem vI {w0 w1:Wm} {K:List (Nat×KF)} {B:List Bx} {n:Nat} {a:Act} {w:Wm} {P:Program} (h:St w1 K B n [] a w) (hb:Below w0.heap.size w0 w1) {fn:Func} (f g:UF) {t r:Nat} (hr:fn.results=#[.tmp t, .tmp r]) (h1: ∀v W,(zAc K B t).p v W->f.p v W) (h2: ∀v W,(zAc K B r).p v W->g.p v W):bodyPost P fn (Ret w0 (yU f g).tS) .ret a w:=by
 refine ⟨h.nd, .tuple #[a.tmps.getD t undef,a.tmps.getD r undef], ?_,⟨_,rfl,⟨_,_,rfl,h1 _ _ (h.at.sl t),h2 _ _ (h.at.sl r)⟩,hb.trans (h.gr.below.mono hb.size)⟩⟩
 simp [results,hr]
theorem zGz (lo hi x:Rat) (L:List V2):(jN lo hi x L).length<=L.length:=by
 unfold jN
 split<;>simp
theorem zRH {lo hi x:Rat} {L:List V2} {m:Nat} (h1:QB lo m) (h2:QB hi m) (h3:QB x m) (hl: ∀p,p∈L->QB p.1 m/\QB p.2 m): ∀q,q∈jN lo hi x L->QB q (7*m+4):=fun q hq=>by
 unfold jN at hq
 split at hq
 ·cases hq
 ·obtain ⟨p,hp,rfl⟩:=List.mem_map.1 hq
  exact zSY h1 h2 h3 (hl p hp)
theorem zRx {m:Nat} {W:Wm} {u v z l:Wn} {lo hi:Rat} {p0:V2} {L:List V2} (h1:RVp m lo u W) (h2:RVp m hi v W) (h3:(fPV m p0).p z W) (hl:(SF.row 6 (pvs m L)).p l W) (hm:m<=100) (hm0:0<m) (hn:L.length<=1000000) (hT:Tab W):Calls prog 80 #[u,v,z,l] W (Ret W (yU (fI (zAK (jN lo hi p0.1 L) p0.2).1) (fB (zAK (jN lo hi p0.1 L) p0.2).2)).tS):=by
 have q1:=h1.qb hm0
 have q2:=h2.qb hm0
 have q3:=zHt hm0 h3
 have hqL:=zSw hm0 hl
 have hqH:=zRH q1 q2 q3.1 hqL
 obtain ⟨H,hH⟩: ∃H,H=jN lo hi p0.1 L:=⟨_,rfl⟩
 rw [<-hH] at hqH
 have hHn:H.length<=1000000:=by have:=zGz lo hi p0.1 L;rw [hH];omega
 refine z9 [(fRV m lo).tS,(fRV m hi).tS,(fPV m p0).tS,(UF.eq l).tS] func80 rfl kI ⟨h1,h2,h3,rfl,trivial⟩ fun a s=> ?_
 replace s:=s.renew [(0, .u (fRV m lo)),(1, .u (fRV m hi)),(2, .u (fPV m p0)),(3, .u (UF.eq l))] (fmz ⟨.inr ⟨_,rfl, .head _⟩,fmz ⟨.inr ⟨_,rfl,mz1⟩,fmz ⟨.inr ⟨_,rfl,mz2⟩,fmz ⟨.inr ⟨_,rfl,mz3⟩,fnz⟩⟩⟩⟩)
 refine zWf ?_
 refine zC 0 [] hmix s kI
  zD fun a w1 s=> ?_
 refine yD (CU.agg (fRV m lo)) rfl s kI (fun v W h=>y6 h) fun b4 a w s=> ?_
 refine yD (CU.agg (fRV m hi)) rfl s kI (fun v W h=>y6 h) fun b5 a w s=> ?_
 refine yD (CU.agg (fPV m p0)) rfl s kI (fun v W h=>zAB h) fun b6 a w s=> ?_
 refine zS (uI 0) rfl s kI iiz fun a w s=> ?_
 refine zS (uB false) rfl s kI iiz fun a w s=> ?_
 refine zA rfl ?_
 refine (zWu (n:=0)).2 (zWx ((zWu (n:=0)).1 ?_))
 refine zWf ?_
 replace s:=s.drop [8]
 refine zC 1 ((8, .u (uI (-1))):: []) hmix s kI
  (oc zF<|zD) fun a w2 s=> ?_
 refine zA rfl ?_
 refine zWf ?_
 refine wpIn_label ?_
 refine zWf ?_
 refine zWf ?_
 refine qZ 7 ((13, .Z (fRV m lo))::(14, .Z (fRV m hi))::(15, .X (fPV m p0) 0)::(16, .Z (fRV m ((p0).1)))::(17, .Z (UF.eq l))::(18, .s (SF.row 3 (rvs (7*m+4) H)))::(19, .u (uI ((rvs (7*m+4) H).length:Int))):: []) hmix s kI
  (oc (zI (f:=fRV m lo) 3 kI (hz:=zT _ _))<|oc (zI (f:=fRV m hi) 3 kI (hz:=zT _ _))<|oc (zK (C:=cg (fPV m p0)) 0 kI)<|oc (yB (C:=cg (fPV m p0)) (k:=0) 3 kI (h:=zFM))<|oc zB<|oc (zAi zE zTp (fun u0 u1 u2 u3 W hb (h0:RVp m lo u0 W) (h1:RVp m hi u1 W) (h2:RVp m ((p0).1) u2 W) (h3:u3=l)=>(zSR (m:=m) h0 h1 h2 (yT hl h3 (s.up hb)) hm hm0 hn (hT.below (s.up hb))).mono (wF (fun v W h=>by rw [<-hH] at h;exact zIt hqH _ _ (zAs _ _ h)))))<|oc (zDc (z:=3) (Cs:=rvs (7*m+4) H) kI iiz (fun _=>rfl))<|zD) fun a w3 s hr=> ?_
 obtain ⟨v18,e18⟩: ∃v,a.tmps.getD 18 undef=v:=⟨_,rfl⟩
 have hv18:(SF.row 3 (rvs (7*m+4) H)).p v18 w3:=e18▸(hr (_,_) mz5)
 replace s:=s.learn 18 v18 e18
 have hb0:=s.below
 have hT0:=hT
 have hT:=hT0.below hb0
 replace s:StS _ _ _ [⟨6,36,CU.agg (fPV m p0),b6,true⟩,⟨5,27,CU.agg (fRV m hi),b5,true⟩,⟨4,27,CU.agg (fRV m lo),b4,true⟩] _ _ _ _:=s.freeze
 replace s:=s.reb rfl [(18, .u (UF.eq v18)),(19, .u (uI ((rvs (7*m+4) H).length:Int))),(8, .u (uI (-1))),(9, .u (uB false)),(0, .u (fRV m lo)),(1, .u (fRV m hi)),(2, .u (fPV m p0)),(3, .u (UF.eq l))] (fmz ⟨.inl (.head _),fmz ⟨.inl mz1,fmz ⟨.inl mz2,fmz ⟨.inl mz3,fmz ⟨.inl mz4,fmz ⟨.inl mz5,fmz ⟨.inl mz6,fmz ⟨.inl mz7,fnz⟩⟩⟩⟩⟩⟩⟩⟩)
 refine zC0 (uI 0) rfl s kI zB kI fun a w s=> ?_
 refine zA rfl ?_
 refine zWj ?_
 refine q8 (fun p=>p.1<=H.length/\p.2=zA4 H p0.2 p.1/\ ∀j,j<p.1->(qsg (qAt H j) p0.2==0)=false) (fun p=> [(18, .u (UF.eq v18)),(19, .u (uI ((rvs (7*m+4) H).length:Int))),(9, .u (uB false)),(20, .u (uI (p.1:Int))),(8, .u (uI ((p.2:Int) - 1)))]) (fun p=>H.length - p.1) ((0,0):Nat×Nat) (⟨zWo _,rfl,fun j hj=>absurd hj (zWs _)⟩) (s.keepK _ (fmz ⟨mz1,fmz ⟨mz2,fmz ⟨mz4,fmz ⟨.head _,fmz ⟨mz3,fnz⟩⟩⟩⟩⟩)) fun p a w hx s=> ?_
 have hcl:=zGG H p0.2 p.1
 have hlz:(rvs (7*m+4) H).length=H.length:=by simp
 refine zWf ?_
 refine zC 1 ((21, .u (uB (decide ((p.1:Int)<((rvs (7*m+4) H).length:Int))))):: []) hmix s kI
  (oc (zO .i64 (p.1:Int) ((rvs (7*m+4) H).length:Int) (decide ((p.1:Int)<((rvs (7*m+4) H).length:Int))) iiz iiz rfl rfl)<|zD) fun a w4 s=> ?_
 refine zA rfl ?_
 refine zWf ?_
 refine StS.cond s (decide ((p.1:Int)<((rvs (7*m+4) H).length:Int))) iiz (fun e=> ?_) (fun e=> ?_)
 ·have hk:p.1<H.length:=by have h7:=zWi e;rw [hlz] at h7;omega
  refine zWh ?_
  refine zWf ?_
  refine zWj ?_
  refine zWf ?_
  refine zC 3 ((22, .u (uI (p.1:Int)))::(23, .Y (fRV (7*m+4) (qAt H p.1)))::(24, .u (fRV (7*m+4) (qAt H p.1))):: []) hmix s kI
   (oc zB<|oc (zZ (z:=3) (Cs:=rvs (7*m+4) H) (i:=p.1) (C:=CU.agg (fRV (7*m+4) (qAt H p.1))) kI (zEl hk) (fun v W hb h=>(yT hv18 h (s.up hb))) iiz)<|oc (zI (f:=fRV (7*m+4) (qAt H p.1)) 3 kI (hz:=zT _ _))<|zD) fun a w5 s=> ?_
  refine z4 (CU.len 3) (cs:=zR3) kI rfl s kI (fun W=>rfl) rfl fun b11 a w s=> ?_
  refine zS (uI (p.1:Int)) rfl s kI iiz fun a w s=> ?_
  refine zN (CU.agg (fRV (7*m+4) (qAt H p.1))) ((fRV (7*m+4) (qAt H p.1)).tS) rfl s kI rfl rfl rfl iiz iiz zCP fun a w s=> ?_
  refine zA rfl ?_
  refine zWf ?_
  refine zC 5 ((25, .Z (fRV (7*m+4) (qAt H p.1)))::(26, .X (fPV m p0) 3)::(27, .Z (fRV m ((p0).2)))::(28, .Z (uI (qsg (qAt H p.1) p0.2)))::(12, .u (uI (qsg (qAt H p.1) p0.2))):: []) hmix s kI
   (oc (zI (f:=fRV (7*m+4) (qAt H p.1)) 3 kI (hz:=zT _ _))<|oc (zK (C:=cg (fPV m p0)) 3 kI)<|oc (yB (C:=cg (fPV m p0)) (k:=3) 3 kI (h:=zH6))<|oc (zJ zE zHQ (fun u0 u1 W hb (h0:RVp (7*m+4) (qAt H p.1) u0 W) (h1:RVp m ((p0).2) u1 W)=>zEm (m:=(7*m+4)) h0 (RVp.mono h1 (m':=(7*m+4)) oP) oP oP (hT.below (s.up hb))))<|oc zF<|zD) fun a w6 s=> ?_
  refine zA rfl ?_
  refine zWj ?_
  refine zWf ?_
  refine zC 3 ((30, .Z (uI (qsg (qAt H p.1) p0.2)))::(31, .Z (uB (qsg (qAt H p.1) p0.2==0)))::(29, .u (uB (qsg (qAt H p.1) p0.2==0))):: []) hmix s kI
   (oc zB<|oc (zO .i64 (qsg (qAt H p.1) p0.2) 0 (qsg (qAt H p.1) p0.2==0) iiz iiz rfl rfl)<|oc zF<|zD) fun a w7 s=> ?_
  refine zA rfl ?_
  refine StS.cond s (qsg (qAt H p.1) p0.2==0) iiz (fun e=> ?_) (fun e=> ?_)
  ·refine zWf ?_
   replace s:=s.drop [8,9]
   refine zC 3 ((32, .Z (uI (p.1:Int)))::(8, .u (uI (p.1:Int)))::(9, .u (uB true)):: []) hmix s kI
    (oc zB<|oc zF<|oc zF<|zD) fun a w8 s=> ?_
   refine zA rfl ?_
   refine zWm ?_
   refine zWf ?_
   refine zR 2 ((39, .u (uI (p.1:Int)))::(40, .u (uB true)):: []) s kI
    (oc zB<|oc zB<|zD) fun a w9 s=> ?_
   replace s:=s.drop [8]
   refine zS (uI (p.1:Int)) rfl s kI iiz fun a w s=> ?_
   replace s:=s.drop [9]
   refine zS (uB true) rfl s kI iiz fun a w s=> ?_
   refine zA rfl ?_
   refine zWg ?_
   refine vI s hb0 (fI (zAK (jN lo hi p0.1 L) p0.2).1) (fB (zAK (jN lo hi p0.1 L) p0.2).2) (t:=8) (r:=9) rfl (fun v W h=> ?_) (fun v W h=> ?_)
   ·rw [<-hH,zDx hk hx.2.2 e];exact h
   ·rw [<-hH,zDx hk hx.2.2 e];exact h
  ·have hne:=e
   refine zWf ?_
   refine zC 3 ((34, .Z (uI (qsg (qAt H p.1) p0.2)))::(35, .Z (uB (decide (qsg (qAt H p.1) p0.2<0))))::(33, .u (uB (decide (qsg (qAt H p.1) p0.2<0)))):: []) hmix s kI
    (oc zB<|oc (zO .i64 (qsg (qAt H p.1) p0.2) 0 (decide (qsg (qAt H p.1) p0.2<0)) iiz iiz rfl rfl)<|oc zF<|zD) fun a w10 s=> ?_
   refine zA rfl ?_
   refine StS.cond s (decide (qsg (qAt H p.1) p0.2<0)) iiz (fun e=> ?_) (fun e=> ?_)
   ·refine zR 2 ((36, .Z (uI ((p.2:Int) - 1)))::(37, .u (uI (((p.2+1:Nat):Int) - 1))):: []) s kI
     (oc zB<|oc (yM .i64 ((p.2:Int) - 1) 1 (((p.2+1:Nat):Int) - 1) iiz iiz (by rw [IntKind.wrap_i64];omega))<|zD) fun a w11 s=> ?_
    replace s:=s.drop [8]
    refine zS (uI (((p.2+1:Nat):Int) - 1)) rfl s kI iiz fun a w s=> ?_
    refine zA rfl ?_
    refine zR 1 ((38, .u (uI ((p.1+1:Nat):Int))):: []) s kI
     (oc (yM .i64 (p.1:Int) 1 ((p.1+1:Nat):Int) iiz iiz (wrap64 _ _ oP oP))<|zD) fun a w12 s=> ?_
    replace s:=s.drop [20]
    refine zC0 (uI ((p.1+1:Nat):Int)) rfl s kI zB kI fun a w s=> ?_
    refine zA rfl ?_
    replace s:=s.popB
    exact ⟨(p.1+1,p.2+1),⟨hk,(by show _=zA4 H p0.2 (p.1+1);rw [zJ1 e,hx.2.1]),fun j hj=>by rcases zWn (zWp hj) with h|h;exact hx.2.2 j h;rw [h];exact hne⟩,(by show H.length - (p.1+1)<H.length - p.1;omega),s.keepK _ (fmz ⟨zNx,fmz ⟨zRj,fmz ⟨zSL,fmz ⟨.head _,fmz ⟨mz2,fnz⟩⟩⟩⟩⟩)⟩
   ·refine zWh ?_
    refine zR 1 ((38, .u (uI ((p.1+1:Nat):Int))):: []) s kI
     (oc (yM .i64 (p.1:Int) 1 ((p.1+1:Nat):Int) iiz iiz (wrap64 _ _ oP oP))<|zD) fun a w13 s=> ?_
    replace s:=s.drop [20]
    refine zC0 (uI ((p.1+1:Nat):Int)) rfl s kI zB kI fun a w s=> ?_
    refine zA rfl ?_
    replace s:=s.popB
    exact ⟨(p.1+1,p.2),⟨hk,(by show _=zA4 H p0.2 (p.1+1);rw [zJ3 e,hx.2.1]),fun j hj=>by rcases zWn (zWp hj) with h|h;exact hx.2.2 j h;rw [h];exact hne⟩,(by show H.length - (p.1+1)<H.length - p.1;omega),s.keepK _ (fmz ⟨mz9,fmz ⟨zGp,fmz ⟨zNx,fmz ⟨.head _,fmz ⟨zRj,fnz⟩⟩⟩⟩⟩)⟩
 ·have hk:p.1=H.length:=by have h7:=zWk e;have h8:=hx.1;rw [hlz] at h7;omega
  refine zWm ?_
  refine zWf ?_
  refine zR 2 ((39, .u (uI ((p.2:Int) - 1)))::(40, .u (uB false)):: []) s kI
   (oc zB<|oc zB<|zD) fun a w14 s=> ?_
  replace s:=s.drop [8]
  refine zS (uI ((p.2:Int) - 1)) rfl s kI iiz fun a w s=> ?_
  replace s:=s.drop [9]
  refine zS (uB false) rfl s kI iiz fun a w s=> ?_
  refine zA rfl ?_
  refine zWg ?_
  refine vI s hb0 (fI (zAK (jN lo hi p0.1 L) p0.2).1) (fB (zAK (jN lo hi p0.1 L) p0.2).2) (t:=8) (r:=9) rfl (fun v W h=> ?_) (fun v W h=> ?_)
  ·rw [<-hH,zCr (fun j hj=>hx.2.2 j oP), <-hk, <-hx.2.1];exact h
  ·rw [<-hH,zCr (fun j hj=>hx.2.2 j oP)];exact h
def TC (g:zAb->Bool) (xs:Array Wn) (W:Wm) (R:SF):Prop:= ∃u c,xs=#[u]/\(fCN c).p u W/\R=(fB (g c)).tS
def zRG (g:zAb->Bool) (L:List zAb):Int:=if zPP (fun i=>g (cel L i)) L.length<L.length then ((zPP (fun i=>g (cel L i)) L.length:Nat):Int) else -1
theorem zRF {g:zAb->Bool} {L:List zAb} {k:Nat} (hk:k<L.length) (h0: ∀j,j<k->g (cel L j)=false) (h1:g (cel L k)=true):zRG g L=(k:Int):=by
 unfold zRG
 rw [zMT hk h0 h1,if_pos hk]
theorem zMM {g:zAb->Bool} {L:List zAb} (h0: ∀j,j<L.length->g (cel L j)=false):zRG g L= -1:=by
 unfold zRG
 rw [zJV h0,if_neg (Nat.lt_irrefl _)]
theorem zUd {g:zAb->Bool} {W:Wm} {l f:Wn} {L:List zAb} (hl:(SF.row 9 (ces L)).p l W) (hf:(SF.fn prog (TC g)).p f W) (hn:L.length<=1000000):Calls prog 81 #[l,f] W (Ret W (fI (zRG g L)).tS):=by
 refine z9 [SF.row 9 (ces L),SF.fn prog (TC g)] func81 rfl kI ⟨hl,hf,trivial⟩ fun a s=> ?_
 refine zWf ?_
 refine zC 1 ((4, .u (uI 0)):: []) hmix s kI
  (oc zF<|zD) fun a w1 s=> ?_
 refine zA rfl ?_
 refine zWf ?_
 refine zWf ?_
 refine zC 3 ((6, .s (SF.row 9 (ces L)))::(7, .u (uI ((ces L).length:Int)))::(8, .u (uI 0)):: []) hmix s kI
  (oc zB<|oc (zDc (z:=9) (Cs:=ces L) kI iiz (fun _=>rfl))<|oc zB<|zD) fun a w2 s=> ?_
 refine zA rfl ?_
 refine zWj ?_
 refine q8 (fun k=>k<=L.length/\ ∀j,j<k->g (cel L j)=false) (fun k=> [(0, .o (SF.row 9 (ces L))),(1, .o (SF.fn prog (TC g))),(7, .u (uI ((ces L).length:Int))),(8, .u (uI ((k:Nat):Int)))]) (fun k=>L.length - k) (0:Nat) (⟨zWo _,fun j hj=>absurd hj (zWs _)⟩) (s.keepK _ (fmz ⟨mz3,fmz ⟨mz4,fmz ⟨.head _,fmz ⟨mz1,fnz⟩⟩⟩⟩)) fun k a w hx s=> ?_
 refine zWf ?_
 refine zC 1 ((9, .u (uB (decide ((k:Int)<((ces L).length:Int))))):: []) hmix s kI
  (oc (zO .i64 (k:Int) ((ces L).length:Int) (decide ((k:Int)<((ces L).length:Int))) iiz iiz rfl rfl)<|zD) fun a w3 s=> ?_
 refine zA rfl ?_
 refine zWf ?_
 refine StS.cond s (decide ((k:Int)<((ces L).length:Int))) iiz (fun e=> ?_) (fun e=> ?_)
 ·have hk:k<L.length:=by have:=zWi e;simp at this;omega
  refine zWh ?_
  refine zWf ?_
  refine zWj ?_
  refine zWf ?_
  refine zC 2 ((10, .Z (uI (k:Int)))::(5, .u (uI (k:Int))):: []) hmix s kI
   (oc zB<|oc zF<|zD) fun a w4 s=> ?_
  refine zA rfl ?_
  refine zWf ?_
  refine zC 6 ((11, .s (SF.fn prog (TC g)))::(12, .s (SF.row 9 (ces L)))::(13, .Z (uI (k:Int)))::(14, .Y (fCE ((cel L k).1) ((cel L k).2.1) ((cel L k).2.2.1) (fPN ((cel L k).2.2.2))))::(15, .Z (fCE ((cel L k).1) ((cel L k).2.1) ((cel L k).2.2.1) (fPN ((cel L k).2.2.2))))::(16, .u (uB (g (cel L k)))):: []) hmix s kI
   (oc zB<|oc zB<|oc zB<|oc (zA0 (z:=9) (Cs:=ces L) (i:=k) (C:=CU.agg (fCE ((cel L k).1) ((cel L k).2.1) ((cel L k).2.2.1) (fPN ((cel L k).2.2.2)))) kI (zIO hk) iiz iiz)<|oc (zI (f:=fCE ((cel L k).1) ((cel L k).2.1) ((cel L k).2.2.1) (fPN ((cel L k).2.2.2))) 9 kI (hz:=zTB))<|oc (zSG (TC g) zE iiz (fun u W hb (h:(fCN (cel L k)).p u W)=>⟨u,_,rfl,h,rfl⟩))<|zD) fun a w5 s=> ?_
  refine zA rfl ?_
  refine StS.cond s (g (cel L k)) iiz (fun e=> ?_) (fun e=> ?_)
  ·refine zWf ?_
   refine zC 2 ((17, .Z (uI (k:Int)))::(4, .u (uI (k:Int))):: []) hmix s kI
    (oc zB<|oc zF<|zD) fun a w6 s=> ?_
   refine zA rfl ?_
   refine zWg ?_
   exact wJ s (t:=4) rfl (fun v W h=>by rw [zRF hk hx.2 e];exact h)
  ·refine zWh ?_
   refine zR 1 ((18, .u (uI ((k+1:Nat):Int))):: []) s kI
    (oc (yM .i64 (k:Int) 1 ((k+1:Nat):Int) iiz iiz (wrap64 _ _ oP oP))<|zD) fun a w7 s=> ?_
   replace s:=s.drop [8]
   refine zC0 (uI ((k+1:Nat):Int)) rfl s kI zB kI fun a w s=> ?_
   refine zA rfl ?_
   exact ⟨k+1,⟨hk,fun j hj=>by rcases zWn (zWp hj) with h|h;exact hx.2 j h;rw [h];exact e⟩,(by show L.length - (k+1)<L.length - k;omega),s.keepK _ (fmz ⟨mz5,fmz ⟨mz6,fmz ⟨mz7,fmz ⟨.head _,fnz⟩⟩⟩⟩)⟩
 ·have hk:k=L.length:=by have h7:=zWk e;have h8:=hx.1;simp at h7;omega
  refine zWm ?_
  refine zWf ?_
  refine zC 1 ((4, .u (uI (-1))):: []) hmix s kI
   (oc zF<|zD) fun a w8 s=> ?_
  refine zA rfl ?_
  refine zWg ?_
  exact wJ s (t:=4) rfl (fun v W h=>by rw [zMM (fun j hj=>hx.2 j oP)];exact h)
end Go.Proofs.Wd

namespace Go.Proofs.Wd
open Tryz
set_option maxRecDepth 100000
set_option maxHeartbeats 1000000
open Go.RowKit Lb
section
variable {f g f' g':UF}
theorem zSB (cs:List Wn) (W:Wm) (h:(CU.agg (fPR (fPT f g) (fPT f' g'))).p cs W):0+3<=cs.length/\f.p (.agg ((cs.drop 0).take 3).toArray) W:=by
 obtain ⟨a,b,rfl,l1,l2,h1,_⟩:=zB0 h
 refine ⟨by simp [l1,l2], ?_⟩
 have:=(zFM a W h1).2
 rwa [List.drop_append_of_le_length oP,zWA (by simp;omega)]
theorem zSA (cs:List Wn) (W:Wm) (h:(CU.agg (fPR (fPT f g) (fPT f' g'))).p cs W):6+3<=cs.length/\f'.p (.agg ((cs.drop 6).take 3).toArray) W:=by
 obtain ⟨a,b,rfl,l1,l2,_,h2⟩:=zB0 h
 refine ⟨by simp [l1,l2], ?_⟩
 have:=(zFM b W h2).2
 rwa [show 6=a.length+0 by omega,List.drop_append,List.drop_of_length_le oP,List.nil_append,Nat.add_sub_cancel_left]
end
def zAg (lo hi r:Rat):Rat:=(fun s=>if decide (qsg s lo<0)=true then lo else s) (if decide (qsg r hi>0)=true then hi else r)
theorem zJ6 {lo hi r:Rat} (e1:decide (qsg r hi>0)=true) (e2:decide (qsg hi lo<0)=true):zAg lo hi r=lo:=by
 have h:(if decide (qsg r hi>0)=true then hi else r)=hi:=if_pos e1
 unfold zAg;simp only [h];exact if_pos e2
theorem zJ7 {lo hi r:Rat} (e1:decide (qsg r hi>0)=true) (e2:decide (qsg hi lo<0)=false):zAg lo hi r=hi:=by
 have h:(if decide (qsg r hi>0)=true then hi else r)=hi:=if_pos e1
 unfold zAg;simp only [h];exact if_neg (fun k=>by rw [e2] at k;cases k)
theorem zJ9 {lo hi r:Rat} (e1:decide (qsg r hi>0)=false) (e2:decide (qsg r lo<0)=true):zAg lo hi r=lo:=by
 have h:(if decide (qsg r hi>0)=true then hi else r)=r:=if_neg (fun k=>by rw [e1] at k;cases k)
 unfold zAg;simp only [h];exact if_pos e2
theorem zKa {lo hi r:Rat} (e1:decide (qsg r hi>0)=false) (e2:decide (qsg r lo<0)=false):zAg lo hi r=r:=by
 have h:(if decide (qsg r hi>0)=true then hi else r)=r:=if_neg (fun k=>by rw [e1] at k;cases k)
 unfold zAg;simp only [h];exact if_neg (fun k=>by rw [e2] at k;cases k)
theorem zJ8 {lo hi r:Rat} {m:Nat} (h1:QB lo m) (h2:QB hi m) (h3:QB r m):QB (zAg lo hi r) m:=by
 cases e1:decide (qsg r hi>0)<;>(try cases e2:decide (qsg r lo<0))<;>(try cases e3:decide (qsg hi lo<0))
 all_goals first
  |(rw [zJ6 e1 e3];exact h1)
  |(rw [zJ7 e1 e3];exact h2)
  |(rw [zJ9 e1 e2];exact h1)
  |(rw [zKa e1 e2];exact h3)
def qR (lo hi p:V2):V2:=(zAg lo.1 hi.1 p.1,zAg lo.2 hi.2 p.2)
theorem zHN {m:Nat} {W:Wm} {u v x:Wn} {lo hi r:Rat} (h1:RVp m lo u W) (h2:RVp m hi v W) (h3:RVp m r x W) (hm:m<=2000) (hm0:0<m) (hT:Tab W):Calls prog 52 #[u,v,x] W (Ret W (fQN (zAg lo hi r)).tS):=by
 refine z9 [(fRV m lo).tS,(fRV m hi).tS,(fRV m r).tS] func52 rfl kI ⟨h1,h2,h3,trivial⟩ fun a s=> ?_
 refine zWf ?_
 refine zC 0 [] hmix s kI
  zD fun a w1 s=> ?_
 refine yD (CU.agg (fRV m lo)) rfl s kI (fun v W h=>y6 h) fun b3 a w s=> ?_
 refine yD (CU.agg (fRV m hi)) rfl s kI (fun v W h=>y6 h) fun b4 a w s=> ?_
 refine yD (CU.agg (fRV m r)) rfl s kI (fun v W h=>y6 h) fun b5 a w s=> ?_
 refine z4 (CU.len 3) (cs:=zR3) kI rfl s kI (fun W=>rfl) rfl fun b6 a w s=> ?_
 refine zA rfl ?_
 refine zWf ?_
 refine zWf ?_
 refine zC 4 ((7, .Z (fRV m r))::(8, .Z (fRV m hi))::(9, .Z (uI (qsg r hi)))::(10, .u (uB (decide (qsg r hi>0)))):: []) hmix s kI
  (oc (zI (f:=fRV m r) 3 kI (hz:=zT _ _))<|oc (zI (f:=fRV m hi) 3 kI (hz:=zT _ _))<|oc (zJ zE zHQ (fun u0 u1 W hb (h0:RVp m r u0 W) (h1:RVp m hi u1 W)=>zEm h0 h1 hm hm0 (hT.below (s.up hb))))<|oc (zO .i64 (qsg r hi) 0 (decide (qsg r hi>0)) iiz iiz rfl rfl)<|zD) fun a w2 s=> ?_
 refine zA rfl ?_
 refine StS.cond s (decide (qsg r hi>0)) iiz (fun e=> ?_) (fun e=> ?_)
 ·have e1:=e
  refine zC 1 ((11, .u (fRV m hi)):: []) hmix s kI
   (oc (zI (f:=fRV m hi) 3 kI (hz:=zT _ _))<|zD) fun a w3 s=> ?_
  refine zN (CU.agg (fRV m hi)) ((fRV m hi).tS) rfl s kI rfl rfl rfl (zT _ _) iiz zCP fun a w s=> ?_
  refine zA rfl ?_
  refine zWf ?_
  refine zWf ?_
  refine zC 4 ((12, .Z (fRV m hi))::(13, .Z (fRV m lo))::(14, .Z (uI (qsg hi lo)))::(15, .u (uB (decide (qsg hi lo<0)))):: []) hmix s kI
   (oc (zI (f:=fRV m hi) 3 kI (hz:=zT _ _))<|oc (zI (f:=fRV m lo) 3 kI (hz:=zT _ _))<|oc (zJ zE zHQ (fun u0 u1 W hb (h0:RVp m hi u0 W) (h1:RVp m lo u1 W)=>zEm h0 h1 hm hm0 (hT.below (s.up hb))))<|oc (zO .i64 (qsg hi lo) 0 (decide (qsg hi lo<0)) iiz iiz rfl rfl)<|zD) fun a w4 s=> ?_
  refine zA rfl ?_
  refine StS.cond s (decide (qsg hi lo<0)) iiz (fun e=> ?_) (fun e=> ?_)
  ·refine zC 1 ((16, .u (fRV m lo)):: []) hmix s kI
    (oc (zI (f:=fRV m lo) 3 kI (hz:=zT _ _))<|zD) fun a w5 s=> ?_
   refine zN (CU.agg (fRV m lo)) ((fRV m lo).tS) rfl s kI rfl rfl rfl (zT _ _) iiz zCP fun a w s=> ?_
   refine zA rfl ?_
   refine zWf ?_
   refine zC 2 ((17, .Z (fRV m lo))::(18, .u (fQN lo)):: []) hmix s kI
    (oc (zI (f:=fRV m lo) 3 kI (hz:=zT _ _))<|oc (zH zE zO6 (fun u0 W hb (h0:RVp m lo u0 W)=>zGe (m:=m) h0 hm hm0 (hT.below (s.up hb))))<|zD) fun a w6 s=> ?_
   refine zN (CU.agg (fQN lo)) ((fQN lo).tS) rfl s kI rfl rfl rfl iiz iiz zU fun a w s=> ?_
   refine zA rfl ?_
   refine zWg ?_
   exact wI s (CU.agg (fQN lo)) rfl kI rfl rfl (z5 _) (fun cs W h=>by rw [zJ6 e1 e];exact h)
  ·refine zWh ?_
   refine zWf ?_
   refine zC 2 ((17, .Z (fRV m hi))::(18, .u (fQN hi)):: []) hmix s kI
    (oc (zI (f:=fRV m hi) 3 kI (hz:=zT _ _))<|oc (zH zE zO6 (fun u0 W hb (h0:RVp m hi u0 W)=>zGe (m:=m) h0 hm hm0 (hT.below (s.up hb))))<|zD) fun a w7 s=> ?_
   refine zN (CU.agg (fQN hi)) ((fQN hi).tS) rfl s kI rfl rfl rfl iiz iiz zU fun a w s=> ?_
   refine zA rfl ?_
   refine zWg ?_
   exact wI s (CU.agg (fQN hi)) rfl kI rfl rfl (z5 _) (fun cs W h=>by rw [zJ7 e1 e];exact h)
 ·have e1:=e
  refine zWh ?_
  refine zWf ?_
  refine zWf ?_
  refine zC 4 ((12, .Z (fRV m r))::(13, .Z (fRV m lo))::(14, .Z (uI (qsg r lo)))::(15, .u (uB (decide (qsg r lo<0)))):: []) hmix s kI
   (oc (zI (f:=fRV m r) 3 kI (hz:=zT _ _))<|oc (zI (f:=fRV m lo) 3 kI (hz:=zT _ _))<|oc (zJ zE zHQ (fun u0 u1 W hb (h0:RVp m r u0 W) (h1:RVp m lo u1 W)=>zEm h0 h1 hm hm0 (hT.below (s.up hb))))<|oc (zO .i64 (qsg r lo) 0 (decide (qsg r lo<0)) iiz iiz rfl rfl)<|zD) fun a w8 s=> ?_
  refine zA rfl ?_
  refine StS.cond s (decide (qsg r lo<0)) iiz (fun e=> ?_) (fun e=> ?_)
  ·refine zC 1 ((16, .u (fRV m lo)):: []) hmix s kI
    (oc (zI (f:=fRV m lo) 3 kI (hz:=zT _ _))<|zD) fun a w9 s=> ?_
   refine zN (CU.agg (fRV m lo)) ((fRV m lo).tS) rfl s kI rfl rfl rfl (zT _ _) iiz zCP fun a w s=> ?_
   refine zA rfl ?_
   refine zWf ?_
   refine zC 2 ((17, .Z (fRV m lo))::(18, .u (fQN lo)):: []) hmix s kI
    (oc (zI (f:=fRV m lo) 3 kI (hz:=zT _ _))<|oc (zH zE zO6 (fun u0 W hb (h0:RVp m lo u0 W)=>zGe (m:=m) h0 hm hm0 (hT.below (s.up hb))))<|zD) fun a w10 s=> ?_
   refine zN (CU.agg (fQN lo)) ((fQN lo).tS) rfl s kI rfl rfl rfl iiz iiz zU fun a w s=> ?_
   refine zA rfl ?_
   refine zWg ?_
   exact wI s (CU.agg (fQN lo)) rfl kI rfl rfl (z5 _) (fun cs W h=>by rw [zJ9 e1 e];exact h)
  ·refine zWh ?_
   refine zWf ?_
   refine zC 2 ((17, .Z (fRV m r))::(18, .u (fQN r)):: []) hmix s kI
    (oc (zI (f:=fRV m r) 3 kI (hz:=zT _ _))<|oc (zH zE zO6 (fun u0 W hb (h0:RVp m r u0 W)=>zGe (m:=m) h0 hm hm0 (hT.below (s.up hb))))<|zD) fun a w11 s=> ?_
   refine zN (CU.agg (fQN r)) ((fQN r).tS) rfl s kI rfl rfl rfl iiz iiz zU fun a w s=> ?_
   refine zA rfl ?_
   refine zWg ?_
   exact wI s (CU.agg (fQN r)) rfl kI rfl rfl (z5 _) (fun cs W h=>by rw [zKa e1 e];exact h)
theorem zO1 {m:Nat} {W:Wm} {u v:Wn} {lo hi p:V2} (h1:(fPR (fPV m lo) (fPV m hi)).p u W) (h2:(fPV m p).p v W) (hm:m<=2000) (hm0:0<m) (hT:Tab W):Calls prog 26 #[u,v] W (Ret W (fPN (qR lo hi p)).tS):=by
 refine z9 [(fPR (fPV m lo) (fPV m hi)).tS,(fPV m p).tS] func26 rfl kI ⟨h1,h2,trivial⟩ fun a s=> ?_
 refine zWf ?_
 refine zC 0 [] hmix s kI
  zD fun a w1 s=> ?_
 refine yD (CU.agg (fPR (fPV m lo) (fPV m hi))) rfl s kI (fun v W h=>zFN h) fun b2 a w s=> ?_
 refine yD (CU.agg (fPV m p)) rfl s kI (fun v W h=>zAB h) fun b3 a w s=> ?_
 refine z4 (CU.len 6) (cs:=zP6) kI rfl s kI (fun W=>rfl) rfl fun b4 a w s=> ?_
 refine zA rfl ?_
 refine zWf ?_
 refine yC [] 19 ((5, .X (fPR (fPV m lo) (fPV m hi)) 0)::(6, .X (fPR (fPV m lo) (fPV m hi)) 0)::(7, .Z (fRV m ((lo).1)))::(8, .X (fPR (fPV m lo) (fPV m hi)) 6)::(9, .X (fPR (fPV m lo) (fPV m hi)) 6)::(10, .Z (fRV m ((hi).1)))::(11, .X (fPV m p) 0)::(12, .Z (fRV m ((p).1)))::(13, .Z (fQN (zAg (lo).1 (hi).1 (p).1)))::(14, .X (fPR (fPV m lo) (fPV m hi)) 0)::(15, .X (fPR (fPV m lo) (fPV m hi)) 3)::(16, .Z (fRV m ((lo).2)))::(17, .X (fPR (fPV m lo) (fPV m hi)) 6)::(18, .X (fPR (fPV m lo) (fPV m hi)) 9)::(19, .Z (fRV m ((hi).2)))::(20, .X (fPV m p) 3)::(21, .Z (fRV m ((p).2)))::(22, .Z (fQN (zAg (lo).2 (hi).2 (p).2)))::(23, .u (fPN (zAg (lo).1 (hi).1 (p).1,zAg (lo).2 (hi).2 (p).2))):: []) hmix s kI
  (oc (zK (C:=cg (fPR (fPV m lo) (fPV m hi))) 0 kI)<|oc (yE (C:=cg (fPR (fPV m lo) (fPV m hi))) 0 0 kI)<|oc (yB (C:=cg (fPR (fPV m lo) (fPV m hi))) (k:=0) 3 kI (h:=zSB))<|oc (zK (C:=cg (fPR (fPV m lo) (fPV m hi))) 6 kI)<|oc (yE (C:=cg (fPR (fPV m lo) (fPV m hi))) 6 0 kI)<|oc (yB (C:=cg (fPR (fPV m lo) (fPV m hi))) (k:=6) 3 kI (h:=zSA))<|oc (zK (C:=cg (fPV m p)) 0 kI)<|oc (yB (C:=cg (fPV m p)) (k:=0) 3 kI (h:=zFM))<|oc (zBK zE zS8 (fun u0 u1 u2 W hb (h0:RVp m ((lo).1) u0 W) (h1:RVp m ((hi).1) u1 W) (h2:RVp m ((p).1) u2 W)=>zHN (m:=m) h0 h1 h2 hm hm0 (hT.below (s.up hb))))<|oc (zK (C:=cg (fPR (fPV m lo) (fPV m hi))) 0 kI)<|oc (yE (C:=cg (fPR (fPV m lo) (fPV m hi))) 0 3 kI)<|oc (yB (C:=cg (fPR (fPV m lo) (fPV m hi))) (k:=3) 3 kI (h:=zOy))<|oc (zK (C:=cg (fPR (fPV m lo) (fPV m hi))) 6 kI)<|oc (yE (C:=cg (fPR (fPV m lo) (fPV m hi))) 6 3 kI)<|oc (yB (C:=cg (fPR (fPV m lo) (fPV m hi))) (k:=9) 3 kI (h:=zOx))<|oc (zK (C:=cg (fPV m p)) 3 kI)<|oc (yB (C:=cg (fPV m p)) (k:=3) 3 kI (h:=zH6))<|oc (zBK zE zS8 (fun u0 u1 u2 W hb (h0:RVp m ((lo).2) u0 W) (h1:RVp m ((hi).2) u1 W) (h2:RVp m ((p).2) u2 W)=>zHN (m:=m) h0 h1 h2 hm hm0 (hT.below (s.up hb))))<|oc (yS (fun u v W (hu:QNp (zAg (lo).1 (hi).1 (p).1) u W) (hv:QNp (zAg (lo).2 (hi).2 (p).2) v W)=>zPh (jZ _) (jZ _) hu hv))<|zD) fun Q' hQ a w2 s=> ?_
 refine zN (CU.agg (fPN (zAg (lo).1 (hi).1 (p).1,zAg (lo).2 (hi).2 (p).2))) ((fPN (zAg (lo).1 (hi).1 (p).1,zAg (lo).2 (hi).2 (p).2)).tS) rfl s kI rfl rfl rfl iiz iiz zBo fun a w s=> ?_
 refine zA rfl (hQ _ _ ?_)
 refine zWg ?_
 exact wI s (CU.agg (fPN (zAg (lo).1 (hi).1 (p).1,zAg (lo).2 (hi).2 (p).2))) rfl kI rfl rfl (jF _ _) (fun cs W h=>h)
end Go.Proofs.Wd

namespace Go.Proofs.Wd
open Tryz
set_option maxRecDepth 100000
set_option maxHeartbeats 1000000
open Go.RowKit Lb
/-! ### Models -/
def MDp (f:UF) (x l y c:Wn) (v:Wn) (w:Wm):Prop:= ∃p:List Wn,v= .agg (p++ [x,l,y,c]).toArray/\(CU.agg f).p p w/\ ∀u,u∈ [x,l,y,c]-> ∃A n k,u= .slice A n k
def fMD (f:UF) (x l y c:Wn):UF:= .mk' (MDp f x l y c) fun _ _ _ ⟨p,e,h,hs⟩ u=>⟨p,e,(CU.agg f).us _ _ _ h u,hs⟩
section
variable {f g f' g':UF} {x l y c:Wn}
theorem zEK {cs:List Wn} {W:Wm} (h:(CU.agg (fMD (fPR (fPT f g) (fPT f' g')) x l y c)).p cs W): ∃p:List Wn,cs=p++ [x,l,y,c]/\p.length=12/\(CU.agg (fPR (fPT f g) (fPT f' g'))).p p W/\ ∀u,u∈ [x,l,y,c]-> ∃A n k,u= .slice A n k:=by
 obtain ⟨p,e,h1,h2⟩:=h
 have:=congrArg Array.toList (zAz e)
 have this:cs=p++ [x,l,y,c]:=this
 exact ⟨p,this,(zKy p W h1).1,h1,h2⟩
theorem zON:CU.ok 16 (CU.agg (fMD (fPR (fPT f g) (fPT f' g')) x l y c)):=fun cs W h=>by
 obtain ⟨p,rfl,hl,h1,h2⟩:=zEK h
 have o:=zKy p W h1
 refine ⟨by simp [hl], ?_,fun u hu=> ?_⟩
 ·rw [List.all_append,o.2.1,Bool.true_and]
  refine List.all_eq_true.2 fun u hu=> ?_
  obtain ⟨A,n,k,rfl⟩:=h2 u hu
  rfl
 ·rcases List.mem_append.1 hu with hu|hu
  ·exact o.2.2 u hu
  ·obtain ⟨A,n,k,rfl⟩:=h2 u hu
   rfl
theorem zDM: ∀cs:List Wn, ∀W,(fMD (fPR (fPT f g) (fPT f' g')) x l y c).p (.agg cs.toArray) W->cs.length=16:=fun cs W h=>(zON cs W h).1
theorem zJL (cs:List Wn) (W:Wm) (h:(CU.agg (fMD (fPR (fPT f g) (fPT f' g')) x l y c)).p cs W):0+16<=cs.length/\(fMD (fPR (fPT f g) (fPT f' g')) x l y c).p (.agg ((cs.drop 0).take 16).toArray) W:=by
 have:=zON cs W h
 refine ⟨by omega, ?_⟩
 rw [List.drop_zero,List.take_of_length_le oP]
 exact h
theorem zJN (cs:List Wn) (W:Wm) (h:(CU.agg (fMD (fPR (fPT f g) (fPT f' g')) x l y c)).p cs W):0+12<=cs.length/\(fPR (fPT f g) (fPT f' g')).p (.agg ((cs.drop 0).take 12).toArray) W:=by
 obtain ⟨p,rfl,hl,h1,h2⟩:=zEK h
 refine ⟨by simp [hl], ?_⟩
 rw [List.drop_zero,zWA oP,List.take_of_length_le oP]
 exact h1
theorem zJM (cs:List Wn) (W:Wm) (h:(CU.agg (fMD (fPR (fPT f g) (fPT f' g')) x l y c)).p cs W) (i:Nat) (u:Wn) (hi: [x,l,y,c][i]?=some u): ∃v,cs[12+i]?=some v/\v=u:=by
 obtain ⟨p,rfl,hl,h1,h2⟩:=zEK h
 refine ⟨u, ?_,rfl⟩
 rw [List.getElem?_append_right oP,hl,Nat.add_sub_cancel_left]
 exact hi
theorem zKF (cs:List Wn) (W:Wm) (h:(CU.agg (fMD (fPR (fPT f g) (fPT f' g')) x l y c)).p cs W): ∃v,cs[12]?=some v/\v=x:=zJM cs W h 0 x rfl
theorem zRn (cs:List Wn) (W:Wm) (h:(CU.agg (fMD (fPR (fPT f g) (fPT f' g')) x l y c)).p cs W): ∃v,cs[13]?=some v/\v=l:=zJM cs W h 1 l rfl
theorem zTQ (cs:List Wn) (W:Wm) (h:(CU.agg (fMD (fPR (fPT f g) (fPT f' g')) x l y c)).p cs W): ∃v,cs[14]?=some v/\v=y:=zJM cs W h 2 y rfl
theorem zSO (cs:List Wn) (W:Wm) (h:(CU.agg (fMD (fPR (fPT f g) (fPT f' g')) x l y c)).p cs W): ∃v,cs[15]?=some v/\v=c:=zJM cs W h 3 c rfl
theorem zDN {v:Wn} {W:Wm} (h:(fMD (fPR (fPT f g) (fPT f' g')) x l y c).p v W):(CU.agg (fMD (fPR (fPT f g) (fPT f' g')) x l y c)).p v.cells.toList W/\v.cells.toList.all yR=true:=by
 obtain ⟨p,rfl,h1⟩:=id h
 exact ⟨h,(zON _ W h).2.1⟩
theorem zGr (v:Wn) (W:Wm) (h:(fMD (fPR (fPT f g) (fPT f' g')) x l y c).p v W): ∃vs:List Wn,v= .agg vs.toArray/\vs.length=16/\(∀u,u∈vs->u.oneCell'=true)/\vs.all yR=true/\(CU.agg (fMD (fPR (fPT f g) (fPT f' g')) x l y c)).p vs W:=by
 obtain ⟨p,rfl,h1⟩:=id h
 have o:=zON (f:=f) (g:=g) (f':=f') (g':=g') (x:=x) (l:=l) (y:=y) (c:=c) _ W h
 exact ⟨_,rfl,o.1,o.2.2,o.2.1,h⟩
theorem zTC {k a r:Int} {v:Wn} {W:Wm} (h:(fCE k a r (fPT f g)).p v W):(CU.agg (fCE k a r (fPT f g))).p v.cells.toList W/\v.cells.toList.all yR=true:=by
 obtain ⟨p,rfl,h1⟩:=id h
 exact ⟨h,(zRM (f:=f) (g:=g) (k:=k) (a:=a) (r:=r) _ W h).2.1⟩
end
structure MOk (W:World) (vx vl vw vc:Value) (X:List Rat) (LV:List (Value×List V2)) (WV:List (Value×List Rat)) (CV:List zAb):Prop where
 x:(SF.row 3 (qls X)).p vx W
 l:(SF.row 1 (lls LV)).p vl W
 lo:zNu 6 pns LV W
 w:(SF.row 1 (lls WV)).p vw W
 wo:zNu 3 qls WV W
 c:(SF.row 9 (ces CV)).p vc W
theorem MOk.below {W W':Wm} {vx vl vw vc:Wn} {X:List Rat} {LV:List (Wn×List V2)} {WV:List (Wn×List Rat)} {CV:List zAb} (h:MOk W vx vl vw vc X LV WV CV) (hb:Below W.heap.size W W'):MOk W' vx vl vw vc X LV WV CV:=
 ⟨(SF.row 3 _).st _ _ _ h.x hb,(SF.row 1 _).st _ _ _ h.l hb,h.lo.below hb,(SF.row 1 _).st _ _ _ h.w hb,h.wo.below hb,(SF.row 9 _).st _ _ _ h.c hb⟩
section
variable {F:Fence} {m:Nat} {P:Program} {w0:Wm} {ops:Array Oper} {G:Nat->SF} {d:Tmp} {ty:TypeId} {pos:String} {aft:Array Edge}
theorem zMl {f:FuncId} {x y z:Operand} (h: ∀u v q W,Below w0.heap.size w0 W->(fct G x).p u W->(fct G y).p v W->(fct G z).p q W->(G d).p (.func (.func f) #[] #[u,v,q]) W):qX F m P w0 ops G ⟨some d, .makeFunc (.func f) #[] #[x,y,z],ty,pos,aft,none⟩:=
 zRd fun b W hb hh=>by simpa using h _ _ _ W hb (hh x (by simp)) (hh y (by simp)) (hh z (by simp))
end
theorem zSJ {W:Wm} {u x y z:Wn} {c:zAb} {k a0 r0:Int} (h1:(fCN c).p u W) (h2:(wB (wE [.int .i8 k]).cf).p x W) (h3:(wB (wE [.int .i64 a0]).cf).p y W) (h4:(wB (wE [.int .i64 r0]).cf).p z W):Calls prog 82 #[u,x,y,z] W (Ret W (fB (zFj k a0 r0 c)).tS):=by
 refine z9 [(fCN c).tS,(wB (wE [.int .i8 k]).cf),(wB (wE [.int .i64 a0]).cf),(wB (wE [.int .i64 r0]).cf)] func82 rfl kI ⟨h1,h2,h3,h4,trivial⟩ fun a s=> ?_
 refine zWf ?_
 refine zC 0 [] hmix s kI
  zD fun a w1 s=> ?_
 refine yD (CU.agg (fCE ((c).1) ((c).2.1) ((c).2.2.1) (fPN ((c).2.2.2)))) rfl s kI (fun v W h=>zTC h) fun b4 a w s=> ?_
 refine zS (uB false) rfl s kI iiz fun a w s=> ?_
 refine zA rfl ?_
 refine zWf ?_
 replace s:=s.drop [5]
 refine zC 17 ((6, .X (fCE ((c).1) ((c).2.1) ((c).2.2.1) (fPN ((c).2.2.2))) 0)::(7, .Z (UF.eq (.int .i8 ((c).1))))::(8, .Z (UF.eq (.int .i8 k)))::(9, .Z (uB ((c).1==k)))::(10, .Z (uB ((c).1==k)))::(11, .s (SF.imp (((c).1==k)=true) (wB ((CU.agg (fCE ((c).1) ((c).2.1) ((c).2.2.1) (fPN ((c).2.2.2)))).cf.at 1))))::(12, .s (SF.imp (((c).1==k)=true) ((uI ((c).2.1)).tS)))::(13, .s (SF.imp (((c).1==k)=true) ((uI a0).tS)))::(14, .s (SF.imp (((c).1==k)=true) ((uB ((c).2.1==a0)).tS)))::(15, .Z (uB (((c).1==k)&&((c).2.1==a0))))::(16, .Z (uB (((c).1==k)&&((c).2.1==a0))))::(17, .s (SF.imp ((((c).1==k)&&((c).2.1==a0))=true) (wB ((CU.agg (fCE ((c).1) ((c).2.1) ((c).2.2.1) (fPN ((c).2.2.2)))).cf.at 2))))::(18, .s (SF.imp ((((c).1==k)&&((c).2.1==a0))=true) ((uI ((c).2.2.1)).tS)))::(19, .s (SF.imp ((((c).1==k)&&((c).2.1==a0))=true) ((uI r0).tS)))::(20, .s (SF.imp ((((c).1==k)&&((c).2.1==a0))=true) ((uB ((c).2.2.1==r0)).tS)))::(21, .Z (uB ((((c).1==k)&&((c).2.1==a0))&&((c).2.2.1==r0))))::(5, .u (uB ((((c).1==k)&&((c).2.1==a0))&&((c).2.2.1==r0)))):: []) hmix s kI
  (oc (zK (C:=cg (fCE ((c).1) ((c).2.1) ((c).2.2.1) (fPN ((c).2.2.2)))) 0 kI)<|oc (yL (C:=cg (fCE ((c).1) ((c).2.1) ((c).2.2.1) (fPN ((c).2.2.2)))) (k:=0) kI (h:=zIQ))<|oc (jS (C:=(wE [.int .i8 k]).cf) kI iiz zCh)<|oc (zO .i8 ((c).1) k ((c).1==k) iiz iiz rfl rfl)<|oc zB<|oc (zG 10 ((c).1==k) kI iiz (fun e=>zQ [] (wB ((CU.agg (fCE ((c).1) ((c).2.1) ((c).2.2.1) (fPN ((c).2.2.2)))).cf.at 1)) fnz (fun _ _ h _=>h) kI (zK (C:=cg (fCE ((c).1) ((c).2.1) ((c).2.2.1) (fPN ((c).2.2.2)))) 1 kI)) (fun e W h=>absurd h e))<|oc (zG 10 ((c).1==k) kI iiz (fun e=>zQ [(11,wB ((CU.agg (fCE ((c).1) ((c).2.1) ((c).2.2.1) (fPN ((c).2.2.2)))).cf.at 1))] ((uI ((c).2.1)).tS) (fmz ⟨fun v W h=>zL (c:=((c).1==k)=true) (f:=wB ((CU.agg (fCE ((c).1) ((c).2.1) ((c).2.2.1) (fPN ((c).2.2.2)))).cf.at 1)) e h,fnz⟩) (fun _ _ h _=>h) kI (yL (C:=cg (fCE ((c).1) ((c).2.1) ((c).2.2.1) (fPN ((c).2.2.2)))) (k:=1) kI (h:=zUV))) (fun e W h=>absurd h e))<|oc (zG 10 ((c).1==k) kI iiz (fun e=>zQ [] ((uI a0).tS) fnz (fun _ _ h _=>h) kI (jS (C:=(wE [.int .i64 a0]).cf) kI iiz zCh)) (fun e W h=>absurd h e))<|oc (zG 10 ((c).1==k) kI iiz (fun e=>zQ [(12,(uI ((c).2.1)).tS),(13,(uI a0).tS)] ((uB ((c).2.1==a0)).tS) (fmz ⟨fun v W h=>zL (c:=((c).1==k)=true) (f:=(uI ((c).2.1)).tS) e h,fmz ⟨fun v W h=>zL (c:=((c).1==k)=true) (f:=(uI a0).tS) e h,fnz⟩⟩) (fun _ _ h _=>h) kI (zO .i64 ((c).2.1) a0 ((c).2.1==a0) iiz iiz rfl rfl)) (fun e W h=>absurd h e))<|oc (yO ((c).1==k) iiz (fun e v W h=>jM (zL e h) e) (fun e v W h=>qV h e))<|oc zB<|oc (zG 16 (((c).1==k)&&((c).2.1==a0)) kI iiz (fun e=>zQ [] (wB ((CU.agg (fCE ((c).1) ((c).2.1) ((c).2.2.1) (fPN ((c).2.2.2)))).cf.at 2)) fnz (fun _ _ h _=>h) kI (zK (C:=cg (fCE ((c).1) ((c).2.1) ((c).2.2.1) (fPN ((c).2.2.2)))) 2 kI)) (fun e W h=>absurd h e))<|oc (zG 16 (((c).1==k)&&((c).2.1==a0)) kI iiz (fun e=>zQ [(17,wB ((CU.agg (fCE ((c).1) ((c).2.1) ((c).2.2.1) (fPN ((c).2.2.2)))).cf.at 2))] ((uI ((c).2.2.1)).tS) (fmz ⟨fun v W h=>zL (c:=(((c).1==k)&&((c).2.1==a0))=true) (f:=wB ((CU.agg (fCE ((c).1) ((c).2.1) ((c).2.2.1) (fPN ((c).2.2.2)))).cf.at 2)) e h,fnz⟩) (fun _ _ h _=>h) kI (yL (C:=cg (fCE ((c).1) ((c).2.1) ((c).2.2.1) (fPN ((c).2.2.2)))) (k:=2) kI (h:=zTA))) (fun e W h=>absurd h e))<|oc (zG 16 (((c).1==k)&&((c).2.1==a0)) kI iiz (fun e=>zQ [] ((uI r0).tS) fnz (fun _ _ h _=>h) kI (jS (C:=(wE [.int .i64 r0]).cf) kI iiz zCh)) (fun e W h=>absurd h e))<|oc (zG 16 (((c).1==k)&&((c).2.1==a0)) kI iiz (fun e=>zQ [(18,(uI ((c).2.2.1)).tS),(19,(uI r0).tS)] ((uB ((c).2.2.1==r0)).tS) (fmz ⟨fun v W h=>zL (c:=(((c).1==k)&&((c).2.1==a0))=true) (f:=(uI ((c).2.2.1)).tS) e h,fmz ⟨fun v W h=>zL (c:=(((c).1==k)&&((c).2.1==a0))=true) (f:=(uI r0).tS) e h,fnz⟩⟩) (fun _ _ h _=>h) kI (zO .i64 ((c).2.2.1) r0 ((c).2.2.1==r0) iiz iiz rfl rfl)) (fun e W h=>absurd h e))<|oc (yO (((c).1==k)&&((c).2.1==a0)) iiz (fun e v W h=>jM (zL e h) e) (fun e v W h=>qV h e))<|oc zF<|zD) fun a w2 s=> ?_
 refine zA rfl ?_
 refine zWg ?_
 exact wJ s (t:=5) rfl (fun v W h=>h)
theorem zSI {W:Wm} {u x y z:Wn} {k a0 r0:Int} {lo hi:V2} {vx vl vw vc:Wn} {X:List Rat} {LV:List (Wn×List V2)} {WV:List (Wn×List Rat)} {CV:List zAb} (h1:(fMD (fPR (fPN lo) (fPN hi)) vx vl vw vc).p u W) (hM:MOk W vx vl vw vc X LV WV CV) (h2:x= .int .i8 k) (h3:y= .int .i64 a0) (h4:z= .int .i64 r0) (hn:CV.length<=1000000):Calls prog 51 #[u,x,y,z] W (Ret W (fI (zEJ CV k a0 r0)).tS):=by
 refine z9 [(fMD (fPR (fPN lo) (fPN hi)) vx vl vw vc).tS,(UF.eq (.int .i8 k)).tS,(uI a0).tS,(uI r0).tS] func51 rfl kI ⟨h1,h2,h3,h4,trivial⟩ fun a s=> ?_
 replace s:=s.renew [(0, .u (fMD (fPR (fPN lo) (fPN hi)) vx vl vw vc)),(1, .u (UF.eq (.int .i8 k))),(2, .u (uI a0)),(3, .u (uI r0))] (fmz ⟨.inr ⟨_,rfl, .head _⟩,fmz ⟨.inr ⟨_,rfl,mz1⟩,fmz ⟨.inr ⟨_,rfl,mz2⟩,fmz ⟨.inr ⟨_,rfl,mz3⟩,fnz⟩⟩⟩⟩)
 refine zWf ?_
 refine zC 0 [] hmix s kI
  zD fun a w1 s=> ?_
 refine yD (CU.agg (fMD (fPR (fPN lo) (fPN hi)) vx vl vw vc)) rfl s kI (fun v W h=>zDN h) fun b4 a w s=> ?_
 refine yD (wE [.int .i8 k]) rfl s kI (fun v W h=>zMK h (by rfl)) fun b5 a w s=> ?_
 refine yD (wE [.int .i64 a0]) rfl s kI (fun v W h=>zMK h (by rfl)) fun b6 a w s=> ?_
 refine yD (wE [.int .i64 r0]) rfl s kI (fun v W h=>zMK h (by rfl)) fun b7 a w s=> ?_
 refine zS (uI 0) rfl s kI iiz fun a w s=> ?_
 refine zA rfl ?_
 refine zWf ?_
 replace s:=s.drop [8]
 refine zC 5 ((9, .X (fMD (fPR (fPN lo) (fPN hi)) vx vl vw vc) 15)::(10, .Z (UF.eq vc))::(11, .s (SF.fn prog (TC (zFj k a0 r0))))::(12, .Z (uI (zRG (zFj k a0 r0) CV)))::(8, .u (uI (zRG (zFj k a0 r0) CV))):: []) hmix s kI
  (oc (zK (C:=cg (fMD (fPR (fPN lo) (fPN hi)) vx vl vw vc)) 15 kI)<|oc (yL (C:=cg (fMD (fPR (fPN lo) (fPN hi)) vx vl vw vc)) (k:=15) kI (h:=zSO))<|oc (zMl (fun u v q W hb (h:(wG b5 (wE [.int .i8 k]).cf).p u W) (h':(wG b6 (wE [.int .i64 a0]).cf).p v W) (h'':(wG b7 (wE [.int .i64 r0]).cf).p q W)=>zS0 (enters_of func82 kI rfl) (fun W' hb' args R ⟨u1,c,e,h1,hR⟩=>by subst e hR;simpa using zSJ h1 ((wB _).st _ _ _ h.2 hb') ((wB _).st _ _ _ h'.2 hb') ((wB _).st _ _ _ h''.2 hb'))))<|oc (zJ zE zUr (fun u0 u1 W hb (h0:u0=vc) (h1:(SF.fn prog (TC (zFj k a0 r0))).p u1 W)=>zUd (yT hM.c h0 (s.up hb)) h1 hn))<|oc zF<|zD) fun a w2 s=> ?_
 refine zA rfl ?_
 refine zWg ?_
 exact wJ s (t:=8) rfl (fun v W h=>h)
end Go.Proofs.Wd

namespace Go.Proofs.Wd
open Tryz
set_option maxRecDepth 100000
set_option maxHeartbeats 1000000
open Go.RowKit Lb
section
variable {F:Fence} {m:Nat} {P:Program} {w0:Wm} {ops:Array Oper} {G:Nat->SF} {d:Tmp} {ty:TypeId} {pos:String} {aft:Array Edge}
theorem zMk {f:FuncId} {x:Operand} {u0:Wn} (hx: ∀v W,(fct G x).p v W->v=u0) (hd: ∀W,(G d).p (.func (.func f) #[u0] #[]) W):qX F m P w0 ops G ⟨some d, .makeFunc (.func f) #[x] #[],ty,pos,aft,none⟩:=
 jG (fun _ e=>by cases e) (fun _ e=>by cases e) fun b W hb hh=>by
  have e:=hx _ _ (hh x (by simp [Op.operands]))
  exact ⟨_,by simp [execOp,Instr.makeFunc,e],hd W⟩
theorem zMj {y x x':Operand} {ats:Array TypeId} {f:FuncId} {u0:Wn} (hF:zIU F m P) (he:Enters P f) (hy: ∀v W,(fct G y).p v W->v= .func (.func f) #[u0] #[])
  (h: ∀u v W,Below w0.heap.size w0 W->(fct G x).p u W->(fct G x').p v W->Calls P f #[u0,u,v] W (Ret W (G d))):
  qX F m P w0 ops G ⟨some d, .call ⟨.value y,#[x,x'],ats⟩,ty,pos,aft,none⟩:=by
 intro b W K Q hb hr hK
 have hin: ∀z,z∈(Op.call ⟨.value y,#[x,x'],ats⟩).operands.toList->(fct G z).p (b.eval z) W:=fun z hz=>qK hr hz
 have e1:=hy _ _ (hin y (by simp [Op.operands,Call.operands]))
 have h1:=h _ _ W hb (hin x (by simp [Op.operands,Call.operands])) (hin x' (by simp [Op.operands,Call.operands]))
 refine ⟨fun g _=>hF.1 g, ?_⟩
 have hrun:(execOp b.eval ⟨some d, .call ⟨.value y,#[x,x'],ats⟩,ty,pos,aft,none⟩).run P W= .ok (.enter f #[u0,b.eval x,b.eval x']) W:=by
  simp only [execOp,resolve,e1,Deferred.ofValue,Sem.run_bind,Sem.run_pure,Result.andThen_ok,invoke]
  rw [show #[u0]++Array.map b.eval #[x,x']++#[]=#[u0,b.eval x,b.eval x'] by simp]
  exact he _ _
 rw [Oper.semAt_eq _ _ _ (fun _ e=>by cases e),hrun]
 simp only [Oper.uponIn_enter]
 refine ⟨hF.2.1,CallsIn.mono (hF.2.2 _ _ _ (Ret W (G d)) h1) fun e W' he=> ?_⟩
 obtain ⟨v,rfl,hv,hb'⟩:=he
 exact hK v W' (fun d' e=>by cases e;exact hv) hb'
end
structure MBd (m:Nat) (X:List Rat) (LV:List (Value×List V2)) (WV:List (Value×List Rat)) (CV:List zAb):Prop where
 x: ∀q,q∈X->QB q m
 l: ∀y,y∈LV-> ∀p,p∈y.2->QB p.1 m/\QB p.2 m
 w: ∀y,y∈WV-> ∀q,q∈y.2->QB q m
 nx:X.length<=1000000
 nl: ∀y,y∈LV->y.2.length<=1000000
 nw: ∀y,y∈WV->y.2.length<=1000000
 ll:LV.length<=1000000
 lw:WV.length<=1000000
 nc:CV.length<=1000000
def jC (WV:List (Wn×List Rat)) (i:Nat) (p:V2):Int×Int:=((if (zAK (llg [] WV i).2 p.2).2=true then 0 else 1),(zAK (llg [] WV i).2 p.2).1)
def jD (X:List Rat) (LV:List (Wn×List V2)) (i:Nat) (p:V2):Int×Int:=((if (zAK (jN (qAt X i) (qAt X (i+1)) p.1 (llg [] LV i).2) p.2).2=true then 2 else 3),(zAK (jN (qAt X i) (qAt X (i+1)) p.1 (llg [] LV i).2) p.2).1)
theorem zQi {WV:List (Wn×List Rat)} {i:Nat} {p:V2} (h:(zAK (llg [] WV i).2 p.2).2=true):(jC WV i p).1=0:=if_pos h
theorem zQj {WV:List (Wn×List Rat)} {i:Nat} {p:V2} (h:(zAK (llg [] WV i).2 p.2).2=false):(jC WV i p).1=1:=if_neg (by rw [h];decide)
theorem zQv {X:List Rat} {LV:List (Wn×List V2)} {i:Nat} {p:V2} (h:(zAK (jN (qAt X i) (qAt X (i+1)) p.1 (llg [] LV i).2) p.2).2=true):(jD X LV i p).1=2:=if_pos h
theorem zQw {X:List Rat} {LV:List (Wn×List V2)} {i:Nat} {p:V2} (h:(zAK (jN (qAt X i) (qAt X (i+1)) p.1 (llg [] LV i).2) p.2).2=false):(jD X LV i p).1=3:=if_neg (by rw [h];decide)
theorem zRq {m i:Nat} {W:Wm} {u v z:Wn} {lo hi p:V2} {vx vl vw vc:Wn} {X:List Rat} {LV:List (Wn×List V2)} {WV:List (Wn×List Rat)} {CV:List zAb} (h1:(wB (cg (fMD (fPR (fPN lo) (fPN hi)) vx vl vw vc))).p u W) (h2:v= .int .i64 (i:Int)) (h3:(fPV m p).p z W) (hi_:i<WV.length) (hM:MOk W vx vl vw vc X LV WV CV) (hB:MBd m X LV WV CV) (hm:m<=100) (hm0:0<m) (hT:Tab W):Calls prog 50 #[u,v,z] W (Ret W (yU (UF.eq (.int .i8 (jC WV i p).1)) (fI (jC WV i p).2)).tS):=by
 refine z9 [wB (cg (fMD (fPR (fPN lo) (fPN hi)) vx vl vw vc)),(uI (i:Int)).tS,(fPV m p).tS] func50 rfl kI ⟨h1,h2,h3,trivial⟩ fun a s=> ?_
 replace s:=s.renew [(0, .o (wB (cg (fMD (fPR (fPN lo) (fPN hi)) vx vl vw vc)))),(1, .u (uI (i:Int))),(2, .u (fPV m p))] (fmz ⟨.inl (.head _),fmz ⟨.inr ⟨_,rfl,mz1⟩,fmz ⟨.inr ⟨_,rfl,mz2⟩,fnz⟩⟩⟩)
 refine zWf ?_
 refine zC 0 [] hmix s kI
  zD fun a w1 s=> ?_
 refine yD (CU.agg (fPV m p)) rfl s kI (fun v W h=>zAB h) fun b5 a w s=> ?_
 refine zS (UF.eq (.int .i8 0)) rfl s kI iiz fun a w s=> ?_
 refine zS (uI 0) rfl s kI iiz fun a w s=> ?_
 refine zA rfl ?_
 refine zWf ?_
 replace s:=s.drop [7]
 refine zC 16 ((10, .X (fPV m p) 3)::(11, .Z (fRV m ((p).2)))::(12, .Y (fMD (fPR (fPN lo) (fPN hi)) vx vl vw vc))::(13, .Y (fMD (fPR (fPN lo) (fPN hi)) vx vl vw vc))::(14, .X (fMD (fPR (fPN lo) (fPN hi)) vx vl vw vc) 0)::(15, .X (fMD (fPR (fPN lo) (fPN hi)) vx vl vw vc) 14)::(16, .Z (UF.eq vw))::(17, .Z (uI (i:Int)))::(18, .s (wB (wE [(llg [] WV i).1]).cf))::(19, .Z (UF.eq (llg [] WV i).1))::(20, .Z (yU (uI ((zAK (llg [] WV i).2 p.2).1)) (uB ((zAK (llg [] WV i).2 p.2).2))))::(9, .Z (yU (uI ((zAK (llg [] WV i).2 p.2).1)) (uB ((zAK (llg [] WV i).2 p.2).2))))::(21, .Z (uI ((zAK (llg [] WV i).2 p.2).1)))::(22, .Z (uB ((zAK (llg [] WV i).2 p.2).2)))::(7, .u (uI ((zAK (llg [] WV i).2 p.2).1)))::(8, .u (uB ((zAK (llg [] WV i).2 p.2).2))):: []) hmix s kI
  (oc (zK (C:=cg (fPV m p)) 3 kI)<|oc (yB (C:=cg (fPV m p)) (k:=3) 3 kI (h:=zH6))<|oc zB<|oc (qI (C:=cg (fMD (fPR (fPN lo) (fPN hi)) vx vl vw vc)))<|oc (zK (C:=cg (fMD (fPR (fPN lo) (fPN hi)) vx vl vw vc)) 0 kI)<|oc (yE (C:=cg (fMD (fPR (fPN lo) (fPN hi)) vx vl vw vc)) 0 14 kI)<|oc (yL (C:=cg (fMD (fPR (fPN lo) (fPN hi)) vx vl vw vc)) (k:=14) kI (h:=zTQ))<|oc zB<|oc (zZ (z:=1) (Cs:=lls WV) (i:=i) (C:=wE [(llg [] WV i).1]) kI (zB7 hi_) (fun v W hb h=>(yT hM.w h (s.up hb))) iiz)<|oc (jS (C:=(wE [(llg [] WV i).1]).cf) kI iiz zCh)<|oc (zJ zE zS5 (fun u0 u1 W hb (h0:RVp m ((p).2) u0 W) (h1:u1=(llg [] WV i).1)=>zHH (m:=m) h0 (zIt (hB.w _ (qN hi_)) _ _ (by rw [show _=(llg [] WV i).1 from h1];exact (SF.row 3 (qls (llg [] WV i).2)).st _ _ _ (hM.wo _ (qN hi_)) (s.up hb))) oP hm0 (hB.nw _ (qN hi_)) (hT.below (s.up hb))))<|oc zB<|oc (yY (A:=(uI ((zAK (llg [] WV i).2 p.2).1)).tS) (B:=(uB ((zAK (llg [] WV i).2 p.2).2)).tS) iiz)<|oc (yX (A:=(uI ((zAK (llg [] WV i).2 p.2).1)).tS) (B:=(uB ((zAK (llg [] WV i).2 p.2).2)).tS) iiz)<|oc zF<|oc zF<|zD) fun a w2 s=> ?_
 refine zA rfl ?_
 refine zWf ?_
 refine zWf ?_
 refine zC 1 ((23, .u (uB ((zAK (llg [] WV i).2 p.2).2))):: []) hmix s kI
  (oc zB<|zD) fun a w3 s=> ?_
 refine zA rfl ?_
 refine StS.cond s ((zAK (llg [] WV i).2 p.2).2) iiz (fun e=> ?_) (fun e=> ?_)
 ·refine zWf ?_
  replace s:=s.drop [6]
  refine zR 2 ((24, .u (uI ((zAK (llg [] WV i).2 p.2).1)))::(6, .u (UF.eq (.int .i8 0))):: []) s kI
   (oc zB<|oc zF<|zD) fun a w4 s=> ?_
  replace s:=s.drop [7]
  refine zS (uI ((zAK (llg [] WV i).2 p.2).1)) rfl s kI iiz fun a w s=> ?_
  refine zA rfl ?_
  refine zWg ?_
  exact wN s (UF.eq (.int .i8 (jC WV i p).1)) (fI (jC WV i p).2) (t:=6) (r:=7) rfl (fun v W h=>by rw [zQi e];exact h) (fun v W h=>h)
 ·refine zWh ?_
  refine zWf ?_
  replace s:=s.drop [6]
  refine zR 2 ((25, .u (uI ((zAK (llg [] WV i).2 p.2).1)))::(6, .u (UF.eq (.int .i8 1))):: []) s kI
   (oc zB<|oc zF<|zD) fun a w5 s=> ?_
  replace s:=s.drop [7]
  refine zS (uI ((zAK (llg [] WV i).2 p.2).1)) rfl s kI iiz fun a w s=> ?_
  refine zA rfl ?_
  refine zWg ?_
  exact wN s (UF.eq (.int .i8 (jC WV i p).1)) (fI (jC WV i p).2) (t:=6) (r:=7) rfl (fun v W h=>by rw [zQj e];exact h) (fun v W h=>h)
theorem zRt {m i:Nat} {W:Wm} {u v z:Wn} {lo hi p:V2} {vx vl vw vc:Wn} {X:List Rat} {LV:List (Wn×List V2)} {WV:List (Wn×List Rat)} {CV:List zAb} (h1:(wB (cg (fMD (fPR (fPN lo) (fPN hi)) vx vl vw vc))).p u W) (h2:v= .int .i64 (i:Int)) (h3:(fPV m p).p z W) (hi_:i<LV.length) (hx1:i+1<X.length) (hM:MOk W vx vl vw vc X LV WV CV) (hB:MBd m X LV WV CV) (hm:m<=100) (hm0:0<m) (hT:Tab W):Calls prog 49 #[u,v,z] W (Ret W (yU (UF.eq (.int .i8 (jD X LV i p).1)) (fI (jD X LV i p).2)).tS):=by
 have hx0:i<X.length:=by omega
 have hnx:=hB.nx
 refine z9 [wB (cg (fMD (fPR (fPN lo) (fPN hi)) vx vl vw vc)),(uI (i:Int)).tS,(fPV m p).tS] func49 rfl kI ⟨h1,h2,h3,trivial⟩ fun a s=> ?_
 replace s:=s.renew [(0, .o (wB (cg (fMD (fPR (fPN lo) (fPN hi)) vx vl vw vc)))),(1, .u (uI (i:Int))),(2, .u (fPV m p))] (fmz ⟨.inl (.head _),fmz ⟨.inr ⟨_,rfl,mz1⟩,fmz ⟨.inr ⟨_,rfl,mz2⟩,fnz⟩⟩⟩)
 refine zWf ?_
 refine zC 0 [] hmix s kI
  zD fun a w1 s=> ?_
 refine yD (CU.agg (fPV m p)) rfl s kI (fun v W h=>zAB h) fun b5 a w s=> ?_
 refine zS (UF.eq (.int .i8 0)) rfl s kI iiz fun a w s=> ?_
 refine zS (uI 0) rfl s kI iiz fun a w s=> ?_
 refine zA rfl ?_
 refine zWf ?_
 replace s:=s.drop [7]
 refine zC 32 ((10, .Y (fMD (fPR (fPN lo) (fPN hi)) vx vl vw vc))::(11, .Y (fMD (fPR (fPN lo) (fPN hi)) vx vl vw vc))::(12, .X (fMD (fPR (fPN lo) (fPN hi)) vx vl vw vc) 0)::(13, .X (fMD (fPR (fPN lo) (fPN hi)) vx vl vw vc) 12)::(14, .Z (UF.eq vx))::(15, .Z (uI (i:Int)))::(16, .Y (fQN (qAt X i)))::(17, .Z (fQN (qAt X i)))::(18, .Y (fMD (fPR (fPN lo) (fPN hi)) vx vl vw vc))::(19, .Y (fMD (fPR (fPN lo) (fPN hi)) vx vl vw vc))::(20, .X (fMD (fPR (fPN lo) (fPN hi)) vx vl vw vc) 0)::(21, .X (fMD (fPR (fPN lo) (fPN hi)) vx vl vw vc) 12)::(22, .Z (UF.eq vx))::(23, .Z (uI (i:Int)))::(24, .Z (uI ((i+1:Nat):Int)))::(25, .Y (fQN (qAt X (i+1))))::(26, .Z (fQN (qAt X (i+1))))::(27, .Z (fPV m p))::(28, .Y (fMD (fPR (fPN lo) (fPN hi)) vx vl vw vc))::(29, .Y (fMD (fPR (fPN lo) (fPN hi)) vx vl vw vc))::(30, .X (fMD (fPR (fPN lo) (fPN hi)) vx vl vw vc) 0)::(31, .X (fMD (fPR (fPN lo) (fPN hi)) vx vl vw vc) 13)::(32, .Z (UF.eq vl))::(33, .Z (uI (i:Int)))::(34, .s (wB (wE [(llg [] LV i).1]).cf))::(35, .Z (UF.eq (llg [] LV i).1))::(36, .Z (yU (uI ((zAK (jN (qAt X i) (qAt X (i+1)) p.1 (llg [] LV i).2) p.2).1)) (uB ((zAK (jN (qAt X i) (qAt X (i+1)) p.1 (llg [] LV i).2) p.2).2))))::(9, .Z (yU (uI ((zAK (jN (qAt X i) (qAt X (i+1)) p.1 (llg [] LV i).2) p.2).1)) (uB ((zAK (jN (qAt X i) (qAt X (i+1)) p.1 (llg [] LV i).2) p.2).2))))::(37, .Z (uI ((zAK (jN (qAt X i) (qAt X (i+1)) p.1 (llg [] LV i).2) p.2).1)))::(38, .Z (uB ((zAK (jN (qAt X i) (qAt X (i+1)) p.1 (llg [] LV i).2) p.2).2)))::(7, .u (uI ((zAK (jN (qAt X i) (qAt X (i+1)) p.1 (llg [] LV i).2) p.2).1)))::(8, .u (uB ((zAK (jN (qAt X i) (qAt X (i+1)) p.1 (llg [] LV i).2) p.2).2))):: []) hmix s kI
  (oc zB<|oc (qI (C:=cg (fMD (fPR (fPN lo) (fPN hi)) vx vl vw vc)))<|oc (zK (C:=cg (fMD (fPR (fPN lo) (fPN hi)) vx vl vw vc)) 0 kI)<|oc (yE (C:=cg (fMD (fPR (fPN lo) (fPN hi)) vx vl vw vc)) 0 12 kI)<|oc (yL (C:=cg (fMD (fPR (fPN lo) (fPN hi)) vx vl vw vc)) (k:=12) kI (h:=zKF))<|oc zB<|oc (zZ (z:=3) (Cs:=qls X) (i:=i) (C:=CU.agg (fQN (qAt X i))) kI (zAS hx0) (fun v W hb h=>(yT hM.x h (s.up hb))) iiz)<|oc (zI (f:=fQN (qAt X i)) 3 kI (hz:=z5 _))<|oc zB<|oc (qI (C:=cg (fMD (fPR (fPN lo) (fPN hi)) vx vl vw vc)))<|oc (zK (C:=cg (fMD (fPR (fPN lo) (fPN hi)) vx vl vw vc)) 0 kI)<|oc (yE (C:=cg (fMD (fPR (fPN lo) (fPN hi)) vx vl vw vc)) 0 12 kI)<|oc (yL (C:=cg (fMD (fPR (fPN lo) (fPN hi)) vx vl vw vc)) (k:=12) kI (h:=zKF))<|oc zB<|oc (yM .i64 (i:Int) 1 ((i+1:Nat):Int) iiz iiz (wrap64 _ _ oP oP))<|oc (zZ (z:=3) (Cs:=qls X) (i:=i+1) (C:=CU.agg (fQN (qAt X (i+1)))) kI (zAS hx1) (fun v W hb h=>(yT hM.x h (s.up hb))) iiz)<|oc (zI (f:=fQN (qAt X (i+1))) 3 kI (hz:=z5 _))<|oc (zI (f:=fPV m p) 6 kI (hz:=jF _ _))<|oc zB<|oc (qI (C:=cg (fMD (fPR (fPN lo) (fPN hi)) vx vl vw vc)))<|oc (zK (C:=cg (fMD (fPR (fPN lo) (fPN hi)) vx vl vw vc)) 0 kI)<|oc (yE (C:=cg (fMD (fPR (fPN lo) (fPN hi)) vx vl vw vc)) 0 13 kI)<|oc (yL (C:=cg (fMD (fPR (fPN lo) (fPN hi)) vx vl vw vc)) (k:=13) kI (h:=zRn))<|oc zB<|oc (zZ (z:=1) (Cs:=lls LV) (i:=i) (C:=wE [(llg [] LV i).1]) kI (zB7 hi_) (fun v W hb h=>(yT hM.l h (s.up hb))) iiz)<|oc (jS (C:=(wE [(llg [] LV i).1]).cf) kI iiz zCh)<|oc (zAi zE zUs (fun u0 u1 u2 u3 W hb (h0:QNp (qAt X i) u0 W) (h1:QNp (qAt X (i+1)) u1 W) (h2:(fPV m p).p u2 W) (h3:u3=(llg [] LV i).1)=>zRx (m:=m) (lo:=qAt X i) (hi:=qAt X (i+1)) (p0:=p) (L:=(llg [] LV i).2) (wD h0 (hB.x _ (qU hx0))) (wD h1 (hB.x _ (qU hx1))) h2 (zMa (hB.l _ (qN hi_)) _ _ (by rw [show _=(llg [] LV i).1 from h3];exact (SF.row 6 (pns (llg [] LV i).2)).st _ _ _ (hM.lo _ (qN hi_)) (s.up hb))) hm hm0 (hB.nl _ (qN hi_)) (hT.below (s.up hb))))<|oc zB<|oc (yY (A:=(uI ((zAK (jN (qAt X i) (qAt X (i+1)) p.1 (llg [] LV i).2) p.2).1)).tS) (B:=(uB ((zAK (jN (qAt X i) (qAt X (i+1)) p.1 (llg [] LV i).2) p.2).2)).tS) iiz)<|oc (yX (A:=(uI ((zAK (jN (qAt X i) (qAt X (i+1)) p.1 (llg [] LV i).2) p.2).1)).tS) (B:=(uB ((zAK (jN (qAt X i) (qAt X (i+1)) p.1 (llg [] LV i).2) p.2).2)).tS) iiz)<|oc zF<|oc zF<|zD) fun a w2 s=> ?_
 refine zA rfl ?_
 refine zWf ?_
 refine zWf ?_
 refine zC 1 ((39, .u (uB ((zAK (jN (qAt X i) (qAt X (i+1)) p.1 (llg [] LV i).2) p.2).2))):: []) hmix s kI
  (oc zB<|zD) fun a w3 s=> ?_
 refine zA rfl ?_
 refine StS.cond s ((zAK (jN (qAt X i) (qAt X (i+1)) p.1 (llg [] LV i).2) p.2).2) iiz (fun e=> ?_) (fun e=> ?_)
 ·refine zWf ?_
  replace s:=s.drop [6]
  refine zR 2 ((40, .u (uI ((zAK (jN (qAt X i) (qAt X (i+1)) p.1 (llg [] LV i).2) p.2).1)))::(6, .u (UF.eq (.int .i8 2))):: []) s kI
   (oc zB<|oc zF<|zD) fun a w4 s=> ?_
  replace s:=s.drop [7]
  refine zS (uI ((zAK (jN (qAt X i) (qAt X (i+1)) p.1 (llg [] LV i).2) p.2).1)) rfl s kI iiz fun a w s=> ?_
  refine zA rfl ?_
  refine zWg ?_
  exact wN s (UF.eq (.int .i8 (jD X LV i p).1)) (fI (jD X LV i p).2) (t:=6) (r:=7) rfl (fun v W h=>by rw [zQv e];exact h) (fun v W h=>h)
 ·refine zWh ?_
  refine zWf ?_
  replace s:=s.drop [6]
  refine zR 2 ((41, .u (uI ((zAK (jN (qAt X i) (qAt X (i+1)) p.1 (llg [] LV i).2) p.2).1)))::(6, .u (UF.eq (.int .i8 3))):: []) s kI
   (oc zB<|oc zF<|zD) fun a w5 s=> ?_
  replace s:=s.drop [7]
  refine zS (uI ((zAK (jN (qAt X i) (qAt X (i+1)) p.1 (llg [] LV i).2) p.2).1)) rfl s kI iiz fun a w s=> ?_
  refine zA rfl ?_
  refine zWg ?_
  exact wN s (UF.eq (.int .i8 (jD X LV i p).1)) (fI (jD X LV i p).2) (t:=6) (r:=7) rfl (fun v W h=>by rw [zQw e];exact h) (fun v W h=>h)
theorem zNb (L:List Rat) (x:Rat): ∀k,0<=zH7 L x k->zH7 L x k+1<(L.length:Int)
 |0,h=>absurd h (by decide: ¬(0:Int)<=-1)
 | k+1,h=>by
  have ih:=zNb L x k
  unfold zH7 at h ⊢
  split at h
  ·rename_i e
   rw [if_pos e]
   exact ih h
  ·rename_i e
   rw [if_neg e]
   simp only [Bool.or_eq_true,not_or,decide_eq_true_eq] at e
   have:=e.1.1.2
   omega
theorem zJZ {L:List Rat} {x:Rat} (h:(qA L x).2.2=true): ∃i:Nat,(qA L x).1=(i:Int)/\i<L.length/\((qA L x).2.1=false->i+1<L.length):=by
 unfold qA at h ⊢
 split at h
 ·rename_i e
  rw [if_pos e]
  exact ⟨_,rfl,e,fun e=>by cases e⟩
 ·rename_i e
  rw [if_neg e]
  split at h
  ·cases h
  ·rename_i e2
   rw [if_neg e2]
   have h1:=zNb L x L.length oP
   exact ⟨(zH7 L x L.length).toNat,by show zH7 L x L.length=_;omega,by omega,fun _=>by omega⟩
def zEq (X:List Rat) (LV:List (Wn×List V2)) (WV:List (Wn×List Rat)) (p:V2):Option (Int×Int×Int):=
 if (qA X p.1).2.1=true then
  if (!(qA X p.1).2.2||decide ((qA X p.1).1≥(WV.length:Int)))=true then none else some ((jC WV (qA X p.1).1.toNat p).1,(qA X p.1).1,(jC WV (qA X p.1).1.toNat p).2)
 else if (!(qA X p.1).2.2||decide ((qA X p.1).1≥(LV.length:Int)))=true then none else some ((jD X LV (qA X p.1).1.toNat p).1,(qA X p.1).1,(jD X LV (qA X p.1).1.toNat p).2)
def qO (X:List Rat) (LV:List (Wn×List V2)) (WV:List (Wn×List Rat)) (CV:List zAb) (p:V2):Int×Int:=match zEq X LV WV p with
 |none=>(-1,270)
 |some (k,a,r)=>if decide (zEJ CV k a r≥0)=true then (zEJ CV k a r,0) else (-1,270)
theorem zCZ {X:List Rat} {LV:List (Wn×List V2)} {WV:List (Wn×List Rat)} {CV:List zAb} {p:V2} (h:zEq X LV WV p=none):qO X LV WV CV p=(-1,270):=by unfold qO;rw [h]
theorem zGI {X:List Rat} {LV:List (Wn×List V2)} {WV:List (Wn×List Rat)} {CV:List zAb} {p:V2} {k a r:Int} (h:zEq X LV WV p=some (k,a,r)) (e:decide (zEJ CV k a r≥0)=true):qO X LV WV CV p=(zEJ CV k a r,0):=by unfold qO;rw [h];exact if_pos e
theorem zGJ {X:List Rat} {LV:List (Wn×List V2)} {WV:List (Wn×List Rat)} {CV:List zAb} {p:V2} {k a r:Int} (h:zEq X LV WV p=some (k,a,r)) (e:decide (zEJ CV k a r≥0)=false):qO X LV WV CV p=(-1,270):=by unfold qO;rw [h];exact if_neg (by rw [e];decide)
theorem zRA {m ba:Nat} {W:Wm} {z:Wn} {lo hi p:V2} {vx vl vw vc:Wn} {X:List Rat} {LV:List (Wn×List V2)} {WV:List (Wn×List Rat)} {CV:List zAb} (h1:(wB (cg (fMD (fPR (fPN lo) (fPN hi)) vx vl vw vc))).p (pO ba 0) W) (h3:(fPV m p).p z W) (hM:MOk W vx vl vw vc X LV WV CV) (hB:MBd m X LV WV CV) (hm:m<=100) (hm0:0<m) (hT:Tab W):Calls prog 25 #[pO ba 0,z] W (Ret W (yU (fI (qO X LV WV CV p).1) (fI (qO X LV WV CV p).2)).tS):=by
 refine z9 [wG ba (cg (fMD (fPR (fPN lo) (fPN hi)) vx vl vw vc)),(fPV m p).tS] func25 rfl kI ⟨⟨rfl,h1⟩,h3,trivial⟩ fun a s=> ?_
 replace s:=s.renew [(0, .o (wG ba (cg (fMD (fPR (fPN lo) (fPN hi)) vx vl vw vc)))),(1, .u (fPV m p))] (fmz ⟨.inl (.head _),fmz ⟨.inr ⟨_,rfl,mz1⟩,fnz⟩⟩)
 refine zWf ?_
 refine zC 0 [] hmix s kI
  zD fun a w1 s=> ?_
 refine yD (CU.agg (fPV m p)) rfl s kI (fun v W h=>zAB h) fun b3 a w s=> ?_
 refine zS (uI 0) rfl s kI iiz fun a w s=> ?_
 refine zS (uI 0) rfl s kI iiz fun a w s=> ?_
 refine zA rfl ?_
 refine zWf ?_
 refine zC 15 ((15, .s (wG ba (cg (fMD (fPR (fPN lo) (fPN hi)) vx vl vw vc))))::(16, .Y (fMD (fPR (fPN lo) (fPN hi)) vx vl vw vc))::(17, .X (fMD (fPR (fPN lo) (fPN hi)) vx vl vw vc) 0)::(18, .X (fMD (fPR (fPN lo) (fPN hi)) vx vl vw vc) 12)::(19, .Z (UF.eq vx))::(20, .X (fPV m p) 0)::(21, .Z (fRV m ((p).1)))::(22, .Z (zBu (uI ((qA X p.1).1)) (uB ((qA X p.1).2.1)) (uB ((qA X p.1).2.2))))::(14, .Z (zBu (uI ((qA X p.1).1)) (uB ((qA X p.1).2.1)) (uB ((qA X p.1).2.2))))::(23, .Z (uI ((qA X p.1).1)))::(24, .Z (uB ((qA X p.1).2.1)))::(25, .Z (uB ((qA X p.1).2.2)))::(6, .u (uI ((qA X p.1).1)))::(7, .u (uB ((qA X p.1).2.1)))::(8, .u (uB ((qA X p.1).2.2))):: []) hmix s kI
  (oc zB<|oc (qI (C:=cg (fMD (fPR (fPN lo) (fPN hi)) vx vl vw vc)))<|oc (zK (C:=cg (fMD (fPR (fPN lo) (fPN hi)) vx vl vw vc)) 0 kI)<|oc (yE (C:=cg (fMD (fPR (fPN lo) (fPN hi)) vx vl vw vc)) 0 12 kI)<|oc (yL (C:=cg (fMD (fPR (fPN lo) (fPN hi)) vx vl vw vc)) (k:=12) kI (h:=zKF))<|oc (zK (C:=cg (fPV m p)) 0 kI)<|oc (yB (C:=cg (fPV m p)) (k:=0) 3 kI (h:=zFM))<|oc (zJ zE zUz (fun u0 u1 W hb (h0:u0=vx) (h1:RVp m ((p).1) u1 W)=>zRL (m:=m) (zIt hB.x _ _ (yT hM.x h0 (s.up hb))) h1 oP hm0 hB.nx (hT.below (s.up hb))))<|oc zB<|oc (zBr (A:=(uI ((qA X p.1).1)).tS) (B:=(uB ((qA X p.1).2.1)).tS) (C:=(uB ((qA X p.1).2.2)).tS) iiz)<|oc (zBq (A:=(uI ((qA X p.1).1)).tS) (B:=(uB ((qA X p.1).2.1)).tS) (C:=(uB ((qA X p.1).2.2)).tS) iiz)<|oc (zBp (A:=(uI ((qA X p.1).1)).tS) (B:=(uB ((qA X p.1).2.1)).tS) (C:=(uB ((qA X p.1).2.2)).tS) iiz)<|oc zF<|oc zF<|oc zF<|zD) fun a w2 s=> ?_
 refine zA rfl ?_
 refine zWf ?_
 refine zC 10 ((26, .s (wG ba (cg (fMD (fPR (fPN lo) (fPN hi)) vx vl vw vc))))::(27, .Z (UF.eq (.func (.func 49) #[pO ba 0] #[])))::(28, .s (wG ba (cg (fMD (fPR (fPN lo) (fPN hi)) vx vl vw vc))))::(29, .Y (fMD (fPR (fPN lo) (fPN hi)) vx vl vw vc))::(30, .X (fMD (fPR (fPN lo) (fPN hi)) vx vl vw vc) 0)::(31, .X (fMD (fPR (fPN lo) (fPN hi)) vx vl vw vc) 13)::(32, .Z (UF.eq vl))::(33, .Z (uI ((lls LV).length:Int)))::(9, .u (UF.eq (.func (.func 49) #[pO ba 0] #[])))::(10, .u (uI ((lls LV).length:Int))):: []) hmix s kI
  (oc zB<|oc (zMk (fun _ _ h=>h.1) (fun _=>rfl))<|oc zB<|oc (qI (C:=cg (fMD (fPR (fPN lo) (fPN hi)) vx vl vw vc)))<|oc (zK (C:=cg (fMD (fPR (fPN lo) (fPN hi)) vx vl vw vc)) 0 kI)<|oc (yE (C:=cg (fMD (fPR (fPN lo) (fPN hi)) vx vl vw vc)) 0 13 kI)<|oc (yL (C:=cg (fMD (fPR (fPN lo) (fPN hi)) vx vl vw vc)) (k:=13) kI (h:=zRn))<|oc (y8 (z:=1) (Cs:=lls LV) kI (fun v W hb h=>(yT hM.l h (s.up hb))) (fun _=>rfl))<|oc zF<|oc zF<|zD) fun a w3 s=> ?_
 refine zA rfl ?_
 refine zWf ?_
 refine zWf ?_
 refine zC 1 ((34, .u (uB ((qA X p.1).2.1))):: []) hmix s kI
  (oc zB<|zD) fun a w4 s=> ?_
 refine zA rfl ?_
 refine StS.cond s ((qA X p.1).2.1) iiz (fun e=> ?_) (fun e=> ?_)
 ·have e1:=e
  replace s:=s.drop [9,10]
  refine zC 10 ((35, .s (wG ba (cg (fMD (fPR (fPN lo) (fPN hi)) vx vl vw vc))))::(36, .Z (UF.eq (.func (.func 50) #[pO ba 0] #[])))::(37, .s (wG ba (cg (fMD (fPR (fPN lo) (fPN hi)) vx vl vw vc))))::(38, .Y (fMD (fPR (fPN lo) (fPN hi)) vx vl vw vc))::(39, .X (fMD (fPR (fPN lo) (fPN hi)) vx vl vw vc) 0)::(40, .X (fMD (fPR (fPN lo) (fPN hi)) vx vl vw vc) 14)::(41, .Z (UF.eq vw))::(42, .Z (uI ((lls WV).length:Int)))::(9, .u (UF.eq (.func (.func 50) #[pO ba 0] #[])))::(10, .u (uI ((lls WV).length:Int))):: []) hmix s kI
   (oc zB<|oc (zMk (fun _ _ h=>h.1) (fun _=>rfl))<|oc zB<|oc (qI (C:=cg (fMD (fPR (fPN lo) (fPN hi)) vx vl vw vc)))<|oc (zK (C:=cg (fMD (fPR (fPN lo) (fPN hi)) vx vl vw vc)) 0 kI)<|oc (yE (C:=cg (fMD (fPR (fPN lo) (fPN hi)) vx vl vw vc)) 0 14 kI)<|oc (yL (C:=cg (fMD (fPR (fPN lo) (fPN hi)) vx vl vw vc)) (k:=14) kI (h:=zTQ))<|oc (y8 (z:=1) (Cs:=lls WV) kI (fun v W hb h=>(yT hM.w h (s.up hb))) (fun _=>rfl))<|oc zF<|oc zF<|zD) fun a w5 s=> ?_
  refine zA rfl ?_
  refine zWf ?_
  refine zWf ?_
  refine zC 7 ((43, .Z (uB ((qA X p.1).2.2)))::(44, .Z (uB (!((qA X p.1).2.2))))::(45, .Z (uB (!((qA X p.1).2.2))))::(46, .s (SF.imp ((!((qA X p.1).2.2))=false) ((uI ((qA X p.1).1)).tS)))::(47, .s (SF.imp ((!((qA X p.1).2.2))=false) ((uI ((lls WV).length:Int)).tS)))::(48, .s (SF.imp ((!((qA X p.1).2.2))=false) ((uB (decide ((qA X p.1).1≥(WV.length:Int)))).tS)))::(49, .u (uB ((!((qA X p.1).2.2))||(decide ((qA X p.1).1≥(WV.length:Int)))))):: []) hmix s kI
   (oc zB<|oc (zCA ((qA X p.1).2.2) iiz (fun _=>rfl))<|oc zB<|oc (zG 45 (!((qA X p.1).2.2)) kI iiz (fun e=>zQ [] ((uI ((qA X p.1).1)).tS) fnz (fun _ _ h _=>h) kI zB) (fun e W h=>absurd h e))<|oc (zG 45 (!((qA X p.1).2.2)) kI iiz (fun e=>zQ [] ((uI ((lls WV).length:Int)).tS) fnz (fun _ _ h _=>h) kI zB) (fun e W h=>absurd h e))<|oc (zG 45 (!((qA X p.1).2.2)) kI iiz (fun e=>zQ [(46,(uI ((qA X p.1).1)).tS),(47,(uI ((lls WV).length:Int)).tS)] ((uB (decide ((qA X p.1).1≥(WV.length:Int)))).tS) (fmz ⟨fun v W h=>zL (c:=(!((qA X p.1).2.2))=false) (f:=(uI ((qA X p.1).1)).tS) e h,fmz ⟨fun v W h=>zL (c:=(!((qA X p.1).2.2))=false) (f:=(uI ((lls WV).length:Int)).tS) e h,fnz⟩⟩) (fun _ _ h _=>h) kI (zO .i64 ((qA X p.1).1) ((lls WV).length:Int) (decide ((qA X p.1).1≥(WV.length:Int))) iiz iiz (by show decide (_≥_)=_;rw [zBC]) rfl)) (fun e W h=>absurd h e))<|oc (yO (!((qA X p.1).2.2)) iiz (fun e v W h=>zCz h e) (fun e v W h=>zBJ (zL e h) e))<|zD) fun a w6 s=> ?_
  refine zA rfl ?_
  refine StS.cond s ((!((qA X p.1).2.2))||(decide ((qA X p.1).1≥(WV.length:Int)))) iiz (fun e=> ?_) (fun e=> ?_)
  ·have e2:=e
   have hsk:zEq X LV WV p=none:=by unfold zEq;rw [if_pos e1];exact if_pos e2
   refine zWf ?_
   replace s:=s.drop [4,5]
   refine zC 2 ((4, .u (uI (-1)))::(5, .u (uI 270)):: []) hmix s kI
    (oc zF<|oc zF<|zD) fun a w7 s=> ?_
   refine zA rfl ?_
   refine zWg ?_
   exact wN s (fI (qO X LV WV CV p).1) (fI (qO X LV WV CV p).2) (t:=4) (r:=5) rfl (fun v W h=>by rw [zCZ hsk];exact h) (fun v W h=>by rw [zCZ hsk];exact h)
  ·have e2:=e
   have e3:=e2
   rw [zWy] at e3
   have hok:(qA X p.1).2.2=true:=by cases h:(qA X p.1).2.2<;>simp_all
   obtain ⟨i,hiz,hx0,hx1'⟩:=zJZ hok
   have hi_:i<WV.length:=by have h7:=zWk e3.2;rw [hiz] at h7;omega
   have hsk:zEq X LV WV p=some ((jC WV i p).1,(qA X p.1).1,(jC WV i p).2):=by
    unfold zEq;rw [if_pos e1,if_neg (by rw [e2];decide),hiz];rfl
   refine zWh ?_
   refine zWf ?_
   refine zC 9 ((51, .Z (UF.eq (.func (.func 50) #[pO ba 0] #[])))::(52, .Z (uI ((qA X p.1).1)))::(53, .Z (fPV m p))::(54, .Z (yU (UF.eq (.int .i8 (jC WV i p).1)) (uI ((jC WV i p).2))))::(50, .Z (yU (UF.eq (.int .i8 (jC WV i p).1)) (uI ((jC WV i p).2))))::(55, .Z (UF.eq (.int .i8 (jC WV i p).1)))::(56, .Z (uI ((jC WV i p).2)))::(11, .u (UF.eq (.int .i8 (jC WV i p).1)))::(12, .u (uI ((jC WV i p).2))):: []) hmix s kI
    (oc zB<|oc zB<|oc (zI (f:=fPV m p) 6 kI (hz:=jF _ _))<|oc (zMj zE zUx iiz (fun u v W hb (hu:u= .int .i64 ((qA X p.1).1)) (hv:(fPV m p).p v W)=>zRq (m:=m) (i:=i) ((wB _).st _ _ _ h1 (s.up hb)) (by rw [show u=_ from hu,hiz]) hv hi_ (hM.below (s.up hb)) hB hm hm0 (hT.below (s.up hb))))<|oc zB<|oc (yY (A:=(UF.eq (.int .i8 (jC WV i p).1)).tS) (B:=(uI ((jC WV i p).2)).tS) iiz)<|oc (yX (A:=(UF.eq (.int .i8 (jC WV i p).1)).tS) (B:=(uI ((jC WV i p).2)).tS) iiz)<|oc zF<|oc zF<|zD) fun a w8 s=> ?_
   refine zA rfl ?_
   refine zWf ?_
   refine zWf ?_
   refine zC 9 ((57, .s (wG ba (cg (fMD (fPR (fPN lo) (fPN hi)) vx vl vw vc))))::(58, .Y (fMD (fPR (fPN lo) (fPN hi)) vx vl vw vc))::(59, .X (fMD (fPR (fPN lo) (fPN hi)) vx vl vw vc) 0)::(60, .Z (fMD (fPR (fPN lo) (fPN hi)) vx vl vw vc))::(61, .Z (UF.eq (.int .i8 (jC WV i p).1)))::(62, .Z (uI ((qA X p.1).1)))::(63, .Z (uI ((jC WV i p).2)))::(64, .Z (uI (zEJ CV (jC WV i p).1 (qA X p.1).1 (jC WV i p).2)))::(13, .u (uI (zEJ CV (jC WV i p).1 (qA X p.1).1 (jC WV i p).2))):: []) hmix s kI
    (oc zB<|oc (qI (C:=cg (fMD (fPR (fPN lo) (fPN hi)) vx vl vw vc)))<|oc (zK (C:=cg (fMD (fPR (fPN lo) (fPN hi)) vx vl vw vc)) 0 kI)<|oc (yB (C:=cg (fMD (fPR (fPN lo) (fPN hi)) vx vl vw vc)) (k:=0) 16 kI (h:=zJL))<|oc zB<|oc zB<|oc zB<|oc (zAi zE zS9 (fun u0 u1 u2 u3 W hb (h0:(fMD (fPR (fPN lo) (fPN hi)) vx vl vw vc).p u0 W) (h1:u1= .int .i8 (jC WV i p).1) (h2:u2= .int .i64 ((qA X p.1).1)) (h3:u3= .int .i64 ((jC WV i p).2))=>zSI (k:=(jC WV i p).1) (a0:=(qA X p.1).1) (r0:=(jC WV i p).2) h0 (hM.below (s.up hb)) h1 h2 h3 hB.nc))<|oc zF<|zD) fun a w9 s=> ?_
   refine zA rfl ?_
   refine zWf ?_
   refine zC 2 ((65, .Z (uI (zEJ CV (jC WV i p).1 (qA X p.1).1 (jC WV i p).2)))::(66, .u (uB (decide ((zEJ CV (jC WV i p).1 (qA X p.1).1 (jC WV i p).2)≥0)))):: []) hmix s kI
    (oc zB<|oc (zO .i64 (zEJ CV (jC WV i p).1 (qA X p.1).1 (jC WV i p).2) 0 (decide ((zEJ CV (jC WV i p).1 (qA X p.1).1 (jC WV i p).2)≥0)) iiz iiz rfl rfl)<|zD) fun a w10 s=> ?_
   refine zA rfl ?_
   refine StS.cond s (decide ((zEJ CV (jC WV i p).1 (qA X p.1).1 (jC WV i p).2)≥0)) iiz (fun e=> ?_) (fun e=> ?_)
   ·refine zWf ?_
    replace s:=s.drop [4,5]
    refine zC 3 ((67, .Z (uI (zEJ CV (jC WV i p).1 (qA X p.1).1 (jC WV i p).2)))::(4, .u (uI (zEJ CV (jC WV i p).1 (qA X p.1).1 (jC WV i p).2)))::(5, .u (uI 0)):: []) hmix s kI
     (oc zB<|oc zF<|oc zF<|zD) fun a w11 s=> ?_
    refine zA rfl ?_
    refine zWg ?_
    exact wN s (fI (qO X LV WV CV p).1) (fI (qO X LV WV CV p).2) (t:=4) (r:=5) rfl (fun v W h=>by rw [zGI hsk e];exact h) (fun v W h=>by rw [zGI hsk e];exact h)
   ·refine zWh ?_
    refine zWf ?_
    replace s:=s.drop [4,5]
    refine zC 2 ((4, .u (uI (-1)))::(5, .u (uI 270)):: []) hmix s kI
     (oc zF<|oc zF<|zD) fun a w12 s=> ?_
    refine zA rfl ?_
    refine zWg ?_
    exact wN s (fI (qO X LV WV CV p).1) (fI (qO X LV WV CV p).2) (t:=4) (r:=5) rfl (fun v W h=>by rw [zGJ hsk e];exact h) (fun v W h=>by rw [zGJ hsk e];exact h)
 ·have e1:=e
  refine zWh ?_
  refine zWf ?_
  refine zWf ?_
  refine zC 7 ((43, .Z (uB ((qA X p.1).2.2)))::(44, .Z (uB (!((qA X p.1).2.2))))::(45, .Z (uB (!((qA X p.1).2.2))))::(46, .s (SF.imp ((!((qA X p.1).2.2))=false) ((uI ((qA X p.1).1)).tS)))::(47, .s (SF.imp ((!((qA X p.1).2.2))=false) ((uI ((lls LV).length:Int)).tS)))::(48, .s (SF.imp ((!((qA X p.1).2.2))=false) ((uB (decide ((qA X p.1).1≥(LV.length:Int)))).tS)))::(49, .u (uB ((!((qA X p.1).2.2))||(decide ((qA X p.1).1≥(LV.length:Int)))))):: []) hmix s kI
   (oc zB<|oc (zCA ((qA X p.1).2.2) iiz (fun _=>rfl))<|oc zB<|oc (zG 45 (!((qA X p.1).2.2)) kI iiz (fun e=>zQ [] ((uI ((qA X p.1).1)).tS) fnz (fun _ _ h _=>h) kI zB) (fun e W h=>absurd h e))<|oc (zG 45 (!((qA X p.1).2.2)) kI iiz (fun e=>zQ [] ((uI ((lls LV).length:Int)).tS) fnz (fun _ _ h _=>h) kI zB) (fun e W h=>absurd h e))<|oc (zG 45 (!((qA X p.1).2.2)) kI iiz (fun e=>zQ [(46,(uI ((qA X p.1).1)).tS),(47,(uI ((lls LV).length:Int)).tS)] ((uB (decide ((qA X p.1).1≥(LV.length:Int)))).tS) (fmz ⟨fun v W h=>zL (c:=(!((qA X p.1).2.2))=false) (f:=(uI ((qA X p.1).1)).tS) e h,fmz ⟨fun v W h=>zL (c:=(!((qA X p.1).2.2))=false) (f:=(uI ((lls LV).length:Int)).tS) e h,fnz⟩⟩) (fun _ _ h _=>h) kI (zO .i64 ((qA X p.1).1) ((lls LV).length:Int) (decide ((qA X p.1).1≥(LV.length:Int))) iiz iiz (by show decide (_≥_)=_;rw [zBC]) rfl)) (fun e W h=>absurd h e))<|oc (yO (!((qA X p.1).2.2)) iiz (fun e v W h=>zCz h e) (fun e v W h=>zBJ (zL e h) e))<|zD) fun a w13 s=> ?_
  refine zA rfl ?_
  refine StS.cond s ((!((qA X p.1).2.2))||(decide ((qA X p.1).1≥(LV.length:Int)))) iiz (fun e=> ?_) (fun e=> ?_)
  ·have e2:=e
   have hsk:zEq X LV WV p=none:=by unfold zEq;rw [if_neg (by rw [e1];decide)];exact if_pos e2
   refine zWf ?_
   replace s:=s.drop [4,5]
   refine zC 2 ((4, .u (uI (-1)))::(5, .u (uI 270)):: []) hmix s kI
    (oc zF<|oc zF<|zD) fun a w14 s=> ?_
   refine zA rfl ?_
   refine zWg ?_
   exact wN s (fI (qO X LV WV CV p).1) (fI (qO X LV WV CV p).2) (t:=4) (r:=5) rfl (fun v W h=>by rw [zCZ hsk];exact h) (fun v W h=>by rw [zCZ hsk];exact h)
  ·have e2:=e
   have e3:=e2
   rw [zWy] at e3
   have hok:(qA X p.1).2.2=true:=by cases h:(qA X p.1).2.2<;>simp_all
   obtain ⟨i,hiz,hx0,hx1'⟩:=zJZ hok
   have hi_:i<LV.length:=by have h7:=zWk e3.2;rw [hiz] at h7;omega
   have hx1:=hx1' e1
   have hsk:zEq X LV WV p=some ((jD X LV i p).1,(qA X p.1).1,(jD X LV i p).2):=by
    unfold zEq;rw [if_neg (by rw [e1];decide),if_neg (by rw [e2];decide),hiz];rfl
   refine zWh ?_
   refine zWf ?_
   refine zC 9 ((51, .Z (UF.eq (.func (.func 49) #[pO ba 0] #[])))::(52, .Z (uI ((qA X p.1).1)))::(53, .Z (fPV m p))::(54, .Z (yU (UF.eq (.int .i8 (jD X LV i p).1)) (uI ((jD X LV i p).2))))::(50, .Z (yU (UF.eq (.int .i8 (jD X LV i p).1)) (uI ((jD X LV i p).2))))::(55, .Z (UF.eq (.int .i8 (jD X LV i p).1)))::(56, .Z (uI ((jD X LV i p).2)))::(11, .u (UF.eq (.int .i8 (jD X LV i p).1)))::(12, .u (uI ((jD X LV i p).2))):: []) hmix s kI
    (oc zB<|oc zB<|oc (zI (f:=fPV m p) 6 kI (hz:=jF _ _))<|oc (zMj zE zUy iiz (fun u v W hb (hu:u= .int .i64 ((qA X p.1).1)) (hv:(fPV m p).p v W)=>zRt (m:=m) (i:=i) ((wB _).st _ _ _ h1 (s.up hb)) (by rw [show u=_ from hu,hiz]) hv hi_ hx1 (hM.below (s.up hb)) hB hm hm0 (hT.below (s.up hb))))<|oc zB<|oc (yY (A:=(UF.eq (.int .i8 (jD X LV i p).1)).tS) (B:=(uI ((jD X LV i p).2)).tS) iiz)<|oc (yX (A:=(UF.eq (.int .i8 (jD X LV i p).1)).tS) (B:=(uI ((jD X LV i p).2)).tS) iiz)<|oc zF<|oc zF<|zD) fun a w15 s=> ?_
   refine zA rfl ?_
   refine zWf ?_
   refine zWf ?_
   refine zC 9 ((57, .s (wG ba (cg (fMD (fPR (fPN lo) (fPN hi)) vx vl vw vc))))::(58, .Y (fMD (fPR (fPN lo) (fPN hi)) vx vl vw vc))::(59, .X (fMD (fPR (fPN lo) (fPN hi)) vx vl vw vc) 0)::(60, .Z (fMD (fPR (fPN lo) (fPN hi)) vx vl vw vc))::(61, .Z (UF.eq (.int .i8 (jD X LV i p).1)))::(62, .Z (uI ((qA X p.1).1)))::(63, .Z (uI ((jD X LV i p).2)))::(64, .Z (uI (zEJ CV (jD X LV i p).1 (qA X p.1).1 (jD X LV i p).2)))::(13, .u (uI (zEJ CV (jD X LV i p).1 (qA X p.1).1 (jD X LV i p).2))):: []) hmix s kI
    (oc zB<|oc (qI (C:=cg (fMD (fPR (fPN lo) (fPN hi)) vx vl vw vc)))<|oc (zK (C:=cg (fMD (fPR (fPN lo) (fPN hi)) vx vl vw vc)) 0 kI)<|oc (yB (C:=cg (fMD (fPR (fPN lo) (fPN hi)) vx vl vw vc)) (k:=0) 16 kI (h:=zJL))<|oc zB<|oc zB<|oc zB<|oc (zAi zE zS9 (fun u0 u1 u2 u3 W hb (h0:(fMD (fPR (fPN lo) (fPN hi)) vx vl vw vc).p u0 W) (h1:u1= .int .i8 (jD X LV i p).1) (h2:u2= .int .i64 ((qA X p.1).1)) (h3:u3= .int .i64 ((jD X LV i p).2))=>zSI (k:=(jD X LV i p).1) (a0:=(qA X p.1).1) (r0:=(jD X LV i p).2) h0 (hM.below (s.up hb)) h1 h2 h3 hB.nc))<|oc zF<|zD) fun a w16 s=> ?_
   refine zA rfl ?_
   refine zWf ?_
   refine zC 2 ((65, .Z (uI (zEJ CV (jD X LV i p).1 (qA X p.1).1 (jD X LV i p).2)))::(66, .u (uB (decide ((zEJ CV (jD X LV i p).1 (qA X p.1).1 (jD X LV i p).2)≥0)))):: []) hmix s kI
    (oc zB<|oc (zO .i64 (zEJ CV (jD X LV i p).1 (qA X p.1).1 (jD X LV i p).2) 0 (decide ((zEJ CV (jD X LV i p).1 (qA X p.1).1 (jD X LV i p).2)≥0)) iiz iiz rfl rfl)<|zD) fun a w17 s=> ?_
   refine zA rfl ?_
   refine StS.cond s (decide ((zEJ CV (jD X LV i p).1 (qA X p.1).1 (jD X LV i p).2)≥0)) iiz (fun e=> ?_) (fun e=> ?_)
   ·refine zWf ?_
    replace s:=s.drop [4,5]
    refine zC 3 ((67, .Z (uI (zEJ CV (jD X LV i p).1 (qA X p.1).1 (jD X LV i p).2)))::(4, .u (uI (zEJ CV (jD X LV i p).1 (qA X p.1).1 (jD X LV i p).2)))::(5, .u (uI 0)):: []) hmix s kI
     (oc zB<|oc zF<|oc zF<|zD) fun a w18 s=> ?_
    refine zA rfl ?_
    refine zWg ?_
    exact wN s (fI (qO X LV WV CV p).1) (fI (qO X LV WV CV p).2) (t:=4) (r:=5) rfl (fun v W h=>by rw [zGI hsk e];exact h) (fun v W h=>by rw [zGI hsk e];exact h)
   ·refine zWh ?_
    refine zWf ?_
    replace s:=s.drop [4,5]
    refine zC 2 ((4, .u (uI (-1)))::(5, .u (uI 270)):: []) hmix s kI
     (oc zF<|oc zF<|zD) fun a w19 s=> ?_
    refine zA rfl ?_
    refine zWg ?_
    exact wN s (fI (qO X LV WV CV p).1) (fI (qO X LV WV CV p).2) (t:=4) (r:=5) rfl (fun v W h=>by rw [zGJ hsk e];exact h) (fun v W h=>by rw [zGJ hsk e];exact h)
end Go.Proofs.Wd

namespace Go.Proofs.Wd
open Tryz
set_option maxRecDepth 100000
set_option maxHeartbeats 1000000
open Go.RowKit Lb
theorem bAt (a1 a2 a3 a4 a5 a6 a7 a8 a9 a10 a11 a12 a13 a14 a15 a16:Wn):prog.built 69 [(0, .agg #[a1,a2,a3,a4,a5,a6,a7,a8,a9,a10,a11,a12,a13,a14,a15,a16])]=some #[a1,a2,a3,a4,a5,a6,a7,a8,a9,a10,a11,a12,a13,a14,a15,a16]:=by kernel_rfl
theorem zRO {f g f' g':UF} {x l y c u:Wn} {W:Wm} (h:(fMD (fPR (fPT f g) (fPT f' g')) x l y c).p u W): ∃cells,prog.built 69 [(0,u)]=some cells/\(fMD (fPR (fPT f g) (fPT f' g')) x l y c).p (.agg cells) W:=by
 obtain ⟨p,rfl,h1,h2⟩:=id h
 have hl:=(zKy p W h1).1
 match p,hl,h with
 | [a1,a2,a3,a4,a5,a6,a7,a8,a9,a10,a11,a12],_,h=>exact ⟨_,bAt a1 a2 a3 a4 a5 a6 a7 a8 a9 a10 a11 a12 x l y c,h⟩
theorem zOw {m:Nat} {p q:V2} {v:Wn} {W:Wm} (hp:QB p.1 m/\QB p.2 m) (hq:QB q.1 m/\QB q.2 m) (h:(fPR (fPN p) (fPN q)).p v W):(fPR (fPV m p) (fPV m q)).p v W:=by
 obtain ⟨a,b,e,h1,h2⟩:=h
 exact ⟨a,b,e,zCy (p:=p) (m:=m) hp.1 hp.2 h1,zCy (p:=q) (m:=m) hq.1 hq.2 h2⟩
theorem vN {w0:Wm} {K:List (Nat×KF)} {B:List Bx} {n:Nat} {a:Act} {w:Wm} {P:Program} (h:St w0 K B n [] a w) {fn:Func} {f:SF} {t r q kk:Nat} {e:TypeId} (C:CU) (hr:fn.results=#[.cell t e, .tmp r, .tmp q]) (hsz:zAn P e=some kk) {y:Bx} (hB:zFT B t=some y) (hyC:y.c=C) (hyl: ∀cs W,C.p cs W->cs.length=kk)
  (hd: ∀cs v u W,C.p cs W->(zAc K B r).p v W->(zAc K B q).p u W->f.p (.tuple #[.agg cs.toArray,v,u]) W):bodyPost P fn (Ret w0 f) .ret a w:=by
 obtain ⟨cs,b,h0,h1,h2⟩:=h.cellv hsz hB hyC hyl
 refine ⟨h.nd, .tuple #[.agg cs.toArray,a.tmps.getD r undef,a.tmps.getD q undef], ?_,⟨_,rfl,hd _ _ _ _ h2 (h.at.sl r) (h.at.sl q),h.gr.below⟩⟩
 simp [results,hr,asAddr,h0,h1]
theorem zII {m:Nat} {W:Wm} {u z:Wn} {lo hi p:V2} {vx vl vw vc:Wn} {X:List Rat} {LV:List (Wn×List V2)} {WV:List (Wn×List Rat)} {CV:List zAb} (h1:(fMD (fPR (fPN lo) (fPN hi)) vx vl vw vc).p u W) (h3:(fPV m p).p z W) (hM:MOk W vx vl vw vc X LV WV CV) (hB:MBd m X LV WV CV) (hm:m<=100) (hm0:0<m) (hT:Tab W):Calls prog 9 #[u,z] W (Ret W (yU (fI (qO X LV WV CV p).1) (fI (qO X LV WV CV p).2)).tS):=by
 refine z9 [(fMD (fPR (fPN lo) (fPN hi)) vx vl vw vc).tS,(fPV m p).tS] func9 rfl kI ⟨h1,h3,trivial⟩ fun a s=> ?_
 replace s:=s.renew [(0, .u (fMD (fPR (fPN lo) (fPN hi)) vx vl vw vc)),(1, .u (fPV m p))] (fmz ⟨.inr ⟨_,rfl, .head _⟩,fmz ⟨.inr ⟨_,rfl,mz1⟩,fnz⟩⟩)
 refine zWf ?_
 refine zC 0 [] hmix s kI
  zD fun a w1 s=> ?_
 refine yD (CU.agg (fMD (fPR (fPN lo) (fPN hi)) vx vl vw vc)) rfl s kI (fun v W h=>zDN h) fun b2 a w s=> ?_
 refine yD (CU.agg (fPV m p)) rfl s kI (fun v W h=>zAB h) fun b3 a w s=> ?_
 refine zS (uI 0) rfl s kI iiz fun a w s=> ?_
 refine zS (uI 0) rfl s kI iiz fun a w s=> ?_
 refine zA rfl ?_
 refine zWf ?_
 replace s:=s.drop [4,5]
 refine zC 2 ((6, .Z (fMD (fPR (fPN lo) (fPN hi)) vx vl vw vc))::(7, .u (fMD (fPR (fPN lo) (fPN hi)) vx vl vw vc)):: []) hmix s kI
  (oc (zI (f:=fMD (fPR (fPN lo) (fPN hi)) vx vl vw vc) 16 kI (hz:=zDM))<|oc (zBB (fun u W (hu:(fMD (fPR (fPN lo) (fPN hi)) vx vl vw vc).p u W)=>zRO hu))<|zD) fun a w2 s=> ?_
 refine yD (CU.agg (fMD (fPR (fPN lo) (fPN hi)) vx vl vw vc)) rfl s kI (fun v W h=>zDN h) fun b8 a w s=> ?_
 refine zC0 (fPV m p) rfl s kI (zI (f:=fPV m p) 6 kI (hz:=jF _ _)) kI fun a w s=> ?_
 refine zC0 (yU (uI ((qO X LV WV CV p).1)) (uI ((qO X LV WV CV p).2))) rfl s kI (zJ zE zUK (fun u0 u1 W hb h0 (h1:(fPV m p).p u1 W)=>(by have hh:=zRA (m:=m) (ba:=b8) (p:=p) (h0.1▸h0.2) h1 (hM.below (s.up hb)) hB hm hm0 (hT.below (s.up hb));rw [show u0=_ from h0.1];exact hh))) kI fun a w s=> ?_
 refine zC0 (uI ((qO X LV WV CV p).1)) rfl s kI (yY (A:=(uI ((qO X LV WV CV p).1)).tS) (B:=(uI ((qO X LV WV CV p).2)).tS) iiz) kI fun a w s=> ?_
 refine zC0 (uI ((qO X LV WV CV p).2)) rfl s kI (yX (A:=(uI ((qO X LV WV CV p).1)).tS) (B:=(uI ((qO X LV WV CV p).2)).tS) iiz) kI fun a w s=> ?_
 refine zS (uI ((qO X LV WV CV p).1)) rfl s kI iiz fun a w s=> ?_
 refine zS (uI ((qO X LV WV CV p).2)) rfl s kI iiz fun a w s=> ?_
 refine zA rfl ?_
 refine zWg ?_
 exact wN s (fI (qO X LV WV CV p).1) (fI (qO X LV WV CV p).2) (t:=4) (r:=5) rfl (fun v W h=>h) (fun v W h=>h)
theorem zRB {m:Nat} {W:Wm} {u z:Wn} {lo hi p:V2} {vx vl vw vc:Wn} {X:List Rat} {LV:List (Wn×List V2)} {WV:List (Wn×List Rat)} {CV:List zAb} (h1:(fMD (fPR (fPN lo) (fPN hi)) vx vl vw vc).p u W) (h3:(fPV m p).p z W) (hlo:QB lo.1 m/\QB lo.2 m) (hhi:QB hi.1 m/\QB hi.2 m) (hM:MOk W vx vl vw vc X LV WV CV) (hB:MBd m X LV WV CV) (hm:m<=100) (hm0:0<m) (hT:Tab W):Calls prog 11 #[u,z] W (Ret W (zBu (fPN (qR lo hi p)) (fI (qO X LV WV CV (qR lo hi p)).1) (fI (qO X LV WV CV (qR lo hi p)).2)).tS):=by
 have hqp:=zHt hm0 h3
 have hqc:QB (qR lo hi p).1 m/\QB (qR lo hi p).2 m:=⟨zJ8 hlo.1 hhi.1 hqp.1,zJ8 hlo.2 hhi.2 hqp.2⟩
 refine z9 [(fMD (fPR (fPN lo) (fPN hi)) vx vl vw vc).tS,(fPV m p).tS] func11 rfl kI ⟨h1,h3,trivial⟩ fun a s=> ?_
 replace s:=s.renew [(0, .u (fMD (fPR (fPN lo) (fPN hi)) vx vl vw vc)),(1, .u (fPV m p))] (fmz ⟨.inr ⟨_,rfl, .head _⟩,fmz ⟨.inr ⟨_,rfl,mz1⟩,fnz⟩⟩)
 refine zWf ?_
 refine zC 0 [] hmix s kI
  zD fun a w1 s=> ?_
 refine yD (CU.agg (fMD (fPR (fPN lo) (fPN hi)) vx vl vw vc)) rfl s kI (fun v W h=>zDN h) fun b2 a w s=> ?_
 refine yD (CU.agg (fPV m p)) rfl s kI (fun v W h=>zAB h) fun b3 a w s=> ?_
 refine z4 (CU.len 6) (cs:=zP6) kI rfl s kI (fun W=>rfl) rfl fun b4 a w s=> ?_
 refine zS (uI 0) rfl s kI iiz fun a w s=> ?_
 refine zS (uI 0) rfl s kI iiz fun a w s=> ?_
 refine zA rfl ?_
 refine zWf ?_
 refine zC 4 ((7, .X (fMD (fPR (fPN lo) (fPN hi)) vx vl vw vc) 0)::(8, .Z (fPR (fPN lo) (fPN hi)))::(9, .Z (fPV m p))::(10, .u (fPN (qR lo hi p))):: []) hmix s kI
  (oc (zK (C:=cg (fMD (fPR (fPN lo) (fPN hi)) vx vl vw vc)) 0 kI)<|oc (yB (C:=cg (fMD (fPR (fPN lo) (fPN hi)) vx vl vw vc)) (k:=0) 12 kI (h:=zJN))<|oc (zI (f:=fPV m p) 6 kI (hz:=jF _ _))<|oc (zJ zE zUJ (fun u0 u1 W hb (h0:(fPR (fPN lo) (fPN hi)).p u0 W) (h1:(fPV m p).p u1 W)=>zO1 (m:=m) (zOw hlo hhi h0) h1 oP hm0 (hT.below (s.up hb))))<|zD) fun a w2 s=> ?_
 refine zN (CU.agg (fPN (qR lo hi p))) ((fPN (qR lo hi p)).tS) rfl s kI rfl rfl rfl iiz iiz zBo fun a w s=> ?_
 refine zA rfl ?_
 refine zWf ?_
 replace s:=s.drop [5,6]
 refine zC 8 ((12, .Z (fMD (fPR (fPN lo) (fPN hi)) vx vl vw vc))::(13, .Z (fPN (qR lo hi p)))::(14, .Z (yU (uI ((qO X LV WV CV (qR lo hi p)).1)) (uI ((qO X LV WV CV (qR lo hi p)).2))))::(11, .Z (yU (uI ((qO X LV WV CV (qR lo hi p)).1)) (uI ((qO X LV WV CV (qR lo hi p)).2))))::(15, .Z (uI ((qO X LV WV CV (qR lo hi p)).1)))::(16, .Z (uI ((qO X LV WV CV (qR lo hi p)).2)))::(5, .u (uI ((qO X LV WV CV (qR lo hi p)).1)))::(6, .u (uI ((qO X LV WV CV (qR lo hi p)).2))):: []) hmix s kI
  (oc (zI (f:=fMD (fPR (fPN lo) (fPN hi)) vx vl vw vc) 16 kI (hz:=zDM))<|oc (zI (f:=fPN (qR lo hi p)) 6 kI (hz:=jF _ _))<|oc (zJ zE zUq (fun u0 u1 W hb (h0:(fMD (fPR (fPN lo) (fPN hi)) vx vl vw vc).p u0 W) (h1:(fPN (qR lo hi p)).p u1 W)=>zII (m:=m) (p:=(qR lo hi p)) h0 (zCy (p:=(qR lo hi p)) (m:=m) hqc.1 hqc.2 h1) (hM.below (s.up hb)) hB hm hm0 (hT.below (s.up hb))))<|oc zB<|oc (yY (A:=(uI ((qO X LV WV CV (qR lo hi p)).1)).tS) (B:=(uI ((qO X LV WV CV (qR lo hi p)).2)).tS) iiz)<|oc (yX (A:=(uI ((qO X LV WV CV (qR lo hi p)).1)).tS) (B:=(uI ((qO X LV WV CV (qR lo hi p)).2)).tS) iiz)<|oc zF<|oc zF<|zD) fun a w3 s=> ?_
 refine zA rfl ?_
 refine zWf ?_
 refine zR 3 ((17, .u (fPN (qR lo hi p)))::(18, .u (uI ((qO X LV WV CV (qR lo hi p)).1)))::(19, .u (uI ((qO X LV WV CV (qR lo hi p)).2))):: []) s kI
  (oc (zI (f:=fPN (qR lo hi p)) 6 kI (hz:=jF _ _))<|oc zB<|oc zB<|zD) fun a w4 s=> ?_
 refine zN (CU.agg (fPN (qR lo hi p))) ((fPN (qR lo hi p)).tS) rfl s kI rfl rfl rfl (jF _ _) iiz zBo fun a w s=> ?_
 replace s:=s.drop [5]
 refine zS (uI ((qO X LV WV CV (qR lo hi p)).1)) rfl s kI iiz fun a w s=> ?_
 replace s:=s.drop [6]
 refine zS (uI ((qO X LV WV CV (qR lo hi p)).2)) rfl s kI iiz fun a w s=> ?_
 refine zA rfl ?_
 refine zWg ?_
 exact vN s (CU.agg (fPN (qR lo hi p))) rfl kI rfl rfl (jF _ _) (fun cs v u W h1 h2 h3=>⟨_,_,_,rfl,h1,h2,h3⟩)
end Go.Proofs.Wd

namespace Go.Proofs.Wd
open Tryz
set_option maxRecDepth 100000
set_option maxHeartbeats 1000000
open Go.RowKit Lb
def zGA (lo hi x:Rat) (l:V2):Rat×Int:=if decide (qsg lo hi≥0)=true then (((0:Int):Rat),2) else (zDn lo hi x l,0)
theorem zHL {lo hi x:Rat} {l:V2} (h:decide (qsg lo hi≥0)=true):zGA lo hi x l=(((0:Int):Rat),2):=if_pos h
theorem zHM {lo hi x:Rat} {l:V2} (h:decide (qsg lo hi≥0)=false):zGA lo hi x l=(zDn lo hi x l,0):=if_neg (by rw [h];decide)
theorem zE7 {m:Nat} {W:Wm} {u v z y:Wn} {lo hi x:Rat} {l0:V2} (h0:(fPV m l0).p y W) (h1:RVp m lo u W) (h2:RVp m hi v W) (h3:RVp m x z W) (hm:m<=100) (hm0:0<m):Calls prog 110 #[y,u,v,z] W (Ret W (yU (fQN (zGA lo hi x l0).1) (fI (zGA lo hi x l0).2)).tS):=by
 have q1:=h1.qb hm0
 have q2:=h2.qb hm0
 have q3:=h3.qb hm0
 have hl:=zHt hm0 h0
 refine z9 [(fPV m l0).tS,(fRV m lo).tS,(fRV m hi).tS,(fRV m x).tS] func110 rfl kI ⟨h0,h1,h2,h3,trivial⟩ fun a s=> ?_
 refine zWf ?_
 refine zC 0 [] hmix s kI
  zD fun a w1 s=> ?_
 refine yD (CU.agg (fPV m l0)) rfl s kI (fun v W h=>zAB h) fun b4 a w s=> ?_
 refine yD (CU.agg (fRV m lo)) rfl s kI (fun v W h=>y6 h) fun b5 a w s=> ?_
 refine yD (CU.agg (fRV m hi)) rfl s kI (fun v W h=>y6 h) fun b6 a w s=> ?_
 refine yD (CU.agg (fRV m x)) rfl s kI (fun v W h=>y6 h) fun b7 a w s=> ?_
 refine z4 (CU.len 3) (cs:=zR3) kI rfl s kI (fun W=>rfl) rfl fun b8 a w s=> ?_
 refine zS (uI 0) rfl s kI iiz fun a w s=> ?_
 refine zA rfl ?_
 refine zWf ?_
 refine zWf ?_
 refine zC 4 ((12, .Z (fRV m lo))::(13, .Z (fRV m hi))::(14, .Z (uI (qsg lo hi)))::(15, .u (uB (decide (qsg lo hi≥0)))):: []) hmix s kI
  (oc (zI (f:=fRV m lo) 3 kI (hz:=zT _ _))<|oc (zI (f:=fRV m hi) 3 kI (hz:=zT _ _))<|oc (zJ zE zJX (fun u0 u1 W hb (h0:RVp m lo u0 W) (h1:RVp m hi u1 W)=>zAZ (m:=m) h0 h1 oP hm0))<|oc (zO .i64 (qsg lo hi) 0 (decide (qsg lo hi≥0)) iiz iiz rfl rfl)<|zD) fun a w2 s=> ?_
 refine zA rfl ?_
 refine StS.cond s (decide (qsg lo hi≥0)) iiz (fun e=> ?_) (fun e=> ?_)
 ·refine zWf ?_
  replace s:=s.drop [9]
  refine zC 1 ((16, .u (fQN ((0:Int):Rat))):: []) hmix s kI
   (oc (zH zE zDT (fun u0 W hb (h0:u0= .int .i64 0)=>zBI 0 h0 dB))<|zD) fun a w3 s=> ?_
  refine zN (CU.agg (fQN ((0:Int):Rat))) ((fQN ((0:Int):Rat)).tS) rfl s kI rfl rfl rfl iiz iiz zU fun a w s=> ?_
  refine zS (uI 2) rfl s kI iiz fun a w s=> ?_
  refine zA rfl ?_
  refine zWg ?_
  exact wK s (CU.agg (fQN ((0:Int):Rat))) rfl kI rfl rfl (z5 _) (fun cs v W h1 h2=>by rw [zHL e];exact ⟨_,_,rfl,h1,h2⟩)
 ·refine zWh ?_
  refine zWf ?_
  have so:=s.old;have sg:=s.gr
  refine qL [9] [⟨10,10,27, [.bool false, .slice none 0 0, .slice none 0 0],wH w2 27 (CU.len 3)⟩] 11 ((18, .Z (fRV m x))::(19, .Z (fRV m lo))::(20, .Z (fQN (x - lo)))::(21, .Z (fRV m hi))::(22, .Z (fRV m lo))::(23, .Z (fQN (hi - lo)))::(24, .Z (yU (fQN ((x - lo) / (hi - lo))) (uI (if hi - lo=0 then 30 else 0))))::(17, .Z (yU (fQN ((x - lo) / (hi - lo))) (uI (if hi - lo=0 then 30 else 0))))::(25, .u (fQN ((x - lo) / (hi - lo))))::(26, .u (uI (if hi - lo=0 then 30 else 0)))::(10, .s (wH w2 27 (CU.len 3))):: []) hmix s (fmz ⟨⟨by show 10<11;decide,zGp,⟨_,_,_,rfl⟩,by kernel_rfl,jI (fun _=>rfl) rfl⟩,fnz⟩) kI
   (oc (zI (f:=fRV m x) 3 kI (hz:=zT _ _))<|oc (zI (f:=fRV m lo) 3 kI (hz:=zT _ _))<|oc (zJ zE zM0 (fun u0 u1 W hb (h0:RVp m x u0 W) (h1:RVp m lo u1 W)=>zE5 (m:=m) h0 h1 oP hm0))<|oc (zI (f:=fRV m hi) 3 kI (hz:=zT _ _))<|oc (zI (f:=fRV m lo) 3 kI (hz:=zT _ _))<|oc (zJ zE zM0 (fun u0 u1 W hb (h0:RVp m hi u0 W) (h1:RVp m lo u1 W)=>zE5 (m:=m) h0 h1 oP hm0))<|oc (zJ zE zTr (fun u0 u1 W hb (h0:QNp (x - lo) u0 W) (h1:QNp (hi - lo) u1 W)=>zQU (m:=(2*m+1)) (wD h0 (zCm q3 q1)) (wD h1 (zCm q2 q1)) oP oP))<|oc zB<|oc (yY (A:=(fQN ((x - lo) / (hi - lo))).tS) (B:=(uI (if hi - lo=0 then 30 else 0)).tS) iiz)<|oc (yX (A:=(fQN ((x - lo) / (hi - lo))).tS) (B:=(uI (if hi - lo=0 then 30 else 0)).tS) iiz)<|oc (zAL (cs:=zR3) kI (jI (fun _=>rfl) rfl))<|zD) fun Q' hQ a w4 s hr hd=> ?_
  obtain ⟨b10,hB10,e10,s⟩:=s.adoptA false 10 (hr (_,_) zGp) sg (fun y hy=> .inl (so y hy))
  refine zN (CU.agg (fQN ((x - lo) / (hi - lo)))) ((fQN ((x - lo) / (hi - lo))).tS) rfl s kI rfl rfl rfl iiz iiz zU fun a w s=> ?_
  refine zS (uI (if hi - lo=0 then 30 else 0)) rfl s kI iiz fun a w s=> ?_
  refine zA rfl (hQ _ _ ?_)
  refine zWf ?_
  replace s:=s.drop [9]
  refine yC [] 12 ((27, .X (fPV m l0) 0)::(28, .Z (fRV m ((l0).1)))::(29, .Z (fQN ((x - lo) / (hi - lo))))::(30, .X (fPV m l0) 3)::(31, .Z (fRV m ((l0).2)))::(32, .X (fPV m l0) 0)::(33, .Z (fRV m ((l0).1)))::(34, .Z (fQN ((l0).2 - (l0).1)))::(35, .s (SF.row 3 (rvs (4*m+2) [((x - lo) / (hi - lo)),((l0).2 - (l0).1)])))::(36, .Z (fQN (((x - lo) / (hi - lo))*((l0).2 - (l0).1))))::(37, .s (SF.row 3 (rvs (6*m+3) [(l0).1,(((x - lo) / (hi - lo))*((l0).2 - (l0).1))])))::(38, .u (fQN ((l0).1+(((x - lo) / (hi - lo))*((l0).2 - (l0).1))))):: []) hmix s kI
   (oc (zK (C:=cg (fPV m l0)) 0 kI)<|oc (yB (C:=cg (fPV m l0)) (k:=0) 3 kI (h:=zFM))<|oc (zI (f:=fQN ((x - lo) / (hi - lo))) 3 kI (hz:=z5 _))<|oc (zK (C:=cg (fPV m l0)) 3 kI)<|oc (yB (C:=cg (fPV m l0)) (k:=3) 3 kI (h:=zH6))<|oc (zK (C:=cg (fPV m l0)) 0 kI)<|oc (yB (C:=cg (fPV m l0)) (k:=0) 3 kI (h:=zFM))<|oc (zJ zE zM0 (fun u0 u1 W hb (h0:RVp m ((l0).2) u0 W) (h1:RVp m ((l0).1) u1 W)=>zE5 (m:=m) h0 h1 oP hm0))<|oc (yK (fun u v W (hu:QNp ((x - lo) / (hi - lo)) u W) (hv:QNp ((l0).2 - (l0).1) v W)=>zC3 (wD hu (zD9 q1 q2 q3)) (wD hv (QB.mono (zCm hl.2 hl.1) (m':=(4*m+2)) (by first|omega|decide)))))<|oc (zH zE zTq (fun u0 W hb (h0:(SF.row 3 (rvs (4*m+2) [((x - lo) / (hi - lo)),((l0).2 - (l0).1)])).p u0 W)=>zOh (m:=(4*m+2)) (p:=((x - lo) / (hi - lo))) (q:=((l0).2 - (l0).1)) h0 (zD9 q1 q2 q3) ((zCm hl.2 hl.1).mono oP) oP))<|oc (yK (fun u v W (hu:RVp m ((l0).1) u W) (hv:QNp (((x - lo) / (hi - lo))*((l0).2 - (l0).1)) v W)=>zC3 (RVp.mono hu (m':=(6*m+3)) (by first|omega|decide)) (wD hv (zIA (zD9 q1 q2 q3) (zCm hl.2 hl.1)))))<|oc (zH zE zMZ (fun u0 W hb (h0:(SF.row 3 (rvs (6*m+3) [(l0).1,(((x - lo) / (hi - lo))*((l0).2 - (l0).1))])).p u0 W)=>zDy (m:=6*m+3) (p:=l0.1) (q:=((x - lo) / (hi - lo))*((l0).2 - (l0).1)) h0 (hl.1.mono oP) (zIA (zD9 q1 q2 q3) (zCm hl.2 hl.1)) oP))<|zD) fun Q' hQ a w5 s=> ?_
  refine zN (CU.agg (fQN ((l0).1+(((x - lo) / (hi - lo))*((l0).2 - (l0).1))))) ((fQN ((l0).1+(((x - lo) / (hi - lo))*((l0).2 - (l0).1)))).tS) rfl s kI rfl rfl rfl iiz iiz zU fun a w s=> ?_
  refine zS (uI 0) rfl s kI iiz fun a w s=> ?_
  refine zA rfl (hQ _ _ ?_)
  refine zWg ?_
  exact wK s (CU.agg (fQN ((l0).1+(((x - lo) / (hi - lo))*((l0).2 - (l0).1))))) rfl kI rfl rfl (z5 _) (fun cs v W h1 h2=>by rw [zHM e];exact ⟨_,_,rfl,h1,h2⟩)
theorem zOn {m:Nat} {W:Wm} {u v z l:Wn} {lo hi x:Rat} {L:List V2} (h1:RVp m lo u W) (h2:RVp m hi v W) (h3:RVp m x z W) (hl:(SF.row 6 (pvs m L)).p l W) (hm:m<=100) (hm0:0<m) (hn:L.length<=1000000):Calls prog 79 #[u,v,z,l] W (Ret W (wM W 27 3 (qls (jN lo hi x L)))):=by
 refine z9 [(fRV m lo).tS,(fRV m hi).tS,(fRV m x).tS,(UF.eq l).tS] func79 rfl kI ⟨h1,h2,h3,rfl,trivial⟩ fun a s=> ?_
 replace s:=s.renew [(0, .u (fRV m lo)),(1, .u (fRV m hi)),(2, .u (fRV m x)),(3, .u (UF.eq l))] (fmz ⟨.inr ⟨_,rfl, .head _⟩,fmz ⟨.inr ⟨_,rfl,mz1⟩,fmz ⟨.inr ⟨_,rfl,mz2⟩,fmz ⟨.inr ⟨_,rfl,mz3⟩,fnz⟩⟩⟩⟩)
 refine zWf ?_
 refine zC 0 [] hmix s kI
  zD fun a w1 s=> ?_
 refine yD (CU.agg (fRV m lo)) rfl s kI (fun v W h=>y6 h) fun b4 a w s=> ?_
 refine yD (CU.agg (fRV m hi)) rfl s kI (fun v W h=>y6 h) fun b5 a w s=> ?_
 refine yD (CU.agg (fRV m x)) rfl s kI (fun v W h=>y6 h) fun b6 a w s=> ?_
 refine zS (UF.eq (.slice none 0 0)) rfl s kI iiz fun a w s=> ?_
 refine zA rfl ?_
 refine zWf ?_
 refine zC 1 ((9, .u (UF.eq (.slice none 0 0))):: []) hmix s kI
  (oc zF<|zD) fun a w2 s=> ?_
 refine zA rfl ?_
 refine zWf ?_
 refine zWf ?_
 cases hc:decide (qsg lo hi≥0)
 ·refine zC 1 ((10, .u (uI 0)):: []) hmix s kI
   (oc zF<|zD) fun a w3 s=> ?_
  refine zA rfl ?_
  refine zWj ?_
  obtain ⟨base,hbase⟩: ∃b,b=w3.heap.size:=⟨_,rfl⟩
  have hb0:W.heap.size<=base:=by rw [hbase];exact s.gr.size
  have hsz0:base<=w3.heap.size:=by rw [hbase];exact zWr _
  replace s:StS _ _ _ [⟨6,27,CU.agg (fRV m x),b6,true⟩,⟨5,27,CU.agg (fRV m hi),b5,true⟩,⟨4,27,CU.agg (fRV m lo),b4,true⟩] _ _ _ _:=s.freeze
  have hbx6:b6<base:=by rw [hbase];exact s.old _ (.head _)
  have hbx5:b5<base:=by rw [hbase];exact s.old _ mz1
  have hbx4:b4<base:=by rw [hbase];exact s.old _ mz2
  refine zBO (fun (p:Nat×Wn) w=>p.1<=L.length/\base<=w.heap.size/\zAW w base 27 3 p.2 (qls ((L.take p.1).map (zDn lo hi x)))) (fun p=> [(3, .u (UF.eq l)),(9, .u (UF.eq (p.2))),(10, .u (uI (p.1:Int)))]) (fun p=>L.length - p.1) (0, .slice none 0 0) (⟨zWo _,hsz0,zAW.nil _ _ _ _⟩) (s.keepK _ (fmz ⟨mz6,fmz ⟨mz1,fmz ⟨.head _,fnz⟩⟩⟩)) fun p a w hI s=> ?_
  have s0:=s
  have hlw:=(SF.row 6 (pvs m L)).st _ _ _ hl s0.below
  replace s:=s.reb rfl [(3, .u (UF.eq l)),(9, .u (UF.eq (p.2))),(10, .u (uI (p.1:Int)))] (fmz ⟨.inl (.head _),fmz ⟨.inl mz1,fmz ⟨.inl mz2,fnz⟩⟩⟩)
  refine zWf ?_
  refine zWf ?_
  refine zC 4 ((13, .Z (uI (p.1:Int)))::(14, .Z (UF.eq l))::(15, .Z (uI ((pvs m L).length:Int)))::(16, .u (uB (decide ((p.1:Int)<((pvs m L).length:Int))))):: []) hmix s kI
   (oc zB<|oc zB<|oc (y8 (z:=6) (Cs:=pvs m L) kI (fun v W hb h=>(yT hlw h (s.up hb))) (fun _=>rfl))<|oc (zO .i64 (p.1:Int) ((pvs m L).length:Int) (decide ((p.1:Int)<((pvs m L).length:Int))) iiz iiz rfl rfl)<|zD) fun a w4 s=> ?_
  refine zA rfl ?_
  refine StS.cond s (decide ((p.1:Int)<((pvs m L).length:Int))) iiz (fun e=> ?_) (fun e=> ?_)
  ·have hk:p.1<L.length:=by have:=zWi e;simp at this;omega
   refine zWh ?_
   refine zWf ?_
   refine zWj ?_
   refine zWf ?_
   have so:=s.old;have sg:=s.gr
   refine qL [10] [⟨11,11,27, [.bool false, .slice none 0 0, .slice none 0 0],wH w4 27 (CU.len 3)⟩] 12 ((20, .Z (UF.eq l))::(21, .Z (uI (p.1:Int)))::(22, .Y (fPV m (at_ L p.1)))::(23, .Z (fPV m (at_ L p.1)))::(24, .Z (fRV m lo))::(25, .Z (fRV m hi))::(26, .Z (fRV m x))::(27, .Z (yU (fQN ((zDn lo hi x) (at_ L p.1))) (uI 0)))::(19, .Z (yU (fQN ((zDn lo hi x) (at_ L p.1))) (uI 0)))::(28, .u (fQN ((zDn lo hi x) (at_ L p.1))))::(29, .u (uI 0))::(11, .s (wH w4 27 (CU.len 3))):: []) hmix s (fmz ⟨⟨by show 11<12;decide,zNx,⟨_,_,_,rfl⟩,by kernel_rfl,jI (fun _=>rfl) rfl⟩,fnz⟩) kI
    (oc zB<|oc zB<|oc (zZ (z:=6) (Cs:=pvs m L) (i:=p.1) (C:=CU.agg (fPV m (at_ L p.1))) kI (zDa hk) (fun v W hb h=>(yT hlw h (s.up hb))) iiz)<|oc (zI (f:=fPV m (at_ L p.1)) 6 kI (hz:=jF _ _))<|oc (zI (f:=fRV m lo) 3 kI (hz:=zT _ _))<|oc (zI (f:=fRV m hi) 3 kI (hz:=zT _ _))<|oc (zI (f:=fRV m x) 3 kI (hz:=zT _ _))<|oc (zAi zE zPX (fun u0 u1 u2 u3 W hb (h0:(fPV m (at_ L p.1)).p u0 W) (h1:RVp m lo u1 W) (h2:RVp m hi u2 W) (h3:RVp m x u3 W)=>(zE7 (m:=m) (l0:=(at_ L p.1)) h0 h1 h2 h3 hm hm0).mono (wF (fun v W h=>by rw [zHM hc] at h;exact h))))<|oc zB<|oc (yY (A:=(fQN ((zDn lo hi x) (at_ L p.1))).tS) (B:=(uI 0).tS) iiz)<|oc (yX (A:=(fQN ((zDn lo hi x) (at_ L p.1))).tS) (B:=(uI 0).tS) iiz)<|oc (zAL (cs:=zR3) kI (jI (fun _=>rfl) rfl))<|zD) fun Q' hQ a w5 s hr hd=> ?_
   obtain ⟨b11,hB11,e11,s⟩:=s.adoptA false 11 (hr (_,_) zNx) sg (fun y hy=> .inl (so y hy))
   refine zN (CU.agg (fQN ((zDn lo hi x) (at_ L p.1)))) ((fQN ((zDn lo hi x) (at_ L p.1))).tS) rfl s kI rfl rfl rfl iiz iiz zU fun a w s=> ?_
   refine zS (uI 0) rfl s kI iiz fun a w s=> ?_
   refine zA rfl (hQ _ _ ?_)
   refine zWf ?_
   refine zC 2 ((30, .Z (uI 0))::(31, .u (uB true)):: []) hmix s kI
    (oc zB<|oc (zO .i64 0 0 true iiz iiz dB rfl)<|zD) fun a w6 s=> ?_
   refine zA rfl ?_
   refine StS.cond s true iiz (fun e=> ?_) (fun e=>by cases e)
   refine zA8 3 ((32, .u (UF.eq (p.2)))::(33, .Z (fQN ((zDn lo hi x) (at_ L p.1))))::(34, .s (SF.row 3 (qls [((zDn lo hi x) (at_ L p.1))]))):: []) s kI
    (oc zB<|oc (zI (f:=fQN ((zDn lo hi x) (at_ L p.1))) 3 kI (hz:=z5 _))<|oc (qB (fun u W (hu:QNp ((zDn lo hi x) (at_ L p.1)) u W)=>zI9 (jZ _) hu))<|zD) fun a w7 s hr=> ?_
   refine zFw (qls [((zDn lo hi x) (at_ L p.1))]) s0 (s.keepK [(32, .u (UF.eq (p.2))),(31, .u (uB true)),(12, .u (uI 0)),(28, .u (fQN ((zDn lo hi x) (at_ L p.1)))),(29, .u (uI 0)),(16, .u (uB (decide ((p.1:Int)<((pvs m L).length:Int))))),(3, .u (UF.eq l)),(9, .u (UF.eq (p.2))),(10, .u (uI (p.1:Int)))] (fmz ⟨.head _,fmz ⟨mz1,fmz ⟨mz2,fmz ⟨mz3,fmz ⟨mz4,fmz ⟨mz5,fmz ⟨mz6,fmz ⟨mz7,fmz ⟨mz8,fnz⟩⟩⟩⟩⟩⟩⟩⟩⟩)) hb0 hI.2 rfl kI kI kI (s.fct (.tmp 32)) (hr (_,_) mz2) (zBY _) (by simp;omega) (fun q hq hr=>by rcases zWl.1 hq with rfl|hq;cases hr;rcases zWl.1 hq with rfl|hq;exact hbx6;rcases zWl.1 hq with rfl|hq;exact hbx5;rcases zWl.1 hq with rfl|hq;exact hbx4;cases hq) fun v' a w hI' s=> ?_
   have s1:=s
   replace s:StS _ _ _ [⟨11,27,CU.agg (fQN ((zDn lo hi x) (at_ L p.1))),b11,true⟩,⟨6,27,CU.agg (fRV m x),b6,true⟩,⟨5,27,CU.agg (fRV m hi),b5,true⟩,⟨4,27,CU.agg (fRV m lo),b4,true⟩] _ _ _ _:=s.freeze
   replace s:=s.reb rfl [(35, .u (UF.eq v')),(32, .u (UF.eq (p.2))),(31, .u (uB true)),(12, .u (uI 0)),(28, .u (fQN ((zDn lo hi x) (at_ L p.1)))),(29, .u (uI 0)),(16, .u (uB (decide ((p.1:Int)<((pvs m L).length:Int))))),(3, .u (UF.eq l)),(9, .u (UF.eq (p.2))),(10, .u (uI (p.1:Int)))] (fmz ⟨.inl (.head _),fmz ⟨.inl mz1,fmz ⟨.inl mz2,fmz ⟨.inl mz3,fmz ⟨.inl mz4,fmz ⟨.inl mz5,fmz ⟨.inl mz6,fmz ⟨.inl mz7,fmz ⟨.inl mz8,fmz ⟨.inl mz9,fnz⟩⟩⟩⟩⟩⟩⟩⟩⟩⟩)
   replace s:=s.drop [9]
   refine zS (UF.eq v') rfl s kI iiz fun a w s=> ?_
   refine zA rfl ?_
   refine zR 2 ((17, .Z (uI (p.1:Int)))::(18, .u (uI ((p.1+1:Nat):Int))):: []) s kI
    (oc zB<|oc (yM .i64 (p.1:Int) 1 ((p.1+1:Nat):Int) iiz iiz (wrap64 _ _ oP oP))<|zD) fun a w8 s=> ?_
   replace s:=s.drop [10]
   refine zS (uI ((p.1+1:Nat):Int)) rfl s kI iiz fun a w s=> ?_
   refine zA rfl ?_
   replace s:=s.popB
   have hbw:=s.below
   replace s:=s1.back (s.keepK [(10, .u (uI ((p.1+1:Nat):Int))),(18, .u (uI ((p.1+1:Nat):Int))),(9, .u (UF.eq v')),(35, .u (UF.eq v')),(32, .u (UF.eq (p.2))),(31, .u (uB true)),(12, .u (uI 0)),(28, .u (fQN ((zDn lo hi x) (at_ L p.1)))),(29, .u (uI 0)),(16, .u (uB (decide ((p.1:Int)<((pvs m L).length:Int))))),(3, .u (UF.eq l))] (fmz ⟨.head _,fmz ⟨mz1,fmz ⟨mz2,fmz ⟨mz3,fmz ⟨mz4,fmz ⟨mz5,fmz ⟨mz6,fmz ⟨mz7,fmz ⟨mz8,fmz ⟨mz9,fmz ⟨zGp,fnz⟩⟩⟩⟩⟩⟩⟩⟩⟩⟩⟩)) rfl
   exact ⟨(p.1+1,v'),(by show L.length - (p.1+1)<L.length - p.1;omega),⟨hk,zWq hI'.1 hbw.size,by rw [<-zHr hk (zDn lo hi x)];exact hI'.2.below hbw⟩,s.keepK _ (fmz ⟨zGp,fmz ⟨mz2,fmz ⟨.head _,fnz⟩⟩⟩)⟩
  ·have hk:p.1=L.length:=by have h7:=zWk e;have h8:=hI.1;simp at h7;omega
   refine zWm ?_
   refine zWf ?_
   refine zC 2 ((36, .Z (UF.eq (p.2)))::(8, .u (UF.eq (p.2))):: []) hmix s kI
    (oc zB<|oc zF<|zD) fun a w9 s=> ?_
   refine zA rfl ?_
   refine zWg ?_
   exact StS.resN s s0.below (t:=8) rfl (by rw [s.val (.head _),zMO hc];have:=(hI.2.2.below s.below).mono hb0;rw [hk,List.take_length] at this;exact this)
 ·refine zC 1 ((10, .u (uI 0)):: []) hmix s kI
   (oc zF<|zD) fun a w10 s=> ?_
  refine zA rfl ?_
  refine zWj ?_
  refine q8 (fun p=>p.1<=L.length) (fun p=> [(3, .u (UF.eq l)),(9, .u (UF.eq (.slice none 0 0))),(10, .u (uI (p.1:Int)))]) (fun p=>L.length - p.1) ((0,0):Nat×Nat) (zWo _) (s.keepK _ (fmz ⟨mz6,fmz ⟨mz1,fmz ⟨.head _,fnz⟩⟩⟩)) fun p a w hx s=> ?_
  refine zWf ?_
  refine zWf ?_
  refine zC 4 ((13, .Z (uI (p.1:Int)))::(14, .Z (UF.eq l))::(15, .Z (uI ((pvs m L).length:Int)))::(16, .u (uB (decide ((p.1:Int)<((pvs m L).length:Int))))):: []) hmix s kI
   (oc zB<|oc zB<|oc (y8 (z:=6) (Cs:=pvs m L) kI (fun v W hb h=>(yT hl h (s.up hb))) (fun _=>rfl))<|oc (zO .i64 (p.1:Int) ((pvs m L).length:Int) (decide ((p.1:Int)<((pvs m L).length:Int))) iiz iiz rfl rfl)<|zD) fun a w11 s=> ?_
  refine zA rfl ?_
  refine StS.cond s (decide ((p.1:Int)<((pvs m L).length:Int))) iiz (fun e=> ?_) (fun e=> ?_)
  ·have hk:p.1<L.length:=by have:=zWi e;simp at this;omega
   refine zWh ?_
   refine zWf ?_
   refine zWj ?_
   refine zWf ?_
   have so:=s.old;have sg:=s.gr
   refine qL [10] [⟨11,11,27, [.bool false, .slice none 0 0, .slice none 0 0],wH w11 27 (CU.len 3)⟩] 12 ((20, .Z (UF.eq l))::(21, .Z (uI (p.1:Int)))::(22, .Y (fPV m (at_ L p.1)))::(23, .Z (fPV m (at_ L p.1)))::(24, .Z (fRV m lo))::(25, .Z (fRV m hi))::(26, .Z (fRV m x))::(27, .Z (yU (fQN ((0:Int):Rat)) (uI 2)))::(19, .Z (yU (fQN ((0:Int):Rat)) (uI 2)))::(28, .u (fQN ((0:Int):Rat)))::(29, .u (uI 2))::(11, .s (wH w11 27 (CU.len 3))):: []) hmix s (fmz ⟨⟨by show 11<12;decide,zNx,⟨_,_,_,rfl⟩,by kernel_rfl,jI (fun _=>rfl) rfl⟩,fnz⟩) kI
    (oc zB<|oc zB<|oc (zZ (z:=6) (Cs:=pvs m L) (i:=p.1) (C:=CU.agg (fPV m (at_ L p.1))) kI (zDa hk) (fun v W hb h=>(yT hl h (s.up hb))) iiz)<|oc (zI (f:=fPV m (at_ L p.1)) 6 kI (hz:=jF _ _))<|oc (zI (f:=fRV m lo) 3 kI (hz:=zT _ _))<|oc (zI (f:=fRV m hi) 3 kI (hz:=zT _ _))<|oc (zI (f:=fRV m x) 3 kI (hz:=zT _ _))<|oc (zAi zE zPX (fun u0 u1 u2 u3 W hb (h0:(fPV m (at_ L p.1)).p u0 W) (h1:RVp m lo u1 W) (h2:RVp m hi u2 W) (h3:RVp m x u3 W)=>(zE7 (m:=m) (l0:=(at_ L p.1)) h0 h1 h2 h3 hm hm0).mono (wF (fun v W h=>by rw [zHL hc] at h;exact h))))<|oc zB<|oc (yY (A:=(fQN ((0:Int):Rat)).tS) (B:=(uI 2).tS) iiz)<|oc (yX (A:=(fQN ((0:Int):Rat)).tS) (B:=(uI 2).tS) iiz)<|oc (zAL (cs:=zR3) kI (jI (fun _=>rfl) rfl))<|zD) fun Q' hQ a w12 s hr hd=> ?_
   obtain ⟨b11,hB11,e11,s⟩:=s.adoptA false 11 (hr (_,_) zNx) sg (fun y hy=> .inl (so y hy))
   refine zN (CU.agg (fQN ((0:Int):Rat))) ((fQN ((0:Int):Rat)).tS) rfl s kI rfl rfl rfl iiz iiz zU fun a w s=> ?_
   refine zS (uI 2) rfl s kI iiz fun a w s=> ?_
   refine zA rfl (hQ _ _ ?_)
   refine zWf ?_
   refine zC 2 ((30, .Z (uI 2))::(31, .u (uB false)):: []) hmix s kI
    (oc zB<|oc (zO .i64 2 0 false iiz iiz dB rfl)<|zD) fun a w13 s=> ?_
   refine zA rfl ?_
   refine StS.cond s false iiz (fun e=>by cases e) (fun e=> ?_)
   refine zWh ?_
   refine zR 2 ((17, .Z (uI (p.1:Int)))::(18, .u (uI ((p.1+1:Nat):Int))):: []) s kI
    (oc zB<|oc (yM .i64 (p.1:Int) 1 ((p.1+1:Nat):Int) iiz iiz (wrap64 _ _ oP oP))<|zD) fun a w14 s=> ?_
   replace s:=s.drop [10]
   refine zS (uI ((p.1+1:Nat):Int)) rfl s kI iiz fun a w s=> ?_
   refine zA rfl ?_
   replace s:=s.popB
   exact ⟨(p.1+1,0),hk,(by show L.length - (p.1+1)<L.length - p.1;omega),s.keepK _ (fmz ⟨mz7,fmz ⟨mz8,fmz ⟨.head _,fnz⟩⟩⟩)⟩
  ·have hk:p.1=L.length:=by have h7:=zWk e;have h8:=hx;simp at h7;omega
   refine zWm ?_
   refine zWf ?_
   refine zC 2 ((36, .Z (UF.eq (.slice none 0 0)))::(8, .u (UF.eq (.slice none 0 0))):: []) hmix s kI
    (oc zB<|oc zF<|zD) fun a w15 s=> ?_
   refine zA rfl ?_
   refine zWg ?_
   exact StS.resN s (zWw _ _) (t:=8) rfl (by rw [s.val (.head _),zMN hc];exact zAW.nil _ _ _ _)
theorem zCu {m:Nat} {W:Wm} {u v:Wn} {p q:Rat} (h1:RVp m p u W) (h2:RVp m q v W) (hm:m<=40) (hm0:0<m):Calls prog 78 #[u,v] W (Ret W (fQN (qG p q)).tS):=by
 refine z9 [(fRV m p).tS,(fRV m q).tS] func78 rfl kI ⟨h1,h2,trivial⟩ fun a s=> ?_
 refine zWf ?_
 refine zC 0 [] hmix s kI
  zD fun a w1 s=> ?_
 refine yD (CU.agg (fRV m p)) rfl s kI (fun v W h=>y6 h) fun b2 a w s=> ?_
 refine yD (CU.agg (fRV m q)) rfl s kI (fun v W h=>y6 h) fun b3 a w s=> ?_
 refine z4 (CU.len 3) (cs:=zR3) kI rfl s kI (fun W=>rfl) rfl fun b4 a w s=> ?_
 refine zA rfl ?_
 refine zWf ?_
 rcases zNe (h1.qb hm0|>.mono hm) (h2.qb hm0|>.mono hm) with hc|⟨S,hS,hS2⟩
 ·refine zC 6 ((8, .Z (fRV m p))::(9, .Z (fRV m q))::(10, .Z (yU (fQN ((0:Int):Rat)) (uB false)))::(7, .Z (yU (fQN ((0:Int):Rat)) (uB false)))::(11, .u (fQN ((0:Int):Rat)))::(12, .u (uB false)):: []) hmix s kI
   (oc (zI (f:=fRV m p) 3 kI (hz:=zT _ _))<|oc (zI (f:=fRV m q) 3 kI (hz:=zT _ _))<|oc (zJ zE zPY (fun u0 u1 W hb (h0:RVp m p u0 W) (h1:RVp m q u1 W)=>zHf (m:=m) h0 h1 oP hm0 hc))<|oc zB<|oc (yY (A:=(fQN ((0:Int):Rat)).tS) (B:=(uB false).tS) iiz)<|oc (yX (A:=(fQN ((0:Int):Rat)).tS) (B:=(uB false).tS) iiz)<|zD) fun a w2 s=> ?_
  refine z4 (CU.len 3) (cs:=zR3) kI rfl s kI (fun W=>rfl) rfl fun b5 a w s=> ?_
  refine zN (CU.agg (fQN ((0:Int):Rat))) ((fQN ((0:Int):Rat)).tS) rfl s kI rfl rfl rfl iiz iiz zU fun a w s=> ?_
  refine zS (uB false) rfl s kI iiz fun a w s=> ?_
  refine zA rfl ?_
  refine zWf ?_
  refine zWf ?_
  refine zC 2 ((13, .Z (uB false))::(14, .u (uB true)):: []) hmix s kI
   (oc zB<|oc (zCA false iiz (fun _=>rfl))<|zD) fun a w3 s=> ?_
  refine zA rfl ?_
  refine StS.cond s true iiz (fun e=> ?_) (fun e=>by cases e)
  refine zWf ?_
  refine zC 1 ((15, .u (fQN ((0:Int):Rat))):: []) hmix s kI
   (oc (zH zE zDT (fun u0 W hb (h0:u0= .int .i64 0)=>zBI 0 h0 dB))<|zD) fun a w4 s=> ?_
  refine zN (CU.agg (fQN ((0:Int):Rat))) ((fQN ((0:Int):Rat)).tS) rfl s kI rfl rfl rfl iiz iiz zU fun a w s=> ?_
  refine zA rfl ?_
  refine zWg ?_
  exact wI s (CU.agg (fQN ((0:Int):Rat))) rfl kI rfl rfl (z5 _) (fun cs W h=>by rw [zRl hc];exact h)
 ·refine zC 6 ((8, .Z (fRV m p))::(9, .Z (fRV m q))::(10, .Z (yU (fQN (btw p q S)) (uB true)))::(7, .Z (yU (fQN (btw p q S)) (uB true)))::(11, .u (fQN (btw p q S)))::(12, .u (uB true)):: []) hmix s kI
   (oc (zI (f:=fRV m p) 3 kI (hz:=zT _ _))<|oc (zI (f:=fRV m q) 3 kI (hz:=zT _ _))<|oc (zJ zE zPY (fun u0 u1 W hb (h0:RVp m p u0 W) (h1:RVp m q u1 W)=>zHe (m:=m) h0 h1 oP hm0 S hS oP))<|oc zB<|oc (yY (A:=(fQN (btw p q S)).tS) (B:=(uB true).tS) iiz)<|oc (yX (A:=(fQN (btw p q S)).tS) (B:=(uB true).tS) iiz)<|zD) fun a w5 s=> ?_
  refine z4 (CU.len 3) (cs:=zR3) kI rfl s kI (fun W=>rfl) rfl fun b5 a w s=> ?_
  refine zN (CU.agg (fQN (btw p q S))) ((fQN (btw p q S)).tS) rfl s kI rfl rfl rfl iiz iiz zU fun a w s=> ?_
  refine zS (uB true) rfl s kI iiz fun a w s=> ?_
  refine zA rfl ?_
  refine zWf ?_
  refine zWf ?_
  refine zC 2 ((13, .Z (uB true))::(14, .u (uB false)):: []) hmix s kI
   (oc zB<|oc (zCA true iiz (fun _=>rfl))<|zD) fun a w6 s=> ?_
  refine zA rfl ?_
  refine StS.cond s false iiz (fun e=>by cases e) (fun e=> ?_)
  refine zWh ?_
  refine zWf ?_
  refine zC 1 ((16, .u (fQN (btw p q S))):: []) hmix s kI
   (oc (zI (f:=fQN (btw p q S)) 3 kI (hz:=z5 _))<|zD) fun a w7 s=> ?_
  refine zN (CU.agg (fQN (btw p q S))) ((fQN (btw p q S)).tS) rfl s kI rfl rfl rfl iiz iiz zU fun a w s=> ?_
  refine zA rfl ?_
  refine zWg ?_
  exact wI s (CU.agg (fQN (btw p q S))) rfl kI rfl rfl (z5 _) (fun cs W h=>by rw [zRm hS oP];exact h)
end Go.Proofs.Wd

namespace Go.Proofs.Wd
open Tryz
set_option maxRecDepth 100000
set_option maxHeartbeats 1000000
open Go.RowKit Lb
section
variable {F:Fence} {m:Nat} {P:Program} {w0:Wm} {ops:Array Oper} {G:Nat->SF} {d:Tmp} {ty:TypeId} {pos:String} {aft:Array Edge}
theorem zCU {t:TypeId} {i j k l:Nat} {x y z u:Operand} (h: ∀u1 u2 u3 u4 W,(fct G x).p u1 W->(fct G y).p u2 W->(fct G z).p u3 W->(fct G u).p u4 W-> ∃cells,P.built t [(i,u1),(j,u2),(k,u3),(l,u4)]=some cells/\(G d).p (.agg cells) W):qX F m P w0 ops G ⟨some d, .build t #[(i,x),(j,y),(k,z),(l,u)],ty,pos,aft,none⟩:=
 zGl fun b W hb hh=>by
  obtain ⟨cells,h1,h2⟩:=h _ _ _ _ W (hh x (by simp)) (hh y (by simp)) (hh z (by simp)) (hh u (by simp))
  exact ⟨cells,by simpa using h1,h2⟩
end
theorem zDU (one two a:Int) (x:Rat) (y:List Rat) (mid:Rat->Rat->Rat): ∀k,(zIN one two a x y mid k).length<=2*k
 |0=>zWr _
 |k+1=>by
  have:=zDU one two a x y mid k
  unfold zIN
  rw [List.length_append,List.length_cons]
  split<;>simp<;>omega
theorem zHT (one two a:Int) (x:Rat) (y:List Rat) (mid:Rat->Rat->Rat) (k:Nat):zIN one two a x y mid (k+1)=zIN one two a x y mid k++(one,a,(k:Int),x,qAt y k)::(if k+1<y.length then [(two,a,(k:Int),x,mid (qAt y k) (qAt y (k+1)))] else []):=rfl
theorem zP1 {one two a:Int} {x:Rat} {y:List Rat} {mid:Rat->Rat->Rat} {k:Nat} (h:k+1<y.length):ces (zIN one two a x y mid (k+1))=(ces (zIN one two a x y mid k)++ces [(one,a,(k:Int),x,qAt y k)])++ces [(two,a,(k:Int),x,mid (qAt y k) (qAt y (k+1)))]:=by
 rw [zDl,zDl,zHT,if_pos h,List.append_assoc]
 rfl
theorem zP2 {one two a:Int} {x:Rat} {y:List Rat} {mid:Rat->Rat->Rat} {k:Nat} (h: ¬k+1<y.length):ces (zIN one two a x y mid (k+1))=ces (zIN one two a x y mid k)++ces [(one,a,(k:Int),x,qAt y k)]:=by
 rw [zDl,zHT,if_neg h]
theorem zND {m i:Nat} {W:Wm} {u l v:Wn} {x:Rat} {Y:List Rat} (h1:RVp m x u W) (hl:(SF.row 3 (qls Y)).p l W) (h2:v= .int .i64 (i:Int)) (hqY: ∀q,q∈Y->QB q m) (hm:m<=40) (hm0:0<m) (hn:Y.length<=1000000):Calls prog 46 #[u,l,v] W (Ret W (wM W 54 9 (ces (zIN 0 1 (i:Int) x Y qG Y.length)))):=by
 refine z9 [(fRV m x).tS,(UF.eq l).tS,(uI (i:Int)).tS] func46 rfl kI ⟨h1,rfl,h2,trivial⟩ fun a s=> ?_
 replace s:=s.renew [(0, .u (fRV m x)),(1, .u (UF.eq l)),(2, .u (uI (i:Int)))] (fmz ⟨.inr ⟨_,rfl, .head _⟩,fmz ⟨.inr ⟨_,rfl,mz1⟩,fmz ⟨.inr ⟨_,rfl,mz2⟩,fnz⟩⟩⟩)
 refine zWf ?_
 refine zC 0 [] hmix s kI
  zD fun a w1 s=> ?_
 refine yD (CU.agg (fRV m x)) rfl s kI (fun v W h=>y6 h) fun b3 a w s=> ?_
 refine zS (UF.eq (.slice none 0 0)) rfl s kI iiz fun a w s=> ?_
 refine zA rfl ?_
 refine zWf ?_
 refine zC 1 ((7, .u (UF.eq (.slice none 0 0))):: []) hmix s kI
  (oc zF<|zD) fun a w2 s=> ?_
 refine zA rfl ?_
 refine zWf ?_
 refine zWf ?_
 refine zC 1 ((8, .u (uI 0)):: []) hmix s kI
  (oc zF<|zD) fun a w3 s=> ?_
 refine zA rfl ?_
 refine zWj ?_
 obtain ⟨base,hbase⟩: ∃b,b=w3.heap.size:=⟨_,rfl⟩
 have hb0:W.heap.size<=base:=by rw [hbase];exact s.gr.size
 have hsz0:base<=w3.heap.size:=by rw [hbase];exact zWr _
 replace s:StS _ _ _ [⟨3,27,CU.agg (fRV m x),b3,true⟩] _ _ _ _:=s.freeze
 have hbx3:b3<base:=by rw [hbase];exact s.old _ (.head _)
 refine zBO (fun (p:Nat×Wn) w=>p.1<=Y.length/\base<=w.heap.size/\zAW w base 54 9 p.2 (ces (zIN 0 1 (i:Int) x Y qG p.1))) (fun p=> [(1, .u (UF.eq l)),(2, .u (uI (i:Int))),(7, .u (UF.eq (p.2))),(8, .u (uI (p.1:Int)))]) (fun p=>Y.length - p.1) (0, .slice none 0 0) (⟨zWo _,hsz0,zAW.nil _ _ _ _⟩) (s.keepK _ (fmz ⟨mz4,fmz ⟨mz5,fmz ⟨mz1,fmz ⟨.head _,fnz⟩⟩⟩⟩)) fun p a w hI s=> ?_
 have s0:=s
 have hlw:=(SF.row 3 (qls Y)).st _ _ _ hl s0.below
 have hcl:=zDU 0 1 (i:Int) x Y qG p.1
 replace s:=s.reb rfl [(1, .u (UF.eq l)),(2, .u (uI (i:Int))),(7, .u (UF.eq (p.2))),(8, .u (uI (p.1:Int)))] (fmz ⟨.inl (.head _),fmz ⟨.inl mz1,fmz ⟨.inl mz2,fmz ⟨.inl mz3,fnz⟩⟩⟩⟩)
 refine zWf ?_
 refine zWf ?_
 refine zC 4 ((9, .Z (uI (p.1:Int)))::(10, .Z (UF.eq l))::(11, .Z (uI ((qls Y).length:Int)))::(12, .u (uB (decide ((p.1:Int)<((qls Y).length:Int))))):: []) hmix s kI
  (oc zB<|oc zB<|oc (y8 (z:=3) (Cs:=qls Y) kI (fun v W hb h=>(yT hlw h (s.up hb))) (fun _=>rfl))<|oc (zO .i64 (p.1:Int) ((qls Y).length:Int) (decide ((p.1:Int)<((qls Y).length:Int))) iiz iiz rfl rfl)<|zD) fun a w4 s=> ?_
 refine zA rfl ?_
 refine StS.cond s (decide ((p.1:Int)<((qls Y).length:Int))) iiz (fun e=> ?_) (fun e=> ?_)
 ·have hk:p.1<Y.length:=by have:=zWi e;simp at this;omega
  refine zWh ?_
  refine zWf ?_
  refine zWj ?_
  refine zWf ?_
  refine qH (K:= [(12, .u (uB (decide ((p.1:Int)<((qls Y).length:Int))))),(1, .u (UF.eq l)),(2, .u (uI (i:Int))),(8, .u (uI (p.1:Int)))]) [(7, .u (UF.eq (p.2)))] [0,1,2,4,5] 15 ((15, .u (UF.eq (p.2)))::(16, .Z (uI (i:Int)))::(17, .Z (uI (p.1:Int)))::(18, .Z (fRV m x))::(19, .Z (UF.eq l))::(20, .Z (uI (p.1:Int)))::(21, .Y (fQN (qAt Y p.1)))::(22, .Z (fQN (qAt Y p.1)))::(23, .Z (fPV m (x,(qAt Y p.1))))::(24, .s (SF.row 6 (pvs m [(x,(qAt Y p.1))])))::(25, .s (SF.row 6 (pns [(x,(qAt Y p.1))])))::(26, .Y (fPN (x,(qAt Y p.1))))::(27, .Z (fPN (x,(qAt Y p.1))))::(28, .Z (fCE 0 (i:Int) (p.1:Int) (fPN (x,(qAt Y p.1)))))::(29, .s (SF.row 9 (ces [((0:Int),(i:Int),(p.1:Int),((x,(qAt Y p.1)):V2))]))):: []) hmix (s.keepK _ (fmz ⟨mz3,fmz ⟨.head _,fmz ⟨mz1,fmz ⟨mz2,fmz ⟨mz4,fnz⟩⟩⟩⟩⟩)) kI
   (oc zB<|oc zB<|oc zB<|oc (zI (f:=fRV m x) 3 kI (hz:=zT _ _))<|oc zB<|oc zB<|oc (zZ (z:=3) (Cs:=qls Y) (i:=p.1) (C:=CU.agg (fQN (qAt Y p.1))) kI (zAS hk) (fun v W hb h=>(yT hlw h (s.up hb))) iiz)<|oc (zI (f:=fQN (qAt Y p.1)) 3 kI (hz:=z5 _))<|oc (yS (fun u v W (hu:RVp m x u W) (hv:QNp (qAt Y p.1) v W)=>zPh (f:=fRV m x) (g:=fRV m (qAt Y p.1)) (zCt _ _) (zCt _ _) hu (wD hv (hqY _ (qU hk)))))<|oc (qB (fun u W (hu:(fPV m (x,(qAt Y p.1))).p u W)=>zG0 hu))<|oc (zH zE zO8 (fun u0 W hb (h0:(SF.row 6 (pvs m [(x,(qAt Y p.1))])).p u0 W)=>(zEE (m:=m) (ps:= [(x,(qAt Y p.1))]) h0 oP (by simp)).mono (wF zAs)))<|oc (zA0 (z:=6) (Cs:=pns [(x,(qAt Y p.1))]) (i:=0) (C:=CU.agg (fPN (x,(qAt Y p.1)))) kI rfl iiz iiz)<|oc (zI (f:=fPN (x,(qAt Y p.1))) 6 kI (hz:=jF _ _))<|oc (zCU (fun u1 u2 u3 u4 W (h1:u1= .int .i8 0) (h2:u2= .int .i64 (i:Int)) (h3:u3= .int .i64 (p.1:Int)) (h4:(fPN (x,(qAt Y p.1))).p u4 W)=>zTS h1 h2 h3 h4))<|oc (qB (fun u W (hu:(fCE 0 (i:Int) (p.1:Int) (fPN (x,(qAt Y p.1)))).p u W)=>zJa hu))<|zD) fun Q' hQ a w5 s hr=> ?_
  refine zFw (ces [((0:Int),(i:Int),(p.1:Int),((x,(qAt Y p.1)):V2))]) s0 (s.keepK [(15, .u (UF.eq (p.2))),(12, .u (uB (decide ((p.1:Int)<((qls Y).length:Int))))),(1, .u (UF.eq l)),(2, .u (uI (i:Int))),(8, .u (uI (p.1:Int)))] (fmz ⟨.head _,fmz ⟨mz1,fmz ⟨mz2,fmz ⟨mz3,fmz ⟨mz4,fnz⟩⟩⟩⟩⟩)) hb0 hI.2 rfl kI kI kI (s.fct (.tmp 15)) (hr (_,_) zRW) (zFq _) (by simp;omega) (fun q hq hr=>by rcases zWl.1 hq with rfl|hq;exact hbx3;cases hq) fun v' a w hI' s=> ?_
  have s1:=s
  replace s:StS _ _ _ [⟨3,27,CU.agg (fRV m x),b3,true⟩] _ _ _ _:=s.freeze
  replace s:=s.reb rfl [(30, .u (UF.eq v')),(15, .u (UF.eq (p.2))),(12, .u (uB (decide ((p.1:Int)<((qls Y).length:Int))))),(1, .u (UF.eq l)),(2, .u (uI (i:Int))),(8, .u (uI (p.1:Int)))] (fmz ⟨.inl (.head _),fmz ⟨.inl mz1,fmz ⟨.inl mz2,fmz ⟨.inl mz3,fmz ⟨.inl mz4,fmz ⟨.inl mz5,fnz⟩⟩⟩⟩⟩⟩)
  refine zS (UF.eq v') rfl s kI iiz fun a w s=> ?_
  refine zA rfl (hQ _ _ ?_)
  refine zWf ?_
  have hlw2:=(SF.row 3 (qls Y)).st _ _ _ hl s1.below
  refine zC 5 ((31, .Z (uI (p.1:Int)))::(32, .Z (uI ((p.1+1:Nat):Int)))::(33, .Z (UF.eq l))::(34, .Z (uI ((qls Y).length:Int)))::(35, .u (uB (decide (((p.1+1:Nat):Int)<((qls Y).length:Int))))):: []) hmix s kI
   (oc zB<|oc (yM .i64 (p.1:Int) 1 ((p.1+1:Nat):Int) iiz iiz (wrap64 _ _ oP oP))<|oc zB<|oc (y8 (z:=3) (Cs:=qls Y) kI (fun v W hb h=>(yT hlw2 h (s.up hb))) (fun _=>rfl))<|oc (zO .i64 ((p.1+1:Nat):Int) ((qls Y).length:Int) (decide (((p.1+1:Nat):Int)<((qls Y).length:Int))) iiz iiz rfl rfl)<|zD) fun a w6 s=> ?_
  refine zA rfl ?_
  refine StS.cond s (decide (((p.1+1:Nat):Int)<((qls Y).length:Int))) iiz (fun e=> ?_) (fun e=> ?_)
  ·have hk1:p.1+1<Y.length:=by have h7:=zWi e;simp at h7;omega
   refine qH (K:= [(35, .u (uB (decide (((p.1+1:Nat):Int)<((qls Y).length:Int))))),(30, .u (UF.eq v')),(15, .u (UF.eq (p.2))),(12, .u (uB (decide ((p.1:Int)<((qls Y).length:Int))))),(1, .u (UF.eq l)),(2, .u (uI (i:Int))),(8, .u (uI (p.1:Int)))]) [(7, .u (UF.eq v'))] [0,1,2,4,5,8,9] 21 ((36, .u (UF.eq v'))::(37, .Z (uI (i:Int)))::(38, .Z (uI (p.1:Int)))::(39, .Z (fRV m x))::(40, .Z (UF.eq l))::(41, .Z (uI (p.1:Int)))::(42, .Y (fQN (qAt Y p.1)))::(43, .Z (fQN (qAt Y p.1)))::(44, .Z (UF.eq l))::(45, .Z (uI (p.1:Int)))::(46, .Z (uI ((p.1+1:Nat):Int)))::(47, .Y (fQN (qAt Y (p.1+1))))::(48, .Z (fQN (qAt Y (p.1+1))))::(49, .Z (fQN (qG (qAt Y p.1) (qAt Y (p.1+1)))))::(50, .Z (fPV (m+95) (x,(qG (qAt Y p.1) (qAt Y (p.1+1))))))::(51, .s (SF.row 6 (pvs (m+95) [(x,(qG (qAt Y p.1) (qAt Y (p.1+1))))])))::(52, .s (SF.row 6 (pns [(x,(qG (qAt Y p.1) (qAt Y (p.1+1))))])))::(53, .Y (fPN (x,(qG (qAt Y p.1) (qAt Y (p.1+1))))))::(54, .Z (fPN (x,(qG (qAt Y p.1) (qAt Y (p.1+1))))))::(55, .Z (fCE 1 (i:Int) (p.1:Int) (fPN (x,(qG (qAt Y p.1) (qAt Y (p.1+1)))))))::(56, .s (SF.row 9 (ces [((1:Int),(i:Int),(p.1:Int),((x,(qG (qAt Y p.1) (qAt Y (p.1+1)))):V2))]))):: []) hmix (s.keepK _ (fmz ⟨mz1,fmz ⟨.head _,fmz ⟨mz2,fmz ⟨mz3,fmz ⟨mz4,fmz ⟨mz5,fmz ⟨mz6,fmz ⟨mz7,fnz⟩⟩⟩⟩⟩⟩⟩⟩)) kI
    (oc zB<|oc zB<|oc zB<|oc (zI (f:=fRV m x) 3 kI (hz:=zT _ _))<|oc zB<|oc zB<|oc (zZ (z:=3) (Cs:=qls Y) (i:=p.1) (C:=CU.agg (fQN (qAt Y p.1))) kI (zAS hk) (fun v W hb h=>(yT hlw2 h (s.up hb))) iiz)<|oc (zI (f:=fQN (qAt Y p.1)) 3 kI (hz:=z5 _))<|oc zB<|oc zB<|oc (yM .i64 (p.1:Int) 1 ((p.1+1:Nat):Int) iiz iiz (wrap64 _ _ oP oP))<|oc (zZ (z:=3) (Cs:=qls Y) (i:=p.1+1) (C:=CU.agg (fQN (qAt Y (p.1+1)))) kI (zAS hk1) (fun v W hb h=>(yT hlw2 h (s.up hb))) iiz)<|oc (zI (f:=fQN (qAt Y (p.1+1))) 3 kI (hz:=z5 _))<|oc (zJ zE zRJ (fun u0 u1 W hb (h0:QNp (qAt Y p.1) u0 W) (h1:QNp (qAt Y (p.1+1)) u1 W)=>zCu (m:=m) (wD h0 (hqY _ (qU hk))) (wD h1 (hqY _ (qU hk1))) hm hm0))<|oc (yS (fun u v W (hu:RVp m x u W) (hv:QNp (qG (qAt Y p.1) (qAt Y (p.1+1))) v W)=>zPh (f:=fRV (m+95) x) (g:=fRV (m+95) (qG (qAt Y p.1) (qAt Y (p.1+1)))) (zCt _ _) (zCt _ _) (RVp.mono hu (m':=(m+95)) (by first|omega|decide)) (wD hv (zIC (hqY _ (qU hk)) (hqY _ (qU hk1))))))<|oc (qB (fun u W (hu:(fPV (m+95) (x,(qG (qAt Y p.1) (qAt Y (p.1+1))))).p u W)=>zG0 hu))<|oc (zH zE zO8 (fun u0 W hb (h0:(SF.row 6 (pvs (m+95) [(x,(qG (qAt Y p.1) (qAt Y (p.1+1))))])).p u0 W)=>(zEE (m:=(m+95)) (ps:= [(x,(qG (qAt Y p.1) (qAt Y (p.1+1))))]) h0 oP (by simp)).mono (wF zAs)))<|oc (zA0 (z:=6) (Cs:=pns [(x,(qG (qAt Y p.1) (qAt Y (p.1+1))))]) (i:=0) (C:=CU.agg (fPN (x,(qG (qAt Y p.1) (qAt Y (p.1+1)))))) kI rfl iiz iiz)<|oc (zI (f:=fPN (x,(qG (qAt Y p.1) (qAt Y (p.1+1))))) 6 kI (hz:=jF _ _))<|oc (zCU (fun u1 u2 u3 u4 W (h1:u1= .int .i8 1) (h2:u2= .int .i64 (i:Int)) (h3:u3= .int .i64 (p.1:Int)) (h4:(fPN (x,(qG (qAt Y p.1) (qAt Y (p.1+1))))).p u4 W)=>zTS h1 h2 h3 h4))<|oc (qB (fun u W (hu:(fCE 1 (i:Int) (p.1:Int) (fPN (x,(qG (qAt Y p.1) (qAt Y (p.1+1)))))).p u W)=>zJa hu))<|zD) fun Q' hQ a w7 s hr=> ?_
   refine zFw (ces [((1:Int),(i:Int),(p.1:Int),((x,(qG (qAt Y p.1) (qAt Y (p.1+1)))):V2))]) s1 (s.keepK [(36, .u (UF.eq v')),(35, .u (uB (decide (((p.1+1:Nat):Int)<((qls Y).length:Int))))),(30, .u (UF.eq v')),(15, .u (UF.eq (p.2))),(12, .u (uB (decide ((p.1:Int)<((qls Y).length:Int))))),(1, .u (UF.eq l)),(2, .u (uI (i:Int))),(8, .u (uI (p.1:Int)))] (fmz ⟨.head _,fmz ⟨mz1,fmz ⟨mz2,fmz ⟨mz3,fmz ⟨mz4,fmz ⟨mz5,fmz ⟨mz6,fmz ⟨mz7,fnz⟩⟩⟩⟩⟩⟩⟩⟩)) hb0 hI' rfl kI kI kI (s.fct (.tmp 36)) (hr (_,_) (.tail _ (.tail _ (.tail _ (.tail _ (.tail _ zNw)))))) (zFq _) (by simp;omega) (fun q hq hr=>by rcases zWl.1 hq with rfl|hq;exact hbx3;cases hq) fun v2 a w hI2 s=> ?_
   have s2:=s
   replace s:StS _ _ _ [⟨3,27,CU.agg (fRV m x),b3,true⟩] _ _ _ _:=s.freeze
   replace s:=s.reb rfl [(57, .u (UF.eq v2)),(36, .u (UF.eq v')),(35, .u (uB (decide (((p.1+1:Nat):Int)<((qls Y).length:Int))))),(30, .u (UF.eq v')),(15, .u (UF.eq (p.2))),(12, .u (uB (decide ((p.1:Int)<((qls Y).length:Int))))),(1, .u (UF.eq l)),(2, .u (uI (i:Int))),(8, .u (uI (p.1:Int)))] (fmz ⟨.inl (.head _),fmz ⟨.inl mz1,fmz ⟨.inl mz2,fmz ⟨.inl mz3,fmz ⟨.inl mz4,fmz ⟨.inl mz5,fmz ⟨.inl mz6,fmz ⟨.inl mz7,fmz ⟨.inl mz8,fnz⟩⟩⟩⟩⟩⟩⟩⟩⟩)
   refine zS (UF.eq v2) rfl s kI iiz fun a w s=> ?_
   refine zA rfl (hQ _ _ ?_)
   refine zR 2 ((13, .Z (uI (p.1:Int)))::(14, .u (uI ((p.1+1:Nat):Int))):: []) s kI
    (oc zB<|oc (yM .i64 (p.1:Int) 1 ((p.1+1:Nat):Int) iiz iiz (wrap64 _ _ oP oP))<|zD) fun a w8 s=> ?_
   replace s:=s.drop [8]
   refine zS (uI ((p.1+1:Nat):Int)) rfl s kI iiz fun a w s=> ?_
   refine zA rfl ?_
   have hbw:=s.below
   replace s:=s2.back (s.keepK [(8, .u (uI ((p.1+1:Nat):Int))),(14, .u (uI ((p.1+1:Nat):Int))),(7, .u (UF.eq v2)),(57, .u (UF.eq v2)),(36, .u (UF.eq v')),(35, .u (uB (decide (((p.1+1:Nat):Int)<((qls Y).length:Int))))),(30, .u (UF.eq v')),(15, .u (UF.eq (p.2))),(12, .u (uB (decide ((p.1:Int)<((qls Y).length:Int))))),(1, .u (UF.eq l)),(2, .u (uI (i:Int)))] (fmz ⟨.head _,fmz ⟨mz1,fmz ⟨mz2,fmz ⟨mz3,fmz ⟨mz4,fmz ⟨mz5,fmz ⟨mz6,fmz ⟨mz7,fmz ⟨mz8,fmz ⟨mz9,fmz ⟨zGp,fnz⟩⟩⟩⟩⟩⟩⟩⟩⟩⟩⟩)) rfl
   exact ⟨(p.1+1,v2),(by show Y.length - (p.1+1)<Y.length - p.1;omega),⟨hk,zWq hI2.1 hbw.size,by rw [zP1 hk1];exact hI2.2.below hbw⟩,s.keepK _ (fmz ⟨mz9,fmz ⟨zGp,fmz ⟨mz2,fmz ⟨.head _,fnz⟩⟩⟩⟩)⟩
  ·have hk1: ¬p.1+1<Y.length:=by have h7:=zWk e;simp at h7;omega
   refine zWh ?_
   refine zR 2 ((13, .Z (uI (p.1:Int)))::(14, .u (uI ((p.1+1:Nat):Int))):: []) s kI
    (oc zB<|oc (yM .i64 (p.1:Int) 1 ((p.1+1:Nat):Int) iiz iiz (wrap64 _ _ oP oP))<|zD) fun a w9 s=> ?_
   replace s:=s.drop [8]
   refine zS (uI ((p.1+1:Nat):Int)) rfl s kI iiz fun a w s=> ?_
   refine zA rfl ?_
   have hbw:=s.below
   replace s:=s1.back (s.keepK [(8, .u (uI ((p.1+1:Nat):Int))),(14, .u (uI ((p.1+1:Nat):Int))),(35, .u (uB (decide (((p.1+1:Nat):Int)<((qls Y).length:Int))))),(7, .u (UF.eq v')),(30, .u (UF.eq v')),(15, .u (UF.eq (p.2))),(12, .u (uB (decide ((p.1:Int)<((qls Y).length:Int))))),(1, .u (UF.eq l)),(2, .u (uI (i:Int)))] (fmz ⟨.head _,fmz ⟨mz1,fmz ⟨mz2,fmz ⟨mz3,fmz ⟨mz4,fmz ⟨mz5,fmz ⟨mz6,fmz ⟨mz7,fmz ⟨mz8,fnz⟩⟩⟩⟩⟩⟩⟩⟩⟩)) rfl
   exact ⟨(p.1+1,v'),(by show Y.length - (p.1+1)<Y.length - p.1;omega),⟨hk,zWq hI'.1 hbw.size,by rw [zP2 hk1];exact hI'.2.below hbw⟩,s.keepK _ (fmz ⟨mz7,fmz ⟨mz8,fmz ⟨mz3,fmz ⟨.head _,fnz⟩⟩⟩⟩)⟩
 ·have hk:p.1=Y.length:=by have h7:=zWk e;have h8:=hI.1;simp at h7;omega
  refine zWm ?_
  refine zWf ?_
  refine zC 2 ((58, .Z (UF.eq (p.2)))::(6, .u (UF.eq (p.2))):: []) hmix s kI
   (oc zB<|oc zF<|zD) fun a w10 s=> ?_
  refine zA rfl ?_
  refine zWg ?_
  exact StS.resN s s0.below rfl (by rw [s.val (.head _)];have:=(hI.2.2.below s.below).mono hb0;rw [hk] at this;exact this)
theorem zJg {m i:Nat} {W:Wm} {u v l z:Wn} {lo hi:Rat} {L:List V2} (h1:RVp m lo u W) (h2:RVp m hi v W) (hl:(SF.row 6 (pns L)).p l W) (h3:z= .int .i64 (i:Int)) (hqL0: ∀q,q∈L->QB q.1 m/\QB q.2 m) (hqY0: ∀q,q∈jN lo hi (qG lo hi) L->QB q 40) (hm:m<=5) (hm0:0<m) (hn:L.length<=1000000):Calls prog 47 #[u,v,l,z] W (Ret W (wM W 54 9 (ces (zIN 2 3 (i:Int) (qG lo hi) (jN lo hi (qG lo hi) L) qG (jN lo hi (qG lo hi) L).length)))):=by
 have hqX:QB (qG lo hi) (m+95):=zIC (h1.qb hm0) (h2.qb hm0)
 have hqL: ∀q,q∈L->QB q.1 (m+95)/\QB q.2 (m+95):=fun q hq=>⟨(hqL0 q hq).1.mono oP,(hqL0 q hq).2.mono oP⟩
 obtain ⟨Y,hY⟩: ∃Y,Y=jN lo hi (qG lo hi) L:=⟨_,rfl⟩
 have hqY: ∀q,q∈Y->QB q 40:=by rw [hY];exact hqY0
 have hYn:Y.length<=1000000:=by have:=zGz lo hi (qG lo hi) L;rw [hY];omega
 refine z9 [(fRV m lo).tS,(fRV m hi).tS,(UF.eq l).tS,(uI (i:Int)).tS] func47 rfl kI ⟨h1,h2,rfl,h3,trivial⟩ fun a s=> ?_
 replace s:=s.renew [(0, .u (fRV m lo)),(1, .u (fRV m hi)),(2, .u (UF.eq l)),(3, .u (uI (i:Int)))] (fmz ⟨.inr ⟨_,rfl, .head _⟩,fmz ⟨.inr ⟨_,rfl,mz1⟩,fmz ⟨.inr ⟨_,rfl,mz2⟩,fmz ⟨.inr ⟨_,rfl,mz3⟩,fnz⟩⟩⟩⟩)
 refine zWf ?_
 refine zC 0 [] hmix s kI
  zD fun a w1 s=> ?_
 refine yD (CU.agg (fRV m lo)) rfl s kI (fun v W h=>y6 h) fun b4 a w s=> ?_
 refine yD (CU.agg (fRV m hi)) rfl s kI (fun v W h=>y6 h) fun b5 a w s=> ?_
 refine zS (UF.eq (.slice none 0 0)) rfl s kI iiz fun a w s=> ?_
 refine zA rfl ?_
 refine zWf ?_
 refine zC 1 ((9, .u (UF.eq (.slice none 0 0))):: []) hmix s kI
  (oc zF<|zD) fun a w2 s=> ?_
 refine zA rfl ?_
 refine zWf ?_
 refine zC 3 ((13, .Z (fRV m lo))::(14, .Z (fRV m hi))::(15, .u (fQN (qG lo hi))):: []) hmix s kI
  (oc (zI (f:=fRV m lo) 3 kI (hz:=zT _ _))<|oc (zI (f:=fRV m hi) 3 kI (hz:=zT _ _))<|oc (zJ zE zRJ (fun u0 u1 W hb (h0:RVp m lo u0 W) (h1:RVp m hi u1 W)=>zCu (m:=m) h0 h1 oP hm0))<|zD) fun a w3 s=> ?_
 refine z4 (CU.len 3) (cs:=zR3) kI rfl s kI (fun W=>rfl) rfl fun b10 a w s=> ?_
 refine zN (CU.agg (fQN (qG lo hi))) ((fQN (qG lo hi)).tS) rfl s kI rfl rfl rfl iiz iiz zU fun a w s=> ?_
 refine zA rfl ?_
 refine zWf ?_
 refine qZ 5 ((16, .Z (fRV m lo))::(17, .Z (fRV m hi))::(18, .Z (fQN (qG lo hi)))::(19, .Z (UF.eq l))::(20, .s (SF.row 3 (qls Y))):: []) hmix s kI
  (oc (zI (f:=fRV m lo) 3 kI (hz:=zT _ _))<|oc (zI (f:=fRV m hi) 3 kI (hz:=zT _ _))<|oc (zI (f:=fQN (qG lo hi)) 3 kI (hz:=z5 _))<|oc zB<|oc (zAi zE zUt (fun u0 u1 u2 u3 W hb (h0:RVp m lo u0 W) (h1:RVp m hi u1 W) (h2:QNp (qG lo hi) u2 W) (h3:u3=l)=>(zOn (m:=(m+95)) (RVp.mono h0 oP) (RVp.mono h1 oP) (wD h2 hqX) (zMa hqL _ _ (yT hl h3 (s.up hb))) oP oP hn).mono (wF (fun v W h=>by rw [<-hY] at h;exact zAs _ _ h))))<|zD) fun a w4 s hr=> ?_
 obtain ⟨v20,e20⟩: ∃v,a.tmps.getD 20 undef=v:=⟨_,rfl⟩
 have hv20:(SF.row 3 (qls Y)).p v20 w4:=e20▸(hr (_,_) mz4)
 replace s:=s.learn 20 v20 e20
 have hbW:=s.below
 replace s:StS _ _ _ [⟨10,27,CU.agg (fQN (qG lo hi)),b10,true⟩,⟨5,27,CU.agg (fRV m hi),b5,true⟩,⟨4,27,CU.agg (fRV m lo),b4,true⟩] _ _ _ _:=s.freeze
 replace s:=s.reb rfl [(20, .u (UF.eq v20)),(15, .u (fQN (qG lo hi))),(9, .u (UF.eq (.slice none 0 0))),(8, .u (UF.eq (.slice none 0 0))),(0, .u (fRV m lo)),(1, .u (fRV m hi)),(2, .u (UF.eq l)),(3, .u (uI (i:Int)))] (fmz ⟨.inl (.head _),fmz ⟨.inl mz1,fmz ⟨.inl mz2,fmz ⟨.inl mz3,fmz ⟨.inl mz4,fmz ⟨.inl mz5,fmz ⟨.inl mz6,fmz ⟨.inl mz7,fnz⟩⟩⟩⟩⟩⟩⟩⟩)
 refine zS (UF.eq v20) rfl s kI iiz fun a w s=> ?_
 refine zA rfl ?_
 refine zWf ?_
 refine zWf ?_
 refine zC 1 ((12, .u (uI 0)):: []) hmix s kI
  (oc zF<|zD) fun a w5 s=> ?_
 refine zA rfl ?_
 refine zWj ?_
 obtain ⟨base,hbase⟩: ∃b,b=w5.heap.size:=⟨_,rfl⟩
 have hbb:=s.gr.size
 have hb0:_<=base:=hbase▸hbb
 have hsz0:base<=w5.heap.size:=by rw [hbase];exact zWr _
 replace s:StS _ _ _ [⟨10,27,CU.agg (fQN (qG lo hi)),b10,true⟩,⟨5,27,CU.agg (fRV m hi),b5,true⟩,⟨4,27,CU.agg (fRV m lo),b4,true⟩] _ _ _ _:=s.freeze
 have hbx10:b10<base:=by rw [hbase];exact s.old _ (.head _)
 have hbx5:b5<base:=by rw [hbase];exact s.old _ mz1
 have hbx4:b4<base:=by rw [hbase];exact s.old _ mz2
 refine zBO (fun (p:Nat×Wn) w=>p.1<=Y.length/\base<=w.heap.size/\zAW w base 54 9 p.2 (ces (zIN 2 3 (i:Int) (qG lo hi) Y qG p.1))) (fun p=> [(3, .u (uI (i:Int))),(11, .u (UF.eq v20)),(9, .u (UF.eq (p.2))),(12, .u (uI (p.1:Int)))]) (fun p=>Y.length - p.1) (0, .slice none 0 0) (⟨zWo _,hsz0,zAW.nil _ _ _ _⟩) (s.keepK _ (fmz ⟨mz9,fmz ⟨mz1,fmz ⟨mz4,fmz ⟨.head _,fnz⟩⟩⟩⟩)) fun p a w hI s=> ?_
 have s0:=s
 have hlw:=(SF.row 3 (qls Y)).st _ _ _ hv20 s0.below
 have hcl:=zDU 2 3 (i:Int) (qG lo hi) Y qG p.1
 replace s:=s.reb rfl [(3, .u (uI (i:Int))),(11, .u (UF.eq v20)),(9, .u (UF.eq (p.2))),(12, .u (uI (p.1:Int)))] (fmz ⟨.inl (.head _),fmz ⟨.inl mz1,fmz ⟨.inl mz2,fmz ⟨.inl mz3,fnz⟩⟩⟩⟩)
 refine zWf ?_
 refine zWf ?_
 refine zC 4 ((21, .Z (uI (p.1:Int)))::(22, .Z (UF.eq v20))::(23, .Z (uI ((qls Y).length:Int)))::(24, .u (uB (decide ((p.1:Int)<((qls Y).length:Int))))):: []) hmix s kI
  (oc zB<|oc zB<|oc (y8 (z:=3) (Cs:=qls Y) kI (fun v W hb h=>(yT hlw h (s.up hb))) (fun _=>rfl))<|oc (zO .i64 (p.1:Int) ((qls Y).length:Int) (decide ((p.1:Int)<((qls Y).length:Int))) iiz iiz rfl rfl)<|zD) fun a w6 s=> ?_
 refine zA rfl ?_
 refine StS.cond s (decide ((p.1:Int)<((qls Y).length:Int))) iiz (fun e=> ?_) (fun e=> ?_)
 ·have hk:p.1<Y.length:=by have:=zWi e;simp at this;omega
  refine zWh ?_
  refine zWf ?_
  refine zWj ?_
  refine zWf ?_
  refine qH (K:= [(24, .u (uB (decide ((p.1:Int)<((qls Y).length:Int))))),(3, .u (uI (i:Int))),(11, .u (UF.eq v20)),(12, .u (uI (p.1:Int)))]) [(9, .u (UF.eq (p.2)))] [0,1,2,4,5] 15 ((27, .u (UF.eq (p.2)))::(28, .Z (uI (i:Int)))::(29, .Z (uI (p.1:Int)))::(30, .Z (fQN (qG lo hi)))::(31, .Z (UF.eq v20))::(32, .Z (uI (p.1:Int)))::(33, .Y (fQN (qAt Y p.1)))::(34, .Z (fQN (qAt Y p.1)))::(35, .Z (fPV 135 ((qG lo hi),(qAt Y p.1))))::(36, .s (SF.row 6 (pvs 135 [((qG lo hi),(qAt Y p.1))])))::(37, .s (SF.row 6 (pns [((qG lo hi),(qAt Y p.1))])))::(38, .Y (fPN ((qG lo hi),(qAt Y p.1))))::(39, .Z (fPN ((qG lo hi),(qAt Y p.1))))::(40, .Z (fCE 2 (i:Int) (p.1:Int) (fPN ((qG lo hi),(qAt Y p.1)))))::(41, .s (SF.row 9 (ces [((2:Int),(i:Int),(p.1:Int),(((qG lo hi),(qAt Y p.1)):V2))]))):: []) hmix (s.keepK _ (fmz ⟨mz3,fmz ⟨.head _,fmz ⟨mz1,fmz ⟨mz2,fmz ⟨mz4,fnz⟩⟩⟩⟩⟩)) kI
   (oc zB<|oc zB<|oc zB<|oc (zI (f:=fQN (qG lo hi)) 3 kI (hz:=z5 _))<|oc zB<|oc zB<|oc (zZ (z:=3) (Cs:=qls Y) (i:=p.1) (C:=CU.agg (fQN (qAt Y p.1))) kI (zAS hk) (fun v W hb h=>(yT hlw h (s.up hb))) iiz)<|oc (zI (f:=fQN (qAt Y p.1)) 3 kI (hz:=z5 _))<|oc (yS (fun u v W (hu:QNp (qG lo hi) u W) (hv:QNp (qAt Y p.1) v W)=>zPh (f:=fRV 135 (qG lo hi)) (g:=fRV 135 (qAt Y p.1)) (zCt _ _) (zCt _ _) (wD hu (QB.mono hqX (m':=135) (by first|omega|decide))) (wD hv (QB.mono (hqY _ (qU hk)) (m':=135) (by first|omega|decide)))))<|oc (qB (fun u W (hu:(fPV 135 ((qG lo hi),(qAt Y p.1))).p u W)=>zG0 hu))<|oc (zH zE zO8 (fun u0 W hb (h0:(SF.row 6 (pvs 135 [((qG lo hi),(qAt Y p.1))])).p u0 W)=>(zEE (m:=135) (ps:= [((qG lo hi),(qAt Y p.1))]) h0 oP (by simp)).mono (wF zAs)))<|oc (zA0 (z:=6) (Cs:=pns [((qG lo hi),(qAt Y p.1))]) (i:=0) (C:=CU.agg (fPN ((qG lo hi),(qAt Y p.1)))) kI rfl iiz iiz)<|oc (zI (f:=fPN ((qG lo hi),(qAt Y p.1))) 6 kI (hz:=jF _ _))<|oc (zCU (fun u1 u2 u3 u4 W (h1:u1= .int .i8 2) (h2:u2= .int .i64 (i:Int)) (h3:u3= .int .i64 (p.1:Int)) (h4:(fPN ((qG lo hi),(qAt Y p.1))).p u4 W)=>zTS h1 h2 h3 h4))<|oc (qB (fun u W (hu:(fCE 2 (i:Int) (p.1:Int) (fPN ((qG lo hi),(qAt Y p.1)))).p u W)=>zJa hu))<|zD) fun Q' hQ a w7 s hr=> ?_
  refine zFw (ces [((2:Int),(i:Int),(p.1:Int),(((qG lo hi),(qAt Y p.1)):V2))]) s0 (s.keepK [(27, .u (UF.eq (p.2))),(24, .u (uB (decide ((p.1:Int)<((qls Y).length:Int))))),(3, .u (uI (i:Int))),(11, .u (UF.eq v20)),(12, .u (uI (p.1:Int)))] (fmz ⟨.head _,fmz ⟨mz1,fmz ⟨mz2,fmz ⟨mz3,fmz ⟨mz4,fnz⟩⟩⟩⟩⟩)) hb0 hI.2 rfl kI kI kI (s.fct (.tmp 27)) (hr (_,_) zRW) (zFq _) (by simp;omega) (fun q hq hr=>by rcases zWl.1 hq with rfl|hq;exact hbx10;rcases zWl.1 hq with rfl|hq;exact hbx5;rcases zWl.1 hq with rfl|hq;exact hbx4;cases hq) fun v' a w hI' s=> ?_
  have s1:=s
  replace s:StS _ _ _ [⟨10,27,CU.agg (fQN (qG lo hi)),b10,true⟩,⟨5,27,CU.agg (fRV m hi),b5,true⟩,⟨4,27,CU.agg (fRV m lo),b4,true⟩] _ _ _ _:=s.freeze
  replace s:=s.reb rfl [(42, .u (UF.eq v')),(27, .u (UF.eq (p.2))),(24, .u (uB (decide ((p.1:Int)<((qls Y).length:Int))))),(3, .u (uI (i:Int))),(11, .u (UF.eq v20)),(12, .u (uI (p.1:Int)))] (fmz ⟨.inl (.head _),fmz ⟨.inl mz1,fmz ⟨.inl mz2,fmz ⟨.inl mz3,fmz ⟨.inl mz4,fmz ⟨.inl mz5,fnz⟩⟩⟩⟩⟩⟩)
  refine zS (UF.eq v') rfl s kI iiz fun a w s=> ?_
  refine zA rfl (hQ _ _ ?_)
  refine zWf ?_
  have hlw2:=(SF.row 3 (qls Y)).st _ _ _ hv20 s1.below
  refine zC 5 ((43, .Z (uI (p.1:Int)))::(44, .Z (uI ((p.1+1:Nat):Int)))::(45, .Z (UF.eq v20))::(46, .Z (uI ((qls Y).length:Int)))::(47, .u (uB (decide (((p.1+1:Nat):Int)<((qls Y).length:Int))))):: []) hmix s kI
   (oc zB<|oc (yM .i64 (p.1:Int) 1 ((p.1+1:Nat):Int) iiz iiz (wrap64 _ _ oP oP))<|oc zB<|oc (y8 (z:=3) (Cs:=qls Y) kI (fun v W hb h=>(yT hlw2 h (s.up hb))) (fun _=>rfl))<|oc (zO .i64 ((p.1+1:Nat):Int) ((qls Y).length:Int) (decide (((p.1+1:Nat):Int)<((qls Y).length:Int))) iiz iiz rfl rfl)<|zD) fun a w8 s=> ?_
  refine zA rfl ?_
  refine StS.cond s (decide (((p.1+1:Nat):Int)<((qls Y).length:Int))) iiz (fun e=> ?_) (fun e=> ?_)
  ·have hk1:p.1+1<Y.length:=by have h7:=zWi e;simp at h7;omega
   refine qH (K:= [(47, .u (uB (decide (((p.1+1:Nat):Int)<((qls Y).length:Int))))),(42, .u (UF.eq v')),(27, .u (UF.eq (p.2))),(24, .u (uB (decide ((p.1:Int)<((qls Y).length:Int))))),(3, .u (uI (i:Int))),(11, .u (UF.eq v20)),(12, .u (uI (p.1:Int)))]) [(9, .u (UF.eq v'))] [0,1,2,4,5,8,9] 21 ((48, .u (UF.eq v'))::(49, .Z (uI (i:Int)))::(50, .Z (uI (p.1:Int)))::(51, .Z (fQN (qG lo hi)))::(52, .Z (UF.eq v20))::(53, .Z (uI (p.1:Int)))::(54, .Y (fQN (qAt Y p.1)))::(55, .Z (fQN (qAt Y p.1)))::(56, .Z (UF.eq v20))::(57, .Z (uI (p.1:Int)))::(58, .Z (uI ((p.1+1:Nat):Int)))::(59, .Y (fQN (qAt Y (p.1+1))))::(60, .Z (fQN (qAt Y (p.1+1))))::(61, .Z (fQN (qG (qAt Y p.1) (qAt Y (p.1+1)))))::(62, .Z (fPV 135 ((qG lo hi),(qG (qAt Y p.1) (qAt Y (p.1+1))))))::(63, .s (SF.row 6 (pvs 135 [((qG lo hi),(qG (qAt Y p.1) (qAt Y (p.1+1))))])))::(64, .s (SF.row 6 (pns [((qG lo hi),(qG (qAt Y p.1) (qAt Y (p.1+1))))])))::(65, .Y (fPN ((qG lo hi),(qG (qAt Y p.1) (qAt Y (p.1+1))))))::(66, .Z (fPN ((qG lo hi),(qG (qAt Y p.1) (qAt Y (p.1+1))))))::(67, .Z (fCE 3 (i:Int) (p.1:Int) (fPN ((qG lo hi),(qG (qAt Y p.1) (qAt Y (p.1+1)))))))::(68, .s (SF.row 9 (ces [((3:Int),(i:Int),(p.1:Int),(((qG lo hi),(qG (qAt Y p.1) (qAt Y (p.1+1)))):V2))]))):: []) hmix (s.keepK _ (fmz ⟨mz1,fmz ⟨.head _,fmz ⟨mz2,fmz ⟨mz3,fmz ⟨mz4,fmz ⟨mz5,fmz ⟨mz6,fmz ⟨mz7,fnz⟩⟩⟩⟩⟩⟩⟩⟩)) kI
    (oc zB<|oc zB<|oc zB<|oc (zI (f:=fQN (qG lo hi)) 3 kI (hz:=z5 _))<|oc zB<|oc zB<|oc (zZ (z:=3) (Cs:=qls Y) (i:=p.1) (C:=CU.agg (fQN (qAt Y p.1))) kI (zAS hk) (fun v W hb h=>(yT hlw2 h (s.up hb))) iiz)<|oc (zI (f:=fQN (qAt Y p.1)) 3 kI (hz:=z5 _))<|oc zB<|oc zB<|oc (yM .i64 (p.1:Int) 1 ((p.1+1:Nat):Int) iiz iiz (wrap64 _ _ oP oP))<|oc (zZ (z:=3) (Cs:=qls Y) (i:=p.1+1) (C:=CU.agg (fQN (qAt Y (p.1+1)))) kI (zAS hk1) (fun v W hb h=>(yT hlw2 h (s.up hb))) iiz)<|oc (zI (f:=fQN (qAt Y (p.1+1))) 3 kI (hz:=z5 _))<|oc (zJ zE zRJ (fun u0 u1 W hb (h0:QNp (qAt Y p.1) u0 W) (h1:QNp (qAt Y (p.1+1)) u1 W)=>zCu (m:=40) (wD h0 (hqY _ (qU hk))) (wD h1 (hqY _ (qU hk1))) dB dB))<|oc (yS (fun u v W (hu:QNp (qG lo hi) u W) (hv:QNp (qG (qAt Y p.1) (qAt Y (p.1+1))) v W)=>zPh (f:=fRV 135 (qG lo hi)) (g:=fRV 135 (qG (qAt Y p.1) (qAt Y (p.1+1)))) (zCt _ _) (zCt _ _) (wD hu (QB.mono hqX (m':=135) (by first|omega|decide))) (wD hv (zIC (hqY _ (qU hk)) (hqY _ (qU hk1))))))<|oc (qB (fun u W (hu:(fPV 135 ((qG lo hi),(qG (qAt Y p.1) (qAt Y (p.1+1))))).p u W)=>zG0 hu))<|oc (zH zE zO8 (fun u0 W hb (h0:(SF.row 6 (pvs 135 [((qG lo hi),(qG (qAt Y p.1) (qAt Y (p.1+1))))])).p u0 W)=>(zEE (m:=135) (ps:= [((qG lo hi),(qG (qAt Y p.1) (qAt Y (p.1+1))))]) h0 oP (by simp)).mono (wF zAs)))<|oc (zA0 (z:=6) (Cs:=pns [((qG lo hi),(qG (qAt Y p.1) (qAt Y (p.1+1))))]) (i:=0) (C:=CU.agg (fPN ((qG lo hi),(qG (qAt Y p.1) (qAt Y (p.1+1)))))) kI rfl iiz iiz)<|oc (zI (f:=fPN ((qG lo hi),(qG (qAt Y p.1) (qAt Y (p.1+1))))) 6 kI (hz:=jF _ _))<|oc (zCU (fun u1 u2 u3 u4 W (h1:u1= .int .i8 3) (h2:u2= .int .i64 (i:Int)) (h3:u3= .int .i64 (p.1:Int)) (h4:(fPN ((qG lo hi),(qG (qAt Y p.1) (qAt Y (p.1+1))))).p u4 W)=>zTS h1 h2 h3 h4))<|oc (qB (fun u W (hu:(fCE 3 (i:Int) (p.1:Int) (fPN ((qG lo hi),(qG (qAt Y p.1) (qAt Y (p.1+1)))))).p u W)=>zJa hu))<|zD) fun Q' hQ a w9 s hr=> ?_
   refine zFw (ces [((3:Int),(i:Int),(p.1:Int),(((qG lo hi),(qG (qAt Y p.1) (qAt Y (p.1+1)))):V2))]) s1 (s.keepK [(48, .u (UF.eq v')),(47, .u (uB (decide (((p.1+1:Nat):Int)<((qls Y).length:Int))))),(42, .u (UF.eq v')),(27, .u (UF.eq (p.2))),(24, .u (uB (decide ((p.1:Int)<((qls Y).length:Int))))),(3, .u (uI (i:Int))),(11, .u (UF.eq v20)),(12, .u (uI (p.1:Int)))] (fmz ⟨.head _,fmz ⟨mz1,fmz ⟨mz2,fmz ⟨mz3,fmz ⟨mz4,fmz ⟨mz5,fmz ⟨mz6,fmz ⟨mz7,fnz⟩⟩⟩⟩⟩⟩⟩⟩)) hb0 hI' rfl kI kI kI (s.fct (.tmp 48)) (hr (_,_) (.tail _ (.tail _ (.tail _ (.tail _ (.tail _ zNw)))))) (zFq _) (by simp;omega) (fun q hq hr=>by rcases zWl.1 hq with rfl|hq;exact hbx10;rcases zWl.1 hq with rfl|hq;exact hbx5;rcases zWl.1 hq with rfl|hq;exact hbx4;cases hq) fun v2 a w hI2 s=> ?_
   have s2:=s
   replace s:StS _ _ _ [⟨10,27,CU.agg (fQN (qG lo hi)),b10,true⟩,⟨5,27,CU.agg (fRV m hi),b5,true⟩,⟨4,27,CU.agg (fRV m lo),b4,true⟩] _ _ _ _:=s.freeze
   replace s:=s.reb rfl [(69, .u (UF.eq v2)),(48, .u (UF.eq v')),(47, .u (uB (decide (((p.1+1:Nat):Int)<((qls Y).length:Int))))),(42, .u (UF.eq v')),(27, .u (UF.eq (p.2))),(24, .u (uB (decide ((p.1:Int)<((qls Y).length:Int))))),(3, .u (uI (i:Int))),(11, .u (UF.eq v20)),(12, .u (uI (p.1:Int)))] (fmz ⟨.inl (.head _),fmz ⟨.inl mz1,fmz ⟨.inl mz2,fmz ⟨.inl mz3,fmz ⟨.inl mz4,fmz ⟨.inl mz5,fmz ⟨.inl mz6,fmz ⟨.inl mz7,fmz ⟨.inl mz8,fnz⟩⟩⟩⟩⟩⟩⟩⟩⟩)
   refine zS (UF.eq v2) rfl s kI iiz fun a w s=> ?_
   refine zA rfl (hQ _ _ ?_)
   refine zR 2 ((25, .Z (uI (p.1:Int)))::(26, .u (uI ((p.1+1:Nat):Int))):: []) s kI
    (oc zB<|oc (yM .i64 (p.1:Int) 1 ((p.1+1:Nat):Int) iiz iiz (wrap64 _ _ oP oP))<|zD) fun a w10 s=> ?_
   replace s:=s.drop [12]
   refine zS (uI ((p.1+1:Nat):Int)) rfl s kI iiz fun a w s=> ?_
   refine zA rfl ?_
   have hbw:=s.below
   replace s:=s2.back (s.keepK [(12, .u (uI ((p.1+1:Nat):Int))),(26, .u (uI ((p.1+1:Nat):Int))),(9, .u (UF.eq v2)),(69, .u (UF.eq v2)),(48, .u (UF.eq v')),(47, .u (uB (decide (((p.1+1:Nat):Int)<((qls Y).length:Int))))),(42, .u (UF.eq v')),(27, .u (UF.eq (p.2))),(24, .u (uB (decide ((p.1:Int)<((qls Y).length:Int))))),(3, .u (uI (i:Int))),(11, .u (UF.eq v20))] (fmz ⟨.head _,fmz ⟨mz1,fmz ⟨mz2,fmz ⟨mz3,fmz ⟨mz4,fmz ⟨mz5,fmz ⟨mz6,fmz ⟨mz7,fmz ⟨mz8,fmz ⟨mz9,fmz ⟨zGp,fnz⟩⟩⟩⟩⟩⟩⟩⟩⟩⟩⟩)) rfl
   exact ⟨(p.1+1,v2),(by show Y.length - (p.1+1)<Y.length - p.1;omega),⟨hk,zWq hI2.1 hbw.size,by rw [zP1 hk1];exact hI2.2.below hbw⟩,s.keepK _ (fmz ⟨mz9,fmz ⟨zGp,fmz ⟨mz2,fmz ⟨.head _,fnz⟩⟩⟩⟩)⟩
  ·have hk1: ¬p.1+1<Y.length:=by have h7:=zWk e;simp at h7;omega
   refine zWh ?_
   refine zR 2 ((25, .Z (uI (p.1:Int)))::(26, .u (uI ((p.1+1:Nat):Int))):: []) s kI
    (oc zB<|oc (yM .i64 (p.1:Int) 1 ((p.1+1:Nat):Int) iiz iiz (wrap64 _ _ oP oP))<|zD) fun a w11 s=> ?_
   replace s:=s.drop [12]
   refine zS (uI ((p.1+1:Nat):Int)) rfl s kI iiz fun a w s=> ?_
   refine zA rfl ?_
   have hbw:=s.below
   replace s:=s1.back (s.keepK [(12, .u (uI ((p.1+1:Nat):Int))),(26, .u (uI ((p.1+1:Nat):Int))),(47, .u (uB (decide (((p.1+1:Nat):Int)<((qls Y).length:Int))))),(9, .u (UF.eq v')),(42, .u (UF.eq v')),(27, .u (UF.eq (p.2))),(24, .u (uB (decide ((p.1:Int)<((qls Y).length:Int))))),(3, .u (uI (i:Int))),(11, .u (UF.eq v20))] (fmz ⟨.head _,fmz ⟨mz1,fmz ⟨mz2,fmz ⟨mz3,fmz ⟨mz4,fmz ⟨mz5,fmz ⟨mz6,fmz ⟨mz7,fmz ⟨mz8,fnz⟩⟩⟩⟩⟩⟩⟩⟩⟩)) rfl
   exact ⟨(p.1+1,v'),(by show Y.length - (p.1+1)<Y.length - p.1;omega),⟨hk,zWq hI'.1 hbw.size,by rw [zP2 hk1];exact hI'.2.below hbw⟩,s.keepK _ (fmz ⟨mz7,fmz ⟨mz8,fmz ⟨mz3,fmz ⟨.head _,fnz⟩⟩⟩⟩)⟩
 ·have hk:p.1=Y.length:=by have h7:=zWk e;have h8:=hI.1;simp at h7;omega
  refine zWm ?_
  refine zWf ?_
  refine zC 2 ((70, .Z (UF.eq (p.2)))::(8, .u (UF.eq (p.2))):: []) hmix s kI
   (oc zB<|oc zF<|zD) fun a w12 s=> ?_
  refine zA rfl ?_
  refine zWg ?_
  exact StS.resN s (hbW.trans (s0.below.mono hbW.size)) rfl (by rw [s.val (.head _), <-hY];have:=(hI.2.2.below s.below).mono (zWq hbW.size hb0);rw [hk] at this;exact this)
end Go.Proofs.Wd
