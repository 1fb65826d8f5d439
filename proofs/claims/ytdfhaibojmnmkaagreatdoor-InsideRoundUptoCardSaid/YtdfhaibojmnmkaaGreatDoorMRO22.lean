/- Walk of straitlaw17.InsideRound and what it needs. -/
import Derived.Test.YtdfhaibojmnmkaaGreatDoorMRO21
namespace Go.Proofs.Wd
set_option maxRecDepth 100000
set_option maxHeartbeats 1000000
open Go.RowKit Lb
theorem zNC (A:List PX) (y b:PX):pxs A++pxs [y,b]=pxs (A++ [y,b]):=by simp [pxs]
theorem zJk {L:List PX} {k i j:Nat} {x y:PX} (hx:L[i]?=some x) (hy:L[j]?=some y) (hij:i<j) (hj:j<k):min (PX.b x) 1000+min (PX.b y) 1000≤zCH L k:=by
 induction k with
 |zero=>omega
 | succ k ih=>
  by_cases e:j=k
  ·subst e
   rw [zBO hy]
   have:=zJl hx hij
   omega
  ·have h1:=ih (by omega)
   cases h2:L[k]? with
   |none=>
    have:zCH L (k+1)=zCH L k:=by unfold zCH;rw [List.take_add_one,h2];simp
    omega
   |some z=>rw [zBO h2];omega
theorem zH9 {L:List PX} (h:g13 L=false) {i j:Nat} {x y:PX} (hx:L[i]?=some x) (hy:L[j]?=some y) (hij:i≠j):PX.b x+PX.b y≤80:=by
 unfold g13 at h
 rw [Bool.or_eq_false_iff] at h
 have h1:=of_decide_eq_false h.1
 have h2:=of_decide_eq_false h.2
 rw [List.length_map] at h1 h2
 have l1:=(List.getElem?_eq_some_iff.1 hx).1
 have l2:=(List.getElem?_eq_some_iff.1 hy).1
 rcases Nat.lt_or_gt_of_ne hij with g|g
 ·have:=zJk hx hy g (k:=min L.length 21) (by omega);omega
 ·have:=zJk hy hx g (k:=min L.length 21) (by omega);omega
theorem zRA {x:PX} {v:Value} {W:World} (hv:x.u.p v W):PB x.p (max 1 (PX.b x)):=by
 have:(fPV (max 1 (PX.b x)) x.p).p v W:=by
  unfold PX.b
  exact zF1 (fun v W h'=>zQY h' (by omega) (by omega)) (fun v W h'=>zQY h' (by omega) (by omega)) hv
 exact zCh (by omega) this
theorem zFR {L:List PX} {l:Value} {W:World} (hl:(SF.row 6 (pxs L)).p l W) {i:Nat} {x:PX} (hx:L[i]?=some x): ∃v,x.u.p v W:=by
 obtain ⟨A,c,_,_,_,_,h5⟩:=hl
 obtain ⟨b,o,cs,_,_,h6⟩:=h5 i (PX.cu x) (by rw [List.getElem?_map,hx];rfl)
 exact ⟨_,h6⟩
theorem zHU {x y:PX} {u v:Value} {W:World} (hx:x.u.p u W) (hy:y.u.p v W) (h:PX.b x+PX.b y≤80):zC2 x.p y.p:=⟨_,_,zRA hx,zRA hy,by omega⟩
theorem zPj {A:List PX} {i:Nat} (hi:i<(pps A).length): ∃x,A[i]?=some x∧at_ (pps A) i=x.p:=by
 have hi':i<A.length:=by simpa using hi
 refine ⟨_,List.getElem?_eq_getElem hi', ?_⟩
 unfold at_
 rw [List.getD_eq_getElem?_getD,List.getElem?_map,List.getElem?_eq_getElem hi']
 rfl
theorem zMB {A:List PX} {y b:PX} {i:Nat} {x:PX} (h:A[i]?=some x):(A++ [y,b])[i]?=some x:=by
 rw [List.getElem?_append_left (List.getElem?_eq_some_iff.1 h).1];exact h
theorem zKK {a b t:Rat} {m n k:Nat} (ha:QB a m) (hb:QB b n) (ht:QB t k):QB (a+(b - a)*t) (m+n+k+2):=by
 have da:=qP ha.2;have db:=qP hb.2;have dt:=qP ht.2
 have e1:=zE3 a;have e2:=zE3 b;have e3:=zE3 t
 refine QB.ratio (X:=a.num*(b.den:Int)*(t.den:Int)+(b.num*(a.den:Int)+ -(a.num*(b.den:Int)))*t.num) (D:=(a.den:Int)*(b.den:Int)*(t.den:Int)) (by omega) ?_ ?_ ?_ ?_
 ·simp only [Rat.intCast_mul,Rat.intCast_add,Rat.intCast_neg,Rat.intCast_natCast,e1,e2,e3]
  grind
 ·have h1:(a.den:Int)≠0:=by have:=a.den_pos;omega
  have h2:(b.den:Int)≠0:=by have:=b.den_pos;omega
  have h3:(t.den:Int)≠0:=by have:=t.den_pos;omega
  exact Int.mul_ne_zero (Int.mul_ne_zero h1 h2) h3
 ·exact (((ha.1.mul db).mul dt).mono (m':=m+n+k+1) (by omega)).add (((((hb.1.mul da).mono (m':=m+n) (by omega)).add ((ha.1.mul db).neg)).mul ht.1).mono (by omega))
 ·exact ((da.mul db).mul dt).mono (by omega)
theorem zRh {a b:V2} {t:Rat} (h:zC2 a b) (ht:QB t 40):QB (seg a b t).1 159∧QB (seg a b t).2 159:=by
 obtain ⟨m,n,h1,h2,h3⟩:=h
 exact ⟨(zKK h1.1 h2.1 ht).mono (by omega),(zKK h1.2 h2.2 ht).mono (by omega)⟩
theorem zPl {p t:V2} (h:zC2 p t):QB (zEC p t).1 159∧QB (zEC p t).2 159:=by
 obtain ⟨m,n,h1,h2,h3⟩:=h
 exact ⟨(h1.1.add h2.1).mono (by omega),(h1.2.add h2.2).mono (by omega)⟩
theorem zDJ {x:QX} (h:x.n≤40∧x.n'≤40) (cs:List Value) (W:World) (hc:(QX.cu x).p cs W):0+3≤cs.length∧(fRV 40 x.q).p (.agg ((cs.drop 0).take 3).toArray) W:=by
 have hl:=zOM _ _ _ _ cs W hc
 refine ⟨by omega, ?_⟩
 rw [List.drop_zero,List.take_of_length_le (by omega)]
 exact zQY hc h.1 h.2
theorem zTa {q:Rat} (h:decide (q.num.sign<0)=false):0≤q:=Rat.not_lt.1 fun g=>of_decide_eq_false h (zPE.2 g)
theorem zTi {q:Rat} (h:decide (qsg q ((1:Int):Rat)>0)=false):q≤1:=Rat.not_lt.1 fun g=>by
 have:=zEV.2 (show ((1:Int):Rat)<q from g)
 have:=of_decide_eq_false h
 omega
theorem zN5 {A:List PX} {y b:PX} {r:QX} {z:Int} {W:World} {l u v q x:Value} (hl0:(SF.row 6 (pxs A)).p l W) (hy:(PX.u y).p u W) (hb':(PX.u b).p v W) (hz:q= .int .i64 z) (ht:QXp r.n r.n' r.k r.d x W) (hAl:A.length≤1048576) (hAb: ∀p,p∈A→PX.b p≤1048576) (hyb:PX.b y≤1048576) (hbb:PX.b b≤1048576) (hzr: -9223372036854775808≤z∧z≤9223372036854775807) (hrb:r.n+r.n'≤1048576) (hT:Tab W):Calls Tryz.prog 6 #[l,u,v,q,x] W (Ret W (fB true).toSF):=by
 have hAy: ∀p,p∈A++ [y,b]→PX.b p≤1048576:=fun p hp=>by
  rcases List.mem_append.1 hp with h|h
  ·exact hAb p h
  ·simp only [List.mem_cons,List.not_mem_nil,or_false] at h
   rcases h with rfl|rfl
   ·exact hyb
   ·exact hbb
 have hGo:g13 (A++ [y,b])=false→(SF.row 6 (pvs 80 (pps A))).p l W∧(∀i j,i<(pps A).length→j<(pps A).length→i≠j→zC2 (at_ (pps A) i) (at_ (pps A) j))∧zC2 y.p b.p∧ ∀p,p∈pps A→zC2 p b.p:=fun hG=>by
  have hG':=zQC hG
  have ey:(A++ [y,b])[A.length]?=some y:=by simp
  have eb:(A++ [y,b])[A.length+1]?=some b:=by simp
  refine ⟨zLp (fun q hq=>hG'.2 q (by simp [hq])) _ _ hl0,fun i j hi hj hij=> ?_,zHU hy hb' (zH9 hG ey eb (by omega)),fun p hp=> ?_⟩
  ·obtain ⟨x1,h1,e1⟩:=zPj hi
   obtain ⟨x2,h2,e2⟩:=zPj hj
   obtain ⟨v1,g1⟩:=zFR hl0 h1
   obtain ⟨v2,g2⟩:=zFR hl0 h2
   rw [e1,e2]
   exact zHU g1 g2 (zH9 hG (zMB h1) (zMB h2) hij)
  ·obtain ⟨x1,hx1,rfl⟩:=List.mem_map.1 hp
   obtain ⟨i,h1⟩:=List.getElem?_of_mem hx1
   have hlt:=(List.getElem?_eq_some_iff.1 h1).1
   obtain ⟨v1,g1⟩:=zFR hl0 h1
   exact zHU g1 hb' (zH9 hG (zMB h1) eb (by omega))
 refine z7 [(UF.eq l).toSF,(PX.u y).toSF,(PX.u b).toSF,(UF.eq (.int .i64 z)).toSF,(fQX r.n r.n' r.k r.d).toSF] Tryz.func6 rfl (by kernel_rfl) ⟨rfl,hy,hb',hz,ht,trivial⟩ fun a s=> ?_
 replace s:=s.renew [(0, .u (UF.eq l)),(1, .u (PX.u y)),(2, .u (PX.u b)),(3, .u (UF.eq (.int .i64 z))),(4, .u (fQX r.n r.n' r.k r.d))] (fmz ⟨.inr ⟨_,rfl, .head _⟩,fmz ⟨.inr ⟨_,rfl,mz1⟩,fmz ⟨.inr ⟨_,rfl,mz2⟩,fmz ⟨.inr ⟨_,rfl,mz3⟩,fmz ⟨.inr ⟨_,rfl,mz4⟩,fnz⟩⟩⟩⟩⟩)
 refine wpIn_seq ?_
 refine zB 0 [] hmix s (by kernel_rfl)
  zE fun a w1 s=> ?_
 refine yJ (PX.cu y) rfl s (by kernel_rfl) (fun v W h=>yP h) fun b6 a w s=> ?_
 refine yJ (PX.cu b) rfl s (by kernel_rfl) (fun v W h=>yP h) fun b7 a w s=> ?_
 refine yJ (QX.cu r) rfl s (by kernel_rfl) (fun v W h=>zRs h) fun b9 a w s=> ?_
 refine yU (UF.eq (.bool false)) rfl s (by kernel_rfl) iiz fun a w s=> ?_
 refine zA rfl ?_
 refine wpIn_seq ?_
 refine wpIn_seq ?_
 have sb:=s;have so:=s.old;have sg:=s.gr.size
 refine zDH (GW w) hmix s fun w2 hwb s=> ?_
 have hz:=hwb.size
 refine zA4 [] [0,1,2,3,4,5] ((15, .s (SF.emp w2 30))::(16, .s ((UF.eq l).toSF))::(17, .s (SF.newRow w2 30 6 (pxs A)))::(18, .s ((PX.u y).toSF))::(19, .s ((PX.u b).toSF))::(20, .s (SF.row 6 (pxs [y,b]))):: []) (zE9 hwb) s (by kernel_rfl)
  (oc (zE0 (z:=6) (by kernel_rfl))<|oc zC<|oc (zHY (pxs A) (by kernel_rfl) iiz (fun v W hb h=>(yW hl0 h (s.up hb))) (zOP _) (by simp;omega))<|oc (zK (f:=PX.u y) 6 (by kernel_rfl) (hz:=zP _ _))<|oc (zK (f:=PX.u b) 6 (by kernel_rfl) (hz:=zP _ _))<|oc (yE (fun u v W (hu:(PX.u y).p u W) (hv:(PX.u b).p v W)=>zRe hu hv))<|zE)
  zA7 fun a w3 hbw s hr=> ?_
 replace hwb:=hwb.trans (hbw.mono hwb.size)
 refine zEk (i:=6) (x:= .tmp 17) (y:= .tmp 20) (pxs [y,b]) hwb s sg (zB6.mono (hr (_,_) mz2) hz) rfl (zBn rfl) (by kernel_rfl) (by kernel_rfl) (by kernel_rfl) rfl (hr (_,_) mz5) (zOP _) (by simp;omega) so fun v21 a w4 hwb hN21 s=> ?_
 have hR21:=hN21.row
 rw [zNC] at hR21
 have hz:=hwb.size
 refine zA4 [] [7,8,9,10,11,12,13,14,15,16,17,18,19,20,21,22] ((22, .s ((UF.eq (.bool (g13 (A++ [y,b])))).toSF))::(23, .s ((UF.eq (.bool (g13 (A++ [y,b])))).toSF))::(24, .s (SF.imp ((g13 (A++ [y,b]))=false) ((fQX r.n r.n' r.k r.d).toSF)))::(25, .s (SF.imp ((g13 (A++ [y,b]))=false) (SF.row 3 ([r].map QX.cu))))::(26, .s (SF.imp ((g13 (A++ [y,b]))=false) ((UF.eq (.bool (gq [r]))).toSF)))::(27, .s ((UF.eq (.bool ((g13 (A++ [y,b]))||(gq [r])))).toSF))::(28, .s ((UF.eq (.bool ((g13 (A++ [y,b]))||(gq [r])))).toSF))::(29, .s (SF.imp (((g13 (A++ [y,b]))||(gq [r]))=false) ((UF.eq l).toSF)))::(30, .s (SF.imp (((g13 (A++ [y,b]))||(gq [r]))=false) ((UF.eq (.int .i64 (((pxs A).length:Nat):Int))).toSF)))::(31, .s (SF.imp (((g13 (A++ [y,b]))||(gq [r]))=false) ((UF.eq (.bool (decide ((((pxs A).length:Nat):Int)>8)))).toSF)))::(32, .s ((UF.eq (.bool (((g13 (A++ [y,b]))||(gq [r]))||(decide ((((pxs A).length:Nat):Int)>8))))).toSF))::(33, .s ((UF.eq (.bool (((g13 (A++ [y,b]))||(gq [r]))||(decide ((((pxs A).length:Nat):Int)>8))))).toSF))::(34, .s (SF.imp ((((g13 (A++ [y,b]))||(gq [r]))||(decide ((((pxs A).length:Nat):Int)>8)))=false) ((UF.eq l).toSF)))::(35, .s (SF.imp ((((g13 (A++ [y,b]))||(gq [r]))||(decide ((((pxs A).length:Nat):Int)>8)))=false) ((UF.eq (.bool (zCK (pps A)))).toSF)))::(36, .s (SF.imp ((((g13 (A++ [y,b]))||(gq [r]))||(decide ((((pxs A).length:Nat):Int)>8)))=false) ((UF.eq (.bool (!(zCK (pps A))))).toSF)))::(37, .u (UF.eq (.bool ((((g13 (A++ [y,b]))||(gq [r]))||(decide ((((pxs A).length:Nat):Int)>8)))||(!(zCK (pps A))))))):: []) (zE9 hwb) s (by kernel_rfl)
  (oc (zI zD zTG (fun u0 W hb (h0:u0=v21)=>zJT (L:=A++ [y,b]) (yW hR21 h0 hb) hAy))<|oc zC<|oc (zF 23 (g13 (A++ [y,b])) (by kernel_rfl) iiz (fun e=>zR [] ((fQX r.n r.n' r.k r.d).toSF) fnz (fun _ _ h _=>h) (by kernel_rfl) (zK (f:=fQX r.n r.n' r.k r.d) 3 (by kernel_rfl) (hz:=zOM _ _ _ _))) (fun e W h=>absurd h e))<|oc (zF 23 (g13 (A++ [y,b])) (by kernel_rfl) iiz (fun e=>zR [(24,(fQX r.n r.n' r.k r.d).toSF)] (SF.row 3 ([r].map QX.cu)) (fmz ⟨fun v W h=>zJ (c:=(g13 (A++ [y,b]))=false) (f:=(fQX r.n r.n' r.k r.d).toSF) e h,fnz⟩) (fun _ _ h _=>h) (by kernel_rfl) (zA2 (fun u W (hu:(fQX r.n r.n' r.k r.d).p u W)=>zRb hu))) (fun e W h=>absurd h e))<|oc (zF 23 (g13 (A++ [y,b])) (by kernel_rfl) iiz (fun e=>zR [(25,SF.row 3 ([r].map QX.cu))] ((UF.eq (.bool (gq [r]))).toSF) (fmz ⟨fun v W h=>zJ (c:=(g13 (A++ [y,b]))=false) (f:=SF.row 3 ([r].map QX.cu)) e h,fnz⟩) (fun _ _ h _=>h) (by kernel_rfl) (zI zD zTF (fun u0 W hb (h0:(SF.row 3 ([r].map QX.cu)).p u0 W)=>zK9 (L:= [r]) h0 (fun x hx=>by rw [List.mem_singleton.1 hx];omega)))) (fun e W h=>absurd h e))<|oc (yF (g13 (A++ [y,b])) iiz (fun e v W h=>zCk h e) (fun e v W h=>zBA (zJ e h) e))<|oc zC<|oc (zF 28 ((g13 (A++ [y,b]))||(gq [r])) (by kernel_rfl) iiz (fun e=>zR [] ((UF.eq l).toSF) fnz (fun _ _ h _=>h) (by kernel_rfl) zC) (fun e W h=>absurd h e))<|oc (zF 28 ((g13 (A++ [y,b]))||(gq [r])) (by kernel_rfl) iiz (fun e=>zR [(29,(UF.eq l).toSF)] ((UF.eq (.int .i64 (((pxs A).length:Nat):Int))).toSF) (fmz ⟨fun v W h=>zJ (c:=((g13 (A++ [y,b]))||(gq [r]))=false) (f:=(UF.eq l).toSF) e h,fnz⟩) (fun _ _ h _=>h) (by kernel_rfl) (y6 (z:=6) (Cs:=pxs A) (by kernel_rfl) (fun v W hb h=>(yW hl0 h (s.up hb))) (fun _=>rfl))) (fun e W h=>absurd h e))<|oc (zF 28 ((g13 (A++ [y,b]))||(gq [r])) (by kernel_rfl) iiz (fun e=>zR [(30,(UF.eq (.int .i64 (((pxs A).length:Nat):Int))).toSF)] ((UF.eq (.bool (decide ((((pxs A).length:Nat):Int)>8)))).toSF) (fmz ⟨fun v W h=>zJ (c:=((g13 (A++ [y,b]))||(gq [r]))=false) (f:=(UF.eq (.int .i64 (((pxs A).length:Nat):Int))).toSF) e h,fnz⟩) (fun _ _ h _=>h) (by kernel_rfl) (zQ .i64 (((pxs A).length:Nat):Int) 8 (decide ((((pxs A).length:Nat):Int)>8)) iiz iiz rfl rfl)) (fun e W h=>absurd h e))<|oc (yF ((g13 (A++ [y,b]))||(gq [r])) iiz (fun e v W h=>zCk h e) (fun e v W h=>zBA (zJ e h) e))<|oc zC<|oc (zF 33 (((g13 (A++ [y,b]))||(gq [r]))||(decide ((((pxs A).length:Nat):Int)>8))) (by kernel_rfl) iiz (fun e=>zR [] ((UF.eq l).toSF) fnz (fun _ _ h _=>h) (by kernel_rfl) zC) (fun e W h=>absurd h e))<|oc (zF 33 (((g13 (A++ [y,b]))||(gq [r]))||(decide ((((pxs A).length:Nat):Int)>8))) (by kernel_rfl) iiz (fun e=>zR [(34,(UF.eq l).toSF)] ((UF.eq (.bool (zCK (pps A)))).toSF) (fmz ⟨fun v W h=>zJ (c:=(((g13 (A++ [y,b]))||(gq [r]))||(decide ((((pxs A).length:Nat):Int)>8)))=false) (f:=(UF.eq l).toSF) e h,fnz⟩) (fun _ _ h _=>h) (by kernel_rfl) (zI zD zTE (fun u0 W hb (h0:u0=l)=>zHQ (ps:=pps A) (by rw [show _=l from h0];exact (SF.row 6 _).st _ _ _ (hGo (by simp only [Bool.or_eq_false_iff] at e;exact e.1.1)).1 (s.up hb)) (by have:=(zQC (L:=A++ [y,b]) (by simp only [Bool.or_eq_false_iff] at e;exact e.1.1)).1;simp at this ⊢;omega) (hGo (by simp only [Bool.or_eq_false_iff] at e;exact e.1.1)).2.1))) (fun e W h=>absurd h e))<|oc (zF 33 (((g13 (A++ [y,b]))||(gq [r]))||(decide ((((pxs A).length:Nat):Int)>8))) (by kernel_rfl) iiz (fun e=>zR [(35,(UF.eq (.bool (zCK (pps A)))).toSF)] ((UF.eq (.bool (!(zCK (pps A))))).toSF) (fmz ⟨fun v W h=>zJ (c:=(((g13 (A++ [y,b]))||(gq [r]))||(decide ((((pxs A).length:Nat):Int)>8)))=false) (f:=(UF.eq (.bool (zCK (pps A)))).toSF) e h,fnz⟩) (fun _ _ h _=>h) (by kernel_rfl) (zD6 (zCK (pps A)) iiz (fun _=>rfl))) (fun e W h=>absurd h e))<|oc (yF (((g13 (A++ [y,b]))||(gq [r]))||(decide ((((pxs A).length:Nat):Int)>8))) iiz (fun e v W h=>zCk h e) (fun e v W h=>zBA (zJ e h) e))<|zE)
  zA7 fun a w5 hbw s hr=> ?_
 replace hwb:=hwb.trans (hbw.mono hwb.size)
 refine zCE (by kernel_rfl) ?_
 refine StS.cond s ((((g13 (A++ [y,b]))||(gq [r]))||(decide ((((pxs A).length:Nat):Int)>8)))||(!(zCK (pps A)))) iiz (fun e=> ?_) (fun e=> ?_)
 ·refine wpIn_seq ?_
  replace s:=s.drop [10]
  refine zB 2 ((38, .s ((UF.eq (.bool true)).toSF))::(10, .u (UF.eq (.bool true))):: []) hmix s (by kernel_rfl)
   (oc (zEt zD zQM (fun W hb=>zHw (hT.below (s.up hb))))<|oc zG<|zE) fun a w6 s=> ?_
  refine zA rfl ?_
  refine wpIn_ret ?_
  exact StS.res1 s (t:=10) rfl iiz
 ·simp only [Bool.or_eq_false_iff] at e
  obtain ⟨⟨⟨eG,eQ⟩,_⟩,eS⟩:=e
  have hG:=zQC eG
  obtain ⟨hA,hpair,hpy,hpm⟩:=hGo eG
  have hy80:=hG.2 y (by simp)
  have hb80:=hG.2 b (by simp)
  have hr40:=zOa eQ r (by simp)
  have hnA:(pps A).length≤1000000:=by have:=hG.1;simp at this ⊢;omega
  have h3A:3≤(pps A).length:=by
   apply Classical.byContradiction
   intro h
   rw [zID (by omega)] at eS
   exact absurd eS (by decide)
  have hwr:=zHv (pps A) y.p
  have hqY:=zPl hpy
  have hqM: ∀p,p∈zBq (pps A) b.p→QB p.1 159∧QB p.2 159:=fun p hp=>by
   obtain ⟨q,hq,rfl⟩:=List.mem_map.1 hp
   exact zPl (hpm q hq)
  have hqr:QB r.q 40:=QXp.qb ht hr40
  refine wpIn_skip ?_
  refine wpIn_seq ?_
  refine zB 4 ((39, .s ((fPV 80 (y.p)).toSF))::(40, .s ((UF.eq l).toSF))::(41, .s ((UF.eq (.int .i64 (yD (pps A) y.p))).toSF))::(11, .u (UF.eq (.int .i64 (yD (pps A) y.p)))):: []) hmix s (by kernel_rfl)
   (oc (zAh (C:=(PX.cu y).cf) 6 (by kernel_rfl) (fun _ _ h=>h.2) (zBj hy80))<|oc zC<|oc (zH zD zFm (fun u0 u1 W hb (h0:(fPV 80 (y.p)).p u0 W) (h1:u1=l)=>zAZ (m:=159) (p:=y.p) (ps:=pps A) (zCi (m':=159) (by decide) h0) (zEn (m:=80) (by decide) _ _ (yW hA h1 (s.up hb))) (by decide) (by decide) hnA (hT.below (s.up hb))))<|oc zG<|zE) fun a w7 s=> ?_
  refine zA rfl ?_
  refine wpIn_seq ?_
  refine wpIn_seq ?_
  refine zB 34 ((42, .s ((UF.eq (.int .i64 (yD (pps A) y.p))).toSF))::(43, .s ((UF.eq (.bool false)).toSF))::(44, .s ((UF.eq (.bool false)).toSF))::(45, .s ((UF.eq (.int .i64 (yD (pps A) y.p))).toSF))::(46, .s ((UF.eq (.bool false)).toSF))::(47, .s ((UF.eq (.bool false)).toSF))::(48, .s ((UF.eq (.bool false)).toSF))::(49, .s ((fPV 80 (y.p)).toSF))::(50, .s ((UF.eq (.int .i64 z)).toSF))::(51, .s ((UF.eq l).toSF))::(52, .s (zTr 80 (pps A)))::(53, .s ((UF.eq (.int .i64 (yD (pps A) y.p))).toSF))::(54, .s ((UF.eq (.int .i64 (yD (pps A) y.p))).toSF))::(55, .s ((UF.eq (.bool false)).toSF))::(56, .s ((UF.eq (.bool false)).toSF))::(57, .s ((UF.eq (.bool false)).toSF))::(58, .s ((fPV 80 (y.p)).toSF))::(59, .s ((UF.eq l).toSF))::(60, .s (SF.row 6 (pvs 80 (zFS (pps A)))))::(61, .s ((UF.eq (.int .i64 (yD (pps A) y.p))).toSF))::(62, .s ((UF.eq (.int .i64 (yD (pps A) y.p))).toSF))::(63, .s ((UF.eq (.bool false)).toSF))::(64, .s ((UF.eq (.bool false)).toSF))::(65, .s ((UF.eq (.bool false)).toSF))::(66, .s ((fPV 80 (y.p)).toSF))::(67, .s ((fPV 80 (b.p)).toSF))::(68, .s ((fPV 159 (zEC y.p b.p)).toSF))::(69, .s ((fPV 80 (b.p)).toSF))::(70, .s ((UF.eq l).toSF))::(71, .s (SF.row 6 (pns (zBq (pps A) b.p))))::(72, .s ((UF.eq (.int .i64 (yD (pps A) y.p))).toSF))::(73, .s ((UF.eq (.int .i64 (yD (pps A) y.p))).toSF))::(74, .s ((UF.eq (.bool false)).toSF))::(75, .u (UF.eq (.bool false))):: []) hmix s (by kernel_rfl)
   (oc zC<|oc (zQ .i64 (yD (pps A) y.p) (-1) false iiz iiz (decide_eq_false (by omega)) rfl)<|oc zC<|oc (zF 44 false (by kernel_rfl) iiz (fun _=>zC) arf)<|oc (zF 44 false (by kernel_rfl) iiz (fun _=>zQ .i64 (yD (pps A) y.p) 1 false iiz iiz (decide_eq_false (by omega)) rfl) arf)<|oc (yF false iiz (fun e=>by cases e) (fun _ _ _ h=>h))<|oc zC<|oc (zF 48 false (by kernel_rfl) iiz (fun _=>zAh (C:=(PX.cu y).cf) 6 (by kernel_rfl) (fun _ _ h=>h.2) (zBj hy80)) arf)<|oc (zF 48 false (by kernel_rfl) iiz (fun _=>zC) arf)<|oc (zF 48 false (by kernel_rfl) iiz (fun _=>zC) arf)<|oc (zF 48 false (by kernel_rfl) iiz (fun _=>zH zD zTD (fun u0 u1 W hb (h0:u0= .int .i64 z) (h1:u1=l)=>zJS (m:=80) (ps:=pps A) (z:=z) h0 (yW hA h1 (s.up hb)) (by omega) hnA)) arf)<|oc (zF 48 false (by kernel_rfl) iiz (fun _=>zH zD zFm (fun u0 u1 W hb (h0:(fPV 80 (y.p)).p u0 W) (h1:(zTr 80 (pps A)).p u1 W)=>(by obtain ⟨kk9,hkk9,hr9⟩:=h1;exact (zAZ (m:=159) (p:=y.p) (ps:=zJL (pps A) kk9) (zCi (m':=159) (by decide) h0) (zEn (m:=80) (by decide) _ _ hr9) (by decide) (by decide) (by rw [zHL];exact hnA) (hT.below (s.up hb))).mono (Ret.to (fun v W h=>by rw [zKp hkk9] at h;exact h))))) arf)<|oc (zF 48 false (by kernel_rfl) iiz (fun _=>zC) arf)<|oc (zF 48 false (by kernel_rfl) iiz (fun _=>zQ .i64 (yD (pps A) y.p) (yD (pps A) y.p) false iiz iiz (bne_self_eq_false _) rfl) arf)<|oc (yF false iiz (fun e=>by cases e) (fun _ _ _ h=>h))<|oc zC<|oc (zF 57 false (by kernel_rfl) iiz (fun _=>zAh (C:=(PX.cu y).cf) 6 (by kernel_rfl) (fun _ _ h=>h.2) (zBj hy80)) arf)<|oc (zF 57 false (by kernel_rfl) iiz (fun _=>zC) arf)<|oc (zF 57 false (by kernel_rfl) iiz (fun _=>zI zD zTC (fun u0 W hb (h0:u0=l)=>zNx (m:=80) (ps:=pps A) (yW hA h0 (s.up hb)) hnA)) arf)<|oc (zF 57 false (by kernel_rfl) iiz (fun _=>zH zD zFm (fun u0 u1 W hb (h0:(fPV 80 (y.p)).p u0 W) (h1:(SF.row 6 (pvs 80 (zFS (pps A)))).p u1 W)=>(zAZ (m:=159) (p:=y.p) (ps:=zFS (pps A)) (zCi (m':=159) (by decide) h0) (zEn (m:=80) (by decide) _ _ h1) (by decide) (by decide) (by rw [zDG];exact hnA) (hT.below (s.up hb))).mono (Ret.to (fun v W h=>by rw [zKq] at h;exact h)))) arf)<|oc (zF 57 false (by kernel_rfl) iiz (fun _=>zC) arf)<|oc (zF 57 false (by kernel_rfl) iiz (fun _=>zQ .i64 (yD (pps A) y.p) (yD (pps A) y.p) false iiz iiz (bne_self_eq_false _) rfl) arf)<|oc (yF false iiz (fun e=>by cases e) (fun _ _ _ h=>h))<|oc zC<|oc (zF 65 false (by kernel_rfl) iiz (fun _=>zAh (C:=(PX.cu y).cf) 6 (by kernel_rfl) (fun _ _ h=>h.2) (zBj hy80)) arf)<|oc (zF 65 false (by kernel_rfl) iiz (fun _=>zAh (C:=(PX.cu b).cf) 6 (by kernel_rfl) (fun _ _ h=>h.2) (zBj hb80)) arf)<|oc (zF 65 false (by kernel_rfl) iiz (fun _=>zH zD zQN (fun u0 u1 W hb (h0:(fPV 80 (y.p)).p u0 W) (h1:(fPV 80 (b.p)).p u1 W)=>(zHN (m:=80) (p:=y.p) (q:=b.p) h0 h1 (zCh (by decide) h0) (zCh (by decide) h1) (by decide)).mono (Ret.to (fun v W h=>zBe (p:=zEC y.p b.p) (m:=159) hqY.1 hqY.2 h)))) arf)<|oc (zF 65 false (by kernel_rfl) iiz (fun _=>zAh (C:=(PX.cu b).cf) 6 (by kernel_rfl) (fun _ _ h=>h.2) (zBj hb80)) arf)<|oc (zF 65 false (by kernel_rfl) iiz (fun _=>zC) arf)<|oc (zF 65 false (by kernel_rfl) iiz (fun _=>zH zD zTB (fun u0 u1 W hb (h0:(fPV 80 (b.p)).p u0 W) (h1:u1=l)=>zLd (m:=80) (t:=b.p) (ps:=pps A) h0 (yW hA h1 (s.up hb)) (by decide) (by decide) hnA)) arf)<|oc (zF 65 false (by kernel_rfl) iiz (fun _=>zH zD zFm (fun u0 u1 W hb (h0:(fPV 159 (zEC y.p b.p)).p u0 W) (h1:(SF.row 6 (pns (zBq (pps A) b.p))).p u1 W)=>(zAZ (m:=159) (p:=zEC y.p b.p) (ps:=zBq (pps A) b.p) h0 (zLw hqM _ _ h1) (by decide) (by decide) (by rw [zBp];exact hnA) (hT.below (s.up hb))).mono (Ret.to (fun v W h=>by rw [zJG] at h;exact h)))) arf)<|oc (zF 65 false (by kernel_rfl) iiz (fun _=>zC) arf)<|oc (zF 65 false (by kernel_rfl) iiz (fun _=>zQ .i64 (yD (pps A) y.p) (yD (pps A) y.p) false iiz iiz (bne_self_eq_false _) rfl) arf)<|oc (yF false iiz (fun e=>by cases e) (fun _ _ _ h=>h))<|zE) fun a w8 s=> ?_
  refine zA rfl ?_
  refine StS.cond s false iiz (fun e=>by cases e) (fun e=> ?_)
  refine wpIn_skip ?_
  refine wpIn_seq ?_
  refine wpIn_seq ?_
  refine zB 9 ((76, .s ((UF.eq l).toSF))::(77, .s ((UF.eq l).toSF))::(78, .s ((UF.eq (.bool true)).toSF))::(79, .s ((UF.eq (.bool false)).toSF))::(80, .s ((UF.eq (.bool false)).toSF))::(81, .s ((UF.eq l).toSF))::(82, .s ((UF.eq l).toSF))::(83, .s ((UF.eq (.bool false)).toSF))::(84, .u (UF.eq (.bool false))):: []) hmix s (by kernel_rfl)
   (oc zC<|oc zC<|oc (zH zD zR6 (fun u0 u1 W hb (h0:u0=l) (h1:u1=l)=>(zJg (m:=80) (ps:=pps A) (qs:=pps A) (yW hA h0 (s.up hb)) (yW hA h1 (s.up hb)) (by decide) (by decide) hnA hnA (hT.below (s.up hb))).mono (Ret.to (fun v W h=>by rw [zJ7 (by omega)] at h;exact h))))<|oc (zD6 true iiz (fun _=>rfl))<|oc zC<|oc (zF 80 false (by kernel_rfl) iiz (fun _=>zC) arf)<|oc (zF 80 false (by kernel_rfl) iiz (fun _=>zC) arf)<|oc (zF 80 false (by kernel_rfl) iiz (fun _=>zH zD zR7 (fun u0 u1 W hb (h0:u0=l) (h1:u1=l)=>(zE8 (m:=80) (ps:=pps A) (qs:=pps A) (yW hA h0 (s.up hb)) (yW hA h1 (s.up hb)) (by decide) (by decide) hnA hnA (hT.below (s.up hb))).mono (Ret.to (fun v W h=>by rw [zFK (by omega)] at h;exact h)))) arf)<|oc (yF false iiz (fun e=>by cases e) (fun _ _ _ h=>h))<|zE) fun a w9 s=> ?_
  refine zA rfl ?_
  refine StS.cond s false iiz (fun e=>by cases e) (fun e=> ?_)
  refine wpIn_skip ?_
  refine wpIn_seq ?_
  refine wpIn_seq ?_
  refine zB 9 ((85, .s ((fRV 40 (r.q)).toSF))::(86, .s ((UF.eq (.int .i64 (r.q.num.sign))).toSF))::(87, .s ((UF.eq (.bool (decide (r.q.num.sign<0)))).toSF))::(88, .s ((UF.eq (.bool (decide (r.q.num.sign<0)))).toSF))::(89, .s (SF.imp ((decide (r.q.num.sign<0))=false) ((fRV 40 (r.q)).toSF)))::(90, .s (SF.imp ((decide (r.q.num.sign<0))=false) ((fQN ((1:Int):Rat)).toSF)))::(91, .s (SF.imp ((decide (r.q.num.sign<0))=false) ((UF.eq (.int .i64 (qsg r.q ((1:Int):Rat)))).toSF)))::(92, .s (SF.imp ((decide (r.q.num.sign<0))=false) ((UF.eq (.bool (decide (qsg r.q ((1:Int):Rat)>0)))).toSF)))::(93, .u (UF.eq (.bool ((decide (r.q.num.sign<0))||(decide (qsg r.q ((1:Int):Rat)>0)))))):: []) hmix s (by kernel_rfl)
   (oc (zAh (C:=(QX.cu r).cf) 3 (by kernel_rfl) (fun _ _ h=>h.2) (zDJ hr40))<|oc (zI zD zQK (fun u0 W hb (h0:RVp 40 (r.q) u0 W)=>zFV (m:=40) h0 (by decide)))<|oc (zQ .i64 (r.q.num.sign) 0 (decide (r.q.num.sign<0)) iiz iiz rfl rfl)<|oc zC<|oc (zF 88 (decide (r.q.num.sign<0)) (by kernel_rfl) iiz (fun e=>zR [] ((fRV 40 (r.q)).toSF) fnz (fun _ _ h _=>h) (by kernel_rfl) (zAh (C:=(QX.cu r).cf) 3 (by kernel_rfl) (fun _ _ h=>h.2) (zDJ hr40))) (fun e W h=>absurd h e))<|oc (zF 88 (decide (r.q.num.sign<0)) (by kernel_rfl) iiz (fun e=>zR [] ((fQN ((1:Int):Rat)).toSF) fnz (fun _ _ h _=>h) (by kernel_rfl) (zI zD zGm (fun u0 W hb (h0:u0= .int .i64 1)=>zDb 1 h0 (by decide)))) (fun e W h=>absurd h e))<|oc (zF 88 (decide (r.q.num.sign<0)) (by kernel_rfl) iiz (fun e=>zR [(89,(fRV 40 (r.q)).toSF),(90,(fQN ((1:Int):Rat)).toSF)] ((UF.eq (.int .i64 (qsg r.q ((1:Int):Rat)))).toSF) (fmz ⟨fun v W h=>zJ (c:=(decide (r.q.num.sign<0))=false) (f:=(fRV 40 (r.q)).toSF) e h,fmz ⟨fun v W h=>zJ (c:=(decide (r.q.num.sign<0))=false) (f:=(fQN ((1:Int):Rat)).toSF) e h,fnz⟩⟩) (fun _ _ h _=>h) (by kernel_rfl) (zH zD zQJ (fun u0 u1 W hb (h0:RVp 40 (r.q) u0 W) (h1:QNp ((1:Int):Rat) u1 W)=>zHP (m:=40) h0 (QNp.rv h1 ((qbz (z:=1) (by decide)).mono (by decide))) (by decide) (by decide)))) (fun e W h=>absurd h e))<|oc (zF 88 (decide (r.q.num.sign<0)) (by kernel_rfl) iiz (fun e=>zR [(91,(UF.eq (.int .i64 (qsg r.q ((1:Int):Rat)))).toSF)] ((UF.eq (.bool (decide (qsg r.q ((1:Int):Rat)>0)))).toSF) (fmz ⟨fun v W h=>zJ (c:=(decide (r.q.num.sign<0))=false) (f:=(UF.eq (.int .i64 (qsg r.q ((1:Int):Rat)))).toSF) e h,fnz⟩) (fun _ _ h _=>h) (by kernel_rfl) (zQ .i64 (qsg r.q ((1:Int):Rat)) 0 (decide (qsg r.q ((1:Int):Rat)>0)) iiz iiz rfl rfl)) (fun e W h=>absurd h e))<|oc (yF (decide (r.q.num.sign<0)) iiz (fun e v W h=>zCk h e) (fun e v W h=>zBA (zJ e h) e))<|zE) fun a w10 s=> ?_
  refine zA rfl ?_
  refine StS.cond s ((decide (r.q.num.sign<0))||(decide (qsg r.q ((1:Int):Rat)>0))) iiz (fun e=> ?_) (fun e=> ?_)
  ·refine wpIn_seq ?_
   replace s:=s.drop [10]
   refine zB 2 ((94, .s ((UF.eq (.bool true)).toSF))::(10, .u (UF.eq (.bool true))):: []) hmix s (by kernel_rfl)
    (oc (zEt zD zQM (fun W hb=>zHw (hT.below (s.up hb))))<|oc zG<|zE) fun a w11 s=> ?_
   refine zA rfl ?_
   refine wpIn_ret ?_
   exact StS.res1 s (t:=10) rfl iiz
  ·rw [Bool.or_eq_false_iff] at e
   have ht0:=zTa e.1
   have ht1:=zTi e.2
   obtain ⟨kk,hk',hkk⟩:=zRl z (show 0<(pvs 80 (pps A)).length by simp;simp at h3A;omega)
   have hkk':kk<(pps A).length:=by simpa using hk'
   have hqS:=zRh (hpair kk ((kk+1) % (pps A).length) hkk' (Nat.mod_lt _ (by omega)) (by rcases Nat.lt_or_eq_of_le (Nat.succ_le_of_lt hkk') with h|h;(rw [Nat.mod_eq_of_lt (show kk+1<_ from h)];omega);(rw [show kk+1=_ from h,Nat.mod_self];omega))) hqr
   have hNl:(pvs 80 (pps A)).length=(pps A).length:=by simp
   refine wpIn_skip ?_
   refine wpIn_seq ?_
   refine zB 16 ((96, .s ((UF.eq l).toSF))::(97, .s ((UF.eq (.int .i64 z)).toSF))::(98, .s ((UF.eq l).toSF))::(99, .s ((UF.eq (.int .i64 (((pvs 80 (pps A)).length:Nat):Int))).toSF))::(100, .s ((UF.eq (.int .i64 ((z).tmod (((pvs 80 (pps A)).length:Nat):Int)))).toSF))::(101, .s ((UF.eq l).toSF))::(102, .s ((UF.eq (.int .i64 (((pvs 80 (pps A)).length:Nat):Int))).toSF))::(103, .s ((UF.eq (.int .i64 (z.tmod (((pvs 80 (pps A)).length:Nat):Int)+(((pvs 80 (pps A)).length:Nat):Int)))).toSF))::(104, .s ((UF.eq l).toSF))::(105, .s ((UF.eq (.int .i64 (((pvs 80 (pps A)).length:Nat):Int))).toSF))::(106, .s ((UF.eq (.int .i64 ((kk:Nat):Int))).toSF))::(107, .s ((zB7 (fPV 80 (at_ (pps A) kk)) (fPV 80 (at_ (pps A) ((kk+1) % (pps A).length))) (UF.eq (.bool true))).toSF))::(95, .s ((zB7 (fPV 80 (at_ (pps A) kk)) (fPV 80 (at_ (pps A) ((kk+1) % (pps A).length))) (UF.eq (.bool true))).toSF))::(108, .u (fPV 80 (at_ (pps A) kk)))::(109, .u (fPV 80 (at_ (pps A) ((kk+1) % (pps A).length))))::(110, .u (UF.eq (.bool true))):: []) hmix s (by kernel_rfl)
    (oc zC<|oc zC<|oc zC<|oc (y6 (z:=6) (Cs:=pvs 80 (pps A)) (by kernel_rfl) (fun v W hb h=>(yW hA h (s.up hb))) (fun _=>rfl))<|oc (zCU .i64 z (((pvs 80 (pps A)).length:Nat):Int) ((z).tmod (((pvs 80 (pps A)).length:Nat):Int)) iiz iiz (by omega) rfl)<|oc zC<|oc (y6 (z:=6) (Cs:=pvs 80 (pps A)) (by kernel_rfl) (fun v W hb h=>(yW hA h (s.up hb))) (fun _=>rfl))<|oc (y7 .i64 ((z).tmod (((pvs 80 (pps A)).length:Nat):Int)) (((pvs 80 (pps A)).length:Nat):Int) (z.tmod (((pvs 80 (pps A)).length:Nat):Int)+(((pvs 80 (pps A)).length:Nat):Int)) iiz iiz (by have h1: -(((pvs 80 (pps A)).length:Nat):Int)<z.tmod (((pvs 80 (pps A)).length:Nat):Int):=Int.lt_tmod_of_pos z (by omega);have h2:z.tmod (((pvs 80 (pps A)).length:Nat):Int)<(((pvs 80 (pps A)).length:Nat):Int):=Int.tmod_lt_of_pos z (by omega);exact zKm (by omega) (by omega)))<|oc zC<|oc (y6 (z:=6) (Cs:=pvs 80 (pps A)) (by kernel_rfl) (fun v W hb h=>(yW hA h (s.up hb))) (fun _=>rfl))<|oc (zCU .i64 (z.tmod (((pvs 80 (pps A)).length:Nat):Int)+(((pvs 80 (pps A)).length:Nat):Int)) (((pvs 80 (pps A)).length:Nat):Int) ((kk:Nat):Int) iiz iiz (by omega) hkk)<|oc (zH zD zQL (fun u0 u1 W hb (h0:u0=l) (h1:u1= .int .i64 ((kk:Nat):Int))=>zET (m:=80) (ps:=pps A) (k:=kk) (yW hA h0 (s.up hb)) h1 hkk' hnA (by omega)))<|oc zC<|oc (zB1 (A:=(fPV 80 (at_ (pps A) kk)).toSF) (B:=(fPV 80 (at_ (pps A) ((kk+1) % (pps A).length))).toSF) (C:=(UF.eq (.bool true)).toSF) iiz)<|oc (zB0 (A:=(fPV 80 (at_ (pps A) kk)).toSF) (B:=(fPV 80 (at_ (pps A) ((kk+1) % (pps A).length))).toSF) (C:=(UF.eq (.bool true)).toSF) iiz)<|oc (zBZ (A:=(fPV 80 (at_ (pps A) kk)).toSF) (B:=(fPV 80 (at_ (pps A) ((kk+1) % (pps A).length))).toSF) (C:=(UF.eq (.bool true)).toSF) iiz)<|zE) fun a w12 s=> ?_
   refine zY (CU.len 6) (cs:=zP6) (by kernel_rfl) rfl s (by kernel_rfl) (fun W=>rfl) rfl fun b12 a w s=> ?_
   refine zY (CU.len 6) (cs:=zP6) (by kernel_rfl) rfl s (by kernel_rfl) (fun W=>rfl) rfl fun b13 a w s=> ?_
   refine zV (CU.agg (fPV 80 (at_ (pps A) kk))) ((fPV 80 (at_ (pps A) kk)).toSF) rfl s (by kernel_rfl) rfl rfl rfl iiz iiz yR fun a w s=> ?_
   refine zV (CU.agg (fPV 80 (at_ (pps A) ((kk+1) % (pps A).length)))) ((fPV 80 (at_ (pps A) ((kk+1) % (pps A).length))).toSF) rfl s (by kernel_rfl) rfl rfl rfl iiz iiz yR fun a w s=> ?_
   refine yU (UF.eq (.bool true)) rfl s (by kernel_rfl) iiz fun a w s=> ?_
   refine zA rfl ?_
   refine wpIn_seq ?_
   replace s:=s.drop [10]
   refine zB 11 ((111, .s ((fPV 80 (at_ (pps A) kk)).toSF))::(112, .s ((fPV 80 (at_ (pps A) ((kk+1) % (pps A).length))).toSF))::(113, .s ((fRV 40 (r.q)).toSF))::(114, .s ((fPV 159 (seg (at_ (pps A) kk) (at_ (pps A) ((kk+1) % (pps A).length)) r.q)).toSF))::(115, .s ((UF.eq l).toSF))::(116, .s ((UF.eq (.int .i64 0)).toSF))::(117, .s ((UF.eq (.bool true)).toSF))::(118, .s ((UF.eq (.bool true)).toSF))::(119, .s ((UF.eq (.bool true)).toSF))::(120, .s ((UF.eq (.bool true)).toSF))::(10, .u (UF.eq (.bool true))):: []) hmix s (by kernel_rfl)
    (oc (zK (f:=fPV 80 (at_ (pps A) kk)) 6 (by kernel_rfl) (hz:=zP _ _))<|oc (zK (f:=fPV 80 (at_ (pps A) ((kk+1) % (pps A).length))) 6 (by kernel_rfl) (hz:=zP _ _))<|oc (zAh (C:=(QX.cu r).cf) 3 (by kernel_rfl) (fun _ _ h=>h.2) (zDJ hr40))<|oc (jZ zD zR5 (fun u0 u1 u2 W hb (h0:(fPV 80 (at_ (pps A) kk)).p u0 W) (h1:(fPV 80 (at_ (pps A) ((kk+1) % (pps A).length))).p u1 W) (h2:RVp 40 (r.q) u2 W)=>(zOK (m:=80) (k:=40) 202 (p:=(at_ (pps A) kk)) (q:=(at_ (pps A) ((kk+1) % (pps A).length))) (t:=r.q) h0 h1 h2 (zCh (by decide) h0) (zCh (by decide) h1) hqr (by decide) (by decide) (by decide)).mono (Ret.to (fun v W h=>zBe (m:=159) hqS.1 hqS.2 h))))<|oc zC<|oc (zH zD zFm (fun u0 u1 W hb (h0:(fPV 159 (seg (at_ (pps A) kk) (at_ (pps A) ((kk+1) % (pps A).length)) r.q)).p u0 W) (h1:u1=l)=>(zAZ (m:=159) (p:=(seg (at_ (pps A) kk) (at_ (pps A) ((kk+1) % (pps A).length)) r.q)) (ps:=pps A) h0 (zEn (m:=80) (by decide) _ _ (yW hA h1 (s.up hb))) (by decide) (by decide) hnA (hT.below (s.up hb))).mono (Ret.to (fun v W h=>by rw [zGw (by omega) hkk' ht0 ht1] at h;exact h))))<|oc (zQ .i64 0 0 true iiz iiz (by rfl) rfl)<|oc zC<|oc (zF 118 true (by kernel_rfl) iiz (fun _=>zEt zD zQM (fun W hb=>zHw (hT.below (s.up hb)))) arf)<|oc (yF true iiz (fun _ _ _ h=>h) (fun e=>by cases e))<|oc zG<|zE) fun a w13 s=> ?_
   refine zA rfl ?_
   refine wpIn_ret ?_
   exact StS.res1 s (t:=10) rfl iiz
end Go.Proofs.Wd
