/- Walk of straitlaw17.InsideConvex and what it needs. -/
import Derived.Test.YtdfhaibojmnmkaaGreatDoorMCX21
theorem kJ {P:Prop} (h:P:=by kernel_rfl):P:=h
theorem dC {P:Prop} (h:P:=by decide):P:=h
namespace Go.Proofs.Wd
set_option maxRecDepth 100000
set_option maxHeartbeats 1000000
open Go.RowKit Lb
def zCa (ps:List V2) (p:V2) (k:Nat):Bool:=(List.range k).all fun i=>z5 (at_ ps i) (at_ ps ((i+1) % ps.length)) p==1
def zBO (ps:List V2) (p:V2) (k:Nat):Bool:=(List.range k).any fun i=>z5 (at_ ps i) (at_ ps ((i+1) % ps.length)) p== -1
theorem zLV (ps:List V2) (p:V2) (k:Nat):zCa ps p (k+1)=(zCa ps p k&&(z5 (at_ ps k) (at_ ps ((k+1) % ps.length)) p==1)):=by simp [zCa,List.range_succ]
theorem zKZ (ps:List V2) (p:V2) (k:Nat):zBO ps p (k+1)=(zBO ps p k||(z5 (at_ ps k) (at_ ps ((k+1) % ps.length)) p== -1)):=by simp [zBO,List.range_succ]
theorem zOb (ps:List V2) (p:V2):zCa ps p ps.length=true↔ ∀i,i<ps.length->0<edg ps i p:=by
 unfold zCa
 rw [List.all_eq_true]
 exact ⟨fun h i hi=>zC6.1 (beq_iff_eq.1 (h i (List.mem_range.2 hi))),fun h i hi=>beq_iff_eq.2 (zC6.2 (h i (List.mem_range.1 hi)))⟩
theorem zNs (ps:List V2) (p:V2):zBO ps p ps.length=true↔ ∃i,i<ps.length/\edg ps i p<0:=by
 unfold zBO
 rw [List.any_eq_true]
 exact ⟨fun ⟨i,hi,h⟩=>⟨i,List.mem_range.1 hi,zGI.1 (beq_iff_eq.1 h)⟩,fun ⟨i,hi,h⟩=>⟨i,List.mem_range.2 hi,beq_iff_eq.2 (zGI.2 h)⟩⟩
theorem zJG {a b:Bool} (h:a=true↔b=true):a=b:=by cases a<;>cases b<;>simp_all
theorem zCI {ps:List V2} (h:Conv ps) (p:V2):(zY ps p==1)=zCa ps p ps.length/\(zY ps p== -1)=zBO ps p ps.length:=by
 obtain ⟨h1,h2⟩:=h.where_iff p
 exact ⟨zJG (by rw [beq_iff_eq,h1,zOb]),zJG (by rw [beq_iff_eq,h2,zNs])⟩
theorem zMz {ps:List V2} (h:Conv ps) (p:V2):(zY ps p==0)=(!(zCa ps p ps.length)&& !(zBO ps p ps.length)):=by
 obtain ⟨h1,h2⟩:=zCI h p
 rw [<-h1, <-h2]
 rcases zEC ps p with e|e|e<;>rw [e]<;>rfl
theorem zE8 {ps:List V2} (h:Conv ps) (p:V2):(!([p].any (fun p=>zY ps p !=1)))=zCa ps p ps.length:=by
 rw [<-(zCI h p).1]
 simp [bne]
theorem zFz {ps:List V2} (h:Conv ps) (p:V2):(!([p].any (fun p=>decide (zY ps p<0))))= !(zBO ps p ps.length):=by
 rw [<-(zCI h p).2]
 rcases zEC ps p with e|e|e<;>simp [e]
theorem zMa {A:List PX} {y:PX} {W:World} {l u:Value} (hl0:(SF.row 6 (pxs A)).p l W) (hy:(PX.u y).p u W) (hAl:A.length<=1048576) (hAb: ∀p,p∈A->PX.b p<=1048576) (hyb:PX.b y<=1048576) (hT:Tab W):Calls Tryz.prog 5 #[l,u] W (Ret W (fB true).toSF):=by
 have hAy: ∀p,p∈A++ [y]->PX.b p<=1048576:=fun p hp=>by
  rcases List.mem_append.1 hp with h|h
  ·exact hAb p h
  ·rw [List.mem_singleton.1 h];exact hyb
 have hGo:g13 (A++ [y])=false->(SF.row 6 (pvs 80 (pps A))).p l W/\(∀i j,i<(pps A).length->j<(pps A).length->i≠j->zD1 (at_ (pps A) i) (at_ (pps A) j)):=fun hG=>by
  have hG':=zQZ hG
  refine ⟨zLo (fun q hq=>hG'.2 q (by simp [hq])) _ _ hl0,fun i j hi hj hij=> ?_⟩
  obtain ⟨x1,h1,e1⟩:=zPz hi
  obtain ⟨x2,h2,e2⟩:=zPz hj
  obtain ⟨v1,g1⟩:=zII hl0 h1
  obtain ⟨v2,g2⟩:=zII hl0 h2
  rw [e1,e2]
  have ap: ∀{i:Nat} {x:PX},A[i]?=some x->(A++ [y])[i]?=some x:=fun h=>by rw [List.getElem?_append_left (List.getElem?_eq_some_iff.1 h).1];exact h
  exact zQE g1 g2 (zQY hG (ap h1) (ap h2) hij)
 refine yD [(UF.eq l).toSF,(PX.u y).toSF] Tryz.func5 rfl kJ ⟨rfl,hy,trivial⟩ fun a s=> ?_
 replace s:=s.renew [(0, .u (UF.eq l)),(1, .u (PX.u y))] (fmz ⟨.inr ⟨_,rfl, .head _⟩,fmz ⟨.inr ⟨_,rfl,mz1⟩,fnz⟩⟩)
 refine wpIn_seq ?_
 refine zB 0 [] hmix s kJ
  zE fun a w1 s=> ?_
 refine yJ (PX.cu y) rfl s kJ (fun v W h=>yP h) fun b3 a w s=> ?_
 refine yU (uB false) rfl s kJ iiz fun a w s=> ?_
 refine zA rfl ?_
 refine wpIn_seq ?_
 refine wpIn_seq ?_
 have sb:=s;have so:=s.old;have sg:=s.gr.size
 refine zEP (GW w) hmix s fun w2 hwb s=> ?_
 have hz:=hwb.size
 refine zBx [] [0,1,2,3,4] ((13, .s (SF.emp w2 30))::(14, .s ((UF.eq l).toSF))::(15, .s (SF.newRow w2 30 6 (pxs A)))::(16, .s ((PX.u y).toSF))::(17, .s (SF.row 6 [PX.cu y])):: []) (zGi hwb) s kJ
  (oc (zG4 (z:=6) kJ)<|oc zC<|oc (zLE (pxs A) kJ iiz (fun v W hb h=>(y5 hl0 h (s.up hb))) (zRU _) (by simp;omega))<|oc (zJ (f:=PX.u y) 6 kJ (hz:=zP _ _))<|oc (zAd (fun u W (hu:(PX.u y).p u W)=>zD2 hu))<|zE)
  zBC fun a w3 hbw s hr=> ?_
 replace hwb:=hwb.trans (hbw.mono hwb.size)
 refine zFP (i:=5) (x:= .tmp 15) (y:= .tmp 17) ([PX.cu y]) hwb s sg (zCb.mono (hr (_,_) mz2) hz) rfl (zBP rfl) kJ kJ kJ rfl (hr (_,_) mz4) (zO2 _ _) (by simp;omega) so fun v18 a w4 hwb hN18 s=> ?_
 have hR18:=hN18.row
 rw [zNJ] at hR18
 have hz:=hwb.size
 refine zBx [] [6,7,8,9,10,11,12,13,14,15,16] ((19, .s ((uB (g13 (A++ [y]))).toSF))::(20, .s ((uB (g13 (A++ [y]))).toSF))::(21, .s (SF.imp ((g13 (A++ [y]))=false) ((UF.eq l).toSF)))::(22, .s (SF.imp ((g13 (A++ [y]))=false) ((uI (((pxs A).length:Nat):Int)).toSF)))::(23, .s (SF.imp ((g13 (A++ [y]))=false) ((uB (decide ((((pxs A).length:Nat):Int)>10))).toSF)))::(24, .s ((uB ((g13 (A++ [y]))||(decide ((((pxs A).length:Nat):Int)>10)))).toSF))::(25, .s ((uB ((g13 (A++ [y]))||(decide ((((pxs A).length:Nat):Int)>10)))).toSF))::(26, .s (SF.imp (((g13 (A++ [y]))||(decide ((((pxs A).length:Nat):Int)>10)))=false) ((UF.eq l).toSF)))::(27, .s (SF.imp (((g13 (A++ [y]))||(decide ((((pxs A).length:Nat):Int)>10)))=false) ((uB (zCL (pps A))).toSF)))::(28, .s (SF.imp (((g13 (A++ [y]))||(decide ((((pxs A).length:Nat):Int)>10)))=false) ((uB (!(zCL (pps A)))).toSF)))::(29, .u (uB (((g13 (A++ [y]))||(decide ((((pxs A).length:Nat):Int)>10)))||(!(zCL (pps A)))))):: []) (zGi hwb) s kJ
  (oc (zI zD zT9 (fun u0 W hb (h0:u0=v18)=>zJY (L:=A++ [y]) (y5 hR18 h0 hb) hAy))<|oc zC<|oc (zF 20 (g13 (A++ [y])) kJ iiz (fun e=>zU [] ((UF.eq l).toSF) fnz (fun _ _ h _=>h) kJ zC) (fun e W h=>absurd h e))<|oc (zF 20 (g13 (A++ [y])) kJ iiz (fun e=>zU [(21,(UF.eq l).toSF)] ((uI (((pxs A).length:Nat):Int)).toSF) (fmz ⟨fun v W h=>zL (c:=(g13 (A++ [y]))=false) (f:=(UF.eq l).toSF) e h,fnz⟩) (fun _ _ h _=>h) kJ (qN (z:=6) (Cs:=pxs A) kJ (fun v W hb h=>(y5 hl0 h (s.up hb))) (fun _=>rfl))) (fun e W h=>absurd h e))<|oc (zF 20 (g13 (A++ [y])) kJ iiz (fun e=>zU [(22,(uI (((pxs A).length:Nat):Int)).toSF)] ((uB (decide ((((pxs A).length:Nat):Int)>10))).toSF) (fmz ⟨fun v W h=>zL (c:=(g13 (A++ [y]))=false) (f:=(uI (((pxs A).length:Nat):Int)).toSF) e h,fnz⟩) (fun _ _ h _=>h) kJ (zR .i64 (((pxs A).length:Nat):Int) 10 (decide ((((pxs A).length:Nat):Int)>10)) iiz iiz rfl rfl)) (fun e W h=>absurd h e))<|oc (yC (g13 (A++ [y])) iiz (fun e v W h=>zDN h e) (fun e v W h=>zCC (zL e h) e))<|oc zC<|oc (zF 25 ((g13 (A++ [y]))||(decide ((((pxs A).length:Nat):Int)>10))) kJ iiz (fun e=>zU [] ((UF.eq l).toSF) fnz (fun _ _ h _=>h) kJ zC) (fun e W h=>absurd h e))<|oc (zF 25 ((g13 (A++ [y]))||(decide ((((pxs A).length:Nat):Int)>10))) kJ iiz (fun e=>zU [(26,(UF.eq l).toSF)] ((uB (zCL (pps A))).toSF) (fmz ⟨fun v W h=>zL (c:=((g13 (A++ [y]))||(decide ((((pxs A).length:Nat):Int)>10)))=false) (f:=(UF.eq l).toSF) e h,fnz⟩) (fun _ _ h _=>h) kJ (zI zD zT8 (fun u0 W hb (h0:u0=l)=>zLh (ps:=pps A) (by rw [show _=l from h0];exact (SF.row 6 _).st _ _ _ (hGo (by simp only [Bool.or_eq_false_iff] at e;exact e.1)).1 (s.up hb)) (by have:=(zQZ (L:=A++ [y]) (by simp only [Bool.or_eq_false_iff] at e;exact e.1)).1;simp at this ⊢;omega) (hGo (by simp only [Bool.or_eq_false_iff] at e;exact e.1)).2))) (fun e W h=>absurd h e))<|oc (zF 25 ((g13 (A++ [y]))||(decide ((((pxs A).length:Nat):Int)>10))) kJ iiz (fun e=>zU [(27,(uB (zCL (pps A))).toSF)] ((uB (!(zCL (pps A)))).toSF) (fmz ⟨fun v W h=>zL (c:=((g13 (A++ [y]))||(decide ((((pxs A).length:Nat):Int)>10)))=false) (f:=(uB (zCL (pps A))).toSF) e h,fnz⟩) (fun _ _ h _=>h) kJ (zB5 (zCL (pps A)) iiz (fun _=>rfl))) (fun e W h=>absurd h e))<|oc (yC ((g13 (A++ [y]))||(decide ((((pxs A).length:Nat):Int)>10))) iiz (fun e v W h=>zDN h e) (fun e v W h=>zCC (zL e h) e))<|zE)
  zBC fun a w5 hbw s hr=> ?_
 replace hwb:=hwb.trans (hbw.mono hwb.size)
 refine zDa kJ ?_
 refine StS.cond s (((g13 (A++ [y]))||(decide ((((pxs A).length:Nat):Int)>10)))||(!(zCL (pps A)))) iiz (fun e=> ?_) (fun e=> ?_)
 ·refine wpIn_seq ?_
  replace s:=s.drop [4]
  refine zB 2 ((30, .s ((uB true).toSF))::(4, .u (uB true)):: []) hmix s kJ
   (oc (zEq zD zQ9 (fun W hb=>zHB (hT.below (s.up hb))))<|oc zG<|zE) fun a w6 s=> ?_
  refine zA rfl ?_
  refine wpIn_ret ?_
  exact StS.res1 s (t:=4) rfl iiz
 ·simp only [Bool.or_eq_false_iff] at e
  obtain ⟨⟨eG,_⟩,eS⟩:=e
  have hG:=zQZ eG
  obtain ⟨hA,hpair⟩:=hGo eG
  have hy80:=hG.2 y (by simp)
  have hnA:(pps A).length<=1000000:=by have:=hG.1;simp at this ⊢;omega
  have hC:Conv (pps A):=zKk (by simpa using eS)
  have h3A:=hC.three
  refine wpIn_skip ?_
  refine wpIn_seq ?_
  refine zB 2 ((5, .u (uB true))::(6, .u (uB false)):: []) hmix s kJ
   (oc zG<|oc zG<|zE) fun a w7 s=> ?_
  refine zA rfl ?_
  refine wpIn_seq ?_
  refine wpIn_seq ?_
  refine zB 1 ((7, .u (uI 0)):: []) hmix s kJ
   (oc zG<|zE) fun a w8 s=> ?_
  refine zA rfl ?_
  refine wpIn_block ?_
  refine zBF (fun k=>k<=(pps A).length) (fun k=> [(0, .u (UF.eq l)),(7, .u (uI (k:Int))),(5, .u (uB (zCa (pps A) y.p k))),(6, .u (uB (zBO (pps A) y.p k)))]) (fun k=>(pps A).length - k) (0:Nat) (Nat.zero_le _) (s.keepK _ (fmz ⟨mz6,fmz ⟨.head _,fmz ⟨mz1,fmz ⟨mz2,fnz⟩⟩⟩⟩)) fun k a w hx s=> ?_
  have hlz:(pvs 80 (pps A)).length=(pps A).length:=by simp
  refine wpIn_seq ?_
  refine wpIn_seq ?_
  refine zB 4 ((31, .s ((uI (k:Int)).toSF))::(32, .s ((UF.eq l).toSF))::(33, .s ((uI (((pvs 80 (pps A)).length:Nat):Int)).toSF))::(34, .u (uB (decide ((k:Int)<(((pvs 80 (pps A)).length:Nat):Int))))):: []) hmix s kJ
   (oc zC<|oc zC<|oc (qN (z:=6) (Cs:=pvs 80 (pps A)) kJ (fun v W hb h=>(y5 hA h (s.up hb))) (fun _=>rfl))<|oc (zR .i64 (k:Int) (((pvs 80 (pps A)).length:Nat):Int) (decide ((k:Int)<(((pvs 80 (pps A)).length:Nat):Int))) iiz iiz rfl rfl)<|zE) fun a w9 s=> ?_
  refine zA rfl ?_
  refine StS.cond s (decide ((k:Int)<(((pvs 80 (pps A)).length:Nat):Int))) iiz (fun e=> ?_) (fun e=> ?_)
  ·have hk:k<(pps A).length:=by have h7:=of_decide_eq_true e;rw [hlz] at h7;omega
   refine wpIn_skip ?_
   refine wpIn_seq ?_
   refine wpIn_block ?_
   refine wpIn_seq ?_
   refine zB 7 ((38, .s ((UF.eq l).toSF))::(39, .s ((uI (k:Int)).toSF))::(40, .s ((zB8 (fPV 80 (at_ (pps A) k)) (fPV 80 (at_ (pps A) ((k+1) % (pps A).length))) (uB true)).toSF))::(37, .s ((zB8 (fPV 80 (at_ (pps A) k)) (fPV 80 (at_ (pps A) ((k+1) % (pps A).length))) (uB true)).toSF))::(41, .u (fPV 80 (at_ (pps A) k)))::(42, .u (fPV 80 (at_ (pps A) ((k+1) % (pps A).length))))::(43, .u (uB true)):: []) hmix s kJ
    (oc zC<|oc zC<|oc (zH zD zQ8 (fun u0 u1 W hb (h0:u0=l) (h1:u1= .int .i64 (k:Int))=>zES (m:=80) (ps:=pps A) (k:=k) (y5 hA h0 (s.up hb)) h1 hk hnA (by omega)))<|oc zC<|oc (zB0 (A:=(fPV 80 (at_ (pps A) k)).toSF) (B:=(fPV 80 (at_ (pps A) ((k+1) % (pps A).length))).toSF) (C:=(uB true).toSF) iiz)<|oc (zBZ (A:=(fPV 80 (at_ (pps A) k)).toSF) (B:=(fPV 80 (at_ (pps A) ((k+1) % (pps A).length))).toSF) (C:=(uB true).toSF) iiz)<|oc (zBY (A:=(fPV 80 (at_ (pps A) k)).toSF) (B:=(fPV 80 (at_ (pps A) ((k+1) % (pps A).length))).toSF) (C:=(uB true).toSF) iiz)<|zE) fun a w10 s=> ?_
   refine zZ (CU.len 6) (cs:=zP6) kJ rfl s kJ (fun W=>rfl) rfl fun b8 a w s=> ?_
   refine zZ (CU.len 6) (cs:=zP6) kJ rfl s kJ (fun W=>rfl) rfl fun b9 a w s=> ?_
   refine zV (CU.agg (fPV 80 (at_ (pps A) k))) ((fPV 80 (at_ (pps A) k)).toSF) rfl s kJ rfl rfl rfl iiz iiz yR fun a w s=> ?_
   refine zV (CU.agg (fPV 80 (at_ (pps A) ((k+1) % (pps A).length)))) ((fPV 80 (at_ (pps A) ((k+1) % (pps A).length))).toSF) rfl s kJ rfl rfl rfl iiz iiz yR fun a w s=> ?_
   refine yU (uB true) rfl s kJ iiz fun a w s=> ?_
   refine zA rfl ?_
   refine wpIn_seq ?_
   refine zB 5 ((44, .s ((fPV 80 (at_ (pps A) k)).toSF))::(45, .s ((fPV 80 (at_ (pps A) ((k+1) % (pps A).length))).toSF))::(46, .s ((fPV 80 (y.p)).toSF))::(47, .s ((uI (z5 (at_ (pps A) k) (at_ (pps A) ((k+1) % (pps A).length)) y.p)).toSF))::(11, .u (uI (z5 (at_ (pps A) k) (at_ (pps A) ((k+1) % (pps A).length)) y.p))):: []) hmix s kJ
    (oc (zJ (f:=fPV 80 (at_ (pps A) k)) 6 kJ (hz:=zP _ _))<|oc (zJ (f:=fPV 80 (at_ (pps A) ((k+1) % (pps A).length))) 6 kJ (hz:=zP _ _))<|oc (zAY (C:=(PX.cu y).cf) 6 kJ (fun _ _ h=>h.2) (zBg hy80))<|oc (jU zD zSx (fun u0 u1 u2 W hb (h0:(fPV 80 (at_ (pps A) k)).p u0 W) (h1:(fPV 80 (at_ (pps A) ((k+1) % (pps A).length))).p u1 W) (h2:(fPV 80 (y.p)).p u2 W)=>zIM (m:=80) h0 h1 h2 dC dC))<|oc zG<|zE) fun a w11 s=> ?_
   refine zA rfl ?_
   refine wpIn_seq ?_
   refine y6 5 ((48, .s ((uB (zCa (pps A) y.p k)).toSF))::(49, .s ((uB (zCa (pps A) y.p k)).toSF))::(50, .s (SF.imp ((zCa (pps A) y.p k)=true) ((uI (z5 (at_ (pps A) k) (at_ (pps A) ((k+1) % (pps A).length)) y.p)).toSF)))::(51, .s (SF.imp ((zCa (pps A) y.p k)=true) ((uB (z5 (at_ (pps A) k) (at_ (pps A) ((k+1) % (pps A).length)) y.p==1)).toSF)))::(52, .u (uB ((zCa (pps A) y.p k)&&(z5 (at_ (pps A) k) (at_ (pps A) ((k+1) % (pps A).length)) y.p==1)))):: []) s kJ
    (oc zC<|oc zC<|oc (zF 49 (zCa (pps A) y.p k) kJ iiz (fun e=>zU [] ((uI (z5 (at_ (pps A) k) (at_ (pps A) ((k+1) % (pps A).length)) y.p)).toSF) fnz (fun _ _ h _=>h) kJ zC) (fun e W h=>absurd h e))<|oc (zF 49 (zCa (pps A) y.p k) kJ iiz (fun e=>zU [(50,(uI (z5 (at_ (pps A) k) (at_ (pps A) ((k+1) % (pps A).length)) y.p)).toSF)] ((uB (z5 (at_ (pps A) k) (at_ (pps A) ((k+1) % (pps A).length)) y.p==1)).toSF) (fmz ⟨fun v W h=>zL (c:=(zCa (pps A) y.p k)=true) (f:=(uI (z5 (at_ (pps A) k) (at_ (pps A) ((k+1) % (pps A).length)) y.p)).toSF) e h,fnz⟩) (fun _ _ h _=>h) kJ (zR .i64 (z5 (at_ (pps A) k) (at_ (pps A) ((k+1) % (pps A).length)) y.p) 1 (z5 (at_ (pps A) k) (at_ (pps A) ((k+1) % (pps A).length)) y.p==1) iiz iiz rfl rfl)) (fun e W h=>absurd h e))<|oc (yC (zCa (pps A) y.p k) iiz (fun e v W h=>jT (zL e h) e) (fun e v W h=>qZ h e))<|zE) fun a w12 s=> ?_
   replace s:=s.drop [5]
   refine yU (uB (zCa (pps A) y.p (k+1))) rfl s kJ (fun _ _ h=>by rw [zLV];exact h) fun a w s=> ?_
   refine zA rfl ?_
   refine y6 5 ((53, .s ((uB (zBO (pps A) y.p k)).toSF))::(54, .s ((uB (zBO (pps A) y.p k)).toSF))::(55, .s (SF.imp ((zBO (pps A) y.p k)=false) ((uI (z5 (at_ (pps A) k) (at_ (pps A) ((k+1) % (pps A).length)) y.p)).toSF)))::(56, .s (SF.imp ((zBO (pps A) y.p k)=false) ((uB (z5 (at_ (pps A) k) (at_ (pps A) ((k+1) % (pps A).length)) y.p== -1)).toSF)))::(57, .u (uB ((zBO (pps A) y.p k)||(z5 (at_ (pps A) k) (at_ (pps A) ((k+1) % (pps A).length)) y.p== -1)))):: []) s kJ
    (oc zC<|oc zC<|oc (zF 54 (zBO (pps A) y.p k) kJ iiz (fun e=>zU [] ((uI (z5 (at_ (pps A) k) (at_ (pps A) ((k+1) % (pps A).length)) y.p)).toSF) fnz (fun _ _ h _=>h) kJ zC) (fun e W h=>absurd h e))<|oc (zF 54 (zBO (pps A) y.p k) kJ iiz (fun e=>zU [(55,(uI (z5 (at_ (pps A) k) (at_ (pps A) ((k+1) % (pps A).length)) y.p)).toSF)] ((uB (z5 (at_ (pps A) k) (at_ (pps A) ((k+1) % (pps A).length)) y.p== -1)).toSF) (fmz ⟨fun v W h=>zL (c:=(zBO (pps A) y.p k)=false) (f:=(uI (z5 (at_ (pps A) k) (at_ (pps A) ((k+1) % (pps A).length)) y.p)).toSF) e h,fnz⟩) (fun _ _ h _=>h) kJ (zR .i64 (z5 (at_ (pps A) k) (at_ (pps A) ((k+1) % (pps A).length)) y.p) (-1) (z5 (at_ (pps A) k) (at_ (pps A) ((k+1) % (pps A).length)) y.p== -1) iiz iiz rfl rfl)) (fun e W h=>absurd h e))<|oc (yC (zBO (pps A) y.p k) iiz (fun e v W h=>zDN h e) (fun e v W h=>zCC (zL e h) e))<|zE) fun a w13 s=> ?_
   replace s:=s.drop [6]
   refine yU (uB (zBO (pps A) y.p (k+1))) rfl s kJ (fun _ _ h=>by rw [zKZ];exact h) fun a w s=> ?_
   refine zA rfl ?_
   refine y6 2 ((35, .s ((uI (k:Int)).toSF))::(36, .u (uI ((k+1:Nat):Int))):: []) s kJ
    (oc zC<|oc (qF .i64 (k:Int) 1 ((k+1:Nat):Int) iiz iiz (wrap64 _ _ (by omega) (by omega)))<|zE) fun a w14 s=> ?_
   replace s:=s.drop [7]
   refine yU (uI ((k+1:Nat):Int)) rfl s kJ iiz fun a w s=> ?_
   refine zA rfl ?_
   replace s:=s.popB
   replace s:=s.popB
   exact ⟨k+1,hk,(by show (pps A).length - (k+1)<(pps A).length - k;omega),s.keepK _ (fmz ⟨zUN,fmz ⟨.head _,fmz ⟨mz4,fmz ⟨mz2,fnz⟩⟩⟩⟩)⟩
  ·have hkN:k=(pps A).length:=by have h7:=of_decide_eq_false e;rw [hlz] at h7;omega
   subst hkN
   obtain ⟨t1,t2⟩:=zCI hC y.p
   have t3:=zMz hC y.p
   refine wpIn_exit ?_
   refine wpIn_seq ?_
   refine zB 4 ((58, .s ((fPV 80 (y.p)).toSF))::(59, .s ((UF.eq l).toSF))::(60, .s ((uI (zY (pps A) y.p)).toSF))::(12, .u (uI (zY (pps A) y.p))):: []) hmix s kJ
    (oc (zAY (C:=(PX.cu y).cf) 6 kJ (fun _ _ h=>h.2) (zBg hy80))<|oc zC<|oc (zH zD zKg (fun u0 u1 W hb (h0:(fPV 80 (y.p)).p u0 W) (h1:u1=l)=>zCE (m:=80) (p:=y.p) (ps:=pps A) h0 (y5 hA h1 (s.up hb)) dC dC hnA (hT.below (s.up hb))))<|oc zG<|zE) fun a w15 s=> ?_
   refine zA rfl ?_
   refine wpIn_seq ?_
   rcases Bool.eq_false_or_eq_true (zCa (pps A) y.p ((pps A).length)) with hL|hL
   ·refine zB 42 ((61, .s ((uI (zY (pps A) y.p)).toSF))::(62, .s ((uB (zY (pps A) y.p==1)).toSF))::(63, .s ((uB (zCa (pps A) y.p ((pps A).length))).toSF))::(64, .s ((uB true).toSF))::(65, .s ((uB true).toSF))::(66, .s ((uI (zY (pps A) y.p)).toSF))::(67, .s ((uB (zY (pps A) y.p== -1)).toSF))::(68, .s ((uB (zBO (pps A) y.p ((pps A).length))).toSF))::(69, .s ((uB true).toSF))::(70, .s ((uB true).toSF))::(71, .s ((uB true).toSF))::(72, .s ((uI (zY (pps A) y.p)).toSF))::(73, .s ((uB (zY (pps A) y.p==0)).toSF))::(74, .s ((uB (zCa (pps A) y.p ((pps A).length))).toSF))::(75, .s ((uB false).toSF))::(76, .s ((uB false).toSF))::(79, .s ((uB false).toSF))::(80, .s ((uB true).toSF))::(81, .s ((uB true).toSF))::(82, .s ((uB true).toSF))::(83, .s ((UF.eq l).toSF))::(84, .s ((fPV 80 (y.p)).toSF))::(85, .s (SF.row 6 [CU.agg (fPV 80 (y.p))]))::(86, .s ((uB (zCa (pps A) y.p ((pps A).length))).toSF))::(87, .s ((uB (zCa (pps A) y.p ((pps A).length))).toSF))::(88, .s ((uB true).toSF))::(89, .s ((uB true).toSF))::(90, .s ((uB true).toSF))::(91, .s ((UF.eq l).toSF))::(92, .s ((fPV 80 (y.p)).toSF))::(93, .s (SF.row 6 [CU.agg (fPV 80 (y.p))]))::(94, .s ((uB (!(zBO (pps A) y.p ((pps A).length)))).toSF))::(95, .s ((uB (zBO (pps A) y.p ((pps A).length))).toSF))::(96, .s ((uB (!(zBO (pps A) y.p ((pps A).length)))).toSF))::(97, .s ((uB true).toSF))::(98, .s ((uB true).toSF))::(99, .s ((uB true).toSF))::(100, .s ((uB true).toSF))::(101, .s ((uB true).toSF))::(4, .u (uB true)):: []) hmix s kJ
     (oc zC<|oc (zR .i64 (zY (pps A) y.p) 1 (zY (pps A) y.p==1) iiz iiz rfl rfl)<|oc zC<|oc (zBz (zY (pps A) y.p==1) (zCa (pps A) y.p ((pps A).length)) true kJ iiz iiz (beq_iff_eq.2 t1) rfl)<|oc zC<|oc (zF 65 true kJ iiz (fun _=>zC) arf)<|oc (zF 65 true kJ iiz (fun _=>zR .i64 (zY (pps A) y.p) (-1) (zY (pps A) y.p== -1) iiz iiz rfl rfl) arf)<|oc (zF 65 true kJ iiz (fun _=>zC) arf)<|oc (zF 65 true kJ iiz (fun _=>zBz (zY (pps A) y.p== -1) (zBO (pps A) y.p ((pps A).length)) true kJ iiz iiz (beq_iff_eq.2 t2) rfl) arf)<|oc (yC true iiz (fun _ _ _ h=>h) (fun e=>by cases e))<|oc zC<|oc (zF 71 true kJ iiz (fun _=>zC) arf)<|oc (zF 71 true kJ iiz (fun _=>zR .i64 (zY (pps A) y.p) 0 (zY (pps A) y.p==0) iiz iiz rfl rfl) arf)<|oc (zF 71 true kJ iiz (fun _=>zC) arf)<|oc (zF 71 true kJ iiz (fun _=>zB5 (zCa (pps A) y.p ((pps A).length)) iiz (fun _=>by rw [hL];rfl)) arf)<|oc (zF 71 true kJ iiz (fun _=>zC) arf)<|oc (zF 76 false kJ iiz (fun e=>by cases e) (fun _ _=>trivial))<|oc (zF 76 false kJ iiz (fun e=>by cases e) (fun _ _=>trivial))<|oc (zF 71 true kJ iiz (fun _=>yC false iiz (fun e=>by cases e) (fun _ _ _ h=>h)) arf)<|oc (zF 71 true kJ iiz (fun _=>zBz (zY (pps A) y.p==0) false true kJ iiz iiz (beq_iff_eq.2 (by rw [t3,hL];rfl)) rfl) arf)<|oc (yC true iiz (fun _ _ _ h=>h) (fun e=>by cases e))<|oc zC<|oc (zF 82 true kJ iiz (fun _=>zC) arf)<|oc (zF 82 true kJ iiz (fun _=>zAY (C:=(PX.cu y).cf) 6 kJ (fun _ _ h=>h.2) (zBg hy80)) arf)<|oc (zF 82 true kJ iiz (fun _=>zAd (fun u W (hu:(fPV 80 (y.p)).p u W)=>zD2 hu)) arf)<|oc (zF 82 true kJ iiz (fun _=>zH zD zQ7 (fun u0 u1 W hb (h0:u0=l) h1=>(zCY (m:=80) (ps:=pps A) (qs:= [y.p]) (y5 hA h0 (s.up hb)) h1 dC dC hnA (by simp) (hT.below (s.up hb))).mono (Ret.to (fun v W h=>by rw [zE8 hC] at h;exact h)))) arf)<|oc (zF 82 true kJ iiz (fun _=>zC) arf)<|oc (zF 82 true kJ iiz (fun _=>zBz (zCa (pps A) y.p ((pps A).length)) (zCa (pps A) y.p ((pps A).length)) true kJ iiz iiz (beq_self_eq_true _) rfl) arf)<|oc (yC true iiz (fun _ _ _ h=>h) (fun e=>by cases e))<|oc zC<|oc (zF 90 true kJ iiz (fun _=>zC) arf)<|oc (zF 90 true kJ iiz (fun _=>zAY (C:=(PX.cu y).cf) 6 kJ (fun _ _ h=>h.2) (zBg hy80)) arf)<|oc (zF 90 true kJ iiz (fun _=>zAd (fun u W (hu:(fPV 80 (y.p)).p u W)=>zD2 hu)) arf)<|oc (zF 90 true kJ iiz (fun _=>zH zD zQ6 (fun u0 u1 W hb (h0:u0=l) h1=>(zGg (m:=80) (ps:=pps A) (qs:= [y.p]) (y5 hA h0 (s.up hb)) h1 dC dC hnA (by simp) (hT.below (s.up hb))).mono (Ret.to (fun v W h=>by rw [zFz hC] at h;exact h)))) arf)<|oc (zF 90 true kJ iiz (fun _=>zC) arf)<|oc (zF 90 true kJ iiz (fun _=>zB5 (zBO (pps A) y.p ((pps A).length)) iiz (fun _=>rfl)) arf)<|oc (zF 90 true kJ iiz (fun _=>zBz (!(zBO (pps A) y.p ((pps A).length))) (!(zBO (pps A) y.p ((pps A).length))) true kJ iiz iiz (beq_self_eq_true _) rfl) arf)<|oc (yC true iiz (fun _ _ _ h=>h) (fun e=>by cases e))<|oc zC<|oc (zF 99 true kJ iiz (fun _=>zEq zD zQ9 (fun W hb=>zHB (hT.below (s.up hb)))) arf)<|oc (yC true iiz (fun _ _ _ h=>h) (fun e=>by cases e))<|oc zG<|zE) fun a w16 s=> ?_
    refine zA rfl ?_
    refine wpIn_ret ?_
    exact StS.res1 s (t:=4) rfl iiz
   ·refine zB 42 ((61, .s ((uI (zY (pps A) y.p)).toSF))::(62, .s ((uB (zY (pps A) y.p==1)).toSF))::(63, .s ((uB (zCa (pps A) y.p ((pps A).length))).toSF))::(64, .s ((uB true).toSF))::(65, .s ((uB true).toSF))::(66, .s ((uI (zY (pps A) y.p)).toSF))::(67, .s ((uB (zY (pps A) y.p== -1)).toSF))::(68, .s ((uB (zBO (pps A) y.p ((pps A).length))).toSF))::(69, .s ((uB true).toSF))::(70, .s ((uB true).toSF))::(71, .s ((uB true).toSF))::(72, .s ((uI (zY (pps A) y.p)).toSF))::(73, .s ((uB (zY (pps A) y.p==0)).toSF))::(74, .s ((uB (zCa (pps A) y.p ((pps A).length))).toSF))::(75, .s ((uB true).toSF))::(76, .s ((uB true).toSF))::(77, .s ((uB (zBO (pps A) y.p ((pps A).length))).toSF))::(78, .s ((uB (!(zBO (pps A) y.p ((pps A).length)))).toSF))::(79, .s ((uB (!(zBO (pps A) y.p ((pps A).length)))).toSF))::(80, .s ((uB true).toSF))::(81, .s ((uB true).toSF))::(82, .s ((uB true).toSF))::(83, .s ((UF.eq l).toSF))::(84, .s ((fPV 80 (y.p)).toSF))::(85, .s (SF.row 6 [CU.agg (fPV 80 (y.p))]))::(86, .s ((uB (zCa (pps A) y.p ((pps A).length))).toSF))::(87, .s ((uB (zCa (pps A) y.p ((pps A).length))).toSF))::(88, .s ((uB true).toSF))::(89, .s ((uB true).toSF))::(90, .s ((uB true).toSF))::(91, .s ((UF.eq l).toSF))::(92, .s ((fPV 80 (y.p)).toSF))::(93, .s (SF.row 6 [CU.agg (fPV 80 (y.p))]))::(94, .s ((uB (!(zBO (pps A) y.p ((pps A).length)))).toSF))::(95, .s ((uB (zBO (pps A) y.p ((pps A).length))).toSF))::(96, .s ((uB (!(zBO (pps A) y.p ((pps A).length)))).toSF))::(97, .s ((uB true).toSF))::(98, .s ((uB true).toSF))::(99, .s ((uB true).toSF))::(100, .s ((uB true).toSF))::(101, .s ((uB true).toSF))::(4, .u (uB true)):: []) hmix s kJ
     (oc zC<|oc (zR .i64 (zY (pps A) y.p) 1 (zY (pps A) y.p==1) iiz iiz rfl rfl)<|oc zC<|oc (zBz (zY (pps A) y.p==1) (zCa (pps A) y.p ((pps A).length)) true kJ iiz iiz (beq_iff_eq.2 t1) rfl)<|oc zC<|oc (zF 65 true kJ iiz (fun _=>zC) arf)<|oc (zF 65 true kJ iiz (fun _=>zR .i64 (zY (pps A) y.p) (-1) (zY (pps A) y.p== -1) iiz iiz rfl rfl) arf)<|oc (zF 65 true kJ iiz (fun _=>zC) arf)<|oc (zF 65 true kJ iiz (fun _=>zBz (zY (pps A) y.p== -1) (zBO (pps A) y.p ((pps A).length)) true kJ iiz iiz (beq_iff_eq.2 t2) rfl) arf)<|oc (yC true iiz (fun _ _ _ h=>h) (fun e=>by cases e))<|oc zC<|oc (zF 71 true kJ iiz (fun _=>zC) arf)<|oc (zF 71 true kJ iiz (fun _=>zR .i64 (zY (pps A) y.p) 0 (zY (pps A) y.p==0) iiz iiz rfl rfl) arf)<|oc (zF 71 true kJ iiz (fun _=>zC) arf)<|oc (zF 71 true kJ iiz (fun _=>zB5 (zCa (pps A) y.p ((pps A).length)) iiz (fun _=>by rw [hL];rfl)) arf)<|oc (zF 71 true kJ iiz (fun _=>zC) arf)<|oc (zF 76 true kJ iiz (fun _=>zC) arf)<|oc (zF 76 true kJ iiz (fun _=>zB5 (zBO (pps A) y.p ((pps A).length)) iiz (fun _=>rfl)) arf)<|oc (zF 71 true kJ iiz (fun _=>yC true iiz (fun _ _ _ h=>h) (fun e=>by cases e)) arf)<|oc (zF 71 true kJ iiz (fun _=>zBz (zY (pps A) y.p==0) (!(zBO (pps A) y.p ((pps A).length))) true kJ iiz iiz (beq_iff_eq.2 (by rw [t3,hL];rfl)) rfl) arf)<|oc (yC true iiz (fun _ _ _ h=>h) (fun e=>by cases e))<|oc zC<|oc (zF 82 true kJ iiz (fun _=>zC) arf)<|oc (zF 82 true kJ iiz (fun _=>zAY (C:=(PX.cu y).cf) 6 kJ (fun _ _ h=>h.2) (zBg hy80)) arf)<|oc (zF 82 true kJ iiz (fun _=>zAd (fun u W (hu:(fPV 80 (y.p)).p u W)=>zD2 hu)) arf)<|oc (zF 82 true kJ iiz (fun _=>zH zD zQ7 (fun u0 u1 W hb (h0:u0=l) h1=>(zCY (m:=80) (ps:=pps A) (qs:= [y.p]) (y5 hA h0 (s.up hb)) h1 dC dC hnA (by simp) (hT.below (s.up hb))).mono (Ret.to (fun v W h=>by rw [zE8 hC] at h;exact h)))) arf)<|oc (zF 82 true kJ iiz (fun _=>zC) arf)<|oc (zF 82 true kJ iiz (fun _=>zBz (zCa (pps A) y.p ((pps A).length)) (zCa (pps A) y.p ((pps A).length)) true kJ iiz iiz (beq_self_eq_true _) rfl) arf)<|oc (yC true iiz (fun _ _ _ h=>h) (fun e=>by cases e))<|oc zC<|oc (zF 90 true kJ iiz (fun _=>zC) arf)<|oc (zF 90 true kJ iiz (fun _=>zAY (C:=(PX.cu y).cf) 6 kJ (fun _ _ h=>h.2) (zBg hy80)) arf)<|oc (zF 90 true kJ iiz (fun _=>zAd (fun u W (hu:(fPV 80 (y.p)).p u W)=>zD2 hu)) arf)<|oc (zF 90 true kJ iiz (fun _=>zH zD zQ6 (fun u0 u1 W hb (h0:u0=l) h1=>(zGg (m:=80) (ps:=pps A) (qs:= [y.p]) (y5 hA h0 (s.up hb)) h1 dC dC hnA (by simp) (hT.below (s.up hb))).mono (Ret.to (fun v W h=>by rw [zFz hC] at h;exact h)))) arf)<|oc (zF 90 true kJ iiz (fun _=>zC) arf)<|oc (zF 90 true kJ iiz (fun _=>zB5 (zBO (pps A) y.p ((pps A).length)) iiz (fun _=>rfl)) arf)<|oc (zF 90 true kJ iiz (fun _=>zBz (!(zBO (pps A) y.p ((pps A).length))) (!(zBO (pps A) y.p ((pps A).length))) true kJ iiz iiz (beq_self_eq_true _) rfl) arf)<|oc (yC true iiz (fun _ _ _ h=>h) (fun e=>by cases e))<|oc zC<|oc (zF 99 true kJ iiz (fun _=>zEq zD zQ9 (fun W hb=>zHB (hT.below (s.up hb)))) arf)<|oc (yC true iiz (fun _ _ _ h=>h) (fun e=>by cases e))<|oc zG<|zE) fun a w17 s=> ?_
    refine zA rfl ?_
    refine wpIn_ret ?_
    exact StS.res1 s (t:=4) rfl iiz
end Go.Proofs.Wd
