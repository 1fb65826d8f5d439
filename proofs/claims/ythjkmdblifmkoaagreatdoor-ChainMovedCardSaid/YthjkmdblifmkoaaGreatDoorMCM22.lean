/- Walks of straitlaw19: ChainMoved and what it needs. -/
import Derived.Test.YthjkmdblifmkoaaGreatDoorMCM21
theorem kJ {P:Prop} (h:P:=by kernel_rfl):P:=h
theorem dC {P:Prop} (h:P:=by decide):P:=h
theorem fQ {α β:Sort _} {γ:α->β->Sort _} {p:(a:α)->(b:β)->γ a b->Prop} (a:α) (b:β) (c:γ a b) (h:p a b c):p a b c:=h
abbrev zWp:=@Go.wpIn_seq
abbrev zWq:=@List.length_map
abbrev zWr:=@Go.wpIn_ret
abbrev zWs:=@Go.wpIn_skip
abbrev zWt:=@decide_eq_true
abbrev zWu:=@Nat.eq_zero_or_pos
abbrev zWv:=@List.mem_cons_self
abbrev zWw:=@List.mem_cons_of_mem
abbrev zWx:=@List.eq_nil_of_length_eq_zero
namespace Go.Proofs.Wd
open Tryz
set_option maxRecDepth 100000
set_option maxHeartbeats 1000000
open Go.RowKit Lb
theorem zBs {x:PX} (h:x.big=false) (cs:List Value) (W:World) (hc:(PX.cu x).p cs W):0+6<=cs.length/\(fPV 2 x.p).p (.agg ((cs.drop 0).take 6).toArray) W:=zNq h cs W hc
theorem zKe (b:Bool) (n:Nat):(b=false/\True)∨(b=true/\n=0)∨(b=true/\0<n):=by
 cases b
 ·exact .inl ⟨rfl,trivial⟩
 ·rcases zWu n with h|h
  ·exact .inr (.inl ⟨rfl,h⟩)
  ·exact .inr (.inr ⟨rfl,h⟩)
theorem zIv (m:Nat) (ts:List V6) (k:Nat):(trs m ts).drop k=trs m (ts.drop k):=by unfold trs;rw [List.map_drop]
theorem zQg {A:List PX} {TS:List TX} {x y z:PX} {k0:Int} {W:World} {r l u v q t:Value} (hr0:(SF.row 6 (pxs A)).p r W) (hl0:(SF.row 18 (txs TS)).p l W) (hy:(PX.u y).p u W) (hz':(PX.u z).p v W) (hx':(PX.u x).p q W) (ht:t= .int .i64 k0) (hT:Tab W):Calls prog 5 #[r,l,u,v,q,t] W (Ret W (fB true).tS):=by
 refine yE [(UF.eq r).tS,(UF.eq l).tS,(PX.u y).tS,(PX.u z).tS,(PX.u x).tS,(uI k0).tS] func5 rfl kJ ⟨rfl,rfl,hy,hz',hx',ht,trivial⟩ fun a s=> ?_
 replace s:=s.renew [(0, .u (UF.eq r)),(1, .u (UF.eq l)),(2, .u (PX.u y)),(3, .u (PX.u z)),(4, .u (PX.u x)),(5, .u (uI k0))] (fmz ⟨.inr ⟨_,rfl, .head _⟩,fmz ⟨.inr ⟨_,rfl,mz1⟩,fmz ⟨.inr ⟨_,rfl,mz2⟩,fmz ⟨.inr ⟨_,rfl,mz3⟩,fmz ⟨.inr ⟨_,rfl,mz4⟩,fmz ⟨.inr ⟨_,rfl,mz5⟩,fnz⟩⟩⟩⟩⟩⟩)
 refine zWp ?_
 refine zB 0 [] hmix s kJ
  zD fun a w1 s=> ?_
 refine yV (PX.cu y) rfl s kJ (fun v W h=>q8 h) fun b8 a w s=> ?_
 refine yV (PX.cu z) rfl s kJ (fun v W h=>q8 h) fun b9 a w s=> ?_
 refine yV (PX.cu x) rfl s kJ (fun v W h=>q8 h) fun b10 a w s=> ?_
 refine y8 (uB false) rfl s kJ iiz fun a w s=> ?_
 refine zA rfl ?_
 refine zWp ?_
 refine zWp ?_
 refine zB 7 ((17, .Z (UF.eq r))::(18, .Z (UF.eq l))::(19, .Z (PX.u y))::(20, .Z (PX.u z))::(21, .Z (PX.u x))::(22, .s (SF.row 6 (pxs [y,z,x])))::(23, .u (uB (g19 A TS [y,z,x]))):: []) hmix s kJ
  (oc zC<|oc zC<|oc (zJ (f:=PX.u y) 6 kJ (hz:=z4 _ _))<|oc (zJ (f:=PX.u z) 6 kJ (hz:=z4 _ _))<|oc (zJ (f:=PX.u x) 6 kJ (hz:=z4 _ _))<|oc (zDd (fun u v q W (hu:(PX.u y).p u W) (hv:(PX.u z).p v W) (hq:(PX.u x).p q W)=>zKn hu hv hq))<|oc (zCA zE zUK (fun u0 u1 u2 W hb (h0:u0=r) (h1:u1=l) (h2:(SF.row 6 (pxs [y,z,x])).p u2 W)=>zLV (A:=A) (TS:=TS) (L:= [y,z,x]) (yJ hr0 h0 (s.up hb)) (yJ hl0 h1 (s.up hb)) h2))<|zD) fun a w2 s=> ?_
 refine zA rfl ?_
 refine StS.cond s (g19 A TS [y,z,x]) iiz (fun e=> ?_) (fun e=> ?_)
 ·refine zWp ?_
  replace s:=s.drop [12]
  refine zB 2 ((24, .Z (uB true))::(12, .u (uB true)):: []) hmix s kJ
   (oc (zBA zE zIh (fun W hb=>zCL (hT.below (s.up hb))))<|oc zG<|zD) fun a w3 s=> ?_
  refine zA rfl ?_
  refine zWr ?_
  exact wH s (t:=12) rfl iiz
 ·obtain ⟨eA,eT,eP⟩:=zS8 e
  have hA:=zP4 eA r W hr0
  have hTf:=zS7 eT
  have hTS:=zPq (L:=TS) hTf.2 l W hl0
  have hy9:=(zIb eP).2 y (by simp)
  have hz9:=(zIb eP).2 z (by simp)
  have hx9:=(zIb eP).2 x (by simp)
  have hyq:=zA8 dC (zGJ hy9 hy)
  have hzq:=zA8 dC (zGJ hz9 hz')
  have hxq:=zA8 dC (zGJ hx9 hx')
  have hyx:QB (zBb y.p x.p).1 5/\QB (zBb y.p x.p).2 5:=⟨(hyq.1.add hxq.1).mono dC,(hyq.2.add hxq.2).mono dC⟩
  have hzx:QB (zBb z.p x.p).1 5/\QB (zBb z.p x.p).2 5:=⟨(hzq.1.add hxq.1).mono dC,(hzq.2.add hxq.2).mono dC⟩
  have hnA:(pps A).length<=1000000:=by have:=(zIb eA).1;simp;omega
  have hlT:=hTf.1
  have hTl:(tts TS).length=TS.length:=by simp
  have hnT:(tts TS).length<=1000000:=by omega
  obtain ⟨is,his⟩: ∃b,b=zEe (pps A) (tts TS) y.p z.p:=⟨_,rfl⟩
  refine zWs ?_
  refine zWp ?_
  refine zB 6 ((25, .Z (UF.eq r))::(26, .Z (UF.eq l))::(27, .Z (fPV 2 (y.p)))::(28, .Z (fPV 2 (z.p)))::(29, .Z (uB is))::(13, .u (uB is)):: []) hmix s kJ
   (oc zC<|oc zC<|oc (jM (C:=(PX.cu y).cf) 6 kJ (fun _ _ h=>h.2) (zBs hy9))<|oc (jM (C:=(PX.cu z).cf) 6 kJ (fun _ _ h=>h.2) (zBs hz9))<|oc (zBh zE zIg (fun u0 u1 u2 u3 W hb (h0:u0=r) (h1:u1=l) (h2:(fPV 2 (y.p)).p u2 W) (h3:(fPV 2 (z.p)).p u3 W)=>(zEV (R:=pps A) (Ts:=tts TS) (p:=y.p) (e_:=z.p) (zBQ (m:=2) dC _ _ (yJ hA h0 (s.up hb))) (zC1 (m:=2) dC _ _ (yJ hTS h1 (s.up hb))) (jD (m:=2) (m':=47) dC h2) (jD (m:=2) (m':=47) dC h3) hnA hnT (hT.below (s.up hb))).mono (wI (fun v W h=>by rw [<-his] at h;exact h))))<|oc zG<|zD) fun a w4 s=> ?_
  refine zA rfl ?_
  refine zWp ?_
  refine zB 1 ((14, .u (UF.eq (.slice none 0 0))):: []) hmix s kJ
   (oc zG<|zD) fun a w5 s=> ?_
  refine zA rfl ?_
  refine zWp ?_
  refine zWp ?_
  refine zB 1 ((15, .u (uI 0)):: []) hmix s kJ
   (oc zG<|zD) fun a w6 s=> ?_
  refine zA rfl ?_
  refine wpIn_block ?_
  replace s:StS _ _ _ [⟨10,31,PX.cu x,b10,true⟩,⟨9,31,PX.cu z,b9,true⟩,⟨8,31,PX.cu y,b8,true⟩] _ _ _ _:=s.freeze
  obtain ⟨base,hbase⟩: ∃b,b=w6.heap.size:=⟨_,rfl⟩
  have hbb: ∀q,q∈ [(⟨10,31,PX.cu x,b10,true⟩:Bx),(⟨9,31,PX.cu z,b9,true⟩:Bx),(⟨8,31,PX.cu y,b8,true⟩:Bx)]->q.r=true->q.b<base:=fun q hq _=>by rw [hbase];exact s.old q hq
  have hb1:=s.gr.size
  have hb0':_<=base:=hbase▸hb1
  have hsz0:base<=w6.heap.size:=by rw [hbase];exact Nat.le_refl _
  refine zFy (fun (p:Nat×Value) w=>p.1<=(tts TS).length/\base<=w.heap.size/\zBJ w base 42 18 p.2 (trs 5 (((tts TS).take p.1).map (zIZ x.p)))) (fun p=> [(0, .u (UF.eq r)),(1, .u (UF.eq l)),(5, .u (uI k0)),(13, .u (uB is)),(14, .u (UF.eq (p.2))),(15, .u (uI (p.1:Int)))]) (fun p=>(tts TS).length - p.1) (0, .slice none 0 0) (⟨Nat.zero_le _,hsz0,zBJ.nil _ _ _ _⟩) (s.keepK _ (fmz ⟨mz5,fmz ⟨mz6,fmz ⟨zEb,fmz ⟨mz2,fmz ⟨mz1,fmz ⟨.head _,fnz⟩⟩⟩⟩⟩⟩)) fun p a w hI s=> ?_
  have s0:=s
  have hAw:=(SF.row 6 _).st _ _ _ hA s0.below
  have hTw:=(SF.row 18 _).st _ _ _ hTS s0.below
  have hT0:=hT
  have hT:=hT0.below s0.below
  replace s:=s.reb rfl [(0, .u (UF.eq r)),(1, .u (UF.eq l)),(5, .u (uI k0)),(13, .u (uB is)),(14, .u (UF.eq (p.2))),(15, .u (uI (p.1:Int)))] (fmz ⟨.inl (.head _),fmz ⟨.inl mz1,fmz ⟨.inl mz2,fmz ⟨.inl mz3,fmz ⟨.inl mz4,fmz ⟨.inl mz5,fnz⟩⟩⟩⟩⟩⟩)
  refine zWp ?_
  refine zWp ?_
  refine zB 4 ((30, .Z (uI (p.1:Int)))::(31, .Z (UF.eq l))::(32, .Z (uI ((trs 2 (tts TS)).length:Int)))::(33, .u (uB (decide ((p.1:Int)<((trs 2 (tts TS)).length:Int))))):: []) hmix s kJ
   (oc zC<|oc zC<|oc (yZ (z:=18) (Cs:=trs 2 (tts TS)) kJ (fun v W hb h=>(yJ hTw h (s.up hb))) (fun _=>rfl))<|oc (zT .i64 (p.1:Int) ((trs 2 (tts TS)).length:Int) (decide ((p.1:Int)<((trs 2 (tts TS)).length:Int))) iiz iiz rfl rfl)<|zD) fun a w7 s=> ?_
  refine zA rfl ?_
  refine StS.cond s (decide ((p.1:Int)<((trs 2 (tts TS)).length:Int))) iiz (fun e=> ?_) (fun e=> ?_)
  ·have hk:p.1<(tts TS).length:=by have:=of_decide_eq_true e;simp at this;omega
   have hq6:=zQ5 (m:=2) dC hTw hk
   have hq0:=hq6 _ (zWv ..)
   have hq1:=hq6 _ (zWw _ (zWv ..))
   have hq2:=hq6 _ (zWw _ (zWw _ (zWv ..)))
   refine zWs ?_
   refine zWp ?_
   refine wpIn_block ?_
   refine zWp ?_
   refine zB 4 ((36, .Z (UF.eq l))::(37, .Z (uI (p.1:Int)))::(38, .Y (fTR 2 (at3 (tts TS) p.1)))::(39, .u (fTR 2 (at3 (tts TS) p.1))):: []) hmix s kJ
    (oc zC<|oc zC<|oc (yX (z:=18) (Cs:=trs 2 (tts TS)) (i:=p.1) (C:=CU.agg (fTR 2 (at3 (tts TS) p.1))) kJ (zDz hk) (fun v W hb h=>(yJ hTw h (s.up hb))) iiz)<|oc (zJ (f:=fTR 2 (at3 (tts TS) p.1)) 18 kJ (hz:=zEr _ _))<|zD) fun a w8 s=> ?_
   refine zW (CU.len 18) (cs:= [.bool false, .slice none 0 0, .slice none 0 0, .bool false, .slice none 0 0, .slice none 0 0, .bool false, .slice none 0 0, .slice none 0 0, .bool false, .slice none 0 0, .slice none 0 0, .bool false, .slice none 0 0, .slice none 0 0, .bool false, .slice none 0 0, .slice none 0 0]) kJ rfl s kJ (fun W=>rfl) rfl fun b16 a w s=> ?_
   refine zN (CU.agg (fTR 2 (at3 (tts TS) p.1))) ((fTR 2 (at3 (tts TS) p.1)).tS) rfl s kJ rfl rfl rfl iiz iiz zFs fun a w s=> ?_
   refine zA rfl ?_
   refine zDS (K:= [(39, .u (fTR 2 (at3 (tts TS) p.1))),(33, .u (uB (decide ((p.1:Int)<((trs 2 (tts TS)).length:Int))))),(0, .u (UF.eq r)),(1, .u (UF.eq l)),(5, .u (uI k0)),(13, .u (uB is)),(15, .u (uI (p.1:Int)))]) [(14, .u (UF.eq (p.2)))] [0] 15 ((40, .u (UF.eq (p.2)))::(41, .X (fTR 2 (at3 (tts TS) p.1)) 0)::(42, .Z (fPV 2 ((at3 (tts TS) p.1).1)))::(43, .Z (fPV 2 (x.p)))::(44, .Z (fPN (zBb (at3 (tts TS) p.1).1 x.p)))::(45, .X (fTR 2 (at3 (tts TS) p.1)) 6)::(46, .Z (fPV 2 ((at3 (tts TS) p.1).2.1)))::(47, .Z (fPV 2 (x.p)))::(48, .Z (fPN (zBb (at3 (tts TS) p.1).2.1 x.p)))::(49, .X (fTR 2 (at3 (tts TS) p.1)) 12)::(50, .Z (fPV 2 ((at3 (tts TS) p.1).2.2)))::(51, .Z (fPV 2 (x.p)))::(52, .Z (fPN (zBb (at3 (tts TS) p.1).2.2 x.p)))::(53, .Z (fTR 5 (zIZ x.p (at3 (tts TS) p.1))))::(54, .s (SF.row 18 (trs 5 [zIZ x.p (at3 (tts TS) p.1)]))):: []) hmix (s.keepK _ (fmz ⟨mz6,fmz ⟨.head _,fmz ⟨mz1,fmz ⟨mz2,fmz ⟨mz3,fmz ⟨mz4,fmz ⟨mz5,fmz ⟨mz7,fnz⟩⟩⟩⟩⟩⟩⟩⟩)) kJ
    (oc zC<|oc (zCc (C:=cg (fTR 2 (at3 (tts TS) p.1))) 0 0 kJ (fun _ _ h=>h.2) iiz)<|oc (yG (C:=cg (fTR 2 (at3 (tts TS) p.1))) (k:=0) 6 kJ (h:=zQ7))<|oc (jM (C:=(PX.cu x).cf) 6 kJ (fun _ _ h=>h.2) (zBs hx9))<|oc (zL zE zMa (fun u0 u1 W hb (h0:(fPV 2 ((at3 (tts TS) p.1).1)).p u0 W) (h1:(fPV 2 (x.p)).p u1 W)=>zEC (m:=2) (p:=(at3 (tts TS) p.1).1) (q:=x.p) h0 h1 hq0 hxq dC))<|oc (zCc (C:=cg (fTR 2 (at3 (tts TS) p.1))) 1 6 kJ (fun _ _ h=>h.2) iiz)<|oc (yG (C:=cg (fTR 2 (at3 (tts TS) p.1))) (k:=6) 6 kJ (h:=zQ6))<|oc (jM (C:=(PX.cu x).cf) 6 kJ (fun _ _ h=>h.2) (zBs hx9))<|oc (zL zE zMa (fun u0 u1 W hb (h0:(fPV 2 ((at3 (tts TS) p.1).2.1)).p u0 W) (h1:(fPV 2 (x.p)).p u1 W)=>zEC (m:=2) (p:=(at3 (tts TS) p.1).2.1) (q:=x.p) h0 h1 hq1 hxq dC))<|oc (zCc (C:=cg (fTR 2 (at3 (tts TS) p.1))) 2 12 kJ (fun _ _ h=>h.2) iiz)<|oc (yG (C:=cg (fTR 2 (at3 (tts TS) p.1))) (k:=12) 6 kJ (h:=zPs))<|oc (jM (C:=(PX.cu x).cf) 6 kJ (fun _ _ h=>h.2) (zBs hx9))<|oc (zL zE zMa (fun u0 u1 W hb (h0:(fPV 2 ((at3 (tts TS) p.1).2.2)).p u0 W) (h1:(fPV 2 (x.p)).p u1 W)=>zEC (m:=2) (p:=(at3 (tts TS) p.1).2.2) (q:=x.p) h0 h1 hq2 hxq dC))<|oc (zGS (fun u v q W (hu:(fPN (zBb (at3 (tts TS) p.1).1 x.p)).p u W) (hv:(fPN (zBb (at3 (tts TS) p.1).2.1 x.p)).p v W) (hq:(fPN (zBb (at3 (tts TS) p.1).2.2 x.p)).p q W)=>zUm (m:=5) (t:=zIZ x.p (at3 (tts TS) p.1)) (zCH (m:=5) (((hq0).1.add hxq.1).mono dC) (((hq0).2.add hxq.2).mono dC) hu) (zCH (m:=5) (((hq1).1.add hxq.1).mono dC) (((hq1).2.add hxq.2).mono dC) hv) (zCH (m:=5) (((hq2).1.add hxq.1).mono dC) (((hq2).2.add hxq.2).mono dC) hq)))<|oc (zAP (fun u W (hu:(fTR 5 (zIZ x.p (at3 (tts TS) p.1))).p u W)=>zKl hu))<|zD) fun Q' hQ a w9 s hr=> ?_
   refine zKh ([CU.agg (fTR 5 (zIZ x.p (at3 (tts TS) p.1)))]) s0 (s.keepK [(40, .u (UF.eq (p.2))),(39, .u (fTR 2 (at3 (tts TS) p.1))),(33, .u (uB (decide ((p.1:Int)<((trs 2 (tts TS)).length:Int))))),(0, .u (UF.eq r)),(1, .u (UF.eq l)),(5, .u (uI k0)),(13, .u (uB is)),(15, .u (uI (p.1:Int)))] (fmz ⟨.head _,fmz ⟨mz1,fmz ⟨mz2,fmz ⟨mz3,fmz ⟨mz4,fmz ⟨mz5,fmz ⟨mz6,fmz ⟨mz7,fnz⟩⟩⟩⟩⟩⟩⟩⟩)) hb0' hI.2 rfl kJ kJ kJ (s.fct (.tmp 40)) (hr (_,_) zS2) (zRD _ _) (by simp;omega) (fun q hq hr=>by rcases List.mem_cons.1 hq with rfl|hq;cases hr;exact hbb q hq hr) fun v' a w hI' s=> ?_
   have s1:=s
   replace s:StS _ _ _ [⟨16,42,CU.agg (fTR 2 (at3 (tts TS) p.1)),b16,true⟩,⟨10,31,PX.cu x,b10,true⟩,⟨9,31,PX.cu z,b9,true⟩,⟨8,31,PX.cu y,b8,true⟩] _ _ _ _:=s.freeze
   replace s:=s.reb rfl [(55, .u (UF.eq v')),(40, .u (UF.eq (p.2))),(39, .u (fTR 2 (at3 (tts TS) p.1))),(33, .u (uB (decide ((p.1:Int)<((trs 2 (tts TS)).length:Int))))),(0, .u (UF.eq r)),(1, .u (UF.eq l)),(5, .u (uI k0)),(13, .u (uB is)),(15, .u (uI (p.1:Int)))] (fmz ⟨.inl (.head _),fmz ⟨.inl mz1,fmz ⟨.inl mz2,fmz ⟨.inl mz3,fmz ⟨.inl mz4,fmz ⟨.inl mz5,fmz ⟨.inl mz6,fmz ⟨.inl mz7,fmz ⟨.inl mz8,fnz⟩⟩⟩⟩⟩⟩⟩⟩⟩)
   refine y8 (UF.eq v') rfl s kJ iiz fun a w s=> ?_
   refine zA rfl (hQ _ _ ?_)
   refine yF 2 ((34, .Z (uI (p.1:Int)))::(35, .u (uI ((p.1+1:Nat):Int))):: []) s kJ
    (oc zC<|oc (qA .i64 (p.1:Int) 1 ((p.1+1:Nat):Int) iiz iiz (wrap64 _ _ (by omega) (by omega)))<|zD) fun a w10 s=> ?_
   replace s:=s.drop [15]
   refine y8 (uI ((p.1+1:Nat):Int)) rfl s kJ iiz fun a w s=> ?_
   refine zA rfl ?_
   replace s:=s.popB
   have hbw:=s.below
   replace s:=s1.back (s.keepK [(15, .u (uI ((p.1+1:Nat):Int))),(35, .u (uI ((p.1+1:Nat):Int))),(14, .u (UF.eq v')),(55, .u (UF.eq v')),(40, .u (UF.eq (p.2))),(39, .u (fTR 2 (at3 (tts TS) p.1))),(33, .u (uB (decide ((p.1:Int)<((trs 2 (tts TS)).length:Int))))),(0, .u (UF.eq r)),(1, .u (UF.eq l)),(5, .u (uI k0)),(13, .u (uB is))] (fmz ⟨.head _,fmz ⟨mz1,fmz ⟨mz2,fmz ⟨mz3,fmz ⟨mz4,fmz ⟨mz5,fmz ⟨mz6,fmz ⟨mz7,fmz ⟨mz8,fmz ⟨mz9,fmz ⟨zEb,fnz⟩⟩⟩⟩⟩⟩⟩⟩⟩⟩⟩)) rfl
   exact ⟨(p.1+1,v'),(by show (tts TS).length - (p.1+1)<(tts TS).length - p.1;omega),⟨hk,Nat.le_trans hI'.1 hbw.size,by rw [zNI hk];exact hI'.2.below hbw⟩,s.keepK _ (fmz ⟨mz7,fmz ⟨mz8,fmz ⟨mz9,fmz ⟨zEb,fmz ⟨mz2,fmz ⟨.head _,fnz⟩⟩⟩⟩⟩⟩)⟩
  ·have hk:p.1=(tts TS).length:=by have h7:=of_decide_eq_false e;have h8:=hI.1;simp at h7;omega
   refine wpIn_exit ?_
   refine zWp ?_
   refine zWp ?_
   have hmv:(SF.row 18 (trs 5 ((tts TS).map (zIZ x.p)))).p p.2 w:=by have h9:=hI.2.2.row;rwa [hk,List.take_of_length_le lr] at h9
   clear hk
   refine zB 11 ((56, .Z (UF.eq r))::(57, .Z (UF.eq p.2))::(58, .Z (fPV 2 (y.p)))::(59, .Z (fPV 2 (x.p)))::(60, .Z (fPN (zBb y.p x.p)))::(61, .Z (fPV 2 (z.p)))::(62, .Z (fPV 2 (x.p)))::(63, .Z (fPN (zBb z.p x.p)))::(64, .Z (uB is))::(65, .Z (uB is))::(66, .u (uB false)):: []) hmix s kJ
    (oc zC<|oc zC<|oc (jM (C:=(PX.cu y).cf) 6 kJ (fun _ _ h=>h.2) (zBs hy9))<|oc (jM (C:=(PX.cu x).cf) 6 kJ (fun _ _ h=>h.2) (zBs hx9))<|oc (zL zE zMa (fun u0 u1 W hb (h0:(fPV 2 (y.p)).p u0 W) (h1:(fPV 2 (x.p)).p u1 W)=>zEC (m:=2) (p:=y.p) (q:=x.p) h0 h1 hyq hxq dC))<|oc (jM (C:=(PX.cu z).cf) 6 kJ (fun _ _ h=>h.2) (zBs hz9))<|oc (jM (C:=(PX.cu x).cf) 6 kJ (fun _ _ h=>h.2) (zBs hx9))<|oc (zL zE zMa (fun u0 u1 W hb (h0:(fPV 2 (z.p)).p u0 W) (h1:(fPV 2 (x.p)).p u1 W)=>zEC (m:=2) (p:=z.p) (q:=x.p) h0 h1 hzq hxq dC))<|oc (zBh zE zIg (fun u0 u1 u2 u3 W hb (h0:u0=r) (h1:u1=p.2) (h2:(fPN (zBb y.p x.p)).p u2 W) (h3:(fPN (zBb z.p x.p)).p u3 W)=>(zEV (R:=pps A) (Ts:=(tts TS).map (zIZ x.p)) (p:=(zBb y.p x.p)) (e_:=(zBb z.p x.p)) (zBQ (m:=2) dC _ _ (yJ hAw h0 (s.up hb))) (yJ hmv h1 (s.up hb)) (zCH (p:=(zBb y.p x.p)) (m:=47) (hyx.1.mono dC) (hyx.2.mono dC) h2) (zCH (p:=(zBb z.p x.p)) (m:=47) (hzx.1.mono dC) (hzx.2.mono dC) h3) hnA (by rw [zWq];exact hnT) (hT.below (s.up hb))).mono (wI (fun v W h=>by rw [zNQ, <-his] at h;exact h))))<|oc zC<|oc (zLk is is false kJ iiz iiz (bne_self_eq_false _) rfl)<|zD) fun a w11 s=> ?_
   refine zA rfl ?_
   refine StS.cond s false iiz (fun e=>by cases e) (fun e=> ?_)
   refine zWs ?_
   refine zWp ?_
   refine zWp ?_
   refine zB 3 ((67, .Z (UF.eq r))::(68, .Z (uI ((pvs 2 (pps A)).length:Int)))::(69, .u (uB (decide (((pvs 2 (pps A)).length:Int)>0)))):: []) hmix s kJ
    (oc zC<|oc (yZ (z:=6) (Cs:=pvs 2 (pps A)) kJ (fun v W hb h=>(yJ hAw h (s.up hb))) (fun _=>rfl))<|oc (zT .i64 ((pvs 2 (pps A)).length:Int) 0 (decide (((pvs 2 (pps A)).length:Int)>0)) iiz iiz rfl rfl)<|zD) fun a w12 s=> ?_
   refine zA rfl ?_
   refine StS.cond s (decide (((pvs 2 (pps A)).length:Int)>0)) iiz (fun e=> ?_) (fun e=> ?_)
   ·have hAl8:=(zIb eA).1
    have hk0:0<(pvs 2 (pps A)).length:=by have:=of_decide_eq_true e;omega
    obtain ⟨kk,hk',hkk⟩:=zSW k0 hk0
    have hk:kk<(pps A).length:=by simpa using hk'
    have hNl:(pvs 2 (pps A)).length=(pps A).length:=by simp
    refine zWp ?_
    refine yF 10 ((70, .Z (uI k0))::(71, .Z (UF.eq r))::(72, .Z (uI ((pvs 2 (pps A)).length:Int)))::(73, .Z (uI ((k0).tmod ((pvs 2 (pps A)).length:Int))))::(74, .Z (UF.eq r))::(75, .Z (uI ((pvs 2 (pps A)).length:Int)))::(76, .Z (uI (k0.tmod ((pvs 2 (pps A)).length:Int)+((pvs 2 (pps A)).length:Int))))::(77, .Z (UF.eq r))::(78, .Z (uI ((pvs 2 (pps A)).length:Int)))::(79, .u (uI (kk:Int))):: []) s kJ
     (oc zC<|oc zC<|oc (yZ (z:=6) (Cs:=pvs 2 (pps A)) kJ (fun v W hb h=>(yJ hAw h (s.up hb))) (fun _=>rfl))<|oc (zFP .i64 k0 ((pvs 2 (pps A)).length:Int) ((k0).tmod ((pvs 2 (pps A)).length:Int)) iiz iiz (by omega) rfl)<|oc zC<|oc (yZ (z:=6) (Cs:=pvs 2 (pps A)) kJ (fun v W hb h=>(yJ hAw h (s.up hb))) (fun _=>rfl))<|oc (qA .i64 ((k0).tmod ((pvs 2 (pps A)).length:Int)) ((pvs 2 (pps A)).length:Int) (k0.tmod ((pvs 2 (pps A)).length:Int)+((pvs 2 (pps A)).length:Int)) iiz iiz (by have h1: -((pvs 2 (pps A)).length:Int)<k0.tmod ((pvs 2 (pps A)).length:Int):=Int.lt_tmod_of_pos k0 (by omega);have h2:k0.tmod ((pvs 2 (pps A)).length:Int)<((pvs 2 (pps A)).length:Int):=Int.tmod_lt_of_pos k0 (by omega);exact zPj (by omega) (by omega)))<|oc zC<|oc (yZ (z:=6) (Cs:=pvs 2 (pps A)) kJ (fun v W hb h=>(yJ hAw h (s.up hb))) (fun _=>rfl))<|oc (zFP .i64 (k0.tmod ((pvs 2 (pps A)).length:Int)+((pvs 2 (pps A)).length:Int)) ((pvs 2 (pps A)).length:Int) (kk:Int) iiz iiz (by omega) hkk)<|zD) fun a w13 s=> ?_
    replace s:=s.drop [5]
    refine y8 (uI (kk:Int)) rfl s kJ iiz fun a w s=> ?_
    refine zA rfl ?_
    refine zWp ?_
    have sb:=s;have so:=s.old;have sg:=s.gr.size
    refine zKG (GW w) hmix s fun w14 hwb s=> ?_
    have hz:=hwb.size
    refine zHK [9,10,11,13] [0,1,2,3,4,5,6,7,9,10,11,13] ((80, .s (vE w14 31))::(81, .Z (UF.eq r))::(82, .Z (uI (kk:Int)))::(83, .s (SF.row 6 (pvs 2 ((pps A).drop kk))))::(84, .s (wL w14 31 6 (pvs 2 ((pps A).drop kk))))::(85, .Z (UF.eq r))::(86, .Z (uI (kk:Int)))::(87, .s (SF.row 6 (pvs 2 ((pps A).take kk))))::(89, .u (UF.eq l))::(90, .u (fPV 2 (y.p)))::(91, .u (fPV 2 (z.p)))::(93, .u (uB is)):: []) (zRP hwb) s kJ
     (oc (zLb (z:=6) kJ)<|oc zC<|oc zC<|oc (zDH (z:=6) (k:=kk) (Cs:=pvs 2 (pps A)) kJ (Nat.le_of_lt hk') (fun v W hb h=>(yJ hAw h (s.up hb))) iiz (fun v W h=>by rw [zNs] at h;exact h))<|oc (zQb (pvs 2 ((pps A).drop kk)) kJ iiz (fun v W hb h=>h) (zKW _ _) (by simp;omega))<|oc zC<|oc zC<|oc (zNC (z:=6) (k:=kk) (Cs:=pvs 2 (pps A)) kJ (Nat.le_of_lt hk') (fun v W hb h=>(yJ hAw h (s.up hb))) iiz (fun v W h=>by rw [zNr] at h;exact h))<|oc zC<|oc (jM (C:=(PX.cu y).cf) 6 kJ (fun _ _ h=>h.2) (zBs hy9))<|oc (jM (C:=(PX.cu z).cf) 6 kJ (fun _ _ h=>h.2) (zBs hz9))<|oc zC<|zD)
     (zBD rfl (zOr.c zL1 hwb) (zBD rfl (zOr.c (zO1 (c:=8) sb rfl kJ (z4 _ _) (fun _ _ h=>h.1)) hwb) (zBD rfl (zOr.c (zO1 (c:=9) sb rfl kJ (z4 _ _) (fun _ _ h=>h.1)) hwb) (zBD rfl (zOr.c zL1 hwb) zId)))) fun a w15 hbw s hr=> ?_
    replace hwb:=hwb.trans (hbw.mono hwb.size)
    refine zNc (i:=8) (x:= .tmp 84) (y:= .tmp 87) (pvs 2 ((pps A).take kk)) hwb s sg (zBJ.mono (hr (_,_) mz4) hz) rfl (zCK rfl) kJ kJ kJ rfl (hr (_,_) mz7) (zKW _ _) (by simp;omega) so fun v88 a w16 hwb hN88 s=> ?_
    have hR88:=hN88.row
    rw [zP5] at hR88
    have hz:=hwb.size
    refine zHK [] [12,14] ((92, .Z (uB is))::(94, .u (uB false)):: []) (zRP hwb) s kJ
     (oc (zBh zE zIg (fun u0 u1 u2 u3 W hb (h0:u0=v88) (h1:u1=l) (h2:(fPV 2 (y.p)).p u2 W) (h3:(fPV 2 (z.p)).p u3 W)=>(zEV (R:=zE6 (pps A) kk) (Ts:=tts TS) (p:=y.p) (e_:=z.p) (zBQ (m:=2) dC _ _ (yJ hR88 h0 hb)) (zC1 (m:=2) dC _ _ (yJ hTw h1 (s.up hb))) (jD (m:=2) (m':=47) dC h2) (jD (m:=2) (m':=47) dC h3) (by rw [zKD];exact hnA) hnT (hT.below (s.up hb))).mono (wI (fun v W h=>by rw [zQk _ _ _ hk, <-his] at h;exact h))))<|oc (zLk is is false kJ iiz iiz (bne_self_eq_false _) rfl)<|zD)
     zId fun a w17 hbw s hr=> ?_
    replace hwb:=hwb.trans (hbw.mono hwb.size)
    refine zIL kJ ?_
    refine StS.cond s false iiz (fun e=>by cases e) (fun e=> ?_)
    refine zWs ?_
    refine zWp ?_
    rcases zKe is (tts TS).length with ⟨hI1,hI2⟩|⟨hI1,hI2⟩|⟨hI1,hI2⟩
    ·subst hI1
     have hpos:0<(tts TS).length:=by
      rcases zWu (tts TS).length with h|h
      ·rw [zWx h,zI2] at his;cases his
      ·exact h
     refine zB 27 ((95, .Z (uB false))::(96, .Z (uB true))::(97, .Z (uB true))::(101, .Z (uB true))::(102, .Z (uB true))::(109, .Z (uB true))::(110, .Z (uB true))::(111, .Z (UF.eq l))::(112, .Z (uI ((trs 2 (tts TS)).length:Int)))::(113, .Z (uB true))::(114, .Z (uB true))::(116, .Z (uB true))::(117, .Z (uB true))::(118, .Z (uB true))::(119, .Z (uB true))::(120, .Z (uB true))::(12, .u (uB true)):: []) hmix s kJ
      (oc zC<|oc (zAr false iiz (fun _=>rfl))<|oc zC<|oc (zF 97 true kJ iiz (fun e=>by cases e) (fun _ _=>trivial))<|oc (zF 97 true kJ iiz (fun e=>by cases e) (fun _ _=>trivial))<|oc (zF 97 true kJ iiz (fun e=>by cases e) (fun _ _=>trivial))<|oc (yC true iiz fQ (fun e=>by cases e))<|oc zC<|oc (zF 102 true kJ iiz (fun e=>by cases e) (fun _ _=>trivial))<|oc (zF 102 true kJ iiz (fun e=>by cases e) (fun _ _=>trivial))<|oc (zF 102 true kJ iiz (fun e=>by cases e) (fun _ _=>trivial))<|oc (zF 102 true kJ iiz (fun e=>by cases e) (fun _ _=>trivial))<|oc (zF 102 true kJ iiz (fun e=>by cases e) (fun _ _=>trivial))<|oc (zF 102 true kJ iiz (fun e=>by cases e) (fun _ _=>trivial))<|oc (yC true iiz fQ (fun e=>by cases e))<|oc zC<|oc (zF 110 true kJ iiz (fun _=>zC) arf)<|oc (zF 110 true kJ iiz (fun _=>yZ (z:=18) (Cs:=trs 2 (tts TS)) kJ (fun v W hb h=>(yJ hTw h (s.up hb))) (fun _=>rfl)) arf)<|oc (zF 110 true kJ iiz (fun _=>zT .i64 ((trs 2 (tts TS)).length:Int) 0 true iiz iiz (zWt (by rw [zWq];omega)) rfl) arf)<|oc (zF 110 true kJ iiz (fun _=>zC) arf)<|oc (zF 114 true kJ iiz (fun e=>by cases e) (fun _ _=>trivial))<|oc (zF 110 true kJ iiz (fun _=>yC true iiz fQ (fun e=>by cases e)) arf)<|oc (yC true iiz fQ (fun e=>by cases e))<|oc zC<|oc (zF 118 true kJ iiz (fun _=>zBA zE zIh (fun W hb=>zCL (hT.below (s.up hb)))) arf)<|oc (yC true iiz fQ (fun e=>by cases e))<|oc zG<|zD) fun a w18 s=> ?_
     refine zA rfl ?_
     refine zWr ?_
     exact wS s s0.below (t:=12) rfl iiz
    ·subst hI1
     refine zB 27 ((95, .Z (uB true))::(96, .Z (uB false))::(97, .Z (uB false))::(98, .Z (UF.eq l))::(99, .Z (uI ((trs 2 (tts TS)).length:Int)))::(100, .Z (uB true))::(101, .Z (uB true))::(102, .Z (uB true))::(109, .Z (uB true))::(110, .Z (uB true))::(111, .Z (UF.eq l))::(112, .Z (uI ((trs 2 (tts TS)).length:Int)))::(113, .Z (uB false))::(114, .Z (uB false))::(115, .Z (uB true))::(116, .Z (uB true))::(117, .Z (uB true))::(118, .Z (uB true))::(119, .Z (uB true))::(120, .Z (uB true))::(12, .u (uB true)):: []) hmix s kJ
      (oc zC<|oc (zAr true iiz (fun _=>rfl))<|oc zC<|oc (zF 97 false kJ iiz (fun _=>zC) arf)<|oc (zF 97 false kJ iiz (fun _=>yZ (z:=18) (Cs:=trs 2 (tts TS)) kJ (fun v W hb h=>(yJ hTw h (s.up hb))) (fun _=>rfl)) arf)<|oc (zF 97 false kJ iiz (fun _=>zT .i64 ((trs 2 (tts TS)).length:Int) 0 true iiz iiz (beq_iff_eq.2 (by rw [zWq];omega)) rfl) arf)<|oc (yC false iiz (fun e=>by cases e) fQ)<|oc zC<|oc (zF 102 true kJ iiz (fun e=>by cases e) (fun _ _=>trivial))<|oc (zF 102 true kJ iiz (fun e=>by cases e) (fun _ _=>trivial))<|oc (zF 102 true kJ iiz (fun e=>by cases e) (fun _ _=>trivial))<|oc (zF 102 true kJ iiz (fun e=>by cases e) (fun _ _=>trivial))<|oc (zF 102 true kJ iiz (fun e=>by cases e) (fun _ _=>trivial))<|oc (zF 102 true kJ iiz (fun e=>by cases e) (fun _ _=>trivial))<|oc (yC true iiz fQ (fun e=>by cases e))<|oc zC<|oc (zF 110 true kJ iiz (fun _=>zC) arf)<|oc (zF 110 true kJ iiz (fun _=>yZ (z:=18) (Cs:=trs 2 (tts TS)) kJ (fun v W hb h=>(yJ hTw h (s.up hb))) (fun _=>rfl)) arf)<|oc (zF 110 true kJ iiz (fun _=>zT .i64 ((trs 2 (tts TS)).length:Int) 0 false iiz iiz (decide_eq_false (by rw [zWq];omega)) rfl) arf)<|oc (zF 110 true kJ iiz (fun _=>zC) arf)<|oc (zF 114 false kJ iiz (fun _=>zC) arf)<|oc (zF 110 true kJ iiz (fun _=>yC false iiz (fun e=>by cases e) fQ) arf)<|oc (yC true iiz fQ (fun e=>by cases e))<|oc zC<|oc (zF 118 true kJ iiz (fun _=>zBA zE zIh (fun W hb=>zCL (hT.below (s.up hb)))) arf)<|oc (yC true iiz fQ (fun e=>by cases e))<|oc zG<|zD) fun a w19 s=> ?_
     refine zA rfl ?_
     refine zWr ?_
     exact wS s s0.below (t:=12) rfl iiz
    ·subst hI1
     refine zB 27 ((95, .Z (uB true))::(96, .Z (uB false))::(97, .Z (uB false))::(98, .Z (UF.eq l))::(99, .Z (uI ((trs 2 (tts TS)).length:Int)))::(100, .Z (uB false))::(101, .Z (uB false))::(102, .Z (uB false))::(103, .Z (UF.eq r))::(104, .Z (UF.eq l))::(105, .s (SF.row 18 (trs 2 ((tts TS).drop 1))))::(106, .Z (fPV 2 (y.p)))::(107, .Z (fPV 2 (z.p)))::(108, .Z (uB true))::(109, .Z (uB true))::(110, .Z (uB true))::(111, .Z (UF.eq l))::(112, .Z (uI ((trs 2 (tts TS)).length:Int)))::(113, .Z (uB true))::(114, .Z (uB true))::(116, .Z (uB true))::(117, .Z (uB true))::(118, .Z (uB true))::(119, .Z (uB true))::(120, .Z (uB true))::(12, .u (uB true)):: []) hmix s kJ
      (oc zC<|oc (zAr true iiz (fun _=>rfl))<|oc zC<|oc (zF 97 false kJ iiz (fun _=>zC) arf)<|oc (zF 97 false kJ iiz (fun _=>yZ (z:=18) (Cs:=trs 2 (tts TS)) kJ (fun v W hb h=>(yJ hTw h (s.up hb))) (fun _=>rfl)) arf)<|oc (zF 97 false kJ iiz (fun _=>zT .i64 ((trs 2 (tts TS)).length:Int) 0 false iiz iiz (beq_eq_false_iff_ne.2 (by rw [zWq];omega)) rfl) arf)<|oc (yC false iiz (fun e=>by cases e) fQ)<|oc zC<|oc (zF 102 false kJ iiz (fun _=>zC) arf)<|oc (zF 102 false kJ iiz (fun _=>zC) arf)<|oc (zF 102 false kJ iiz (fun _=>zDH (z:=18) (k:=1) (Cs:=trs 2 (tts TS)) kJ (by rw [zWq];omega) (fun v W hb h=>(yJ hTw h (s.up hb))) iiz (fun v W h=>by rw [zIv] at h;exact h)) arf)<|oc (zF 102 false kJ iiz (fun _=>jM (C:=(PX.cu y).cf) 6 kJ (fun _ _ h=>h.2) (zBs hy9)) arf)<|oc (zF 102 false kJ iiz (fun _=>jM (C:=(PX.cu z).cf) 6 kJ (fun _ _ h=>h.2) (zBs hz9)) arf)<|oc (zF 102 false kJ iiz (fun _=>zBh zE zIg (fun u0 u1 u2 u3 W hb (h0:u0=r) (h1:(SF.row 18 (trs 2 ((tts TS).drop 1))).p u1 W) (h2:(fPV 2 (y.p)).p u2 W) (h3:(fPV 2 (z.p)).p u3 W)=>(zEV (R:=pps A) (Ts:=(tts TS).drop 1) (p:=y.p) (e_:=z.p) (zBQ (m:=2) dC _ _ (yJ hAw h0 (s.up hb))) (zC1 (m:=2) dC _ _ h1) (jD (m:=2) (m':=47) dC h2) (jD (m:=2) (m':=47) dC h3) hnA (by rw [List.length_drop];omega) (hT.below (s.up hb))).mono (wI (fun v W h=>by rw [zG4 1 his.symm] at h;exact h)))) arf)<|oc (yC false iiz (fun e=>by cases e) fQ)<|oc zC<|oc (zF 110 true kJ iiz (fun _=>zC) arf)<|oc (zF 110 true kJ iiz (fun _=>yZ (z:=18) (Cs:=trs 2 (tts TS)) kJ (fun v W hb h=>(yJ hTw h (s.up hb))) (fun _=>rfl)) arf)<|oc (zF 110 true kJ iiz (fun _=>zT .i64 ((trs 2 (tts TS)).length:Int) 0 true iiz iiz (zWt (by rw [zWq];omega)) rfl) arf)<|oc (zF 110 true kJ iiz (fun _=>zC) arf)<|oc (zF 114 true kJ iiz (fun e=>by cases e) (fun _ _=>trivial))<|oc (zF 110 true kJ iiz (fun _=>yC true iiz fQ (fun e=>by cases e)) arf)<|oc (yC true iiz fQ (fun e=>by cases e))<|oc zC<|oc (zF 118 true kJ iiz (fun _=>zBA zE zIh (fun W hb=>zCL (hT.below (s.up hb)))) arf)<|oc (yC true iiz fQ (fun e=>by cases e))<|oc zG<|zD) fun a w20 s=> ?_
     refine zA rfl ?_
     refine zWr ?_
     exact wS s s0.below (t:=12) rfl iiz
   ·refine zWs ?_
    refine zWp ?_
    rcases zKe is (tts TS).length with ⟨hI1,hI2⟩|⟨hI1,hI2⟩|⟨hI1,hI2⟩
    ·subst hI1
     have hpos:0<(tts TS).length:=by
      rcases zWu (tts TS).length with h|h
      ·rw [zWx h,zI2] at his;cases his
      ·exact h
     refine zB 27 ((95, .Z (uB false))::(96, .Z (uB true))::(97, .Z (uB true))::(101, .Z (uB true))::(102, .Z (uB true))::(109, .Z (uB true))::(110, .Z (uB true))::(111, .Z (UF.eq l))::(112, .Z (uI ((trs 2 (tts TS)).length:Int)))::(113, .Z (uB true))::(114, .Z (uB true))::(116, .Z (uB true))::(117, .Z (uB true))::(118, .Z (uB true))::(119, .Z (uB true))::(120, .Z (uB true))::(12, .u (uB true)):: []) hmix s kJ
      (oc zC<|oc (zAr false iiz (fun _=>rfl))<|oc zC<|oc (zF 97 true kJ iiz (fun e=>by cases e) (fun _ _=>trivial))<|oc (zF 97 true kJ iiz (fun e=>by cases e) (fun _ _=>trivial))<|oc (zF 97 true kJ iiz (fun e=>by cases e) (fun _ _=>trivial))<|oc (yC true iiz fQ (fun e=>by cases e))<|oc zC<|oc (zF 102 true kJ iiz (fun e=>by cases e) (fun _ _=>trivial))<|oc (zF 102 true kJ iiz (fun e=>by cases e) (fun _ _=>trivial))<|oc (zF 102 true kJ iiz (fun e=>by cases e) (fun _ _=>trivial))<|oc (zF 102 true kJ iiz (fun e=>by cases e) (fun _ _=>trivial))<|oc (zF 102 true kJ iiz (fun e=>by cases e) (fun _ _=>trivial))<|oc (zF 102 true kJ iiz (fun e=>by cases e) (fun _ _=>trivial))<|oc (yC true iiz fQ (fun e=>by cases e))<|oc zC<|oc (zF 110 true kJ iiz (fun _=>zC) arf)<|oc (zF 110 true kJ iiz (fun _=>yZ (z:=18) (Cs:=trs 2 (tts TS)) kJ (fun v W hb h=>(yJ hTw h (s.up hb))) (fun _=>rfl)) arf)<|oc (zF 110 true kJ iiz (fun _=>zT .i64 ((trs 2 (tts TS)).length:Int) 0 true iiz iiz (zWt (by rw [zWq];omega)) rfl) arf)<|oc (zF 110 true kJ iiz (fun _=>zC) arf)<|oc (zF 114 true kJ iiz (fun e=>by cases e) (fun _ _=>trivial))<|oc (zF 110 true kJ iiz (fun _=>yC true iiz fQ (fun e=>by cases e)) arf)<|oc (yC true iiz fQ (fun e=>by cases e))<|oc zC<|oc (zF 118 true kJ iiz (fun _=>zBA zE zIh (fun W hb=>zCL (hT.below (s.up hb)))) arf)<|oc (yC true iiz fQ (fun e=>by cases e))<|oc zG<|zD) fun a w21 s=> ?_
     refine zA rfl ?_
     refine zWr ?_
     exact wS s s0.below (t:=12) rfl iiz
    ·subst hI1
     refine zB 27 ((95, .Z (uB true))::(96, .Z (uB false))::(97, .Z (uB false))::(98, .Z (UF.eq l))::(99, .Z (uI ((trs 2 (tts TS)).length:Int)))::(100, .Z (uB true))::(101, .Z (uB true))::(102, .Z (uB true))::(109, .Z (uB true))::(110, .Z (uB true))::(111, .Z (UF.eq l))::(112, .Z (uI ((trs 2 (tts TS)).length:Int)))::(113, .Z (uB false))::(114, .Z (uB false))::(115, .Z (uB true))::(116, .Z (uB true))::(117, .Z (uB true))::(118, .Z (uB true))::(119, .Z (uB true))::(120, .Z (uB true))::(12, .u (uB true)):: []) hmix s kJ
      (oc zC<|oc (zAr true iiz (fun _=>rfl))<|oc zC<|oc (zF 97 false kJ iiz (fun _=>zC) arf)<|oc (zF 97 false kJ iiz (fun _=>yZ (z:=18) (Cs:=trs 2 (tts TS)) kJ (fun v W hb h=>(yJ hTw h (s.up hb))) (fun _=>rfl)) arf)<|oc (zF 97 false kJ iiz (fun _=>zT .i64 ((trs 2 (tts TS)).length:Int) 0 true iiz iiz (beq_iff_eq.2 (by rw [zWq];omega)) rfl) arf)<|oc (yC false iiz (fun e=>by cases e) fQ)<|oc zC<|oc (zF 102 true kJ iiz (fun e=>by cases e) (fun _ _=>trivial))<|oc (zF 102 true kJ iiz (fun e=>by cases e) (fun _ _=>trivial))<|oc (zF 102 true kJ iiz (fun e=>by cases e) (fun _ _=>trivial))<|oc (zF 102 true kJ iiz (fun e=>by cases e) (fun _ _=>trivial))<|oc (zF 102 true kJ iiz (fun e=>by cases e) (fun _ _=>trivial))<|oc (zF 102 true kJ iiz (fun e=>by cases e) (fun _ _=>trivial))<|oc (yC true iiz fQ (fun e=>by cases e))<|oc zC<|oc (zF 110 true kJ iiz (fun _=>zC) arf)<|oc (zF 110 true kJ iiz (fun _=>yZ (z:=18) (Cs:=trs 2 (tts TS)) kJ (fun v W hb h=>(yJ hTw h (s.up hb))) (fun _=>rfl)) arf)<|oc (zF 110 true kJ iiz (fun _=>zT .i64 ((trs 2 (tts TS)).length:Int) 0 false iiz iiz (decide_eq_false (by rw [zWq];omega)) rfl) arf)<|oc (zF 110 true kJ iiz (fun _=>zC) arf)<|oc (zF 114 false kJ iiz (fun _=>zC) arf)<|oc (zF 110 true kJ iiz (fun _=>yC false iiz (fun e=>by cases e) fQ) arf)<|oc (yC true iiz fQ (fun e=>by cases e))<|oc zC<|oc (zF 118 true kJ iiz (fun _=>zBA zE zIh (fun W hb=>zCL (hT.below (s.up hb)))) arf)<|oc (yC true iiz fQ (fun e=>by cases e))<|oc zG<|zD) fun a w22 s=> ?_
     refine zA rfl ?_
     refine zWr ?_
     exact wS s s0.below (t:=12) rfl iiz
    ·subst hI1
     refine zB 27 ((95, .Z (uB true))::(96, .Z (uB false))::(97, .Z (uB false))::(98, .Z (UF.eq l))::(99, .Z (uI ((trs 2 (tts TS)).length:Int)))::(100, .Z (uB false))::(101, .Z (uB false))::(102, .Z (uB false))::(103, .Z (UF.eq r))::(104, .Z (UF.eq l))::(105, .s (SF.row 18 (trs 2 ((tts TS).drop 1))))::(106, .Z (fPV 2 (y.p)))::(107, .Z (fPV 2 (z.p)))::(108, .Z (uB true))::(109, .Z (uB true))::(110, .Z (uB true))::(111, .Z (UF.eq l))::(112, .Z (uI ((trs 2 (tts TS)).length:Int)))::(113, .Z (uB true))::(114, .Z (uB true))::(116, .Z (uB true))::(117, .Z (uB true))::(118, .Z (uB true))::(119, .Z (uB true))::(120, .Z (uB true))::(12, .u (uB true)):: []) hmix s kJ
      (oc zC<|oc (zAr true iiz (fun _=>rfl))<|oc zC<|oc (zF 97 false kJ iiz (fun _=>zC) arf)<|oc (zF 97 false kJ iiz (fun _=>yZ (z:=18) (Cs:=trs 2 (tts TS)) kJ (fun v W hb h=>(yJ hTw h (s.up hb))) (fun _=>rfl)) arf)<|oc (zF 97 false kJ iiz (fun _=>zT .i64 ((trs 2 (tts TS)).length:Int) 0 false iiz iiz (beq_eq_false_iff_ne.2 (by rw [zWq];omega)) rfl) arf)<|oc (yC false iiz (fun e=>by cases e) fQ)<|oc zC<|oc (zF 102 false kJ iiz (fun _=>zC) arf)<|oc (zF 102 false kJ iiz (fun _=>zC) arf)<|oc (zF 102 false kJ iiz (fun _=>zDH (z:=18) (k:=1) (Cs:=trs 2 (tts TS)) kJ (by rw [zWq];omega) (fun v W hb h=>(yJ hTw h (s.up hb))) iiz (fun v W h=>by rw [zIv] at h;exact h)) arf)<|oc (zF 102 false kJ iiz (fun _=>jM (C:=(PX.cu y).cf) 6 kJ (fun _ _ h=>h.2) (zBs hy9)) arf)<|oc (zF 102 false kJ iiz (fun _=>jM (C:=(PX.cu z).cf) 6 kJ (fun _ _ h=>h.2) (zBs hz9)) arf)<|oc (zF 102 false kJ iiz (fun _=>zBh zE zIg (fun u0 u1 u2 u3 W hb (h0:u0=r) (h1:(SF.row 18 (trs 2 ((tts TS).drop 1))).p u1 W) (h2:(fPV 2 (y.p)).p u2 W) (h3:(fPV 2 (z.p)).p u3 W)=>(zEV (R:=pps A) (Ts:=(tts TS).drop 1) (p:=y.p) (e_:=z.p) (zBQ (m:=2) dC _ _ (yJ hAw h0 (s.up hb))) (zC1 (m:=2) dC _ _ h1) (jD (m:=2) (m':=47) dC h2) (jD (m:=2) (m':=47) dC h3) hnA (by rw [List.length_drop];omega) (hT.below (s.up hb))).mono (wI (fun v W h=>by rw [zG4 1 his.symm] at h;exact h)))) arf)<|oc (yC false iiz (fun e=>by cases e) fQ)<|oc zC<|oc (zF 110 true kJ iiz (fun _=>zC) arf)<|oc (zF 110 true kJ iiz (fun _=>yZ (z:=18) (Cs:=trs 2 (tts TS)) kJ (fun v W hb h=>(yJ hTw h (s.up hb))) (fun _=>rfl)) arf)<|oc (zF 110 true kJ iiz (fun _=>zT .i64 ((trs 2 (tts TS)).length:Int) 0 true iiz iiz (zWt (by rw [zWq];omega)) rfl) arf)<|oc (zF 110 true kJ iiz (fun _=>zC) arf)<|oc (zF 114 true kJ iiz (fun e=>by cases e) (fun _ _=>trivial))<|oc (zF 110 true kJ iiz (fun _=>yC true iiz fQ (fun e=>by cases e)) arf)<|oc (yC true iiz fQ (fun e=>by cases e))<|oc zC<|oc (zF 118 true kJ iiz (fun _=>zBA zE zIh (fun W hb=>zCL (hT.below (s.up hb)))) arf)<|oc (yC true iiz fQ (fun e=>by cases e))<|oc zG<|zD) fun a w23 s=> ?_
     refine zA rfl ?_
     refine zWr ?_
     exact wS s s0.below (t:=12) rfl iiz
end Go.Proofs.Wd
