/- Walk of straitref24.Cells; Walks for no pieces: straitref21: Box, Fram and what it needs. -/
import Derived.Test.YthegekeodchhiaaGreatDoorMLR21
import Derived.Test.YthegekeodchhiaaGreatDoorMLR20
theorem kJ {P:Prop} (h:P:=by kernel_rfl):P:=h
theorem oQ {P:Prop} (h:P:=by omega):P:=h
theorem dC {P:Prop} (h:P:=by decide):P:=h
abbrev zWB:=@Go.wpIn_seq
abbrev zWC:=@Nat.le_trans
abbrev zWD:=@List.mem_cons
abbrev zWE:=@List.mem_singleton
abbrev zWF:=@Go.wpIn_block
abbrev zWG:=@of_decide_eq_false
abbrev zWH:=@Go.wpIn_ret
abbrev zWI:=@of_decide_eq_true
abbrev zWJ:=@List.length_map
abbrev zWK:=@Go.wpIn_skip
abbrev zWL:=@Go.wpIn_exit
abbrev zWM:=@Nat.pow_one
abbrev zWN:=@Nat.le_refl
abbrev zWO:=@Nat.zero_le
abbrev zWP:=@Bool.and_eq_true
abbrev zWQ:=@Bool.and_eq_false_iff
abbrev zWR:=@Go.IntKind.wrap_i64
abbrev zWS:=@List.length_append
abbrev zWT:=@List.append_nil
abbrev zWU:=@List.mem_append
abbrev zWV:=@List.mem_of_mem_take
abbrev zWW:=@List.all_eq_true
abbrev zWX:=@List.not_mem_nil
abbrev zWY:=@List.mem_cons_self
abbrev zWZ:=@Array.getElem?_eq_some_iff
abbrev zW0:=@List.getElem?_eq_getElem
abbrev zW1:=@List.getElem?_eq_some_iff
abbrev zW2:=@List.getD_eq_getElem?_getD
abbrev Wp:=Go.World
abbrev Wq:=Go.Value
namespace Go.Proofs.Wd
open Tryz
set_option maxRecDepth 100000
set_option maxHeartbeats 1000000
open Go.RowKit Lb
noncomputable def zF0 (X:List Rat) (WV:List (Wq×List Rat)) (k:Nat):List zAb:=zIN 0 1 (k:Int) (qAt X k) (llg [] WV k).2 qG (llg [] WV k).2.length
noncomputable def zRS (X:List Rat) (LV:List (Wq×List V2)) (k:Nat):List Rat:=jN (qAt X k) (qAt X (k+1)) (qG (qAt X k) (qAt X (k+1))) (llg [] LV k).2
noncomputable def zEZ (X:List Rat) (LV:List (Wq×List V2)) (k:Nat):List zAb:=zIN 2 3 (k:Int) (qG (qAt X k) (qAt X (k+1))) (zRS X LV k) qG (zRS X LV k).length
noncomputable def zIP (X:List Rat) (LV:List (Wq×List V2)) (WV:List (Wq×List Rat)):Nat->List zAb
 |0=> []
 |k+1=>(zIP X LV WV k++(if k<WV.length then zF0 X WV k else []))++(if k<LV.length/\k+1<X.length then zEZ X LV k else [])
section
variable {X:List Rat} {LV:List (Wq×List V2)} {WV:List (Wq×List Rat)} {k:Nat}
theorem zCJ:zIP X LV WV (k+1)=(zIP X LV WV k++(if k<WV.length then zF0 X WV k else []))++(if k<LV.length/\k+1<X.length then zEZ X LV k else []):=rfl
theorem zTw (h:k<WV.length) (h':k<LV.length/\k+1<X.length):ces (zIP X LV WV (k+1))=(ces (zIP X LV WV k)++ces (zF0 X WV k))++ces (zEZ X LV k):=by rw [zDl,zDl,zCJ,if_pos h,if_pos h']
theorem zTx (h:k<WV.length) (h': ¬(k<LV.length/\k+1<X.length)):ces (zIP X LV WV (k+1))=ces (zIP X LV WV k)++ces (zF0 X WV k):=by rw [zDl,zCJ,if_pos h,if_neg h',zWT]
theorem zTy (h: ¬k<WV.length) (h':k<LV.length/\k+1<X.length):ces (zIP X LV WV (k+1))=ces (zIP X LV WV k)++ces (zEZ X LV k):=by rw [zDl,zCJ,if_neg h,if_pos h',zWT]
theorem zTz (h: ¬k<WV.length) (h': ¬(k<LV.length/\k+1<X.length)):ces (zIP X LV WV (k+1))=ces (zIP X LV WV k):=by rw [zCJ,if_neg h,if_neg h',zWT,zWT]
theorem zEx (hw: ∀y,y∈WV->y.2.length<=10000) (h:k<WV.length):(zF0 X WV k).length<=20000:=by
 have:=zDU 0 1 (k:Int) (qAt X k) (llg [] WV k).2 qG (llg [] WV k).2.length
 have:=hw _ (qN (d:= []) h)
 unfold zF0;omega
theorem zEA (hl: ∀y,y∈LV->y.2.length<=10000) (h:k<LV.length):(zEZ X LV k).length<=20000:=by
 have:=zDU 2 3 (k:Int) (qG (qAt X k) (qAt X (k+1))) (zRS X LV k) qG (zRS X LV k).length
 have h2:=zGz (qAt X k) (qAt X (k+1)) (qG (qAt X k) (qAt X (k+1))) (llg [] LV k).2
 have:=hl _ (qN (d:= []) h)
 unfold zEZ zRS at*;omega
theorem zKc (hw: ∀y,y∈WV->y.2.length<=10000) (hl: ∀y,y∈LV->y.2.length<=10000): ∀k,(zIP X LV WV k).length<=40000*k
 |0=>zWN _
 | k+1=>by
  have ih:=zKc hw hl k
  have h1:(if k<WV.length then zF0 X WV k else []).length<=20000:=by
   split
   ·rename_i h;exact zEx hw h
   ·simp
  have h2:(if k<LV.length/\k+1<X.length then zEZ X LV k else []).length<=20000:=by
   split
   ·rename_i h;exact zEA hl h.1
   ·simp
  rw [zCJ,zWS,zWS]
  omega
end
theorem zKv {m:Nat} {W:Wp} {u:Wq} {lo hi:V2} {vx vl vw vc:Wq} {X:List Rat} {LV:List (Wq×List V2)} {WV:List (Wq×List Rat)} {CV:List zAb} (h1:(fMD (fPR (fPN lo) (fPN hi)) vx vl vw vc).p u W) (hM:MOk W vx vl vw vc X LV WV CV) (hB:MBd m X LV WV CV) (hSY: ∀k,k<LV.length->k+1<X.length-> ∀q,q∈zRS X LV k->QB q 40) (hm:m<=5) (hm0:0<m) (hX4:X.length<=10000) (hW4: ∀y,y∈WV->y.2.length<=10000) (hL4: ∀y,y∈LV->y.2.length<=10000):Calls prog 24 #[u] W (Ret W (wM W 54 9 (ces (zIP X LV WV X.length)))):=by
 refine z9 [(fMD (fPR (fPN lo) (fPN hi)) vx vl vw vc).tS] func24 rfl kJ ⟨h1,trivial⟩ fun a s=> ?_
 replace s:=s.renew [(0, .u (fMD (fPR (fPN lo) (fPN hi)) vx vl vw vc))] (fmz ⟨.inr ⟨_,rfl, .head _⟩,fnz⟩)
 refine zWB ?_
 refine zC 0 [] hmix s kJ
  zD fun a w1 s=> ?_
 refine yD (CU.agg (fMD (fPR (fPN lo) (fPN hi)) vx vl vw vc)) rfl s kJ (fun v W h=>zDN h) fun b1 a w s=> ?_
 refine zS (UF.eq (.slice none 0 0)) rfl s kJ iiz fun a w s=> ?_
 refine zA rfl ?_
 refine zWB ?_
 refine zC 1 ((3, .u (UF.eq (.slice none 0 0))):: []) hmix s kJ
  (oc zF<|zD) fun a w2 s=> ?_
 refine zA rfl ?_
 refine zWB ?_
 refine zWB ?_
 refine zC 1 ((4, .u (uI 0)):: []) hmix s kJ
  (oc zF<|zD) fun a w3 s=> ?_
 refine zA rfl ?_
 refine zWF ?_
 obtain ⟨base,hbase⟩: ∃b,b=w3.heap.size:=⟨_,rfl⟩
 have hb0:W.heap.size<=base:=by rw [hbase];exact s.gr.size
 have hsz0:base<=w3.heap.size:=by rw [hbase];exact zWN _
 replace s:StS _ _ _ [⟨1,43,CU.agg (fMD (fPR (fPN lo) (fPN hi)) vx vl vw vc),b1,true⟩] _ _ _ _:=s.freeze
 have hbx1:b1<base:=by rw [hbase];exact s.old _ (.head _)
 refine zBO (fun (p:Nat×Wq) w=>p.1<=X.length/\base<=w.heap.size/\zAW w base 54 9 p.2 (ces (zIP X LV WV p.1))) (fun p=> [(3, .u (UF.eq (p.2))),(4, .u (uI (p.1:Int)))]) (fun p=>X.length - p.1) (0, .slice none 0 0) (⟨zWO _,hsz0,zAW.nil _ _ _ _⟩) (s.keepK _ (fmz ⟨mz1,fmz ⟨.head _,fnz⟩⟩)) fun p a w hI s=> ?_
 have s0:=s
 have hM0:=hM
 have hM:=hM0.below s0.below
 have hcl:=zKc (X:=X) hW4 hL4 p.1
 have hlw:=zBC WV
 have hll:=zBC LV
 replace s:=s.reb rfl [(3, .u (UF.eq (p.2))),(4, .u (uI (p.1:Int)))] (fmz ⟨.inl (.head _),fmz ⟨.inl mz1,fnz⟩⟩)
 refine zWB ?_
 refine zWB ?_
 refine zC 5 ((5, .Z (uI (p.1:Int)))::(6, .X (fMD (fPR (fPN lo) (fPN hi)) vx vl vw vc) 12)::(7, .Z (UF.eq vx))::(8, .Z (uI ((qls X).length:Int)))::(9, .u (uB (decide ((p.1:Int)<((qls X).length:Int))))):: []) hmix s kJ
  (oc zB<|oc (zK (C:=cg (fMD (fPR (fPN lo) (fPN hi)) vx vl vw vc)) 12 kJ)<|oc (yL (C:=cg (fMD (fPR (fPN lo) (fPN hi)) vx vl vw vc)) (k:=12) kJ (h:=zKF))<|oc (y8 (z:=3) (Cs:=qls X) kJ (fun v W hb h=>(yT hM.x h (s.up hb))) (fun _=>rfl))<|oc (zO .i64 (p.1:Int) ((qls X).length:Int) (decide ((p.1:Int)<((qls X).length:Int))) iiz iiz rfl rfl)<|zD) fun a w4 s=> ?_
 refine zA rfl ?_
 refine StS.cond s (decide ((p.1:Int)<((qls X).length:Int))) iiz (fun e=> ?_) (fun e=> ?_)
 ·have hk:p.1<X.length:=by have:=zWI e;simp at this;omega
  refine zWK ?_
  refine zWB ?_
  refine zWF ?_
  refine zWB ?_
  refine zWB ?_
  refine zC 5 ((12, .Z (uI (p.1:Int)))::(13, .X (fMD (fPR (fPN lo) (fPN hi)) vx vl vw vc) 14)::(14, .Z (UF.eq vw))::(15, .Z (uI ((lls WV).length:Int)))::(16, .u (uB (decide ((p.1:Int)<((lls WV).length:Int))))):: []) hmix s kJ
   (oc zB<|oc (zK (C:=cg (fMD (fPR (fPN lo) (fPN hi)) vx vl vw vc)) 14 kJ)<|oc (yL (C:=cg (fMD (fPR (fPN lo) (fPN hi)) vx vl vw vc)) (k:=14) kJ (h:=zTQ))<|oc (y8 (z:=1) (Cs:=lls WV) kJ (fun v W hb h=>(yT hM.w h (s.up hb))) (fun _=>rfl))<|oc (zO .i64 (p.1:Int) ((lls WV).length:Int) (decide ((p.1:Int)<((lls WV).length:Int))) iiz iiz rfl rfl)<|zD) fun a w5 s=> ?_
  refine zA rfl ?_
  refine StS.cond s (decide ((p.1:Int)<((lls WV).length:Int))) iiz (fun e=> ?_) (fun e=> ?_)
  ·have hw:p.1<WV.length:=by have h7:=zWI e;rw [hlw] at h7;omega
   refine qH (K:= [(16, .u (uB (decide ((p.1:Int)<((lls WV).length:Int))))),(9, .u (uB (decide ((p.1:Int)<((qls X).length:Int))))),(4, .u (uI (p.1:Int)))]) [(3, .u (UF.eq (p.2)))] [0,3,8,11] 13 ((17, .u (UF.eq (p.2)))::(18, .X (fMD (fPR (fPN lo) (fPN hi)) vx vl vw vc) 12)::(19, .Z (UF.eq vx))::(20, .Z (uI (p.1:Int)))::(21, .Y (fQN (qAt X p.1)))::(22, .Z (fQN (qAt X p.1)))::(23, .X (fMD (fPR (fPN lo) (fPN hi)) vx vl vw vc) 14)::(24, .Z (UF.eq vw))::(25, .Z (uI (p.1:Int)))::(26, .s (wB (wE [(llg [] WV p.1).1]).cf))::(27, .Z (UF.eq (llg [] WV p.1).1))::(28, .Z (uI (p.1:Int)))::(29, .s (SF.row 9 (ces (zF0 X WV p.1)))):: []) hmix (s.keepK _ (fmz ⟨mz2,fmz ⟨.head _,fmz ⟨mz1,fmz ⟨mz3,fnz⟩⟩⟩⟩)) kJ
    (oc zB<|oc (zK (C:=cg (fMD (fPR (fPN lo) (fPN hi)) vx vl vw vc)) 12 kJ)<|oc (yL (C:=cg (fMD (fPR (fPN lo) (fPN hi)) vx vl vw vc)) (k:=12) kJ (h:=zKF))<|oc zB<|oc (zZ (z:=3) (Cs:=qls X) (i:=p.1) (C:=CU.agg (fQN (qAt X p.1))) kJ (zAS hk) (fun v W hb h=>(yT hM.x h (s.up hb))) iiz)<|oc (zI (f:=fQN (qAt X p.1)) 3 kJ (hz:=z5 _))<|oc (zK (C:=cg (fMD (fPR (fPN lo) (fPN hi)) vx vl vw vc)) 14 kJ)<|oc (yL (C:=cg (fMD (fPR (fPN lo) (fPN hi)) vx vl vw vc)) (k:=14) kJ (h:=zTQ))<|oc zB<|oc (zZ (z:=1) (Cs:=lls WV) (i:=p.1) (C:=wE [(llg [] WV p.1).1]) kJ (zB7 hw) (fun v W hb h=>(yT hM.w h (s.up hb))) iiz)<|oc (jS (C:=(wE [(llg [] WV p.1).1]).cf) kJ iiz zCh)<|oc zB<|oc (zBK zE zUA (fun u0 u1 u2 W hb (h0:QNp (qAt X p.1) u0 W) (h1:u1=(llg [] WV p.1).1) (h2:u2= .int .i64 (p.1:Int))=>(zND (m:=m) (i:=p.1) (wD h0 (hB.x _ (qU hk))) (by rw [show _=(llg [] WV p.1).1 from h1];exact (SF.row 3 (qls (llg [] WV p.1).2)).st _ _ _ (hM.wo _ (qN hw)) (s.up hb)) h2 (hB.w _ (qN hw)) oQ hm0 (hB.nw _ (qN hw))).mono (wF zAs)))<|zD) fun Q' hQ a w6 s hr=> ?_
   refine zFw (ces (zF0 X WV p.1)) s0 (s.keepK [(17, .u (UF.eq (p.2))),(16, .u (uB (decide ((p.1:Int)<((lls WV).length:Int))))),(9, .u (uB (decide ((p.1:Int)<((qls X).length:Int))))),(4, .u (uI (p.1:Int)))] (fmz ⟨.head _,fmz ⟨mz1,fmz ⟨mz2,fmz ⟨mz3,fnz⟩⟩⟩⟩)) hb0 hI.2 rfl kJ kJ kJ (s.fct (.tmp 17)) (hr (_,_) zRj) (zFq _) (by have hq1:=fun h=>zEx (X:=X) (k:=p.1) hW4 h;have hq2:=fun h=>zEA (X:=X) (k:=p.1) hL4 h;simp only [zWS,zWJ];first|(have:=hq1 hw;have:=hq2 hs.1;omega)|(have:=hq1 hw;omega)|(have:=hq2 hs.1;omega)) (fun q hq hr=>by rcases zWD.1 hq with rfl|hq;exact hbx1;cases hq) fun v1 a w hI1 s=> ?_
   have s1:=s
   replace s:StS _ _ _ [⟨1,43,CU.agg (fMD (fPR (fPN lo) (fPN hi)) vx vl vw vc),b1,true⟩] _ _ _ _:=s.freeze
   replace s:=s.reb rfl [(30, .u (UF.eq v1)),(17, .u (UF.eq (p.2))),(16, .u (uB (decide ((p.1:Int)<((lls WV).length:Int))))),(9, .u (uB (decide ((p.1:Int)<((qls X).length:Int))))),(4, .u (uI (p.1:Int)))] (fmz ⟨.inl (.head _),fmz ⟨.inl mz1,fmz ⟨.inl mz2,fmz ⟨.inl mz3,fmz ⟨.inl mz4,fnz⟩⟩⟩⟩⟩)
   refine zS (UF.eq v1) rfl s kJ iiz fun a w s=> ?_
   refine zA rfl (hQ _ _ ?_)
   refine zWB ?_
   have hM:=hM0.below s1.below
   refine zC 13 ((31, .Z (uI (p.1:Int)))::(32, .X (fMD (fPR (fPN lo) (fPN hi)) vx vl vw vc) 13)::(33, .Z (UF.eq vl))::(34, .Z (uI ((lls LV).length:Int)))::(35, .Z (uB (decide ((p.1:Int)<((lls LV).length:Int)))))::(36, .Z (uB (decide ((p.1:Int)<((lls LV).length:Int)))))::(37, .s (SF.imp ((decide ((p.1:Int)<((lls LV).length:Int)))=true) ((uI (p.1:Int)).tS)))::(38, .s (SF.imp ((decide ((p.1:Int)<((lls LV).length:Int)))=true) ((uI ((p.1+1:Nat):Int)).tS)))::(39, .s (SF.imp ((decide ((p.1:Int)<((lls LV).length:Int)))=true) (wB ((CU.agg (fMD (fPR (fPN lo) (fPN hi)) vx vl vw vc)).cf.at 12))))::(40, .s (SF.imp ((decide ((p.1:Int)<((lls LV).length:Int)))=true) ((UF.eq vx).tS)))::(41, .s (SF.imp ((decide ((p.1:Int)<((lls LV).length:Int)))=true) ((uI ((qls X).length:Int)).tS)))::(42, .s (SF.imp ((decide ((p.1:Int)<((lls LV).length:Int)))=true) ((uB (decide (((p.1+1:Nat):Int)<((qls X).length:Int)))).tS)))::(43, .u (uB ((decide ((p.1:Int)<((lls LV).length:Int)))&&(decide (((p.1+1:Nat):Int)<((qls X).length:Int)))))):: []) hmix s kJ
    (oc zB<|oc (zK (C:=cg (fMD (fPR (fPN lo) (fPN hi)) vx vl vw vc)) 13 kJ)<|oc (yL (C:=cg (fMD (fPR (fPN lo) (fPN hi)) vx vl vw vc)) (k:=13) kJ (h:=zRn))<|oc (y8 (z:=1) (Cs:=lls LV) kJ (fun v W hb h=>(yT hM.l h (s.up hb))) (fun _=>rfl))<|oc (zO .i64 (p.1:Int) ((lls LV).length:Int) (decide ((p.1:Int)<((lls LV).length:Int))) iiz iiz rfl rfl)<|oc zB<|oc (zG 36 (decide ((p.1:Int)<((lls LV).length:Int))) kJ iiz (fun e=>zQ [] ((uI (p.1:Int)).tS) fnz (fun _ _ h _=>h) kJ zB) (fun e W h=>absurd h e))<|oc (zG 36 (decide ((p.1:Int)<((lls LV).length:Int))) kJ iiz (fun e=>zQ [(37,(uI (p.1:Int)).tS)] ((uI ((p.1+1:Nat):Int)).tS) (fmz ⟨fun v W h=>zL (c:=(decide ((p.1:Int)<((lls LV).length:Int)))=true) (f:=(uI (p.1:Int)).tS) e h,fnz⟩) (fun _ _ h _=>h) kJ (yM .i64 (p.1:Int) 1 ((p.1+1:Nat):Int) iiz iiz (wrap64 _ _ oQ oQ))) (fun e W h=>absurd h e))<|oc (zG 36 (decide ((p.1:Int)<((lls LV).length:Int))) kJ iiz (fun e=>zQ [] (wB ((CU.agg (fMD (fPR (fPN lo) (fPN hi)) vx vl vw vc)).cf.at 12)) fnz (fun _ _ h _=>h) kJ (zK (C:=cg (fMD (fPR (fPN lo) (fPN hi)) vx vl vw vc)) 12 kJ)) (fun e W h=>absurd h e))<|oc (zG 36 (decide ((p.1:Int)<((lls LV).length:Int))) kJ iiz (fun e=>zQ [(39,wB ((CU.agg (fMD (fPR (fPN lo) (fPN hi)) vx vl vw vc)).cf.at 12))] ((UF.eq vx).tS) (fmz ⟨fun v W h=>zL (c:=(decide ((p.1:Int)<((lls LV).length:Int)))=true) (f:=wB ((CU.agg (fMD (fPR (fPN lo) (fPN hi)) vx vl vw vc)).cf.at 12)) e h,fnz⟩) (fun _ _ h _=>h) kJ (yL (C:=cg (fMD (fPR (fPN lo) (fPN hi)) vx vl vw vc)) (k:=12) kJ (h:=zKF))) (fun e W h=>absurd h e))<|oc (zG 36 (decide ((p.1:Int)<((lls LV).length:Int))) kJ iiz (fun e=>zQ [(40,(UF.eq vx).tS)] ((uI ((qls X).length:Int)).tS) (fmz ⟨fun v W h=>zL (c:=(decide ((p.1:Int)<((lls LV).length:Int)))=true) (f:=(UF.eq vx).tS) e h,fnz⟩) (fun _ _ h _=>h) kJ (y8 (z:=3) (Cs:=qls X) kJ (fun v W hb h=>(yT hM.x h (s.up hb))) (fun _=>rfl))) (fun e W h=>absurd h e))<|oc (zG 36 (decide ((p.1:Int)<((lls LV).length:Int))) kJ iiz (fun e=>zQ [(38,(uI ((p.1+1:Nat):Int)).tS),(41,(uI ((qls X).length:Int)).tS)] ((uB (decide (((p.1+1:Nat):Int)<((qls X).length:Int)))).tS) (fmz ⟨fun v W h=>zL (c:=(decide ((p.1:Int)<((lls LV).length:Int)))=true) (f:=(uI ((p.1+1:Nat):Int)).tS) e h,fmz ⟨fun v W h=>zL (c:=(decide ((p.1:Int)<((lls LV).length:Int)))=true) (f:=(uI ((qls X).length:Int)).tS) e h,fnz⟩⟩) (fun _ _ h _=>h) kJ (zO .i64 ((p.1+1:Nat):Int) ((qls X).length:Int) (decide (((p.1+1:Nat):Int)<((qls X).length:Int))) iiz iiz rfl rfl)) (fun e W h=>absurd h e))<|oc (yO (decide ((p.1:Int)<((lls LV).length:Int))) iiz (fun e v W h=>jM (zL e h) e) (fun e v W h=>qV h e))<|zD) fun a w7 s=> ?_
   refine zA rfl ?_
   refine StS.cond s ((decide ((p.1:Int)<((lls LV).length:Int)))&&(decide (((p.1+1:Nat):Int)<((qls X).length:Int)))) iiz (fun e=> ?_) (fun e=> ?_)
   ·have hs:p.1<LV.length/\p.1+1<X.length:=by
     rw [zWP] at e
     have h7:=zWI e.1;have h8:=zWI e.2
     rw [hll] at h7;simp at h8;omega
    refine qH (K:= [(43, .u (uB ((decide ((p.1:Int)<((lls LV).length:Int)))&&(decide (((p.1+1:Nat):Int)<((qls X).length:Int)))))),(30, .u (UF.eq v1)),(17, .u (UF.eq (p.2))),(16, .u (uB (decide ((p.1:Int)<((lls WV).length:Int))))),(9, .u (uB (decide ((p.1:Int)<((qls X).length:Int))))),(4, .u (uI (p.1:Int)))]) [(3, .u (UF.eq v1))] [0,3,8,14,17] 19 ((44, .u (UF.eq v1))::(45, .X (fMD (fPR (fPN lo) (fPN hi)) vx vl vw vc) 12)::(46, .Z (UF.eq vx))::(47, .Z (uI (p.1:Int)))::(48, .Y (fQN (qAt X p.1)))::(49, .Z (fQN (qAt X p.1)))::(50, .X (fMD (fPR (fPN lo) (fPN hi)) vx vl vw vc) 12)::(51, .Z (UF.eq vx))::(52, .Z (uI (p.1:Int)))::(53, .Z (uI ((p.1+1:Nat):Int)))::(54, .Y (fQN (qAt X (p.1+1))))::(55, .Z (fQN (qAt X (p.1+1))))::(56, .X (fMD (fPR (fPN lo) (fPN hi)) vx vl vw vc) 13)::(57, .Z (UF.eq vl))::(58, .Z (uI (p.1:Int)))::(59, .s (wB (wE [(llg [] LV p.1).1]).cf))::(60, .Z (UF.eq (llg [] LV p.1).1))::(61, .Z (uI (p.1:Int)))::(62, .s (SF.row 9 (ces (zEZ X LV p.1)))):: []) hmix (s.keepK _ (fmz ⟨mz1,fmz ⟨.head _,fmz ⟨mz2,fmz ⟨mz3,fmz ⟨mz4,fmz ⟨mz5,fmz ⟨mz6,fnz⟩⟩⟩⟩⟩⟩⟩)) kJ
     (oc zB<|oc (zK (C:=cg (fMD (fPR (fPN lo) (fPN hi)) vx vl vw vc)) 12 kJ)<|oc (yL (C:=cg (fMD (fPR (fPN lo) (fPN hi)) vx vl vw vc)) (k:=12) kJ (h:=zKF))<|oc zB<|oc (zZ (z:=3) (Cs:=qls X) (i:=p.1) (C:=CU.agg (fQN (qAt X p.1))) kJ (zAS hk) (fun v W hb h=>(yT hM.x h (s.up hb))) iiz)<|oc (zI (f:=fQN (qAt X p.1)) 3 kJ (hz:=z5 _))<|oc (zK (C:=cg (fMD (fPR (fPN lo) (fPN hi)) vx vl vw vc)) 12 kJ)<|oc (yL (C:=cg (fMD (fPR (fPN lo) (fPN hi)) vx vl vw vc)) (k:=12) kJ (h:=zKF))<|oc zB<|oc (yM .i64 (p.1:Int) 1 ((p.1+1:Nat):Int) iiz iiz (wrap64 _ _ oQ oQ))<|oc (zZ (z:=3) (Cs:=qls X) (i:=p.1+1) (C:=CU.agg (fQN (qAt X (p.1+1)))) kJ (zAS hs.2) (fun v W hb h=>(yT hM.x h (s.up hb))) iiz)<|oc (zI (f:=fQN (qAt X (p.1+1))) 3 kJ (hz:=z5 _))<|oc (zK (C:=cg (fMD (fPR (fPN lo) (fPN hi)) vx vl vw vc)) 13 kJ)<|oc (yL (C:=cg (fMD (fPR (fPN lo) (fPN hi)) vx vl vw vc)) (k:=13) kJ (h:=zRn))<|oc zB<|oc (zZ (z:=1) (Cs:=lls LV) (i:=p.1) (C:=wE [(llg [] LV p.1).1]) kJ (zB7 hs.1) (fun v W hb h=>(yT hM.l h (s.up hb))) iiz)<|oc (jS (C:=(wE [(llg [] LV p.1).1]).cf) kJ iiz zCh)<|oc zB<|oc (zAi zE zTb (fun u0 u1 u2 u3 W hb (h0:QNp (qAt X p.1) u0 W) (h1:QNp (qAt X (p.1+1)) u1 W) (h2:u2=(llg [] LV p.1).1) (h3:u3= .int .i64 (p.1:Int))=>(zJg (m:=m) (i:=p.1) (wD h0 (hB.x _ (qU hk))) (wD h1 (hB.x _ (qU hs.2))) (by rw [show _=(llg [] LV p.1).1 from h2];exact (SF.row 6 (pns (llg [] LV p.1).2)).st _ _ _ (hM.lo _ (qN hs.1)) (s.up hb)) h3 (hB.l _ (qN hs.1)) (hSY p.1 hs.1 hs.2) hm hm0 (hB.nl _ (qN hs.1))).mono (wF zAs)))<|zD) fun Q' hQ a w8 s hr=> ?_
    refine zFw (ces (zEZ X LV p.1)) s1 (s.keepK [(44, .u (UF.eq v1)),(43, .u (uB ((decide ((p.1:Int)<((lls LV).length:Int)))&&(decide (((p.1+1:Nat):Int)<((qls X).length:Int)))))),(30, .u (UF.eq v1)),(17, .u (UF.eq (p.2))),(16, .u (uB (decide ((p.1:Int)<((lls WV).length:Int))))),(9, .u (uB (decide ((p.1:Int)<((qls X).length:Int))))),(4, .u (uI (p.1:Int)))] (fmz ⟨.head _,fmz ⟨mz1,fmz ⟨mz2,fmz ⟨mz3,fmz ⟨mz4,fmz ⟨mz5,fmz ⟨mz6,fnz⟩⟩⟩⟩⟩⟩⟩)) hb0 hI1 rfl kJ kJ kJ (s.fct (.tmp 44)) (hr (_,_) (.tail _ (.tail _ (.tail _ zNw)))) (zFq _) (by have hq1:=fun h=>zEx (X:=X) (k:=p.1) hW4 h;have hq2:=fun h=>zEA (X:=X) (k:=p.1) hL4 h;simp only [zWS,zWJ];first|(have:=hq1 hw;have:=hq2 hs.1;omega)|(have:=hq1 hw;omega)|(have:=hq2 hs.1;omega)) (fun q hq hr=>by rcases zWD.1 hq with rfl|hq;exact hbx1;cases hq) fun v2 a w hI2 s=> ?_
    have s2:=s
    replace s:StS _ _ _ [⟨1,43,CU.agg (fMD (fPR (fPN lo) (fPN hi)) vx vl vw vc),b1,true⟩] _ _ _ _:=s.freeze
    replace s:=s.reb rfl [(63, .u (UF.eq v2)),(44, .u (UF.eq v1)),(43, .u (uB ((decide ((p.1:Int)<((lls LV).length:Int)))&&(decide (((p.1+1:Nat):Int)<((qls X).length:Int)))))),(30, .u (UF.eq v1)),(17, .u (UF.eq (p.2))),(16, .u (uB (decide ((p.1:Int)<((lls WV).length:Int))))),(9, .u (uB (decide ((p.1:Int)<((qls X).length:Int))))),(4, .u (uI (p.1:Int)))] (fmz ⟨.inl (.head _),fmz ⟨.inl mz1,fmz ⟨.inl mz2,fmz ⟨.inl mz3,fmz ⟨.inl mz4,fmz ⟨.inl mz5,fmz ⟨.inl mz6,fmz ⟨.inl mz7,fnz⟩⟩⟩⟩⟩⟩⟩⟩)
    refine zS (UF.eq v2) rfl s kJ iiz fun a w s=> ?_
    refine zA rfl (hQ _ _ ?_)
    refine zR 2 ((10, .Z (uI (p.1:Int)))::(11, .u (uI ((p.1+1:Nat):Int))):: []) s kJ
     (oc zB<|oc (yM .i64 (p.1:Int) 1 ((p.1+1:Nat):Int) iiz iiz (wrap64 _ _ oQ oQ))<|zD) fun a w9 s=> ?_
    replace s:=s.drop [4]
    refine zS (uI ((p.1+1:Nat):Int)) rfl s kJ iiz fun a w s=> ?_
    refine zA rfl ?_
    have hbw:=s.below
    replace s:=s2.back (s.keepK [(4, .u (uI ((p.1+1:Nat):Int))),(11, .u (uI ((p.1+1:Nat):Int))),(3, .u (UF.eq v2)),(63, .u (UF.eq v2)),(44, .u (UF.eq v1)),(43, .u (uB ((decide ((p.1:Int)<((lls LV).length:Int)))&&(decide (((p.1+1:Nat):Int)<((qls X).length:Int)))))),(30, .u (UF.eq v1)),(17, .u (UF.eq (p.2))),(16, .u (uB (decide ((p.1:Int)<((lls WV).length:Int))))),(9, .u (uB (decide ((p.1:Int)<((qls X).length:Int)))))] (fmz ⟨.head _,fmz ⟨mz1,fmz ⟨mz2,fmz ⟨mz3,fmz ⟨mz4,fmz ⟨mz5,fmz ⟨mz6,fmz ⟨mz7,fmz ⟨mz8,fmz ⟨mz9,fnz⟩⟩⟩⟩⟩⟩⟩⟩⟩⟩)) rfl
    exact ⟨(p.1+1,v2),(by show X.length - (p.1+1)<X.length - p.1;omega),⟨hk,zWC hI2.1 hbw.size,by rw [zTw hw hs];exact hI2.2.below hbw⟩,s.keepK _ (fmz ⟨mz2,fmz ⟨.head _,fnz⟩⟩)⟩
   ·have hs: ¬(p.1<LV.length/\p.1+1<X.length):=by
     rw [zWQ] at e
     rcases e with e|e
     ·have h7:=zWG e;rw [hll] at h7;omega
     ·have h7:=zWG e;simp at h7;omega
    refine zWK ?_
    refine zR 2 ((10, .Z (uI (p.1:Int)))::(11, .u (uI ((p.1+1:Nat):Int))):: []) s kJ
     (oc zB<|oc (yM .i64 (p.1:Int) 1 ((p.1+1:Nat):Int) iiz iiz (wrap64 _ _ oQ oQ))<|zD) fun a w10 s=> ?_
    replace s:=s.drop [4]
    refine zS (uI ((p.1+1:Nat):Int)) rfl s kJ iiz fun a w s=> ?_
    refine zA rfl ?_
    have hbw:=s.below
    replace s:=s1.back (s.keepK [(4, .u (uI ((p.1+1:Nat):Int))),(11, .u (uI ((p.1+1:Nat):Int))),(43, .u (uB ((decide ((p.1:Int)<((lls LV).length:Int)))&&(decide (((p.1+1:Nat):Int)<((qls X).length:Int)))))),(3, .u (UF.eq v1)),(30, .u (UF.eq v1)),(17, .u (UF.eq (p.2))),(16, .u (uB (decide ((p.1:Int)<((lls WV).length:Int))))),(9, .u (uB (decide ((p.1:Int)<((qls X).length:Int)))))] (fmz ⟨.head _,fmz ⟨mz1,fmz ⟨mz2,fmz ⟨mz3,fmz ⟨mz4,fmz ⟨mz5,fmz ⟨mz6,fmz ⟨mz7,fnz⟩⟩⟩⟩⟩⟩⟩⟩)) rfl
    exact ⟨(p.1+1,v1),(by show X.length - (p.1+1)<X.length - p.1;omega),⟨hk,zWC hI1.1 hbw.size,by rw [zTx hw hs];exact hI1.2.below hbw⟩,s.keepK _ (fmz ⟨mz3,fmz ⟨.head _,fnz⟩⟩)⟩
  ·have hw: ¬p.1<WV.length:=by have h7:=zWG e;rw [hlw] at h7;omega
   refine zWK ?_
   refine zWB ?_
   refine zC 13 ((31, .Z (uI (p.1:Int)))::(32, .X (fMD (fPR (fPN lo) (fPN hi)) vx vl vw vc) 13)::(33, .Z (UF.eq vl))::(34, .Z (uI ((lls LV).length:Int)))::(35, .Z (uB (decide ((p.1:Int)<((lls LV).length:Int)))))::(36, .Z (uB (decide ((p.1:Int)<((lls LV).length:Int)))))::(37, .s (SF.imp ((decide ((p.1:Int)<((lls LV).length:Int)))=true) ((uI (p.1:Int)).tS)))::(38, .s (SF.imp ((decide ((p.1:Int)<((lls LV).length:Int)))=true) ((uI ((p.1+1:Nat):Int)).tS)))::(39, .s (SF.imp ((decide ((p.1:Int)<((lls LV).length:Int)))=true) (wB ((CU.agg (fMD (fPR (fPN lo) (fPN hi)) vx vl vw vc)).cf.at 12))))::(40, .s (SF.imp ((decide ((p.1:Int)<((lls LV).length:Int)))=true) ((UF.eq vx).tS)))::(41, .s (SF.imp ((decide ((p.1:Int)<((lls LV).length:Int)))=true) ((uI ((qls X).length:Int)).tS)))::(42, .s (SF.imp ((decide ((p.1:Int)<((lls LV).length:Int)))=true) ((uB (decide (((p.1+1:Nat):Int)<((qls X).length:Int)))).tS)))::(43, .u (uB ((decide ((p.1:Int)<((lls LV).length:Int)))&&(decide (((p.1+1:Nat):Int)<((qls X).length:Int)))))):: []) hmix s kJ
    (oc zB<|oc (zK (C:=cg (fMD (fPR (fPN lo) (fPN hi)) vx vl vw vc)) 13 kJ)<|oc (yL (C:=cg (fMD (fPR (fPN lo) (fPN hi)) vx vl vw vc)) (k:=13) kJ (h:=zRn))<|oc (y8 (z:=1) (Cs:=lls LV) kJ (fun v W hb h=>(yT hM.l h (s.up hb))) (fun _=>rfl))<|oc (zO .i64 (p.1:Int) ((lls LV).length:Int) (decide ((p.1:Int)<((lls LV).length:Int))) iiz iiz rfl rfl)<|oc zB<|oc (zG 36 (decide ((p.1:Int)<((lls LV).length:Int))) kJ iiz (fun e=>zQ [] ((uI (p.1:Int)).tS) fnz (fun _ _ h _=>h) kJ zB) (fun e W h=>absurd h e))<|oc (zG 36 (decide ((p.1:Int)<((lls LV).length:Int))) kJ iiz (fun e=>zQ [(37,(uI (p.1:Int)).tS)] ((uI ((p.1+1:Nat):Int)).tS) (fmz ⟨fun v W h=>zL (c:=(decide ((p.1:Int)<((lls LV).length:Int)))=true) (f:=(uI (p.1:Int)).tS) e h,fnz⟩) (fun _ _ h _=>h) kJ (yM .i64 (p.1:Int) 1 ((p.1+1:Nat):Int) iiz iiz (wrap64 _ _ oQ oQ))) (fun e W h=>absurd h e))<|oc (zG 36 (decide ((p.1:Int)<((lls LV).length:Int))) kJ iiz (fun e=>zQ [] (wB ((CU.agg (fMD (fPR (fPN lo) (fPN hi)) vx vl vw vc)).cf.at 12)) fnz (fun _ _ h _=>h) kJ (zK (C:=cg (fMD (fPR (fPN lo) (fPN hi)) vx vl vw vc)) 12 kJ)) (fun e W h=>absurd h e))<|oc (zG 36 (decide ((p.1:Int)<((lls LV).length:Int))) kJ iiz (fun e=>zQ [(39,wB ((CU.agg (fMD (fPR (fPN lo) (fPN hi)) vx vl vw vc)).cf.at 12))] ((UF.eq vx).tS) (fmz ⟨fun v W h=>zL (c:=(decide ((p.1:Int)<((lls LV).length:Int)))=true) (f:=wB ((CU.agg (fMD (fPR (fPN lo) (fPN hi)) vx vl vw vc)).cf.at 12)) e h,fnz⟩) (fun _ _ h _=>h) kJ (yL (C:=cg (fMD (fPR (fPN lo) (fPN hi)) vx vl vw vc)) (k:=12) kJ (h:=zKF))) (fun e W h=>absurd h e))<|oc (zG 36 (decide ((p.1:Int)<((lls LV).length:Int))) kJ iiz (fun e=>zQ [(40,(UF.eq vx).tS)] ((uI ((qls X).length:Int)).tS) (fmz ⟨fun v W h=>zL (c:=(decide ((p.1:Int)<((lls LV).length:Int)))=true) (f:=(UF.eq vx).tS) e h,fnz⟩) (fun _ _ h _=>h) kJ (y8 (z:=3) (Cs:=qls X) kJ (fun v W hb h=>(yT hM.x h (s.up hb))) (fun _=>rfl))) (fun e W h=>absurd h e))<|oc (zG 36 (decide ((p.1:Int)<((lls LV).length:Int))) kJ iiz (fun e=>zQ [(38,(uI ((p.1+1:Nat):Int)).tS),(41,(uI ((qls X).length:Int)).tS)] ((uB (decide (((p.1+1:Nat):Int)<((qls X).length:Int)))).tS) (fmz ⟨fun v W h=>zL (c:=(decide ((p.1:Int)<((lls LV).length:Int)))=true) (f:=(uI ((p.1+1:Nat):Int)).tS) e h,fmz ⟨fun v W h=>zL (c:=(decide ((p.1:Int)<((lls LV).length:Int)))=true) (f:=(uI ((qls X).length:Int)).tS) e h,fnz⟩⟩) (fun _ _ h _=>h) kJ (zO .i64 ((p.1+1:Nat):Int) ((qls X).length:Int) (decide (((p.1+1:Nat):Int)<((qls X).length:Int))) iiz iiz rfl rfl)) (fun e W h=>absurd h e))<|oc (yO (decide ((p.1:Int)<((lls LV).length:Int))) iiz (fun e v W h=>jM (zL e h) e) (fun e v W h=>qV h e))<|zD) fun a w11 s=> ?_
   refine zA rfl ?_
   refine StS.cond s ((decide ((p.1:Int)<((lls LV).length:Int)))&&(decide (((p.1+1:Nat):Int)<((qls X).length:Int)))) iiz (fun e=> ?_) (fun e=> ?_)
   ·have hs:p.1<LV.length/\p.1+1<X.length:=by
     rw [zWP] at e
     have h7:=zWI e.1;have h8:=zWI e.2
     rw [hll] at h7;simp at h8;omega
    refine qH (K:= [(43, .u (uB ((decide ((p.1:Int)<((lls LV).length:Int)))&&(decide (((p.1+1:Nat):Int)<((qls X).length:Int)))))),(16, .u (uB (decide ((p.1:Int)<((lls WV).length:Int))))),(9, .u (uB (decide ((p.1:Int)<((qls X).length:Int))))),(4, .u (uI (p.1:Int)))]) [(3, .u (UF.eq (p.2)))] [0,3,8,14,17] 19 ((44, .u (UF.eq (p.2)))::(45, .X (fMD (fPR (fPN lo) (fPN hi)) vx vl vw vc) 12)::(46, .Z (UF.eq vx))::(47, .Z (uI (p.1:Int)))::(48, .Y (fQN (qAt X p.1)))::(49, .Z (fQN (qAt X p.1)))::(50, .X (fMD (fPR (fPN lo) (fPN hi)) vx vl vw vc) 12)::(51, .Z (UF.eq vx))::(52, .Z (uI (p.1:Int)))::(53, .Z (uI ((p.1+1:Nat):Int)))::(54, .Y (fQN (qAt X (p.1+1))))::(55, .Z (fQN (qAt X (p.1+1))))::(56, .X (fMD (fPR (fPN lo) (fPN hi)) vx vl vw vc) 13)::(57, .Z (UF.eq vl))::(58, .Z (uI (p.1:Int)))::(59, .s (wB (wE [(llg [] LV p.1).1]).cf))::(60, .Z (UF.eq (llg [] LV p.1).1))::(61, .Z (uI (p.1:Int)))::(62, .s (SF.row 9 (ces (zEZ X LV p.1)))):: []) hmix (s.keepK _ (fmz ⟨mz3,fmz ⟨.head _,fmz ⟨mz1,fmz ⟨mz2,fmz ⟨mz4,fnz⟩⟩⟩⟩⟩)) kJ
     (oc zB<|oc (zK (C:=cg (fMD (fPR (fPN lo) (fPN hi)) vx vl vw vc)) 12 kJ)<|oc (yL (C:=cg (fMD (fPR (fPN lo) (fPN hi)) vx vl vw vc)) (k:=12) kJ (h:=zKF))<|oc zB<|oc (zZ (z:=3) (Cs:=qls X) (i:=p.1) (C:=CU.agg (fQN (qAt X p.1))) kJ (zAS hk) (fun v W hb h=>(yT hM.x h (s.up hb))) iiz)<|oc (zI (f:=fQN (qAt X p.1)) 3 kJ (hz:=z5 _))<|oc (zK (C:=cg (fMD (fPR (fPN lo) (fPN hi)) vx vl vw vc)) 12 kJ)<|oc (yL (C:=cg (fMD (fPR (fPN lo) (fPN hi)) vx vl vw vc)) (k:=12) kJ (h:=zKF))<|oc zB<|oc (yM .i64 (p.1:Int) 1 ((p.1+1:Nat):Int) iiz iiz (wrap64 _ _ oQ oQ))<|oc (zZ (z:=3) (Cs:=qls X) (i:=p.1+1) (C:=CU.agg (fQN (qAt X (p.1+1)))) kJ (zAS hs.2) (fun v W hb h=>(yT hM.x h (s.up hb))) iiz)<|oc (zI (f:=fQN (qAt X (p.1+1))) 3 kJ (hz:=z5 _))<|oc (zK (C:=cg (fMD (fPR (fPN lo) (fPN hi)) vx vl vw vc)) 13 kJ)<|oc (yL (C:=cg (fMD (fPR (fPN lo) (fPN hi)) vx vl vw vc)) (k:=13) kJ (h:=zRn))<|oc zB<|oc (zZ (z:=1) (Cs:=lls LV) (i:=p.1) (C:=wE [(llg [] LV p.1).1]) kJ (zB7 hs.1) (fun v W hb h=>(yT hM.l h (s.up hb))) iiz)<|oc (jS (C:=(wE [(llg [] LV p.1).1]).cf) kJ iiz zCh)<|oc zB<|oc (zAi zE zTb (fun u0 u1 u2 u3 W hb (h0:QNp (qAt X p.1) u0 W) (h1:QNp (qAt X (p.1+1)) u1 W) (h2:u2=(llg [] LV p.1).1) (h3:u3= .int .i64 (p.1:Int))=>(zJg (m:=m) (i:=p.1) (wD h0 (hB.x _ (qU hk))) (wD h1 (hB.x _ (qU hs.2))) (by rw [show _=(llg [] LV p.1).1 from h2];exact (SF.row 6 (pns (llg [] LV p.1).2)).st _ _ _ (hM.lo _ (qN hs.1)) (s.up hb)) h3 (hB.l _ (qN hs.1)) (hSY p.1 hs.1 hs.2) hm hm0 (hB.nl _ (qN hs.1))).mono (wF zAs)))<|zD) fun Q' hQ a w12 s hr=> ?_
    refine zFw (ces (zEZ X LV p.1)) s0 (s.keepK [(44, .u (UF.eq (p.2))),(43, .u (uB ((decide ((p.1:Int)<((lls LV).length:Int)))&&(decide (((p.1+1:Nat):Int)<((qls X).length:Int)))))),(16, .u (uB (decide ((p.1:Int)<((lls WV).length:Int))))),(9, .u (uB (decide ((p.1:Int)<((qls X).length:Int))))),(4, .u (uI (p.1:Int)))] (fmz ⟨.head _,fmz ⟨mz1,fmz ⟨mz2,fmz ⟨mz3,fmz ⟨mz4,fnz⟩⟩⟩⟩⟩)) hb0 hI.2 rfl kJ kJ kJ (s.fct (.tmp 44)) (hr (_,_) (.tail _ (.tail _ (.tail _ zNw)))) (zFq _) (by have hq1:=fun h=>zEx (X:=X) (k:=p.1) hW4 h;have hq2:=fun h=>zEA (X:=X) (k:=p.1) hL4 h;simp only [zWS,zWJ];first|(have:=hq1 hw;have:=hq2 hs.1;omega)|(have:=hq1 hw;omega)|(have:=hq2 hs.1;omega)) (fun q hq hr=>by rcases zWD.1 hq with rfl|hq;exact hbx1;cases hq) fun v2 a w hI2 s=> ?_
    have s2:=s
    replace s:StS _ _ _ [⟨1,43,CU.agg (fMD (fPR (fPN lo) (fPN hi)) vx vl vw vc),b1,true⟩] _ _ _ _:=s.freeze
    replace s:=s.reb rfl [(63, .u (UF.eq v2)),(44, .u (UF.eq (p.2))),(43, .u (uB ((decide ((p.1:Int)<((lls LV).length:Int)))&&(decide (((p.1+1:Nat):Int)<((qls X).length:Int)))))),(16, .u (uB (decide ((p.1:Int)<((lls WV).length:Int))))),(9, .u (uB (decide ((p.1:Int)<((qls X).length:Int))))),(4, .u (uI (p.1:Int)))] (fmz ⟨.inl (.head _),fmz ⟨.inl mz1,fmz ⟨.inl mz2,fmz ⟨.inl mz3,fmz ⟨.inl mz4,fmz ⟨.inl mz5,fnz⟩⟩⟩⟩⟩⟩)
    refine zS (UF.eq v2) rfl s kJ iiz fun a w s=> ?_
    refine zA rfl (hQ _ _ ?_)
    refine zR 2 ((10, .Z (uI (p.1:Int)))::(11, .u (uI ((p.1+1:Nat):Int))):: []) s kJ
     (oc zB<|oc (yM .i64 (p.1:Int) 1 ((p.1+1:Nat):Int) iiz iiz (wrap64 _ _ oQ oQ))<|zD) fun a w13 s=> ?_
    replace s:=s.drop [4]
    refine zS (uI ((p.1+1:Nat):Int)) rfl s kJ iiz fun a w s=> ?_
    refine zA rfl ?_
    have hbw:=s.below
    replace s:=s2.back (s.keepK [(4, .u (uI ((p.1+1:Nat):Int))),(11, .u (uI ((p.1+1:Nat):Int))),(3, .u (UF.eq v2)),(63, .u (UF.eq v2)),(44, .u (UF.eq (p.2))),(43, .u (uB ((decide ((p.1:Int)<((lls LV).length:Int)))&&(decide (((p.1+1:Nat):Int)<((qls X).length:Int)))))),(16, .u (uB (decide ((p.1:Int)<((lls WV).length:Int))))),(9, .u (uB (decide ((p.1:Int)<((qls X).length:Int)))))] (fmz ⟨.head _,fmz ⟨mz1,fmz ⟨mz2,fmz ⟨mz3,fmz ⟨mz4,fmz ⟨mz5,fmz ⟨mz6,fmz ⟨mz7,fnz⟩⟩⟩⟩⟩⟩⟩⟩)) rfl
    exact ⟨(p.1+1,v2),(by show X.length - (p.1+1)<X.length - p.1;omega),⟨hk,zWC hI2.1 hbw.size,by rw [zTy hw hs];exact hI2.2.below hbw⟩,s.keepK _ (fmz ⟨mz2,fmz ⟨.head _,fnz⟩⟩)⟩
   ·have hs: ¬(p.1<LV.length/\p.1+1<X.length):=by
     rw [zWQ] at e
     rcases e with e|e
     ·have h7:=zWG e;rw [hll] at h7;omega
     ·have h7:=zWG e;simp at h7;omega
    refine zWK ?_
    refine zR 2 ((10, .Z (uI (p.1:Int)))::(11, .u (uI ((p.1+1:Nat):Int))):: []) s kJ
     (oc zB<|oc (yM .i64 (p.1:Int) 1 ((p.1+1:Nat):Int) iiz iiz (wrap64 _ _ oQ oQ))<|zD) fun a w14 s=> ?_
    replace s:=s.drop [4]
    refine zS (uI ((p.1+1:Nat):Int)) rfl s kJ iiz fun a w s=> ?_
    refine zA rfl ?_
    have hbw:=s.below
    replace s:=s0.back (s.keepK [(4, .u (uI ((p.1+1:Nat):Int))),(11, .u (uI ((p.1+1:Nat):Int))),(43, .u (uB ((decide ((p.1:Int)<((lls LV).length:Int)))&&(decide (((p.1+1:Nat):Int)<((qls X).length:Int)))))),(16, .u (uB (decide ((p.1:Int)<((lls WV).length:Int))))),(9, .u (uB (decide ((p.1:Int)<((qls X).length:Int))))),(3, .u (UF.eq (p.2)))] (fmz ⟨.head _,fmz ⟨mz1,fmz ⟨mz2,fmz ⟨mz3,fmz ⟨mz4,fmz ⟨mz5,fnz⟩⟩⟩⟩⟩⟩)) rfl
    exact ⟨(p.1+1,p.2),(by show X.length - (p.1+1)<X.length - p.1;omega),⟨hk,zWC hI.2.1 hbw.size,by rw [zTz hw hs];exact hI.2.2.below hbw⟩,s.keepK _ (fmz ⟨mz5,fmz ⟨.head _,fnz⟩⟩)⟩
 ·have hk:p.1=X.length:=by have h7:=zWG e;have h8:=hI.1;simp at h7;omega
  refine zWL ?_
  refine zWB ?_
  refine zC 2 ((64, .Z (UF.eq (p.2)))::(2, .u (UF.eq (p.2))):: []) hmix s kJ
   (oc zB<|oc zF<|zD) fun a w15 s=> ?_
  refine zA rfl ?_
  refine zWH ?_
  exact StS.resN s s0.below rfl (by rw [s.val (.head _)];have:=(hI.2.2.below s.below).mono hb0;rw [hk] at this;exact this)
end Go.Proofs.Wd

namespace Go.Proofs.Wd
open Tryz
set_option maxRecDepth 100000
set_option maxHeartbeats 1000000
open Go.RowKit Lb
theorem bBL (a1 a2 a3 a4 a5 a6 c1 c2 c3 c4 c5 c6:Wq):prog.built 38 [(0, .agg #[a1,a2,a3,a4,a5,a6]),(1, .agg #[c1,c2,c3,c4,c5,c6])]=some #[a1,a2,a3,a4,a5,a6,c1,c2,c3,c4,c5,c6]:=by kernel_rfl
theorem zTF {f g f' g':UF} {u v:Wq} {W:Wp} (hu:(fPT f g).p u W) (hv:(fPT f' g').p v W): ∃cells,prog.built 38 [(0,u),(1,v)]=some cells/\(fPR (fPT f g) (fPT f' g')).p (.agg cells) W:=by
 obtain ⟨a1,a2,a3,a4,a5,a6,rfl,ha⟩:=zPE hu
 obtain ⟨c1,c2,c3,c4,c5,c6,rfl,hc⟩:=zPE hv
 exact ⟨_,bBL .., [a1,a2,a3,a4,a5,a6], [c1,c2,c3,c4,c5,c6],rfl,ha,hc⟩
theorem zDw (z:Nat) (W:Wp):(SF.row z []).p (.slice none 0 0) W:=⟨none,0,rfl,zWN _,by decide,fun _=>rfl,fun i C hi=>by simp at hi⟩
theorem zFv {x y:Int} (hx:x.natAbs<BB) (hy:y.natAbs<BB):QB ((x:Int):Rat) 1/\QB ((y:Int):Rat) 1:=⟨QB.int (by unfold Bd;rwa [zWM]) dC,QB.int (by unfold Bd;rwa [zWM]) dC⟩
theorem zLY {W:Wp} {l:Wq} (h1:l= .slice none 0 0):Calls prog 38 #[l] W (Ret W (yU (fPR (fPN (((0:Int):Rat),((0:Int):Rat))) (fPN (((0:Int):Rat),((0:Int):Rat)))) (fB false)).tS):=by
 refine z9 [(UF.eq (.slice none 0 0)).tS] func38 rfl kJ ⟨h1,trivial⟩ fun a s=> ?_
 refine zWB ?_
 refine zC 0 [] hmix s kJ
  zD fun a w1 s=> ?_
 refine z4 (CU.len 12) (cs:= [.bool false, .slice none 0 0, .slice none 0 0, .bool false, .slice none 0 0, .slice none 0 0, .bool false, .slice none 0 0, .slice none 0 0, .bool false, .slice none 0 0, .slice none 0 0]) kJ rfl s kJ (fun W=>rfl) rfl fun b2 a w s=> ?_
 refine zS (uB false) rfl s kJ iiz fun a w s=> ?_
 refine zA rfl ?_
 refine zWB ?_
 refine zWB ?_
 refine zC 3 ((7, .Z (UF.eq (.slice none 0 0)))::(8, .Z (uI 0))::(9, .u (uB true)):: []) hmix s kJ
  (oc zB<|oc (zC4 kJ (fun v W h=>⟨none,0,0,h,rfl⟩))<|oc (zO .i64 0 0 true iiz iiz dC rfl)<|zD) fun a w2 s=> ?_
 refine zA rfl ?_
 refine StS.cond s true iiz (fun e=> ?_) (fun e=>by cases e)
 refine zWB ?_
 replace s:=s.drop [3]
 refine zC 3 ((10, .Z (fPN (((0:Int):Rat),((0:Int):Rat))))::(11, .Z (fPN (((0:Int):Rat),((0:Int):Rat))))::(12, .u (fPR (fPN (((0:Int):Rat),((0:Int):Rat))) (fPN (((0:Int):Rat),((0:Int):Rat))))):: []) hmix s kJ
  (oc (zJ zE zHR (fun u0 u1 W hb (h0:u0= .int .i64 0) (h1:u1= .int .i64 0)=>zEn (x:=0) (y:=0) h0 h1 dC dC))<|oc (zJ zE zHR (fun u0 u1 W hb (h0:u0= .int .i64 0) (h1:u1= .int .i64 0)=>zEn (x:=0) (y:=0) h0 h1 dC dC))<|oc (yS (fun u v W (hu:(fPN (((0:Int):Rat),((0:Int):Rat))).p u W) (hv:(fPN (((0:Int):Rat),((0:Int):Rat))).p v W)=>zTF hu hv))<|zD) fun a w3 s=> ?_
 refine zN (CU.agg (fPR (fPN (((0:Int):Rat),((0:Int):Rat))) (fPN (((0:Int):Rat),((0:Int):Rat))))) ((fPR (fPN (((0:Int):Rat),((0:Int):Rat))) (fPN (((0:Int):Rat),((0:Int):Rat)))).tS) rfl s kJ rfl rfl rfl iiz iiz zEG fun a w s=> ?_
 refine zS (uB false) rfl s kJ iiz fun a w s=> ?_
 refine zA rfl ?_
 refine zWH ?_
 exact wK s (CU.agg (fPR (fPN (((0:Int):Rat),((0:Int):Rat))) (fPN (((0:Int):Rat),((0:Int):Rat))))) rfl kJ rfl rfl zJB (fun cs v W h1 h2=>⟨_,_,rfl,h1,h2⟩)
theorem zUf:((((((0:Int):Rat),((0:Int):Rat)):V2).1 - ((((1:Int):Rat),((1:Int):Rat)):V2).1,((((0:Int):Rat),((0:Int):Rat)):V2).2 - ((((1:Int):Rat),((1:Int):Rat)):V2).2):V2)=(((-1:Int):Rat),((-1:Int):Rat)):=by decide+kernel
theorem zUg:((((((0:Int):Rat),((0:Int):Rat)):V2).1+((((1:Int):Rat),((1:Int):Rat)):V2).1,((((0:Int):Rat),((0:Int):Rat)):V2).2+((((1:Int):Rat),((1:Int):Rat)):V2).2):V2)=(((1:Int):Rat),((1:Int):Rat)):=by decide+kernel
theorem zIn {W:Wp} {l:Wq} (h1:l= .slice none 0 0):Calls prog 20 #[l] W (Ret W (fPR (fPN (((-1:Int):Rat),((-1:Int):Rat))) (fPN (((1:Int):Rat),((1:Int):Rat)))).tS):=by
 refine z9 [(UF.eq (.slice none 0 0)).tS] func20 rfl kJ ⟨h1,trivial⟩ fun a s=> ?_
 refine zWB ?_
 refine zC 0 [] hmix s kJ
  zD fun a w1 s=> ?_
 refine z4 (CU.len 12) (cs:= [.bool false, .slice none 0 0, .slice none 0 0, .bool false, .slice none 0 0, .slice none 0 0, .bool false, .slice none 0 0, .slice none 0 0, .bool false, .slice none 0 0, .slice none 0 0]) kJ rfl s kJ (fun W=>rfl) rfl fun b2 a w s=> ?_
 refine zA rfl ?_
 refine zWB ?_
 refine zC 1 ((3, .u (UF.eq (.slice none 0 0))):: []) hmix s kJ
  (oc zF<|zD) fun a w2 s=> ?_
 refine zA rfl ?_
 refine zWB ?_
 refine zWB ?_
 refine zC 1 ((4, .u (uI 0)):: []) hmix s kJ
  (oc zF<|zD) fun a w3 s=> ?_
 refine zA rfl ?_
 refine zWF ?_
 refine q8 (fun k=>True) (fun k=> [(0, .o ((UF.eq (.slice none 0 0)).tS)),(3, .u (UF.eq (.slice none 0 0))),(4, .u (uI 0))]) (fun k=>0) (0:Nat) (trivial) (s.keepK _ (fmz ⟨mz2,fmz ⟨mz1,fmz ⟨.head _,fnz⟩⟩⟩)) fun k a w hx s=> ?_
 refine zWB ?_
 refine zWB ?_
 refine zC 4 ((7, .Z (uI 0))::(8, .Z (UF.eq (.slice none 0 0)))::(9, .Z (uI 0))::(10, .u (uB false)):: []) hmix s kJ
  (oc zB<|oc zB<|oc (zC4 kJ (fun v W h=>⟨none,0,0,h,rfl⟩))<|oc (zO .i64 0 0 false iiz iiz dC rfl)<|zD) fun a w4 s=> ?_
 refine zA rfl ?_
 refine StS.cond s false iiz (fun e=>by cases e) (fun e=> ?_)
 refine zWL ?_
 refine zWB ?_
 refine zC 5 ((20, .Z (UF.eq (.slice none 0 0)))::(21, .Z (yU (fPR (fPN (((0:Int):Rat),((0:Int):Rat))) (fPN (((0:Int):Rat),((0:Int):Rat)))) (uB false)))::(19, .Z (yU (fPR (fPN (((0:Int):Rat),((0:Int):Rat))) (fPN (((0:Int):Rat),((0:Int):Rat)))) (uB false)))::(22, .u (fPR (fPN (((0:Int):Rat),((0:Int):Rat))) (fPN (((0:Int):Rat),((0:Int):Rat)))))::(23, .u (uB false)):: []) hmix s kJ
  (oc zB<|oc (zH zE zUG (fun u0 W hb (h0:u0= .slice none 0 0)=>zLY h0))<|oc zB<|oc (yY (A:=(fPR (fPN (((0:Int):Rat),((0:Int):Rat))) (fPN (((0:Int):Rat),((0:Int):Rat)))).tS) (B:=(uB false).tS) iiz)<|oc (yX (A:=(fPR (fPN (((0:Int):Rat),((0:Int):Rat))) (fPN (((0:Int):Rat),((0:Int):Rat)))).tS) (B:=(uB false).tS) iiz)<|zD) fun a w5 s=> ?_
 refine z4 (CU.len 12) (cs:= [.bool false, .slice none 0 0, .slice none 0 0, .bool false, .slice none 0 0, .slice none 0 0, .bool false, .slice none 0 0, .slice none 0 0, .bool false, .slice none 0 0, .slice none 0 0]) kJ rfl s kJ (fun W=>rfl) rfl fun b5 a w s=> ?_
 refine zN (CU.agg (fPR (fPN (((0:Int):Rat),((0:Int):Rat))) (fPN (((0:Int):Rat),((0:Int):Rat))))) ((fPR (fPN (((0:Int):Rat),((0:Int):Rat))) (fPN (((0:Int):Rat),((0:Int):Rat)))).tS) rfl s kJ rfl rfl rfl iiz iiz zEG fun a w s=> ?_
 refine zS (uB false) rfl s kJ iiz fun a w s=> ?_
 refine zA rfl ?_
 refine zWB ?_
 refine yC [] 9 ((24, .X (fPR (fPN (((0:Int):Rat),((0:Int):Rat))) (fPN (((0:Int):Rat),((0:Int):Rat)))) 0)::(25, .Z (fPN (((0:Int):Rat),((0:Int):Rat))))::(26, .Z (fPN (((1:Int):Rat),((1:Int):Rat))))::(27, .Z (fPN (((-1:Int):Rat),((-1:Int):Rat))))::(28, .X (fPR (fPN (((0:Int):Rat),((0:Int):Rat))) (fPN (((0:Int):Rat),((0:Int):Rat)))) 6)::(29, .Z (fPN (((0:Int):Rat),((0:Int):Rat))))::(30, .Z (fPN (((1:Int):Rat),((1:Int):Rat))))::(31, .Z (fPN (((1:Int):Rat),((1:Int):Rat))))::(32, .u (fPR (fPN (((-1:Int):Rat),((-1:Int):Rat))) (fPN (((1:Int):Rat),((1:Int):Rat))))):: []) hmix s kJ
  (oc (zK (C:=cg (fPR (fPN (((0:Int):Rat),((0:Int):Rat))) (fPN (((0:Int):Rat),((0:Int):Rat))))) 0 kJ)<|oc (yB (C:=cg (fPR (fPN (((0:Int):Rat),((0:Int):Rat))) (fPN (((0:Int):Rat),((0:Int):Rat))))) (k:=0) 6 kJ (h:=zSD))<|oc (zJ zE zHR (fun u0 u1 W hb (h0:u0= .int .i64 1) (h1:u1= .int .i64 1)=>zEn (x:=1) (y:=1) h0 h1 dC dC))<|oc (zJ zE zUF (fun u0 u1 W hb (h0:(fPN (((0:Int):Rat),((0:Int):Rat))).p u0 W) (h1:(fPN (((1:Int):Rat),((1:Int):Rat))).p u1 W)=>(zQQ (m:=1) (p:=(((0:Int):Rat),((0:Int):Rat))) (q:=(((1:Int):Rat),((1:Int):Rat))) (zCy (p:=(((0:Int):Rat),((0:Int):Rat))) (m:=1) ((zFv (x:=0) (y:=0) dC dC).1.mono (by first|omega|decide)) ((zFv (x:=0) (y:=0) dC dC).2.mono (by first|omega|decide)) h0) (zCy (p:=(((1:Int):Rat),((1:Int):Rat))) (m:=1) ((zFv (x:=1) (y:=1) dC dC).1.mono (by first|omega|decide)) ((zFv (x:=1) (y:=1) dC dC).2.mono (by first|omega|decide)) h1) dC dC).mono (wF (fun v W h=>by rw [zUf] at h;exact h))))<|oc (zK (C:=cg (fPR (fPN (((0:Int):Rat),((0:Int):Rat))) (fPN (((0:Int):Rat),((0:Int):Rat))))) 6 kJ)<|oc (yB (C:=cg (fPR (fPN (((0:Int):Rat),((0:Int):Rat))) (fPN (((0:Int):Rat),((0:Int):Rat))))) (k:=6) 6 kJ (h:=zSC))<|oc (zJ zE zHR (fun u0 u1 W hb (h0:u0= .int .i64 1) (h1:u1= .int .i64 1)=>zEn (x:=1) (y:=1) h0 h1 dC dC))<|oc (zJ zE zUE (fun u0 u1 W hb (h0:(fPN (((0:Int):Rat),((0:Int):Rat))).p u0 W) (h1:(fPN (((1:Int):Rat),((1:Int):Rat))).p u1 W)=>(zQS (m:=1) (p:=(((0:Int):Rat),((0:Int):Rat))) (q:=(((1:Int):Rat),((1:Int):Rat))) (zCy (p:=(((0:Int):Rat),((0:Int):Rat))) (m:=1) ((zFv (x:=0) (y:=0) dC dC).1.mono (by first|omega|decide)) ((zFv (x:=0) (y:=0) dC dC).2.mono (by first|omega|decide)) h0) (zCy (p:=(((1:Int):Rat),((1:Int):Rat))) (m:=1) ((zFv (x:=1) (y:=1) dC dC).1.mono (by first|omega|decide)) ((zFv (x:=1) (y:=1) dC dC).2.mono (by first|omega|decide)) h1) (zFv (x:=0) (y:=0) dC dC) (zFv (x:=1) (y:=1) dC dC) dC).mono (wF (fun v W h=>by rw [zUg] at h;exact h))))<|oc (yS (fun u v W (hu:(fPN (((-1:Int):Rat),((-1:Int):Rat))).p u W) (hv:(fPN (((1:Int):Rat),((1:Int):Rat))).p v W)=>zTF hu hv))<|zD) fun Q' hQ a w6 s=> ?_
 refine zN (CU.agg (fPR (fPN (((-1:Int):Rat),((-1:Int):Rat))) (fPN (((1:Int):Rat),((1:Int):Rat))))) ((fPR (fPN (((-1:Int):Rat),((-1:Int):Rat))) (fPN (((1:Int):Rat),((1:Int):Rat)))).tS) rfl s kJ rfl rfl rfl iiz iiz zEG fun a w s=> ?_
 refine zA rfl (hQ _ _ ?_)
 refine zWH ?_
 exact wI s (CU.agg (fPR (fPN (((-1:Int):Rat),((-1:Int):Rat))) (fPN (((1:Int):Rat),((1:Int):Rat))))) rfl kJ rfl rfl zJB (fun cs W h=>h)
theorem zIo {W:Wp} {l:Wq} (h1:l= .slice none 0 0):Calls prog 43 #[l] W (Ret W (UF.eq (.slice none 0 0)).tS):=by
 refine z9 [(UF.eq (.slice none 0 0)).tS] func43 rfl kJ ⟨h1,trivial⟩ fun a s=> ?_
 refine zWB ?_
 refine zC 1 ((2, .u (UF.eq (.slice none 0 0))):: []) hmix s kJ
  (oc zF<|zD) fun a w1 s=> ?_
 refine zA rfl ?_
 refine zWB ?_
 refine zC 1 ((3, .u (UF.eq (.slice none 0 0))):: []) hmix s kJ
  (oc zF<|zD) fun a w2 s=> ?_
 refine zA rfl ?_
 refine zWB ?_
 refine zWB ?_
 refine zC 1 ((4, .u (uI 0)):: []) hmix s kJ
  (oc zF<|zD) fun a w3 s=> ?_
 refine zA rfl ?_
 refine zWF ?_
 refine q8 (fun k=>True) (fun k=> [(0, .o ((UF.eq (.slice none 0 0)).tS)),(3, .u (UF.eq (.slice none 0 0))),(4, .u (uI 0))]) (fun k=>0) (0:Nat) (trivial) (s.keepK _ (fmz ⟨mz3,fmz ⟨mz1,fmz ⟨.head _,fnz⟩⟩⟩)) fun k a w hx s=> ?_
 refine zWB ?_
 refine zWB ?_
 refine zC 4 ((9, .Z (uI 0))::(10, .Z (UF.eq (.slice none 0 0)))::(11, .Z (uI 0))::(12, .u (uB false)):: []) hmix s kJ
  (oc zB<|oc zB<|oc (zC4 kJ (fun v W h=>⟨none,0,0,h,rfl⟩))<|oc (zO .i64 0 0 false iiz iiz dC rfl)<|zD) fun a w4 s=> ?_
 refine zA rfl ?_
 refine StS.cond s false iiz (fun e=>by cases e) (fun e=> ?_)
 refine zWL ?_
 refine zWB ?_
 refine zC 2 ((50, .Z (UF.eq (.slice none 0 0)))::(2, .u (UF.eq (.slice none 0 0))):: []) hmix s kJ
  (oc zB<|oc zF<|zD) fun a w5 s=> ?_
 refine zA rfl ?_
 refine zWH ?_
 exact wJ s (t:=2) rfl (fun v W h=>h)
theorem zIu {x:Rat} {m:Nat} (h:QB x m): ∀y,y∈zBZ [] x->QB y m:=fun y hy=>by
 rcases zGg hy with e|e
 ·rw [e];exact h
 ·cases e
end Go.Proofs.Wd

namespace Go.Proofs.Wd
open Tryz
set_option maxRecDepth 100000
set_option maxHeartbeats 1000000
open Go.RowKit Lb
def wC (b:Nat) (z:Nat) (Cs:List CU):SF:=⟨fun v w=>(SF.row z Cs).p v w/\ ∀k,v.ownBlock=some k->b<=k,fun _ _ _ h hb=>⟨(SF.row z Cs).st _ _ _ h.1 hb,h.2⟩⟩
def zTR (blo bhi:V2):List V2:=zH5 (zH5 [] (blo.2,blo.2)) (bhi.2,bhi.2)
def ofV (lo hi:Rat) (blo bhi:V2):List V2:=if decide (qsg lo hi≥0)=true then [] else zTR blo bhi
theorem zT7 {lo hi:Rat} {blo bhi:V2} (h:decide (qsg lo hi≥0)=true):ofV lo hi blo bhi= []:=if_pos h
theorem zT8 {lo hi:Rat} {blo bhi:V2} (h:decide (qsg lo hi≥0)=false):ofV lo hi blo bhi=zTR blo bhi:=if_neg (by rw [h];decide)
theorem zOt {L:List V2} {p x:V2} (h:x∈zH5 L p):x=p∨x∈L:=by
 unfold zH5 at h
 split at h
 ·exact .inr h
 ·rw [zWU,zWU,zWE] at h
  rcases h with (h|h)|h
  ·exact .inr (zWV h)
  ·exact .inl h
  ·exact .inr (List.mem_of_mem_drop h)
theorem zOv {x:V2} {m:Nat} (h:QB x.1 m/\QB x.2 m): ∀y,y∈zH5 [] x->QB y.1 m/\QB y.2 m:=fun y hy=>by
 rcases zOt hy with e|e
 ·rw [e];exact h
 ·cases e
theorem zLW {m:Nat} {W:Wp} {u v z l:Wq} {lo hi:Rat} {blo bhi:V2} (h1:RVp m lo u W) (h2:RVp m hi v W) (h3:(fPR (fPN blo) (fPN bhi)).p z W) (h4:l= .slice none 0 0) (hlo:QB blo.1 m/\QB blo.2 m) (hhi:QB bhi.1 m/\QB bhi.2 m) (hm:m<=100) (hm0:0<m):Calls prog 44 #[u,v,z,l] W (Ret W (wC W.heap.size 6 (pns (ofV lo hi blo bhi)))):=by
 refine z9 [(fRV m lo).tS,(fRV m hi).tS,(fPR (fPN blo) (fPN bhi)).tS,(UF.eq (.slice none 0 0)).tS] func44 rfl kJ ⟨h1,h2,h3,h4,trivial⟩ fun a s=> ?_
 replace s:=s.renew [(0, .u (fRV m lo)),(1, .u (fRV m hi)),(2, .u (fPR (fPN blo) (fPN bhi))),(3, .u (UF.eq (.slice none 0 0)))] (fmz ⟨.inr ⟨_,rfl, .head _⟩,fmz ⟨.inr ⟨_,rfl,mz1⟩,fmz ⟨.inr ⟨_,rfl,mz2⟩,fmz ⟨.inr ⟨_,rfl,mz3⟩,fnz⟩⟩⟩⟩)
 refine zWB ?_
 refine zC 0 [] hmix s kJ
  zD fun a w1 s=> ?_
 refine yD (CU.agg (fRV m lo)) rfl s kJ (fun v W h=>y6 h) fun b4 a w s=> ?_
 refine yD (CU.agg (fRV m hi)) rfl s kJ (fun v W h=>y6 h) fun b5 a w s=> ?_
 refine yD (CU.agg (fPR (fPN blo) (fPN bhi))) rfl s kJ (fun v W h=>zFN h) fun b6 a w s=> ?_
 refine zS (UF.eq (.slice none 0 0)) rfl s kJ iiz fun a w s=> ?_
 refine zA rfl ?_
 refine zWB ?_
 refine zWB ?_
 refine zC 4 ((15, .Z (fRV m lo))::(16, .Z (fRV m hi))::(17, .Z (uI (qsg lo hi)))::(18, .u (uB (decide (qsg lo hi≥0)))):: []) hmix s kJ
  (oc (zI (f:=fRV m lo) 3 kJ (hz:=zT _ _))<|oc (zI (f:=fRV m hi) 3 kJ (hz:=zT _ _))<|oc (zJ zE zJX (fun u0 u1 W hb (h0:RVp m lo u0 W) (h1:RVp m hi u1 W)=>zAZ (m:=m) h0 h1 oQ hm0))<|oc (zO .i64 (qsg lo hi) 0 (decide (qsg lo hi≥0)) iiz iiz rfl rfl)<|zD) fun a w2 s=> ?_
 refine zA rfl ?_
 refine StS.cond s (decide (qsg lo hi≥0)) iiz (fun e=> ?_) (fun e=> ?_)
 ·refine zWB ?_
  replace s:=s.drop [8]
  refine zC 1 ((8, .u (UF.eq (.slice none 0 0))):: []) hmix s kJ
   (oc zF<|zD) fun a w3 s=> ?_
  refine zA rfl ?_
  refine zWH ?_
  exact StS.resN s (Below.refl _ _) (t:=8) rfl (by rw [s.val (.head _),zT7 e];exact ⟨zDw 6 _,fun k hk=>by cases hk⟩)
 ·have hc:=e
  refine zWK ?_
  refine zWB ?_
  refine zC 1 ((9, .u (UF.eq (.slice none 0 0))):: []) hmix s kJ
   (oc zF<|zD) fun a w4 s=> ?_
  refine zA rfl ?_
  refine zWB ?_
  refine qH (K:= [(18, .u (uB (decide (qsg lo hi≥0)))),(8, .u (UF.eq (.slice none 0 0))),(0, .u (fRV m lo)),(1, .u (fRV m hi)),(2, .u (fPR (fPN blo) (fPN bhi))),(3, .u (UF.eq (.slice none 0 0)))]) [(9, .u (UF.eq (.slice none 0 0)))] [0] 11 ((19, .Z (UF.eq (.slice none 0 0)))::(20, .X (fPR (fPN blo) (fPN bhi)) 0)::(21, .X (fPR (fPN blo) (fPN bhi)) 3)::(22, .Z (fQN ((blo).2)))::(23, .Z (fQN ((blo).2)))::(24, .X (fPR (fPN blo) (fPN bhi)) 0)::(25, .X (fPR (fPN blo) (fPN bhi)) 3)::(26, .Z (fQN ((blo).2)))::(27, .Z (fQN ((blo).2)))::(28, .Z (fPN ((blo).2,(blo).2)))::(29, .s (wC W.heap.size 6 (pns (zH5 [] (blo.2,blo.2))))):: []) hmix (s.keepK _ (fmz ⟨.head _,fmz ⟨mz1,fmz ⟨mz2,fmz ⟨mz3,fmz ⟨mz4,fmz ⟨mz5,fmz ⟨mz6,fnz⟩⟩⟩⟩⟩⟩⟩)) kJ
   (oc zB<|oc (zK (C:=cg (fPR (fPN blo) (fPN bhi))) 0 kJ)<|oc (yE (C:=cg (fPR (fPN blo) (fPN bhi))) 0 3 kJ)<|oc (yB (C:=cg (fPR (fPN blo) (fPN bhi))) (k:=3) 3 kJ (h:=zOy))<|oc (zH zE zCa (fun u0 W hb (h0:QNp ((blo).2) u0 W)=>jA (m:=m) (wD h0 (hlo).2) oQ))<|oc (zK (C:=cg (fPR (fPN blo) (fPN bhi))) 0 kJ)<|oc (yE (C:=cg (fPR (fPN blo) (fPN bhi))) 0 3 kJ)<|oc (yB (C:=cg (fPR (fPN blo) (fPN bhi))) (k:=3) 3 kJ (h:=zOy))<|oc (zH zE zCa (fun u0 W hb (h0:QNp ((blo).2) u0 W)=>jA (m:=m) (wD h0 (hlo).2) oQ))<|oc (yS (fun u v W (hu:QNp ((blo).2) u W) (hv:QNp ((blo).2) v W)=>zVf (jZ _) (jZ _) hu hv))<|oc (zJ zE zS4 (fun u0 u1 W hb (h0:u0= .slice none 0 0) (h1:(fPN ((blo).2,(blo).2)).p u1 W)=>(zHj (m:=m) (L:= []) (x:=((blo).2,(blo).2)) (by rw [show u0=_ from h0];exact zDw 6 _) h1 ⟨hlo.2,hlo.2⟩ (fun y hy=>by cases hy) oQ hm0 dC).mono (wF (fun v w h=>⟨h.1,fun k hk=>by rcases h.2 with e|e;rw [e,show u0=_ from h0] at hk;cases hk;exact zWC (s.up hb).size (e k hk)⟩))))<|zD) fun Q' hQ a w5 s hr=> ?_
  obtain ⟨v29,e29⟩: ∃v,a.tmps.getD 29 undef=v:=⟨_,rfl⟩
  have hv29:(wC W.heap.size 6 (pns (zH5 [] (blo.2,blo.2)))).p v29 w5:=e29▸(hr (_,_) zGp)
  replace s:=s.learn 29 v29 e29
  have hbA:=s.below
  replace s:StS _ _ _ [⟨6,38,CU.agg (fPR (fPN blo) (fPN bhi)),b6,true⟩,⟨5,27,CU.agg (fRV m hi),b5,true⟩,⟨4,27,CU.agg (fRV m lo),b4,true⟩] _ _ _ _:=s.freeze
  replace s:=s.reb rfl [(29, .u (UF.eq v29)),(18, .u (uB (decide (qsg lo hi≥0)))),(8, .u (UF.eq (.slice none 0 0))),(0, .u (fRV m lo)),(1, .u (fRV m hi)),(2, .u (fPR (fPN blo) (fPN bhi))),(3, .u (UF.eq (.slice none 0 0)))] (fmz ⟨.inl (.head _),fmz ⟨.inl mz1,fmz ⟨.inl mz2,fmz ⟨.inl mz3,fmz ⟨.inl mz4,fmz ⟨.inl mz5,fmz ⟨.inl mz6,fnz⟩⟩⟩⟩⟩⟩⟩)
  replace s:=s.drop [9]
  refine zS (UF.eq v29) rfl s kJ iiz fun a w s=> ?_
  refine zA rfl (hQ _ _ ?_)
  refine zWB ?_
  refine qH (K:= [(29, .u (UF.eq v29)),(18, .u (uB (decide (qsg lo hi≥0)))),(8, .u (UF.eq (.slice none 0 0))),(0, .u (fRV m lo)),(1, .u (fRV m hi)),(2, .u (fPR (fPN blo) (fPN bhi))),(3, .u (UF.eq (.slice none 0 0)))]) [(9, .u (UF.eq v29))] [0] 11 ((30, .Z (UF.eq v29))::(31, .X (fPR (fPN blo) (fPN bhi)) 6)::(32, .X (fPR (fPN blo) (fPN bhi)) 9)::(33, .Z (fQN ((bhi).2)))::(34, .Z (fQN ((bhi).2)))::(35, .X (fPR (fPN blo) (fPN bhi)) 6)::(36, .X (fPR (fPN blo) (fPN bhi)) 9)::(37, .Z (fQN ((bhi).2)))::(38, .Z (fQN ((bhi).2)))::(39, .Z (fPN ((bhi).2,(bhi).2)))::(40, .s (wC W.heap.size 6 (pns (zTR blo bhi)))):: []) hmix (s.keepK _ (fmz ⟨.head _,fmz ⟨mz1,fmz ⟨mz2,fmz ⟨mz3,fmz ⟨mz4,fmz ⟨mz5,fmz ⟨mz6,fmz ⟨mz7,fnz⟩⟩⟩⟩⟩⟩⟩⟩)) kJ
   (oc zB<|oc (zK (C:=cg (fPR (fPN blo) (fPN bhi))) 6 kJ)<|oc (yE (C:=cg (fPR (fPN blo) (fPN bhi))) 6 3 kJ)<|oc (yB (C:=cg (fPR (fPN blo) (fPN bhi))) (k:=9) 3 kJ (h:=zOx))<|oc (zH zE zCa (fun u0 W hb (h0:QNp ((bhi).2) u0 W)=>jA (m:=m) (wD h0 (hhi).2) oQ))<|oc (zK (C:=cg (fPR (fPN blo) (fPN bhi))) 6 kJ)<|oc (yE (C:=cg (fPR (fPN blo) (fPN bhi))) 6 3 kJ)<|oc (yB (C:=cg (fPR (fPN blo) (fPN bhi))) (k:=9) 3 kJ (h:=zOx))<|oc (zH zE zCa (fun u0 W hb (h0:QNp ((bhi).2) u0 W)=>jA (m:=m) (wD h0 (hhi).2) oQ))<|oc (yS (fun u v W (hu:QNp ((bhi).2) u W) (hv:QNp ((bhi).2) v W)=>zVf (jZ _) (jZ _) hu hv))<|oc (zJ zE zS4 (fun u0 u1 W hb (h0:u0=v29) (h1:(fPN ((bhi).2,(bhi).2)).p u1 W)=>(zHj (m:=m) (L:=(zH5 [] (blo.2,blo.2))) (x:=((bhi).2,(bhi).2)) (yT hv29.1 h0 (s.up hb)) h1 ⟨hhi.2,hhi.2⟩ (zOv (x:=((blo).2,(blo).2)) ⟨hlo.2,hlo.2⟩) oQ hm0 (by have:=zOu [] ((blo).2,(blo).2);simp at this;omega)).mono (wF (fun v w h=>⟨h.1,fun k hk=>by rcases h.2 with e|e;rw [e,show u0=_ from h0] at hk;exact hv29.2 k hk;exact zWC hbA.size (zWC (s.up hb).size (e k hk))⟩))))<|zD) fun Q' hQ a w6 s hr=> ?_
  obtain ⟨v40,e40⟩: ∃v,a.tmps.getD 40 undef=v:=⟨_,rfl⟩
  have hv40:(wC W.heap.size 6 (pns (zTR blo bhi))).p v40 w6:=e40▸(hr (_,_) zGp)
  replace s:=s.learn 40 v40 e40
  have hbB:=s.below
  replace s:StS _ _ _ [⟨6,38,CU.agg (fPR (fPN blo) (fPN bhi)),b6,true⟩,⟨5,27,CU.agg (fRV m hi),b5,true⟩,⟨4,27,CU.agg (fRV m lo),b4,true⟩] _ _ _ _:=s.freeze
  replace s:=s.reb rfl [(40, .u (UF.eq v40)),(29, .u (UF.eq v29)),(18, .u (uB (decide (qsg lo hi≥0)))),(8, .u (UF.eq (.slice none 0 0))),(0, .u (fRV m lo)),(1, .u (fRV m hi)),(2, .u (fPR (fPN blo) (fPN bhi))),(3, .u (UF.eq (.slice none 0 0)))] (fmz ⟨.inl (.head _),fmz ⟨.inl mz1,fmz ⟨.inl mz2,fmz ⟨.inl mz3,fmz ⟨.inl mz4,fmz ⟨.inl mz5,fmz ⟨.inl mz6,fmz ⟨.inl mz7,fnz⟩⟩⟩⟩⟩⟩⟩⟩)
  replace s:=s.drop [9]
  refine zS (UF.eq v40) rfl s kJ iiz fun a w s=> ?_
  refine zA rfl (hQ _ _ ?_)
  refine zWB ?_
  refine zWB ?_
  refine zC 1 ((10, .u (uI 0)):: []) hmix s kJ
   (oc zF<|zD) fun a w7 s=> ?_
  refine zA rfl ?_
  refine zWF ?_
  refine q8 (fun k=>True) (fun k=> [(3, .u (UF.eq (.slice none 0 0))),(9, .u (UF.eq v40)),(10, .u (uI 0))]) (fun k=>0) (0:Nat) (trivial) (s.keepK _ (fmz ⟨mz9,fmz ⟨mz1,fmz ⟨.head _,fnz⟩⟩⟩)) fun k a w hx s=> ?_
  refine zWB ?_
  refine zWB ?_
  refine zC 4 ((41, .Z (uI 0))::(42, .Z (UF.eq (.slice none 0 0)))::(43, .Z (uI 0))::(44, .u (uB false)):: []) hmix s kJ
   (oc zB<|oc zB<|oc (zC4 kJ (fun v W h=>⟨none,0,0,h,rfl⟩))<|oc (zO .i64 0 0 false iiz iiz dC rfl)<|zD) fun a w8 s=> ?_
  refine zA rfl ?_
  refine StS.cond s false iiz (fun e=>by cases e) (fun e=> ?_)
  refine zWL ?_
  refine zWB ?_
  refine zC 2 ((90, .Z (UF.eq v40))::(8, .u (UF.eq v40)):: []) hmix s kJ
   (oc zB<|oc zF<|zD) fun a w9 s=> ?_
  refine zA rfl ?_
  refine zWH ?_
  exact StS.resN s (hbA.trans (hbB.mono hbA.size)) (t:=8) rfl (by rw [s.val (.head _),zT8 hc];exact (wC _ 6 _).st _ _ _ hv40 s.below)
end Go.Proofs.Wd

namespace Go.Proofs.Wd
open Tryz
set_option maxRecDepth 100000
set_option maxHeartbeats 1000000
open Go.RowKit Lb
theorem zG7 {z:Nat} {Cs:List CU} {v:Wq} {W W':Wp} {r:Option Nat} (h:(SF.row z Cs).p v W) (hg:W.grownBy W' r) (hk:zAo W W') (hne:Cs= []∨ ∀k,v.ownBlock=some k->r≠some k):(SF.row z Cs).p v W':=by
 obtain ⟨A,c,rfl,h2,h3,h4,h5⟩:=h
 refine ⟨A,c,rfl,h2,h3,h4,fun i C hi=> ?_⟩
 obtain ⟨b,o,cs,rfl,g2,g3⟩:=h5 i C hi
 rcases hne with rfl|hne
 ·cases hi
 refine ⟨b,o,cs,rfl,fun j u hj=> ?_,C.us _ _ _ g3 hk⟩
 have h1:=g2 j u hj
 exact (World.cell?_of_block (a:=⟨b,o+i*z+j,none⟩) (hg.block b (World.block_lt_of_cell? W _ h1) (fun e=>hne b rfl e.symm))).trans h1
theorem zSd {z:Nat} {Cs:List CU} {v:Wq} {W:Wp} (hz:0<z) (hD: ∀C,C∈Cs->CU.ok z C) (h:(SF.row z Cs).p v W):Cs= []∨ ∀k,v.ownBlock=some k->k<W.heap.size:=by
 obtain ⟨A,c,rfl,h2,h3,h4,h5⟩:=h
 cases Cs with
 |nil=>exact .inl rfl
 | cons C Cs=>
  refine .inr fun k hk=> ?_
  obtain ⟨b,o,cs,rfl,g2,g3⟩:=h5 0 C rfl
  have hl:=(hD C (zWY ..) cs W g3).1
  cases cs with
  |nil=>simp at hl;omega
  |cons u cs=>
   have h1:=g2 0 u rfl
   have h2:=World.block_lt_of_cell? W _ h1
   cases hk
   exact h2
structure LLG {α:Type} (b0 z:Nat) (C:α->List CU) (L:List (Value×α)) (v:Value) (W:World):Prop where
 ok:zNu z C L W
 lo: ∀x,x∈L-> ∀k,x.1.ownBlock=some k->b0<=k
 ap: ∀x,x∈L->C x.2= []∨ ∀k,x.1.ownBlock=some k->v.ownBlock≠some k
section
variable {α:Type} {b0 z:Nat} {C:α->List CU} {L:List (Wq×α)} {v:Wq} {W W':Wp}
theorem LLG.nil (b0 z:Nat) (C:α->List CU) (v:Wq) (W:Wp):LLG b0 z C [] v W:=⟨zNu.nil z C W,(fun x hx=>by cases hx),(fun x hx=>by cases hx)⟩
theorem LLG.below (h:LLG b0 z C L v W) (hb:Below W.heap.size W W'):LLG b0 z C L v W':=⟨h.ok.below hb,h.lo,h.ap⟩
theorem LLG.out (h:LLG b0 z C L v W) {b:Nat} (hb:b<=b0): ∀x,x∈L->(wC b z (C x.2)).p x.1 W:=fun x hx=>⟨h.ok x hx,fun k hk=>zWC hb (h.lo x hx k hk)⟩
theorem LLG.app {v' u:Wq} {y:α} {b:Nat} (h:LLG b0 z C L v W) (hb0:b0<=b) (hC: ∀y c,c∈C y->CU.ok z c) (hz:0<z) (hu:(wC b z (C y)).p u W) (hlt: ∀k,v.ownBlock=some k->k<b) (hg:W.grownBy W' v.ownBlock) (hk:zAo W W') (hv:v'.ownBlock=v.ownBlock∨v'.ownBlock=some W.heap.size):LLG b0 z C (L++ [(u,y)]) v' W':=by
 have h1: ∀x,x∈L++ [(u,y)]->(SF.row z (C x.2)).p x.1 W/\(C x.2= []∨ ∀k,x.1.ownBlock=some k->v.ownBlock≠some k):=fun x hx=>by
  rcases zWU.1 hx with hx|hx
  ·exact ⟨h.ok x hx,h.ap x hx⟩
  ·rw [zWE.1 hx]
   exact ⟨hu.1, .inr fun k hk e=>Nat.lt_irrefl _ (Nat.lt_of_lt_of_le (hlt k e) (hu.2 k hk))⟩
 refine ⟨fun x hx=>zG7 (h1 x hx).1 hg hk (h1 x hx).2,fun x hx=> ?_,fun x hx=> ?_⟩
 ·rcases zWU.1 hx with hx|hx
  ·exact h.lo x hx
  ·rw [zWE.1 hx]
   exact fun k hk=>zWC hb0 (hu.2 k hk)
 rcases hv with e|e
 ·rw [e];exact (h1 x hx).2
 ·rw [e]
  exact (zSd hz (hC _) (h1 x hx).1).imp id fun h2 k hk e2=>by
   have:=h2 k hk
   cases e2
   omega
end
def fLB {α:Type} (b z:Nat) (C:α->List CU) (xs:List α):SF:=⟨fun v W=> ∃L:List (Wq×α),L.map (·.2)=xs/\(wC b 1 (lls L)).p v W/\ ∀x,x∈L->(wC b z (C x.2)).p x.1 W,fun _ _ _ ⟨L,e,h1,h2⟩ hb=>⟨L,e,(wC b 1 _).st _ _ _ h1 hb,fun x hx=>(wC b z _).st _ _ _ (h2 x hx) hb⟩⟩
def zS1 (f:SF):SF:=⟨fun v W=> ∃u,(SF.row 1 [wE [u]]).p v W/\f.p u W,fun _ _ _ ⟨u,h1,h2⟩ hb=>⟨u,(SF.row 1 _).st _ _ _ h1 hb,f.st _ _ _ h2 hb⟩⟩
theorem zLZ {W:Wp} {e:TypeId} {z:Nat} {Cs:List CU} {u:Wq} {f:SF} (hf:(SF.row z Cs).p u W) (hu:f.p u W):(zS1 f).p (.slice (some ⟨W.heap.size,0,none⟩) 1 1) (W.alloc (.cells #[u] e)):=by
 refine ⟨u, ?_,f.st _ _ _ hu (zCd W _)⟩
 have:=zGb (W:=W) (e:=e) (z:=1) (Cs:= [wE [u]]) (cs:= [u]) (by simp) (fun i C hi=>by
  have hlt:=(zW1.1 hi).1
  simp at hlt
  subst hlt
  obtain rfl:wE [u]=C:=by simpa using hi
  exact ⟨[u],fun j x hj=>by simpa using hj,rfl⟩)
 simpa using this
theorem zR7 {W:Wp} {u:Wq} {b z:Nat} {Cs:List CU} (hu:(wC b z Cs).p u W): ∃e cs,yA prog 40 1 [(0,u)]=some (e,cs)/\(zS1 (wC b z Cs)).p (.slice (some ⟨W.heap.size,0,none⟩) 1 1) (W.alloc (.cells cs e)):=by
 obtain ⟨A,n,c,e⟩:=zBH hu.1
 refine ⟨_,_,by rw [e];exact sRr _ _ _, ?_⟩
 rw [<-e]
 exact zLZ hu.1 hu
theorem zR8 {W:Wp} {u:Wq} {b z:Nat} {Cs:List CU} (hu:(wC b z Cs).p u W): ∃e cs,yA prog 39 1 [(0,u)]=some (e,cs)/\(zS1 (wC b z Cs)).p (.slice (some ⟨W.heap.size,0,none⟩) 1 1) (W.alloc (.cells cs e)):=by
 obtain ⟨A,n,c,e⟩:=zBH hu.1
 refine ⟨_,_,by rw [e];exact sRl _ _ _, ?_⟩
 rw [<-e]
 exact zLZ hu.1 hu
section
variable {S:Nat->Prop} {F:Fence} {m:Nat} {P:Program} {Q:Exit->Act->Wp->Prop} {w0 w1:Wp} {K K0:List (Nat×KF)} {B B0:List Bx} {n n0:Nat} {ds0:List Deferred} {a a0:Act} {w:Wp}
theorem zI3 {ops:Array Oper} {k d:Nat} {x y:Operand} {t ty:TypeId} {pos:String} {aft:Array Edge} {e:TypeId} {z base:Nat} {v:Wq} {Cs:List CU} (Ds:List CU) (h0:StS S w0 K0 B0 n0 ds0 a0 w1) (h:St w1 K B n [] a w) (hb0:w0.heap.size<=base) (hr:base<=w1.heap.size/\zAW w1 base e z v Cs)
  (ho:ops[k]?=some ⟨some d, .call ⟨.builtin .append,#[x,y],#[t,t]⟩,ty,pos,aft,none⟩) (happ:zHZ P t=some (e,z,true)) (hf:zAD K B n d=true) (hu:(K.all fun q=>zSX q.2)=true)
  (hx:a.eval x=v) (hy:(SF.row z Ds).p (a.eval y) w) (hD: ∀C,C∈Ds->CU.ok z C) (hsz:Cs.length+Ds.length<=140000000000) (hB: ∀q,q∈B->q.r=true->q.b<base)
  (fin: ∀v' a' w',(base<=w'.heap.size/\zAW w' base e z v' (Cs++Ds))->zAo w w'->w.grownBy w' v.ownBlock->(v'.ownBlock=v.ownBlock∨v'.ownBlock=some w.heap.size)->StS S w0 ((d, .u (UF.eq v'))::K) B n [] a' w'->zBx F m P ops Q (k+1) a' w'):zBx F m P ops Q k a w:=by
 have hb1:=h.below
 have hr':zAW w base e z v Cs:=hr.2.below hb1
 obtain ⟨v',w',hrun,g1,g2,g3⟩:=zIi (P:=P) (ty:=ty) happ hr' hy hD hsz (zWC hr.1 hb1.size)
 have hrun2:(execOp a.eval ⟨some d, .call ⟨.builtin .append,#[x,y],#[t,t]⟩,ty,pos,aft,none⟩).run P w= .ok (.value v') w':=by
  simp only [execOp,resolve,invoke,builtin,Sem.run_bind,Sem.run_pure,Result.andThen_ok,List.map_toArray,List.map_cons,List.map_nil,hx,hrun]
 refine zBe ho rfl ⟨fun f hf=>(by
  unfold Oper.about at hf
  simp [resolve,go_sem] at hf), ?_⟩
 rw [Oper.semAt_eq _ _ _ (fun _ e=>by cases e),hrun2]
 have hk:zAo w w':=hr'.keepU g2
 have hlt:=hr.2.lt
 have s0:=h0.back h hu
 have s1:StS S w0 K B n [] a w':=by
  refine ⟨?_,s0.size,s0.nd,fun q hq=>KF.us (s0.sl q hq) hk, ?_,⟨[],Marks.nil _ _⟩,s0.so⟩
  ·cases hv:v.ownBlock with
   |none=>
    refine ⟨g2.os.trans s0.gr.os,g2.tape.trans s0.gr.tape,g2.output.trans s0.gr.output,zWC s0.gr.size g2.size,fun k hk1 hk2=> ?_⟩
    exact (g2.block k (Nat.lt_of_lt_of_le hk1 s0.gr.size) (by rw [hv];simp)).trans (s0.gr.block k hk1 hk2)
   |some g=>exact s0.gr.grown (by rw [hv] at g2;exact g2) (.inl (zWC hb0 (hlt g hv).1))
  ·refine wX hk B (fun q hq=> ?_) s0.bx
   obtain ⟨_,_,hc,h3,_⟩:=h.bx.mem q hq
   refine g2.block _ (zWZ.1 h3).1 fun e=> ?_
   have h4:=hlt _ e.symm
   rcases hc with hc|hc|hc
   ·have:=hB q hq hc;omega
   ·omega
   ·exact hc
 exact fin v' _ w' ⟨zWC (zWC hr.1 hb1.size) g2.size,g1⟩ hk g2 g3 (s1.set hf (Below.refl _ _) rfl)
end
/-! ### The values -/
noncomputable def zRY (X:List Rat) (lo hi:V2):Nat->List (List V2)
 |0=> []
 |k+1=>zRY X lo hi k++ [ofV (qAt X k) (qAt X (k+1)) lo hi]
theorem zKg (X:List Rat) (lo hi:V2): ∀k,(zRY X lo hi k).length=k
 |0=>rfl
 |k+1=>by simp [zRY,zKg X lo hi k]
def j7 (O l:List Rat):List Rat:=l.foldl zBZ O
theorem zFL {O l:List Rat} {k:Nat} (hk:k<l.length):zBZ (j7 O (l.take k)) (qAt l k)=j7 O (l.take (k+1)):=by
 unfold j7 qAt
 rw [List.take_succ_eq_append_getElem hk,List.foldl_append,zW0 hk]
 rfl
theorem zDB {x:Rat}: ∀{l O:List Rat},x∈j7 O l->x∈O∨x∈l
 | [],O,h=> .inl h
 | y::l,O,h=>by
  rcases zDB (l:=l) (O:=zBZ O y) h with h|h
  ·rcases zGg h with h|h
   ·exact .inr (h▸zWY ..)
   ·exact .inl h
  ·exact .inr (List.mem_cons_of_mem _ h)
theorem zDC: ∀(l O:List Rat),(j7 O l).length<=O.length+l.length
 | [],O=>zWN _
 |y::l,O=>by
  have h1:=zDC l (zBZ O y)
  have h2:=zDE O y
  show (j7 (zBZ O y) l).length<=_
  rw [List.length_cons];omega
section
variable {LV:List (Wq×List V2)} {i:Nat}
def zC1 (LV:List (Wq×List V2)) (i:Nat):List Rat:=if 0<i/\i - 1<LV.length then (llg [] LV (i - 1)).2.map (·.2) else []
def zFu (LV:List (Wq×List V2)) (i:Nat):List Rat:=if i<LV.length then (llg [] LV i).2.map (·.1) else []
theorem zOU (h:0<i/\i - 1<LV.length):zC1 LV i=(llg [] LV (i - 1)).2.map (·.2):=if_pos h
theorem zN6 (h:i<LV.length):zFu LV i=(llg [] LV i).2.map (·.1):=if_pos h
def zDS (lo hi:V2):List Rat:=zBZ (zBZ [] lo.2) hi.2
def zGQ (lo hi:V2) (LV:List (Wq×List V2)) (i:Nat):List Rat:=j7 (j7 (zDS lo hi) (zC1 LV i)) (zFu LV i)
def zKn (lo hi:V2) (LV:List (Wq×List V2)):Nat->List (List Rat)
 |0=> []
 |k+1=>zKn lo hi LV k++ [zGQ lo hi LV k]
theorem zGR (lo hi:V2) (LV:List (Wq×List V2)): ∀k,(zKn lo hi LV k).length=k
 |0=>rfl
 |k+1=>by simp [zKn,zGR lo hi LV k]
theorem gt0 (h:decide ((i:Int)>0)=true):0<i:=by have:=zWI h;omega
theorem zOP (h:(decide ((i:Int)>0)&&decide (((i - 1:Nat):Int)<((lls LV).length:Int)))=true):0<i/\i - 1<LV.length:=by
 rw [zWP] at h
 have h2:=zWI h.2
 rw [zBC] at h2
 exact ⟨gt0 h.1,by omega⟩
theorem zSS {k:Nat} (h:((decide ((i:Int)>0)&&decide (((i - 1:Nat):Int)<((lls LV).length:Int)))&&decide ((k:Int)<(((pns (llg [] LV (i - 1)).2).length:Nat):Int)))=true):(0<i/\i - 1<LV.length)/\k<(llg [] LV (i - 1)).2.length:=by
 rw [zWP] at h
 refine ⟨zOP h.1, ?_⟩
 have:=zWI h.2
 simp at this
 omega
theorem zRw {k:Nat} (hk:k<=(zC1 LV i).length) (h:((decide ((i:Int)>0)&&decide (((i - 1:Nat):Int)<((lls LV).length:Int)))&&decide ((k:Int)<(((pns (llg [] LV (i - 1)).2).length:Nat):Int)))=false):k=(zC1 LV i).length:=by
 by_cases hc:0<i/\i - 1<LV.length
 ·rw [zWQ,zWQ] at h
  rw [zOU hc,zWJ] at hk ⊢
  have hl:=zBC LV
  rcases h with (h|h)|h
  ·have:=zWG h;omega
  ·have:=zWG h;omega
  ·have:=zWG h;simp at this;omega
 ·unfold zC1 at*
  rw [if_neg hc] at*
  simp at*;omega
theorem zSf {k:Nat} (h:(decide ((i:Int)<((lls LV).length:Int))&&decide ((k:Int)<((pns (llg [] LV i).2).length:Int)))=true):i<LV.length/\k<(llg [] LV i).2.length:=by
 rw [zWP] at h
 have h1:=zWI h.1
 have h2:=zWI h.2
 rw [zBC] at h1
 simp at h2
 exact ⟨by omega,by omega⟩
theorem zPI (h:decide ((i:Int)<((lls LV).length:Int))=true):i<LV.length:=by
 have h1:=zWI h
 rw [zBC] at h1
 omega
theorem zQL {k:Nat} (hk:k<=(zFu LV i).length) (h:(decide ((i:Int)<((lls LV).length:Int))&&decide ((k:Int)<((pns (llg [] LV i).2).length:Int)))=false):k=(zFu LV i).length:=by
 by_cases hc:i<LV.length
 ·rw [zWQ] at h
  rw [zN6 hc,zWJ] at hk ⊢
  have hl:=zBC LV
  rcases h with h|h
  ·have:=zWG h;omega
  ·have:=zWG h;simp at this;omega
 ·unfold zFu at*
  rw [if_neg hc] at*
  simp at*;omega
theorem zPK {m:Nat} (hqL: ∀x,x∈LV-> ∀q,q∈x.2->QB q.1 m/\QB q.2 m): ∀y,y∈zC1 LV i->QB y m:=fun y hy=>by
 unfold zC1 at hy
 split at hy
 ·rename_i h
  obtain ⟨q,hq,rfl⟩:=List.mem_map.1 hy
  exact (hqL _ (qN h.2) q hq).2
 ·cases hy
theorem zSe {m:Nat} (hqL: ∀x,x∈LV-> ∀q,q∈x.2->QB q.1 m/\QB q.2 m): ∀y,y∈zFu LV i->QB y m:=fun y hy=>by
 unfold zFu at hy
 split at hy
 ·rename_i h
  obtain ⟨q,hq,rfl⟩:=List.mem_map.1 hy
  exact (hqL _ (qN h) q hq).1
 ·cases hy
theorem zIH (hnL: ∀x,x∈LV->x.2.length<=10000):(zC1 LV i).length<=10000:=by
 unfold zC1
 split
 ·rename_i h
  rw [zWJ];exact hnL _ (qN h.2)
 ·decide
theorem zLB (hnL: ∀x,x∈LV->x.2.length<=10000):(zFu LV i).length<=10000:=by
 unfold zFu
 split
 ·rename_i h
  rw [zWJ];exact hnL _ (qN h)
 ·decide
section
variable {blo bhi:V2} {m:Nat}
theorem zMX (hlo:QB blo.1 m/\QB blo.2 m) (hhi:QB bhi.1 m/\QB bhi.2 m): ∀y,y∈zDS blo bhi->QB y m:=fun y hy=>by
 unfold zDS at hy
 rcases zGg hy with e|e
 ·rw [e];exact hhi.2
 ·exact zIu hlo.2 y e
theorem zJW:(zDS blo bhi).length<=2:=by
 have h1:=zDE [] blo.2
 have h2:=zDE (zBZ [] blo.2) bhi.2
 unfold zDS;simp at h1;omega
theorem zQf (hlo:QB blo.1 m/\QB blo.2 m) (hhi:QB bhi.1 m/\QB bhi.2 m) (hqL: ∀x,x∈LV-> ∀q,q∈x.2->QB q.1 m/\QB q.2 m) (k:Nat): ∀y,y∈j7 (zDS blo bhi) ((zC1 LV i).take k)->QB y m:=fun y hy=>
 (zDB hy).elim (zMX hlo hhi y) fun h=>zPK hqL y (zWV h)
theorem zQe (hlo:QB blo.1 m/\QB blo.2 m) (hhi:QB bhi.1 m/\QB bhi.2 m) (hqL: ∀x,x∈LV-> ∀q,q∈x.2->QB q.1 m/\QB q.2 m) (k:Nat): ∀y,y∈j7 (j7 (zDS blo bhi) (zC1 LV i)) ((zFu LV i).take k)->QB y m:=fun y hy=>
 (zDB hy).elim (fun h=>(zDB h).elim (zMX hlo hhi y) (zPK hqL y)) fun h=>zSe hqL y (zWV h)
theorem zQh (hnL: ∀x,x∈LV->x.2.length<=10000) (k:Nat):(j7 (zDS blo bhi) ((zC1 LV i).take k)).length<=1000000:=by
 have h1:=zDC ((zC1 LV i).take k) (zDS blo bhi)
 have h2:=zIH (i:=i) hnL
 have h3:=zJW (blo:=blo) (bhi:=bhi)
 have h4:=List.length_take_le k (zC1 LV i)
 rw [List.length_take] at h1
 omega
theorem zQg (hnL: ∀x,x∈LV->x.2.length<=10000) (k:Nat):(j7 (j7 (zDS blo bhi) (zC1 LV i)) ((zFu LV i).take k)).length<=1000000:=by
 have h1:=zDC ((zFu LV i).take k) (j7 (zDS blo bhi) (zC1 LV i))
 have h5:=zDC (zC1 LV i) (zDS blo bhi)
 have h2:=zIH (i:=i) hnL
 have h6:=zLB (i:=i) hnL
 have h3:=zJW (blo:=blo) (bhi:=bhi)
 rw [List.length_take] at h1
 omega
end
theorem zOr {L:List V2} {k:Nat} (h:k<L.length):qAt (L.map (·.2)) k=(at_ L k).2:=by
 unfold qAt at_
 simp [zW2,zW0 h]
theorem zOs {L:List V2} {k:Nat} (h:k<L.length):qAt (L.map (·.1)) k=(at_ L k).1:=by
 unfold qAt at_
 simp [zW2,zW0 h]
end
theorem zLX {m:Nat} {W:Wp} {l z vx:Wq} {blo bhi:V2} {X:List Rat} (h1:l= .slice none 0 0) (h2:(fPR (fPN blo) (fPN bhi)).p z W) (hx:(SF.row 3 (qls X)).p vx W) (hlo:QB blo.1 m/\QB blo.2 m) (hhi:QB bhi.1 m/\QB bhi.2 m) (hqX: ∀q,q∈X->QB q m) (hm:m<=100) (hm0:0<m) (hn:X.length<=1000000):Calls prog 22 #[l,z,vx] W (Ret W (fLB W.heap.size 6 pns (zRY X blo bhi (X.length - 1)))):=by
 refine z9 [(UF.eq (.slice none 0 0)).tS,(fPR (fPN blo) (fPN bhi)).tS,(UF.eq vx).tS] func22 rfl kJ ⟨h1,h2,rfl,trivial⟩ fun a s=> ?_
 replace s:=s.renew [(0, .u (UF.eq (.slice none 0 0))),(1, .u (fPR (fPN blo) (fPN bhi))),(2, .u (UF.eq vx))] (fmz ⟨.inr ⟨_,rfl, .head _⟩,fmz ⟨.inr ⟨_,rfl,mz1⟩,fmz ⟨.inr ⟨_,rfl,mz2⟩,fnz⟩⟩⟩)
 refine zWB ?_
 refine zC 0 [] hmix s kJ
  zD fun a w1 s=> ?_
 refine yD (CU.agg (fPR (fPN blo) (fPN bhi))) rfl s kJ (fun v W h=>zFN h) fun b4 a w s=> ?_
 refine zS (UF.eq (.slice none 0 0)) rfl s kJ iiz fun a w s=> ?_
 refine zA rfl ?_
 refine zWB ?_
 refine zC 1 ((7, .u (UF.eq (.slice none 0 0))):: []) hmix s kJ
  (oc zF<|zD) fun a w2 s=> ?_
 refine zA rfl ?_
 refine zWB ?_
 refine zC 3 ((10, .Z (UF.eq (.slice none 0 0)))::(11, .Z (UF.eq (.slice none 0 0)))::(8, .u (UF.eq (.slice none 0 0))):: []) hmix s kJ
  (oc zB<|oc (zH zE zUD (fun u0 W hb (h0:u0= .slice none 0 0)=>zIo h0))<|oc zF<|zD) fun a w3 s=> ?_
 refine zA rfl ?_
 refine zWB ?_
 refine zWB ?_
 refine zC 1 ((9, .u (uI 0)):: []) hmix s kJ
  (oc zF<|zD) fun a w4 s=> ?_
 refine zA rfl ?_
 refine zWF ?_
 obtain ⟨base,hbase⟩: ∃b,b=w4.heap.size:=⟨_,rfl⟩
 have hb0:W.heap.size<=base:=by rw [hbase];exact s.gr.size
 have hsz0:base<=w4.heap.size:=by rw [hbase];exact zWN _
 replace s:StS _ _ _ [⟨4,38,CU.agg (fPR (fPN blo) (fPN bhi)),b4,true⟩] _ _ _ _:=s.freeze
 have hbx4:b4<base:=by rw [hbase];exact s.old _ (.head _)
 refine zBO (fun (p:Nat×Wq×List (Wq×List V2)) w=>(p.1<=X.length - 1)/\p.2.2.map (·.2)=zRY X blo bhi p.1/\(base<=w.heap.size/\zAW w base 93 1 p.2.1 (lls p.2.2))/\LLG base 6 pns p.2.2 p.2.1 w) (fun p=> [(2, .u (UF.eq vx)),(8, .u (UF.eq (.slice none 0 0))),(7, .u (UF.eq (p.2.1))),(9, .u (uI (p.1:Int)))]) (fun p=>X.length - p.1) (0, .slice none 0 0, []) (⟨zWO _,rfl,⟨hsz0,zAW.nil _ _ _ _⟩,LLG.nil _ _ _ _ _⟩) (s.keepK _ (fmz ⟨mz6,fmz ⟨mz1,fmz ⟨mz2,fmz ⟨.head _,fnz⟩⟩⟩⟩)) fun p a w hI s=> ?_
 have s0:=s
 have hxw:=(SF.row 3 (qls X)).st _ _ _ hx s0.below
 have hln:=congrArg List.length hI.2.1
 rw [zWJ,zKg] at hln
 replace s:=s.reb rfl [(2, .u (UF.eq vx)),(8, .u (UF.eq (.slice none 0 0))),(7, .u (UF.eq (p.2.1))),(9, .u (uI (p.1:Int)))] (fmz ⟨.inl (.head _),fmz ⟨.inl mz1,fmz ⟨.inl mz2,fmz ⟨.inl mz3,fnz⟩⟩⟩⟩)
 refine zWB ?_
 refine zWB ?_
 refine zC 5 ((12, .Z (uI (p.1:Int)))::(13, .Z (uI ((p.1+1:Nat):Int)))::(14, .Z (UF.eq vx))::(15, .Z (uI ((qls X).length:Int)))::(16, .u (uB (decide (((p.1+1:Nat):Int)<((qls X).length:Int))))):: []) hmix s kJ
  (oc zB<|oc (yM .i64 (p.1:Int) 1 ((p.1+1:Nat):Int) iiz iiz (wrap64 _ _ oQ oQ))<|oc zB<|oc (y8 (z:=3) (Cs:=qls X) kJ (fun v W hb h=>(yT hxw h (s.up hb))) (fun _=>rfl))<|oc (zO .i64 ((p.1+1:Nat):Int) ((qls X).length:Int) (decide (((p.1+1:Nat):Int)<((qls X).length:Int))) iiz iiz rfl rfl)<|zD) fun a w5 s=> ?_
 refine zA rfl ?_
 refine StS.cond s (decide (((p.1+1:Nat):Int)<((qls X).length:Int))) iiz (fun e=> ?_) (fun e=> ?_)
 ·have hk:p.1+1<X.length:=by have:=zWI e;simp at this;omega
  have hk0:p.1<X.length:=Nat.lt_of_succ_lt hk
  refine zWK ?_
  refine zWB ?_
  refine zWF ?_
  refine qH (K:= [(16, .u (uB (decide (((p.1+1:Nat):Int)<((qls X).length:Int))))),(2, .u (UF.eq vx)),(8, .u (UF.eq (.slice none 0 0))),(9, .u (uI (p.1:Int)))]) [(7, .u (UF.eq (p.2.1)))] [0,1,2,5,6,11] 14 ((19, .u (UF.eq (p.2.1)))::(20, .Z (UF.eq vx))::(21, .Z (uI (p.1:Int)))::(22, .Y (fQN (qAt X p.1)))::(23, .Z (fQN (qAt X p.1)))::(24, .Z (UF.eq vx))::(25, .Z (uI (p.1:Int)))::(26, .Z (uI ((p.1+1:Nat):Int)))::(27, .Y (fQN (qAt X (p.1+1))))::(28, .Z (fQN (qAt X (p.1+1))))::(29, .Z (fPR (fPN blo) (fPN bhi)))::(30, .Z (UF.eq (.slice none 0 0)))::(31, .s (wC w.heap.size 6 (pns (ofV (qAt X p.1) (qAt X (p.1+1)) blo bhi))))::(32, .s (zS1 (wC w.heap.size 6 (pns (ofV (qAt X p.1) (qAt X (p.1+1)) blo bhi))))):: []) hmix (s.keepK _ (fmz ⟨mz3,fmz ⟨.head _,fmz ⟨mz1,fmz ⟨mz2,fmz ⟨mz4,fnz⟩⟩⟩⟩⟩)) kJ
   (oc zB<|oc zB<|oc zB<|oc (zZ (z:=3) (Cs:=qls X) (i:=p.1) (C:=CU.agg (fQN (qAt X p.1))) kJ (zAS hk0) (fun v W hb h=>(yT hxw h (s.up hb))) iiz)<|oc (zI (f:=fQN (qAt X p.1)) 3 kJ (hz:=z5 _))<|oc zB<|oc zB<|oc (yM .i64 (p.1:Int) 1 ((p.1+1:Nat):Int) iiz iiz (wrap64 _ _ oQ oQ))<|oc (zZ (z:=3) (Cs:=qls X) (i:=p.1+1) (C:=CU.agg (fQN (qAt X (p.1+1)))) kJ (zAS hk) (fun v W hb h=>(yT hxw h (s.up hb))) iiz)<|oc (zI (f:=fQN (qAt X (p.1+1))) 3 kJ (hz:=z5 _))<|oc (zI (f:=fPR (fPN blo) (fPN bhi)) 12 kJ (hz:=zJB))<|oc zB<|oc (zAi zE zUC (fun u0 u1 u2 u3 W hb (h0:QNp (qAt X p.1) u0 W) (h1:QNp (qAt X (p.1+1)) u1 W) (h2:(fPR (fPN blo) (fPN bhi)).p u2 W) (h3:u3= .slice none 0 0)=>(zLW (m:=m) (wD h0 (hqX _ (qU hk0))) (wD h1 (hqX _ (qU hk))) h2 h3 hlo hhi hm hm0).mono (wF (fun v w h=>⟨h.1,fun k hk=>zWC (s.up hb).size (h.2 k hk)⟩))))<|oc (qB (fun u W (hu:(wC w.heap.size 6 (pns (ofV (qAt X p.1) (qAt X (p.1+1)) blo bhi))).p u W)=>zR8 hu))<|zD) fun Q' hQ a w6 s hr=> ?_
  obtain ⟨u1,hu1,hu2⟩:=(hr (_,_) zSL)
  have hll:=(hI.2.2.2).below s.below
  refine zI3 [wE [u1]] s0 (s.keepK [(19, .u (UF.eq (p.2.1))),(16, .u (uB (decide (((p.1+1:Nat):Int)<((qls X).length:Int))))),(2, .u (UF.eq vx)),(8, .u (UF.eq (.slice none 0 0))),(9, .u (uI (p.1:Int)))] (fmz ⟨.head _,fmz ⟨mz1,fmz ⟨mz2,fmz ⟨mz3,fmz ⟨mz4,fnz⟩⟩⟩⟩⟩)) hb0 hI.2.2.1 rfl kJ kJ kJ (s.fct (.tmp 19)) hu1 (fun C hC=>by rw [zWE.1 hC];exact zSW (zBH hu2.1)) (by have:=zBC p.2.2;simp;omega) (fun q hq hr=>by rcases zWD.1 hq with rfl|hq;exact hbx4;cases hq) fun v' a w hI' hku hgr hv' s=> ?_
  have hll':=hll.app (y:=ofV (qAt X p.1) (qAt X (p.1+1)) blo bhi) hI.2.2.1.1 (fun y c hc=>zJC _ c hc) dC hu2 (fun k hk=>(hI.2.2.1.2.lt k hk).2) hgr hku hv'
  have s1:=s
  replace s:StS _ _ _ [⟨4,38,CU.agg (fPR (fPN blo) (fPN bhi)),b4,true⟩] _ _ _ _:=s.freeze
  replace s:=s.reb rfl [(33, .u (UF.eq v')),(19, .u (UF.eq (p.2.1))),(16, .u (uB (decide (((p.1+1:Nat):Int)<((qls X).length:Int))))),(2, .u (UF.eq vx)),(8, .u (UF.eq (.slice none 0 0))),(9, .u (uI (p.1:Int)))] (fmz ⟨.inl (.head _),fmz ⟨.inl mz1,fmz ⟨.inl mz2,fmz ⟨.inl mz3,fmz ⟨.inl mz4,fmz ⟨.inl mz5,fnz⟩⟩⟩⟩⟩⟩)
  refine zS (UF.eq v') rfl s kJ iiz fun a w s=> ?_
  refine zA rfl (hQ _ _ ?_)
  refine zR 2 ((17, .Z (uI (p.1:Int)))::(18, .u (uI ((p.1+1:Nat):Int))):: []) s kJ
   (oc zB<|oc (yM .i64 (p.1:Int) 1 ((p.1+1:Nat):Int) iiz iiz (wrap64 _ _ oQ oQ))<|zD) fun a w7 s=> ?_
  replace s:=s.drop [9]
  refine zS (uI ((p.1+1:Nat):Int)) rfl s kJ iiz fun a w s=> ?_
  refine zA rfl ?_
  have hbw:=s.below
  replace s:=s1.back (s.keepK [(9, .u (uI ((p.1+1:Nat):Int))),(18, .u (uI ((p.1+1:Nat):Int))),(7, .u (UF.eq v')),(33, .u (UF.eq v')),(19, .u (UF.eq (p.2.1))),(16, .u (uB (decide (((p.1+1:Nat):Int)<((qls X).length:Int))))),(2, .u (UF.eq vx)),(8, .u (UF.eq (.slice none 0 0)))] (fmz ⟨.head _,fmz ⟨mz1,fmz ⟨mz2,fmz ⟨mz3,fmz ⟨mz4,fmz ⟨mz5,fmz ⟨mz6,fmz ⟨mz7,fnz⟩⟩⟩⟩⟩⟩⟩⟩)) rfl
  exact ⟨(p.1+1,v',p.2.2++ [(u1,ofV (qAt X p.1) (qAt X (p.1+1)) blo bhi)]),(by show X.length - (p.1+1)<X.length - p.1;omega),⟨by show p.1+1<=X.length - 1;omega,by show List.map _ (p.2.2++_)=_;rw [List.map_append,hI.2.1];rfl,⟨zWC hI'.1 hbw.size,by show zAW _ _ _ _ _ (lls (p.2.2++_));rw [<-zJO];exact hI'.2.below hbw⟩,hll'.below hbw⟩,s.keepK _ (fmz ⟨mz6,fmz ⟨mz7,fmz ⟨mz2,fmz ⟨.head _,fnz⟩⟩⟩⟩)⟩
 ·have hk:p.1=X.length - 1:=by have h7:=zWG e;have h8:=hI.1;simp at h7;omega
  refine zWL ?_
  refine zWB ?_
  refine zC 2 ((34, .Z (UF.eq (p.2.1)))::(6, .u (UF.eq (p.2.1))):: []) hmix s kJ
   (oc zB<|oc zF<|zD) fun a w8 s=> ?_
  refine zA rfl ?_
  refine zWH ?_
  exact StS.resN s s0.below (t:=6) rfl (by rw [s.val (.head _)];exact ⟨p.2.2,by rw [<-hk];exact hI.2.1,⟨(SF.row 1 _).st _ _ _ hI.2.2.1.2.row s.below,fun k hk=>zWC hb0 (hI.2.2.1.2.lt k hk).1⟩,(hI.2.2.2.below s.below).out hb0⟩)
theorem zKu {m i:Nat} {W:Wp} {l z vx vl u:Wq} {blo bhi:V2} {LV:List (Wq×List V2)} (h1:l= .slice none 0 0) (h2:(fPR (fPN blo) (fPN bhi)).p z W) (hl:(SF.row 1 (lls LV)).p vl W) (hLL:zNu 6 pns LV W) (h5:u= .int .i64 (i:Int)) (hlo:QB blo.1 m/\QB blo.2 m) (hhi:QB bhi.1 m/\QB bhi.2 m) (hqL: ∀x,x∈LV-> ∀q,q∈x.2->QB q.1 m/\QB q.2 m) (hnL: ∀x,x∈LV->x.2.length<=10000) (hi:i<=1000000) (hln:LV.length<=1000000) (hm:m<=100) (hm0:0<m):Calls prog 45 #[l,z,vx,vl,u] W (Ret W (wC W.heap.size 3 (qls (zGQ blo bhi LV i)))):=by
 obtain ⟨bW,hbW⟩: ∃b,b=W.heap.size:=⟨_,rfl⟩
 rw [<-hbW]
 have hl1:=zIH (i:=i) hnL
 have hl2:=zLB (i:=i) hnL
 have hqA:=zQf (blo:=blo) (bhi:=bhi) (i:=i) hlo hhi hqL
 have hnA:=zQh (blo:=blo) (bhi:=bhi) (i:=i) hnL
 have hqB:=zQe (blo:=blo) (bhi:=bhi) (i:=i) hlo hhi hqL
 have hnB:=zQg (blo:=blo) (bhi:=bhi) (i:=i) hnL
 refine z9 [(UF.eq (.slice none 0 0)).tS,(fPR (fPN blo) (fPN bhi)).tS,(UF.eq vx).tS,(UF.eq vl).tS,(uI (i:Int)).tS] func45 rfl kJ ⟨h1,h2,rfl,rfl,h5,trivial⟩ fun a s=> ?_
 replace s:=s.renew [(0, .u (UF.eq (.slice none 0 0))),(1, .u (fPR (fPN blo) (fPN bhi))),(2, .u (UF.eq vx)),(3, .u (UF.eq vl)),(4, .u (uI (i:Int)))] (fmz ⟨.inr ⟨_,rfl, .head _⟩,fmz ⟨.inr ⟨_,rfl,mz1⟩,fmz ⟨.inr ⟨_,rfl,mz2⟩,fmz ⟨.inr ⟨_,rfl,mz3⟩,fmz ⟨.inr ⟨_,rfl,mz4⟩,fnz⟩⟩⟩⟩⟩)
 refine zWB ?_
 refine zC 0 [] hmix s kJ
  zD fun a w1 s=> ?_
 refine yD (CU.agg (fPR (fPN blo) (fPN bhi))) rfl s kJ (fun v W h=>zFN h) fun b6 a w s=> ?_
 refine zS (UF.eq (.slice none 0 0)) rfl s kJ iiz fun a w s=> ?_
 refine zA rfl ?_
 refine zWB ?_
 refine qL [] [] 8 ((16, .X (fPR (fPN blo) (fPN bhi)) 0)::(17, .X (fPR (fPN blo) (fPN bhi)) 3)::(18, .Z (fQN ((blo).2)))::(19, .s (wC bW 3 (qls (zBZ [] blo.2))))::(20, .X (fPR (fPN blo) (fPN bhi)) 6)::(21, .X (fPR (fPN blo) (fPN bhi)) 9)::(22, .Z (fQN ((bhi).2)))::(23, .s (wC bW 3 (qls (zDS blo bhi)))):: []) hmix s fnz kJ
  (oc (zK (C:=cg (fPR (fPN blo) (fPN bhi))) 0 kJ)<|oc (yE (C:=cg (fPR (fPN blo) (fPN bhi))) 0 3 kJ)<|oc (yB (C:=cg (fPR (fPN blo) (fPN bhi))) (k:=3) 3 kJ (h:=zOy))<|oc (zJ zE zO7 (fun u0 u1 W hb (h0:u0= .slice none 0 0) (h1:QNp ((blo).2) u1 W)=>(zDz (m:=m) (L:= []) (x:=blo.2) (by rw [show u0=_ from h0];exact zDw 3 _) (wD h1 hlo.2) (fun y hy=>by cases hy) oQ hm0 dC).mono (wF (fun v w h=>⟨h.1,fun k hk=>by rcases h.2 with e|e;rw [e,show u0=_ from h0] at hk;cases hk;rw [hbW];exact zWC (s.up hb).size (e k hk)⟩))))<|oc (zK (C:=cg (fPR (fPN blo) (fPN bhi))) 6 kJ)<|oc (yE (C:=cg (fPR (fPN blo) (fPN bhi))) 6 3 kJ)<|oc (yB (C:=cg (fPR (fPN blo) (fPN bhi))) (k:=9) 3 kJ (h:=zOx))<|oc (zJ zE zO7 (fun u0 u1 W hb (h0:(wC bW 3 (qls (zBZ [] blo.2))).p u0 W) (h1:QNp ((bhi).2) u1 W)=>(zDz (m:=m) (L:=(zBZ [] blo.2)) (x:=bhi.2) h0.1 (wD h1 hhi.2) (zIu hlo.2) oQ hm0 (by have:=zDE [] blo.2;simp at this;omega)).mono (wF (fun v w h=>⟨h.1,fun k hk=>by rcases h.2 with e|e;rw [e] at hk;exact h0.2 k hk;rw [hbW];exact zWC (s.up hb).size (e k hk)⟩))))<|zD) fun Q' hQ a w2 s hr hd=> ?_
 obtain ⟨v23,e23⟩: ∃v,a.tmps.getD 23 undef=v:=⟨_,rfl⟩
 have hv23:(wC bW 3 (qls (zDS blo bhi))).p v23 w2:=e23▸(hr (_,_) mz7)
 replace s:=s.learn 23 v23 e23
 have hbA:=s.below
 replace s:StS _ _ _ [⟨6,38,CU.agg (fPR (fPN blo) (fPN bhi)),b6,true⟩] _ _ _ _:=s.freeze
 replace s:=s.reb rfl [(23, .u (UF.eq v23)),(10, .u (UF.eq (.slice none 0 0))),(0, .u (UF.eq (.slice none 0 0))),(1, .u (fPR (fPN blo) (fPN bhi))),(2, .u (UF.eq vx)),(3, .u (UF.eq vl)),(4, .u (uI (i:Int)))] (fmz ⟨.inl (.head _),fmz ⟨.inl mz1,fmz ⟨.inl mz2,fmz ⟨.inl mz3,fmz ⟨.inl mz4,fmz ⟨.inl mz5,fmz ⟨.inl mz6,fnz⟩⟩⟩⟩⟩⟩⟩)
 refine zS (UF.eq v23) rfl s kJ iiz fun a w s=> ?_
 refine zA rfl (hQ _ _ ?_)
 refine zWB ?_
 refine zWB ?_
 refine zC 1 ((12, .u (uI 0)):: []) hmix s kJ
  (oc zF<|zD) fun a w3 s=> ?_
 refine zA rfl ?_
 refine zWF ?_
 have hv0:=(wC bW 3 _).st _ _ _ hv23 s.below
 refine zBO (fun (p:Nat×Wq) w=>p.1<=(zC1 LV i).length/\(wC bW 3 (qls (j7 (zDS blo bhi) ((zC1 LV i).take p.1)))).p p.2 w) (fun p=> [(0, .u (UF.eq (.slice none 0 0))),(2, .u (UF.eq vx)),(3, .u (UF.eq vl)),(4, .u (uI (i:Int))),(11, .u (UF.eq (p.2))),(12, .u (uI (p.1:Int)))]) (fun p=>(zC1 LV i).length - p.1) (0,v23) (⟨zWO _,hv0⟩) (s.keepK _ (fmz ⟨mz4,fmz ⟨mz6,fmz ⟨mz7,fmz ⟨mz8,fmz ⟨mz1,fmz ⟨.head _,fnz⟩⟩⟩⟩⟩⟩)) fun p a w hI s=> ?_
 have s0:=s
 have hlw:=(SF.row 1 (lls LV)).st _ _ _ hl (hbA.trans (s0.below.mono hbA.size))
 have hLw:=hLL.below (hbA.trans (s0.below.mono hbA.size))
 replace s:=s.reb rfl [(0, .u (UF.eq (.slice none 0 0))),(2, .u (UF.eq vx)),(3, .u (UF.eq vl)),(4, .u (uI (i:Int))),(11, .u (UF.eq (p.2))),(12, .u (uI (p.1:Int)))] (fmz ⟨.inl (.head _),fmz ⟨.inl mz1,fmz ⟨.inl mz2,fmz ⟨.inl mz3,fmz ⟨.inl mz4,fmz ⟨.inl mz5,fnz⟩⟩⟩⟩⟩⟩)
 refine zWB ?_
 refine zWB ?_
 refine zC 19 ((24, .Z (uI (i:Int)))::(25, .Z (uB (decide ((i:Int)>0))))::(26, .Z (uB (decide ((i:Int)>0))))::(27, .s (SF.imp ((decide ((i:Int)>0))=true) ((uI (i:Int)).tS)))::(28, .s (SF.imp ((decide ((i:Int)>0))=true) ((uI ((i - 1:Nat):Int)).tS)))::(29, .s (SF.imp ((decide ((i:Int)>0))=true) ((UF.eq vl).tS)))::(30, .s (SF.imp ((decide ((i:Int)>0))=true) ((uI ((lls LV).length:Int)).tS)))::(31, .s (SF.imp ((decide ((i:Int)>0))=true) ((uB (decide (((i - 1:Nat):Int)<((lls LV).length:Int)))).tS)))::(32, .Z (uB ((decide ((i:Int)>0))&&(decide (((i - 1:Nat):Int)<((lls LV).length:Int))))))::(33, .Z (uB ((decide ((i:Int)>0))&&(decide (((i - 1:Nat):Int)<((lls LV).length:Int))))))::(34, .s (SF.imp (((decide ((i:Int)>0))&&(decide (((i - 1:Nat):Int)<((lls LV).length:Int))))=true) ((uI (p.1:Int)).tS)))::(35, .s (SF.imp (((decide ((i:Int)>0))&&(decide (((i - 1:Nat):Int)<((lls LV).length:Int))))=true) ((UF.eq vl).tS)))::(36, .s (SF.imp (((decide ((i:Int)>0))&&(decide (((i - 1:Nat):Int)<((lls LV).length:Int))))=true) ((uI (i:Int)).tS)))::(37, .s (SF.imp (((decide ((i:Int)>0))&&(decide (((i - 1:Nat):Int)<((lls LV).length:Int))))=true) ((uI ((i - 1:Nat):Int)).tS)))::(38, .s (SF.imp (((decide ((i:Int)>0))&&(decide (((i - 1:Nat):Int)<((lls LV).length:Int))))=true) (wB (wE [(llg [] LV (i - 1)).1]).cf)))::(39, .s (SF.imp (((decide ((i:Int)>0))&&(decide (((i - 1:Nat):Int)<((lls LV).length:Int))))=true) ((UF.eq (llg [] LV (i - 1)).1).tS)))::(40, .s (SF.imp (((decide ((i:Int)>0))&&(decide (((i - 1:Nat):Int)<((lls LV).length:Int))))=true) ((uI (((pns (llg [] LV (i - 1)).2).length:Nat):Int)).tS)))::(41, .s (SF.imp (((decide ((i:Int)>0))&&(decide (((i - 1:Nat):Int)<((lls LV).length:Int))))=true) ((uB (decide ((p.1:Int)<(((pns (llg [] LV (i - 1)).2).length:Nat):Int)))).tS)))::(42, .u (uB (((decide ((i:Int)>0))&&(decide (((i - 1:Nat):Int)<((lls LV).length:Int))))&&(decide ((p.1:Int)<(((pns (llg [] LV (i - 1)).2).length:Nat):Int)))))):: []) hmix s kJ
  (oc zB<|oc (zO .i64 (i:Int) 0 (decide ((i:Int)>0)) iiz iiz rfl rfl)<|oc zB<|oc (zG 26 (decide ((i:Int)>0)) kJ iiz (fun e=>zQ [] ((uI (i:Int)).tS) fnz (fun _ _ h _=>h) kJ zB) (fun e W h=>absurd h e))<|oc (zG 26 (decide ((i:Int)>0)) kJ iiz (fun e=>zQ [(27,(uI (i:Int)).tS)] ((uI ((i - 1:Nat):Int)).tS) (fmz ⟨fun v W h=>zL (c:=(decide ((i:Int)>0))=true) (f:=(uI (i:Int)).tS) e h,fnz⟩) (fun _ _ h _=>h) kJ (zEa .i64 (i:Int) 1 ((i - 1:Nat):Int) iiz iiz (by have hg:=gt0 e;rw [zWR];omega))) (fun e W h=>absurd h e))<|oc (zG 26 (decide ((i:Int)>0)) kJ iiz (fun e=>zQ [] ((UF.eq vl).tS) fnz (fun _ _ h _=>h) kJ zB) (fun e W h=>absurd h e))<|oc (zG 26 (decide ((i:Int)>0)) kJ iiz (fun e=>zQ [(29,(UF.eq vl).tS)] ((uI ((lls LV).length:Int)).tS) (fmz ⟨fun v W h=>zL (c:=(decide ((i:Int)>0))=true) (f:=(UF.eq vl).tS) e h,fnz⟩) (fun _ _ h _=>h) kJ (y8 (z:=1) (Cs:=lls LV) kJ (fun v W hb h=>(yT hlw h (s.up hb))) (fun _=>rfl))) (fun e W h=>absurd h e))<|oc (zG 26 (decide ((i:Int)>0)) kJ iiz (fun e=>zQ [(28,(uI ((i - 1:Nat):Int)).tS),(30,(uI ((lls LV).length:Int)).tS)] ((uB (decide (((i - 1:Nat):Int)<((lls LV).length:Int)))).tS) (fmz ⟨fun v W h=>zL (c:=(decide ((i:Int)>0))=true) (f:=(uI ((i - 1:Nat):Int)).tS) e h,fmz ⟨fun v W h=>zL (c:=(decide ((i:Int)>0))=true) (f:=(uI ((lls LV).length:Int)).tS) e h,fnz⟩⟩) (fun _ _ h _=>h) kJ (zO .i64 ((i - 1:Nat):Int) ((lls LV).length:Int) (decide (((i - 1:Nat):Int)<((lls LV).length:Int))) iiz iiz rfl rfl)) (fun e W h=>absurd h e))<|oc (yO (decide ((i:Int)>0)) iiz (fun e v W h=>jM (zL e h) e) (fun e v W h=>qV h e))<|oc zB<|oc (zG 33 ((decide ((i:Int)>0))&&(decide (((i - 1:Nat):Int)<((lls LV).length:Int)))) kJ iiz (fun e=>zQ [] ((uI (p.1:Int)).tS) fnz (fun _ _ h _=>h) kJ zB) (fun e W h=>absurd h e))<|oc (zG 33 ((decide ((i:Int)>0))&&(decide (((i - 1:Nat):Int)<((lls LV).length:Int)))) kJ iiz (fun e=>zQ [] ((UF.eq vl).tS) fnz (fun _ _ h _=>h) kJ zB) (fun e W h=>absurd h e))<|oc (zG 33 ((decide ((i:Int)>0))&&(decide (((i - 1:Nat):Int)<((lls LV).length:Int)))) kJ iiz (fun e=>zQ [] ((uI (i:Int)).tS) fnz (fun _ _ h _=>h) kJ zB) (fun e W h=>absurd h e))<|oc (zG 33 ((decide ((i:Int)>0))&&(decide (((i - 1:Nat):Int)<((lls LV).length:Int)))) kJ iiz (fun e=>zQ [(36,(uI (i:Int)).tS)] ((uI ((i - 1:Nat):Int)).tS) (fmz ⟨fun v W h=>zL (c:=((decide ((i:Int)>0))&&(decide (((i - 1:Nat):Int)<((lls LV).length:Int))))=true) (f:=(uI (i:Int)).tS) e h,fnz⟩) (fun _ _ h _=>h) kJ (zEa .i64 (i:Int) 1 ((i - 1:Nat):Int) iiz iiz (by have hg:=(zOP e).1;rw [zWR];omega))) (fun e W h=>absurd h e))<|oc (zG 33 ((decide ((i:Int)>0))&&(decide (((i - 1:Nat):Int)<((lls LV).length:Int)))) kJ iiz (fun e=>zQ [(35,(UF.eq vl).tS),(37,(uI ((i - 1:Nat):Int)).tS)] (wB (wE [(llg [] LV (i - 1)).1]).cf) (fmz ⟨fun v W h=>zL (c:=((decide ((i:Int)>0))&&(decide (((i - 1:Nat):Int)<((lls LV).length:Int))))=true) (f:=(UF.eq vl).tS) e h,fmz ⟨fun v W h=>zL (c:=((decide ((i:Int)>0))&&(decide (((i - 1:Nat):Int)<((lls LV).length:Int))))=true) (f:=(uI ((i - 1:Nat):Int)).tS) e h,fnz⟩⟩) (fun _ _ h _=>h) kJ (zZ (z:=1) (Cs:=lls LV) (i:=i - 1) (C:=wE [(llg [] LV (i - 1)).1]) kJ (zB7 (zOP e).2) (fun v W hb h=>(yT hlw h (s.up hb))) iiz)) (fun e W h=>absurd h e))<|oc (zG 33 ((decide ((i:Int)>0))&&(decide (((i - 1:Nat):Int)<((lls LV).length:Int)))) kJ iiz (fun e=>zQ [(38,wB (wE [(llg [] LV (i - 1)).1]).cf)] ((UF.eq (llg [] LV (i - 1)).1).tS) (fmz ⟨fun v W h=>zL (c:=((decide ((i:Int)>0))&&(decide (((i - 1:Nat):Int)<((lls LV).length:Int))))=true) (f:=wB (wE [(llg [] LV (i - 1)).1]).cf) e h,fnz⟩) (fun _ _ h _=>h) kJ (jS (C:=(wE [(llg [] LV (i - 1)).1]).cf) kJ iiz zCh)) (fun e W h=>absurd h e))<|oc (zG 33 ((decide ((i:Int)>0))&&(decide (((i - 1:Nat):Int)<((lls LV).length:Int)))) kJ iiz (fun e=>zQ [(39,(UF.eq (llg [] LV (i - 1)).1).tS)] ((uI (((pns (llg [] LV (i - 1)).2).length:Nat):Int)).tS) (fmz ⟨fun v W h=>zL (c:=((decide ((i:Int)>0))&&(decide (((i - 1:Nat):Int)<((lls LV).length:Int))))=true) (f:=(UF.eq (llg [] LV (i - 1)).1).tS) e h,fnz⟩) (fun _ _ h _=>h) kJ (y8 (z:=6) (Cs:=pns (llg [] LV (i - 1)).2) kJ (fun v W hb h=>(by rw [show _=(llg [] LV (i - 1)).1 from h];exact (SF.row 6 (pns (llg [] LV (i - 1)).2)).st _ _ _ (hLw _ (qN (zOP e).2)) (s.up hb))) (fun _=>rfl))) (fun e W h=>absurd h e))<|oc (zG 33 ((decide ((i:Int)>0))&&(decide (((i - 1:Nat):Int)<((lls LV).length:Int)))) kJ iiz (fun e=>zQ [(34,(uI (p.1:Int)).tS),(40,(uI (((pns (llg [] LV (i - 1)).2).length:Nat):Int)).tS)] ((uB (decide ((p.1:Int)<(((pns (llg [] LV (i - 1)).2).length:Nat):Int)))).tS) (fmz ⟨fun v W h=>zL (c:=((decide ((i:Int)>0))&&(decide (((i - 1:Nat):Int)<((lls LV).length:Int))))=true) (f:=(uI (p.1:Int)).tS) e h,fmz ⟨fun v W h=>zL (c:=((decide ((i:Int)>0))&&(decide (((i - 1:Nat):Int)<((lls LV).length:Int))))=true) (f:=(uI (((pns (llg [] LV (i - 1)).2).length:Nat):Int)).tS) e h,fnz⟩⟩) (fun _ _ h _=>h) kJ (zO .i64 (p.1:Int) (((pns (llg [] LV (i - 1)).2).length:Nat):Int) (decide ((p.1:Int)<(((pns (llg [] LV (i - 1)).2).length:Nat):Int))) iiz iiz rfl rfl)) (fun e W h=>absurd h e))<|oc (yO ((decide ((i:Int)>0))&&(decide (((i - 1:Nat):Int)<((lls LV).length:Int)))) iiz (fun e v W h=>jM (zL e h) e) (fun e v W h=>qV h e))<|zD) fun a w4 s=> ?_
 refine zA rfl ?_
 refine StS.cond s (((decide ((i:Int)>0))&&(decide (((i - 1:Nat):Int)<((lls LV).length:Int))))&&(decide ((p.1:Int)<(((pns (llg [] LV (i - 1)).2).length:Nat):Int)))) iiz (fun e=> ?_) (fun e=> ?_)
 ·have hk:=zSS e
  have hkk:p.1<(zC1 LV i).length:=by rw [zOU hk.1,zWJ];exact hk.2
  refine zWK ?_
  refine zWB ?_
  refine zWF ?_
  refine zA8 11 ((45, .Z (UF.eq (p.2)))::(46, .Z (UF.eq vl))::(47, .Z (uI (i:Int)))::(48, .Z (uI ((i - 1:Nat):Int)))::(49, .s (wB (wE [(llg [] LV (i - 1)).1]).cf))::(50, .Z (UF.eq (llg [] LV (i - 1)).1))::(51, .Z (uI (p.1:Int)))::(52, .Y (fPN (at_ (llg [] LV (i - 1)).2 p.1)))::(53, .X (fPN (at_ (llg [] LV (i - 1)).2 p.1)) 3)::(54, .Z (fQN ((at_ (llg [] LV (i - 1)).2 p.1).2)))::(55, .s (wC bW 3 (qls (zBZ (j7 (zDS blo bhi) ((zC1 LV i).take p.1)) (at_ (llg [] LV (i - 1)).2 p.1).2)))):: []) s kJ
   (oc zB<|oc zB<|oc zB<|oc (zEa .i64 (i:Int) 1 ((i - 1:Nat):Int) iiz iiz (by have hg:=hk.1.1;rw [zWR];omega))<|oc (zZ (z:=1) (Cs:=lls LV) (i:=i - 1) (C:=wE [(llg [] LV (i - 1)).1]) kJ (zB7 hk.1.2) (fun v W hb h=>(yT hlw h (s.up hb))) iiz)<|oc (jS (C:=(wE [(llg [] LV (i - 1)).1]).cf) kJ iiz zCh)<|oc zB<|oc (zZ (z:=6) (Cs:=pns (llg [] LV (i - 1)).2) (i:=p.1) (C:=CU.agg (fPN (at_ (llg [] LV (i - 1)).2 p.1))) kJ (zE9 hk.2) (fun v W hb h=>(by rw [show _=(llg [] LV (i - 1)).1 from h];exact (SF.row 6 (pns (llg [] LV (i - 1)).2)).st _ _ _ (hLw _ (qN hk.1.2)) (s.up hb))) iiz)<|oc (zK (C:=cg (fPN (at_ (llg [] LV (i - 1)).2 p.1))) 3 kJ)<|oc (yB (C:=cg (fPN (at_ (llg [] LV (i - 1)).2 p.1))) (k:=3) 3 kJ (h:=zH6))<|oc (zJ zE zO7 (fun u0 u1 W hb (h0:u0=p.2) (h1:QNp ((at_ (llg [] LV (i - 1)).2 p.1).2) u1 W)=>(zDz (m:=m) (L:=(j7 (zDS blo bhi) ((zC1 LV i).take p.1))) (x:=(at_ (llg [] LV (i - 1)).2 p.1).2) (by rw [show u0=_ from h0];exact (SF.row 3 _).st _ _ _ hI.2.1 (s.up hb)) (wD h1 (hqL _ (qN hk.1.2) _ (zFs hk.2)).2) (hqA p.1) oQ hm0 (hnA p.1)).mono (wF (fun v w h=>⟨h.1,fun k hk=>by rcases h.2 with e|e;rw [e,show u0=_ from h0] at hk;exact hI.2.2 k hk;rw [hbW];exact zWC hbA.size (zWC s0.below.size (zWC (s.up hb).size (e k hk)))⟩))))<|zD) fun a w5 s hr=> ?_
  obtain ⟨v55,e55⟩: ∃v,a.tmps.getD 55 undef=v:=⟨_,rfl⟩
  have hv55:(wC bW 3 (qls (zBZ (j7 (zDS blo bhi) ((zC1 LV i).take p.1)) (at_ (llg [] LV (i - 1)).2 p.1).2))).p v55 w5:=e55▸(hr (_,_) zGp)
  replace s:=s.learn 55 v55 e55
  have s1:=s0.back (s.keepK [(55, .u (UF.eq v55)),(42, .u (uB (((decide ((i:Int)>0))&&(decide (((i - 1:Nat):Int)<((lls LV).length:Int))))&&(decide ((p.1:Int)<(((pns (llg [] LV (i - 1)).2).length:Nat):Int)))))),(0, .u (UF.eq (.slice none 0 0))),(2, .u (UF.eq vx)),(3, .u (UF.eq vl)),(4, .u (uI (i:Int))),(11, .u (UF.eq (p.2))),(12, .u (uI (p.1:Int)))] (fmz ⟨.head _,fmz ⟨mz1,fmz ⟨mz2,fmz ⟨mz3,fmz ⟨mz4,fmz ⟨mz5,fmz ⟨mz6,fmz ⟨mz7,fnz⟩⟩⟩⟩⟩⟩⟩⟩)) rfl
  replace s:=s1
  replace s:=s.reb rfl [(55, .u (UF.eq v55)),(42, .u (uB (((decide ((i:Int)>0))&&(decide (((i - 1:Nat):Int)<((lls LV).length:Int))))&&(decide ((p.1:Int)<(((pns (llg [] LV (i - 1)).2).length:Nat):Int)))))),(0, .u (UF.eq (.slice none 0 0))),(2, .u (UF.eq vx)),(3, .u (UF.eq vl)),(4, .u (uI (i:Int))),(11, .u (UF.eq (p.2))),(12, .u (uI (p.1:Int)))] (fmz ⟨.inl (.head _),fmz ⟨.inl mz1,fmz ⟨.inl mz2,fmz ⟨.inl mz3,fmz ⟨.inl mz4,fmz ⟨.inl mz5,fmz ⟨.inl mz6,fmz ⟨.inl mz7,fnz⟩⟩⟩⟩⟩⟩⟩⟩)
  replace s:=s.drop [11]
  refine zS (UF.eq v55) rfl s kJ iiz fun a w s=> ?_
  refine zA rfl ?_
  refine zR 2 ((43, .Z (uI (p.1:Int)))::(44, .u (uI ((p.1+1:Nat):Int))):: []) s kJ
   (oc zB<|oc (yM .i64 (p.1:Int) 1 ((p.1+1:Nat):Int) iiz iiz (wrap64 _ _ oQ oQ))<|zD) fun a w6 s=> ?_
  replace s:=s.drop [12]
  refine zS (uI ((p.1+1:Nat):Int)) rfl s kJ iiz fun a w s=> ?_
  refine zA rfl ?_
  have hbw:=s.below
  replace s:=s1.back (s.keepK [(12, .u (uI ((p.1+1:Nat):Int))),(44, .u (uI ((p.1+1:Nat):Int))),(11, .u (UF.eq v55)),(55, .u (UF.eq v55)),(42, .u (uB (((decide ((i:Int)>0))&&(decide (((i - 1:Nat):Int)<((lls LV).length:Int))))&&(decide ((p.1:Int)<(((pns (llg [] LV (i - 1)).2).length:Nat):Int)))))),(0, .u (UF.eq (.slice none 0 0))),(2, .u (UF.eq vx)),(3, .u (UF.eq vl)),(4, .u (uI (i:Int)))] (fmz ⟨.head _,fmz ⟨mz1,fmz ⟨mz2,fmz ⟨mz3,fmz ⟨mz4,fmz ⟨mz5,fmz ⟨mz6,fmz ⟨mz7,fmz ⟨mz8,fnz⟩⟩⟩⟩⟩⟩⟩⟩⟩)) rfl
  exact ⟨(p.1+1,v55),(by show (zC1 LV i).length - (p.1+1)<(zC1 LV i).length - p.1;have:=hkk;omega),⟨hkk,by show (wC bW 3 (qls (j7 (zDS blo bhi) ((zC1 LV i).take (p.1+1))))).p v55 _;rw [<-zFL hkk,zOU hk.1,zOr hk.2, <-zOU hk.1];exact (wC bW 3 _).st _ _ _ hv55 hbw⟩,s.keepK _ (fmz ⟨mz5,fmz ⟨mz6,fmz ⟨mz7,fmz ⟨mz8,fmz ⟨mz2,fmz ⟨.head _,fnz⟩⟩⟩⟩⟩⟩)⟩
 ·have hk:=zRw hI.1 e
  have hvL:(wC bW 3 (qls (j7 (zDS blo bhi) (zC1 LV i)))).p p.2 w:=by have:=hI.2;rw [hk,List.take_length] at this;exact this
  refine zWL ?_
  refine zWB ?_
  refine zWB ?_
  refine zC 1 ((13, .u (uI 0)):: []) hmix s kJ
   (oc zF<|zD) fun a w7 s=> ?_
  refine zA rfl ?_
  refine zWF ?_
  have hbL:=s.below
  replace s:=s0.back (s.keepK [(13, .u (uI 0)),(42, .u (uB (((decide ((i:Int)>0))&&(decide (((i - 1:Nat):Int)<((lls LV).length:Int))))&&(decide ((p.1:Int)<(((pns (llg [] LV (i - 1)).2).length:Nat):Int)))))),(0, .u (UF.eq (.slice none 0 0))),(2, .u (UF.eq vx)),(3, .u (UF.eq vl)),(4, .u (uI (i:Int))),(11, .u (UF.eq (p.2))),(12, .u (uI (p.1:Int)))] (fmz ⟨.head _,fmz ⟨mz1,fmz ⟨mz2,fmz ⟨mz3,fmz ⟨mz4,fmz ⟨mz5,fmz ⟨mz6,fmz ⟨mz7,fnz⟩⟩⟩⟩⟩⟩⟩⟩)) rfl
  have hv0:=(wC bW 3 _).st _ _ _ hvL hbL
  refine zBO (fun (p:Nat×Wq) w=>p.1<=(zFu LV i).length/\(wC bW 3 (qls (j7 (j7 (zDS blo bhi) (zC1 LV i)) ((zFu LV i).take p.1)))).p p.2 w) (fun p=> [(0, .u (UF.eq (.slice none 0 0))),(2, .u (UF.eq vx)),(3, .u (UF.eq vl)),(4, .u (uI (i:Int))),(11, .u (UF.eq (p.2))),(13, .u (uI (p.1:Int)))]) (fun p=>(zFu LV i).length - p.1) (0,p.2) (⟨zWO _,hv0⟩) (s.keepK _ (fmz ⟨mz2,fmz ⟨mz3,fmz ⟨mz4,fmz ⟨mz5,fmz ⟨mz6,fmz ⟨.head _,fnz⟩⟩⟩⟩⟩⟩)) fun p a w hI s=> ?_
  have s0:=s
  have hlw:=(SF.row 1 (lls LV)).st _ _ _ hl (hbA.trans (s0.below.mono hbA.size))
  have hLw:=hLL.below (hbA.trans (s0.below.mono hbA.size))
  replace s:=s.reb rfl [(0, .u (UF.eq (.slice none 0 0))),(2, .u (UF.eq vx)),(3, .u (UF.eq vl)),(4, .u (uI (i:Int))),(11, .u (UF.eq (p.2))),(13, .u (uI (p.1:Int)))] (fmz ⟨.inl (.head _),fmz ⟨.inl mz1,fmz ⟨.inl mz2,fmz ⟨.inl mz3,fmz ⟨.inl mz4,fmz ⟨.inl mz5,fnz⟩⟩⟩⟩⟩⟩)
  refine zWB ?_
  refine zWB ?_
  refine zC 13 ((56, .Z (uI (i:Int)))::(57, .Z (UF.eq vl))::(58, .Z (uI ((lls LV).length:Int)))::(59, .Z (uB (decide ((i:Int)<((lls LV).length:Int)))))::(60, .Z (uB (decide ((i:Int)<((lls LV).length:Int)))))::(61, .s (SF.imp ((decide ((i:Int)<((lls LV).length:Int)))=true) ((uI (p.1:Int)).tS)))::(62, .s (SF.imp ((decide ((i:Int)<((lls LV).length:Int)))=true) ((UF.eq vl).tS)))::(63, .s (SF.imp ((decide ((i:Int)<((lls LV).length:Int)))=true) ((uI (i:Int)).tS)))::(64, .s (SF.imp ((decide ((i:Int)<((lls LV).length:Int)))=true) (wB (wE [(llg [] LV i).1]).cf)))::(65, .s (SF.imp ((decide ((i:Int)<((lls LV).length:Int)))=true) ((UF.eq (llg [] LV i).1).tS)))::(66, .s (SF.imp ((decide ((i:Int)<((lls LV).length:Int)))=true) ((uI ((pns (llg [] LV i).2).length:Int)).tS)))::(67, .s (SF.imp ((decide ((i:Int)<((lls LV).length:Int)))=true) ((uB (decide ((p.1:Int)<((pns (llg [] LV i).2).length:Int)))).tS)))::(68, .u (uB ((decide ((i:Int)<((lls LV).length:Int)))&&(decide ((p.1:Int)<((pns (llg [] LV i).2).length:Int)))))):: []) hmix s kJ
   (oc zB<|oc zB<|oc (y8 (z:=1) (Cs:=lls LV) kJ (fun v W hb h=>(yT hlw h (s.up hb))) (fun _=>rfl))<|oc (zO .i64 (i:Int) ((lls LV).length:Int) (decide ((i:Int)<((lls LV).length:Int))) iiz iiz rfl rfl)<|oc zB<|oc (zG 60 (decide ((i:Int)<((lls LV).length:Int))) kJ iiz (fun e=>zQ [] ((uI (p.1:Int)).tS) fnz (fun _ _ h _=>h) kJ zB) (fun e W h=>absurd h e))<|oc (zG 60 (decide ((i:Int)<((lls LV).length:Int))) kJ iiz (fun e=>zQ [] ((UF.eq vl).tS) fnz (fun _ _ h _=>h) kJ zB) (fun e W h=>absurd h e))<|oc (zG 60 (decide ((i:Int)<((lls LV).length:Int))) kJ iiz (fun e=>zQ [] ((uI (i:Int)).tS) fnz (fun _ _ h _=>h) kJ zB) (fun e W h=>absurd h e))<|oc (zG 60 (decide ((i:Int)<((lls LV).length:Int))) kJ iiz (fun e=>zQ [(62,(UF.eq vl).tS),(63,(uI (i:Int)).tS)] (wB (wE [(llg [] LV i).1]).cf) (fmz ⟨fun v W h=>zL (c:=(decide ((i:Int)<((lls LV).length:Int)))=true) (f:=(UF.eq vl).tS) e h,fmz ⟨fun v W h=>zL (c:=(decide ((i:Int)<((lls LV).length:Int)))=true) (f:=(uI (i:Int)).tS) e h,fnz⟩⟩) (fun _ _ h _=>h) kJ (zZ (z:=1) (Cs:=lls LV) (i:=i) (C:=wE [(llg [] LV i).1]) kJ (zB7 (zPI e)) (fun v W hb h=>(yT hlw h (s.up hb))) iiz)) (fun e W h=>absurd h e))<|oc (zG 60 (decide ((i:Int)<((lls LV).length:Int))) kJ iiz (fun e=>zQ [(64,wB (wE [(llg [] LV i).1]).cf)] ((UF.eq (llg [] LV i).1).tS) (fmz ⟨fun v W h=>zL (c:=(decide ((i:Int)<((lls LV).length:Int)))=true) (f:=wB (wE [(llg [] LV i).1]).cf) e h,fnz⟩) (fun _ _ h _=>h) kJ (jS (C:=(wE [(llg [] LV i).1]).cf) kJ iiz zCh)) (fun e W h=>absurd h e))<|oc (zG 60 (decide ((i:Int)<((lls LV).length:Int))) kJ iiz (fun e=>zQ [(65,(UF.eq (llg [] LV i).1).tS)] ((uI ((pns (llg [] LV i).2).length:Int)).tS) (fmz ⟨fun v W h=>zL (c:=(decide ((i:Int)<((lls LV).length:Int)))=true) (f:=(UF.eq (llg [] LV i).1).tS) e h,fnz⟩) (fun _ _ h _=>h) kJ (y8 (z:=6) (Cs:=pns (llg [] LV i).2) kJ (fun v W hb h=>(by rw [show _=(llg [] LV i).1 from h];exact (SF.row 6 (pns (llg [] LV i).2)).st _ _ _ (hLw _ (qN (zPI e))) (s.up hb))) (fun _=>rfl))) (fun e W h=>absurd h e))<|oc (zG 60 (decide ((i:Int)<((lls LV).length:Int))) kJ iiz (fun e=>zQ [(61,(uI (p.1:Int)).tS),(66,(uI ((pns (llg [] LV i).2).length:Int)).tS)] ((uB (decide ((p.1:Int)<((pns (llg [] LV i).2).length:Int)))).tS) (fmz ⟨fun v W h=>zL (c:=(decide ((i:Int)<((lls LV).length:Int)))=true) (f:=(uI (p.1:Int)).tS) e h,fmz ⟨fun v W h=>zL (c:=(decide ((i:Int)<((lls LV).length:Int)))=true) (f:=(uI ((pns (llg [] LV i).2).length:Int)).tS) e h,fnz⟩⟩) (fun _ _ h _=>h) kJ (zO .i64 (p.1:Int) ((pns (llg [] LV i).2).length:Int) (decide ((p.1:Int)<((pns (llg [] LV i).2).length:Int))) iiz iiz rfl rfl)) (fun e W h=>absurd h e))<|oc (yO (decide ((i:Int)<((lls LV).length:Int))) iiz (fun e v W h=>jM (zL e h) e) (fun e v W h=>qV h e))<|zD) fun a w8 s=> ?_
  refine zA rfl ?_
  refine StS.cond s ((decide ((i:Int)<((lls LV).length:Int)))&&(decide ((p.1:Int)<((pns (llg [] LV i).2).length:Int)))) iiz (fun e=> ?_) (fun e=> ?_)
  ·have hk:=zSf e
   have hkk:p.1<(zFu LV i).length:=by rw [zN6 hk.1,zWJ];exact hk.2
   refine zWK ?_
   refine zWB ?_
   refine zWF ?_
   refine zA8 10 ((71, .Z (UF.eq (p.2)))::(72, .Z (UF.eq vl))::(73, .Z (uI (i:Int)))::(74, .s (wB (wE [(llg [] LV i).1]).cf))::(75, .Z (UF.eq (llg [] LV i).1))::(76, .Z (uI (p.1:Int)))::(77, .Y (fPN (at_ (llg [] LV i).2 p.1)))::(78, .X (fPN (at_ (llg [] LV i).2 p.1)) 0)::(79, .Z (fQN ((at_ (llg [] LV i).2 p.1).1)))::(80, .s (wC bW 3 (qls (zBZ (j7 (j7 (zDS blo bhi) (zC1 LV i)) ((zFu LV i).take p.1)) (at_ (llg [] LV i).2 p.1).1)))):: []) s kJ
    (oc zB<|oc zB<|oc zB<|oc (zZ (z:=1) (Cs:=lls LV) (i:=i) (C:=wE [(llg [] LV i).1]) kJ (zB7 hk.1) (fun v W hb h=>(yT hlw h (s.up hb))) iiz)<|oc (jS (C:=(wE [(llg [] LV i).1]).cf) kJ iiz zCh)<|oc zB<|oc (zZ (z:=6) (Cs:=pns (llg [] LV i).2) (i:=p.1) (C:=CU.agg (fPN (at_ (llg [] LV i).2 p.1))) kJ (zE9 hk.2) (fun v W hb h=>(by rw [show _=(llg [] LV i).1 from h];exact (SF.row 6 (pns (llg [] LV i).2)).st _ _ _ (hLw _ (qN hk.1)) (s.up hb))) iiz)<|oc (zK (C:=cg (fPN (at_ (llg [] LV i).2 p.1))) 0 kJ)<|oc (yB (C:=cg (fPN (at_ (llg [] LV i).2 p.1))) (k:=0) 3 kJ (h:=zFM))<|oc (zJ zE zO7 (fun u0 u1 W hb (h0:u0=p.2) (h1:QNp ((at_ (llg [] LV i).2 p.1).1) u1 W)=>(zDz (m:=m) (L:=(j7 (j7 (zDS blo bhi) (zC1 LV i)) ((zFu LV i).take p.1))) (x:=(at_ (llg [] LV i).2 p.1).1) (by rw [show u0=_ from h0];exact (SF.row 3 _).st _ _ _ hI.2.1 (s.up hb)) (wD h1 (hqL _ (qN hk.1) _ (zFs hk.2)).1) (hqB p.1) oQ hm0 (hnB p.1)).mono (wF (fun v w h=>⟨h.1,fun k hk=>by rcases h.2 with e|e;rw [e,show u0=_ from h0] at hk;exact hI.2.2 k hk;rw [hbW];exact zWC hbA.size (zWC s0.below.size (zWC (s.up hb).size (e k hk)))⟩))))<|zD) fun a w9 s hr=> ?_
   obtain ⟨v80,e80⟩: ∃v,a.tmps.getD 80 undef=v:=⟨_,rfl⟩
   have hv80:(wC bW 3 (qls (zBZ (j7 (j7 (zDS blo bhi) (zC1 LV i)) ((zFu LV i).take p.1)) (at_ (llg [] LV i).2 p.1).1))).p v80 w9:=e80▸(hr (_,_) mz9)
   replace s:=s.learn 80 v80 e80
   have s1:=s0.back (s.keepK [(80, .u (UF.eq v80)),(68, .u (uB ((decide ((i:Int)<((lls LV).length:Int)))&&(decide ((p.1:Int)<((pns (llg [] LV i).2).length:Int)))))),(0, .u (UF.eq (.slice none 0 0))),(2, .u (UF.eq vx)),(3, .u (UF.eq vl)),(4, .u (uI (i:Int))),(11, .u (UF.eq (p.2))),(13, .u (uI (p.1:Int)))] (fmz ⟨.head _,fmz ⟨mz1,fmz ⟨mz2,fmz ⟨mz3,fmz ⟨mz4,fmz ⟨mz5,fmz ⟨mz6,fmz ⟨mz7,fnz⟩⟩⟩⟩⟩⟩⟩⟩)) rfl
   replace s:=s1
   replace s:=s.reb rfl [(80, .u (UF.eq v80)),(68, .u (uB ((decide ((i:Int)<((lls LV).length:Int)))&&(decide ((p.1:Int)<((pns (llg [] LV i).2).length:Int)))))),(0, .u (UF.eq (.slice none 0 0))),(2, .u (UF.eq vx)),(3, .u (UF.eq vl)),(4, .u (uI (i:Int))),(11, .u (UF.eq (p.2))),(13, .u (uI (p.1:Int)))] (fmz ⟨.inl (.head _),fmz ⟨.inl mz1,fmz ⟨.inl mz2,fmz ⟨.inl mz3,fmz ⟨.inl mz4,fmz ⟨.inl mz5,fmz ⟨.inl mz6,fmz ⟨.inl mz7,fnz⟩⟩⟩⟩⟩⟩⟩⟩)
   replace s:=s.drop [11]
   refine zS (UF.eq v80) rfl s kJ iiz fun a w s=> ?_
   refine zA rfl ?_
   refine zR 2 ((69, .Z (uI (p.1:Int)))::(70, .u (uI ((p.1+1:Nat):Int))):: []) s kJ
    (oc zB<|oc (yM .i64 (p.1:Int) 1 ((p.1+1:Nat):Int) iiz iiz (wrap64 _ _ oQ oQ))<|zD) fun a w10 s=> ?_
   replace s:=s.drop [13]
   refine zS (uI ((p.1+1:Nat):Int)) rfl s kJ iiz fun a w s=> ?_
   refine zA rfl ?_
   have hbw:=s.below
   replace s:=s1.back (s.keepK [(13, .u (uI ((p.1+1:Nat):Int))),(70, .u (uI ((p.1+1:Nat):Int))),(11, .u (UF.eq v80)),(80, .u (UF.eq v80)),(68, .u (uB ((decide ((i:Int)<((lls LV).length:Int)))&&(decide ((p.1:Int)<((pns (llg [] LV i).2).length:Int)))))),(0, .u (UF.eq (.slice none 0 0))),(2, .u (UF.eq vx)),(3, .u (UF.eq vl)),(4, .u (uI (i:Int)))] (fmz ⟨.head _,fmz ⟨mz1,fmz ⟨mz2,fmz ⟨mz3,fmz ⟨mz4,fmz ⟨mz5,fmz ⟨mz6,fmz ⟨mz7,fmz ⟨mz8,fnz⟩⟩⟩⟩⟩⟩⟩⟩⟩)) rfl
   exact ⟨(p.1+1,v80),(by show (zFu LV i).length - (p.1+1)<(zFu LV i).length - p.1;have:=hkk;omega),⟨hkk,by show (wC bW 3 (qls (j7 (j7 (zDS blo bhi) (zC1 LV i)) ((zFu LV i).take (p.1+1))))).p v80 _;rw [<-zFL hkk,zN6 hk.1,zOs hk.2, <-zN6 hk.1];exact (wC bW 3 _).st _ _ _ hv80 hbw⟩,s.keepK _ (fmz ⟨mz5,fmz ⟨mz6,fmz ⟨mz7,fmz ⟨mz8,fmz ⟨mz2,fmz ⟨.head _,fnz⟩⟩⟩⟩⟩⟩)⟩
  ·have hk:=zQL hI.1 e
   have hvR:(wC bW 3 (qls (zGQ blo bhi LV i))).p p.2 w:=by have:=hI.2;rw [hk,List.take_length] at this;exact this
   refine zWL ?_
   refine zWB ?_
   refine zWB ?_
   refine zC 1 ((14, .u (uI 0)):: []) hmix s kJ
    (oc zF<|zD) fun a w11 s=> ?_
   refine zA rfl ?_
   refine zWF ?_
   refine q8 (fun k=>True) (fun k=> [(0, .u (UF.eq (.slice none 0 0))),(14, .u (uI 0)),(11, .u (UF.eq (p.2)))]) (fun k=>0) (0:Nat) (trivial) (s.keepK _ (fmz ⟨mz2,fmz ⟨.head _,fmz ⟨mz6,fnz⟩⟩⟩)) fun k a w hx s=> ?_
   refine zWB ?_
   refine zWB ?_
   refine zC 4 ((81, .Z (uI 0))::(82, .Z (UF.eq (.slice none 0 0)))::(83, .Z (uI 0))::(84, .u (uB false)):: []) hmix s kJ
    (oc zB<|oc zB<|oc (zC4 kJ (fun v W h=>⟨none,0,0,h,rfl⟩))<|oc (zO .i64 0 0 false iiz iiz dC rfl)<|zD) fun a w12 s=> ?_
   refine zA rfl ?_
   refine StS.cond s false iiz (fun e=>by cases e) (fun e=> ?_)
   refine zWL ?_
   refine zWB ?_
   refine zC 2 ((120, .Z (UF.eq (p.2)))::(10, .u (UF.eq (p.2))):: []) hmix s kJ
    (oc zB<|oc zF<|zD) fun a w13 s=> ?_
   refine zA rfl ?_
   refine zWH ?_
   exact StS.resN s (hbA.trans (s0.below.mono hbA.size)) (t:=10) rfl (by rw [s.val (.head _)];exact (wC _ 3 _).st _ _ _ hvR s.below)
theorem zIl {m:Nat} {W:Wp} {l z vx vl:Wq} {blo bhi:V2} {X:List Rat} {LV:List (Wq×List V2)} (h1:l= .slice none 0 0) (h2:(fPR (fPN blo) (fPN bhi)).p z W) (hx:(SF.row 3 (qls X)).p vx W) (hl:(SF.row 1 (lls LV)).p vl W) (hLL:zNu 6 pns LV W) (hlo:QB blo.1 m/\QB blo.2 m) (hhi:QB bhi.1 m/\QB bhi.2 m) (hqL: ∀x,x∈LV-> ∀q,q∈x.2->QB q.1 m/\QB q.2 m) (hnL: ∀x,x∈LV->x.2.length<=10000) (hn:X.length<=1000000) (hln:LV.length<=1000000) (hm:m<=100) (hm0:0<m):Calls prog 23 #[l,z,vx,vl] W (Ret W (fLB W.heap.size 3 qls (zKn blo bhi LV X.length))):=by
 refine z9 [(UF.eq (.slice none 0 0)).tS,(fPR (fPN blo) (fPN bhi)).tS,(UF.eq vx).tS,(UF.eq vl).tS] func23 rfl kJ ⟨h1,h2,rfl,rfl,trivial⟩ fun a s=> ?_
 replace s:=s.renew [(0, .u (UF.eq (.slice none 0 0))),(1, .u (fPR (fPN blo) (fPN bhi))),(2, .u (UF.eq vx)),(3, .u (UF.eq vl))] (fmz ⟨.inr ⟨_,rfl, .head _⟩,fmz ⟨.inr ⟨_,rfl,mz1⟩,fmz ⟨.inr ⟨_,rfl,mz2⟩,fmz ⟨.inr ⟨_,rfl,mz3⟩,fnz⟩⟩⟩⟩)
 refine zWB ?_
 refine zC 0 [] hmix s kJ
  zD fun a w1 s=> ?_
 refine yD (CU.agg (fPR (fPN blo) (fPN bhi))) rfl s kJ (fun v W h=>zFN h) fun b5 a w s=> ?_
 refine zS (UF.eq (.slice none 0 0)) rfl s kJ iiz fun a w s=> ?_
 refine zA rfl ?_
 refine zWB ?_
 refine zC 1 ((9, .u (UF.eq (.slice none 0 0))):: []) hmix s kJ
  (oc zF<|zD) fun a w2 s=> ?_
 refine zA rfl ?_
 refine zWB ?_
 refine zWB ?_
 refine zC 1 ((10, .u (uI 0)):: []) hmix s kJ
  (oc zF<|zD) fun a w3 s=> ?_
 refine zA rfl ?_
 refine zWF ?_
 obtain ⟨base,hbase⟩: ∃b,b=w3.heap.size:=⟨_,rfl⟩
 have hb0:W.heap.size<=base:=by rw [hbase];exact s.gr.size
 have hsz0:base<=w3.heap.size:=by rw [hbase];exact zWN _
 replace s:StS _ _ _ [⟨5,38,CU.agg (fPR (fPN blo) (fPN bhi)),b5,true⟩] _ _ _ _:=s.freeze
 have hbx5:b5<base:=by rw [hbase];exact s.old _ (.head _)
 refine zBO (fun (p:Nat×Wq×List (Wq×List Rat)) w=>(p.1<=X.length)/\p.2.2.map (·.2)=zKn blo bhi LV p.1/\(base<=w.heap.size/\zAW w base 28 1 p.2.1 (lls p.2.2))/\LLG base 3 qls p.2.2 p.2.1 w) (fun p=> [(0, .u (UF.eq (.slice none 0 0))),(2, .u (UF.eq vx)),(3, .u (UF.eq vl)),(9, .u (UF.eq (p.2.1))),(10, .u (uI (p.1:Int)))]) (fun p=>X.length - p.1) (0, .slice none 0 0, []) (⟨zWO _,rfl,⟨hsz0,zAW.nil _ _ _ _⟩,LLG.nil _ _ _ _ _⟩) (s.keepK _ (fmz ⟨mz3,fmz ⟨mz5,fmz ⟨mz6,fmz ⟨mz1,fmz ⟨.head _,fnz⟩⟩⟩⟩⟩)) fun p a w hI s=> ?_
 have s0:=s
 have hxw:=(SF.row 3 (qls X)).st _ _ _ hx s0.below
 have hlw:=(SF.row 1 (lls LV)).st _ _ _ hl s0.below
 have hLw:=hLL.below s0.below
 have hln2:=congrArg List.length hI.2.1
 rw [zWJ,zGR] at hln2
 replace s:=s.reb rfl [(0, .u (UF.eq (.slice none 0 0))),(2, .u (UF.eq vx)),(3, .u (UF.eq vl)),(9, .u (UF.eq (p.2.1))),(10, .u (uI (p.1:Int)))] (fmz ⟨.inl (.head _),fmz ⟨.inl mz1,fmz ⟨.inl mz2,fmz ⟨.inl mz3,fmz ⟨.inl mz4,fnz⟩⟩⟩⟩⟩)
 refine zWB ?_
 refine zWB ?_
 refine zC 4 ((11, .Z (uI (p.1:Int)))::(12, .Z (UF.eq vx))::(13, .Z (uI ((qls X).length:Int)))::(14, .u (uB (decide ((p.1:Int)<((qls X).length:Int))))):: []) hmix s kJ
  (oc zB<|oc zB<|oc (y8 (z:=3) (Cs:=qls X) kJ (fun v W hb h=>(yT hxw h (s.up hb))) (fun _=>rfl))<|oc (zO .i64 (p.1:Int) ((qls X).length:Int) (decide ((p.1:Int)<((qls X).length:Int))) iiz iiz rfl rfl)<|zD) fun a w4 s=> ?_
 refine zA rfl ?_
 refine StS.cond s (decide ((p.1:Int)<((qls X).length:Int))) iiz (fun e=> ?_) (fun e=> ?_)
 ·have hk:p.1<X.length:=by have:=zWI e;simp at this;omega
  refine zWK ?_
  refine zWB ?_
  refine zWF ?_
  refine zA8 8 ((17, .u (UF.eq (p.2.1)))::(18, .Z (UF.eq (.slice none 0 0)))::(19, .Z (fPR (fPN blo) (fPN bhi)))::(20, .Z (UF.eq vx))::(21, .Z (UF.eq vl))::(22, .Z (uI (p.1:Int)))::(23, .s (wC w.heap.size 3 (qls (zGQ blo bhi LV p.1))))::(24, .s (zS1 (wC w.heap.size 3 (qls (zGQ blo bhi LV p.1))))):: []) s kJ
   (oc zB<|oc zB<|oc (zI (f:=fPR (fPN blo) (fPN bhi)) 12 kJ (hz:=zJB))<|oc zB<|oc zB<|oc zB<|oc (zMn zE zUB (fun u0 u1 u2 u3 u4 W hb (h0:u0= .slice none 0 0) (h1:(fPR (fPN blo) (fPN bhi)).p u1 W) (h2:u2=vx) (h3:u3=vl) (h4:u4= .int .i64 (p.1:Int))=>(zKu (m:=m) (i:=p.1) h0 h1 (yT hlw h3 (s.up hb)) (hLw.below (s.up hb)) h4 hlo hhi hqL hnL oQ hln hm hm0).mono (wF (fun v w h=>⟨h.1,fun k hk=>zWC (s.up hb).size (h.2 k hk)⟩))))<|oc (qB (fun u W (hu:(wC w.heap.size 3 (qls (zGQ blo bhi LV p.1))).p u W)=>zR7 hu))<|zD) fun a w5 s hr=> ?_
  obtain ⟨u1,hu1,hu2⟩:=(hr (_,_) mz7)
  have hll:=(hI.2.2.2).below s.below
  refine zI3 [wE [u1]] s0 (s.keepK [(17, .u (UF.eq (p.2.1))),(14, .u (uB (decide ((p.1:Int)<((qls X).length:Int))))),(0, .u (UF.eq (.slice none 0 0))),(2, .u (UF.eq vx)),(3, .u (UF.eq vl)),(9, .u (UF.eq (p.2.1))),(10, .u (uI (p.1:Int)))] (fmz ⟨.head _,fmz ⟨mz1,fmz ⟨mz2,fmz ⟨mz3,fmz ⟨mz4,fmz ⟨mz5,fmz ⟨mz6,fnz⟩⟩⟩⟩⟩⟩⟩)) hb0 hI.2.2.1 rfl kJ kJ kJ (s.fct (.tmp 17)) hu1 (fun C hC=>by rw [zWE.1 hC];exact zSW (zBH hu2.1)) (by have:=zBC p.2.2;simp;omega) (fun q hq hr=>by rcases zWD.1 hq with rfl|hq;exact hbx5;cases hq) fun v' a w hI' hku hgr hv' s=> ?_
  have hll':=hll.app (y:=zGQ blo bhi LV p.1) hI.2.2.1.1 (fun y c hc=>zBY _ c hc) dC hu2 (fun k hk=>(hI.2.2.1.2.lt k hk).2) hgr hku hv'
  have s1:=s
  replace s:StS _ _ _ [⟨5,38,CU.agg (fPR (fPN blo) (fPN bhi)),b5,true⟩] _ _ _ _:=s.freeze
  replace s:=s.reb rfl [(25, .u (UF.eq v')),(17, .u (UF.eq (p.2.1))),(14, .u (uB (decide ((p.1:Int)<((qls X).length:Int))))),(0, .u (UF.eq (.slice none 0 0))),(2, .u (UF.eq vx)),(3, .u (UF.eq vl)),(9, .u (UF.eq (p.2.1))),(10, .u (uI (p.1:Int)))] (fmz ⟨.inl (.head _),fmz ⟨.inl mz1,fmz ⟨.inl mz2,fmz ⟨.inl mz3,fmz ⟨.inl mz4,fmz ⟨.inl mz5,fmz ⟨.inl mz6,fmz ⟨.inl mz7,fnz⟩⟩⟩⟩⟩⟩⟩⟩)
  replace s:=s.drop [9]
  refine zS (UF.eq v') rfl s kJ iiz fun a w s=> ?_
  refine zA rfl ?_
  refine zR 2 ((15, .Z (uI (p.1:Int)))::(16, .u (uI ((p.1+1:Nat):Int))):: []) s kJ
   (oc zB<|oc (yM .i64 (p.1:Int) 1 ((p.1+1:Nat):Int) iiz iiz (wrap64 _ _ oQ oQ))<|zD) fun a w6 s=> ?_
  replace s:=s.drop [10]
  refine zS (uI ((p.1+1:Nat):Int)) rfl s kJ iiz fun a w s=> ?_
  refine zA rfl ?_
  have hbw:=s.below
  replace s:=s1.back (s.keepK [(10, .u (uI ((p.1+1:Nat):Int))),(16, .u (uI ((p.1+1:Nat):Int))),(9, .u (UF.eq v')),(25, .u (UF.eq v')),(17, .u (UF.eq (p.2.1))),(14, .u (uB (decide ((p.1:Int)<((qls X).length:Int))))),(0, .u (UF.eq (.slice none 0 0))),(2, .u (UF.eq vx)),(3, .u (UF.eq vl))] (fmz ⟨.head _,fmz ⟨mz1,fmz ⟨mz2,fmz ⟨mz3,fmz ⟨mz4,fmz ⟨mz5,fmz ⟨mz6,fmz ⟨mz7,fmz ⟨mz8,fnz⟩⟩⟩⟩⟩⟩⟩⟩⟩)) rfl
  exact ⟨(p.1+1,v',p.2.2++ [(u1,zGQ blo bhi LV p.1)]),(by show X.length - (p.1+1)<X.length - p.1;omega),⟨by show p.1+1<=X.length;omega,by show List.map _ (p.2.2++_)=_;rw [List.map_append,hI.2.1];rfl,⟨zWC hI'.1 hbw.size,by show zAW _ _ _ _ _ (lls (p.2.2++_));rw [<-zJO];exact hI'.2.below hbw⟩,hll'.below hbw⟩,s.keepK _ (fmz ⟨mz6,fmz ⟨mz7,fmz ⟨mz8,fmz ⟨mz2,fmz ⟨.head _,fnz⟩⟩⟩⟩⟩)⟩
 ·have hk:p.1=X.length:=by have h7:=zWG e;have h8:=hI.1;simp at h7;omega
  refine zWL ?_
  refine zWB ?_
  refine zC 2 ((26, .Z (UF.eq (p.2.1)))::(8, .u (UF.eq (p.2.1))):: []) hmix s kJ
   (oc zB<|oc zF<|zD) fun a w7 s=> ?_
  refine zA rfl ?_
  refine zWH ?_
  exact StS.resN s s0.below (t:=8) rfl (by rw [s.val (.head _)];exact ⟨p.2.2,by rw [<-hk];exact hI.2.1,⟨(SF.row 1 _).st _ _ _ hI.2.2.1.2.row s.below,fun k hk=>zWC hb0 (hI.2.2.1.2.lt k hk).1⟩,(hI.2.2.2.below s.below).out hb0⟩)
end Go.Proofs.Wd

namespace Go.Proofs.Wd
open Tryz
set_option maxRecDepth 100000
set_option maxHeartbeats 1000000
open Go.RowKit Lb
section
variable {S:Nat->Prop} {w0 w1:Wp} {K K0:List (Nat×KF)} {n n0:Nat} {ds0:List Deferred} {a a0:Act} {w:Wp}
theorem qW.thawL: ∀(B:List Bx),qW S w0 a0 w1 B->qW noS w1 a w (frz B)->qW S w0 a w B
 | [],_,_=>trivial
 |x::B,⟨⟨_,_,h2,_,_,_,h6⟩,h7⟩,⟨⟨cs,g1,_,g3,g4,g5,_⟩,g7⟩=>⟨⟨cs,g1,h2,g3,g4,g5,h6⟩,qW.thawL B h7 g7⟩
theorem StS.thawL {B:List Bx} (h0:StS S w0 K0 B n0 ds0 a0 w1) (h:St w1 K (frz B) n [] a w) (hu:(K.all fun q=>zSX q.2)=true):StS S w0 K B n [] a w:=
 ⟨h0.gr.trans h.below,h.size,h.nd,fun q hq=>by
  have h1:=h.sl q hq
  obtain ⟨f,e⟩:=zDY hu q hq
  rw [e] at h1 ⊢
  exact h1,qW.thawL B h0.bx h.bx,⟨[],Marks.nil _ _⟩, .inl (zDY hu)⟩
end
section
variable {S:Nat->Prop} {P:Program} {Q:Exit->Act->Wp->Prop} {w0:Wp} {K:List (Nat×KF)} {B:List Bx} {n:Nat} {ds:List Deferred} {a:Act} {w:Wp} {ops:Array Oper} {m:Nat} {F:Fence}
theorem zDq {k c kk o:Nat} {t:TypeId} {x y:Operand} {ty:TypeId} {pos:String} {aft:Array Edge} (C:CU) (f:SF) (ho:ops[k]?=some ⟨none, .store t x y,ty,pos,aft,none⟩) (h:StS S w0 K B n ds a w) (hsz:zKb P t=some kk) {z:Bx} (hB:zFT B c=some z) (hro:z.r=false)
  (hp: ∀v W,(Wd.fct (zAc K B) x).p v W->v= pO z.b o) (hy: ∀v W,(Wd.fct (zAc K B) y).p v W->f.p v W)
  (hv: ∀v W,f.p v W->v.cells.size=kk/\(∀u,u∈v.cells.toList->u.oneCell'=true)/\v.cells.toList.all yR=true/\ ∀cs,z.c.p cs W->o+kk<=cs.length/\C.p (jQ cs o v.cells.toList) W)
  (fin: ∀w',w.grownBy w' (some z.b)->zAo w w'->StS S w0 K (zF6 B c C) n ds a w'->zBx F m P ops Q (k+1) a w'):zBx F m P ops Q k a w:=by
 obtain ⟨hz,hzc⟩:=zBs hB
 obtain ⟨cs,h1,h2,h3,h4,h5⟩:=h.bx.mem z hz
 have e1:=hp _ _ (h.fct x)
 obtain ⟨g1,g2,g3,g4⟩:=hv _ _ (hy _ _ (h.fct y))
 obtain ⟨g5,g6⟩:=g4 cs h4
 have hk:zAo w (w.setRow z.b (jQ cs o (a.eval y).cells.toList).toArray):=zCo h3 (by simpa using h5)
 have hrun:(execOp a.eval ⟨none, .store t x y,ty,pos,aft,none⟩).run P w= .ok .skip (w.setRow z.b (jQ cs o (a.eval y).cells.toList).toArray):=by
  unfold zKb at hsz
  cases hi:P.info? t with
  |none=>rw [hi] at hsz;cases hsz
  |some i=>
   rw [hi] at hsz
   simp only [Option.map_some,Option.some.injEq] at hsz
   have hr:=zAY (P:=P) (a.eval y).cells.toList o cs w h3 (by simp;omega) g2
   have hs:=zBN (b:=z.b) (a.eval y).cells.toList o 0
   rw [Nat.add_zero] at hs
   simp [execOp,Instr.storeAt,Instr.sureAddr,e1,storeVar,sizeOf,typeInfo,hi,hsz,g1,hs,hr]
 refine zBe ho rfl ⟨fun f hf=>(by cases hf), ?_⟩
 rw [Oper.semAt_eq _ _ _ (fun _ e=>by cases e),hrun]
 refine fin _ (zCH w z.b _) hk (h.turn hB hro (zCH w z.b _) (setRow_heap w z.b cs.toArray _ z.e (0,0) h3) (C.us _ _ _ g6 hk) ?_)
 unfold jQ
 simp only [List.all_append,zWP]
 refine ⟨⟨zWW.2 fun u hu=>zWW.1 h5 u (zWV hu),g3⟩,zWW.2 fun u hu=>zWW.1 h5 u (List.mem_of_mem_drop hu)⟩
theorem vO (h:St w0 K B n [] a w) {fn:Func} {f:SF} {t kk:Nat} {e:TypeId} (C:CU) (hr:fn.results=#[.cell t e]) (hsz:zAn P e=some kk) {y:Bx} (hB:zFT B t=some y) (hyC:y.c=C) (hyl: ∀cs W,C.p cs W->cs.length=kk)
  (hd: ∀cs,C.p cs w->f.p (.agg cs.toArray) w):bodyPost P fn (Ret w0 f) .ret a w:=by
 obtain ⟨cs,b,h0,h1,h2⟩:=h.cellv hsz hB hyC hyl
 refine ⟨h.nd, .agg cs.toArray, ?_,⟨_,rfl,hd _ h2,h.gr.below⟩⟩
 simp [results,hr,asAddr,h0,h1]
end
theorem qD {N b z:Nat} {Cs:List CU} {v:Wq} {w w':Wp} (h:(wC N z Cs).p v w) (hg:w.grownBy w' (some b)) (hk:zAo w w') (hb:b<N):(wC N z Cs).p v w':=
 ⟨zG7 h.1 hg hk (.inr fun k hk e=>by have:=h.2 k hk;cases e;omega),h.2⟩
theorem zPQ {α:Type} {b b' z:Nat} {C:α->List CU} {xs:List α} (hb:b'<=b) (v:Wq) (W:Wp) (h:(fLB b z C xs).p v W):(fLB b' z C xs).p v W:=by
 obtain ⟨L,e,h1,h2⟩:=h
 exact ⟨L,e,⟨h1.1,fun k hk=>zWC hb (h1.2 k hk)⟩,fun x hx=>⟨(h2 x hx).1,fun k hk=>zWC hb ((h2 x hx).2 k hk)⟩⟩
section
variable {f g f' g':UF} {x l y c:Wq}
theorem zSP {cs:List Wq} {W:Wp} (p:List Wq) (x l y c:Wq) (hs: ∀u,u∈ [x,l,y,c]-> ∃A n k,u= .slice A n k) (h1:(CU.agg (fPR (fPT f g) (fPT f' g'))).p p W) (e:cs=p++ [x,l,y,c]):(CU.agg (fMD (fPR (fPT f g) (fPT f' g')) x l y c)).p cs W:=by
 subst e
 exact ⟨p,rfl,h1,hs⟩
theorem zDL {u:Wq} (hs: ∃A n k,u= .slice A n k) (o:Nat) (x' l' y' c':Wq) (hm: ∀p:List Wq,p.length=12->jQ (p++ [x,l,y,c]) o [u]=p++ [x',l',y',c']) (ho:o+1<=16) (hin: ∀z,z∈ [x',l',y',c']->z=u∨z∈ [x,l,y,c]):
  ∀v W,(UF.eq u).tS.p v W->v.cells.size=1/\(∀z,z∈v.cells.toList->z.oneCell'=true)/\v.cells.toList.all yR=true/\ ∀cs,(CU.agg (fMD (fPR (fPT f g) (fPT f' g')) x l y c)).p cs W->o+1<=cs.length/\(CU.agg (fMD (fPR (fPT f g) (fPT f' g')) x' l' y' c')).p (jQ cs o v.cells.toList) W:=by
 intro v W h
 obtain rfl:v=u:=h
 obtain ⟨A,n,k,rfl⟩:=hs
 refine ⟨rfl,fun z hz=> ?_,rfl,fun cs hc=> ?_⟩
 ·rw [zWE.1 hz];rfl
 ·obtain ⟨p,rfl,hl,h1,h2⟩:=zEK hc
  refine ⟨by rw [zDM _ _ hc];exact ho,zSP p x' l' y' c' (fun z hz=> ?_) h1 (hm p hl)⟩
  rcases hin z hz with e|e
  ·exact ⟨_,_,_,e⟩
  ·exact h2 z e
theorem zNR (p:List Wq) (hl:p.length=12) (u:Wq):jQ (p++ [x,l,y,c]) 12 [u]=p++ [u,l,y,c]/\jQ (p++ [x,l,y,c]) 13 [u]=p++ [x,u,y,c]/\jQ (p++ [x,l,y,c]) 14 [u]=p++ [x,l,u,c]/\jQ (p++ [x,l,y,c]) 15 [u]=p++ [x,l,y,u]:=by
 match p,hl with
 | [a1,a2,a3,a4,a5,a6,a7,a8,a9,a10,a11,a12],_=>exact ⟨rfl,rfl,rfl,rfl⟩
theorem zSN {W:Wp}: ∀v,(fMD (fPR (fPT f g) (fPT f' g')) x l y c).tS.p v W->v.cells.size=16/\(∀z,z∈v.cells.toList->z.oneCell'=true)/\v.cells.toList.all yR=true/\ ∀cs,(CU.len 16).p cs W->0+16<=cs.length/\(CU.agg (fMD (fPR (fPT f g) (fPT f' g')) x l y c)).p (jQ cs 0 v.cells.toList) W:=by
 intro v h
 obtain ⟨vs,rfl,h1,h2,h3,h4⟩:=zGr v W h
 refine ⟨h1,h2,h3,fun cs hc=> ?_⟩
 have hc:cs.length=16:=hc
 refine ⟨by omega, ?_⟩
 have e:jQ cs 0 (Value.agg vs.toArray).cells.toList=vs:=by
  show cs.take 0++vs++cs.drop (0+vs.length)=vs
  rw [h1,List.drop_eq_nil_of_le oQ]
  simp
 rw [e]
 exact h4
end
theorem zVC (a1 a2 a3 a4 a5 a6 a7 a8 a9 a10 a11 a12:Wq):prog.built 43 [(0, .agg #[a1,a2,a3,a4,a5,a6,a7,a8,a9,a10,a11,a12])]=some #[a1,a2,a3,a4,a5,a6,a7,a8,a9,a10,a11,a12, .slice none 0 0, .slice none 0 0, .slice none 0 0, .slice none 0 0]:=by kernel_rfl
theorem zUW {f g f' g':UF} {u:Wq} {W:Wp} (h:(fPR (fPT f g) (fPT f' g')).p u W): ∃cells,prog.built 43 [(0,u)]=some cells/\(fMD (fPR (fPT f g) (fPT f' g')) (.slice none 0 0) (.slice none 0 0) (.slice none 0 0) (.slice none 0 0)).p (.agg cells) W:=by
 obtain ⟨vs,rfl,hl,_,_,h4⟩:=zEG u W h
 match vs,hl,h4 with
 | [a1,a2,a3,a4,a5,a6,a7,a8,a9,a10,a11,a12],_,h4=>
  exact ⟨_,zVC .., [a1,a2,a3,a4,a5,a6,a7,a8,a9,a10,a11,a12],rfl,h4,fun z hz=>⟨none,0,0,by simpa using hz⟩⟩
/-! ### The plane of no pieces -/
abbrev bLo:V2:=(((-1:Int):Rat),((-1:Int):Rat))
abbrev bHi:V2:=(((1:Int):Rat),((1:Int):Rat))
def X0:List Rat:= [((-1:Int):Rat),((1:Int):Rat)]
def L0:List V2:= [bLo,bHi]
theorem zTV:zBZ (zBZ [] bLo.1) bHi.1=X0:=by decide+kernel
theorem zUc:zRY X0 bLo bHi (X0.length - 1)= [L0]:=by decide+kernel
theorem zTW (v:Wq):zKn bLo bHi [(v,L0)] X0.length= [X0,X0]:=by
 have h1:j7 (j7 (zDS bLo bHi) []) (L0.map (·.1))=X0:=by decide+kernel
 have h2:j7 (j7 (zDS bLo bHi) (L0.map (·.2))) []=X0:=by decide+kernel
 show []++ [j7 (j7 (zDS bLo bHi) []) (L0.map (·.1))]++ [j7 (j7 (zDS bLo bHi) (L0.map (·.2))) []]=_
 rw [h1,h2]
 rfl
theorem zRp {α β:Type} {L:List (α×β)} {b:β} (h:L.map (·.2)= [b]): ∃a,L= [(a,b)]:=by
 match L,h with
 | [(a,b')],h=>exact ⟨a,by simp at h;rw [h]⟩
theorem zRo {α β:Type} {L:List (α×β)} {b c:β} (h:L.map (·.2)= [b,c]): ∃a a',L= [(a,b),(a',c)]:=by
 match L,h with
 | [(a,b'),(a',c')],h=>exact ⟨a,a',by simp at h;rw [h.1,h.2]⟩
theorem zDX:(QB bLo.1 1/\QB bLo.2 1)/\(QB bHi.1 1/\QB bHi.2 1):=⟨zFv dC dC,zFv dC dC⟩
theorem zNz: ∀q,q∈X0->QB q 1:=fun q hq=>by
 rcases zWD.1 hq with rfl|hq
 ·exact zDX.1.1
 ·rw [zWE.1 hq];exact zDX.2.1
theorem zST: ∀q,q∈L0->QB q.1 1/\QB q.2 1:=fun q hq=>by
 rcases zWD.1 hq with rfl|hq
 ·exact zDX.1
 ·rw [zWE.1 hq];exact zDX.2
theorem zJT (lo hi x a:Rat):zDn lo hi x (a,a)=a:=by
 show a+(x - lo) / (hi - lo)*(a - a)=a
 rw [Rat.sub_self,Rat.mul_zero,Rat.add_zero]
theorem zO0 (lo hi x:Rat): ∀q,q∈jN lo hi x L0->QB q 40:=fun q hq=>by
 unfold jN at hq
 split at hq
 ·cases hq
 ·rcases zWD.1 hq with rfl|hq
  ·rw [show bLo=(((-1:Int):Rat),((-1:Int):Rat)) from rfl,zJT];exact zDX.1.1.mono dC
  ·rw [zWE.1 hq,show bHi=(((1:Int):Rat),((1:Int):Rat)) from rfl,zJT];exact zDX.2.1.mono dC
noncomputable def C0 (v0 v1 v2:Wq):List zAb:=zIP X0 [(v0,L0)] [(v1,X0),(v2,X0)] X0.length
def fM0:SF:=⟨fun v W=> ∃vx vl vw vc v0 v1 v2,(fMD (fPR (fPN bLo) (fPN bHi)) vx vl vw vc).p v W/\MOk W vx vl vw vc X0 [(v0,L0)] [(v1,X0),(v2,X0)] (C0 v0 v1 v2),fun _ _ _ ⟨vx,vl,vw,vc,v0,v1,v2,h1,h2⟩ hb=>⟨vx,vl,vw,vc,v0,v1,v2,(fMD _ _ _ _ _).tS.st _ _ _ h1 hb,h2.below hb⟩⟩
theorem zVc {v0 v1 v2:Wq} {CV:List zAb} (hc:CV.length<=1000000):MBd 1 X0 [(v0,L0)] [(v1,X0),(v2,X0)] CV:=⟨zNz,fun y hy=>by rw [zWE.1 hy];exact zST,fun y hy=>by
 rcases zWD.1 hy with rfl|hy
 ·exact zNz
 ·rw [zWE.1 hy];exact zNz,by decide,fun y hy=>by rw [zWE.1 hy];show L0.length<=_;decide,fun y hy=>by
 rcases zWD.1 hy with rfl|hy
 ·show X0.length<=_;decide
 ·rw [zWE.1 hy];show X0.length<=_;decide,by simp,by simp,hc⟩
theorem zKw {m:Nat} {W:Wp} {l u:Wq} {lo hi:V2} (h1:l= .slice none 0 0) (h2:(fPR (fPN lo) (fPN hi)).p u W) (hlo:QB lo.1 m/\QB lo.2 m) (hhi:QB hi.1 m/\QB hi.2 m) (hm:m<=100) (hm0:0<m):Calls prog 21 #[l,u] W (Ret W (wC W.heap.size 3 (qls (zBZ (zBZ [] lo.1) hi.1)))):=by
 obtain ⟨bW,hbW⟩: ∃b,b=W.heap.size:=⟨_,rfl⟩
 rw [<-hbW]
 refine z9 [(UF.eq (.slice none 0 0)).tS,(fPR (fPN lo) (fPN hi)).tS] func21 rfl kJ ⟨h1,h2,trivial⟩ fun a s=> ?_
 replace s:=s.renew [(0, .u (UF.eq (.slice none 0 0))),(1, .u (fPR (fPN lo) (fPN hi)))] (fmz ⟨.inr ⟨_,rfl, .head _⟩,fmz ⟨.inr ⟨_,rfl,mz1⟩,fnz⟩⟩)
 refine zWB ?_
 refine zC 0 [] hmix s kJ
  zD fun a w1 s=> ?_
 refine yD (CU.agg (fPR (fPN lo) (fPN hi))) rfl s kJ (fun v W h=>zFN h) fun b3 a w s=> ?_
 refine zS (UF.eq (.slice none 0 0)) rfl s kJ iiz fun a w s=> ?_
 refine zA rfl ?_
 refine zWB ?_
 refine qL [] [] 8 ((11, .X (fPR (fPN lo) (fPN hi)) 0)::(12, .X (fPR (fPN lo) (fPN hi)) 0)::(13, .Z (fQN ((lo).1)))::(14, .s (wC bW 3 (qls (zBZ [] lo.1))))::(15, .X (fPR (fPN lo) (fPN hi)) 6)::(16, .X (fPR (fPN lo) (fPN hi)) 6)::(17, .Z (fQN ((hi).1)))::(18, .s (wC bW 3 (qls (zBZ (zBZ [] lo.1) hi.1)))):: []) hmix s fnz kJ
  (oc (zK (C:=cg (fPR (fPN lo) (fPN hi))) 0 kJ)<|oc (yE (C:=cg (fPR (fPN lo) (fPN hi))) 0 0 kJ)<|oc (yB (C:=cg (fPR (fPN lo) (fPN hi))) (k:=0) 3 kJ (h:=zSB))<|oc (zJ zE zTc (fun u0 u1 W hb (h0:u0= .slice none 0 0) (h1:QNp ((lo).1) u1 W)=>(zHl (m:=m) (L:= []) (x:=lo.1) (by rw [show u0=_ from h0];exact zDw 3 _) (wD h1 hlo.1) (fun y hy=>by cases hy) oQ hm0 dC).mono (wF (fun v w h=>⟨h.1,fun k hk=>by rcases h.2 with e|e;rw [e,show u0=_ from h0] at hk;cases hk;rw [hbW];exact zWC (s.up hb).size (e k hk)⟩))))<|oc (zK (C:=cg (fPR (fPN lo) (fPN hi))) 6 kJ)<|oc (yE (C:=cg (fPR (fPN lo) (fPN hi))) 6 0 kJ)<|oc (yB (C:=cg (fPR (fPN lo) (fPN hi))) (k:=6) 3 kJ (h:=zSA))<|oc (zJ zE zTc (fun u0 u1 W hb (h0:(wC bW 3 (qls (zBZ [] lo.1))).p u0 W) (h1:QNp ((hi).1) u1 W)=>(zHl (m:=m) (L:=(zBZ [] lo.1)) (x:=hi.1) h0.1 (wD h1 hhi.1) (zIu hlo.1) oQ hm0 (by have:=zDE [] lo.1;simp at this;omega)).mono (wF (fun v w h=>⟨h.1,fun k hk=>by rcases h.2 with e|e;rw [e] at hk;exact h0.2 k hk;rw [hbW];exact zWC (s.up hb).size (e k hk)⟩))))<|zD) fun Q' hQ a w2 s hr hd=> ?_
 obtain ⟨v18,e18⟩: ∃v,a.tmps.getD 18 undef=v:=⟨_,rfl⟩
 have hv18:(wC bW 3 (qls (zBZ (zBZ [] lo.1) hi.1))).p v18 w2:=e18▸(hr (_,_) mz7)
 replace s:=s.learn 18 v18 e18
 have hbW2:=s.below
 replace s:StS _ _ _ [⟨3,38,CU.agg (fPR (fPN lo) (fPN hi)),b3,true⟩] _ _ _ _:=s.freeze
 replace s:=s.reb rfl [(18, .u (UF.eq v18)),(4, .u (UF.eq (.slice none 0 0))),(0, .u (UF.eq (.slice none 0 0))),(1, .u (fPR (fPN lo) (fPN hi)))] (fmz ⟨.inl (.head _),fmz ⟨.inl mz1,fmz ⟨.inl mz2,fmz ⟨.inl mz3,fnz⟩⟩⟩⟩)
 refine zS (UF.eq v18) rfl s kJ iiz fun a w s=> ?_
 refine zA rfl (hQ _ _ ?_)
 refine zWB ?_
 refine zWB ?_
 refine zC 1 ((6, .u (uI 0)):: []) hmix s kJ
  (oc zF<|zD) fun a w3 s=> ?_
 refine zA rfl ?_
 refine zWF ?_
 refine q8 (fun k=>True) (fun k=> [(0, .u (UF.eq (.slice none 0 0))),(5, .u (UF.eq v18)),(6, .u (uI 0))]) (fun k=>0) (0:Nat) (trivial) (s.keepK _ (fmz ⟨mz4,fmz ⟨mz1,fmz ⟨.head _,fnz⟩⟩⟩)) fun k a w hx s=> ?_
 refine zWB ?_
 refine zWB ?_
 refine zC 4 ((19, .Z (uI 0))::(20, .Z (UF.eq (.slice none 0 0)))::(21, .Z (uI 0))::(22, .u (uB false)):: []) hmix s kJ
  (oc zB<|oc zB<|oc (zC4 kJ (fun v W h=>⟨none,0,0,h,rfl⟩))<|oc (zO .i64 0 0 false iiz iiz dC rfl)<|zD) fun a w4 s=> ?_
 refine zA rfl ?_
 refine StS.cond s false iiz (fun e=>by cases e) (fun e=> ?_)
 refine zWL ?_
 refine zWB ?_
 refine zC 2 ((71, .Z (UF.eq v18))::(4, .u (UF.eq v18)):: []) hmix s kJ
  (oc zB<|oc zF<|zD) fun a w5 s=> ?_
 refine zA rfl ?_
 refine zWH ?_
 exact StS.resN s hbW2 (t:=4) rfl (by rw [s.val (.head _)];exact (wC _ 3 _).st _ _ _ hv18 s.below)
theorem zIm {W:Wp} {l:Wq} (h1:l= .slice none 0 0):Calls prog 8 #[l] W (Ret W fM0):=by
 refine z9 [(UF.eq (.slice none 0 0)).tS] func8 rfl kJ ⟨h1,trivial⟩ fun a s=> ?_
 replace s:=s.renew [(0, .u (UF.eq (.slice none 0 0)))] (fmz ⟨.inr ⟨_,rfl, .head _⟩,fnz⟩)
 refine zWB ?_
 refine zC 0 [] hmix s kJ
  zD fun a w1 s=> ?_
 refine z4 (CU.len 16) (cs:= [.bool false, .slice none 0 0, .slice none 0 0, .bool false, .slice none 0 0, .slice none 0 0, .bool false, .slice none 0 0, .slice none 0 0, .bool false, .slice none 0 0, .slice none 0 0, .slice none 0 0, .slice none 0 0, .slice none 0 0, .slice none 0 0]) kJ rfl s kJ (fun W=>rfl) rfl fun b2 a w s=> ?_
 refine zA rfl ?_
 refine zWB ?_
 refine zC 3 ((4, .Z (UF.eq (.slice none 0 0)))::(5, .Z (fPR (fPN bLo) (fPN bHi)))::(6, .u (fMD (fPR (fPN bLo) (fPN bHi)) (.slice none 0 0) (.slice none 0 0) (.slice none 0 0) (.slice none 0 0))):: []) hmix s kJ
  (oc zB<|oc (zH zE zUP (fun u0 W hb (h0:u0= .slice none 0 0)=>zIn h0))<|oc (zBB (fun u W (hu:(fPR (fPN bLo) (fPN bHi)).p u W)=>zUW hu))<|zD) fun a w2 s=> ?_
 refine z4 (CU.len 16) (cs:= [.bool false, .slice none 0 0, .slice none 0 0, .bool false, .slice none 0 0, .slice none 0 0, .bool false, .slice none 0 0, .slice none 0 0, .bool false, .slice none 0 0, .slice none 0 0, .slice none 0 0, .slice none 0 0, .slice none 0 0, .slice none 0 0]) kJ rfl s kJ (fun W=>rfl) rfl fun b3 a w s=> ?_
 refine zN (CU.agg (fMD (fPR (fPN bLo) (fPN bHi)) (.slice none 0 0) (.slice none 0 0) (.slice none 0 0) (.slice none 0 0))) ((fMD (fPR (fPN bLo) (fPN bHi)) (.slice none 0 0) (.slice none 0 0) (.slice none 0 0) (.slice none 0 0)).tS) rfl s kJ rfl rfl rfl iiz iiz zGr fun a w s=> ?_
 refine zA rfl ?_
 refine zWB ?_
 obtain ⟨N,hN⟩: ∃N,N=w.heap.size:=⟨_,rfl⟩
 have hNw:N<=w.heap.size:=Nat.le_of_eq hN
 have hb3:b3<N:=by rw [hN];exact s.old _ (.head _)
 have hb2:b2<N:=by rw [hN];exact s.old _ mz1
 have s1:=s
 replace s:StS _ _ _ [⟨3,43,CU.agg (fMD (fPR (fPN bLo) (fPN bHi)) (.slice none 0 0) (.slice none 0 0) (.slice none 0 0) (.slice none 0 0)),b3,true⟩,⟨2,43,CU.len 16,b2,true⟩] _ _ _ _:=s.freeze
 replace s:=s.reb rfl [(6, .u (fMD (fPR (fPN bLo) (fPN bHi)) (.slice none 0 0) (.slice none 0 0) (.slice none 0 0) (.slice none 0 0))),(0, .u (UF.eq (.slice none 0 0)))] (fmz ⟨.inl (.head _),fmz ⟨.inl mz1,fnz⟩⟩)
 refine qZ 5 ((7, .Z (UF.eq (.slice none 0 0)))::(8, .X (fMD (fPR (fPN bLo) (fPN bHi)) (.slice none 0 0) (.slice none 0 0) (.slice none 0 0) (.slice none 0 0)) 0)::(9, .Z (fPR (fPN bLo) (fPN bHi)))::(10, .s (wC N 3 (qls X0)))::(11, .u (UF.eq (pO b3 12))):: []) hmix s kJ
  (oc zB<|oc (zK (C:=cg (fMD (fPR (fPN bLo) (fPN bHi)) (.slice none 0 0) (.slice none 0 0) (.slice none 0 0) (.slice none 0 0))) 0 kJ)<|oc (yB (C:=cg (fMD (fPR (fPN bLo) (fPN bHi)) (.slice none 0 0) (.slice none 0 0) (.slice none 0 0) (.slice none 0 0))) (k:=0) 12 kJ (h:=zJN))<|oc (zJ zE zUO (fun u0 u1 W hb (h0:u0= .slice none 0 0) (h1:(fPR (fPN bLo) (fPN bHi)).p u1 W)=>(zKw (m:=1) h0 h1 zDX.1 zDX.2 dC dC).mono (wF (fun v w h=>⟨zTV▸h.1,fun k hk=>zWC hNw (zWC (s.up hb).size (h.2 k hk))⟩))))<|oc (jJ (b:=b3) (o:=0) 12 kJ (fun _ _ h=>h.1))<|zD) fun a w3 s hr=> ?_
 obtain ⟨v10,e10⟩: ∃v,a.tmps.getD 10 undef=v:=⟨_,rfl⟩
 have hX:(wC N 3 (qls X0)).p v10 w3:=(e10▸(hr (_,_) mz3))
 replace s:=s.learn 10 v10 e10
 have hbk:=s.below
 replace hNw:=zWC hNw hbk.size
 replace s:=s1.thawL (s.keepK [(10, .u (UF.eq v10)),(11, .u (UF.eq (pO b3 12))),(6, .u (fMD (fPR (fPN bLo) (fPN bHi)) (.slice none 0 0) (.slice none 0 0) (.slice none 0 0) (.slice none 0 0))),(0, .u (UF.eq (.slice none 0 0)))] (fmz ⟨.head _,fmz ⟨mz1,fmz ⟨mz2,fmz ⟨mz3,fnz⟩⟩⟩⟩)) rfl
 refine zDq (c:=3) (o:=12) (kk:=1) (CU.agg (fMD (fPR (fPN bLo) (fPN bHi)) v10 (.slice none 0 0) (.slice none 0 0) (.slice none 0 0))) ((UF.eq v10).tS) rfl s kJ rfl rfl iiz iiz (zDL (zBH hX.1) 12 v10 (.slice none 0 0) (.slice none 0 0) (.slice none 0 0) (fun p hl=>(zNR p hl _).1) dC (fun z hz=>by simp only [zWD,zWX,or_false] at hz ⊢;rcases hz with h|h|h|h<;>simp [h])) fun w hg hku s=> ?_
 replace hX:=qD hX hg hku hb3
 replace hNw:=zWC hNw hg.size
 refine zA rfl ?_
 refine zWB ?_
 have s1:=s
 replace s:StS _ _ _ [⟨3,43,CU.agg (fMD (fPR (fPN bLo) (fPN bHi)) v10 (.slice none 0 0) (.slice none 0 0) (.slice none 0 0)),b3,true⟩,⟨2,43,CU.len 16,b2,true⟩] _ _ _ _:=s.freeze
 replace s:=s.reb rfl [(10, .u (UF.eq v10)),(11, .u (UF.eq (pO b3 12))),(6, .u (fMD (fPR (fPN bLo) (fPN bHi)) (.slice none 0 0) (.slice none 0 0) (.slice none 0 0) (.slice none 0 0))),(0, .u (UF.eq (.slice none 0 0)))] (fmz ⟨.inl (.head _),fmz ⟨.inl mz1,fmz ⟨.inl mz2,fmz ⟨.inl mz3,fnz⟩⟩⟩⟩)
 refine qZ 7 ((12, .Z (UF.eq (.slice none 0 0)))::(13, .X (fMD (fPR (fPN bLo) (fPN bHi)) v10 (.slice none 0 0) (.slice none 0 0) (.slice none 0 0)) 0)::(14, .Z (fPR (fPN bLo) (fPN bHi)))::(15, .X (fMD (fPR (fPN bLo) (fPN bHi)) v10 (.slice none 0 0) (.slice none 0 0) (.slice none 0 0)) 12)::(16, .Z (UF.eq v10))::(17, .s (fLB N 6 pns [L0]))::(18, .u (UF.eq (pO b3 13))):: []) hmix s kJ
  (oc zB<|oc (zK (C:=cg (fMD (fPR (fPN bLo) (fPN bHi)) v10 (.slice none 0 0) (.slice none 0 0) (.slice none 0 0))) 0 kJ)<|oc (yB (C:=cg (fMD (fPR (fPN bLo) (fPN bHi)) v10 (.slice none 0 0) (.slice none 0 0) (.slice none 0 0))) (k:=0) 12 kJ (h:=zJN))<|oc (zK (C:=cg (fMD (fPR (fPN bLo) (fPN bHi)) v10 (.slice none 0 0) (.slice none 0 0) (.slice none 0 0))) 12 kJ)<|oc (yL (C:=cg (fMD (fPR (fPN bLo) (fPN bHi)) v10 (.slice none 0 0) (.slice none 0 0) (.slice none 0 0))) (k:=12) kJ (h:=zKF))<|oc (zBK zE zUN (fun u0 u1 u2 W hb (h0:u0= .slice none 0 0) (h1:(fPR (fPN bLo) (fPN bHi)).p u1 W) (h2:u2=v10)=>(zLX (m:=1) h0 h1 (yT hX.1 h2 (s.up hb)) zDX.1 zDX.2 zNz dC dC dC).mono (wF (fun v w h=>zPQ (zWC hNw (s.up hb).size) v w (zUc▸h)))))<|oc (jJ (b:=b3) (o:=0) 13 kJ (fun _ _ h=>h.1))<|zD) fun a w4 s hr=> ?_
 obtain ⟨v17,e17⟩: ∃v,a.tmps.getD 17 undef=v:=⟨_,rfl⟩
 obtain ⟨LL,eL,hL,hL0⟩:(fLB N 6 pns [L0]).p v17 w4:=(e17▸(hr (_,_) mz5))
 obtain ⟨v0,rfl⟩:=zRp eL
 replace hL0:=hL0 _ (.head _)
 replace s:=s.learn 17 v17 e17
 have hbk:=s.below
 replace hNw:=zWC hNw hbk.size
 replace hX:=(wC N _ _).st _ _ _ hX hbk
 replace s:=s1.thawL (s.keepK [(17, .u (UF.eq v17)),(18, .u (UF.eq (pO b3 13))),(10, .u (UF.eq v10)),(11, .u (UF.eq (pO b3 12))),(6, .u (fMD (fPR (fPN bLo) (fPN bHi)) (.slice none 0 0) (.slice none 0 0) (.slice none 0 0) (.slice none 0 0))),(0, .u (UF.eq (.slice none 0 0)))] (fmz ⟨.head _,fmz ⟨mz1,fmz ⟨mz2,fmz ⟨mz3,fmz ⟨mz4,fmz ⟨mz5,fnz⟩⟩⟩⟩⟩⟩)) rfl
 refine zDq (c:=3) (o:=13) (kk:=1) (CU.agg (fMD (fPR (fPN bLo) (fPN bHi)) v10 v17 (.slice none 0 0) (.slice none 0 0))) ((UF.eq v17).tS) rfl s kJ rfl rfl iiz iiz (zDL (zBH hL.1) 13 v10 v17 (.slice none 0 0) (.slice none 0 0) (fun p hl=>(zNR p hl _).2.1) dC (fun z hz=>by simp only [zWD,zWX,or_false] at hz ⊢;rcases hz with h|h|h|h<;>simp [h])) fun w hg hku s=> ?_
 replace hX:=qD hX hg hku hb3
 replace hL:=qD hL hg hku hb3
 replace hL0:=qD hL0 hg hku hb3
 replace hNw:=zWC hNw hg.size
 refine zA rfl ?_
 refine zWB ?_
 have s1:=s
 replace s:StS _ _ _ [⟨3,43,CU.agg (fMD (fPR (fPN bLo) (fPN bHi)) v10 v17 (.slice none 0 0) (.slice none 0 0)),b3,true⟩,⟨2,43,CU.len 16,b2,true⟩] _ _ _ _:=s.freeze
 replace s:=s.reb rfl [(17, .u (UF.eq v17)),(18, .u (UF.eq (pO b3 13))),(10, .u (UF.eq v10)),(11, .u (UF.eq (pO b3 12))),(6, .u (fMD (fPR (fPN bLo) (fPN bHi)) (.slice none 0 0) (.slice none 0 0) (.slice none 0 0) (.slice none 0 0))),(0, .u (UF.eq (.slice none 0 0)))] (fmz ⟨.inl (.head _),fmz ⟨.inl mz1,fmz ⟨.inl mz2,fmz ⟨.inl mz3,fmz ⟨.inl mz4,fmz ⟨.inl mz5,fnz⟩⟩⟩⟩⟩⟩)
 refine qZ 9 ((19, .Z (UF.eq (.slice none 0 0)))::(20, .X (fMD (fPR (fPN bLo) (fPN bHi)) v10 v17 (.slice none 0 0) (.slice none 0 0)) 0)::(21, .Z (fPR (fPN bLo) (fPN bHi)))::(22, .X (fMD (fPR (fPN bLo) (fPN bHi)) v10 v17 (.slice none 0 0) (.slice none 0 0)) 12)::(23, .Z (UF.eq v10))::(24, .X (fMD (fPR (fPN bLo) (fPN bHi)) v10 v17 (.slice none 0 0) (.slice none 0 0)) 13)::(25, .Z (UF.eq v17))::(26, .s (fLB N 3 qls [X0,X0]))::(27, .u (UF.eq (pO b3 14))):: []) hmix s kJ
  (oc zB<|oc (zK (C:=cg (fMD (fPR (fPN bLo) (fPN bHi)) v10 v17 (.slice none 0 0) (.slice none 0 0))) 0 kJ)<|oc (yB (C:=cg (fMD (fPR (fPN bLo) (fPN bHi)) v10 v17 (.slice none 0 0) (.slice none 0 0))) (k:=0) 12 kJ (h:=zJN))<|oc (zK (C:=cg (fMD (fPR (fPN bLo) (fPN bHi)) v10 v17 (.slice none 0 0) (.slice none 0 0))) 12 kJ)<|oc (yL (C:=cg (fMD (fPR (fPN bLo) (fPN bHi)) v10 v17 (.slice none 0 0) (.slice none 0 0))) (k:=12) kJ (h:=zKF))<|oc (zK (C:=cg (fMD (fPR (fPN bLo) (fPN bHi)) v10 v17 (.slice none 0 0) (.slice none 0 0))) 13 kJ)<|oc (yL (C:=cg (fMD (fPR (fPN bLo) (fPN bHi)) v10 v17 (.slice none 0 0) (.slice none 0 0))) (k:=13) kJ (h:=zRn))<|oc (zAi zE zUM (fun u0 u1 u2 u3 W hb (h0:u0= .slice none 0 0) (h1:(fPR (fPN bLo) (fPN bHi)).p u1 W) (h2:u2=v10) (h3:u3=v17)=>(zIl (m:=1) (LV:= [(v0,L0)]) h0 h1 (yT hX.1 h2 (s.up hb)) (yT hL.1 h3 (s.up hb)) (fun x hx=>by rw [zWE.1 hx];exact (SF.row 6 _).st _ _ _ hL0.1 (s.up hb)) zDX.1 zDX.2 (fun x hx=>by rw [zWE.1 hx];exact zST) (fun x hx=>by rw [zWE.1 hx];show L0.length<=_;decide) dC (by simp) dC dC).mono (wF (fun v w h=>zPQ (zWC hNw (s.up hb).size) v w (zTW v0▸h)))))<|oc (jJ (b:=b3) (o:=0) 14 kJ (fun _ _ h=>h.1))<|zD) fun a w5 s hr=> ?_
 obtain ⟨v26,e26⟩: ∃v,a.tmps.getD 26 undef=v:=⟨_,rfl⟩
 obtain ⟨LW,eW,hW,hW1⟩:(fLB N 3 qls [X0,X0]).p v26 w5:=(e26▸(hr (_,_) mz7))
 obtain ⟨v1,v2,rfl⟩:=zRo eW
 have hW2:=hW1 _ mz1
 replace hW1:=hW1 _ (.head _)
 replace s:=s.learn 26 v26 e26
 have hbk:=s.below
 replace hNw:=zWC hNw hbk.size
 replace hX:=(wC N _ _).st _ _ _ hX hbk
 replace hL:=(wC N _ _).st _ _ _ hL hbk
 replace hL0:=(wC N _ _).st _ _ _ hL0 hbk
 replace s:=s1.thawL (s.keepK [(26, .u (UF.eq v26)),(27, .u (UF.eq (pO b3 14))),(17, .u (UF.eq v17)),(18, .u (UF.eq (pO b3 13))),(10, .u (UF.eq v10)),(11, .u (UF.eq (pO b3 12))),(6, .u (fMD (fPR (fPN bLo) (fPN bHi)) (.slice none 0 0) (.slice none 0 0) (.slice none 0 0) (.slice none 0 0))),(0, .u (UF.eq (.slice none 0 0)))] (fmz ⟨.head _,fmz ⟨mz1,fmz ⟨mz2,fmz ⟨mz3,fmz ⟨mz4,fmz ⟨mz5,fmz ⟨mz6,fmz ⟨mz7,fnz⟩⟩⟩⟩⟩⟩⟩⟩)) rfl
 refine zDq (c:=3) (o:=14) (kk:=1) (CU.agg (fMD (fPR (fPN bLo) (fPN bHi)) v10 v17 v26 (.slice none 0 0))) ((UF.eq v26).tS) rfl s kJ rfl rfl iiz iiz (zDL (zBH hW.1) 14 v10 v17 v26 (.slice none 0 0) (fun p hl=>(zNR p hl _).2.2.1) dC (fun z hz=>by simp only [zWD,zWX,or_false] at hz ⊢;rcases hz with h|h|h|h<;>simp [h])) fun w hg hku s=> ?_
 replace hX:=qD hX hg hku hb3
 replace hL:=qD hL hg hku hb3
 replace hL0:=qD hL0 hg hku hb3
 replace hW:=qD hW hg hku hb3
 replace hW1:=qD hW1 hg hku hb3
 replace hW2:=qD hW2 hg hku hb3
 replace hNw:=zWC hNw hg.size
 refine zA rfl ?_
 refine zWB ?_
 have s1:=s
 replace s:StS _ _ _ [⟨3,43,CU.agg (fMD (fPR (fPN bLo) (fPN bHi)) v10 v17 v26 (.slice none 0 0)),b3,true⟩,⟨2,43,CU.len 16,b2,true⟩] _ _ _ _:=s.freeze
 replace s:=s.reb rfl [(26, .u (UF.eq v26)),(27, .u (UF.eq (pO b3 14))),(17, .u (UF.eq v17)),(18, .u (UF.eq (pO b3 13))),(10, .u (UF.eq v10)),(11, .u (UF.eq (pO b3 12))),(6, .u (fMD (fPR (fPN bLo) (fPN bHi)) (.slice none 0 0) (.slice none 0 0) (.slice none 0 0) (.slice none 0 0))),(0, .u (UF.eq (.slice none 0 0)))] (fmz ⟨.inl (.head _),fmz ⟨.inl mz1,fmz ⟨.inl mz2,fmz ⟨.inl mz3,fmz ⟨.inl mz4,fmz ⟨.inl mz5,fmz ⟨.inl mz6,fmz ⟨.inl mz7,fnz⟩⟩⟩⟩⟩⟩⟩⟩)
 have hM:MOk w v10 v17 v26 (.slice none 0 0) X0 [(v0,L0)] [(v1,X0),(v2,X0)] []:=⟨hX.1,hL.1,fun x hx=>by rw [zWE.1 hx];exact hL0.1,hW.1,fun x hx=>by rcases zWD.1 hx with rfl|hx;exact hW1.1;rw [zWE.1 hx];exact hW2.1,zDw 9 _⟩
 refine qZ 3 ((28, .Z (fMD (fPR (fPN bLo) (fPN bHi)) v10 v17 v26 (.slice none 0 0)))::(29, .s (wC N 9 (ces (C0 v0 v1 v2))))::(30, .u (UF.eq (pO b3 15))):: []) hmix s kJ
  (oc (zI (f:=fMD (fPR (fPN bLo) (fPN bHi)) v10 v17 v26 (.slice none 0 0)) 16 kJ (hz:=zDM))<|oc (zH zE zUL (fun u0 W hb (h0:(fMD (fPR (fPN bLo) (fPN bHi)) v10 v17 v26 (.slice none 0 0)).p u0 W)=>(zKv (m:=1) h0 (MOk.below hM (s.up hb)) (zVc dC) (fun k _ _=>by match k with|0=>exact zO0 _ _ _|k+1=>rename_i h _;simp at h) dC dC dC (fun y hy=>by rcases zWD.1 hy with rfl|hy;show X0.length<=_;decide;rw [zWE.1 hy];show X0.length<=_;decide) (fun y hy=>by rw [zWE.1 hy];show L0.length<=_;decide)).mono (wF (fun v w h=>⟨zAW.row h,fun k hk=>zWC hNw (zWC (s.up hb).size (h.lt k hk).1)⟩))))<|oc (jJ (b:=b3) (o:=0) 15 kJ (fun _ _ h=>h.1))<|zD) fun a w6 s hr=> ?_
 obtain ⟨v29,e29⟩: ∃v,a.tmps.getD 29 undef=v:=⟨_,rfl⟩
 have hC:(wC N 9 (ces (C0 v0 v1 v2))).p v29 w6:=(e29▸(hr (_,_) mz1))
 replace s:=s.learn 29 v29 e29
 have hbk:=s.below
 replace hNw:=zWC hNw hbk.size
 replace hX:=(wC N _ _).st _ _ _ hX hbk
 replace hL:=(wC N _ _).st _ _ _ hL hbk
 replace hL0:=(wC N _ _).st _ _ _ hL0 hbk
 replace hW:=(wC N _ _).st _ _ _ hW hbk
 replace hW1:=(wC N _ _).st _ _ _ hW1 hbk
 replace hW2:=(wC N _ _).st _ _ _ hW2 hbk
 replace s:=s1.thawL (s.keepK [(29, .u (UF.eq v29)),(30, .u (UF.eq (pO b3 15))),(26, .u (UF.eq v26)),(27, .u (UF.eq (pO b3 14))),(17, .u (UF.eq v17)),(18, .u (UF.eq (pO b3 13))),(10, .u (UF.eq v10)),(11, .u (UF.eq (pO b3 12))),(6, .u (fMD (fPR (fPN bLo) (fPN bHi)) (.slice none 0 0) (.slice none 0 0) (.slice none 0 0) (.slice none 0 0))),(0, .u (UF.eq (.slice none 0 0)))] (fmz ⟨.head _,fmz ⟨mz1,fmz ⟨mz2,fmz ⟨mz3,fmz ⟨mz4,fmz ⟨mz5,fmz ⟨mz6,fmz ⟨mz7,fmz ⟨mz8,fmz ⟨mz9,fnz⟩⟩⟩⟩⟩⟩⟩⟩⟩⟩)) rfl
 refine zDq (c:=3) (o:=15) (kk:=1) (CU.agg (fMD (fPR (fPN bLo) (fPN bHi)) v10 v17 v26 v29)) ((UF.eq v29).tS) rfl s kJ rfl rfl iiz iiz (zDL (zBH hC.1) 15 v10 v17 v26 v29 (fun p hl=>(zNR p hl _).2.2.2) dC (fun z hz=>by simp only [zWD,zWX,or_false] at hz ⊢;rcases hz with h|h|h|h<;>simp [h])) fun w hg hku s=> ?_
 replace hX:=qD hX hg hku hb3
 replace hL:=qD hL hg hku hb3
 replace hL0:=qD hL0 hg hku hb3
 replace hW:=qD hW hg hku hb3
 replace hW1:=qD hW1 hg hku hb3
 replace hW2:=qD hW2 hg hku hb3
 replace hC:=qD hC hg hku hb3
 replace hNw:=zWC hNw hg.size
 refine zA rfl ?_
 refine zWB ?_
 have s1:=s
 replace s:StS _ _ _ [⟨3,43,CU.agg (fMD (fPR (fPN bLo) (fPN bHi)) v10 v17 v26 v29),b3,true⟩,⟨2,43,CU.len 16,b2,true⟩] _ _ _ _:=s.freeze
 replace s:=s.reb rfl [(29, .u (UF.eq v29)),(30, .u (UF.eq (pO b3 15))),(26, .u (UF.eq v26)),(27, .u (UF.eq (pO b3 14))),(17, .u (UF.eq v17)),(18, .u (UF.eq (pO b3 13))),(10, .u (UF.eq v10)),(11, .u (UF.eq (pO b3 12))),(6, .u (fMD (fPR (fPN bLo) (fPN bHi)) (.slice none 0 0) (.slice none 0 0) (.slice none 0 0) (.slice none 0 0))),(0, .u (UF.eq (.slice none 0 0)))] (fmz ⟨.inl (.head _),fmz ⟨.inl mz1,fmz ⟨.inl mz2,fmz ⟨.inl mz3,fmz ⟨.inl mz4,fmz ⟨.inl mz5,fmz ⟨.inl mz6,fmz ⟨.inl mz7,fmz ⟨.inl mz8,fmz ⟨.inl mz9,fnz⟩⟩⟩⟩⟩⟩⟩⟩⟩⟩)
 refine zC 1 ((31, .u (fMD (fPR (fPN bLo) (fPN bHi)) v10 v17 v26 v29)):: []) hmix s kJ
  (oc (zI (f:=fMD (fPR (fPN bLo) (fPN bHi)) v10 v17 v26 v29) 16 kJ (hz:=zDM))<|zD) fun a w7 s=> ?_
 have hbk:=s.below
 replace hNw:=zWC hNw hbk.size
 replace hX:=(wC N _ _).st _ _ _ hX hbk
 replace hL:=(wC N _ _).st _ _ _ hL hbk
 replace hL0:=(wC N _ _).st _ _ _ hL0 hbk
 replace hW:=(wC N _ _).st _ _ _ hW hbk
 replace hW1:=(wC N _ _).st _ _ _ hW1 hbk
 replace hW2:=(wC N _ _).st _ _ _ hW2 hbk
 replace hC:=(wC N _ _).st _ _ _ hC hbk
 replace s:=s1.thawL (s.keepK [(31, .u (fMD (fPR (fPN bLo) (fPN bHi)) v10 v17 v26 v29)),(29, .u (UF.eq v29)),(30, .u (UF.eq (pO b3 15))),(26, .u (UF.eq v26)),(27, .u (UF.eq (pO b3 14))),(17, .u (UF.eq v17)),(18, .u (UF.eq (pO b3 13))),(10, .u (UF.eq v10)),(11, .u (UF.eq (pO b3 12))),(6, .u (fMD (fPR (fPN bLo) (fPN bHi)) (.slice none 0 0) (.slice none 0 0) (.slice none 0 0) (.slice none 0 0))),(0, .u (UF.eq (.slice none 0 0)))] (fmz ⟨.head _,fmz ⟨mz1,fmz ⟨mz2,fmz ⟨mz3,fmz ⟨mz4,fmz ⟨mz5,fmz ⟨mz6,fmz ⟨mz7,fmz ⟨mz8,fmz ⟨mz9,fmz ⟨zGp,fnz⟩⟩⟩⟩⟩⟩⟩⟩⟩⟩⟩)) rfl
 refine zDq (c:=2) (o:=0) (kk:=16) (CU.agg (fMD (fPR (fPN bLo) (fPN bHi)) v10 v17 v26 v29)) ((fMD (fPR (fPN bLo) (fPN bHi)) v10 v17 v26 v29).tS) rfl s kJ rfl rfl (fun _ _ h=>h.1) iiz (fun v W h=>zSN v h) fun w hg hku s=> ?_
 replace hX:=qD hX hg hku hb2
 replace hL:=qD hL hg hku hb2
 replace hL0:=qD hL0 hg hku hb2
 replace hW:=qD hW hg hku hb2
 replace hW1:=qD hW1 hg hku hb2
 replace hW2:=qD hW2 hg hku hb2
 replace hC:=qD hC hg hku hb2
 refine zA rfl ?_
 refine zWH ?_
 exact vO s (CU.agg (fMD (fPR (fPN bLo) (fPN bHi)) v10 v17 v26 v29)) rfl kJ rfl rfl zDM (fun cs h=>⟨v10,v17,v26,v29,v0,v1,v2,h,⟨hX.1,hL.1,fun x hx=>by rw [zWE.1 hx];exact hL0.1,hW.1,fun x hx=>by rcases zWD.1 hx with rfl|hx;exact hW1.1;rw [zWE.1 hx];exact hW2.1,hC.1⟩⟩)
end Go.Proofs.Wd

namespace Go.Proofs.Wd
open Tryz
set_option maxRecDepth 100000
set_option maxHeartbeats 1000000
open Go.RowKit Lb
theorem StS.learnU {S:Nat->Prop} {w0:Wp} {K:List (Nat×KF)} {B:List Bx} {n:Nat} {ds:List Deferred} {a:Act} {w:Wp} (h:StS S w0 K B n ds a w) (t:Nat) (f:UF) (e:f.p (a.tmps.getD t undef) w):StS S w0 ((t, .u f)::K) B n ds a w:=
 ⟨h.gr,h.size,h.nd,fun q hq=>by
  rcases zWD.1 hq with rfl|hq
  ·exact e
  ·exact h.sl q hq,h.bx,h.mks,h.so.imp (fun hu q hq=>(by
   rcases zWD.1 hq with rfl|hq
   ·exact ⟨_,rfl⟩
   ·exact hu q hq)) (fun x=>x)⟩
section
variable (v0 v1 v2:Wq)
theorem zHW:(C0 v0 v1 v2).length=9:=by kernel_rfl
theorem zVt:qO X0 [(v0,L0)] [(v1,X0),(v2,X0)] (C0 v0 v1 v2) ((((0:Int):Rat),((0:Int):Rat)):V2)=(4,0):=by kernel_rfl
theorem zVs:qO X0 [(v0,L0)] [(v1,X0),(v2,X0)] (C0 v0 v1 v2) ((((0:Int):Rat),((3:Int):Rat)):V2)=(-1,270):=by kernel_rfl
theorem zVr:qR bLo bHi ((((5:Int):Rat),((0:Int):Rat)):V2)=((((1:Int):Rat),((0:Int):Rat)):V2):=by decide+kernel
theorem zVq:qO X0 [(v0,L0)] [(v1,X0),(v2,X0)] (C0 v0 v1 v2) ((((1:Int):Rat),((0:Int):Rat)):V2)=(7,0):=by kernel_rfl
theorem zVp:((cel (C0 v0 v1 v2) 4).1==3)=true:=by kernel_rfl
theorem zVo:((cel (C0 v0 v1 v2) 7).1==1)=true:=by kernel_rfl
theorem zVn:(zKY ((((1:Int):Rat),((0:Int):Rat)):V2) ((((1:Int):Rat),((0:Int):Rat)):V2)==0)=true:=by decide+kernel
theorem zVm:zAK [((1:Int):Rat),((2:Int):Rat)] ((2:Int):Rat)=(1,true):=by decide+kernel
theorem zVl:zAK [((1:Int):Rat),((3:Int):Rat)] ((2:Int):Rat)=(0,false):=by decide+kernel
theorem zUa:MBd 1 X0 [(v0,L0)] [(v1,X0),(v2,X0)] (C0 v0 v1 v2):=zVc (by rw [zHW];decide)
end
theorem zER {W:Wp} (hT:Tab W):Calls prog 5 #[] W (Ret W (fB true).tS):=by
 refine z9 [] func5 rfl kJ trivial fun a s=> ?_
 refine zWB ?_
 refine zC 1 ((0, .u (uB false)):: []) hmix s kJ
  (oc zF<|zD) fun a w1 s=> ?_
 refine zA rfl ?_
 refine zWB ?_
 refine qZ 1 ((13, .s fM0):: []) hmix s kJ
  (oc (zH zE zVA (fun u0 W hb (h0:u0= .slice none 0 0)=>zIm h0))<|zD) fun a w2 s hr=> ?_
 obtain ⟨vx,vl,vw,vc,v0,v1,v2,hm,hM⟩:=(hr (_,_) (.head _))
 replace s:=s.learnU 13 _ hm
 have hbA:=s.below
 replace hT:=hT.below hbA
 replace s:=s.reb rfl [(13, .u (fMD (fPR (fPN bLo) (fPN bHi)) vx vl vw vc)),(0, .u (uB false))] (fmz ⟨.inl (.head _),fmz ⟨.inl mz1,fnz⟩⟩)
 refine z4 (CU.len 16) (cs:= [.bool false, .slice none 0 0, .slice none 0 0, .bool false, .slice none 0 0, .slice none 0 0, .bool false, .slice none 0 0, .slice none 0 0, .bool false, .slice none 0 0, .slice none 0 0, .slice none 0 0, .slice none 0 0, .slice none 0 0, .slice none 0 0]) kJ rfl s kJ (fun W=>rfl) rfl fun b1 a w s=> ?_
 refine zN (CU.agg (fMD (fPR (fPN bLo) (fPN bHi)) vx vl vw vc)) ((fMD (fPR (fPN bLo) (fPN bHi)) vx vl vw vc).tS) rfl s kJ rfl rfl rfl iiz iiz zGr fun a w s=> ?_
 refine zA rfl ?_
 refine zWB ?_
 refine zC 8 ((15, .Z (fMD (fPR (fPN bLo) (fPN bHi)) vx vl vw vc))::(16, .Z (fPN ((((0:Int):Rat),((0:Int):Rat)):V2)))::(17, .Z (yU (uI 4) (uI 0)))::(14, .Z (yU (uI 4) (uI 0)))::(18, .Z (uI 4))::(19, .Z (uI 0))::(2, .u (uI 4))::(3, .u (uI 0)):: []) hmix s kJ
  (oc (zI (f:=fMD (fPR (fPN bLo) (fPN bHi)) vx vl vw vc) 16 kJ (hz:=zDM))<|oc (zJ zE zHR (fun u0 u1 W hb (h0:u0= .int .i64 0) (h1:u1= .int .i64 0)=>zEn h0 h1 dC dC))<|oc (zJ zE zUq (fun u0 u1 W hb (h0:(fMD (fPR (fPN bLo) (fPN bHi)) vx vl vw vc).p u0 W) (h1:(fPN ((((0:Int):Rat),((0:Int):Rat)):V2)).p u1 W)=>(zII (m:=1) (p:=((((0:Int):Rat),((0:Int):Rat)):V2)) h0 (zCy (p:=((((0:Int):Rat),((0:Int):Rat)):V2)) (m:=1) ((zFv (x:=0) (y:=0) dC dC).1.mono (by first|omega|decide)) ((zFv (x:=0) (y:=0) dC dC).2.mono (by first|omega|decide)) h1) (hM.below (s.up hb)) (zUa v0 v1 v2) dC dC (hT.below (s.up hb))).mono (wF (fun v W h=>by rw [zVt] at h;exact h))))<|oc zB<|oc (yY (A:=(uI 4).tS) (B:=(uI 0).tS) iiz)<|oc (yX (A:=(uI 4).tS) (B:=(uI 0).tS) iiz)<|oc zF<|oc zF<|zD) fun a w3 s=> ?_
 refine zA rfl ?_
 refine zWB ?_
 refine zC 8 ((21, .Z (fMD (fPR (fPN bLo) (fPN bHi)) vx vl vw vc))::(22, .Z (fPN ((((0:Int):Rat),((3:Int):Rat)):V2)))::(23, .Z (yU (uI (-1)) (uI 270)))::(20, .Z (yU (uI (-1)) (uI 270)))::(24, .Z (uI (-1)))::(25, .Z (uI 270))::(4, .Z (uI (-1)))::(5, .u (uI 270)):: []) hmix s kJ
  (oc (zI (f:=fMD (fPR (fPN bLo) (fPN bHi)) vx vl vw vc) 16 kJ (hz:=zDM))<|oc (zJ zE zHR (fun u0 u1 W hb (h0:u0= .int .i64 0) (h1:u1= .int .i64 3)=>zEn h0 h1 dC dC))<|oc (zJ zE zUq (fun u0 u1 W hb (h0:(fMD (fPR (fPN bLo) (fPN bHi)) vx vl vw vc).p u0 W) (h1:(fPN ((((0:Int):Rat),((3:Int):Rat)):V2)).p u1 W)=>(zII (m:=1) (p:=((((0:Int):Rat),((3:Int):Rat)):V2)) h0 (zCy (p:=((((0:Int):Rat),((3:Int):Rat)):V2)) (m:=1) ((zFv (x:=0) (y:=3) dC dC).1.mono (by first|omega|decide)) ((zFv (x:=0) (y:=3) dC dC).2.mono (by first|omega|decide)) h1) (hM.below (s.up hb)) (zUa v0 v1 v2) dC dC (hT.below (s.up hb))).mono (wF (fun v W h=>by rw [zVs] at h;exact h))))<|oc zB<|oc (yY (A:=(uI (-1)).tS) (B:=(uI 270).tS) iiz)<|oc (yX (A:=(uI (-1)).tS) (B:=(uI 270).tS) iiz)<|oc zF<|oc zF<|zD) fun a w4 s=> ?_
 refine zA rfl ?_
 refine zWB ?_
 have so:=s.old;have sg:=s.gr
 refine qL [5,6] [⟨7,6,36, [.bool false, .slice none 0 0, .slice none 0 0, .bool false, .slice none 0 0, .slice none 0 0],wH w4 36 (CU.len 6)⟩] 8 ((27, .Z (fMD (fPR (fPN bLo) (fPN bHi)) vx vl vw vc))::(28, .Z (fPN ((((5:Int):Rat),((0:Int):Rat)):V2)))::(29, .Z (zBu (fPN ((((1:Int):Rat),((0:Int):Rat)):V2)) (uI 7) (uI 0)))::(26, .Z (zBu (fPN ((((1:Int):Rat),((0:Int):Rat)):V2)) (uI 7) (uI 0)))::(30, .u (fPN ((((1:Int):Rat),((0:Int):Rat)):V2)))::(31, .u (uI 7))::(32, .u (uI 0))::(6, .s (wH w4 36 (CU.len 6))):: []) hmix s (fmz ⟨⟨by show 7<8;decide,mz7,⟨_,_,_,rfl⟩,by kernel_rfl,jI (fun _=>rfl) rfl⟩,fnz⟩) kJ
  (oc (zI (f:=fMD (fPR (fPN bLo) (fPN bHi)) vx vl vw vc) 16 kJ (hz:=zDM))<|oc (zJ zE zHR (fun u0 u1 W hb (h0:u0= .int .i64 5) (h1:u1= .int .i64 0)=>zEn h0 h1 dC dC))<|oc (zJ zE zUR (fun u0 u1 W hb (h0:(fMD (fPR (fPN bLo) (fPN bHi)) vx vl vw vc).p u0 W) (h1:(fPN ((((5:Int):Rat),((0:Int):Rat)):V2)).p u1 W)=>(zRB (m:=1) (p:=((((5:Int):Rat),((0:Int):Rat)):V2)) h0 (zCy (p:=((((5:Int):Rat),((0:Int):Rat)):V2)) (m:=1) ((zFv (x:=5) (y:=0) dC dC).1.mono (by first|omega|decide)) ((zFv (x:=5) (y:=0) dC dC).2.mono (by first|omega|decide)) h1) zDX.1 zDX.2 (hM.below (s.up hb)) (zUa v0 v1 v2) dC dC (hT.below (s.up hb))).mono (wF (fun v W h=>by rw [zVr,zVq] at h;exact h))))<|oc zB<|oc (zBr (A:=(fPN ((((1:Int):Rat),((0:Int):Rat)):V2)).tS) (B:=(uI 7).tS) (C:=(uI 0).tS) iiz)<|oc (zBq (A:=(fPN ((((1:Int):Rat),((0:Int):Rat)):V2)).tS) (B:=(uI 7).tS) (C:=(uI 0).tS) iiz)<|oc (zBp (A:=(fPN ((((1:Int):Rat),((0:Int):Rat)):V2)).tS) (B:=(uI 7).tS) (C:=(uI 0).tS) iiz)<|oc (zAL (cs:=zP6) kJ (jI (fun _=>rfl) rfl))<|zD) fun Q' hQ a w5 s hr hd=> ?_
 obtain ⟨b6,hB6,e6,s⟩:=s.adoptA false 6 (hr (_,_) mz7) sg (fun y hy=> .inl (so y hy))
 refine zN (CU.agg (fPN ((((1:Int):Rat),((0:Int):Rat)):V2))) ((fPN ((((1:Int):Rat),((0:Int):Rat)):V2)).tS) rfl s kJ rfl rfl rfl iiz iiz zBo fun a w s=> ?_
 refine zS (uI 7) rfl s kJ iiz fun a w s=> ?_
 refine zS (uI 0) rfl s kJ iiz fun a w s=> ?_
 refine zA rfl (hQ _ _ ?_)
 refine zWB ?_
 refine zC 10 ((34, .Z (fQN ((2:Int):Rat)))::(35, .Z (fQN ((1:Int):Rat)))::(36, .Z (fQN ((2:Int):Rat)))::(37, .s (SF.row 3 (rvs 1 [((1:Int):Rat),((2:Int):Rat)])))::(38, .Z (yU (uI 1) (uB true)))::(33, .Z (yU (uI 1) (uB true)))::(39, .Z (uI 1))::(40, .Z (uB true))::(9, .u (uI 1))::(10, .u (uB true)):: []) hmix s kJ
  (oc (zH zE zDT (fun u0 W hb (h0:u0= .int .i64 2)=>zBI 2 h0 dC))<|oc (zH zE zDT (fun u0 W hb (h0:u0= .int .i64 1)=>zBI 1 h0 dC))<|oc (zH zE zDT (fun u0 W hb (h0:u0= .int .i64 2)=>zBI 2 h0 dC))<|oc (yK (fun u v W (hu:QNp ((1:Int):Rat) u W) (hv:QNp ((2:Int):Rat) v W)=>zC3 (wD hu (QB.int (by unfold Bd;rw [zWM];decide) dC)) (wD hv (QB.int (by unfold Bd;rw [zWM];decide) dC))))<|oc (zJ zE zS5 (fun u0 u1 W hb (h0:QNp ((2:Int):Rat) u0 W) (h1:(SF.row 3 (rvs 1 [((1:Int):Rat),((2:Int):Rat)])).p u1 W)=>(zHH (m:=1) (wD h0 (QB.int (by unfold Bd;rw [zWM];decide) dC)) h1 dC dC dC (hT.below (s.up hb))).mono (wF (fun v W h=>by rw [zVm] at h;exact h))))<|oc zB<|oc (yY (A:=(uI 1).tS) (B:=(uB true).tS) iiz)<|oc (yX (A:=(uI 1).tS) (B:=(uB true).tS) iiz)<|oc zF<|oc zF<|zD) fun a w6 s=> ?_
 refine zA rfl ?_
 refine zWB ?_
 refine zC 10 ((42, .Z (fQN ((2:Int):Rat)))::(43, .Z (fQN ((1:Int):Rat)))::(44, .Z (fQN ((3:Int):Rat)))::(45, .s (SF.row 3 (rvs 1 [((1:Int):Rat),((3:Int):Rat)])))::(46, .Z (yU (uI 0) (uB false)))::(41, .Z (yU (uI 0) (uB false)))::(47, .Z (uI 0))::(48, .Z (uB false))::(11, .u (uI 0))::(12, .u (uB false)):: []) hmix s kJ
  (oc (zH zE zDT (fun u0 W hb (h0:u0= .int .i64 2)=>zBI 2 h0 dC))<|oc (zH zE zDT (fun u0 W hb (h0:u0= .int .i64 1)=>zBI 1 h0 dC))<|oc (zH zE zDT (fun u0 W hb (h0:u0= .int .i64 3)=>zBI 3 h0 dC))<|oc (yK (fun u v W (hu:QNp ((1:Int):Rat) u W) (hv:QNp ((3:Int):Rat) v W)=>zC3 (wD hu (QB.int (by unfold Bd;rw [zWM];decide) dC)) (wD hv (QB.int (by unfold Bd;rw [zWM];decide) dC))))<|oc (zJ zE zS5 (fun u0 u1 W hb (h0:QNp ((2:Int):Rat) u0 W) (h1:(SF.row 3 (rvs 1 [((1:Int):Rat),((3:Int):Rat)])).p u1 W)=>(zHH (m:=1) (wD h0 (QB.int (by unfold Bd;rw [zWM];decide) dC)) h1 dC dC dC (hT.below (s.up hb))).mono (wF (fun v W h=>by rw [zVl] at h;exact h))))<|oc zB<|oc (yY (A:=(uI 0).tS) (B:=(uB false).tS) iiz)<|oc (yX (A:=(uI 0).tS) (B:=(uB false).tS) iiz)<|oc zF<|oc zF<|zD) fun a w7 s=> ?_
 refine zA rfl ?_
 refine zWB ?_
 replace s:=s.drop [0]
 refine zC 71 ((49, .Z (uI 0))::(50, .Z (uB true))::(51, .Z (uB true))::(52, .Z (uI 4))::(53, .Z (uB true))::(54, .Z (uB true))::(55, .Z (uB true))::(56, .Z (uI 4))::(57, .X (fMD (fPR (fPN bLo) (fPN bHi)) vx vl vw vc) 15)::(58, .Z (UF.eq vc))::(59, .Z (uI ((ces (C0 v0 v1 v2)).length:Int)))::(60, .Z (uB true))::(61, .Z (uB true))::(62, .Z (uB true))::(63, .X (fMD (fPR (fPN bLo) (fPN bHi)) vx vl vw vc) 15)::(64, .Z (UF.eq vc))::(65, .Z (uI 4))::(66, .Y (fCN (cel (C0 v0 v1 v2) 4)))::(67, .X (fCN (cel (C0 v0 v1 v2) 4)) 0)::(68, .Z (UF.eq (.int .i8 ((cel (C0 v0 v1 v2) 4).1))))::(69, .Z (uB true))::(70, .Z (uB true))::(71, .Z (uB true))::(72, .Z (uI 270))::(73, .Z (uB true))::(74, .Z (uB true))::(75, .Z (uB true))::(76, .Z (uI 0))::(77, .Z (uB true))::(78, .Z (uB true))::(79, .Z (uB true))::(80, .Z (uI 7))::(81, .Z (uB true))::(82, .Z (uB true))::(83, .Z (uB true))::(84, .Z (uI 7))::(85, .X (fMD (fPR (fPN bLo) (fPN bHi)) vx vl vw vc) 15)::(86, .Z (UF.eq vc))::(87, .Z (uI ((ces (C0 v0 v1 v2)).length:Int)))::(88, .Z (uB true))::(89, .Z (uB true))::(90, .Z (uB true))::(91, .X (fMD (fPR (fPN bLo) (fPN bHi)) vx vl vw vc) 15)::(92, .Z (UF.eq vc))::(93, .Z (uI 7))::(94, .Y (fCN (cel (C0 v0 v1 v2) 7)))::(95, .X (fCN (cel (C0 v0 v1 v2) 7)) 0)::(96, .Z (UF.eq (.int .i8 ((cel (C0 v0 v1 v2) 7).1))))::(97, .Z (uB true))::(98, .Z (uB true))::(99, .Z (uB true))::(100, .Z (fPN ((((1:Int):Rat),((0:Int):Rat)):V2)))::(101, .Z (fPN ((((1:Int):Rat),((0:Int):Rat)):V2)))::(102, .Z (uB true))::(103, .Z (uB true))::(104, .Z (uB true))::(105, .Z (uI 1))::(106, .Z (uB true))::(107, .Z (uB true))::(108, .Z (uB true))::(109, .Z (uB true))::(110, .Z (uB true))::(111, .Z (uB true))::(112, .Z (uI 0))::(113, .Z (uB true))::(114, .Z (uB true))::(115, .Z (uB true))::(116, .Z (uB false))::(117, .Z (uB true))::(118, .Z (uB true))::(0, .u (uB true)):: []) hmix s kJ
  (oc zB<|oc (zO .i64 0 0 true iiz iiz dC rfl)<|oc zB<|oc (zG 51 true kJ iiz (fun _=>zB) arf)<|oc (zG 51 true kJ iiz (fun _=>zO .i64 4 0 true iiz iiz dC rfl) arf)<|oc (yO true iiz (fun _ _ _ h=>h) (fun e=>by cases e))<|oc zB<|oc (zG 55 true kJ iiz (fun _=>zB) arf)<|oc (zG 55 true kJ iiz (fun _=>zK (C:=cg (fMD (fPR (fPN bLo) (fPN bHi)) vx vl vw vc)) 15 kJ) arf)<|oc (zG 55 true kJ iiz (fun _=>yL (C:=cg (fMD (fPR (fPN bLo) (fPN bHi)) vx vl vw vc)) (k:=15) kJ (h:=zSO)) arf)<|oc (zG 55 true kJ iiz (fun _=>y8 (z:=9) (Cs:=ces (C0 v0 v1 v2)) kJ (fun v W hb h=>(yT hM.c h (s.up hb))) (fun _=>rfl)) arf)<|oc (zG 55 true kJ iiz (fun _=>zO .i64 4 ((ces (C0 v0 v1 v2)).length:Int) true iiz iiz (by show decide (_<_)=true;rw [zWJ,zHW];decide) rfl) arf)<|oc (yO true iiz (fun _ _ _ h=>h) (fun e=>by cases e))<|oc zB<|oc (zG 62 true kJ iiz (fun _=>zK (C:=cg (fMD (fPR (fPN bLo) (fPN bHi)) vx vl vw vc)) 15 kJ) arf)<|oc (zG 62 true kJ iiz (fun _=>yL (C:=cg (fMD (fPR (fPN bLo) (fPN bHi)) vx vl vw vc)) (k:=15) kJ (h:=zSO)) arf)<|oc (zG 62 true kJ iiz (fun _=>zB) arf)<|oc (zG 62 true kJ iiz (fun _=>zZ (z:=9) (Cs:=ces (C0 v0 v1 v2)) (i:=4) (C:=CU.agg (fCN (cel (C0 v0 v1 v2) 4))) kJ (zIO (by rw [zHW];decide)) (fun v W hb h=>(yT hM.c h (s.up hb))) iiz) arf)<|oc (zG 62 true kJ iiz (fun _=>zK (C:=cg (fCN (cel (C0 v0 v1 v2) 4))) 0 kJ) arf)<|oc (zG 62 true kJ iiz (fun _=>yL (C:=cg (fCN (cel (C0 v0 v1 v2) 4))) (k:=0) kJ (h:=zIQ)) arf)<|oc (zG 62 true kJ iiz (fun _=>zO .i8 ((cel (C0 v0 v1 v2) 4).1) 3 true iiz iiz (zVp v0 v1 v2) rfl) arf)<|oc (yO true iiz (fun _ _ _ h=>h) (fun e=>by cases e))<|oc zB<|oc (zG 71 true kJ iiz (fun _=>zB) arf)<|oc (zG 71 true kJ iiz (fun _=>zO .i64 270 270 true iiz iiz dC rfl) arf)<|oc (yO true iiz (fun _ _ _ h=>h) (fun e=>by cases e))<|oc zB<|oc (zG 75 true kJ iiz (fun _=>zB) arf)<|oc (zG 75 true kJ iiz (fun _=>zO .i64 0 0 true iiz iiz dC rfl) arf)<|oc (yO true iiz (fun _ _ _ h=>h) (fun e=>by cases e))<|oc zB<|oc (zG 79 true kJ iiz (fun _=>zB) arf)<|oc (zG 79 true kJ iiz (fun _=>zO .i64 7 0 true iiz iiz dC rfl) arf)<|oc (yO true iiz (fun _ _ _ h=>h) (fun e=>by cases e))<|oc zB<|oc (zG 83 true kJ iiz (fun _=>zB) arf)<|oc (zG 83 true kJ iiz (fun _=>zK (C:=cg (fMD (fPR (fPN bLo) (fPN bHi)) vx vl vw vc)) 15 kJ) arf)<|oc (zG 83 true kJ iiz (fun _=>yL (C:=cg (fMD (fPR (fPN bLo) (fPN bHi)) vx vl vw vc)) (k:=15) kJ (h:=zSO)) arf)<|oc (zG 83 true kJ iiz (fun _=>y8 (z:=9) (Cs:=ces (C0 v0 v1 v2)) kJ (fun v W hb h=>(yT hM.c h (s.up hb))) (fun _=>rfl)) arf)<|oc (zG 83 true kJ iiz (fun _=>zO .i64 7 ((ces (C0 v0 v1 v2)).length:Int) true iiz iiz (by show decide (_<_)=true;rw [zWJ,zHW];decide) rfl) arf)<|oc (yO true iiz (fun _ _ _ h=>h) (fun e=>by cases e))<|oc zB<|oc (zG 90 true kJ iiz (fun _=>zK (C:=cg (fMD (fPR (fPN bLo) (fPN bHi)) vx vl vw vc)) 15 kJ) arf)<|oc (zG 90 true kJ iiz (fun _=>yL (C:=cg (fMD (fPR (fPN bLo) (fPN bHi)) vx vl vw vc)) (k:=15) kJ (h:=zSO)) arf)<|oc (zG 90 true kJ iiz (fun _=>zB) arf)<|oc (zG 90 true kJ iiz (fun _=>zZ (z:=9) (Cs:=ces (C0 v0 v1 v2)) (i:=7) (C:=CU.agg (fCN (cel (C0 v0 v1 v2) 7))) kJ (zIO (by rw [zHW];decide)) (fun v W hb h=>(yT hM.c h (s.up hb))) iiz) arf)<|oc (zG 90 true kJ iiz (fun _=>zK (C:=cg (fCN (cel (C0 v0 v1 v2) 7))) 0 kJ) arf)<|oc (zG 90 true kJ iiz (fun _=>yL (C:=cg (fCN (cel (C0 v0 v1 v2) 7))) (k:=0) kJ (h:=zIQ)) arf)<|oc (zG 90 true kJ iiz (fun _=>zO .i8 ((cel (C0 v0 v1 v2) 7).1) 1 true iiz iiz (zVo v0 v1 v2) rfl) arf)<|oc (yO true iiz (fun _ _ _ h=>h) (fun e=>by cases e))<|oc zB<|oc (zG 99 true kJ iiz (fun _=>zI (f:=fPN ((((1:Int):Rat),((0:Int):Rat)):V2)) 6 kJ (hz:=jF _ _)) arf)<|oc (zG 99 true kJ iiz (fun _=>zJ zE zHR (fun u0 u1 W hb (h0:u0= .int .i64 1) (h1:u1= .int .i64 0)=>zEn h0 h1 dC dC)) arf)<|oc (zG 99 true kJ iiz (fun _=>zJ zE zUQ (fun u0 u1 W hb (h0:(fPN ((((1:Int):Rat),((0:Int):Rat)):V2)).p u0 W) (h1:(fPN ((((1:Int):Rat),((0:Int):Rat)):V2)).p u1 W)=>(zOd (m:=1) (p:=((((1:Int):Rat),((0:Int):Rat)):V2)) (q:=((((1:Int):Rat),((0:Int):Rat)):V2)) (zCy (p:=((((1:Int):Rat),((0:Int):Rat)):V2)) (m:=1) ((zFv (x:=1) (y:=0) dC dC).1.mono (by first|omega|decide)) ((zFv (x:=1) (y:=0) dC dC).2.mono (by first|omega|decide)) h0) (zCy (p:=((((1:Int):Rat),((0:Int):Rat)):V2)) (m:=1) ((zFv (x:=1) (y:=0) dC dC).1.mono (by first|omega|decide)) ((zFv (x:=1) (y:=0) dC dC).2.mono (by first|omega|decide)) h1) dC dC).mono (wF (fun v W h=>by rw [zVn] at h;exact h)))) arf)<|oc (yO true iiz (fun _ _ _ h=>h) (fun e=>by cases e))<|oc zB<|oc (zG 104 true kJ iiz (fun _=>zB) arf)<|oc (zG 104 true kJ iiz (fun _=>zO .i64 1 1 true iiz iiz dC rfl) arf)<|oc (yO true iiz (fun _ _ _ h=>h) (fun e=>by cases e))<|oc zB<|oc (zG 108 true kJ iiz (fun _=>zB) arf)<|oc (yO true iiz (fun _ _ _ h=>h) (fun e=>by cases e))<|oc zB<|oc (zG 111 true kJ iiz (fun _=>zB) arf)<|oc (zG 111 true kJ iiz (fun _=>zO .i64 0 0 true iiz iiz dC rfl) arf)<|oc (yO true iiz (fun _ _ _ h=>h) (fun e=>by cases e))<|oc zB<|oc (zG 115 true kJ iiz (fun _=>zB) arf)<|oc (zG 115 true kJ iiz (fun _=>zCA false iiz (fun _=>rfl)) arf)<|oc (yO true iiz (fun _ _ _ h=>h) (fun e=>by cases e))<|oc zF<|zD) fun a w8 s=> ?_
 refine zA rfl ?_
 refine zWH ?_
 exact wV s hbA (t:=0) rfl iiz
end Go.Proofs.Wd

namespace Go.Proofs.Wd
open Tryz
set_option maxRecDepth 100000
set_option maxHeartbeats 1000000
open Go.RowKit Lb
section
variable {F:Fence} {m:Nat} {P:Program} {w0:Wp} {ops:Array Oper} {G:Nat->SF} {d:Tmp} {ty:TypeId} {pos:String} {aft:Array Edge}
theorem zJF {op:BinOp} {t:TypeId} {x y:Operand} {t':TypeId} (u v r:Bool) (ht:P.underlying t=some .bool) (hx: ∀q W,(fct G x).p q W->q= .bool u) (hy: ∀q W,(fct G y).p q W->q= .bool v) (hr:(match op with| .eql=>u==v| .neq=>u !=v|_=>false)=r) (ho:(match op with| .eql| .neq=>true|_=>false)=true) (hd: ∀W,(G d).p (.bool r) W:=by exact fun _=>rfl):qX F m P w0 ops G ⟨some d, .binOp op t x y t',ty,pos,aft,none⟩:=
 zAC (.bool u) (.bool v) (.bool r) hx hy (fun W=>by cases op<;>first|(cases ho;done)|simp [eqGuard]) (fun W=>by cases op<;>first|(cases ho;done)|(subst hr;cases u<;>cases v<;>simp [go_sem,ht])) hd
theorem zFP {t:TypeId} {x:Operand} (h: ∀u W,Below w0.heap.size w0 W->(fct G x).p u W-> ∃e cs,yA P t 1 [(0,u)]=some (e,cs)/\(G d).p (.slice (some ⟨W.heap.size,0,none⟩) 1 1) (W.alloc (.cells cs e))):qX F m P w0 ops G ⟨some d, .buildSlice t 1 #[(0,x)],ty,pos,aft,none⟩:=
 zEI fun b W hb hh=>by
  obtain ⟨e,cs,h1,h2⟩:=h _ W hb (hh x (by simp))
  exact ⟨e,cs,by simpa using h1,h2⟩
end
theorem zLk {u:Wq} {w0 W:Wp} {a:QX} (hs:w0.heap.size<=W.heap.size) (h0:(fQX a.n a.n' a.k a.d).p u W): ∃e cs,yA prog 28 1 [(0,u)]=some (e,cs)/\(wM w0 27 3 [QX.cu a]).p (.slice (some ⟨W.heap.size,0,none⟩) 1 1) (W.alloc (.cells cs e)):=by
 obtain ⟨s0,A0,c0,D0,j0,rfl⟩:=zIp h0
 refine ⟨_,_,zQC s0 A0 D0 a.n c0 a.n' j0, .inr ⟨W.heap.size,1,_,rfl,hs,heap_alloc_new W _,zWN _,by decide,rfl,rfl,fun x C hx=> ?_⟩⟩
 rcases (by have:=(zW1.1 hx).1;simp at this;omega:x=0) with rfl
 obtain rfl:QX.cu a=C:=by simpa using hx
 exact (fQX a.n a.n' a.k a.d).tS.st _ _ _ h0 (zCd W _)
theorem zT6 (x:QX):CU.ok 3 (QX.cu x):=zPy (f:=fQX x.n x.n' x.k x.d) fun v W h=>by
 obtain ⟨s0,A0,c0,D0,j0,e⟩:=zIp h
 exact ⟨_,_,_,_,_,_,_,e⟩
theorem zL0 (L:List QX): ∀C,C∈L.map QX.cu->CU.ok 3 C:=fun C hC=>by
 obtain ⟨x,_,rfl⟩:=List.mem_map.1 hC
 exact zT6 x
theorem zL1 {x:QX} (h:x.n<=40/\x.n'<=40) (cs:List Wq) (W:Wp) (hc:(QX.cu x).p cs W):0+3<=cs.length/\(fRV 40 x.q).p (.agg ((cs.drop 0).take 3).toArray) W:=by
 have hl:=zL2 _ _ _ _ cs W hc
 refine ⟨by omega, ?_⟩
 rw [List.drop_zero,List.take_of_length_le oQ]
 exact zVb hc h.1 h.2
theorem zQK {V:List Rat} {k:Nat} (h:zEv V k) (e:(decide ((k:Int)>0)&&decide (qsg (qAt V (k - 1)) (qAt V k)≥0))=false):zEv V (k+1):=fun i hi=>by
 rcases Nat.lt_or_ge (i+1) k with h1|h1
 ·exact h i h1
 ·obtain rfl:k=i+1:=by omega
  rw [zWQ] at e
  rcases e with e|e
  ·have:=zWG e;omega
  ·have h2:=zWG e
   have h3:=zIr (qAt V i) (qAt V (i+1))
   have h4: ¬qsg (qAt V i) (qAt V (i+1))≥0:=h2
   exact zHo.1 oQ
theorem zT3 (V:List Rat):zEv V 0:=fun i hi=>absurd hi (Nat.not_lt_zero _)
theorem zLx {V:List Rat} {y:Rat} (hr:zEv V V.length) {b:Bool} (e:zDo V y V.length=b):zAK V y=((if b=true then ((zA4 V y V.length:Nat):Int) else ((zA4 V y V.length:Nat):Int) - 1),b):=by
 rw [zN2 hr,e]
theorem zHJ {W:Wp} {u l:Wq} {y:QX} {L:List QX} (hy:QXp y.n y.n' y.k y.d u W) (hl:(SF.row 3 (L.map QX.cu)).p l W) (hLl: ∀x,x∈ [y]->x.n+x.n'<9223372036854775808) (hnL:L.length<=1048576) (hL: ∀x,x∈L->x.n+x.n'<=1048576) (hT:Tab W):Calls prog 3 #[u,l] W (Ret W (fB true).tS):=by
 have hLy: ∀x,x∈y::L->x.n+x.n'<9223372036854775808:=fun x hx=>by
  rcases zWD.1 hx with rfl|hx
  ·exact hLl _ (.head _)
  ·have:=hL x hx;omega
 refine z9 [(fQX y.n y.n' y.k y.d).tS,(UF.eq l).tS] func3 rfl kJ ⟨hy,rfl,trivial⟩ fun a s=> ?_
 replace s:=s.renew [(0, .u (fQX y.n y.n' y.k y.d)),(1, .u (UF.eq l))] (fmz ⟨.inr ⟨_,rfl, .head _⟩,fmz ⟨.inr ⟨_,rfl,mz1⟩,fnz⟩⟩)
 refine zWB ?_
 refine zC 0 [] hmix s kJ
  zD fun a w1 s=> ?_
 refine yD (QX.cu y) rfl s kJ (fun v W h=>zSo h) fun b2 a w s=> ?_
 refine zS (uB false) rfl s kJ iiz fun a w s=> ?_
 refine zA rfl ?_
 refine zWB ?_
 refine zWB ?_
 cases eG:gq (y::L)
 ·have hb0:=s.gr.size
  have hbx2:b2<w.heap.size:=s.old _ (.head _)
  refine qZ 3 ((12, .Z (fQX y.n y.n' y.k y.d))::(13, .s (wM w 27 3 [QX.cu y]))::(14, .u (UF.eq l)):: []) hmix s kJ
   (oc (zI (f:=fQX y.n y.n' y.k y.d) 3 kJ (hz:=zL2 _ _ _ _))<|oc (zFP (fun u W hb (hu:(fQX y.n y.n' y.k y.d).p u W)=>zLk hb.size hu))<|oc zB<|zD) fun a w2 s hr=> ?_
  obtain ⟨v13,e13⟩: ∃v,a.tmps.getD 13 undef=v:=⟨_,rfl⟩
  have hv13:zAW w2 w.heap.size 27 3 v13 [QX.cu y]:=e13▸(hr (_,_) mz1)
  replace s:=s.learn 13 v13 e13
  have hbW:=s.below
  have s0:=s
  have hsz1:w.heap.size<=w2.heap.size:=by rcases hv13 with ⟨_,h⟩|⟨g,_,_,_,h1,h2,_⟩;cases h;have:=(zWZ.1 h2).1;omega
  replace s:StS _ _ _ [⟨2,27,QX.cu y,b2,true⟩] _ _ _ _:=s.freeze
  replace s:=s.reb rfl [(13, .u (UF.eq v13)),(14, .u (UF.eq l)),(4, .u (uB false)),(0, .u (fQX y.n y.n' y.k y.d)),(1, .u (UF.eq l))] (fmz ⟨.inl (.head _),fmz ⟨.inl mz1,fmz ⟨.inl mz2,fmz ⟨.inl mz3,fmz ⟨.inl mz4,fnz⟩⟩⟩⟩⟩)
  refine zI3 (L.map QX.cu) s0 (s.keepK [(13, .u (UF.eq v13)),(14, .u (UF.eq l)),(4, .u (uB false)),(0, .u (fQX y.n y.n' y.k y.d)),(1, .u (UF.eq l))] (fmz ⟨.head _,fmz ⟨mz1,fmz ⟨mz2,fmz ⟨mz3,fmz ⟨mz4,fnz⟩⟩⟩⟩⟩)) hb0 ⟨hsz1,hv13⟩ rfl kJ kJ kJ (s.fct (.tmp 13)) (by rw [show a.eval (.tmp 14)=l from s.fct (.tmp 14)];exact (SF.row 3 _).st _ _ _ hl hbW) (zL0 L) (by simp;omega) (fun q hq hr=>by rcases zWD.1 hq with rfl|hq;exact hbx2;cases hq) fun v15 a w hv15 _ _ _ s=> ?_
  replace hv15:zAW w _ 27 3 v15 ((y::L).map QX.cu):=hv15.2
  have hbA:=s.below
  replace hT:=hT.below hbA
  replace hl:=(SF.row 3 _).st _ _ _ hl hbA
  replace s:=s.reb rfl [(15, .u (UF.eq v15)),(13, .u (UF.eq v13)),(14, .u (UF.eq l)),(4, .u (uB false)),(0, .u (fQX y.n y.n' y.k y.d)),(1, .u (UF.eq l))] (fmz ⟨.inl (.head _),fmz ⟨.inl mz1,fmz ⟨.inl mz2,fmz ⟨.inl mz3,fmz ⟨.inl mz4,fmz ⟨.inl mz5,fnz⟩⟩⟩⟩⟩⟩)
  refine zC0 (uB false) rfl s kJ (zH zE zVe (fun u0 W hb (h0:u0=v15)=>(zHd (L:=y::L) (yT hv15.row h0 (s.up hb)) hLy).mono (wF (fun v W h=>by rw [eG] at h;exact h)))) kJ fun a w s=> ?_
  refine zC0 (uB false) rfl s kJ zB kJ fun a w s=> ?_
  refine zQq (UF.eq l) rfl rfl s iiz kJ zB kJ fun a w s=> ?_
  refine zQq (uI ((L.map QX.cu).length:Int)) rfl rfl s iiz kJ (y8 (z:=3) (Cs:=L.map QX.cu) kJ (fun v W hb h=>(yT hl h (s.up hb))) (fun _=>rfl)) kJ fun a w s=> ?_
  refine zQq (uB (decide (((L.map QX.cu).length:Int)>20))) rfl rfl s iiz kJ (zO .i64 ((L.map QX.cu).length:Int) 20 (decide (((L.map QX.cu).length:Int)>20)) iiz iiz rfl rfl) kJ fun a w s=> ?_
  refine zC0 (uB (decide (((L.map QX.cu).length:Int)>20))) rfl s kJ (yO false iiz (fun e=>by cases e) (fun _ _ _ h=>h)) kJ fun a w s=> ?_
  refine zA rfl ?_
  refine StS.cond s (decide (((L.map QX.cu).length:Int)>20)) iiz (fun e=> ?_) (fun e=> ?_)
  ·refine zWB ?_
   replace s:=s.drop [4]
   refine zC 2 ((22, .Z (uB true))::(4, .u (uB true)):: []) hmix s kJ
    (oc (zDH zE zTa (fun W hb=>zER (hT.below (s.up hb))))<|oc zF<|zD) fun a w3 s=> ?_
   refine zA rfl ?_
   refine zWH ?_
   exact wV s hbA (t:=4) rfl iiz
  ·have hg:=zO3 eG
   have hy40:=hg y (zWY ..)
   have hl20:L.length<=20:=by have h7:=zWG e;simp at h7;omega
   have hV:=zQE (m:=40) (L:=L) (fun x hx=>hg x (List.mem_cons_of_mem _ hx)) l _ hl
   have hnV:(zV L).length<=1000000:=by rw [zWJ];omega
   have hlV:(zV L).length=L.length:=zWJ ..
   refine zWK ?_
   refine zWB ?_
   refine zC 2 ((5, .u (uI 0))::(6, .u (uB false)):: []) hmix s kJ
    (oc zF<|oc zF<|zD) fun a w4 s=> ?_
   refine zA rfl ?_
   refine zWB ?_
   refine zWB ?_
   refine zC 1 ((7, .u (uI 0)):: []) hmix s kJ
    (oc zF<|zD) fun a w5 s=> ?_
   refine zA rfl ?_
   refine zWF ?_
   refine q8 (fun k=>k<=(zV L).length/\zEv (zV L) k) (fun k=> [(1, .u (UF.eq l)),(5, .u (uI ((zA4 (zV L) y.q k:Nat):Int))),(6, .u (uB (zDo (zV L) y.q k))),(7, .u (uI ((k:Nat):Int)))]) (fun k=>(zV L).length - k) (0:Nat) (⟨zWO _,zT3 _⟩) (s.keepK _ (fmz ⟨zRW,fmz ⟨mz1,fmz ⟨mz2,fmz ⟨.head _,fnz⟩⟩⟩⟩)) fun k a w hx s=> ?_
   have hcl:=zGG (zV L) y.q k
   refine zWB ?_
   refine zWB ?_
   refine zC 4 ((23, .Z (uI (k:Int)))::(24, .Z (UF.eq l))::(25, .Z (uI ((rvs 40 (zV L)).length:Int)))::(26, .u (uB (decide ((k:Int)<((rvs 40 (zV L)).length:Int))))):: []) hmix s kJ
    (oc zB<|oc zB<|oc (y8 (z:=3) (Cs:=rvs 40 (zV L)) kJ (fun v W hb h=>(yT hV h (s.up hb))) (fun _=>rfl))<|oc (zO .i64 (k:Int) ((rvs 40 (zV L)).length:Int) (decide ((k:Int)<((rvs 40 (zV L)).length:Int))) iiz iiz rfl rfl)<|zD) fun a w6 s=> ?_
   refine zA rfl ?_
   refine StS.cond s (decide ((k:Int)<((rvs 40 (zV L)).length:Int))) iiz (fun e=> ?_) (fun e=> ?_)
   ·have hk:k<(zV L).length:=by have h7:=zWI e;simp at h7 ⊢;omega
    refine zWK ?_
    refine zWB ?_
    refine zWF ?_
    refine zWB ?_
    refine zWB ?_
    refine zC 15 ((29, .Z (uI (k:Int)))::(30, .Z (uB (decide ((k:Int)>0))))::(31, .Z (uB (decide ((k:Int)>0))))::(32, .s (SF.imp ((decide ((k:Int)>0))=true) ((UF.eq l).tS)))::(33, .s (SF.imp ((decide ((k:Int)>0))=true) ((uI (k:Int)).tS)))::(34, .s (SF.imp ((decide ((k:Int)>0))=true) ((uI ((k - 1:Nat):Int)).tS)))::(35, .s (SF.imp ((decide ((k:Int)>0))=true) (wB (cg (fRV 40 (qAt (zV L) (k - 1)))))))::(36, .s (SF.imp ((decide ((k:Int)>0))=true) ((fRV 40 (qAt (zV L) (k - 1))).tS)))::(37, .s (SF.imp ((decide ((k:Int)>0))=true) ((UF.eq l).tS)))::(38, .s (SF.imp ((decide ((k:Int)>0))=true) ((uI (k:Int)).tS)))::(39, .s (SF.imp ((decide ((k:Int)>0))=true) (wB (cg (fRV 40 (qAt (zV L) k))))))::(40, .s (SF.imp ((decide ((k:Int)>0))=true) ((fRV 40 (qAt (zV L) k)).tS)))::(41, .s (SF.imp ((decide ((k:Int)>0))=true) ((uI (qsg (qAt (zV L) (k - 1)) (qAt (zV L) k))).tS)))::(42, .s (SF.imp ((decide ((k:Int)>0))=true) ((uB (decide (qsg (qAt (zV L) (k - 1)) (qAt (zV L) k)≥0))).tS)))::(43, .u (uB ((decide ((k:Int)>0))&&(decide (qsg (qAt (zV L) (k - 1)) (qAt (zV L) k)≥0))))):: []) hmix s kJ
     (oc zB<|oc (zO .i64 (k:Int) 0 (decide ((k:Int)>0)) iiz iiz rfl rfl)<|oc zB<|oc (zG 31 (decide ((k:Int)>0)) kJ iiz (fun e=>zQ [] ((UF.eq l).tS) fnz (fun _ _ h _=>h) kJ zB) (fun e W h=>absurd h e))<|oc (zG 31 (decide ((k:Int)>0)) kJ iiz (fun e=>zQ [] ((uI (k:Int)).tS) fnz (fun _ _ h _=>h) kJ zB) (fun e W h=>absurd h e))<|oc (zG 31 (decide ((k:Int)>0)) kJ iiz (fun e=>zQ [(33,(uI (k:Int)).tS)] ((uI ((k - 1:Nat):Int)).tS) (fmz ⟨fun v W h=>zL (c:=(decide ((k:Int)>0))=true) (f:=(uI (k:Int)).tS) e h,fnz⟩) (fun _ _ h _=>h) kJ (zEa .i64 (k:Int) 1 ((k - 1:Nat):Int) iiz iiz (by have hg:=zWI e;rw [zWR];omega))) (fun e W h=>absurd h e))<|oc (zG 31 (decide ((k:Int)>0)) kJ iiz (fun e=>zQ [(32,(UF.eq l).tS),(34,(uI ((k - 1:Nat):Int)).tS)] (wB (cg (fRV 40 (qAt (zV L) (k - 1))))) (fmz ⟨fun v W h=>zL (c:=(decide ((k:Int)>0))=true) (f:=(UF.eq l).tS) e h,fmz ⟨fun v W h=>zL (c:=(decide ((k:Int)>0))=true) (f:=(uI ((k - 1:Nat):Int)).tS) e h,fnz⟩⟩) (fun _ _ h _=>h) kJ (zZ (z:=3) (Cs:=rvs 40 (zV L)) (i:=k - 1) (C:=CU.agg (fRV 40 (qAt (zV L) (k - 1)))) kJ (zEl oQ) (fun v W hb h=>(yT hV h (s.up hb))) iiz)) (fun e W h=>absurd h e))<|oc (zG 31 (decide ((k:Int)>0)) kJ iiz (fun e=>zQ [(35,wB (cg (fRV 40 (qAt (zV L) (k - 1)))))] ((fRV 40 (qAt (zV L) (k - 1))).tS) (fmz ⟨fun v W h=>zL (c:=(decide ((k:Int)>0))=true) (f:=wB (cg (fRV 40 (qAt (zV L) (k - 1))))) e h,fnz⟩) (fun _ _ h _=>h) kJ (zI (f:=fRV 40 (qAt (zV L) (k - 1))) 3 kJ (hz:=zT _ _))) (fun e W h=>absurd h e))<|oc (zG 31 (decide ((k:Int)>0)) kJ iiz (fun e=>zQ [] ((UF.eq l).tS) fnz (fun _ _ h _=>h) kJ zB) (fun e W h=>absurd h e))<|oc (zG 31 (decide ((k:Int)>0)) kJ iiz (fun e=>zQ [] ((uI (k:Int)).tS) fnz (fun _ _ h _=>h) kJ zB) (fun e W h=>absurd h e))<|oc (zG 31 (decide ((k:Int)>0)) kJ iiz (fun e=>zQ [(37,(UF.eq l).tS),(38,(uI (k:Int)).tS)] (wB (cg (fRV 40 (qAt (zV L) k)))) (fmz ⟨fun v W h=>zL (c:=(decide ((k:Int)>0))=true) (f:=(UF.eq l).tS) e h,fmz ⟨fun v W h=>zL (c:=(decide ((k:Int)>0))=true) (f:=(uI (k:Int)).tS) e h,fnz⟩⟩) (fun _ _ h _=>h) kJ (zZ (z:=3) (Cs:=rvs 40 (zV L)) (i:=k) (C:=CU.agg (fRV 40 (qAt (zV L) k))) kJ (zEl hk) (fun v W hb h=>(yT hV h (s.up hb))) iiz)) (fun e W h=>absurd h e))<|oc (zG 31 (decide ((k:Int)>0)) kJ iiz (fun e=>zQ [(39,wB (cg (fRV 40 (qAt (zV L) k))))] ((fRV 40 (qAt (zV L) k)).tS) (fmz ⟨fun v W h=>zL (c:=(decide ((k:Int)>0))=true) (f:=wB (cg (fRV 40 (qAt (zV L) k)))) e h,fnz⟩) (fun _ _ h _=>h) kJ (zI (f:=fRV 40 (qAt (zV L) k)) 3 kJ (hz:=zT _ _))) (fun e W h=>absurd h e))<|oc (zG 31 (decide ((k:Int)>0)) kJ iiz (fun e=>zQ [(36,(fRV 40 (qAt (zV L) (k - 1))).tS),(40,(fRV 40 (qAt (zV L) k)).tS)] ((uI (qsg (qAt (zV L) (k - 1)) (qAt (zV L) k))).tS) (fmz ⟨fun v W h=>zL (c:=(decide ((k:Int)>0))=true) (f:=(fRV 40 (qAt (zV L) (k - 1))).tS) e h,fmz ⟨fun v W h=>zL (c:=(decide ((k:Int)>0))=true) (f:=(fRV 40 (qAt (zV L) k)).tS) e h,fnz⟩⟩) (fun _ _ h _=>h) kJ (zJ zE zJX (fun u0 u1 W hb (h0:RVp 40 (qAt (zV L) (k - 1)) u0 W) (h1:RVp 40 (qAt (zV L) k) u1 W)=>zAZ (m:=40) h0 h1 dC dC))) (fun e W h=>absurd h e))<|oc (zG 31 (decide ((k:Int)>0)) kJ iiz (fun e=>zQ [(41,(uI (qsg (qAt (zV L) (k - 1)) (qAt (zV L) k))).tS)] ((uB (decide (qsg (qAt (zV L) (k - 1)) (qAt (zV L) k)≥0))).tS) (fmz ⟨fun v W h=>zL (c:=(decide ((k:Int)>0))=true) (f:=(uI (qsg (qAt (zV L) (k - 1)) (qAt (zV L) k))).tS) e h,fnz⟩) (fun _ _ h _=>h) kJ (zO .i64 (qsg (qAt (zV L) (k - 1)) (qAt (zV L) k)) 0 (decide (qsg (qAt (zV L) (k - 1)) (qAt (zV L) k)≥0)) iiz iiz rfl rfl)) (fun e W h=>absurd h e))<|oc (yO (decide ((k:Int)>0)) iiz (fun e v W h=>jM (zL e h) e) (fun e v W h=>qV h e))<|zD) fun a w7 s=> ?_
    refine zA rfl ?_
    refine StS.cond s ((decide ((k:Int)>0))&&(decide (qsg (qAt (zV L) (k - 1)) (qAt (zV L) k)≥0))) iiz (fun e=> ?_) (fun e=> ?_)
    ·refine zWB ?_
     refine zC 2 ((44, .Z (uB true))::(4, .u (uB true)):: []) hmix s kJ
      (oc (zDH zE zTa (fun W hb=>zER (hT.below (s.up hb))))<|oc zF<|zD) fun a w8 s=> ?_
     refine zA rfl ?_
     refine zWH ?_
     exact wV s hbA (t:=4) rfl iiz
    ·have hR:=zQK hx.2 e
     refine zWK ?_
     refine zWB ?_
     refine zC 7 ((45, .Z (UF.eq l))::(46, .Z (uI (k:Int)))::(47, .Y (fRV 40 (qAt (zV L) k)))::(48, .Z (fRV 40 (qAt (zV L) k)))::(49, .Z (fRV 40 (y.q)))::(50, .Z (uI (qsg (qAt (zV L) k) y.q)))::(8, .u (uI (qsg (qAt (zV L) k) y.q))):: []) hmix s kJ
      (oc zB<|oc zB<|oc (zZ (z:=3) (Cs:=rvs 40 (zV L)) (i:=k) (C:=CU.agg (fRV 40 (qAt (zV L) k))) kJ (zEl hk) (fun v W hb h=>(yT hV h (s.up hb))) iiz)<|oc (zI (f:=fRV 40 (qAt (zV L) k)) 3 kJ (hz:=zT _ _))<|oc (zDG (C:=(QX.cu y).cf) 3 kJ (fun _ _ h=>h.2) (zL1 hy40))<|oc (zJ zE zJX (fun u0 u1 W hb (h0:RVp 40 (qAt (zV L) k) u0 W) (h1:RVp 40 (y.q) u1 W)=>zAZ (m:=40) h0 h1 dC dC))<|oc zF<|zD) fun a w9 s=> ?_
     refine zA rfl ?_
     refine zWB ?_
     refine zWB ?_
     refine zC 2 ((51, .Z (uI (qsg (qAt (zV L) k) y.q)))::(52, .u (uB (decide (qsg (qAt (zV L) k) y.q<0)))):: []) hmix s kJ
      (oc zB<|oc (zO .i64 (qsg (qAt (zV L) k) y.q) 0 (decide (qsg (qAt (zV L) k) y.q<0)) iiz iiz rfl rfl)<|zD) fun a w10 s=> ?_
     refine zA rfl ?_
     refine StS.cond s (decide (qsg (qAt (zV L) k) y.q<0)) iiz (fun e=> ?_) (fun e=> ?_)
     ·have hc:=zJ1 e
      refine zR 2 ((53, .Z (uI ((zA4 (zV L) y.q k:Nat):Int)))::(54, .u (uI ((zA4 (zV L) y.q (k+1):Nat):Int))):: []) s kJ
       (oc zB<|oc (yM .i64 ((zA4 (zV L) y.q k:Nat):Int) 1 ((zA4 (zV L) y.q (k+1):Nat):Int) iiz iiz (by rw [hc];exact wrap64 _ _ oQ oQ))<|zD) fun a w11 s=> ?_
      replace s:=s.drop [5]
      refine zS (uI ((zA4 (zV L) y.q (k+1):Nat):Int)) rfl s kJ iiz fun a w s=> ?_
      refine zA rfl ?_
      refine zR 5 ((55, .Z (uB (zDo (zV L) y.q k)))::(56, .Z (uB (zDo (zV L) y.q k)))::(57, .s (SF.imp ((zDo (zV L) y.q k)=false) ((uI (qsg (qAt (zV L) k) y.q)).tS)))::(58, .s (SF.imp ((zDo (zV L) y.q k)=false) ((uB (qsg (qAt (zV L) k) y.q==0)).tS)))::(59, .u (uB (zDo (zV L) y.q (k+1)))):: []) s kJ
       (oc zB<|oc zB<|oc (zG 56 (zDo (zV L) y.q k) kJ iiz (fun e=>zQ [] ((uI (qsg (qAt (zV L) k) y.q)).tS) fnz (fun _ _ h _=>h) kJ zB) (fun e W h=>absurd h e))<|oc (zG 56 (zDo (zV L) y.q k) kJ iiz (fun e=>zQ [(57,(uI (qsg (qAt (zV L) k) y.q)).tS)] ((uB (qsg (qAt (zV L) k) y.q==0)).tS) (fmz ⟨fun v W h=>zL (c:=(zDo (zV L) y.q k)=false) (f:=(uI (qsg (qAt (zV L) k) y.q)).tS) e h,fnz⟩) (fun _ _ h _=>h) kJ (zO .i64 (qsg (qAt (zV L) k) y.q) 0 (qsg (qAt (zV L) k) y.q==0) iiz iiz rfl rfl)) (fun e W h=>absurd h e))<|oc (yO (zDo (zV L) y.q k) iiz (fun e v W h=>zCz h e) (fun e v W h=>zBJ (zL e h) e))<|zD) fun a w12 s=> ?_
      replace s:=s.drop [6]
      refine zS (uB (zDo (zV L) y.q (k+1))) rfl s kJ iiz fun a w s=> ?_
      refine zA rfl ?_
      refine zR 2 ((27, .Z (uI (k:Int)))::(28, .u (uI ((k+1:Nat):Int))):: []) s kJ
       (oc zB<|oc (yM .i64 (k:Int) 1 ((k+1:Nat):Int) iiz iiz (wrap64 _ _ oQ oQ))<|zD) fun a w13 s=> ?_
      replace s:=s.drop [7]
      refine zS (uI ((k+1:Nat):Int)) rfl s kJ iiz fun a w s=> ?_
      refine zA rfl ?_
      exact ⟨k+1,⟨hk,hR⟩,(by show (zV L).length - (k+1)<(zV L).length - k;omega),s.keepK _ (fmz ⟨zGp,fmz ⟨mz4,fmz ⟨mz2,fmz ⟨.head _,fnz⟩⟩⟩⟩)⟩
     ·have hc:=zJ3 e
      rw [<-hc] at s
      refine zWK ?_
      refine zR 5 ((55, .Z (uB (zDo (zV L) y.q k)))::(56, .Z (uB (zDo (zV L) y.q k)))::(57, .s (SF.imp ((zDo (zV L) y.q k)=false) ((uI (qsg (qAt (zV L) k) y.q)).tS)))::(58, .s (SF.imp ((zDo (zV L) y.q k)=false) ((uB (qsg (qAt (zV L) k) y.q==0)).tS)))::(59, .u (uB (zDo (zV L) y.q (k+1)))):: []) s kJ
       (oc zB<|oc zB<|oc (zG 56 (zDo (zV L) y.q k) kJ iiz (fun e=>zQ [] ((uI (qsg (qAt (zV L) k) y.q)).tS) fnz (fun _ _ h _=>h) kJ zB) (fun e W h=>absurd h e))<|oc (zG 56 (zDo (zV L) y.q k) kJ iiz (fun e=>zQ [(57,(uI (qsg (qAt (zV L) k) y.q)).tS)] ((uB (qsg (qAt (zV L) k) y.q==0)).tS) (fmz ⟨fun v W h=>zL (c:=(zDo (zV L) y.q k)=false) (f:=(uI (qsg (qAt (zV L) k) y.q)).tS) e h,fnz⟩) (fun _ _ h _=>h) kJ (zO .i64 (qsg (qAt (zV L) k) y.q) 0 (qsg (qAt (zV L) k) y.q==0) iiz iiz rfl rfl)) (fun e W h=>absurd h e))<|oc (yO (zDo (zV L) y.q k) iiz (fun e v W h=>zCz h e) (fun e v W h=>zBJ (zL e h) e))<|zD) fun a w14 s=> ?_
      replace s:=s.drop [6]
      refine zS (uB (zDo (zV L) y.q (k+1))) rfl s kJ iiz fun a w s=> ?_
      refine zA rfl ?_
      refine zR 2 ((27, .Z (uI (k:Int)))::(28, .u (uI ((k+1:Nat):Int))):: []) s kJ
       (oc zB<|oc (yM .i64 (k:Int) 1 ((k+1:Nat):Int) iiz iiz (wrap64 _ _ oQ oQ))<|zD) fun a w15 s=> ?_
      replace s:=s.drop [7]
      refine zS (uI ((k+1:Nat):Int)) rfl s kJ iiz fun a w s=> ?_
      refine zA rfl ?_
      exact ⟨k+1,⟨hk,hR⟩,(by show (zV L).length - (k+1)<(zV L).length - k;omega),s.keepK _ (fmz ⟨mz8,fmz ⟨mz9,fmz ⟨mz2,fmz ⟨.head _,fnz⟩⟩⟩⟩)⟩
   ·have hkN:k=(zV L).length:=by have h7:=zWG e;have h8:=hx.1;simp at h7 h8 ⊢;omega
    have hR:zEv (zV L) (zV L).length:=hkN▸hx.2
    refine zWL ?_
    refine zWB ?_
    cases eA:zDo (zV L) y.q k
    ·rw [eA] at s
     rw [hkN] at eA
     refine zC 8 ((61, .Z (fRV 40 (y.q)))::(62, .Z (UF.eq l))::(63, .Z (yU (uI (((zA4 (zV L) y.q k:Nat):Int) - 1)) (uB false)))::(60, .Z (yU (uI (((zA4 (zV L) y.q k:Nat):Int) - 1)) (uB false)))::(64, .Z (uI (((zA4 (zV L) y.q k:Nat):Int) - 1)))::(65, .Z (uB false))::(9, .u (uI (((zA4 (zV L) y.q k:Nat):Int) - 1)))::(10, .u (uB false)):: []) hmix s kJ
      (oc (zDG (C:=(QX.cu y).cf) 3 kJ (fun _ _ h=>h.2) (zL1 hy40))<|oc zB<|oc (zJ zE zS5 (fun u0 u1 W hb (h0:RVp 40 (y.q) u0 W) (h1:u1=l)=>(zHH (m:=40) h0 (yT hV h1 (s.up hb)) dC dC hnV (hT.below (s.up hb))).mono (wF (fun v W h=>by rw [zLx hR eA, <-hkN] at h;exact h))))<|oc zB<|oc (yY (A:=(uI (((zA4 (zV L) y.q k:Nat):Int) - 1)).tS) (B:=(uB false).tS) iiz)<|oc (yX (A:=(uI (((zA4 (zV L) y.q k:Nat):Int) - 1)).tS) (B:=(uB false).tS) iiz)<|oc zF<|oc zF<|zD) fun a w16 s=> ?_
     refine zA rfl ?_
     refine zWB ?_
     refine zC 3 ((66, .Z (uI ((zA4 (zV L) y.q k:Nat):Int)))::(67, .Z (uI (((zA4 (zV L) y.q k:Nat):Int) - 1)))::(11, .u (uI (((zA4 (zV L) y.q k:Nat):Int) - 1))):: []) hmix s kJ
      (oc zB<|oc (zEa .i64 ((zA4 (zV L) y.q k:Nat):Int) 1 (((zA4 (zV L) y.q k:Nat):Int) - 1) iiz iiz (by rw [zWR];omega))<|oc zF<|zD) fun a w17 s=> ?_
     refine zA rfl ?_
     refine zWB ?_
     refine zWB ?_
     refine zC 1 ((68, .u (uB false)):: []) hmix s kJ
      (oc zB<|zD) fun a w18 s=> ?_
     refine zA rfl ?_
     refine StS.cond s false iiz (fun e=>by cases e) (fun e=> ?_)
     refine zWK ?_
     refine zWB ?_
     refine zC 12 ((70, .Z (uB false))::(71, .Z (uB false))::(72, .Z (uB true))::(73, .Z (uB true))::(74, .Z (uI (((zA4 (zV L) y.q k:Nat):Int) - 1)))::(75, .Z (uI (((zA4 (zV L) y.q k:Nat):Int) - 1)))::(76, .Z (uB true))::(77, .Z (uB true))::(78, .Z (uB true))::(79, .Z (uB true))::(80, .Z (uB true))::(4, .u (uB true)):: []) hmix s kJ
      (oc zB<|oc zB<|oc (zJF false false true kJ iiz iiz rfl rfl)<|oc zB<|oc (zG 73 true kJ iiz (fun _=>zB) arf)<|oc (zG 73 true kJ iiz (fun _=>zB) arf)<|oc (zG 73 true kJ iiz (fun _=>zO .i64 (((zA4 (zV L) y.q k:Nat):Int) - 1) (((zA4 (zV L) y.q k:Nat):Int) - 1) true iiz iiz (by simp) rfl) arf)<|oc (yO true iiz (fun _ _ _ h=>h) (fun e=>by cases e))<|oc zB<|oc (zG 78 true kJ iiz (fun _=>zDH zE zTa (fun W hb=>zER (hT.below (s.up hb)))) arf)<|oc (yO true iiz (fun _ _ _ h=>h) (fun e=>by cases e))<|oc zF<|zD) fun a w19 s=> ?_
     refine zA rfl ?_
     refine zWH ?_
     exact wV s hbA (t:=4) rfl iiz
    ·rw [eA] at s
     rw [hkN] at eA
     refine zC 8 ((61, .Z (fRV 40 (y.q)))::(62, .Z (UF.eq l))::(63, .Z (yU (uI ((zA4 (zV L) y.q k:Nat):Int)) (uB true)))::(60, .Z (yU (uI ((zA4 (zV L) y.q k:Nat):Int)) (uB true)))::(64, .Z (uI ((zA4 (zV L) y.q k:Nat):Int)))::(65, .Z (uB true))::(9, .u (uI ((zA4 (zV L) y.q k:Nat):Int)))::(10, .u (uB true)):: []) hmix s kJ
      (oc (zDG (C:=(QX.cu y).cf) 3 kJ (fun _ _ h=>h.2) (zL1 hy40))<|oc zB<|oc (zJ zE zS5 (fun u0 u1 W hb (h0:RVp 40 (y.q) u0 W) (h1:u1=l)=>(zHH (m:=40) h0 (yT hV h1 (s.up hb)) dC dC hnV (hT.below (s.up hb))).mono (wF (fun v W h=>by rw [zLx hR eA, <-hkN] at h;exact h))))<|oc zB<|oc (yY (A:=(uI ((zA4 (zV L) y.q k:Nat):Int)).tS) (B:=(uB true).tS) iiz)<|oc (yX (A:=(uI ((zA4 (zV L) y.q k:Nat):Int)).tS) (B:=(uB true).tS) iiz)<|oc zF<|oc zF<|zD) fun a w20 s=> ?_
     refine zA rfl ?_
     refine zWB ?_
     refine zC 3 ((66, .Z (uI ((zA4 (zV L) y.q k:Nat):Int)))::(67, .Z (uI (((zA4 (zV L) y.q k:Nat):Int) - 1)))::(11, .u (uI (((zA4 (zV L) y.q k:Nat):Int) - 1))):: []) hmix s kJ
      (oc zB<|oc (zEa .i64 ((zA4 (zV L) y.q k:Nat):Int) 1 (((zA4 (zV L) y.q k:Nat):Int) - 1) iiz iiz (by rw [zWR];omega))<|oc zF<|zD) fun a w21 s=> ?_
     refine zA rfl ?_
     refine zWB ?_
     refine zWB ?_
     refine zC 1 ((68, .u (uB true)):: []) hmix s kJ
      (oc zB<|zD) fun a w22 s=> ?_
     refine zA rfl ?_
     refine StS.cond s true iiz (fun e=> ?_) (fun e=>by cases e)
     replace s:=s.drop [11]
     refine zC 2 ((69, .Z (uI ((zA4 (zV L) y.q k:Nat):Int)))::(11, .u (uI ((zA4 (zV L) y.q k:Nat):Int))):: []) hmix s kJ
      (oc zB<|oc zF<|zD) fun a w23 s=> ?_
     refine zA rfl ?_
     refine zWB ?_
     refine zC 12 ((70, .Z (uB true))::(71, .Z (uB true))::(72, .Z (uB true))::(73, .Z (uB true))::(74, .Z (uI ((zA4 (zV L) y.q k:Nat):Int)))::(75, .Z (uI ((zA4 (zV L) y.q k:Nat):Int)))::(76, .Z (uB true))::(77, .Z (uB true))::(78, .Z (uB true))::(79, .Z (uB true))::(80, .Z (uB true))::(4, .u (uB true)):: []) hmix s kJ
      (oc zB<|oc zB<|oc (zJF true true true kJ iiz iiz rfl rfl)<|oc zB<|oc (zG 73 true kJ iiz (fun _=>zB) arf)<|oc (zG 73 true kJ iiz (fun _=>zB) arf)<|oc (zG 73 true kJ iiz (fun _=>zO .i64 ((zA4 (zV L) y.q k:Nat):Int) ((zA4 (zV L) y.q k:Nat):Int) true iiz iiz (by simp) rfl) arf)<|oc (yO true iiz (fun _ _ _ h=>h) (fun e=>by cases e))<|oc zB<|oc (zG 78 true kJ iiz (fun _=>zDH zE zTa (fun W hb=>zER (hT.below (s.up hb)))) arf)<|oc (yO true iiz (fun _ _ _ h=>h) (fun e=>by cases e))<|oc zF<|zD) fun a w24 s=> ?_
     refine zA rfl ?_
     refine zWH ?_
     exact wV s hbA (t:=4) rfl iiz
 ·have hb0:=s.gr.size
  have hbx2:b2<w.heap.size:=s.old _ (.head _)
  refine qZ 3 ((12, .Z (fQX y.n y.n' y.k y.d))::(13, .s (wM w 27 3 [QX.cu y]))::(14, .u (UF.eq l)):: []) hmix s kJ
   (oc (zI (f:=fQX y.n y.n' y.k y.d) 3 kJ (hz:=zL2 _ _ _ _))<|oc (zFP (fun u W hb (hu:(fQX y.n y.n' y.k y.d).p u W)=>zLk hb.size hu))<|oc zB<|zD) fun a w25 s hr=> ?_
  obtain ⟨v13,e13⟩: ∃v,a.tmps.getD 13 undef=v:=⟨_,rfl⟩
  have hv13:zAW w25 w.heap.size 27 3 v13 [QX.cu y]:=e13▸(hr (_,_) mz1)
  replace s:=s.learn 13 v13 e13
  have hbW:=s.below
  have s0:=s
  have hsz1:w.heap.size<=w25.heap.size:=by rcases hv13 with ⟨_,h⟩|⟨g,_,_,_,h1,h2,_⟩;cases h;have:=(zWZ.1 h2).1;omega
  replace s:StS _ _ _ [⟨2,27,QX.cu y,b2,true⟩] _ _ _ _:=s.freeze
  replace s:=s.reb rfl [(13, .u (UF.eq v13)),(14, .u (UF.eq l)),(4, .u (uB false)),(0, .u (fQX y.n y.n' y.k y.d)),(1, .u (UF.eq l))] (fmz ⟨.inl (.head _),fmz ⟨.inl mz1,fmz ⟨.inl mz2,fmz ⟨.inl mz3,fmz ⟨.inl mz4,fnz⟩⟩⟩⟩⟩)
  refine zI3 (L.map QX.cu) s0 (s.keepK [(13, .u (UF.eq v13)),(14, .u (UF.eq l)),(4, .u (uB false)),(0, .u (fQX y.n y.n' y.k y.d)),(1, .u (UF.eq l))] (fmz ⟨.head _,fmz ⟨mz1,fmz ⟨mz2,fmz ⟨mz3,fmz ⟨mz4,fnz⟩⟩⟩⟩⟩)) hb0 ⟨hsz1,hv13⟩ rfl kJ kJ kJ (s.fct (.tmp 13)) (by rw [show a.eval (.tmp 14)=l from s.fct (.tmp 14)];exact (SF.row 3 _).st _ _ _ hl hbW) (zL0 L) (by simp;omega) (fun q hq hr=>by rcases zWD.1 hq with rfl|hq;exact hbx2;cases hq) fun v15 a w hv15 _ _ _ s=> ?_
  replace hv15:zAW w _ 27 3 v15 ((y::L).map QX.cu):=hv15.2
  have hbA:=s.below
  replace hT:=hT.below hbA
  replace hl:=(SF.row 3 _).st _ _ _ hl hbA
  replace s:=s.reb rfl [(15, .u (UF.eq v15)),(13, .u (UF.eq v13)),(14, .u (UF.eq l)),(4, .u (uB false)),(0, .u (fQX y.n y.n' y.k y.d)),(1, .u (UF.eq l))] (fmz ⟨.inl (.head _),fmz ⟨.inl mz1,fmz ⟨.inl mz2,fmz ⟨.inl mz3,fmz ⟨.inl mz4,fmz ⟨.inl mz5,fnz⟩⟩⟩⟩⟩⟩)
  refine zC0 (uB true) rfl s kJ (zH zE zVe (fun u0 W hb (h0:u0=v15)=>(zHd (L:=y::L) (yT hv15.row h0 (s.up hb)) hLy).mono (wF (fun v W h=>by rw [eG] at h;exact h)))) kJ fun a w s=> ?_
  refine zC0 (uB true) rfl s kJ zB kJ fun a w s=> ?_
  refine zLg (.bool true) rfl rfl s iiz kJ kJ (fun a w s=> ?_)
  refine zLg (.bool true) rfl rfl s iiz kJ kJ (fun a w s=> ?_)
  refine zLg (.bool true) rfl rfl s iiz kJ kJ (fun a w s=> ?_)
  refine zC0 (uB true) rfl s kJ (yO true iiz (fun _ _ _ h=>h) (fun e=>by cases e)) kJ fun a w s=> ?_
  refine zA rfl ?_
  refine StS.cond s true iiz (fun e=> ?_) (fun e=>by cases e)
  refine zWB ?_
  replace s:=s.drop [4]
  refine zC 2 ((22, .Z (uB true))::(4, .u (uB true)):: []) hmix s kJ
   (oc (zDH zE zTa (fun W hb=>zER (hT.below (s.up hb))))<|oc zF<|zD) fun a w26 s=> ?_
  refine zA rfl ?_
  refine zWH ?_
  exact wV s hbA (t:=4) rfl iiz
end Go.Proofs.Wd
