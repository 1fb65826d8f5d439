/- Walks of straitref09: Side, Turns; of straitref13.Convex; Walks of str and what it needs. -/
import Derived.Test.YtihcepanbejfpaaGreatDoorMEW21
namespace Go.Proofs.Wd
open Tryz
variable {b b' b2 b3 base c c' cap d f g i k m n n0 q z:Nat}{W w w' w0:WB}{l u v v' vo x:WE}{a p r:V2}{t:V6}{T acc ts:List V6}{y:Operand}{L:List PX}{e e' ty:WF}{C C':CU}{r':Bool}{pos:String}{aft:Array Edge}{ps row row0:List V2}{Cs:List CU}{a_ b_:Rat}
set_option maxRecDepth 100000
set_option maxHeartbeats 4000000
open Go.RowKit Lb
theorem zHK{q:V2}(h1:(fPV m p).p u W)(h2:(fPV m q).p v W)(h3:(fPV m r).p x W)(hm:m<=246)(I:0<m):Calls prog 44 #[u,v,x] W (Ret W (fI (yP p q r)).tS):=by
 have J:=zC6 I h1
 have hq:=zC6 I h2
 have hr:=zC6 I h3
 refine zZ [(fPV m p).tS,(fPV m q).tS,(fPV m r).tS] func44 rfl kA ⟨h1,h2,h3,trivial⟩ fun a s=>lP<|rgK 0 [] s
  zB fun a w1 s=>yL (CU.agg (fPV m p)) rfl s kA (fun v W h=>yV h) fun b3 a w s=>yL (CU.agg (fPV m q)) rfl s kA (fun v W h=>yV h) fun b4 a w s=>yL (CU.agg (fPV m r)) rfl s kA (fun v W h=>yV h) fun b5 a w s=>yQ (uI 0) rfl s kA iiz fun a w s=>zD rfl<|lP ?_
 replace s:=s.drop [6]
 exact rgE ((7,.Z (fPV m q))::(8,.Z (fPV m p))::(9,.Z (fPN ((q).1-(p).1,(q).2-(p).2)))::(10,.Z (fPV m r))::(11,.Z (fPV m p))::(12,.Z (fPN ((r).1-(p).1,(r).2-(p).2)))::(13,.Z (fQN (crs p q r)))::(14,.Z (uI (yP p q r)))::(6,.u (uI (yP p q r)))::[]) s
  (oc (zK m q)<|oc (zK m p)<|oc (zH zC zFl (fun O u1 W hb (U:(fPV m q).p O W) (h1:(fPV m p).p u1 W)=>zBL (m:=m) (p:=q) (q:=p) U h1 oA I))<|oc (zK m r)<|oc (zK m p)<|oc (zH zC zFl (fun O u1 W hb (U:(fPV m r).p O W) (h1:(fPV m p).p u1 W)=>zBL (m:=m) (p:=r) (q:=p) U h1 oA I))<|oc (zH zC zMF (fun O u1 W hb (U:(fPN ((q).1-(p).1,(q).2-(p).2)).p O W) (h1:(fPN ((r).1-(p).1,(r).2-(p).2)).p u1 W)=>zC3 (m:=2*m+1) (p:=((q).1-(p).1,(q).2-(p).2)) (q:=((r).1-(p).1,(r).2-(p).2)) (zBu (p:=((q).1-(p).1,(q).2-(p).2)) (m:=(2*m+1)) ((zBn hq J).1.mono fP) ((zBn hq J).2.mono fP) U) (zBu (p:=((r).1-(p).1,(r).2-(p).2)) (m:=(2*m+1)) ((zBn hr J).1.mono fP) ((zBn hr J).2.mono fP) h1) (zBn hq J) (zBn hr J) oA oA))<|oc (zG zC zPd (fun O W hb (U:QNp (crs p q r) O W)=>zEl (m:=((2*m+1)+(2*m+1)+((2*m+1)+(2*m+1))+1)) (wH U (((zBn hq J).1.mul (zBn hr J).2).sub ((zBn hq J).2.mul (zBn hr J).1))) oA))<|oc zF<|zB) fun a w2 s=>pS<|wF s (t:=6) rfl iiz
theorem zR8(hi:i<3)(cs:List WE)(W:WB)(h:(CU.agg (fTN t)).p cs W):6*i+6<=cs.length/\(fPN (cor t i)).p (.agg ((cs.drop (6*i)).take 6).toArray) W:=by
 match i,hi with
 |0,_=>exact zVs cs W h
 |1,_=>exact zVr cs W h
 |2,_=>exact zTs cs W h
theorem zM8(ts:List V6):(tns ts).length=ts.length:=fG
theorem zGZ{l':WE}(O:(SF.row 18 (tns ts)).p l W)(I:(SF.row 18 (tns ts)).p l' W)(hn:ts.length<=1000000):Calls prog 19 #[l,l'] W (Ret W (fB true).tS):=by
 refine zZ [(UF.eq l).tS,(UF.eq l').tS] func19 rfl kA ⟨rfl,rfl,trivial⟩ fun a s=>?_
 replace s:=s.renew [(0,.u (UF.eq l)),(1,.u (UF.eq l'))] (fU (.inr ⟨_,rfl,.head _⟩)<|fU (.inr ⟨_,rfl,mz1⟩) fnz)
 refine rgQ ((4,.u (uB false))::[]) s
  (oc zF<|zB) fun a w1 s=>lP<|rgQ ((7,.Z (UF.eq l))::(8,.Z (uI ((tns ts).length:Int)))::(9,.Z (UF.eq l'))::(10,.Z (uI ((tns ts).length:Int)))::(11,.u (uB false))::[]) s
  (oc zA<|oc (yK (z:=18) (Cs:=tns ts) kA (yM O s) (fun _=>rfl))<|oc zA<|oc (yK (z:=18) (Cs:=tns ts) kA (yM I s) (fun _=>rfl))<|oc (zI .i64 ((tns ts).length:Int) ((tns ts).length:Int) false iiz iiz fG rfl)<|zB) fun a w2 s=>StS.cond s false iiz fS (fun e=>?_)
 refine pT<|lP<|rgQ ((5,.u (uI 0))::[]) s
  (oc zF<|zB) fun a w3 s=>tT<|zAs (fun i=>i<=ts.length) (fun i=> [(0,.u (UF.eq l)),(1,.u (UF.eq l')),(5,.u (uI ((i:Nat):Int)))]) (fun i=>ts.length-i) (0:Nat) (vS _) (s.keepK _ (fU mz3<|fU mz4<|fU (.head _) fnz)) fun i a w hx s=>?_
 have U:=zM8 ts
 refine lP<|rgQ ((12,.Z (uI (i:Int)))::(13,.Z (UF.eq l))::(14,.Z (uI ((tns ts).length:Int)))::(15,.u (uB (ltz i ((tns ts).length))))::[]) s
  (oc zA<|oc zA<|oc (yK (z:=18) (Cs:=tns ts) kA (yM O s) (fun _=>rfl))<|oc (zI .i64 (i:Int) ((tns ts).length:Int) (ltz i ((tns ts).length)) iiz iiz rfl rfl)<|zB) fun a w4 s=>StS.cond s (ltz i ((tns ts).length)) iiz (fun e=>?_) (fun e=>?_)
 .have hi:i<ts.length:=by have:=xX e;rw[U]at this;omega
  refine pT<|lP<|tT<|rgQ ((6,.u (uI 0))::[]) s
   (oc zF<|zB) fun a w5 s=>tT<|zAs (fun k=>k<=3) (fun k=> [(0,.u (UF.eq l)),(1,.u (UF.eq l')),(5,.u (uI (i:Int))),(6,.u (uI ((k:Nat):Int)))]) (fun k=>3-k) (0:Nat) (vS _) (s.keepK _ (fU mz2<|fU mz3<|fU mz4<|fU (.head _) fnz)) fun k a w hx s=>lP<|rgQ ((18,.Z (uI (k:Int)))::(19,.u (uB (decide ((k:Int)<3))))::[]) s
   (oc zA<|oc (zI .i64 (k:Int) 3 (decide ((k:Int)<3)) iiz iiz rfl rfl)<|zB) fun a w6 s=>StS.cond s (decide ((k:Int)<3)) iiz (fun e=>?_) (fun e=>?_)
  .have J:k<3:=by have:=xX e;omega
   refine pT<|lP<|tT<|rgQ ((22,.Z (UF.eq l))::(23,.Z (uI (i:Int)))::(24,.Z (uI (k:Int)))::(25,.Y (fTN (at3 ts i)))::(26,.X (fTN (at3 ts i)) (6*k))::(27,.Z (fPN (cor (at3 ts i) k)))::(28,.Z (UF.eq l'))::(29,.Z (uI (i:Int)))::(30,.Z (uI (k:Int)))::(31,.Y (fTN (at3 ts i)))::(32,.X (fTN (at3 ts i)) (6*k))::(33,.Z (fPN (cor (at3 ts i) k)))::(34,.Z (uB true))::(35,.u (uB false))::[]) s
    (oc zA<|oc zA<|oc zA<|oc (zO (z:=18) (Cs:=tns ts) (i:=i) (C:=CU.agg (fTN (at3 ts i))) kA (zFQ hi) (yM O s) iiz)<|oc (zAM (C:=cg (fTN (at3 ts i))) k (6*k) (zIE J) iiz iiz)<|oc (zQ (C:=cg (fTN (at3 ts i))) (k:=6*k) 6 kA (h:=zR8 J))<|oc zA<|oc zA<|oc zA<|oc (zO (z:=18) (Cs:=tns ts) (i:=i) (C:=CU.agg (fTN (at3 ts i))) kA (zFQ hi) (yM I s) iiz)<|oc (zAM (C:=cg (fTN (at3 ts i))) k (6*k) (zIE J) iiz iiz)<|oc (zQ (C:=cg (fTN (at3 ts i))) (k:=6*k) 6 kA (h:=zR8 J))<|oc (zH zC zYy (fun u0 u1 W hb (h0:(fPN (cor (at3 ts i) k)).p u0 W) (h1:(fPN (cor (at3 ts i) k)).p u1 W)=>zNM h0 h1))<|oc (zFd true iiz (fun _=>rfl))<|zB) fun a w7 s=>StS.cond s false iiz fS (fun e=>?_)
   refine pT<|zV 2 ((20,.Z (uI (k:Int)))::(21,.u (uI ((k+1:Nat):Int)))::[]) s kA
    (oc zA<|oc (yB .i64 (k:Int) 1 ((k+1:Nat):Int) iiz iiz (wrap64 _ _ oA oA))<|zB) fun a w8 s=>?_
   replace s:=s.drop [6]
   exact yQ (uI ((k+1:Nat):Int)) rfl s kA iiz fun a w s=>zD rfl<|⟨k+1,J,(by show 3-(k+1)<3-k;omega),s.keepK _ (fU mz4<|fU mz5<|fU mz6<|fU (.head _) fnz)⟩
  .refine tU ?_
   refine zV 2 ((16,.Z (uI (i:Int)))::(17,.u (uI ((i+1:Nat):Int)))::[]) s kA
    (oc zA<|oc (yB .i64 (i:Int) 1 ((i+1:Nat):Int) iiz iiz (wrap64 _ _ oA oA))<|zB) fun a w9 s=>?_
   replace s:=s.drop [5]
   exact yQ (uI ((i+1:Nat):Int)) rfl s kA iiz fun a w s=>zD rfl<|⟨i+1,hi,(by show ts.length-(i+1)<ts.length-i;omega),s.keepK _ (fU mz3<|fU mz4<|fU (.head _) fnz)⟩
 .refine tU ?_
  exact rgQ ((4,.u (uB true))::[]) s
   (oc zF<|zB) fun a w10 s=>pS<|wF s (t:=4) rfl iiz
theorem zQQ{y:WE}(h1:(fTR m t).p x W)(h2:(fPV m p).p y W)(O:m<=159)(I:0<m):Calls prog 14 #[x,y] W (Ret W (fI (zBi t p)).tS):=by
 refine zZ [(fTR m t).tS,(fPV m p).tS] func14 rfl kA ⟨h1,h2,trivial⟩ fun a s=>?_
 replace s:=s.renew [(0,.u (fTR m t)),(1,.u (fPV m p))] (fU (.inr ⟨_,rfl,.head _⟩)<|fU (.inr ⟨_,rfl,mz1⟩) fnz)
 refine lP<|rgK 0 [] s
  zB fun a w1 s=>yL (CU.agg (fTR m t)) rfl s kA (fun v W h=>zM7 h) fun b2 a w s=>yL (CU.agg (fPV m p)) rfl s kA (fun v W h=>yV h) fun b3 a w s=>yQ (uI 0) rfl s kA iiz fun a w s=>zD rfl<|rgQ ((5,.u (uI 1))::[]) s
  (oc zF<|zB) fun a w2 s=>lP<|rgQ ((6,.u (uI 0))::[]) s
  (oc zF<|zB) fun a w3 s=>tT<|zAs (fun i=>i<=3) (fun i=> [(5,.u (uI (zIw t p i))),(6,.u (uI ((i:Nat):Int)))]) (fun i=>3-i) (0:Nat) (vS _) (s.keepK _ (fU mz1<|fU (.head _) fnz)) fun i a w U s=>lP<|rgQ ((7,.Z (uI (i:Int)))::(8,.u (uB (decide ((i:Int)<3))))::[]) s
  (oc zA<|oc (zI .i64 (i:Int) 3 (decide ((i:Int)<3)) iiz iiz rfl rfl)<|zB) fun a w4 s=>StS.cond s (decide ((i:Int)<3)) iiz (fun e=>?_) (fun e=>?_)
 .have hi:i<3:=by have:=xX e;omega
  have J:(i+1)%3<3:=vY _ dA
  refine pT<|lP<|tT<|zDX (K:=[(8,.u (uB (decide ((i:Int)<3)))),(6,.u (uI (i:Int)))]) [(5,.u (uI (zIw t p i)))] [0,1,4] 12 ((11,.Z (uI (zIw t p i)))::(12,.Z (uI (i:Int)))::(13,.X (fTR m t) (6*i))::(14,.Z (fPV m (cor t i)))::(15,.Z (uI (i:Int)))::(16,.Z (uI ((i+1:Nat):Int)))::(17,.Z (uI (((i+1)%3:Nat):Int)))::(18,.s (wC ((CU.agg (fTR m t)).cf.at (6*((i+1)%3)))))::(19,.Z (fPV m (cor t ((i+1)%3))))::(20,.Z (fPV m p))::(21,.Z (uI (yP (cor t i) (cor t ((i+1)%3)) p)))::(22,.u (uI (zIw t p (i+1))))::[]) hmix (s.keepK _ (fU mz1<|fU (.head _)<|fU mz2 fnz)) kA
   (oc zA<|oc zA<|oc (zAM (C:=cg (fTR m t)) i (6*i) (zIE hi) (fun _ _ h=>h.2) iiz)<|oc (zQ (C:=cg (fTR m t)) (k:=6*i) 6 kA (h:=zM6 hi))<|oc zA<|oc (yB .i64 (i:Int) 1 ((i+1:Nat):Int) iiz iiz (wrap64 _ _ oA oA))<|oc (zBv .i64 ((i+1:Nat):Int) 3 (((i+1)%3:Nat):Int) iiz iiz dA (zBK _ 3))<|oc (zAM (C:=cg (fTR m t)) ((i+1)%3) (6*((i+1)%3)) (zIE J) (fun _ _ h=>h.2) iiz)<|oc (zQ (C:=cg (fTR m t)) (k:=6*((i+1)%3)) 6 kA (h:=zM6 J))<|oc (zK m p)<|oc (jG zC zUO (fun u0 u1 u2 W hb (h0:(fPV m (cor t i)).p u0 W) (h1:(fPV m (cor t ((i+1)%3))).p u1 W) (h2:(fPV m p).p u2 W)=>zHK h0 h1 h2 (xR O dA) I))<|oc (zOq (zIw t p i) (yP (cor t i) (cor t ((i+1)%3)) p) iiz iiz (fun _=>by rw[Int.min_comm];rfl))<|zB) fun Q' hQ a w5 s=>yQ (uI (zIw t p (i+1))) rfl s kA iiz fun a w s=>zD rfl (hQ _ _ ?_)
  refine zV 2 ((9,.Z (uI (i:Int)))::(10,.u (uI ((i+1:Nat):Int)))::[]) s kA
   (oc zA<|oc (yB .i64 (i:Int) 1 ((i+1:Nat):Int) iiz iiz (wrap64 _ _ oA oA))<|zB) fun a w6 s=>?_
  replace s:=s.drop [6]
  exact yQ (uI ((i+1:Nat):Int)) rfl s kA iiz fun a w s=>zD rfl<|⟨i+1,hi,(by show 3-(i+1)<3-i;omega),s.keepK _ (fU mz2<|fU (.head _) fnz)⟩
 .have hi:i=3:=by have h7:=nF e;have h8:=U;omega
  exact tU<|rgQ ((23,.Z (uI (zIw t p i)))::(4,.u (uI (zIw t p i)))::[]) s
   (oc zA<|oc zF<|zB) fun a w7 s=>pS<|wF s (t:=4) rfl (fun v W h=>by rw[<-zSA,<-hi];exact h)
theorem zNT(U:(SF.row 18 (trs 1 ts)).p l W)(hn:ts.length<=12):Calls prog 11 #[l] W (Ret W (fQN (arK ts ts.length)).tS):=by
 refine zZ [(UF.eq l).tS] func11 rfl kA ⟨rfl,trivial⟩ fun a s=>?_
 replace s:=s.renew [(0,.u (UF.eq l))] (fU (.inr ⟨_,rfl,.head _⟩) fnz)
 refine lP<|rgK 0 [] s
  zB fun a w1 s=>zX (CU.len 3) (cs:=zR3) kA rfl s kA (fun W=>rfl) rfl fun b2 a w s=>zD rfl<|lP<|rgK 1 ((5,.u (fQN (arK ts 0)))::[]) s
  (oc (zG zC zGM (fun J W hb (O:J=.int .i64 0)=>zDK 0 O dA))<|zB) fun a w2 s=>zX (CU.len 3) (cs:=zR3) kA rfl s kA (fun W=>rfl) rfl fun b3 a w s=>zM (fQN (arK ts 0)) rfl s zW fun a w s=>zD rfl<|lP<|rgQ ((4,.u (uI 0))::[]) s
  (oc zF<|zB) fun a w3 s=>tT<|zB4 3 (fun k=>CU.agg (fQN (arK ts k))) (fun k=>k<=ts.length) (fun k=> [(0,.u (UF.eq l)),(4,.u (uI ((k:Nat):Int)))]) (fun k=>ts.length-k) (0:Nat) (vS _) (s.keepK _ (fU mz2<|fU (.head _) fnz)) rfl fun k a w hx s=>?_
 have h9:(trs 1 ts).length=ts.length:=fG
 refine lP<|rgQ ((6,.Z (uI (k:Int)))::(7,.Z (UF.eq l))::(8,.Z (uI ((trs 1 ts).length:Int)))::(9,.u (uB (ltz k ((trs 1 ts).length))))::[]) s
  (oc zA<|oc zA<|oc (yK (z:=18) (Cs:=trs 1 ts) kA (yM U s) (fun _=>rfl))<|oc (zI .i64 (k:Int) ((trs 1 ts).length:Int) (ltz k ((trs 1 ts).length)) iiz iiz rfl rfl)<|zB) fun a w4 s=>StS.cond s (ltz k ((trs 1 ts).length)) iiz (fun e=>?_) (fun e=>?_)
 .have hk:k<ts.length:=by have:=xX e;rw[h9]at this;omega
  have I:=zKN dA U hk
  have h8:QB (arK ts k) 200:=(zHg (fun i hi=>zKN dA U hi) k oA).mono oA
  have hc:QB (trn (at3 ts k)) 200:=(zKP I).mono dA
  have h4:QB (((at3 ts k).2.1).1-((at3 ts k).1).1,((at3 ts k).2.1).2-((at3 ts k).1).2).1 3/\QB (((at3 ts k).2.1).1-((at3 ts k).1).1,((at3 ts k).2.1).2-((at3 ts k).1).2).2 3:=⟨((I _ (bZ _ (bV ..))).1.sub (I _ (bV ..)).1).mono dA,((I _ (bZ _ (bV ..))).2.sub (I _ (bV ..)).2).mono dA⟩
  have h5:QB (((at3 ts k).2.2).1-((at3 ts k).1).1,((at3 ts k).2.2).2-((at3 ts k).1).2).1 3/\QB (((at3 ts k).2.2).1-((at3 ts k).1).1,((at3 ts k).2.2).2-((at3 ts k).1).2).2 3:=⟨((I _ (bZ _ (bZ _ (bV ..)))).1.sub (I _ (bV ..)).1).mono dA,((I _ (bZ _ (bZ _ (bV ..)))).2.sub (I _ (bV ..)).2).mono dA⟩
  refine pT<|lP<|tT<|yJ [1,2,6,7,12,13,17,18] 26 ((12,.Z (fQN (arK ts k)))::(13,.Z (UF.eq l))::(14,.Z (uI (k:Int)))::(15,.Y (fTR 1 (at3 ts k)))::(16,.X (fTR 1 (at3 ts k)) 6)::(17,.Z (fPV 1 ((at3 ts k).2.1)))::(18,.Z (UF.eq l))::(19,.Z (uI (k:Int)))::(20,.Y (fTR 1 (at3 ts k)))::(21,.X (fTR 1 (at3 ts k)) 0)::(22,.Z (fPV 1 ((at3 ts k).1)))::(23,.Z (fPN (((at3 ts k).2.1).1-((at3 ts k).1).1,((at3 ts k).2.1).2-((at3 ts k).1).2)))::(24,.Z (UF.eq l))::(25,.Z (uI (k:Int)))::(26,.Y (fTR 1 (at3 ts k)))::(27,.X (fTR 1 (at3 ts k)) 12)::(28,.Z (fPV 1 ((at3 ts k).2.2)))::(29,.Z (UF.eq l))::(30,.Z (uI (k:Int)))::(31,.Y (fTR 1 (at3 ts k)))::(32,.X (fTR 1 (at3 ts k)) 0)::(33,.Z (fPV 1 ((at3 ts k).1)))::(34,.Z (fPN (((at3 ts k).2.2).1-((at3 ts k).1).1,((at3 ts k).2.2).2-((at3 ts k).1).2)))::(35,.Z (fQN (trn (at3 ts k))))::(36,.s (SF.row 3 (rvs 200 [(arK ts k),(trn (at3 ts k))])))::(37,.u (fQN (arK ts (k+1))))::[]) hmix s kA
   (oc (zT (f:=fQN (arK ts k)) 3 kA (hz:=yW _))<|oc zA<|oc zA<|oc (zO (z:=18) (Cs:=trs 1 ts) (i:=k) (C:=CU.agg (fTR 1 (at3 ts k))) kA (zDT hk) (yM U s) iiz)<|oc (zAM (C:=cg (fTR 1 (at3 ts k))) 1 6 kA iiz iiz)<|oc (zQ (C:=cg (fTR 1 (at3 ts k))) (k:=6) 6 kA (h:=zKR))<|oc zA<|oc zA<|oc (zO (z:=18) (Cs:=trs 1 ts) (i:=k) (C:=CU.agg (fTR 1 (at3 ts k))) kA (zDT hk) (yM U s) iiz)<|oc (zAM (C:=cg (fTR 1 (at3 ts k))) 0 0 kA iiz iiz)<|oc (zQ (C:=cg (fTR 1 (at3 ts k))) (k:=0) 6 kA (h:=zGQ))<|oc (zH zC zFl (fun J u1 W hb (O:(fPV 1 ((at3 ts k).2.1)).p J W) (h1:(fPV 1 ((at3 ts k).1)).p u1 W)=>zBL (m:=1) (p:=(at3 ts k).2.1) (q:=(at3 ts k).1) O h1 dA dA))<|oc zA<|oc zA<|oc (zO (z:=18) (Cs:=trs 1 ts) (i:=k) (C:=CU.agg (fTR 1 (at3 ts k))) kA (zDT hk) (yM U s) iiz)<|oc (zAM (C:=cg (fTR 1 (at3 ts k))) 2 12 kA iiz iiz)<|oc (zQ (C:=cg (fTR 1 (at3 ts k))) (k:=12) 6 kA (h:=zHn))<|oc zA<|oc zA<|oc (zO (z:=18) (Cs:=trs 1 ts) (i:=k) (C:=CU.agg (fTR 1 (at3 ts k))) kA (zDT hk) (yM U s) iiz)<|oc (zAM (C:=cg (fTR 1 (at3 ts k))) 0 0 kA iiz iiz)<|oc (zQ (C:=cg (fTR 1 (at3 ts k))) (k:=0) 6 kA (h:=zGQ))<|oc (zH zC zFl (fun J u1 W hb (O:(fPV 1 ((at3 ts k).2.2)).p J W) (h1:(fPV 1 ((at3 ts k).1)).p u1 W)=>zBL (m:=1) (p:=(at3 ts k).2.2) (q:=(at3 ts k).1) O h1 dA dA))<|oc (zH zC zMF (fun J u1 W hb (O:(fPN (((at3 ts k).2.1).1-((at3 ts k).1).1,((at3 ts k).2.1).2-((at3 ts k).1).2)).p J W) (h1:(fPN (((at3 ts k).2.2).1-((at3 ts k).1).1,((at3 ts k).2.2).2-((at3 ts k).1).2)).p u1 W)=>zC3 (m:=3) (p:=(((at3 ts k).2.1).1-((at3 ts k).1).1,((at3 ts k).2.1).2-((at3 ts k).1).2)) (q:=(((at3 ts k).2.2).1-((at3 ts k).1).1,((at3 ts k).2.2).2-((at3 ts k).1).2)) (zBu (p:=(((at3 ts k).2.1).1-((at3 ts k).1).1,((at3 ts k).2.1).2-((at3 ts k).1).2)) (m:=3) h4.1 h4.2 O) (zBu (p:=(((at3 ts k).2.2).1-((at3 ts k).1).1,((at3 ts k).2.2).2-((at3 ts k).1).2)) (m:=3) h5.1 h5.2 h1) h4 h5 dA dA))<|oc (z9 (fun u v W (hu:QNp (arK ts k) u W) (hv:QNp (trn (at3 ts k)) v W)=>zB5 (m:=200) (wH hu h8) (wH hv hc)))<|oc (zG zC zKs (fun J W hb (O:(SF.row 3 (rvs 200 [(arK ts k),(trn (at3 ts k))])).p J W)=>zCH (m:=200) (p:=arK ts k) (q:=trn (at3 ts k)) O h8 hc dA))<|zB) fun Q' hQ a w5 s=>zAr (CU.agg (fQN (arK ts (k+1)))) ((fQN (arK ts (k+1))).tS) rfl s kA rfl rfl rfl (yW _) iiz zW fun a w s=>zD rfl (hQ _ _ ?_)
  refine zV 2 ((10,.Z (uI (k:Int)))::(11,.u (uI ((k+1:Nat):Int)))::[]) s kA
   (oc zA<|oc (yB .i64 (k:Int) 1 ((k+1:Nat):Int) iiz iiz (wrap64 _ _ oA oA))<|zB) fun a w6 s=>?_
  replace s:=s.drop [4]
  exact yQ (uI ((k+1:Nat):Int)) rfl s kA iiz fun a w s=>zD rfl<|⟨k+1,hk,(by show ts.length-(k+1)<ts.length-k;omega),s.keepK _ (fU mz4<|fU (.head _) fnz)⟩
 .have hd:k=ts.length:=by have h7:=nF e;rw[h9]at h7;omega
  subst hd
  exact tU<|lP<|rgK 1 ((38,.u (fQN (arK ts ts.length)))::[]) s
   (oc (zT (f:=fQN (arK ts ts.length)) 3 kA (hz:=yW _))<|zB) fun a w7 s=>zM (fQN (arK ts ts.length)) rfl s zW fun a w s=>zD rfl<|pS<|wK s (CU.agg (fQN (arK ts ts.length))) rfl kA rfl rfl (yW _) (fun cs W h=>h)
theorem zF8{L:List Int}(hl:(SF.row 1 (zEA L)).p l W)(hL:zZd L)(hn:L.length<=1000000):Calls prog 31 #[l] W (Ret W (wI W 30 6 (pns (zDp L (L.length/2))))):=by
 refine zZ [(UF.eq l).tS] func31 rfl kA ⟨rfl,trivial⟩ fun a s=>?_
 replace s:=s.renew [(0,.u (UF.eq l))] (fU (.inr ⟨_,rfl,.head _⟩) fnz)
 refine rgQ ((2,.u (UF.eq (sN)))::[]) s
  (oc zF<|zB) fun a w1 s=>rgQ ((3,.u (UF.eq (sN)))::[]) s
  (oc zF<|zB) fun a w2 s=>lP<|rgQ ((4,.u (uI 0))::[]) s
  (oc zF<|zB) fun a w3 s=>tT<|zHv (fun(p:Nat×WE) w=>2*p.1<=L.length/\W.heap.size<=w.heap.size/\zAO w W.heap.size 30 6 p.2 (pns (zDp L p.1))) (fun p=> [(0,.u (UF.eq l)),(3,.u (UF.eq (p.2))),(4,.u (uI ((2*p.1:Nat):Int)))]) (fun p=>L.length-2*p.1) (0, sN) (⟨vS _,s.gr.size,zAO.nil _ _ _ _⟩) (s.keepK _ (fU mz3<|fU mz1<|fU (.head _) fnz)) fun p a w U s=>?_
 have s0:=s
 have I:=(SF.row 1 (zEA L)).st _ _ _ hl s0.below
 replace s:=s.reb rfl [(0,.u (UF.eq l)),(3,.u (UF.eq (p.2))),(4,.u (uI ((2*p.1:Nat):Int)))] (fU (.inl (.head _))<|fU (.inl mz1)<|fU (.inl mz2) fnz)
 refine lP<|rgQ ((5,.Z (uI ((2*p.1:Nat):Int)))::(6,.Z (uI ((2*p.1+1:Nat):Int)))::(7,.Z (UF.eq l))::(8,.Z (uI ((zEA L).length:Int)))::(9,.u (uB (ltz (2*p.1+1) ((zEA L).length))))::[]) s
  (oc zA<|oc (yB .i64 ((2*p.1:Nat):Int) 1 ((2*p.1+1:Nat):Int) iiz iiz (wrap64 _ _ oA oA))<|oc zA<|oc (yK (z:=1) (Cs:=zEA L) kA (yM I s) (fun _=>rfl))<|oc (zI .i64 ((2*p.1+1:Nat):Int) ((zEA L).length:Int) (ltz (2*p.1+1) ((zEA L).length)) iiz iiz rfl rfl)<|zB) fun a w4 s=>StS.cond s (ltz (2*p.1+1) ((zEA L).length)) iiz (fun e=>?_) (fun e=>?_)
 .have hk:2*p.1+1<L.length:=by have:=xX e;simp at this;omega
  refine pT<|lP<|tT<|zBF (K:=[(9,.u (uB (ltz (2*p.1+1) ((zEA L).length)))),(0,.u (UF.eq l)),(4,.u (uI ((2*p.1:Nat):Int)))]) [(3,.u (UF.eq (p.2)))] [0,1,2,5,6] 12 ((12,.u (UF.eq (p.2)))::(13,.Z (UF.eq l))::(14,.Z (uI ((2*p.1:Nat):Int)))::(15,.s (wC (wD [.int .i64 (gI L (2*p.1))]).cf))::(16,.Z (uI (gI L (2*p.1))))::(17,.Z (UF.eq l))::(18,.Z (uI ((2*p.1:Nat):Int)))::(19,.Z (uI ((2*p.1+1:Nat):Int)))::(20,.s (wC (wD [.int .i64 (gI L (2*p.1+1))]).cf))::(21,.Z (uI (gI L (2*p.1+1))))::(22,.Z (fPN (((gI L (2*p.1):Int):Rat),((gI L (2*p.1+1):Int):Rat))))::(23,.s (SF.row 6 [CU.agg (fPN (((gI L (2*p.1):Int):Rat),((gI L (2*p.1+1):Int):Rat)))]))::[]) hmix (s.keepK _ (fU mz2<|fU (.head _)<|fU mz1<|fU mz3 fnz)) kA
   (oc zA<|oc zA<|oc zA<|oc (zO (z:=1) (Cs:=zEA L) (i:=(2*p.1)) (C:=wD [.int .i64 (gI L (2*p.1))]) kA (zIh oA) (yM I s) iiz)<|oc (qE (C:=(wD [.int .i64 (gI L (2*p.1))]).cf) kA iiz zAS)<|oc zA<|oc zA<|oc (yB .i64 ((2*p.1:Nat):Int) 1 ((2*p.1+1:Nat):Int) iiz iiz (wrap64 _ _ oA oA))<|oc (zO (z:=1) (Cs:=zEA L) (i:=(2*p.1+1)) (C:=wD [.int .i64 (gI L (2*p.1+1))]) kA (zIh oA) (yM I s) iiz)<|oc (qE (C:=(wD [.int .i64 (gI L (2*p.1+1))]).cf) kA iiz zAS)<|oc (zH zC zO9 (fun u0 u1 W hb (h0:u0=.int .i64 (gI L (2*p.1))) (h1:u1=.int .i64 (gI L (2*p.1+1)))=>zI0 h0 h1 (hL _) (hL _)))<|oc (jV (fun u W (hu:(fPN (((gI L (2*p.1):Int):Rat),((gI L (2*p.1+1):Int):Rat))).p u W)=>zFX hu))<|zB) fun Q' hQ a w5 s hr=>zTv ([CU.agg (fPN (((gI L (2*p.1):Int):Rat),((gI L (2*p.1+1):Int):Rat)))]) s0 (s.keepK [(12,.u (UF.eq (p.2))),(9,.u (uB (ltz (2*p.1+1) ((zEA L).length)))),(0,.u (UF.eq l)),(4,.u (uI ((2*p.1:Nat):Int)))] (fU (.head _)<|fU mz1<|fU mz2<|fU mz3 fnz)) lr U.2 rfl kA kA kA (s.fct (.tmp 12)) (hr (_,_) zSz) (zOg _ _) (by simp[zCg];omega) (fun q hq=>by cases hq) fun v' a w O s=>?_
  have s1:=s
  replace s:=s.reb rfl [(24,.u (UF.eq v')),(12,.u (UF.eq (p.2))),(9,.u (uB (ltz (2*p.1+1) ((zEA L).length)))),(0,.u (UF.eq l)),(4,.u (uI ((2*p.1:Nat):Int)))] (fU (.inl (.head _))<|fU (.inl mz1)<|fU (.inl mz2)<|fU (.inl mz3)<|fU (.inl mz4) fnz)
  refine yQ (UF.eq v') rfl s kA iiz fun a w s=>zD rfl (hQ _ _ ?_)
  refine zV 2 ((10,.Z (uI ((2*p.1:Nat):Int)))::(11,.u (uI ((2*(p.1+1):Nat):Int)))::[]) s kA
   (oc zA<|oc (yB .i64 ((2*p.1:Nat):Int) 2 ((2*(p.1+1):Nat):Int) iiz iiz (wrap64 _ _ oA oA))<|zB) fun a w6 s=>?_
  replace s:=s.drop [4]
  refine yQ (uI ((2*(p.1+1):Nat):Int)) rfl s kA iiz fun a w s=>zD rfl ?_
  have J:=s.below
  replace s:=s1.back (s.keepK [(4,.u (uI ((2*(p.1+1):Nat):Int))),(11,.u (uI ((2*(p.1+1):Nat):Int))),(3,.u (UF.eq v')),(24,.u (UF.eq v')),(12,.u (UF.eq (p.2))),(9,.u (uB (ltz (2*p.1+1) ((zEA L).length)))),(0,.u (UF.eq l))] (fU (.head _)<|fU mz1<|fU mz2<|fU mz3<|fU mz4<|fU mz5<|fU mz6 fnz)) rfl
  exact⟨(p.1+1,v'),(by show L.length-2*(p.1+1)<L.length-2*p.1;omega),⟨by show 2*(p.1+1)<=_;omega,xR O.1 J.size,by show zAO _ _ _ _ _ (pns (zDp L (p.1+1)));rw[zM5];exact O.2.below J⟩,s.keepK _ (fU mz6<|fU mz2<|fU (.head _) fnz)⟩
 .have hk:p.1=L.length/2:=by have h7:=nF e;have h8:=U.1;simp at h7;omega
  exact tU<|rgQ ((25,.Z (UF.eq (p.2)))::(2,.u (UF.eq (p.2)))::[]) s
   (oc zA<|oc zF<|zB) fun a w7 s=>pS<|StS.resN s s0.below rfl (by rw[s.val (.head _)];have:=U.2.2.below s.below;rw[hk]at this;exact this)
def PX.b16(x:PX):Bool:=decide (1<max (max (max x.1.n x.1.n') x.2.n) x.2.n')
def g16(L:List PX):Bool:=(L.take 8).any PX.b16||decide (7<L.length)
theorem zSo{x:PX}(h:x.b16=false){v:WE}{W:WB}(J:x.u.p v W):(fPV 1 x.p).p v W:=by
 have h:=nF h
 exact zJ8 (fun v W I=>zZb I oA oA) (fun v W I=>zZb I oA oA) J
theorem zUG(h:g16 L=false):L.length<=7/\∀x,x∈L->x.b16=false:=by
 unfold g16 at h
 rw[hH]at h
 have h2:=nF h.2
 refine⟨oA,fun x J=>?_⟩
 have I:=cP.1 h.1 x (by rw[nK oA];exact J)
 simpa using I
theorem zQT(h:g16 L=false)(v:WE)(W:WB)(U:(SF.row 6 (pxs L)).p v W):(SF.row 6 (pvs 1 (pps L))).p v W:=
 zHE fG (fun i C D I J cs W O=>by
  have hi:i<L.length:=by have:=(bE.1 I).1;simpa using this
  rw[tK,nE hi]at I
  rw[tK,tK,nE hi]at J
  cases I;cases J
  exact zSo ((zUG h).2 _ (uZ hi)) O) v W U
theorem zUI{x:PX}(hk:k<=7)(I:L[k]?=some x)(h:x.b16=true):g16 L=true:=by
 unfold g16
 rw[cZ]
 left
 refine bX.2 ⟨x,?_,h⟩
 have hlt:=(bE.1 I).1
 exact mJ (i:=k) (by rw[uU,if_pos oA];exact I)
theorem zUH(h:∀j y,j<8->L[j]?=some y->PX.b16 y=false):g16 L=decide (((pxs L).length:Int)>7):=by
 unfold g16
 have:(L.take 8).any PX.b16=false:=by
  refine cP.2 fun x O=>?_
  obtain⟨j,I⟩:=List.getElem?_of_mem O
  rw[uU]at I
  split at I
  .rename_i J
   rw[h j x J I];simp
  .cases I
 rw[this,cS,rR,bF]
 omega
theorem zEv(hl:(SF.row 6 (pxs L)).p l W):Calls prog 6 #[l] W (Ret W (fB (g16 L)).tS):=by
 refine zZ [SF.row 6 (pxs L)] func6 rfl kA ⟨hl,trivial⟩ fun a s=>rgQ ((2,.u (uB false))::[]) s
  (oc zF<|zB) fun a w1 s=>lP<|rgQ ((3,.u (uI 0))::[]) s
  (oc zF<|zB) fun a w2 s=>tT<|zAs (fun k=>k<=L.length/\k<=8/\∀j y,j<k->L[j]?=some y->PX.b16 y=false) (fun k=> [(0,.o (SF.row 6 (pxs L))),(3,.u (uI ((k:Nat):Int)))]) (fun k=>8-k) (0:Nat) (⟨vS _,oA,fun j y hj=>absurd hj (rS _)⟩) (s.keepK _ (fU mz2<|fU (.head _) fnz)) fun k a w hx s=>lP<|rgQ ((4,.Z (uI (k:Int)))::(5,.s (SF.row 6 (pxs L)))::(6,.Z (uI ((pxs L).length:Int)))::(7,.Z (uB (ltz k ((pxs L).length))))::(8,.Z (uB (ltz k ((pxs L).length))))::(9,.s (SF.imp ((ltz k ((pxs L).length))=true) ((uI (k:Int)).tS)))::(10,.s (SF.imp ((ltz k ((pxs L).length))=true) ((uB (decide ((k:Int)<=7))).tS)))::(11,.u (uB ((ltz k ((pxs L).length))&&(decide ((k:Int)<=7)))))::[]) s
  (oc zA<|oc zA<|oc (zGd (z:=6) (Cs:=pxs L) kA iiz (fun _=>rfl))<|oc (zI .i64 (k:Int) ((pxs L).length:Int) (ltz k ((pxs L).length)) iiz iiz rfl rfl)<|oc zA<|oc (zE 8 (ltz k ((pxs L).length)) kA iiz (fun e=>z5 [] ((uI (k:Int)).tS) fnz fO kA zA) fN)<|oc (zE 8 (ltz k ((pxs L).length)) kA iiz (fun e=>z5 [(9,(uI (k:Int)).tS)] ((uB (decide ((k:Int)<=7))).tS) (fU (fun v W h=>zN (c:=(ltz k ((pxs L).length))=true) (f:=(uI (k:Int)).tS) e h) fnz) fO kA (zI .i64 (k:Int) 7 (decide ((k:Int)<=7)) iiz iiz rfl rfl)) fN)<|oc (yC (ltz k ((pxs L).length)) iiz (fun e v W h=>zA0 (zN e h) e) (fun e v W h=>zAe h e))<|zB) fun a w3 s=>StS.cond s ((ltz k ((pxs L).length))&&(decide ((k:Int)<=7))) iiz (fun e=>?_) (fun e=>?_)
 .rw[xW]at e
  have h5:k<L.length:=by have:=xX e.1;simp at this;omega
  have h6:k<=7:=by have:=xX e.2;omega
  obtain⟨x,hxl⟩:∃x,L[k]?=some x:=⟨_,nE h5⟩
  have I:(pxs L)[k]?=some (PX.cu x):=by rw[tK,hxl];rfl
  refine pT<|lP<|tT<|rgQ ((14,.s (SF.row 6 (pxs L)))::(15,.Z (uI (k:Int)))::(16,.s (wC (PX.cu x).cf))::(17,.s (wC ((PX.cu x).cf.at 0)))::(18,.s (wC ((PX.cu x).cf.at 0)))::(19,.s (wC ((PX.cu x).cf.at 1)))::(20,.Z (fSl (x.1.n)))::(21,.Z (uI (x.1.n:Int)))::(22,.s (SF.row 6 (pxs L)))::(23,.Z (uI (k:Int)))::(24,.s (wC (PX.cu x).cf))::(25,.s (wC ((PX.cu x).cf.at 0)))::(26,.s (wC ((PX.cu x).cf.at 2)))::(27,.Z (fSl (x.1.n')))::(28,.Z (uI (x.1.n':Int)))::(29,.s (SF.row 6 (pxs L)))::(30,.Z (uI (k:Int)))::(31,.s (wC (PX.cu x).cf))::(32,.s (wC ((PX.cu x).cf.at 3)))::(33,.s (wC ((PX.cu x).cf.at 3)))::(34,.s (wC ((PX.cu x).cf.at 4)))::(35,.Z (fSl (x.2.n)))::(36,.Z (uI (x.2.n:Int)))::(37,.s (SF.row 6 (pxs L)))::(38,.Z (uI (k:Int)))::(39,.s (wC (PX.cu x).cf))::(40,.s (wC ((PX.cu x).cf.at 3)))::(41,.s (wC ((PX.cu x).cf.at 5)))::(42,.Z (fSl (x.2.n')))::(43,.Z (uI (x.2.n':Int)))::(44,.Z (uI ((max (max (max x.1.n x.1.n') x.2.n) x.2.n':Nat):Int)))::(45,.u (uB (PX.b16 x)))::[]) s
   (oc zA<|oc zA<|oc (zCm (z:=6) (Cs:=pxs L) (i:=k) (C:=PX.cu x) kA I iiz iiz)<|oc (zL (C:=(PX.cu x).cf) 0 kA)<|oc (qK (C:=(PX.cu x).cf) 0 0 kA)<|oc (qK (C:=(PX.cu x).cf) 0 1 kA)<|oc (jP (C:=(PX.cu x).cf) (k:=1) kA (h:=zZw))<|oc (zC8 kA (fun v W ⟨O,U,J⟩=>⟨O,x.1.n,U,J,rfl⟩))<|oc zA<|oc zA<|oc (zCm (z:=6) (Cs:=pxs L) (i:=k) (C:=PX.cu x) kA I iiz iiz)<|oc (zL (C:=(PX.cu x).cf) 0 kA)<|oc (qK (C:=(PX.cu x).cf) 0 2 kA)<|oc (jP (C:=(PX.cu x).cf) (k:=2) kA (h:=zZv))<|oc (zC8 kA (fun v W ⟨O,U,J⟩=>⟨O,x.1.n',U,J,rfl⟩))<|oc zA<|oc zA<|oc (zCm (z:=6) (Cs:=pxs L) (i:=k) (C:=PX.cu x) kA I iiz iiz)<|oc (zL (C:=(PX.cu x).cf) 3 kA)<|oc (qK (C:=(PX.cu x).cf) 3 0 kA)<|oc (qK (C:=(PX.cu x).cf) 3 1 kA)<|oc (jP (C:=(PX.cu x).cf) (k:=4) kA (h:=zZu))<|oc (zC8 kA (fun v W ⟨O,U,J⟩=>⟨O,x.2.n,U,J,rfl⟩))<|oc zA<|oc zA<|oc (zCm (z:=6) (Cs:=pxs L) (i:=k) (C:=PX.cu x) kA I iiz iiz)<|oc (zL (C:=(PX.cu x).cf) 3 kA)<|oc (qK (C:=(PX.cu x).cf) 3 2 kA)<|oc (jP (C:=(PX.cu x).cf) (k:=5) kA (h:=zZt))<|oc (zC8 kA (fun v W ⟨O,U,J⟩=>⟨O,x.2.n',U,J,rfl⟩))<|oc (zUm (x.1.n) (x.1.n') (x.2.n) (x.2.n') iiz iiz iiz iiz)<|oc (zI .i64 ((max (max (max x.1.n x.1.n') x.2.n) x.2.n':Nat):Int) 1 (PX.b16 x) iiz iiz (by unfold PX.b16;show decide (((max (max (max x.1.n x.1.n') x.2.n) x.2.n':Nat):Int)>1)=_;rw[rR];omega) rfl)<|zB) fun a w4 s=>StS.cond s (PX.b16 x) iiz (fun e=>?_) (fun e=>?_)
  .refine lP ?_
   exact rgE ((2,.u (uB true))::[]) s
    (oc zF<|zB) fun a w5 s=>pS<|wF s (t:=2) rfl (fun v W h=>by rw[zUI h6 hxl e];exact h)
  .have h1:=e
   refine pT<|zV 2 ((12,.Z (uI (k:Int)))::(13,.u (uI ((k+1:Nat):Int)))::[]) s kA
    (oc zA<|oc (yB .i64 (k:Int) 1 ((k+1:Nat):Int) iiz iiz (wrap64 _ _ oA oA))<|zB) fun a w6 s=>?_
   replace s:=s.drop [3]
   exact yQ (uI ((k+1:Nat):Int)) rfl s kA iiz fun a w s=>zD rfl<|⟨k+1,⟨oA,oA,fun j y hj hy=>by rcases tX (zGJ hj)with h|h;exact hx.2.2 j y h hy;rw[h,hxl]at hy;cases hy;exact h1⟩,(by show 8-(k+1)<8-k;omega),s.keepK _ (fU mz4<|fU (.head _) fnz)⟩
 .have hend:L.length<=k∨k=8:=by
   rw[zZX]at e
   rcases e with e|e
   .have h7:=nF e;simp at h7;omega
   .have h7:=nF e;omega
  exact tU<|rgQ ((46,.s (SF.row 6 (pxs L)))::(47,.Z (uI ((pxs L).length:Int)))::(48,.Z (uB (decide (((pxs L).length:Int)>7))))::(2,.u (uB (decide (((pxs L).length:Int)>7))))::[]) s
   (oc zA<|oc (zGd (z:=6) (Cs:=pxs L) kA iiz (fun _=>rfl))<|oc (zI .i64 ((pxs L).length:Int) 7 (decide (((pxs L).length:Int)>7)) iiz iiz rfl rfl)<|oc zF<|zB) fun a w7 s=>pS<|wF s (t:=2) rfl (fun v W h=>by rw[zUH (fun j y hj hy=>hx.2.2 j y (by have:=(bE.1 hy).1;omega) hy)];exact h)
section
variable {S:Nat->Prop}{F:Fence}{m:Nat}{P:Program}{Q:Exit->Act->WB->Prop}{w0 w1:WB}{K:List (Nat×KF)}{B:List Bx}{n:Nat}{ds:List Deferred}{a:Act}{w:WB}{ops:Array Oper}
theorem StS.is2{t t':Nat}{r:Bool}(h:StS S w0 K [⟨t,e,C,b,r⟩,⟨t',e',C',b',r'⟩] n ds a w)(hv:w.heap[b]?=some (.cells #[v] e (0,0)))(J:w.heap[b']?=some (.cells #[v'] e' (0,0))):StS S w0 K [⟨t,e,wD [v],b,r⟩,⟨t',e',wD [v'],b',r'⟩] n ds a w:=by
 refine⟨h.gr,h.size,h.nd,h.sl,?_,h.mks,h.so⟩
 obtain⟨⟨cs,h1,h2,h3,h4,h5,h6⟩,⟨cs',g1,g2,I,g4,g5,g6⟩,h7⟩:=h.bx
 rw[show w.heap[b]?=_ from hv]at h3
 rw[show w.heap[b']?=_ from J]at I
 injection h3 with h3;injection h3 with h3
 injection I with I;injection I with I
 have e1:cs=[v]:=by simpa using vR Array.toList h3.symm
 have U:cs'=[v']:=by simpa using vR Array.toList I.symm
 exact⟨⟨cs,h1,h2,hv.trans (by rw[e1]),e1,h5,fun y O=>by obtain rfl:=tV.1 O;exact h6 ⟨t',e',C',b',r'⟩ (.head _)⟩,⟨cs',g1,g2,J.trans (by rw[U]),U,g5,fun y O=>by cases O⟩,h7⟩
theorem zNb{f:FuncId}{xs:Array Operand}{args:Array WE}{ats:Array WF}{R:WB->Prop}(hF:zJQ F m P)(he:Enters P f)(h:StS S w1 K B n [] a w)(hS:S g∨w1.heap.size<=g)(ho:ops[k]?=some ⟨some d,.call ⟨.value (.func f),xs,ats⟩,ty,pos,aft,none⟩)
  (hf:jY K B n d=true)(hu:(K.all fun q=>zJP q.2)=true)(hk:∀w',w.grownBy w' (some g)->y7 w w')(hB:∀q,q∈B->q.b≠g)(I:xs.map a.eval=args)(hc:Calls P f args w fun e w'=>e=.returned v'/\R w'/\w.grownBy w' (some g))
  (fin:∀a' w',R w'->w.grownBy w' (some g)->StS S w1 ((d,.u (UF.eq v'))::K) B n [] a' w'->zAV F m P ops Q (k+1) a' w'):zAV F m P ops Q k a w:=by
 subst I
 refine zAi ho rfl ⟨fun g _=>hF.1 g,?_⟩
 rw[bH _ _ _ (fun _ e=>by cases e),execOp_call_go,he]
 simp only[mE]
 refine⟨hF.2.1,bG (hF.2.2 _ _ _ _ (by simpa using hc)) fun e W' hh=>?_⟩
 obtain⟨rfl,hR,U⟩:=hh
 have O:=hk _ U
 have s1:StS S w1 K B n [] a W':=by
  refine⟨h.gr.grown U hS.symm,h.size,h.nd,fun q J=>?_,?_,⟨[],Marks.nil _ _⟩,.inl (y6 hu)⟩
  .obtain⟨f,ef⟩:=y6 hu q J
   have h1:=h.sl q J
   rw[ef]at h1 ⊢
   exact f.us _ _ _ h1 O
  .refine wO O B (fun q J=>?_) h.bx
   obtain⟨_,_,_,h3,_⟩:=h.bx.mem q J
   exact U.block _ (xQ.1 h3).1 (fun e=>hB q J (by injection e))
 exact fin _ W' hR U (s1.set hf (xG _ _) rfl)
end
theorem zEE(n:Nat)(l:List V2):zIy (n+1) l=if l.length<=3 then some (zEx l)else match zGK l with|some i=>zIy n (l.eraseIdx i)|none=>match zRF l with|some i=>(zIy n (l.eraseIdx i)).map (zA1 l i::·)|none=>none:=rfl
structure CutI(n0:Nat)(row0:List V2)(acc:List V6)(row:List V2)(f:Nat):Prop where
 len:row.length<=f
 few:row.length<=12
 sum:acc.length+row.length<=12
 eq:(zIy f row).map (acc++·)=zIy n0 row0
theorem CutI.start(h:row.length<=12):CutI row.length row [] row row.length:=⟨vQ _,h,by simpa using h,by cases zIy row.length row<;>simp⟩
theorem CutI.flat(h:CutI n0 row0 acc row f)(h3:3<row.length)(hi:zGK row=some i):∃f',f=f'+1/\CutI n0 row0 acc (row.eraseIdx i) f':=by
 obtain⟨f',rfl⟩:∃f',f=f'+1:=⟨f-1,by have:=h.len;omega⟩
 have I:i<row.length:=xU.1 (tW hi)
 have e:=h.eq
 rw[zEE]at e
 rw[if_neg oA]at e
 rw[hi]at e
 refine⟨f',rfl,?_,?_,?_,e⟩
 .have:=h.len;rw[zZZ I];omega
 .have:=h.few;rw[zZZ I];omega
 .have:=h.sum;rw[zZZ I];omega
theorem CutI.ear(h:CutI n0 row0 acc row f)(h3:3<row.length)(h0:zGK row=none)(hi:zRF row=some i):∃f',f=f'+1/\CutI n0 row0 (acc++ [zA1 row i]) (row.eraseIdx i) f':=by
 obtain⟨f',rfl⟩:∃f',f=f'+1:=⟨f-1,by have:=h.len;omega⟩
 have I:i<row.length:=xU.1 (tW hi)
 have e:=h.eq
 rw[zEE]at e
 rw[if_neg oA,h0]at e
 simp only[hi]at e
 refine⟨f',rfl,?_,?_,?_,?_⟩
 .have:=h.len;rw[zZZ I];omega
 .have:=h.few;rw[zZZ I];omega
 .have:=h.sum;rw[uG,List.length_singleton,zZZ I];omega
 .rw[<-e]
  cases zIy f' (row.eraseIdx i)<;>simp
theorem CutI.none(h:CutI n0 row0 acc row f)(h3:3<row.length)(h0:zGK row=none)(h1:zRF row=none):zIy n0 row0=none:=by
 obtain⟨f',rfl⟩:∃f',f=f'+1:=⟨f-1,by have:=h.len;omega⟩
 have e:=h.eq
 rw[zEE]at e
 rw[if_neg oA,h0]at e
 simp only[h1]at e
 exact e.symm
theorem CutI.done(h:CutI n0 row0 acc row f)(h0:0<f)(h3:row.length<=3):zIy n0 row0=some (acc++zEx row):=by
 obtain⟨f',rfl⟩:∃f',f=f'+1:=⟨f-1,oA⟩
 have e:=h.eq
 rw[zEE]at e
 rw[if_pos h3]at e
 exact e.symm
theorem zIn{p:Nat->Bool}(h:∀j,j<n->p j=false):(List.range n).find? p=none:=by
 rw[zCT]
 intro j I
 rw[h j (xU.1 I)]
 decide
theorem zO0{p:Nat->Bool}(hk:k<n)(h:∀j,j<k->p j=false)(e:p k=true):(List.range n).find? p=some k:=by
 obtain⟨d,rfl⟩:∃d,n=k+1+d:=⟨n-(k+1),oA⟩
 rw[List.range_add,eH,List.find?_append,List.find?_append,zIn h]
 simp[e]
structure CutM(base b2 b3:Nat)(acc:List V6)(row:List V2)(vo:Value)(g cap:Nat)(w:World):Prop where
 sz:base<=w.heap.size
 h2:w.heap[b2]?=some (.cells #[vo] 33 (0,0))
 h3:w.heap[b3]?=some (.cells #[.slice (some ⟨g,0,none⟩) row.length cap] 22 (0,0))
 ro:zAO w base 38 18 vo (tns acc)
 gb:base<=g
 rr:zEa w g 30 6 cap (pns row)
theorem zEa.keepC(h:zEa w g e z cap Cs)(J:zD7 w w'):zEa w' g e z cap Cs:=by
 obtain⟨I,U,h2,h3,O,h5,h6⟩:=h
 exact⟨I,J.2 _ _ U rfl,h2,h3,O,h5,fun i C hi=>C.us _ _ _ (h6 i C hi) J.keepU⟩
theorem CutM.keepC(h:CutM base b2 b3 acc row vo g cap w)(I:zD7 w w'):CutM base b2 b3 acc row vo g cap w':=
 ⟨xR h.sz I.1,I.2 _ _ h.h2 rfl,I.2 _ _ h.h3 rfl,h.ro.keepC I,h.gb,h.rr.keepC I⟩
def fCM(base b2 b3:Nat)(acc:List V6)(row:List V2)(vo:WE)(g cap:Nat):SF:=⟨fun v w=>v=.slice (some ⟨g,0,none⟩) row.length cap/\CutM base b2 b3 acc row vo g cap w,fun _ _ _ h hb=>⟨h.1,h.2.keepC (zBz hb)⟩⟩
theorem zEa.keep(h:zEa w g e z cap Cs)(hb:w'.heap[g]?=w.heap[g]?)(hk:y7 w w'):zEa w' g e z cap Cs:=by
 obtain⟨I,O,h2,h3,J,U,h6⟩:=h
 exact⟨I,hb.trans O,h2,h3,J,U,fun i C hi=>C.us _ _ _ (h6 i C hi) hk⟩
theorem zEa.at(h:zEa w g e z cap Cs):∃cur:Array WE,w.heap[g]?=some (.cells cur e (0,0)):=⟨h.choose,h.choose_spec.1⟩
theorem zAJ(ps:List V2):(pns ps).length=ps.length:=by simp[pns]
theorem zJe(ps:List V2)(i:Nat):(pns ps).eraseIdx i=pns (ps.eraseIdx i):=by
 unfold pns
 rw[zZ1,zZ1,rQ,List.map_take,List.map_drop]
theorem jO{cs cs':Array WE}{z O:Nat×Nat}(h:w.heap[b]?=some (.cells cs e z))(I:w.heap[c]?=some (.cells cs' e' O))(J:e≠e'):b≠c:=fun k=>by
 subst k
 rw[h]at I
 injection I with I
 injection I with _ I
 exact J I
theorem jE(h:zAO w base e z v Cs){g:Nat}(I:v.ownBlock=some g):∃cur:Array WE,w.heap[g]?=some (.cells cur e (0,0)):=by
 rcases h with⟨rfl,_⟩|⟨g',cap,cur,rfl,hb,J,h2⟩
 .simp[Value.ownBlock]at I
 .simp[Value.ownBlock]at I
  subst I
  exact⟨cur,J⟩
theorem zOO{S':Nat->Prop}{w1:WB}(hb:BlS S' w w1)(h:∀q,S' q->∃(cs:Array WE) (t:WF) (z:Nat×Nat),w.heap[q]?=some (.cells cs t z)/\cs.toList.all zY=true):y7 w w1:=fun q u I=>by
 have J:=xK w _ I
 by_cases e:S' q.block
 .exfalso
  obtain⟨cs,t,z,h3,O⟩:=h _ e
  have:=zCD h3 O rfl I
  cases this
 .exact(bQ (hb.block _ J e)).trans I
section
variable {S:Nat->Prop}{P:Program}{Q:Exit->Act->WB->Prop}{w0:WB}{K:List (Nat×KF)}{B:List Bx}{n:Nat}{ds:List Deferred}{a:Act}{w:WB}{ops:Array Oper}{m:Nat}{F:Fence}
theorem zEd{kk o:Nat}{t:WF}{x:Operand}(C:CU)(f:SF)(ho:ops[k]?=some ⟨none,.store t x y,ty,pos,aft,none⟩)(h:StS S w0 K B n ds a w)(I:zLY P t=some kk){z:Bx}(hB:zFk B c=some z)(h0:z.r=false)
  (hp:∀v W,(Wd.fct (zAb K B) x).p v W->v= pO z.b o)(hy:∀v W,(Wd.fct (zAb K B) y).p v W->f.p v W)
  (hv:∀v W,f.p v W->v.cells.size=kk/\(∀u,u∈v.cells.toList->u.oneCell'=true)/\v.cells.toList.all zY=true/\∀cs,z.c.p cs W->o+kk<=cs.length/\C.p (jD cs o v.cells.toList) W)
  (fin:∀w',w.grownBy w' (some z.b)->y7 w w'->StS S w0 K (zFh B c C) n ds a w'->zAV F m P ops Q (k+1) a w'):zAV F m P ops Q k a w:=by
 obtain⟨hz,hzc⟩:=zAp hB
 obtain⟨cs,h1,h2,h3,h4,O⟩:=h.bx.mem z hz
 have e1:=hp _ _ (h.fct x)
 obtain⟨g1,g2,g3,g4⟩:=hv _ _ (hy _ _ (h.fct y))
 obtain⟨g5,g6⟩:=g4 cs h4
 have hk:y7 w (w.setRow z.b (jD cs o (a.eval y).cells.toList).toArray):=zCi h3 (by simpa using O)
 have J:(execOp a.eval ⟨none,.store t x y,ty,pos,aft,none⟩).run P w=.ok .skip (w.setRow z.b (jD cs o (a.eval y).cells.toList).toArray):=by
  unfold zLY at I
  cases hi:P.info? t with
  |none=>rw[hi]at I;cases I
  |some i=>
   rw[hi]at I
   simp only[mA,lX]at I
   have hr:=zAn (P:=P) (a.eval y).cells.toList o cs w h3 fM g2
   have hs:=zBB (b:=z.b) (a.eval y).cells.toList o 0
   rw[uN]at hs
   simp[execOp,Instr.storeAt,Instr.sureAddr,e1,storeVar,sizeOf,typeInfo,hi,I,g1,hs,hr]
 refine zAi ho rfl ⟨fun f hf=>(by cases hf),?_⟩
 rw[bH _ _ _ (fun _ e=>by cases e),J]
 refine fin _ (zBG w z.b _) hk (h.turn hB h0 (zBG w z.b _) (tA w z.b cs.toArray _ z.e (0,0) h3) (C.us _ _ _ g6 hk) ?_)
 unfold jD
 simp only[lZ,xW]
 refine⟨⟨xT.2 fun u U=>xT.1 O u (uW U),g3⟩,xT.2 fun u U=>xT.1 O u (gA U)⟩
theorem zVy{x:Operand}{t:WF}(Ds:List CU)(h:StS S w0 K B n ds a w)(hr:zAO w w0.heap.size e z v Cs)
  (ho:ops[k]?=some ⟨some d,.call ⟨.builtin .append,#[x,y],#[t,t]⟩,ty,pos,aft,none⟩)(happ:zE8 P t=some (e,z,true))(hf:jY K B n d=true)(hu:(K.all fun q=>zJP q.2)=true)
  (hx:a.eval x=v)(hy:(SF.row z Ds).p (a.eval y) w)(hD:∀C,C∈Ds->CU.ok z C)(hsz:Cs.length+Ds.length<=140000000000)(hB:∀q,q∈B->v.ownBlock≠some q.b)
  (fin:∀v' a' w',zAO w' w0.heap.size e z v' (Cs++Ds)->(∀q,q∈B->v'.ownBlock≠some q.b)->StS S w0 ((d,.u (UF.eq v'))::K) B n ds a' w'->zAV F m P ops Q (k+1) a' w'):zAV F m P ops Q k a w:=by
 obtain⟨v',w',hrun,g1,g2,g3⟩:=zHC (P:=P) (ty:=ty) happ hr hy hD hsz h.gr.size
 have hrun2:(execOp a.eval ⟨some d,.call ⟨.builtin .append,#[x,y],#[t,t]⟩,ty,pos,aft,none⟩).run P w=.ok (.value v') w':=by
  simp only[execOp,resolve,invoke,builtin,cC,cF,cM,cQ,xY,bP,hx,hrun]
 refine zAi ho rfl ⟨fun f hf=>(by
  unfold Oper.about at hf
  simp[resolve,go_sem]at hf),?_⟩
 rw[bH _ _ _ (fun _ e=>by cases e),hrun2]
 have hk:y7 w w':=hr.keepU g2
 have s1:StS S w0 K B n ds a w':=by
  refine⟨?_,h.size,h.nd,fun q hq=>?_,?_,?_,.inl (y6 hu)⟩
  .cases hv:v.ownBlock with
   |none=>
    refine⟨g2.os.trans h.gr.os,g2.tape.trans h.gr.tape,g2.output.trans h.gr.output,xR h.gr.size g2.size,fun k hk1 hk2=>?_⟩
    exact(g2.block k (vV hk1 h.gr.size) (by rw[hv];simp)).trans (h.gr.block k hk1 hk2)
   |some g=>exact h.gr.grown (by rw[hv]at g2;exact g2) (.inl (hr.lt g hv).1)
  .obtain⟨f,ef⟩:=y6 hu q hq
   have h1:=h.sl q hq
   rw[ef]at h1 ⊢
   exact f.us _ _ _ h1 hk
  .refine wO hk B (fun q hq=>?_) h.bx
   obtain⟨_,_,hc,h3,_⟩:=h.bx.mem q hq
   exact g2.block _ (xQ.1 h3).1 fun e=>hB q hq e.symm
  .refine h.mks.imp fun _ hm=>hm.keep fun q o hq ho=>(g2.block q (xQ.1 hq).1 fun e=>?_).trans hq
   obtain⟨_,cs,_,_,h3,_⟩:=zDr hr e.symm
   rw[h3]at hq
   cases hq
   cases ho
 refine fin v' _ w' g1 (fun q hq e=>?_) (s1.set hf (xG _ _) rfl)
 rcases g3 with g3|g3
 .exact hB q hq (g3.symm.trans e)
 .obtain⟨_,_,_,h3,_⟩:=h.bx.mem q hq
  have h5:=(xQ.1 h3).1
  have h6:=g3.symm.trans e
  injection h6 with h6
  omega
end
def fVR(base:Nat)(e:WF)(z:Nat)(v:WE)(Cs:List CU):SF:=⟨fun u w=>u=v/\zAO w base e z v Cs,fun _ _ _ h hb=>⟨h.1,h.2.keepC (zBz hb)⟩⟩
def fIR(base:Nat)(e:WF)(z:Nat)(i:Int)(v:WE)(Cs:List CU):SF:=⟨fun u w=>u=.int .i64 i/\zAO w base e z v Cs,fun _ _ _ h hb=>⟨h.1,h.2.keepC (zBz hb)⟩⟩
theorem zZh{a:Nat}(g:n<=d)(h:q=a∨q=b∨q=d):q=a∨q=b∨n<=q:=oA
theorem CutM.lt(h:CutM base b2 b3 acc row vo g cap w):∀q,q=g∨vo.ownBlock=some q->q<w.heap.size:=fun q I=>by
 rcases I with rfl|I
 .exact(xQ.1 h.rr.at.choose_spec).1
 .exact(h.ro.lt q I).2
theorem CutM.go{A B:WB}{S:Nat->Prop}(h:CutM base b2 b3 acc row vo g cap A)(hb:BlS S A B)(h2:B.heap[b2]?=some (.cells #[vo] 33 (0,0)))(h3:B.heap[b3]?=some (.cells #[.slice (some ⟨g,0,none⟩) row.length cap] 22 (0,0)))(hk:y7 A B)(hS:∀q,S q->q=b3∨q=b2∨m<=q)(hm:∀q,q=g∨vo.ownBlock=some q->q<m):CutM base b2 b3 acc row vo g cap B/\B.heap[g]?=A.heap[g]?:=by
 have ne:∀{q:Nat} {J:Array WE} {e:WF},A.heap[q]?=some (.cells J e (0,0))->q<m->e≠22->e≠33-> ¬S q:=fun h1 h0 h2 h3 I=>by
  rcases hS _ I with I|I|I
  .exact jO h1 h.h3 h2 I
  .exact jO h1 h.h2 h3 I
  .omega
 obtain⟨cg,U⟩:=h.rr.at
 have hg:=hb.block g (h.lt g (.inl rfl)) (ne U (hm g (.inl rfl)) dA dA)
 exact⟨⟨xR h.sz hb.size,h2,h3,h.ro.keep (fun q I=>by
  obtain⟨J,O⟩:=jE h.ro I
  exact hb.block q (h.lt q (.inr I)) (ne O (hm q (.inr I)) dA dA)) hk,h.gb,h.rr.keep hg hk⟩,hg⟩
theorem in2{l:List Bx}(h:q=b∨q=b'):inB (⟨c,e,C,b,false⟩::⟨c',e',C',b',false⟩::l) q:=by
 rcases h with rfl|rfl
 .exact⟨_,.head _,rfl,rfl⟩
 .exact⟨_,mz1,rfl,rfl⟩
theorem in3{c2:Nat}{I:WF}{J:CU}{l:List Bx}(h:q=b∨q=b'∨q=d):inB (⟨c2,I,J,d,false⟩::⟨c,e,C,b,false⟩::⟨c',e',C',b',false⟩::l) q:=by
 rcases h with rfl|rfl|rfl
 .exact⟨_,mz1,rfl,rfl⟩
 .exact⟨_,mz2,rfl,rfl⟩
 .exact⟨_,.head _,rfl,rfl⟩
theorem zXX{x y:Bx}(h:inB [x,y] q):q=x.b∨q=y.b:=by
 obtain⟨z,I,e,_⟩:=h
 rcases xS.1 I with rfl|I
 .exact .inl e.symm
 .obtain rfl:=tV.1 I
  exact .inr e.symm
theorem zVg{x y z:Bx}(h:inB [z,x,y] q):q=x.b∨q=y.b∨q=z.b:=by
 obtain⟨u,I,e,J⟩:=h
 rcases xS.1 I with rfl|I
 .exact .inr (.inr e.symm)
 .rcases zXX ⟨u,I,e,J⟩with h|h
  .exact .inl h
  .exact .inr (.inl h)
theorem zUE{l:List Bx}{R:Prop}(h:q=b∨q=b'∨q=d)(g:n<=d):inB (⟨c,e,C,b,false⟩::⟨c',e',C',b',false⟩::l) q∨n<=q∨R:=by
 rcases h with h|h|rfl
 .exact .inl (in2 (.inl h))
 .exact .inl (in2 (.inr h))
 .exact .inr (.inl g)
abbrev zPq(b3 b2:Nat):List Bx:=[⟨3,22,CU.len 1,b3,false⟩,⟨2,33,CU.len 1,b2,false⟩]
section
variable {S:Nat->Prop}{w0:WB}{K:List (Nat×KF)}{B:List Bx}{n:Nat}{ds:List Deferred}{a:Act}{w:WB}
theorem StS.weak2{r:Bool}(h:StS S w0 K [⟨3,e,wD [u],b,r⟩,⟨2,e',wD [v],b',r'⟩] n ds a w):StS S w0 K [⟨3,e,CU.len 1,b,r⟩,⟨2,e',CU.len 1,b',r'⟩] n ds a w:=
 (h.weakB 3 (CU.len 1) rfl (jJ kA) (fun cs W h=>by rw[show cs=_ from h];rfl)).weakB 2 (CU.len 1) rfl (jJ kA) (fun cs W h=>by rw[show cs=_ from h];rfl)
theorem StS.boxIs(h:StS S w0 K B n ds a w){c t b:Nat}{e:WF}{v:WE}{r:Bool}(I:zFk B c=some ⟨t,e,wD [v],b,r⟩):w.heap[b]?=some (.cells #[v] e (0,0)):=by
 obtain⟨cs,J,h2,_⟩:=h.boxAt I
 obtain rfl:cs=[v]:=h2
 exact J
end
structure CutS where
 acc:List V6
 row:List V2
 vo:WE
 g:Nat
 cap:Nat
 f:Nat
theorem zHJ{K:List (Nat×KF)}{B:List Bx}{ds:List Deferred}{a:Act}{P:Program}(h:St w0 K B n ds a w){fn:Func}(v:WE){t:Nat}{e:WF}{f:SF}(hr:fn.results=#[.cell t e])(I:zD1 P e=true){y:Bx}(U:zFk B t=some y)(hv:w.heap[y.b]?=some (.cells #[v] y.e (0,0)))(hf:∀w',Oth w0.heap.size w w'->f.p v w'):bodyPostM Fence.wide 0 P fn (Ret w0 f) .ret a w:=by
 obtain⟨hy,rfl⟩:=zAp U
 obtain⟨cs,h1,h2,h3,h4,h5⟩:=h.bx.mem y hy
 have h0:a.tmps[y.t]?.getD undef= (pO y.b 0):=by rw[<-xV];exact h1
 refine h.resM (v:=v) (fun w' O=>?_) hf
 have J:w.heap[y.b]?=some (.cells [v].toArray y.e (0,0)):=hv
 have hm:=zBf (zOf O J)
 have:=zBr I hm (u:=v) rfl
 simp[results,hr,asAddr,h0,this]
theorem zPh(hl:(SF.row 6 (pvs 1 ps)).p l W)(yA:0<ps.length)(hn:ps.length<=12)(hT:Tab W):Calls prog 9 #[l] W (Ret W (wI W 38 18 (tns (zD4 ps)))):=by
  have vi:=zI9 dA hl
  refine zNu [(UF.eq l).tS] func9 rfl kA ⟨rfl,trivial⟩ fun a s=>?_
  replace s:=s.renew [(0,.u (UF.eq l))] (fU (.inr ⟨_,rfl,.head _⟩) fnz)
  refine lP<|rgK 0 [] s
    zB fun a w1 s=>zX (wD [sN]) (cs:=[sN]) kA rfl s kA (fun W=>rfl) rfl fun b2 a w s=>zD rfl<|(bL (n:=0)).2 (wp_scope_straight ((bL (n:=0)).1 ?_))
  refine lP<|rgL 2 ((9,.s (UF.eq l).tS)::(10,.s (wI W 30 6 (pns (jM ps))))::[]) s
    (oc zA<|oc (zG zC zYD (fun u0 X hb (h0:u0=l)=>(zM9 (by rw[show u0=l from h0];exact(SF.row 6 (pvs 1 ps)).st _ _ _ hl (s.up hb)) yA hn (hT.below (s.up hb))).mono (wG (qY (s.up hb).size))))<|zB) fun a w3 s hr=>?_
  obtain⟨v10,e10⟩:∃v,a.tmps.getD 10 undef=v:=⟨_,rfl⟩
  have z2:zAO w3 W.heap.size 30 6 v10 (pns (jM ps)):=e10▸hr (_,_) mz1
  obtain⟨g0,hY,ev,vf,yh⟩:=zVK z2 (by rw[zAJ,zH0];exact yA)
  rw[zAJ]at ev
  subst ev
  replace s:=s.learn 10 _ e10
  replace s:=s.keepK [(10,.u (UF.eq (.slice (some ⟨g0,0,none⟩) (jM ps).length hY)))] (fU (.head _) fnz)
  have s3:=s
  have vt:=s.boxIs (c:=2) rfl
  replace s:=s.move (fun q=>q=b2) (fun q ⟨x,hx,e,_⟩=>by obtain rfl:=tV.1 hx;exact e.symm) kA
  have sM:=s
  refine zX (CU.len 1) (cs:=[sN]) kA rfl s kA (fun W=>rfl) rfl fun b3 a w s=>j9 (c:=3) (o:=0) (kk:=1) (wD [.slice (some ⟨g0,0,none⟩) (jM ps).length hY]) ((UF.eq (.slice (some ⟨g0,0,none⟩) (jM ps).length hY)).tS) rfl s kA rfl rfl (fun _ _ h=>h.1) iiz (zGD fun cs W h=>h) fun a w4 s=>zD rfl ?_
  have ut:y7 w3 w4:=qM (s.gr.sub (fun q I=>⟨_,.head _,I.symm,rfl⟩)) sM.bx
  have yz:g0≠b2:=jO yh.at.choose_spec vt (show(30:WF)≠33 from fH)
  have zx:=yh.keep (s.gr.block g0 (xQ.1 yh.at.choose_spec).1 yz) ut
  obtain⟨z6,zr,xu,_⟩:=s.boxAt (c:=2) rfl
  obtain rfl:z6=[sN]:=xu
  have vc:=s.boxIs (c:=3) rfl
  have u7:=s.gr.size
  have ur:=s3.gr.size
  replace s:=wN s3 s (fun q I=>.inr (by rw[I];exact s3.inB_new ⟨_,.head _,rfl,rfl⟩)) kA
  have v6:CutM W.heap.size b2 b3 [] (jM ps) (sN) g0 hY w4:=⟨xR ur u7,zr,vc,zAO.nil _ _ _ _,vf,zx⟩
  have v5:∀p,p∈jM ps->QB p.1 1/\QB p.2 1:=fun p hp=>vi p ((zFE p).1 hp)
  have hNl:=zH0 ps
  replace s:=s.keepK [] fnz
  replace s:StS noS W [] (zPq b3 b2) f9.ntmps [] a w4:=s.weak2
  have few:(jM ps).length<=12:=oA
  refine lP<|wpIn_label<|lP<|tT<|zDz (fun(x:CutS) a w=>∃ds,CutI (jM ps).length (jM ps) x.acc x.row x.f/\0<x.f/\0<x.row.length/\(∀p,p∈x.row->QB p.1 1/\QB p.2 1)/\CutM W.heap.size b2 b3 x.acc x.row x.vo x.g x.cap w/\StS noS W [] (zPq b3 b2) f9.ntmps ds a w) (fun x=>x.f) ⟨[],jM ps, sN,g0,hY,(jM ps).length⟩ ⟨[],CutI.start few,by show 0<(jM ps).length;omega,by show 0<(jM ps).length;omega,v5,v6,s⟩ fun x a w hx=>?_
  obtain⟨ds,hI,uq,hr0,x7,hM,s⟩:=hx
  have hrow:(SF.row 6 (pns x.row)).p (.slice (some ⟨x.g,0,none⟩) x.row.length x.cap) w:=(hM.rr.toN lr (zAJ _).symm).row
  have hTw:=hT.below s.below
  have v9:=s.is2 hM.h3 hM.h2
  refine lP<|lP<|rgL 3 ((11,.s (fCM W.heap.size b2 b3 x.acc x.row x.vo x.g x.cap))::(12,.s (uI (x.row.length:Int)).tS)::(13,.u (uB (decide ((x.row.length:Int)>3))))::[]) v9
    (oc (zCz (v:=(.slice (some ⟨x.g,0,none⟩) x.row.length x.cap)) (f:=fCM W.heap.size b2 b3 x.acc x.row x.vo x.g x.cap) kA (fun _ _ h=>h.2) ⟨rfl,hM⟩)<|oc (zC8 kA (fun v W h=>⟨_,_,_,h.1,rfl⟩))<|oc (zI .i64 (x.row.length:Int) 3 (decide ((x.row.length:Int)>3)) iiz iiz rfl rfl)<|zB) fun a w1 s hr=>?_
  have q1:=(hr (_,_) (.head _)).2
  refine zD rfl<|StS.cond s (decide ((x.row.length:Int)>3)) iiz (fun e=>?_) (fun e=>?_)
  . have h4:3<x.row.length:=by have:=xX e;omega
    refine pT<|tT<|lP<|lP ?_
    replace s:=s.keepK [] fnz
    have zw:=hT.below s.below
    have hrow1:(SF.row 6 (pns x.row)).p (.slice (some ⟨x.g,0,none⟩) x.row.length x.cap) w1:=(q1.rr.toN lr (zAJ _).symm).row
    have hbs1:=s.gr.size
    refine rgL 2 ((14,.s (fCM W.heap.size b2 b3 x.acc x.row x.vo x.g x.cap))::(15,.s (zO5 w1 67 22 (wD [(.slice (some ⟨x.g,0,none⟩) x.row.length x.cap)])))::[]) s
      (oc (zCz (v:=(.slice (some ⟨x.g,0,none⟩) x.row.length x.cap)) (f:=fCM W.heap.size b2 b3 x.acc x.row x.vo x.g x.cap) kA (fun _ _ h=>h.2) ⟨rfl,q1⟩)<|oc (zG zC zWO (fun u0 X hb (h0:(fCM W.heap.size b2 b3 x.acc x.row x.vo x.g x.cap).p u0 X)=>by rw[h0.1];exact(zG8 ⟨rfl,rfl⟩).mono (wG (zJz hb.size))))<|zB) fun a w2 s hr=>?_
    have h9:=(hr (_,_) (.head _)).2
    obtain⟨bc,uy,ec,hbc1,zi,zh,hbc4⟩:=hr (_,_) mz1
    refine zD rfl<|tT ?_
    obtain rfl:uy=[(.slice (some ⟨x.g,0,none⟩) x.row.length x.cap)]:=zh
    replace s:=s.learn 15 (.func (.func 67) #[] #[pO bc 0]) ec
    replace s:=s.keepK [(15,.u (UF.eq (.func (.func 67) #[] #[pO bc 0])))] (fU (.head _) fnz)
    replace s:StS noS W [(15,.u (UF.eq (.func (.func 67) #[] #[pO bc 0])))] (zPq b3 b2) f9.ntmps ds a w2:=s.weak2
    have hb2l:b2<w1.heap.size:=(xQ.1 q1.h2).1
    have hb3l:b3<w1.heap.size:=(xQ.1 q1.h3).1
    have hgl:x.g<w1.heap.size:=(xQ.1 q1.rr.at.choose_spec).1
    have xn:∀q,inB (zPq b3 b2) q->q=b3∨q=b2:=fun q ⟨y,hy,e,_⟩=>by
      rcases xS.1 hy with rfl|hy
      . exact .inl e.symm
      . obtain rfl:=tV.1 hy
        exact .inr e.symm
    have z8:=hT.below s.below
    have hD:(SF.row 6 (pns x.row)).p (.slice (some ⟨x.g,0,none⟩) x.row.length x.cap) w2:=(h9.rr.toN lr (zAJ _).symm).row
    refine zFT (N:=x.row.length) (fun k=>(zPq b3 b2)) (zPq b3 b2) (.exit 1) (fun k=> [(16,.u (uI ((k:Nat):Int))),(17,.u (fTN (zA1 x.row k)))]) s iiz (enters_of func67 kA rfl) (M:=fun q=>q=x.g) (fun q I=>by
        obtain⟨U,c1,c2,c3,c4,c5,c6⟩:=h9.rr
        rw[I]
        exact⟨h9.gb,(xQ.1 c1).1,U,_,_,c1,c5⟩)
      (zHb (b:=bc) (g:=x.g) (cap:=x.cap) (ps:=x.row) zi hD rfl (fun hc=>by rcases xn _ hc with e|e<;>omega) (fun hc=>by have:bc=x.g:=hc;omega) (by have:=hI.few;omega))
      (X:=fun k R W'=>CutM W.heap.size b2 b3 x.acc x.row x.vo x.g x.cap W'/\∀j,j<k->(zBm (zA1 x.row j)==0)=false)
      (XZ:=fun W'=>∃i,zGK x.row=some i/\CutM W.heap.size b2 b3 x.acc (x.row.eraseIdx i) x.vo x.g x.cap W')
      (fun k R A B hf h=>⟨h.1.keepC hf,h.2⟩) (fun A B hf ⟨i,h1,h2⟩=>⟨i,h1,h2.keepC hf⟩) ⟨h9,fun j hj=>absurd hj (rS _)⟩ (fun k=>rfl) ?_ rfl rfl rfl (fun k=>rfl) rfl (fun l_ k R xs WR hk y0 y3 v0 um so s=>?_) (fun D WD R un s=>?_) (fun D WD hz s=>?_)
    . intro k q I
      simp only[xS,rL,rK]at I
      rcases I with rfl|rfl
      . exact .inr ⟨0,_,rfl,rfl,rfl⟩
      . exact .inr ⟨1,_,rfl,rfl,rfl⟩
    . obtain⟨h6,xb⟩:=y0
      have vq:=hT.below so.below
      replace s:=s.is2 h6.h3 h6.h2
      generalize({ tmps:=_,defers:=[] }:Act)=a at s ⊢
      replace s:=s.move (fun q=>q=b3∨q=b2) (fun _=>zXX) kA
      have sR:=s
      refine rgQ ((4,.u (uI (k:Int)))::[]) s
        (oc zF<|zB) fun a w5 s=>rgK 0 [] s
        zB fun a w6 s=>?_
      have x1:=s.gr.size
      refine zHs (CU.len 18) (cs:=[.bool false, sN, sN,.bool false, sN, sN,.bool false, sN, sN,.bool false, sN, sN,.bool false, sN, sN,.bool false, sN, sN]) kA rfl s kA (fun W=>rfl) rfl fun b5 a w hE s=>?_
      replace hE:=xR x1 hE
      refine zM (fTN (zA1 x.row k)) rfl s zHo fun a w7 s=>zD rfl ?_
      have z3:=s.gr.size
      have x9:y7 WR w7:=qM (s.gr.sub (fun _=>in2)) sR.bx
      have y4:=s.boxIs (c:=3) rfl
      have yd:=s.boxIs (c:=2) rfl
      obtain⟨cg,qq⟩:=h6.rr.at
      obtain⟨yl,ua⟩:=h6.go s.gr yd y4 x9 (fun _ h=>h.imp_right .inl) h6.lt
      have zt:W.heap.size<=b3:=so.inB_new ⟨_,.head _,rfl,rfl⟩
      have zp:W.heap.size<=b2:=so.inB_new ⟨_,mz1,rfl,rfl⟩
      have x0:bW W w7:=⟨s.gr.os.trans so.gr.os,s.gr.tape.trans so.gr.tape,s.gr.output.trans so.gr.output,xR so.gr.size s.gr.size,fun q I=>(s.gr.block q (vV I so.gr.size) (fun h=>by rcases h with h|h<;>omega)).trans (so.gr.block q I (fun h=>h))⟩
      have yk:=hT.below x0
      refine⟨s.gr.sub (fun _ I=>.inl (in2 I)),fun W2 hf qh ye=>?_⟩
      have h5:=yl.keepC hf
      have yf:Tab W2:=fun j hj=>(qh _).trans (yk j hj)
      have h7:WR.heap.size<=b5:=hE
      replace s:=ye _ _ (s.wider (fun q=>inB (zPq b3 b2) q∨WR.heap.size<=q∨R q∨q=x.g) (fun _ I=>.inl (in2 I)) kA)
      have sW:=s
      replace s:=s.move (fun q=>q=b3∨q=b2∨q=b5) (fun _=>zVg) kA
      have sN:=s
      refine tT<|rgQ ((18,.s (fTN (zA1 x.row k)).tS)::(19,.s (uI (zBm (zA1 x.row k))).tS)::(20,.u (uB (zBm (zA1 x.row k)==0)))::[]) s
        (oc (zT (f:=fTN (zA1 x.row k)) 18 kA (hz:=zFR _))<|oc (zG zDl zUP (fun u0 X hb (h0:(fTN (zA1 x.row k)).p u0 X)=>zIo (m:=1) (zMc (zTp x7 hk) h0) dA dA (yf.below hb)))<|oc (zI .i64 (zBm (zA1 x.row k)) 0 (zBm (zA1 x.row k)==0) iiz iiz rfl rfl)<|zB) fun a w9 s=>?_
      have xe:y7 W2 w9:=qM (s.gr.sub (fun _=>in3)) sN.bx
      have hK:∀{g:Nat} {U:Array WE} {e:WF},W2.heap[g]?=some (.cells U e (0,0))->g<WR.heap.size->e≠22->e≠33-> ¬(g=b3∨g=b2∨g=b5):=fun h1 h0 h2 h3 I=>by
        rcases I with I|I|I
        . exact jO h1 h5.h3 h2 I
        . exact jO h1 h5.h2 h3 I
        . omega
      obtain⟨vk,hL⟩:=h5.rr.at
      have y1:x.g<WR.heap.size:=(xQ.1 qq).1
      have qn:∀g,x.vo.ownBlock=some g->g<WR.heap.size:=fun g O=>by
        obtain⟨U,J⟩:=jE h6.ro O
        exact(xQ.1 J).1
      have yj:=s.boxIs (c:=3) rfl
      have ym:=s.boxIs (c:=2) rfl
      obtain⟨xw,ue⟩:=h5.go s.gr ym yj xe (fun _=>zZh h7) h6.lt
      have qa:w9.heap[x.g]?=w2.heap[x.g]?:=ue.trans ((hf.2 _ _ (ua.trans qq) rfl).trans (qq.symm.trans (y3 x.g rfl)))
      refine StS.cond s (zBm (zA1 x.row k)==0) iiz (fun e=>?_) (fun e=>?_)
      . have yo:zGK x.row=some k:=zO0 hk xb e
        have vm:k<12:=by have:=hI.few;omega
        replace s:=s.keepK [(4,.u (uI (k:Int)))] (fU (by repeat (first|exact List.Mem.head _|apply List.Mem.tail)) fnz)
        refine lP<|rgK 4 ((21,.u (UF.eq (.slice (some ⟨x.g,0,none⟩) x.row.length x.cap)))::(22,.u (uI (k:Int)))::(23,.u (uI (k:Int)))::(24,.u (uI ((k+1:Nat):Int)))::[]) s
          (oc (qE (C:=(wD [.slice (some ⟨x.g,0,none⟩) x.row.length x.cap]).cf) kA (fun _ _ h=>h.2) zAS)<|oc zA<|oc zA<|oc (yB .i64 (k:Int) 1 ((k+1:Nat):Int) iiz iiz (wrap64 _ _ oA oA))<|zB) fun a qr s=>?_
        have hF:y7 W2 qr:=qM (s.gr.sub (fun _=>in3)) sN.bx
        have zo:qr.heap[x.g]?=W2.heap[x.g]?:=s.gr.block x.g (xQ.1 hL).1 (hK hL y1 dA dA)
        have ha:=h5.rr.keep zo hF
        have h8:=h5.ro.keep (fun g O=>by
          obtain⟨U,J⟩:=jE h5.ro O
          exact s.gr.block g (xQ.1 J).1 (hK J (qn g O) dA dA)) hF
        have x5:=s.gr.size
        obtain⟨cc',xv,xu,_⟩:=s.boxAt (c:=3) rfl
        obtain⟨cd',xm,hd4',_⟩:=s.boxAt (c:=2) rfl
        replace s:=wN sW s (fun _ I=>.inl (zUE I h7)) kA
        have u8:=s.val (.head _)
        have u2:=s.val mz1
        have ze:=s.val mz3
        have hc:=zSe (W:=qr) (g:=x.g) (cap:=x.cap) (i:=k) (v:=a.tmps.getD 21 undef) (u:=a.tmps.getD 22 undef) (x:=a.tmps.getD 24 undef) ha (zJd _) (by rw[zAJ];exact hk) (by rw[zAJ];have:=hI.few;omega) (by rw[zAJ];exact u8) u2 ze
        have qk:(#[.tmp 21,.tmp 22,.tmp 24]:Array Operand).map a.eval=#[a.tmps.getD 21 undef,a.tmps.getD 22 undef,a.tmps.getD 24 undef]:=by
          rw[cQ]
          simp[Act.eval]
        obtain⟨ud,hB⟩:=ha.at
        have xq:b3≠x.g:=fun h=>jO hB xv (show(30:WF)≠22 from fH) h.symm
        have xr:b2≠x.g:=fun h=>jO hB xm (show(30:WF)≠33 from fH) h.symm
        have xl:b5≠x.g:=fun h=>oA
        refine zNb (g:=x.g) zDl zWN s (.inl (.inr (.inr (.inr rfl)))) rfl kA kA (fun w' hw=>ha.keepU hw) (fU xl<|fU xq<|fU xr fnz) qk hc fun a xk hh q5 s=>?_
        have qi:(x.row.eraseIdx k).length=x.row.length-1:=zZZ hk
        rw[zJe]at hh
        rw[zAJ,<-qi]at s
        have sA:=s
        replace s:=s.move (fun q=>q=b3∨q=b2∨q=b5) (fun _=>zVg) kA
        have ya:=s
        refine j9 (c:=3) (o:=0) (kk:=1) (wD [.slice (some ⟨x.g,0,none⟩) (x.row.eraseIdx k).length x.cap]) ((UF.eq (.slice (some ⟨x.g,0,none⟩) (x.row.eraseIdx k).length x.cap)).tS) rfl s kA rfl rfl (fun _ _ h=>h.1) iiz (zGD fun cs W h=>by rw[show cs=_ from h];rfl) fun a xj s=>zD rfl ?_
        have hC:y7 xk xj:=qM (s.gr.sub (fun _=>in3)) ya.bx
        obtain⟨z4,q3⟩:=hh.at
        have hP:=hh.keep (s.gr.block x.g (xQ.1 q3).1 (fun I=>by
          rcases I with I|I|I
          . exact xq I.symm
          . exact xr I.symm
          . exact xl I.symm)) hC
        have he:=h8.keep (fun g O=>by
          obtain⟨U,J⟩:=jE h8 O
          exact q5.block g (h8.lt g O).2 (fun e=>jO J hB (show(38:WF)≠30 from fH) (by injection e))) (ha.keepU q5)
        have hR:=he.keep (fun g O=>by
          obtain⟨U,J⟩:=jE h8 O
          exact s.gr.block g (he.lt g O).2 (fun I=>by
            rcases I with I|I|I
            . exact jO J xv (show(38:WF)≠22 from fH) I
            . exact jO J xm (show(38:WF)≠33 from fH) I
            . have:=qn g O;omega)) hC
        have yp:=s.gr.size
        have hsz11:=q5.size
        have xt:=h5.sz
        have yn:=s.boxIs (c:=3) rfl
        have yr:=s.boxIs (c:=2) rfl
        replace s:=wN sA s (fun _ I=>.inl (zUE I h7)) kA
        replace s:=s.popB
        exact tU<|⟨rfl,(s.keepK [] fnz).weak2,k,yo,⟨oA,yr,yn,hR,h5.gb,hP⟩⟩
      . have qy:∀j,j<k+1->(zBm (zA1 x.row j)==0)=false:=fun j hj=>by
          rcases lF.1 hj with h|rfl
          . exact xb j h
          . exact e
        replace s:=wN sW s (fun _ I=>.inl (zUE I h7)) kA
        replace s:=s.popB
        refine pT<|⟨(s.keepK [] fnz).weak2,fun _=>False,fun q I=>I.elim,fun q I=>I.elim,⟨xw,qy⟩,fun q I=>?_⟩
        rw[I]
        exact qa
    . obtain⟨qc,u9⟩:=un
      have u5:zGK x.row=none:=zIn u9
      replace s:=s.is2 qc.h3 qc.h2
      generalize({ a with defers:=mark D::a.defers }:Act)=a at s ⊢
      replace s:=s.keepK [] fnz
      refine lP<|lP ?_
      have hTd:=hT.below s.below
      have hbsd:=s.gr.size
      refine rgL 2 ((26,.s (fCM W.heap.size b2 b3 x.acc x.row x.vo x.g x.cap))::(27,.s (zO5 WD 67 22 (wD [(.slice (some ⟨x.g,0,none⟩) x.row.length x.cap)])))::[]) s
        (oc (zCz (v:=(.slice (some ⟨x.g,0,none⟩) x.row.length x.cap)) (f:=(fCM W.heap.size b2 b3 x.acc x.row x.vo x.g x.cap)) kA (fun _ _ h=>h.2) ⟨rfl,qc⟩)<|oc (zG zC zWO (fun u0 X hb (h0:(fCM W.heap.size b2 b3 x.acc x.row x.vo x.g x.cap).p u0 X)=>by rw[h0.1];exact(zG8 ⟨rfl,rfl⟩).mono (wG (zJz hb.size))))<|zB) fun a w3 s hr=>?_
      have hN:=(hr (_,_) (.head _)).2
      obtain⟨be,vj,ee,hbe1,yy,zy,hbe4⟩:=hr (_,_) mz1
      refine zD rfl<|tT ?_
      obtain rfl:vj=[(.slice (some ⟨x.g,0,none⟩) x.row.length x.cap)]:=zy
      replace s:=s.learn 27 (.func (.func 67) #[] #[pO be 0]) ee
      replace s:=s.keepK [(27,.u (UF.eq (.func (.func 67) #[] #[pO be 0])))] (fU (.head _) fnz)
      replace s:StS noS W [(27,.u (UF.eq (.func (.func 67) #[] #[pO be 0])))] (zPq b3 b2) f9.ntmps (mark D::ds) a w3:=s.weak2
      have hb2d:b2<WD.heap.size:=(xQ.1 qc.h2).1
      have hb3d:b3<WD.heap.size:=(xQ.1 qc.h3).1
      have hgd:x.g<WD.heap.size:=(xQ.1 qc.rr.at.choose_spec).1
      have hTw3:=hT.below s.below
      have xA:(SF.row 6 (pns x.row)).p (.slice (some ⟨x.g,0,none⟩) x.row.length x.cap) w3:=(hN.rr.toN lr (zAJ _).symm).row
      refine zFT (N:=x.row.length) (fun k=>(zPq b3 b2)) (zPq b3 b2) (.exit 1) (fun k=> [(28,.u (uI ((k:Nat):Int))),(29,.u (fTN (zA1 x.row k)))]) s iiz (enters_of func67 kA rfl) (M:=fun q=>q=x.g∨x.vo.ownBlock=some q) (fun q I=>by
          rcases I with I|I
          . obtain⟨U,c1,c2,c3,c4,c5,c6⟩:=hN.rr
            rw[I]
            exact⟨hN.gb,(xQ.1 c1).1,U,_,_,c1,c5⟩
          . obtain⟨c1,c2,c3,c4,c5,c6⟩:=zDr hN.ro I
            exact⟨(hN.ro.lt q I).1,c1,c2,c3,c4,c5,c6⟩)
        (zHb (b:=be) (g:=x.g) (cap:=x.cap) (ps:=x.row) yy xA (.inl rfl) (fun hc=>by rcases xn _ hc with e|e<;>omega) (fun hc=>by
          rcases hc with hc|hc
          . omega
          . have:=(qc.ro.lt be hc).2;omega) (by have:=hI.few;omega))
        (X:=fun k R W'=>CutM W.heap.size b2 b3 x.acc x.row x.vo x.g x.cap W'/\∀j,j<k->zKu x.row j=false)
        (XZ:=fun W'=>∃i x8,zRF x.row=some i/\CutM W.heap.size b2 b3 (x.acc++ [zA1 x.row i]) (x.row.eraseIdx i) x8 x.g x.cap W')
        (fun k R A B hf h=>⟨h.1.keepC hf,h.2⟩) (fun A B hf ⟨i,x8,h1,h2⟩=>⟨i,x8,h1,h2.keepC hf⟩) ⟨hN,fun j hj=>absurd hj (rS _)⟩ (fun k=>rfl) ?_ rfl rfl rfl (fun k=>rfl) rfl (fun l_ k R xs WR hk y0 y3 v0 um so s=>?_) (fun D2 vb R2 zc s=>?_) (fun D2 vb hz s=>?_)
      . intro k q I
        simp only[xS,rL,rK]at I
        rcases I with rfl|rfl
        . exact .inr ⟨0,_,rfl,rfl,rfl⟩
        . exact .inr ⟨1,_,rfl,rfl,rfl⟩
      . obtain⟨h6,xb⟩:=y0
        have vq:=hT.below so.below
        replace s:=s.is2 h6.h3 h6.h2
        generalize({ tmps:=_,defers:=[] }:Act)=a at s ⊢
        replace s:=s.move (fun q=>q=b3∨q=b2) (fun _=>zXX) kA
        have sR:=s
        refine rgQ ((6,.u (uI (k:Int)))::[]) s
          (oc zF<|zB) fun a w5 s=>rgK 0 [] s
          zB fun a w6 s=>?_
        have x1:=s.gr.size
        refine zHs (CU.len 18) (cs:=[.bool false, sN, sN,.bool false, sN, sN,.bool false, sN, sN,.bool false, sN, sN,.bool false, sN, sN,.bool false, sN, sN]) kA rfl s kA (fun W=>rfl) rfl fun b5 a w hE s=>?_
        replace hE:=xR x1 hE
        refine zM (fTN (zA1 x.row k)) rfl s zHo fun a w7 s=>zD rfl ?_
        have z3:=s.gr.size
        have zf:=s.gr
        have x9:y7 WR w7:=qM (s.gr.sub (fun _=>in2)) sR.bx
        have y4:=s.boxIs (c:=3) rfl
        have yd:=s.boxIs (c:=2) rfl
        obtain⟨cg,qq⟩:=h6.rr.at
        obtain⟨yl,ua⟩:=h6.go s.gr yd y4 x9 (fun _ h=>h.imp_right .inl) h6.lt
        have zt:W.heap.size<=b3:=so.inB_new ⟨_,.head _,rfl,rfl⟩
        have zp:W.heap.size<=b2:=so.inB_new ⟨_,mz1,rfl,rfl⟩
        have x0:bW W w7:=⟨s.gr.os.trans so.gr.os,s.gr.tape.trans so.gr.tape,s.gr.output.trans so.gr.output,xR so.gr.size s.gr.size,fun q I=>(s.gr.block q (vV I so.gr.size) (fun h=>by rcases h with h|h<;>omega)).trans (so.gr.block q I (fun h=>h))⟩
        have yk:=hT.below x0
        refine⟨s.gr.sub (fun _ I=>.inl (in2 I)),fun W2 hf qh ye=>?_⟩
        have h5:=yl.keepC hf
        have yf:Tab W2:=fun j hj=>(qh _).trans (yk j hj)
        have h7:WR.heap.size<=b5:=hE
        replace s:=ye _ _ (s.wider (fun q=>inB (zPq b3 b2) q∨WR.heap.size<=q∨R q∨(q=x.g∨x.vo.ownBlock=some q)) (fun _ I=>.inl (in2 I)) kA)
        have sW:=s
        replace s:=s.move (fun q=>q=b3∨q=b2∨q=b5) (fun _=>zVg) kA
        have sN:=s
        refine tT<|rgQ ((30,.s (fCM W.heap.size b2 b3 x.acc x.row x.vo x.g x.cap))::(31,.s (uI (k:Int)).tS)::(32,.u (uB (zKu x.row k)))::[]) s
          (oc (zCz (v:=(.slice (some ⟨x.g,0,none⟩) x.row.length x.cap)) (f:=(fCM W.heap.size b2 b3 x.acc x.row x.vo x.g x.cap)) kA (fun _ _ h=>h.2) ⟨rfl,h5⟩)<|oc zA<|oc (zH zDl zWP (fun u0 u1 X hb (h0:(fCM W.heap.size b2 b3 x.acc x.row x.vo x.g x.cap).p u0 X) h1=>by rw[h0.1];exact zSS (m:=1) (zN5 x7 _ _ (h0.2.rr.toN lr (zAJ _).symm).row) h1 hk oA (by have:=hI.few;omega) dA dA (yf.below hb)))<|zB) fun a w9 s=>?_
        have xe:y7 W2 w9:=qM (s.gr.sub (fun _=>in3)) sN.bx
        have hK:∀{g:Nat} {U:Array WE} {e:WF},W2.heap[g]?=some (.cells U e (0,0))->g<WR.heap.size->e≠22->e≠33-> ¬(g=b3∨g=b2∨g=b5):=fun h1 h0 h2 h3 I=>by
          rcases I with I|I|I
          . exact jO h1 h5.h3 h2 I
          . exact jO h1 h5.h2 h3 I
          . omega
        obtain⟨vk,hL⟩:=h5.rr.at
        have y1:x.g<WR.heap.size:=(xQ.1 qq).1
        have qn:∀g,x.vo.ownBlock=some g->g<WR.heap.size:=fun g O=>by
          obtain⟨U,J⟩:=jE h6.ro O
          exact(xQ.1 J).1
        have yj:=s.boxIs (c:=3) rfl
        have ym:=s.boxIs (c:=2) rfl
        obtain⟨xw,ue⟩:=h5.go s.gr ym yj xe (fun _=>zZh h7) h6.lt
        have qa:∀q,(q=x.g∨x.vo.ownBlock=some q)->w9.heap[q]?=w3.heap[q]?:=fun q I=>by
          obtain⟨U,e,h1,h2,h3⟩:∃(U:Array WE) (e:WF),WR.heap[q]?=some (.cells U e (0,0))/\e≠22/\e≠33:=by
            rcases I with I|I
            . rw[I]
              exact⟨_,_,qq,fH,fH⟩
            . obtain⟨U,J⟩:=jE h6.ro I
              exact⟨_,_,J,fH,fH⟩
          have zg:=(xQ.1 h1).1
          have e7:w7.heap[q]?=WR.heap[q]?:=zf.block q zg fun I=>I.elim (jO h1 h6.h3 h2) (jO h1 h6.h2 h3)
          have e8:=hf.2 _ _ (e7.trans h1) rfl
          have e9:w9.heap[q]?=W2.heap[q]?:=s.gr.block q (xQ.1 e8).1 (hK e8 zg h2 h3)
          exact e9.trans (e8.trans (h1.symm.trans (y3 q I)))
        refine StS.cond s (zKu x.row k) iiz (fun e=>?_) (fun e=>?_)
        . have zj:zRF x.row=some k:=zO0 hk xb e
          have vm:k<12:=by have:=hI.few;omega
          have hW:∀g,x.vo.ownBlock=some g->g<W2.heap.size/\ ¬(g=b3∨g=b2∨g=b5):=fun g O=>by
            obtain⟨U,J⟩:=jE h5.ro O
            exact⟨(h5.ro.lt g O).2,hK J (qn g O) dA dA⟩
          have ve:∀g,x.vo.ownBlock=some g->g≠x.g:=fun g O=>by
            obtain⟨U,J⟩:=jE h5.ro O
            exact jO J hL (show(38:WF)≠30 from fH)
          have hV: ¬(x.g=b3∨x.g=b2∨x.g=b5):=hK hL y1 dA dA
          replace s:=s.keepK [(6,.u (uI (k:Int)))] (fU (by repeat (first|exact List.Mem.head _|apply List.Mem.tail)) fnz)
          refine lP<|rgL 3 ((33,.u (UF.eq x.vo))::(34,.Z (fTN (zA1 x.row k)))::(35,.s (SF.row 18 (tns [zA1 x.row k])))::[]) s
            (oc (qE (C:=(wD [x.vo]).cf) kA (fun _ _ h=>h.2) zAS)<|oc (zT (f:=fTN (zA1 x.row k)) 18 kA (hz:=zFR _))<|oc (jV (fun u W (hu:(fTN (zA1 x.row k)).p u W)=>zNk hu))<|zB) fun a qr s hr=>?_
          have hF:y7 W2 qr:=qM (s.gr.sub (fun _=>in3)) sN.bx
          have ha:=h5.rr.keep (s.gr.block x.g (xQ.1 hL).1 hV) hF
          have h8:=h5.ro.keep (fun g O=>s.gr.block g (hW g O).1 (hW g O).2) hF
          have x5:=s.gr.size
          replace s:=wN sW s (fun _ I=>.inl (zUE I h7)) kA
          have sH:=s
          replace s:=s.move (fun q=>(q=b3∨q=b2∨q=b5)∨x.vo.ownBlock=some q) (fun q I=>.inl (by
            obtain⟨y,hy,e,_⟩:=I
            rcases xS.1 hy with rfl|hy
            . exact .inr (.inr e.symm)
            . rcases xS.1 hy with rfl|hy
              . exact .inl e.symm
              . obtain rfl:=tV.1 hy
                exact .inr (.inl e.symm))) kA
          have sA:=s
          have xt:=h5.sz
          refine zSb (tns [zA1 x.row k]) s (xR xt x5) h8 (fun g O=>.inl (.inr O)) rfl kA kA kA (s.val (.head _)) (hr (_,_) mz2) (zR6 _) (by have:=hI.sum;simp[tns];omega) (fU (fun h=>(hW _ h).2 (.inr (.inr rfl)))<|fU (fun h=>(hW _ h).2 (.inl rfl))<|fU (fun h=>(hW _ h).2 (.inr (.inl rfl))) fnz) fun v' a xk hwz he hobn qx s=>?_
          obtain⟨A8,n8,c8,rfl⟩:=zC2 he
          have yb:y7 qr xk:=zOO s.gr (fun q I=>by
            rcases I with(I|I|I)|I
            . obtain⟨cs,h1,_,h2⟩:=sA.boxAt (c:=3) rfl
              rw[I]
              exact⟨_,_,_,h1,by simpa using h2⟩
            . obtain⟨cs,h1,_,h2⟩:=sA.boxAt (c:=2) rfl
              rw[I]
              exact⟨_,_,_,h1,by simpa using h2⟩
            . obtain⟨cs,h1,_,h2⟩:=sA.boxAt (c:=7) rfl
              rw[I]
              exact⟨_,_,_,h1,by simpa using h2⟩
            . exact(zDr h8 I).2)
          obtain⟨ud,hB⟩:=ha.at
          have hh:=ha.keep (s.gr.block x.g (xQ.1 hB).1 (fun I=>by
            rcases I with I|I
            . exact hV I
            . exact ve _ I rfl)) yb
          have v3:=s
          replace s:=s.move (fun q=>q=b3∨q=b2∨q=b5) (fun _=>zVg) kA
          have ya:=s
          have hO:∀g,Value.ownBlock (.slice A8 n8 c8)=some g-> ¬(g=b3∨g=b2∨g=b5):=fun g O I=>by
            rcases I with rfl|rfl|rfl
            . exact qx _ mz1 O
            . exact qx _ mz2 O
            . exact qx _ (.head _) O
          refine j9 (c:=2) (o:=0) (kk:=1) (wD [.slice A8 n8 c8]) ((UF.eq (.slice A8 n8 c8)).tS) rfl s kA rfl rfl (fun _ _ h=>h.1) iiz (zGD fun cs W h=>by rw[show cs=_ from h];rfl) fun a xj s=>zD rfl ?_
          have hC:y7 xk xj:=qM (s.gr.sub (fun _=>in3)) ya.bx
          obtain⟨z4,q3⟩:=hh.at
          have hP:=hh.keep (s.gr.block x.g (xQ.1 q3).1 hV) hC
          have hR:=he.keep (fun g O=>s.gr.block g (he.lt g O).2 (hO g O)) hC
          have yp:=s.gr.size
          replace s:=wN v3 s (fun q I=>.inl (.inl I)) kA
          replace s:=wN sH s (fun q I=>by
            rcases I with(rfl|rfl|rfl)|I
            . exact .inl (.inl ⟨_,.head _,rfl,rfl⟩)
            . exact .inl (.inl ⟨_,mz1,rfl,rfl⟩)
            . exact .inl (.inr (.inl h7))
            . exact .inl (.inr (.inr (.inr (.inr I))))) kA
          replace s:=s.keepK [(6,.u (uI (k:Int)))] (fU (by repeat (first|exact List.Mem.head _|apply List.Mem.tail)) fnz)
          have v4:=s
          replace s:=s.move (fun q=>q=b3∨q=b2∨q=b5) (fun _=>zVg) kA
          have vn:=s
          refine lP<|rgK 4 ((37,.u (UF.eq (.slice (some ⟨x.g,0,none⟩) x.row.length x.cap)))::(38,.u (uI (k:Int)))::(39,.u (uI (k:Int)))::(40,.u (uI ((k+1:Nat):Int)))::[]) s
            (oc (qE (C:=(wD [(.slice (some ⟨x.g,0,none⟩) x.row.length x.cap)]).cf) kA (fun _ _ h=>h.2) zAS)<|oc zA<|oc zA<|oc (yB .i64 (k:Int) 1 ((k+1:Nat):Int) iiz iiz (wrap64 _ _ oA oA))<|zB) fun a u4 s=>?_
          have xd:y7 xj u4:=qM (s.gr.sub (fun _=>in3)) vn.bx
          obtain⟨cg12,y5⟩:=hP.at
          have hS:=hP.keep (s.gr.block x.g (xQ.1 y5).1 hV) xd
          have qj:=hR.keep (fun g O=>s.gr.block g (hR.lt g O).2 (hO g O)) xd
          have hsz13:=s.gr.size
          replace s:=wN v4 s (fun _ I=>.inl (zUE I h7)) kA
          have zb:=s.val (.head _)
          have zm:=s.val mz1
          have zv:=s.val mz3
          have hc:=zSe (W:=u4) (g:=x.g) (cap:=x.cap) (i:=k) (v:=a.tmps.getD 37 undef) (u:=a.tmps.getD 38 undef) (x:=a.tmps.getD 40 undef) hS (zJd _) (by rw[zAJ];exact hk) (by rw[zAJ];have:=hI.few;omega) (by rw[zAJ];exact zb) zm zv
          have qk:(#[.tmp 37,.tmp 38,.tmp 40]:Array Operand).map a.eval=#[a.tmps.getD 37 undef,a.tmps.getD 38 undef,a.tmps.getD 40 undef]:=by
            rw[cQ]
            simp[Act.eval]
          obtain⟨cg13,yt⟩:=hS.at
          refine zNb (g:=x.g) zDl zWN s (.inl (.inr (.inr (.inr (.inl rfl))))) rfl kA kA (fun w' hw=>hS.keepU hw) (fU (fun h=>hV (.inr (.inr h.symm)))<|fU (fun h=>hV (.inl h.symm))<|fU (fun h=>hV (.inr (.inl h.symm))) fnz) qk hc fun a v2 qf q4 s=>?_
          have qi:(x.row.eraseIdx k).length=x.row.length-1:=zZZ hk
          rw[zJe]at qf
          rw[zAJ,<-qi]at s
          have sB:=s
          replace s:=s.move (fun q=>q=b3∨q=b2∨q=b5) (fun _=>zVg) kA
          have uo:=s
          refine j9 (c:=3) (o:=0) (kk:=1) (wD [.slice (some ⟨x.g,0,none⟩) (x.row.eraseIdx k).length x.cap]) ((UF.eq (.slice (some ⟨x.g,0,none⟩) (x.row.eraseIdx k).length x.cap)).tS) rfl s kA rfl rfl (fun _ _ h=>h.1) iiz (zGD fun cs W h=>by rw[show cs=_ from h];rfl) fun a uh s=>zD rfl ?_
          have xc:y7 v2 uh:=qM (s.gr.sub (fun _=>in3)) uo.bx
          obtain⟨cg14,xx⟩:=qf.at
          have yg:=qf.keep (s.gr.block x.g (xQ.1 xx).1 hV) xc
          have x2:=qj.keep (fun g O=>by
            obtain⟨U,J⟩:=jE qj O
            exact q4.block g (qj.lt g O).2 (fun e=>jO J yt (show(38:WF)≠30 from fH) (by injection e))) (hS.keepU q4)
          have y2:=x2.keep (fun g O=>s.gr.block g (x2.lt g O).2 (hO g O)) xc
          have hsz15:=s.gr.size
          have hsz14:=q4.size
          have yn:=s.boxIs (c:=3) rfl
          have yr:=s.boxIs (c:=2) rfl
          replace s:=wN sB s (fun _ I=>.inl (zUE I h7)) kA
          replace s:=s.popB
          refine tU ?_
          have u6:zAO uh W.heap.size 38 18 (.slice A8 n8 c8) (tns (x.acc++ [zA1 x.row k])):=by
            rw[show tns (x.acc++ [zA1 x.row k])=tns x.acc++tns [zA1 x.row k] by simp[tns]]
            exact y2
          exact⟨rfl,((s.keepK [] fnz).weak2),k,.slice A8 n8 c8,zj,⟨oA,yr,yn,u6,h5.gb,yg⟩⟩
        . have qy:∀j,j<k+1->zKu x.row j=false:=fun j hj=>by
            rcases lF.1 hj with h|rfl
            . exact xb j h
            . exact e
          replace s:=wN sW s (fun _ I=>.inl (zUE I h7)) kA
          replace s:=s.popB
          exact pT<|⟨((s.keepK [] fnz).weak2),fun _=>False,fun q I=>I.elim,fun q I=>I.elim,⟨xw,qy⟩,qa⟩
      . obtain⟨ub,zz⟩:=zc
        have qi:zRF x.row=none:=zIn zz
        have ux:=hI.none h4 u5 qi
        replace s:=s.is2 ub.h3 ub.h2
        generalize({ a with defers:=mark D2::a.defers }:Act)=a at s ⊢
        replace s:=s.keepK [] fnz
        refine lP<|rgK 0 [] s
          zB fun a w4 s=>j9 (c:=2) (o:=0) (kk:=1) (wD [sN]) ((UF.eq (sN)).tS) rfl s kA rfl rfl (fun _ _ h=>h.1) iiz (zGD fun cs W h=>by rw[show cs=_ from h];rfl) fun a w5 s=>zD rfl<|pS ?_
        have qd:=s.boxIs (c:=2) rfl
        exact zHJ s (sN) (t:=2) (e:=33) rfl kA rfl qd (fun w' ho=>by
          rw[show zD4 ps=[] by unfold zD4;rw[ux];rfl]
          exact zAO.nil _ _ _ _)
      . obtain⟨i,x8,hi,yu⟩:=hz
        have yq:i<x.row.length:=xU.1 (tW hi)
        obtain⟨f',ef,x4⟩:=hI.ear h4 u5 hi
        have qi:(x.row.eraseIdx i).length=x.row.length-1:=zZZ yq
        have uw:=x4.len
        exact tU<|⟨⟨x.acc++ [zA1 x.row i],x.row.eraseIdx i,x8,x.g,x.cap,f'⟩,by show f'<x.f;omega,mark D2::mark D::ds,x4,by show 0<f';omega,by show 0<(x.row.eraseIdx i).length;omega,fun p hp=>x7 p (List.mem_of_mem_eraseIdx hp),yu,s.keepK [] fnz⟩
    . obtain⟨i,hi,yu⟩:=hz
      have yq:i<x.row.length:=xU.1 (tW hi)
      obtain⟨f',ef,x4⟩:=hI.flat h4 hi
      have qi:(x.row.eraseIdx i).length=x.row.length-1:=zZZ yq
      have uw:=x4.len
      exact tU<|⟨⟨x.acc,x.row.eraseIdx i,x.vo,x.g,x.cap,f'⟩,by show f'<x.f;omega,mark D::ds,x4,by show 0<f';omega,by show 0<(x.row.eraseIdx i).length;omega,fun p hp=>x7 p (List.mem_of_mem_eraseIdx hp),yu,s.keepK [] fnz⟩
  . have h3:x.row.length<=3:=by have:=nF e;omega
    refine tU<|lP<|lP ?_
    replace s:=s.keepK [] fnz
    have zw:=hT.below s.below
    have xz:zD4 ps=x.acc++zEx x.row:=by unfold zD4;rw[hI.done uq h3];rfl
    obtain⟨Ao,hG,co,eo⟩:=zC2 q1.ro
    refine rgL 3 ((42,.s (fCM W.heap.size b2 b3 x.acc x.row x.vo x.g x.cap))::(43,.s (uI (x.row.length:Int)).tS)::(44,.u (uB ((x.row.length:Int)==3)))::[]) s
      (oc (zCz (v:=(.slice (some ⟨x.g,0,none⟩) x.row.length x.cap)) (f:=(fCM W.heap.size b2 b3 x.acc x.row x.vo x.g x.cap)) kA (fun _ _ h=>h.2) ⟨rfl,q1⟩)<|oc (zC8 kA (fun v W h=>⟨_,_,_,h.1,rfl⟩))<|oc (zI .i64 (x.row.length:Int) 3 ((x.row.length:Int)==3) iiz iiz rfl rfl)<|zB) fun a w2 s hr=>?_
    have h9:=(hr (_,_) (.head _)).2
    refine zD rfl<|StS.cond s ((x.row.length:Int)==3) iiz (fun e=>?_) (fun e=>?_)
    . have yc:x.row.length=3:=by have:=eq_of_beq e;omega
      have vh:∀p,p∈tl (at_ x.row 0,at_ x.row 1,at_ x.row 2)->QB p.1 1/\QB p.2 1:=fun p hp=>by
        have uu:∀{j:Nat},j<x.row.length->at_ x.row j∈x.row:=fun {j} hj=>by
          unfold at_
          rw[rG,nE hj]
          exact uZ hj
        simp only[tl,xS,rL,rK]at hp
        rcases hp with rfl|rfl|rfl<;>exact x7 _ (uu oA)
      have hD:∀v W',(fCM W.heap.size b2 b3 x.acc x.row x.vo x.g x.cap).p v W'->(SF.row 6 (pns x.row)).p v W':=fun v W' h=>by
        rw[h.1]
        exact(h.2.rr.toN lr (zAJ _).symm).row
      replace s:=s.keepK [] fnz
      refine lP ?_
      have z8:=hT.below s.below
      have so:=s.old;have sg:=s.gr
      refine zBs [] [⟨10,8,38, [.bool false, sN, sN,.bool false, sN, sN,.bool false, sN, sN,.bool false, sN, sN,.bool false, sN, sN,.bool false, sN, sN],wJ w2 38 (CU.len 18)⟩] 11 ((45,.s (fCM W.heap.size b2 b3 x.acc x.row x.vo x.g x.cap))::(46,.Y (fPN (at_ x.row 0)))::(47,.Z (fPN (at_ x.row 0)))::(48,.s (fCM W.heap.size b2 b3 x.acc x.row x.vo x.g x.cap))::(49,.Y (fPN (at_ x.row 1)))::(50,.Z (fPN (at_ x.row 1)))::(51,.s (fCM W.heap.size b2 b3 x.acc x.row x.vo x.g x.cap))::(52,.Y (fPN (at_ x.row 2)))::(53,.Z (fPN (at_ x.row 2)))::(54,.u (fTN (at_ x.row 0,at_ x.row 1,at_ x.row 2)))::(8,.s (wJ w2 38 (CU.len 18)))::[]) hmix s (fU ⟨by show 10<11;decide,zKe,⟨_,_,_,rfl⟩,fJ,zAK (fun _=>rfl) rfl⟩ fnz) kA
        (oc (zCz (v:=(.slice (some ⟨x.g,0,none⟩) x.row.length x.cap)) (f:=(fCM W.heap.size b2 b3 x.acc x.row x.vo x.g x.cap)) kA (fun _ _ h=>h.2) ⟨rfl,h9⟩)<|oc (zO (z:=6) (Cs:=pns x.row) (i:=0) (C:=CU.agg (fPN (at_ x.row 0))) kA (zBt oA) (fun v W' hb h=>hD v W' h) iiz)<|oc (zT (f:=fPN (at_ x.row 0)) 6 kA (hz:=y9 _ _))<|oc (zCz (v:=(.slice (some ⟨x.g,0,none⟩) x.row.length x.cap)) (f:=(fCM W.heap.size b2 b3 x.acc x.row x.vo x.g x.cap)) kA (fun _ _ h=>h.2) ⟨rfl,h9⟩)<|oc (zO (z:=6) (Cs:=pns x.row) (i:=1) (C:=CU.agg (fPN (at_ x.row 1))) kA (zBt oA) (fun v W' hb h=>hD v W' h) iiz)<|oc (zT (f:=fPN (at_ x.row 1)) 6 kA (hz:=y9 _ _))<|oc (zCz (v:=(.slice (some ⟨x.g,0,none⟩) x.row.length x.cap)) (f:=(fCM W.heap.size b2 b3 x.acc x.row x.vo x.g x.cap)) kA (fun _ _ h=>h.2) ⟨rfl,h9⟩)<|oc (zO (z:=6) (Cs:=pns x.row) (i:=2) (C:=CU.agg (fPN (at_ x.row 2))) kA (zBt oA) (fun v W' hb h=>hD v W' h) iiz)<|oc (zT (f:=fPN (at_ x.row 2)) 6 kA (hz:=y9 _ _))<|oc (zAQ (fun u v q W' (hu:(fPN (at_ x.row 0)).p u W') (hv:(fPN (at_ x.row 1)).p v W') (I:(fPN (at_ x.row 2)).p q W')=>zXi (t:=(at_ x.row 0,at_ x.row 1,at_ x.row 2)) hu hv I))<|oc (zBY (cs:=[.bool false, sN, sN,.bool false, sN, sN,.bool false, sN, sN,.bool false, sN, sN,.bool false, sN, sN,.bool false, sN, sN]) kA (zAK (fun _=>rfl) rfl))<|zB) fun Q' hQ a w3 s hr hd=>?_
      have hN:=(hr (_,_) (.head _)).2
      obtain⟨b8,hB8,e8,s⟩:=s.adoptA false 8 (hr (_,_) zKe) sg (fun y hy=>.inl (so y hy))
      refine zEd (c:=8) (o:=0) (kk:=18) (CU.agg (fTN (at_ x.row 0,at_ x.row 1,at_ x.row 2))) ((fTN (at_ x.row 0,at_ x.row 1,at_ x.row 2)).tS) rfl s kA rfl rfl (fun _ _ h=>h.1) iiz zXL fun w4 va vu s=>?_
      have zq:=hN.ro.keep (fun g O=>va.block g (hN.ro.lt g O).2 (fun e=>by
        have h1:=(h9.ro.lt g O).2
        injection e with e
        have e':g=b8:=e
        omega)) vu
      refine zD rfl (hQ _ _ ?_)
      replace s:=s.keepK [] fnz
      have zl:=hT.below s.below
      refine lP<|rgL 3 ((55,.Z (fTN (at_ x.row 0,at_ x.row 1,at_ x.row 2)))::(56,.s (fIR W.heap.size 38 18 (zBm (at_ x.row 0,at_ x.row 1,at_ x.row 2)) x.vo (tns x.acc)))::(57,.u (uB (zBm (at_ x.row 0,at_ x.row 1,at_ x.row 2)==1)))::[]) s
        (oc (zT (f:=fTN (at_ x.row 0,at_ x.row 1,at_ x.row 2)) 18 kA (hz:=zFR _))<|oc (zG zC zUP (fun u0 X hb (h0:(fTN (at_ x.row 0,at_ x.row 1,at_ x.row 2)).p u0 X)=>(zIo (m:=1) (zMc vh h0) dA dA (zl.below hb)).mono (fun e' W' z1=>by
          obtain⟨v,e1,e2,e3⟩:=z1
          exact⟨v,e1,⟨e2,(zq.below hb).below e3⟩,e3⟩)))<|oc (zI .i64 (zBm (at_ x.row 0,at_ x.row 1,at_ x.row 2)) 1 (zBm (at_ x.row 0,at_ x.row 1,at_ x.row 2)==1) (fun _ _ h=>h.1) iiz rfl rfl)<|zB) fun a w5 s hr=>?_
      have hJ:=(hr (_,_) mz1).2
      refine zD rfl<|StS.cond s (zBm (at_ x.row 0,at_ x.row 1,at_ x.row 2)==1) iiz (fun e1=>?_) (fun e1=>?_)
      . have hX:tns x.acc++tns [(at_ x.row 0,at_ x.row 1,at_ x.row 2)]=tns (zD4 ps):=by
          rw[xz,show zEx x.row=[(at_ x.row 0,at_ x.row 1,at_ x.row 2)] by unfold zEx;rw[if_pos ⟨yc,eq_of_beq e1⟩]]
          simp[tns]
        refine rgL 3 ((58,.s (fVR W.heap.size 38 18 x.vo (tns x.acc)))::(59,.Z (fTN (at_ x.row 0,at_ x.row 1,at_ x.row 2)))::(60,.s (SF.row 18 (tns [(at_ x.row 0,at_ x.row 1,at_ x.row 2)])))::[]) s
          (oc (zCz (v:=x.vo) (f:=fVR W.heap.size 38 18 x.vo (tns x.acc)) kA (fun _ _ h=>h.2) ⟨rfl,hJ⟩)<|oc (zT (f:=fTN (at_ x.row 0,at_ x.row 1,at_ x.row 2)) 18 kA (hz:=zFR _))<|oc (jV (fun u W' (hu:(fTN (at_ x.row 0,at_ x.row 1,at_ x.row 2)).p u W')=>zNk hu))<|zB) fun a w6 s hr=>?_
        have xo:=hr (_,_) (.head _)
        have uf:zAO w6 W.heap.size 38 18 x.vo (tns x.acc):=xo.2
        replace s:=s.keepK [] fnz
        refine zVy (tns [(at_ x.row 0,at_ x.row 1,at_ x.row 2)]) s uf rfl kA kA kA xo.1 (hr (_,_) mz2) (zR6 _) (by have:=hI.sum;simp[tns];omega) (fmz ⟨fun h=>by
          have h1:=(h9.ro.lt b8 h).2
          omega,fmz ⟨fun h=>by
          obtain⟨U,J⟩:=jE h9.ro h
          exact jO J h9.h3 (show(38:WF)≠22 from fH) rfl,fmz ⟨fun h=>by
          obtain⟨U,J⟩:=jE h9.ro h
          exact jO J h9.h2 (show(38:WF)≠33 from fH) rfl,fnz⟩⟩⟩) fun v' a w7 qp qx s=>?_
        rw[hX]at qp
        obtain⟨A8,n8,c8,rfl⟩:=zC2 qp
        refine zEd (c:=2) (o:=0) (kk:=1) (wD [.slice A8 n8 c8]) ((UF.eq (.slice A8 n8 c8)).tS) rfl s kA rfl rfl (fun _ _ h=>h.1) iiz (zGD fun cs W h=>by rw[show cs=_ from h];rfl) fun w8 vr vd s=>zD rfl ?_
        have ug:=qp.keep (fun g O=>vr.block g (qp.lt g O).2 (fun e=>qx _ mz2 (O.trans e))) vd
        refine lP ?_
        replace s:=s.keepK [] fnz
        refine rgL 1 ((62,.s (fVR W.heap.size 38 18 (.slice A8 n8 c8) (tns (zD4 ps))))::[]) s
          (oc (zCz (v:=(.slice A8 n8 c8)) (f:=fVR W.heap.size 38 18 (.slice A8 n8 c8) (tns (zD4 ps))) kA (fun _ _ h=>h.2) ⟨rfl,ug⟩)<|zB) fun a wy s hr=>?_
        have hU:=hr (_,_) (.head _)
        have hs:=hU.2
        replace s:=s.learn 62 (.slice A8 n8 c8) (hU.1.trans rfl)
        obtain⟨cv,x6,z0,_⟩:=s.boxAt (c:=2) rfl
        refine zEd (c:=2) (o:=0) (kk:=1) (wD [(.slice A8 n8 c8)]) ((UF.eq (.slice A8 n8 c8)).tS) rfl s kA rfl rfl (fun _ _ h=>h.1) iiz (zGD fun cs W h=>by rw[show cs=_ from h];rfl) fun wz qz xa s=>zD rfl ?_
        have qU:=hs.keep (fun g O=>qz.block g (hs.lt g O).2 (fun e=>by
          obtain⟨U,J⟩:=jE hs O
          exact jO J x6 (show(38:WF)≠33 from fH) (by injection e))) xa
        refine pS ?_
        have qd:=s.boxIs (c:=2) rfl
        exact zHJ s (.slice A8 n8 c8) (t:=2) (e:=33) rfl kA rfl qd (fun w' ho=>zAO.keepC qU (zEz ho))
      . have hX:tns x.acc=tns (zD4 ps):=by
          rw[xz,show zEx x.row=[] by unfold zEx;rw[if_neg (fun h=>by have:=h.2;simp[this]at e1)]]
          simp
        rw[hX]at hJ
        refine pT<|lP ?_
        replace s:=s.keepK [] fnz
        refine rgL 1 ((62,.s (fVR W.heap.size 38 18 x.vo (tns (zD4 ps))))::[]) s
          (oc (zCz (v:=x.vo) (f:=fVR W.heap.size 38 18 x.vo (tns (zD4 ps))) kA (fun _ _ h=>h.2) ⟨rfl,hJ⟩)<|zB) fun a wy s hr=>?_
        have hU:=hr (_,_) (.head _)
        have hs:=hU.2
        replace s:=s.learn 62 (.slice Ao hG co) (hU.1.trans eo)
        rw[show x.vo=(.slice Ao hG co)from eo]at hs
        obtain⟨cv,x6,z0,_⟩:=s.boxAt (c:=2) rfl
        refine zEd (c:=2) (o:=0) (kk:=1) (wD [(.slice Ao hG co)]) ((UF.eq (.slice Ao hG co)).tS) rfl s kA rfl rfl (fun _ _ h=>h.1) iiz (zGD fun cs W h=>by rw[show cs=_ from h];rfl) fun wz qz xa s=>zD rfl ?_
        have qU:=hs.keep (fun g O=>qz.block g (hs.lt g O).2 (fun e=>by
          obtain⟨U,J⟩:=jE hs O
          exact jO J x6 (show(38:WF)≠33 from fH) (by injection e))) xa
        refine pS ?_
        have qd:=s.boxIs (c:=2) rfl
        exact zHJ s (.slice Ao hG co) (t:=2) (e:=33) rfl kA rfl qd (fun w' ho=>zAO.keepC qU (zEz ho))
    . have yc:x.row.length≠3:=fun h=>by rw[h]at e;exact absurd e dA
      have hX:tns x.acc=tns (zD4 ps):=by
        rw[xz,show zEx x.row=[] by unfold zEx;rw[if_neg (fun h=>yc h.1)]]
        simp
      have hJ:=h9.ro
      rw[hX]at hJ
      refine pT<|lP ?_
      replace s:=s.keepK [] fnz
      refine rgL 1 ((62,.s (fVR W.heap.size 38 18 x.vo (tns (zD4 ps))))::[]) s
        (oc (zCz (v:=x.vo) (f:=fVR W.heap.size 38 18 x.vo (tns (zD4 ps))) kA (fun _ _ h=>h.2) ⟨rfl,hJ⟩)<|zB) fun a wy s hr=>?_
      have hU:=hr (_,_) (.head _)
      have hs:=hU.2
      replace s:=s.learn 62 (.slice Ao hG co) (hU.1.trans eo)
      rw[show x.vo=(.slice Ao hG co)from eo]at hs
      obtain⟨cv,x6,z0,_⟩:=s.boxAt (c:=2) rfl
      refine zEd (c:=2) (o:=0) (kk:=1) (wD [(.slice Ao hG co)]) ((UF.eq (.slice Ao hG co)).tS) rfl s kA rfl rfl (fun _ _ h=>h.1) iiz (zGD fun cs W h=>by rw[show cs=_ from h];rfl) fun wz qz xa s=>zD rfl ?_
      have qU:=hs.keep (fun g O=>qz.block g (hs.lt g O).2 (fun e=>by
        obtain⟨U,J⟩:=jE hs O
        exact jO J x6 (show(38:WF)≠33 from fH) (by injection e))) xa
      refine pS ?_
      have qd:=s.boxIs (c:=2) rfl
      exact zHJ s (.slice Ao hG co) (t:=2) (e:=33) rfl kA rfl qd (fun w' ho=>zAO.keepC qU (zEz ho))
theorem zXO(a b c d e f g h:Int):yI prog 51 8 [(0,.int .i64 a),(1,.int .i64 b),(2,.int .i64 c),(3,.int .i64 d),(4,.int .i64 e),(5,.int .i64 f),(6,.int .i64 g),(7,.int .i64 h)]=some (3,#[.int .i64 a,.int .i64 b,.int .i64 c,.int .i64 d,.int .i64 e,.int .i64 f,.int .i64 g,.int .i64 h]):=fJ
theorem zJk{F:Fence}{ops:Array Oper}{G:Nat->SF}{d:Tmp}(a b c e f g h i:Int)(I:∀v W,(SF.row 1 (zEA [a,b,c,e,f,g,h,i])).p v W->(G d).p v W):qO F m prog w0 ops G ⟨some d,.buildSlice 51 8 #[(0,.const (.int .i64 a)),(1,.const (.int .i64 b)),(2,.const (.int .i64 c)),(3,.const (.int .i64 e)),(4,.const (.int .i64 f)),(5,.const (.int .i64 g)),(6,.const (.int .i64 h)),(7,.const (.int .i64 i))],ty,pos,aft,none⟩:=
 zDx fun J W hb hh=>by
  have O:=zXO a b c e f g h i
  have U:∀v:WE,J.eval (.const v)=v:=fun _=>rfl
  refine⟨3,#[.int .i64 a,.int .i64 b,.int .i64 c,.int .i64 e,.int .i64 f,.int .i64 g,.int .i64 h,.int .i64 i],by simpa[U]using O,I _ _ (zLa (L:=[a,b,c,e,f,g,h,i]) rfl rfl oA)⟩
abbrev zXA:List Int:=[0,0,2,0,2,2,0,2]
abbrev zXB:List Int:=[0,0,1,0,2,0,0,2]
abbrev zVk:List Int:=[0,2,0,0,2,0]
abbrev zVj:List Int:=[2,0,2,2,0,2]
abbrev zTa:List Int:=[0,0,2,0,0,2]
abbrev zVc:V6:=((((0:Int):Rat),((2:Int):Rat)),(((0:Int):Rat),((0:Int):Rat)),(((2:Int):Rat),((0:Int):Rat)))
abbrev zVb:V6:=((((2:Int):Rat),((0:Int):Rat)),(((2:Int):Rat),((2:Int):Rat)),(((0:Int):Rat),((2:Int):Rat)))
abbrev zL9:V6:=((((0:Int):Rat),((0:Int):Rat)),(((2:Int):Rat),((0:Int):Rat)),(((0:Int):Rat),((2:Int):Rat)))
abbrev zKG:List V6:=[zVc,zVb]
abbrev zS6:List V6:=[zL9]
theorem ck1:zD4 (zDp zXA 4)=zKG:=fJ
theorem ck2:zD4 (zDp zXB 4)=zS6:=fJ
theorem ck3:(qsg (arK zKG 2) ((8:Int):Rat)==0)=true:=fJ
theorem ck4:zBi zL9 (((1:Int):Rat),((1:Int):Rat))=0:=fJ
theorem ck5:zKu (zDp zTa 3) 0=true:=fJ
theorem qpz{a b:Int}(h:a.natAbs<100)(k:b.natAbs<100):QB ((a:Int):Rat) 1/\QB ((b:Int):Rat) 1:=⟨qbz h,qbz k⟩
theorem zNd:∀p,p∈tl zVc->QB p.1 1/\QB p.2 1:=fmz ⟨qpz dA dA,fU (qpz dA dA)<|fU (qpz dA dA) fnz⟩
theorem zNc:∀p,p∈tl zVb->QB p.1 1/\QB p.2 1:=fmz ⟨qpz dA dA,fU (qpz dA dA)<|fU (qpz dA dA) fnz⟩
theorem zTw:∀p,p∈tl zL9->QB p.1 1/\QB p.2 1:=fmz ⟨qpz dA dA,fU (qpz dA dA)<|fU (qpz dA dA) fnz⟩
theorem zXG:∀t,t∈zKG->∀p,p∈tl t->QB p.1 1/\QB p.2 1:=fmz ⟨zNd,fU zNc fnz⟩
theorem zXH:∀i,i<zKG.length->∀p,p∈tl (at3 zKG i)->QB p.1 1/\QB p.2 1:=fun i hi=>by
 match i,hi with
 |0,_=>exact zNd
 |1,_=>exact zNc
theorem zHV{L:List Int}(I:L.all (fun z=>decide (z.natAbs<100))=true)(v:WE)(W:WB)(h:(SF.row 6 (pns (zDp L k))).p v W):(SF.row 6 (pvs 1 (zDp L k))).p v W:=zN5 (zTo (zG7 I) k) v W h
theorem zFN(hT:Tab W):Calls prog 8 #[] W (Ret W (fB true).tS):=by
 refine zZ [] func8 rfl kA trivial fun a s=>rgQ ((0,.u (uB false))::[]) s
  (oc zF<|zB) fun a w1 s=>lP<|rgL 3 ((6,.s (SF.row 1 (zEA [0,0,2,0,2,2,0,2])))::(7,.s (wI w1 30 6 (pns (zDp zXA 4))))::(8,.s (wI w1 38 18 (tns zKG)))::[]) s
  (oc (zJk _ _ _ _ _ _ _ _ iiz)<|oc (zG zC zPa (fun J W hb (I:(SF.row 1 (zEA [0,0,2,0,2,2,0,2])).p J W)=>(zF8 (L:=zXA) I (zG7 dA).ok dA).mono (wG (qY hb.size))))<|oc (zG zC zYj (fun J W hb I=>(zPh (ps:=zDp zXA 4) (zHV dA _ _ (jK _ _ I)) (by rw[zCg];decide) (by rw[zCg];decide) (hT.below (s.up hb))).mono (wG (fun v W h=>qY hb.size v W (by rw[ck1]at h;exact h)))))<|zB) fun a w2 s hr=>?_
 obtain⟨v8,e8⟩:∃v,a.tmps.getD 8 undef=v:=⟨_,rfl⟩
 have U:(SF.row 18 (tns zKG)).p v8 w2:=e8▸jK _ _ (hr (_,_) mz2)
 replace s:=s.learn 8 v8 e8
 have hd:=s.below
 replace hT:=hT.below hd
 replace s:=s.reb rfl [(8,.u (UF.eq v8)),(0,.u (uB false))] (fU (.inl (.head _))<|fU (.inl mz1) fnz)
 refine yQ (UF.eq v8) rfl s kA iiz fun a w s=>zD rfl<|lP<|rgL 3 ((9,.s (SF.row 1 (zEA [0,0,1,0,2,0,0,2])))::(10,.s (wI w 30 6 (pns (zDp zXB 4))))::(11,.s (wI w 38 18 (tns zS6)))::[]) s
  (oc (zJk _ _ _ _ _ _ _ _ iiz)<|oc (zG zC zPa (fun J W hb (I:(SF.row 1 (zEA [0,0,1,0,2,0,0,2])).p J W)=>(zF8 (L:=zXB) I (zG7 dA).ok dA).mono (wG (qY hb.size))))<|oc (zG zC zYj (fun J W hb I=>(zPh (ps:=zDp zXB 4) (zHV dA _ _ (jK _ _ I)) (by rw[zCg];decide) (by rw[zCg];decide) (hT.below (s.up hb))).mono (wG (fun v W h=>qY hb.size v W (by rw[ck2]at h;exact h)))))<|zB) fun a w3 s hr=>?_
 obtain⟨v11,e11⟩:∃v,a.tmps.getD 11 undef=v:=⟨_,rfl⟩
 have O:(SF.row 18 (tns zS6)).p v11 w3:=e11▸jK _ _ (hr (_,_) mz2)
 replace s:=s.learn 11 v11 e11
 have ha:=s.below
 replace hT:=hT.below ha
 replace U:=(SF.row 18 _).st _ _ _ U ha
 replace s:=s.reb rfl [(11,.u (UF.eq v11)),(1,.u (UF.eq v8)),(8,.u (UF.eq v8)),(0,.u (uB false))] (fU (.inl (.head _))<|fU (.inl mz1)<|fU (.inl mz2)<|fU (.inl mz3) fnz)
 refine yQ (UF.eq v11) rfl s kA iiz fun a w s=>zD rfl<|lP<|rgQ ((12,.Z (UF.eq v8))::(13,.Z (uI ((tns zKG).length:Int)))::(14,.Z (uB false))::(15,.Z (uB false))::(16,.Z (UF.eq v11))::(17,.Z (uI ((tns zS6).length:Int)))::(18,.Z (uB false))::(19,.u (uB false))::[]) s
  (oc zA<|oc (yK (z:=18) (Cs:=tns zKG) kA (yM U s) (fun _=>rfl))<|oc (zI .i64 ((tns zKG).length:Int) 2 false iiz iiz (by rfl) rfl)<|oc zA<|oc (zE 15 false kA iiz (fun _=>zA) arf)<|oc (zE 15 false kA iiz (fun _=>yK (z:=18) (Cs:=tns zS6) kA (yM O s) (fun _=>rfl)) arf)<|oc (zE 15 false kA iiz (fun _=>zI .i64 ((tns zS6).length:Int) 1 false iiz iiz (by rfl) rfl) arf)<|oc (yC false iiz fS fD)<|zB) fun a w4 s=>StS.cond s false iiz fS (fun e=>?_)
 refine pT<|lP<|rgL 6 ((20,.s (SF.row 1 (zEA [0,2,0,0,2,0])))::(21,.s (wI w4 30 6 (pns (zDp zVk 3))))::(22,.s (SF.row 1 (zEA [2,0,2,2,0,2])))::(23,.s (wI w4 30 6 (pns (zDp zVj 3))))::(24,.s (SF.row 1 (zEA [0,0,2,0,0,2])))::(25,.s (wI w4 30 6 (pns (zDp zTa 3))))::[]) s
  (oc (zGc _ _ _ _ _ _ iiz)<|oc (zG zC zPa (fun J W hb (I:(SF.row 1 (zEA [0,2,0,0,2,0])).p J W)=>(zF8 (L:=zVk) I (zG7 dA).ok dA).mono (wG (qY hb.size))))<|oc (zGc _ _ _ _ _ _ iiz)<|oc (zG zC zPa (fun J W hb (I:(SF.row 1 (zEA [2,0,2,2,0,2])).p J W)=>(zF8 (L:=zVj) I (zG7 dA).ok dA).mono (wG (qY hb.size))))<|oc (zGc _ _ _ _ _ _ iiz)<|oc (zG zC zPa (fun J W hb (I:(SF.row 1 (zEA [0,0,2,0,0,2])).p J W)=>(zF8 (L:=zTa) I (zG7 dA).ok dA).mono (wG (qY hb.size))))<|zB) fun a w5 s hr=>?_
 obtain⟨v21,e21⟩:∃v,a.tmps.getD 21 undef=v:=⟨_,rfl⟩
 have h5:(SF.row 6 (pns (zDp zVk 3))).p v21 w5:=e21▸jK _ _ (hr (_,_) mz1)
 replace s:=s.learn 21 v21 e21
 obtain⟨v23,e23⟩:∃v,a.tmps.getD 23 undef=v:=⟨_,rfl⟩
 have h8:(SF.row 6 (pns (zDp zVj 3))).p v23 w5:=e23▸jK _ _ (hr (_,_) mz3)
 replace s:=s.learn 23 v23 e23
 obtain⟨v25,e25⟩:∃v,a.tmps.getD 25 undef=v:=⟨_,rfl⟩
 have h4:(SF.row 6 (pns (zDp zTa 3))).p v25 w5:=e25▸jK _ _ (hr (_,_) mz5)
 replace s:=s.learn 25 v25 e25
 have h9:=s.below
 replace hT:=hT.below h9
 replace U:=(SF.row 18 _).st _ _ _ U h9
 replace O:=(SF.row 18 _).st _ _ _ O h9
 replace s:=s.reb rfl [(25,.u (UF.eq v25)),(23,.u (UF.eq v23)),(21,.u (UF.eq v21)),(19,.u (uB false)),(2,.u (UF.eq v11)),(11,.u (UF.eq v11)),(1,.u (UF.eq v8)),(8,.u (UF.eq v8)),(0,.u (uB false))] (fU (.inl (.head _))<|fU (.inl mz1)<|fU (.inl mz2)<|fU (.inl mz3)<|fU (.inl mz4)<|fU (.inl mz5)<|fU (.inl mz6)<|fU (.inl mz7)<|fU (.inl mz8) fnz)
 refine yQ (UF.eq v21) rfl s kA iiz fun a w s=>yQ (UF.eq v23) rfl s kA iiz fun a w s=>yQ (UF.eq v25) rfl s kA iiz fun a w s=>zD rfl<|lP ?_
 replace s:=s.drop [0]
 exact rgE ((26,.Z (UF.eq v8))::(27,.Z (UF.eq v21))::(28,.Y (fPN (((0:Int):Rat),((2:Int):Rat))))::(29,.Z (fPN (((0:Int):Rat),((2:Int):Rat))))::(30,.Z (UF.eq v21))::(31,.Y (fPN (((0:Int):Rat),((0:Int):Rat))))::(32,.Z (fPN (((0:Int):Rat),((0:Int):Rat))))::(33,.Z (UF.eq v21))::(34,.Y (fPN (((2:Int):Rat),((0:Int):Rat))))::(35,.Z (fPN (((2:Int):Rat),((0:Int):Rat))))::(36,.Z (fTN zVc))::(37,.Z (UF.eq v23))::(38,.Y (fPN (((2:Int):Rat),((0:Int):Rat))))::(39,.Z (fPN (((2:Int):Rat),((0:Int):Rat))))::(40,.Z (UF.eq v23))::(41,.Y (fPN (((2:Int):Rat),((2:Int):Rat))))::(42,.Z (fPN (((2:Int):Rat),((2:Int):Rat))))::(43,.Z (UF.eq v23))::(44,.Y (fPN (((0:Int):Rat),((2:Int):Rat))))::(45,.Z (fPN (((0:Int):Rat),((2:Int):Rat))))::(46,.Z (fTN zVb))::(47,.s (SF.row 18 (tns [zVc,zVb])))::(48,.Z (uB true))::(49,.Z (uB true))::(50,.Z (UF.eq v11))::(51,.Z (UF.eq v25))::(52,.Y (fPN (((0:Int):Rat),((0:Int):Rat))))::(53,.Z (fPN (((0:Int):Rat),((0:Int):Rat))))::(54,.Z (UF.eq v25))::(55,.Y (fPN (((2:Int):Rat),((0:Int):Rat))))::(56,.Z (fPN (((2:Int):Rat),((0:Int):Rat))))::(57,.Z (UF.eq v25))::(58,.Y (fPN (((0:Int):Rat),((2:Int):Rat))))::(59,.Z (fPN (((0:Int):Rat),((2:Int):Rat))))::(60,.Z (fTN zL9))::(61,.s (SF.row 18 (tns [zL9])))::(62,.Z (uB true))::(63,.Z (uB true))::(64,.Z (uB true))::(65,.Z (UF.eq v8))::(66,.Z (fQN (arK zKG 2)))::(67,.Z (fQN ((8:Int):Rat)))::(68,.Z (uB true))::(69,.Z (uB true))::(70,.Z (uB true))::(71,.Z (UF.eq v11))::(72,.Y (fTN zL9))::(73,.Z (fTN zL9))::(74,.Z (fPN (((1:Int):Rat),((1:Int):Rat))))::(75,.Z (uI 0))::(76,.Z (uB true))::(77,.Z (uB true))::(78,.Z (uB true))::(79,.Z (UF.eq v25))::(80,.Z (uB true))::(81,.Z (uB true))::(0,.u (uB true))::[]) s
  (oc zA<|oc zA<|oc (zO (z:=6) (Cs:=pns (zDp zVk 3)) (i:=0) (C:=CU.agg (fPN (((0:Int):Rat),((2:Int):Rat)))) kA rfl (yM h5 s) iiz)<|oc (zT (f:=fPN (((0:Int):Rat),((2:Int):Rat))) 6 kA (hz:=y9 _ _))<|oc zA<|oc (zO (z:=6) (Cs:=pns (zDp zVk 3)) (i:=1) (C:=CU.agg (fPN (((0:Int):Rat),((0:Int):Rat)))) kA rfl (yM h5 s) iiz)<|oc (zT (f:=fPN (((0:Int):Rat),((0:Int):Rat))) 6 kA (hz:=y9 _ _))<|oc zA<|oc (zO (z:=6) (Cs:=pns (zDp zVk 3)) (i:=2) (C:=CU.agg (fPN (((2:Int):Rat),((0:Int):Rat)))) kA rfl (yM h5 s) iiz)<|oc (zT (f:=fPN (((2:Int):Rat),((0:Int):Rat))) 6 kA (hz:=y9 _ _))<|oc (zAQ (fun u v q W (hu:(fPN (((0:Int):Rat),((2:Int):Rat))).p u W) (hv:(fPN (((0:Int):Rat),((0:Int):Rat))).p v W) (hq:(fPN (((2:Int):Rat),((0:Int):Rat))).p q W)=>zXi (t:=zVc) hu hv hq))<|oc zA<|oc (zO (z:=6) (Cs:=pns (zDp zVj 3)) (i:=0) (C:=CU.agg (fPN (((2:Int):Rat),((0:Int):Rat)))) kA rfl (yM h8 s) iiz)<|oc (zT (f:=fPN (((2:Int):Rat),((0:Int):Rat))) 6 kA (hz:=y9 _ _))<|oc zA<|oc (zO (z:=6) (Cs:=pns (zDp zVj 3)) (i:=1) (C:=CU.agg (fPN (((2:Int):Rat),((2:Int):Rat)))) kA rfl (yM h8 s) iiz)<|oc (zT (f:=fPN (((2:Int):Rat),((2:Int):Rat))) 6 kA (hz:=y9 _ _))<|oc zA<|oc (zO (z:=6) (Cs:=pns (zDp zVj 3)) (i:=2) (C:=CU.agg (fPN (((0:Int):Rat),((2:Int):Rat)))) kA rfl (yM h8 s) iiz)<|oc (zT (f:=fPN (((0:Int):Rat),((2:Int):Rat))) 6 kA (hz:=y9 _ _))<|oc (zAQ (fun u v q W (hu:(fPN (((2:Int):Rat),((0:Int):Rat))).p u W) (hv:(fPN (((2:Int):Rat),((2:Int):Rat))).p v W) (hq:(fPN (((0:Int):Rat),((2:Int):Rat))).p q W)=>zXi (t:=zVb) hu hv hq))<|oc (z9 (fun u v W (hu:(fTN zVc).p u W) (hv:(fTN zVb).p v W)=>zVD hu hv))<|oc (zH zC zWS (fun J u1 W hb (I:J=v8) (h1:(SF.row 18 (tns [zVc,zVb])).p u1 W)=>zGZ (ts:=zKG) (zCw U I (s.up hb)) h1 dA))<|oc zA<|oc (zE 49 true kA iiz (fun _=>zA) arf)<|oc (zE 49 true kA iiz (fun _=>zA) arf)<|oc (zE 49 true kA iiz (fun _=>zO (z:=6) (Cs:=pns (zDp zTa 3)) (i:=0) (C:=CU.agg (fPN (((0:Int):Rat),((0:Int):Rat)))) kA rfl (yM h4 s) iiz) arf)<|oc (zE 49 true kA iiz (fun _=>zT (f:=fPN (((0:Int):Rat),((0:Int):Rat))) 6 kA (hz:=y9 _ _)) arf)<|oc (zE 49 true kA iiz (fun _=>zA) arf)<|oc (zE 49 true kA iiz (fun _=>zO (z:=6) (Cs:=pns (zDp zTa 3)) (i:=1) (C:=CU.agg (fPN (((2:Int):Rat),((0:Int):Rat)))) kA rfl (yM h4 s) iiz) arf)<|oc (zE 49 true kA iiz (fun _=>zT (f:=fPN (((2:Int):Rat),((0:Int):Rat))) 6 kA (hz:=y9 _ _)) arf)<|oc (zE 49 true kA iiz (fun _=>zA) arf)<|oc (zE 49 true kA iiz (fun _=>zO (z:=6) (Cs:=pns (zDp zTa 3)) (i:=2) (C:=CU.agg (fPN (((0:Int):Rat),((2:Int):Rat)))) kA rfl (yM h4 s) iiz) arf)<|oc (zE 49 true kA iiz (fun _=>zT (f:=fPN (((0:Int):Rat),((2:Int):Rat))) 6 kA (hz:=y9 _ _)) arf)<|oc (zE 49 true kA iiz (fun _=>zAQ (fun u v q W (hu:(fPN (((0:Int):Rat),((0:Int):Rat))).p u W) (hv:(fPN (((2:Int):Rat),((0:Int):Rat))).p v W) (hq:(fPN (((0:Int):Rat),((2:Int):Rat))).p q W)=>zXi (t:=zL9) hu hv hq)) arf)<|oc (zE 49 true kA iiz (fun _=>jV (fun u W (hu:(fTN zL9).p u W)=>zNk hu)) arf)<|oc (zE 49 true kA iiz (fun _=>zH zC zWS (fun J u1 W hb (I:J=v11) (h1:(SF.row 18 (tns [zL9])).p u1 W)=>zGZ (ts:=zS6) (zCw O I (s.up hb)) h1 dA)) arf)<|oc (yC true iiz fD fS)<|oc zA<|oc (zE 64 true kA iiz (fun _=>zA) arf)<|oc (zE 64 true kA iiz (fun _=>zG zC zYI (fun J W hb (I:J=v8)=>zUQ (ts:=zKG) (zTr zXG _ _ (zCw U I (s.up hb))) dA (hT.below (s.up hb)))) arf)<|oc (zE 64 true kA iiz (fun _=>zG zC zGM (fun J W hb (I:J=.int .i64 8)=>zDK _ I dA)) arf)<|oc (zE 64 true kA iiz (fun _=>zH zC zWT (fun J u1 W hb (I:QNp (arK zKG 2) J W) (h1:QNp ((8:Int):Rat) u1 W)=>(zLh (m:=200) (p:=arK zKG 2) (q:=((8:Int):Rat)) (wH I ((zHg zXH 2 dA).mono dA)) (wH h1 ((qbz dA).mono dA)) dA dA).mono (wG (fun v W h=>by rw[ck3]at h;exact h)))) arf)<|oc (yC true iiz fD fS)<|oc zA<|oc (zE 70 true kA iiz (fun _=>zA) arf)<|oc (zE 70 true kA iiz (fun _=>zO (z:=18) (Cs:=tns zS6) (i:=0) (C:=CU.agg (fTN zL9)) kA rfl (yM O s) iiz) arf)<|oc (zE 70 true kA iiz (fun _=>zT (f:=fTN zL9) 18 kA (hz:=zFR _)) arf)<|oc (zE 70 true kA iiz (fun _=>zH zC zO9 (fun J u1 W hb (I:J=.int .i64 1) (h1:u1=.int .i64 1)=>zI0 I h1 dA dA)) arf)<|oc (zE 70 true kA iiz (fun _=>zH zC zWQ (fun J u1 W hb (I:(fTN zL9).p J W) (h1:(fPN (((1:Int):Rat),((1:Int):Rat))).p u1 W)=>(zSR (m:=1) (t:=zL9) (p:=(((1:Int):Rat),((1:Int):Rat))) (zMc zTw I) (zBu (qbz dA) (qbz dA) h1) dA dA (hT.below (s.up hb))).mono (wG (fun v W h=>by rw[ck4]at h;exact h)))) arf)<|oc (zE 70 true kA iiz (fun _=>zI .i64 0 0 true iiz iiz (by rfl) rfl) arf)<|oc (yC true iiz fD fS)<|oc zA<|oc (zE 78 true kA iiz (fun _=>zA) arf)<|oc (zE 78 true kA iiz (fun _=>zH zC zWP (fun J u1 W hb (I:J=v25) (h1:u1=.int .i64 0)=>(zSS (m:=1) (ps:=zDp zTa 3) (i:=0) (zHV dA _ _ (zCw h4 I (s.up hb))) h1 (by rw[zCg];decide) (by rw[zCg];decide) (by rw[zCg];decide) dA dA (hT.below (s.up hb))).mono (wG (fun v W h=>by rw[ck5]at h;exact h)))) arf)<|oc (yC true iiz fD fS)<|oc zF<|zB) fun a w6 s=>pS<|vJ s (hd.trans ((ha.trans (h9.mono ha.size)).mono hd.size)) rfl iiz
theorem zMs(x:Rat):(qsg x x==0)=true:=by rw[bC];exact zCS.2 rfl
theorem zYW(h:(fQN (arK [t] [t].length)).p v W):(fQN (trn t)).p v W:=by
 have I:(fQN (arK [t] 1)).p v W:=h
 rw[zU9]at I
 exact I
theorem Sim.cutS{l:List V2}(h:Sim l):DoneS (jM l) (zD4 l):=by
 obtain⟨T,e,I⟩:=zED (jM l).length (jM l) lr h.norm
 unfold zD4
 rw[e]
 exact I
theorem zPF{l:List V2}(h:Sim l):((zD4 l).map fun t=>crs t.1 t.2.1 t.2.2).sum=if arE l<0 then -arE l else arE l:=by
 rw[h.cutS.area]
 unfold jM
 rw[zXk]
 unfold ways
 split
 .exact zS4 l
 .rfl
theorem zOZ{l:List V2}(h:Sim l):(zD4 l).length+2+((List.range l.length).filter fun i=>zBm (zA1 l i)==0).length<=l.length/\0<(zD4 l).length:=by
 have hD:=h.cutS
 refine⟨?_,hD.ne⟩
 have hl:=hD.len
 rw[zH0]at hl
 have e:flN (jM l)=flN l:=by
  unfold flN
  have O:(jM l).Perm l:=by
   unfold jM
   refine(zDs (l:=ways l)).1.trans ?_
   unfold ways
   split
   .exact(List.perm_ext_iff_of_nodup (zIU h.nod) h.nod).2 fun x=>zOD l x
   .exact .refl _
  rw[O.countP_eq]
  congr 1
  funext u
  rw[rR]
  unfold zD8
  rcases zLB l with q|q
  .simp only[q.mem_iff]
  .simp only[q.mem_iff,xH]
   constructor
   .rintro⟨a,b,⟨f,hf,e1⟩,⟨g,hg,e2⟩,J⟩
    have f1:f=(u,a):=rF (vR Prod.snd e1) (vR Prod.fst e1)
    have g1:g=(b,u):=rF (vR Prod.snd e2) (vR Prod.fst e2)
    subst f1 g1
    exact⟨b,a,hg,hf,by unfold crs at J ⊢;grind⟩
   .rintro⟨a,b,h1,h2,J⟩
    exact⟨b,a,⟨(u,b),h2,rfl⟩,⟨(a,u),h1,rfl⟩,by unfold crs at J ⊢;grind⟩
 rw[e]at hl
 have e2:flN l=((List.range l.length).filter fun i=>zBm (zA1 l i)==0).length:=by
  have el:l=(List.range l.length).map (at_ l):=zSM fG fun i hi=>by
   unfold at_
   rw[rG,rG,tK,zZ2 hi]
   rfl
  unfold flN
  rw[<-List.countP_eq_length_filter]
  have:∀L:List Nat,(∀i,i∈L->i<l.length)->(L.map (at_ l)).countP (fun u=>@decide (zD8 l u) (Classical.propDecidable _))=L.countP fun i=>zBm (zA1 l i)==0:=by
   intro L
   induction L with
   |nil=>intro _;rfl
   | cons i L ih=>
    intro hL
    rw[xY,zZ3,zZ3,ih fun j hj=>hL j (by simp[hj])]
    congr 1
    have hi:=hL i fG
    obtain⟨X,Y,b,c,a,h5,em,et,_,_⟩:=zEk h.three hi
    have O:=jQ X (at_ l i::Y)
    rw[<-h5,mM,em]at O
    have i1:=O.mem_iff.1 jN.1
    have i2:=O.mem_iff.1 jN.2
    have I:zD8 l (at_ l i)↔(zBm (zA1 l i)==0)=true:=by
     rw[bC,et]
     constructor
     .rintro⟨p,q,h0,U,J⟩
      have ea:p=a:=vR Prod.fst (h.snd h0 i1 rfl)
      have eb:q=b:=vR Prod.snd (h.fst U i2 rfl)
      subst ea eb
      exact zA7.2 J
     .intro J
      exact⟨a,b,i1,i2,zA7.1 J⟩
    by_cases c:zD8 l (at_ l i)
    .simp only[c,I.1 c,decide_true]
    .have c': ¬(zBm (zA1 l i)==0)=true:=fun k=>c (I.2 k)
     simp only[c,c',decide_false]
  have:=this (List.range l.length) fun i hi=>xU.1 hi
  rw[<-el]at this
  exact this
 omega
theorem zKx{l:List V2}(h:Sim l):∀t,t∈zD4 l->t.1∈l/\t.2.1∈l/\t.2.2∈l:=fun t ht=>by
 have:=h.cutS.cor t ht
 exact⟨(zFE _).1 this.1,(zFE _).1 this.2.1,(zFE _).1 this.2.2⟩
theorem zQ3(h:∀p,p∈ps->QB p.1 1/\QB p.2 1):∀i j,i<ps.length->j<ps.length->i≠j->zFo (at_ ps i) (at_ ps j):=fun i j hi I _=>⟨1,1,h _ (jZ hi),h _ (jZ I),fH⟩
def zCX(a b r:Rat):Bool:=zFn a b r||zFn b a r
theorem zPt(a b r:Rat):zUS a b r=zCX a b r:=by
 rw[tP]
 unfold zCX
 rw[cZ,zL0,zL0]
 exact⟨zPs,zKw⟩
theorem zV8(a b p:V2):onB a b p=(((yP a b p==0)&&zCX a.1 b.1 p.1)&&zCX a.2 b.2 p.2):=by
 unfold onB
 rw[zPt,zPt]
theorem zNJ{r:Rat}(h1:RVp m a_ u W)(h2:RVp m b_ v W)(h3:RVp m r x W)(hm:m<=246)(I:0<m):Calls prog 97 #[u,v,x] W (Ret W (fB (zFn a_ b_ r)).tS):=by
 refine zZ [(fRV m a_).tS,(fRV m b_).tS,(fRV m r).tS] func97 rfl kA ⟨h1,h2,h3,trivial⟩ fun a s=>lP<|rgK 0 [] s
  zB fun a w1 s=>yL (CU.agg (fRV m a_)) rfl s kA (fun v W h=>zAm h) fun b3 a w s=>yL (CU.agg (fRV m b_)) rfl s kA (fun v W h=>zAm h) fun b4 a w s=>yL (CU.agg (fRV m r)) rfl s kA (fun v W h=>zAm h) fun b5 a w s=>yQ (uB false) rfl s kA iiz fun a w s=>zD rfl<|lP ?_
 replace s:=s.drop [6]
 exact rgE ((7,.Z (fRV m a_))::(8,.Z (fRV m r))::(9,.Z (uI (qsg a_ r)))::(10,.Z (uB (decide (qsg a_ r<=0))))::(11,.Z (uB (decide (qsg a_ r<=0))))::(12,.s (SF.imp ((decide (qsg a_ r<=0))=true) ((fRV m r).tS)))::(13,.s (SF.imp ((decide (qsg a_ r<=0))=true) ((fRV m b_).tS)))::(14,.s (SF.imp ((decide (qsg a_ r<=0))=true) ((uI (qsg r b_)).tS)))::(15,.s (SF.imp ((decide (qsg a_ r<=0))=true) ((uB (decide (qsg r b_<=0))).tS)))::(16,.Z (uB ((decide (qsg a_ r<=0))&&(decide (qsg r b_<=0)))))::(6,.u (uB ((decide (qsg a_ r<=0))&&(decide (qsg r b_<=0)))))::[]) s
  (oc (zT (f:=fRV m a_) 3 kA (hz:=qS _ _))<|oc (zT (f:=fRV m r) 3 kA (hz:=qS _ _))<|oc (zH zC zJC (fun O U W hb (J:RVp m a_ O W) (h1:RVp m r U W)=>zC4 (m:=m) J h1 oA I))<|oc (zI .i64 (qsg a_ r) 0 (decide (qsg a_ r<=0)) iiz iiz rfl rfl)<|oc zA<|oc (zE 11 (decide (qsg a_ r<=0)) kA iiz (fun e=>z5 [] ((fRV m r).tS) fnz fO kA (zT (f:=fRV m r) 3 kA (hz:=qS _ _))) fN)<|oc (zE 11 (decide (qsg a_ r<=0)) kA iiz (fun e=>z5 [] ((fRV m b_).tS) fnz fO kA (zT (f:=fRV m b_) 3 kA (hz:=qS _ _))) fN)<|oc (zE 11 (decide (qsg a_ r<=0)) kA iiz (fun e=>z5 [(12,(fRV m r).tS),(13,(fRV m b_).tS)] ((uI (qsg r b_)).tS) (fU (fun v W h=>zN (c:=(decide (qsg a_ r<=0))=true) (f:=(fRV m r).tS) e h)<|fU (fun v W h=>zN (c:=(decide (qsg a_ r<=0))=true) (f:=(fRV m b_).tS) e h) fnz) fO kA (zH zC zJC (fun O U W hb (J:RVp m r O W) (h1:RVp m b_ U W)=>zC4 (m:=m) J h1 oA I))) fN)<|oc (zE 11 (decide (qsg a_ r<=0)) kA iiz (fun e=>z5 [(14,(uI (qsg r b_)).tS)] ((uB (decide (qsg r b_<=0))).tS) (fU (fun v W h=>zN (c:=(decide (qsg a_ r<=0))=true) (f:=(uI (qsg r b_)).tS) e h) fnz) fO kA (zI .i64 (qsg r b_) 0 (decide (qsg r b_<=0)) iiz iiz rfl rfl)) fN)<|oc (yC (decide (qsg a_ r<=0)) iiz (fun e v W h=>zA0 (zN e h) e) (fun e v W h=>zAe h e))<|oc zF<|zB) fun a w2 s=>pS<|wF s (t:=6) rfl iiz
theorem zNI{r:Rat}(h1:RVp m a_ u W)(h2:RVp m b_ v W)(h3:RVp m r x W)(hm:m<=246)(I:0<m):Calls prog 74 #[u,v,x] W (Ret W (fB (zCX a_ b_ r)).tS):=by
 refine zZ [(fRV m a_).tS,(fRV m b_).tS,(fRV m r).tS] func74 rfl kA ⟨h1,h2,h3,trivial⟩ fun a s=>lP<|rgK 0 [] s
  zB fun a w1 s=>yL (CU.agg (fRV m a_)) rfl s kA (fun v W h=>zAm h) fun b3 a w s=>yL (CU.agg (fRV m b_)) rfl s kA (fun v W h=>zAm h) fun b4 a w s=>yL (CU.agg (fRV m r)) rfl s kA (fun v W h=>zAm h) fun b5 a w s=>yQ (uB false) rfl s kA iiz fun a w s=>zD rfl<|lP ?_
 replace s:=s.drop [6]
 exact rgE ((7,.Z (fRV m a_))::(8,.Z (fRV m b_))::(9,.Z (fRV m r))::(10,.Z (uB (zFn a_ b_ r)))::(11,.Z (uB (zFn a_ b_ r)))::(12,.s (SF.imp ((zFn a_ b_ r)=false) ((fRV m b_).tS)))::(13,.s (SF.imp ((zFn a_ b_ r)=false) ((fRV m a_).tS)))::(14,.s (SF.imp ((zFn a_ b_ r)=false) ((fRV m r).tS)))::(15,.s (SF.imp ((zFn a_ b_ r)=false) ((uB (zFn b_ a_ r)).tS)))::(16,.Z (uB ((zFn a_ b_ r)||(zFn b_ a_ r))))::(6,.u (uB ((zFn a_ b_ r)||(zFn b_ a_ r))))::[]) s
  (oc (zT (f:=fRV m a_) 3 kA (hz:=qS _ _))<|oc (zT (f:=fRV m b_) 3 kA (hz:=qS _ _))<|oc (zT (f:=fRV m r) 3 kA (hz:=qS _ _))<|oc (jG zC zWt (fun J U O W hb (h0:RVp m a_ J W) (h1:RVp m b_ U W) (h2:RVp m r O W)=>zNJ (m:=m) h0 h1 h2 hm I))<|oc zA<|oc (zE 11 (zFn a_ b_ r) kA iiz (fun e=>z5 [] ((fRV m b_).tS) fnz fO kA (zT (f:=fRV m b_) 3 kA (hz:=qS _ _))) fN)<|oc (zE 11 (zFn a_ b_ r) kA iiz (fun e=>z5 [] ((fRV m a_).tS) fnz fO kA (zT (f:=fRV m a_) 3 kA (hz:=qS _ _))) fN)<|oc (zE 11 (zFn a_ b_ r) kA iiz (fun e=>z5 [] ((fRV m r).tS) fnz fO kA (zT (f:=fRV m r) 3 kA (hz:=qS _ _))) fN)<|oc (zE 11 (zFn a_ b_ r) kA iiz (fun e=>z5 [(12,(fRV m b_).tS),(13,(fRV m a_).tS),(14,(fRV m r).tS)] ((uB (zFn b_ a_ r)).tS) (fU (fun v W h=>zN (c:=(zFn a_ b_ r)=false) (f:=(fRV m b_).tS) e h)<|fU (fun v W h=>zN (c:=(zFn a_ b_ r)=false) (f:=(fRV m a_).tS) e h)<|fU (fun v W h=>zN (c:=(zFn a_ b_ r)=false) (f:=(fRV m r).tS) e h) fnz) fO kA (jG zC zWt (fun J U O W hb (h0:RVp m b_ J W) (h1:RVp m a_ U W) (h2:RVp m r O W)=>zNJ (m:=m) h0 h1 h2 hm I))) fN)<|oc (yC (zFn a_ b_ r) iiz (fun e v W h=>zHP h e) (fun e v W h=>zFy (zN e h) e))<|oc zF<|zB) fun a w2 s=>pS<|wF s (t:=6) rfl iiz
theorem zVS{q:V2}(h1:(fPV m p).p u W)(h2:(fPV m q).p v W)(h3:(fPV m r).p x W)(hm:m<=246)(I:0<m):Calls prog 47 #[u,v,x] W (Ret W (fB (onB p q r)).tS):=by
 refine zZ [(fPV m p).tS,(fPV m q).tS,(fPV m r).tS] func47 rfl kA ⟨h1,h2,h3,trivial⟩ fun a s=>lP<|rgK 0 [] s
  zB fun a w1 s=>yL (CU.agg (fPV m p)) rfl s kA (fun v W h=>yV h) fun b3 a w s=>yL (CU.agg (fPV m q)) rfl s kA (fun v W h=>yV h) fun b4 a w s=>yL (CU.agg (fPV m r)) rfl s kA (fun v W h=>yV h) fun b5 a w s=>yQ (uB false) rfl s kA iiz fun a w s=>zD rfl<|lP ?_
 replace s:=s.drop [6]
 exact rgE ((7,.Z (fPV m p))::(8,.Z (fPV m q))::(9,.Z (fPV m r))::(10,.Z (uI (yP p q r)))::(11,.Z (uB (yP p q r==0)))::(12,.Z (uB (yP p q r==0)))::(13,.s (SF.imp ((yP p q r==0)=true) (wC ((CU.agg (fPV m p)).cf.at 0))))::(14,.s (SF.imp ((yP p q r==0)=true) ((fRV m ((p).1)).tS)))::(15,.s (SF.imp ((yP p q r==0)=true) (wC ((CU.agg (fPV m q)).cf.at 0))))::(16,.s (SF.imp ((yP p q r==0)=true) ((fRV m ((q).1)).tS)))::(17,.s (SF.imp ((yP p q r==0)=true) (wC ((CU.agg (fPV m r)).cf.at 0))))::(18,.s (SF.imp ((yP p q r==0)=true) ((fRV m ((r).1)).tS)))::(19,.s (SF.imp ((yP p q r==0)=true) ((uB (zCX (p).1 (q).1 (r).1)).tS)))::(20,.Z (uB ((yP p q r==0)&&(zCX (p).1 (q).1 (r).1))))::(21,.Z (uB ((yP p q r==0)&&(zCX (p).1 (q).1 (r).1))))::(22,.s (SF.imp (((yP p q r==0)&&(zCX (p).1 (q).1 (r).1))=true) (wC ((CU.agg (fPV m p)).cf.at 3))))::(23,.s (SF.imp (((yP p q r==0)&&(zCX (p).1 (q).1 (r).1))=true) ((fRV m ((p).2)).tS)))::(24,.s (SF.imp (((yP p q r==0)&&(zCX (p).1 (q).1 (r).1))=true) (wC ((CU.agg (fPV m q)).cf.at 3))))::(25,.s (SF.imp (((yP p q r==0)&&(zCX (p).1 (q).1 (r).1))=true) ((fRV m ((q).2)).tS)))::(26,.s (SF.imp (((yP p q r==0)&&(zCX (p).1 (q).1 (r).1))=true) (wC ((CU.agg (fPV m r)).cf.at 3))))::(27,.s (SF.imp (((yP p q r==0)&&(zCX (p).1 (q).1 (r).1))=true) ((fRV m ((r).2)).tS)))::(28,.s (SF.imp (((yP p q r==0)&&(zCX (p).1 (q).1 (r).1))=true) ((uB (zCX (p).2 (q).2 (r).2)).tS)))::(29,.Z (uB (((yP p q r==0)&&(zCX (p).1 (q).1 (r).1))&&(zCX (p).2 (q).2 (r).2))))::(6,.u (uB (((yP p q r==0)&&(zCX (p).1 (q).1 (r).1))&&(zCX (p).2 (q).2 (r).2))))::[]) s
  (oc (zK m p)<|oc (zK m q)<|oc (zK m r)<|oc (jG zC zUO (fun J U O W hb (h0:(fPV m p).p J W) (h1:(fPV m q).p U W) (h2:(fPV m r).p O W)=>zHK (m:=m) h0 h1 h2 hm I))<|oc (zI .i64 (yP p q r) 0 (yP p q r==0) iiz iiz rfl rfl)<|oc zA<|oc (zE 12 (yP p q r==0) kA iiz (fun e=>z5 [] (wC ((CU.agg (fPV m p)).cf.at 0)) fnz fO kA (zL (C:=cg (fPV m p)) 0 kA)) fN)<|oc (zE 12 (yP p q r==0) kA iiz (fun e=>z5 [(13,wC ((CU.agg (fPV m p)).cf.at 0))] ((fRV m ((p).1)).tS) (fU (fun v W h=>zN (c:=(yP p q r==0)=true) (f:=wC ((CU.agg (fPV m p)).cf.at 0)) e h) fnz) fO kA (zQ (C:=cg (fPV m p)) (k:=0) 3 kA (h:=zFc))) fN)<|oc (zE 12 (yP p q r==0) kA iiz (fun e=>z5 [] (wC ((CU.agg (fPV m q)).cf.at 0)) fnz fO kA (zL (C:=cg (fPV m q)) 0 kA)) fN)<|oc (zE 12 (yP p q r==0) kA iiz (fun e=>z5 [(15,wC ((CU.agg (fPV m q)).cf.at 0))] ((fRV m ((q).1)).tS) (fU (fun v W h=>zN (c:=(yP p q r==0)=true) (f:=wC ((CU.agg (fPV m q)).cf.at 0)) e h) fnz) fO kA (zQ (C:=cg (fPV m q)) (k:=0) 3 kA (h:=zFc))) fN)<|oc (zE 12 (yP p q r==0) kA iiz (fun e=>z5 [] (wC ((CU.agg (fPV m r)).cf.at 0)) fnz fO kA (zL (C:=cg (fPV m r)) 0 kA)) fN)<|oc (zE 12 (yP p q r==0) kA iiz (fun e=>z5 [(17,wC ((CU.agg (fPV m r)).cf.at 0))] ((fRV m ((r).1)).tS) (fU (fun v W h=>zN (c:=(yP p q r==0)=true) (f:=wC ((CU.agg (fPV m r)).cf.at 0)) e h) fnz) fO kA (zQ (C:=cg (fPV m r)) (k:=0) 3 kA (h:=zFc))) fN)<|oc (zE 12 (yP p q r==0) kA iiz (fun e=>z5 [(14,(fRV m ((p).1)).tS),(16,(fRV m ((q).1)).tS),(18,(fRV m ((r).1)).tS)] ((uB (zCX (p).1 (q).1 (r).1)).tS) (fU (fun v W h=>zN (c:=(yP p q r==0)=true) (f:=(fRV m ((p).1)).tS) e h)<|fU (fun v W h=>zN (c:=(yP p q r==0)=true) (f:=(fRV m ((q).1)).tS) e h)<|fU (fun v W h=>zN (c:=(yP p q r==0)=true) (f:=(fRV m ((r).1)).tS) e h) fnz) fO kA (jG zC zWD (fun J U O W hb (h0:RVp m ((p).1) J W) (h1:RVp m ((q).1) U W) (h2:RVp m ((r).1) O W)=>zNI (m:=m) h0 h1 h2 hm I))) fN)<|oc (yC (yP p q r==0) iiz (fun e v W h=>zA0 (zN e h) e) (fun e v W h=>zAe h e))<|oc zA<|oc (zE 21 ((yP p q r==0)&&(zCX (p).1 (q).1 (r).1)) kA iiz (fun e=>z5 [] (wC ((CU.agg (fPV m p)).cf.at 3)) fnz fO kA (zL (C:=cg (fPV m p)) 3 kA)) fN)<|oc (zE 21 ((yP p q r==0)&&(zCX (p).1 (q).1 (r).1)) kA iiz (fun e=>z5 [(22,wC ((CU.agg (fPV m p)).cf.at 3))] ((fRV m ((p).2)).tS) (fU (fun v W h=>zN (c:=((yP p q r==0)&&(zCX (p).1 (q).1 (r).1))=true) (f:=wC ((CU.agg (fPV m p)).cf.at 3)) e h) fnz) fO kA (zQ (C:=cg (fPV m p)) (k:=3) 3 kA (h:=zDL))) fN)<|oc (zE 21 ((yP p q r==0)&&(zCX (p).1 (q).1 (r).1)) kA iiz (fun e=>z5 [] (wC ((CU.agg (fPV m q)).cf.at 3)) fnz fO kA (zL (C:=cg (fPV m q)) 3 kA)) fN)<|oc (zE 21 ((yP p q r==0)&&(zCX (p).1 (q).1 (r).1)) kA iiz (fun e=>z5 [(24,wC ((CU.agg (fPV m q)).cf.at 3))] ((fRV m ((q).2)).tS) (fU (fun v W h=>zN (c:=((yP p q r==0)&&(zCX (p).1 (q).1 (r).1))=true) (f:=wC ((CU.agg (fPV m q)).cf.at 3)) e h) fnz) fO kA (zQ (C:=cg (fPV m q)) (k:=3) 3 kA (h:=zDL))) fN)<|oc (zE 21 ((yP p q r==0)&&(zCX (p).1 (q).1 (r).1)) kA iiz (fun e=>z5 [] (wC ((CU.agg (fPV m r)).cf.at 3)) fnz fO kA (zL (C:=cg (fPV m r)) 3 kA)) fN)<|oc (zE 21 ((yP p q r==0)&&(zCX (p).1 (q).1 (r).1)) kA iiz (fun e=>z5 [(26,wC ((CU.agg (fPV m r)).cf.at 3))] ((fRV m ((r).2)).tS) (fU (fun v W h=>zN (c:=((yP p q r==0)&&(zCX (p).1 (q).1 (r).1))=true) (f:=wC ((CU.agg (fPV m r)).cf.at 3)) e h) fnz) fO kA (zQ (C:=cg (fPV m r)) (k:=3) 3 kA (h:=zDL))) fN)<|oc (zE 21 ((yP p q r==0)&&(zCX (p).1 (q).1 (r).1)) kA iiz (fun e=>z5 [(23,(fRV m ((p).2)).tS),(25,(fRV m ((q).2)).tS),(27,(fRV m ((r).2)).tS)] ((uB (zCX (p).2 (q).2 (r).2)).tS) (fU (fun v W h=>zN (c:=((yP p q r==0)&&(zCX (p).1 (q).1 (r).1))=true) (f:=(fRV m ((p).2)).tS) e h)<|fU (fun v W h=>zN (c:=((yP p q r==0)&&(zCX (p).1 (q).1 (r).1))=true) (f:=(fRV m ((q).2)).tS) e h)<|fU (fun v W h=>zN (c:=((yP p q r==0)&&(zCX (p).1 (q).1 (r).1))=true) (f:=(fRV m ((r).2)).tS) e h) fnz) fO kA (jG zC zWD (fun J U O W hb (h0:RVp m ((p).2) J W) (h1:RVp m ((q).2) U W) (h2:RVp m ((r).2) O W)=>zNI (m:=m) h0 h1 h2 hm I))) fN)<|oc (yC ((yP p q r==0)&&(zCX (p).1 (q).1 (r).1)) iiz (fun e v W h=>zA0 (zN e h) e) (fun e v W h=>zAe h e))<|oc zF<|zB) fun a w2 s=>pS<|wF s (t:=6) rfl (fun v W h=>by rw[zV8];exact h)
def zDP(T:List V6)(p:V2)(k:Int):Nat:=T.countP fun t=>zBi t p==k
structure Done(l:List V2)(T:List V6):Prop where
 len:T.length+2+flN l<=l.length
 ne:0<T.length
 pos:∀t,t∈T->0<crs t.1 t.2.1 t.2.2
 cor:∀t,t∈T->t.1∈l/\t.2.1∈l/\t.2.2∈l
 area:(T.map fun t=>crs t.1 t.2.1 t.2.2).sum=arE l
 s1:∀p,(∃e,e∈eds l/\OnE e.1 e.2 p)->zDP T p 1=0/\0<zDP T p 0
 s2:∀p,(∀e,e∈eds l-> ¬OnE e.1 e.2 p)->wE (eds l) p=1->(zDP T p 1=1/\zDP T p 0=0)∨(zDP T p 1=0/\0<zDP T p 0)
 s3:∀p,(∀e,e∈eds l-> ¬OnE e.1 e.2 p)->wE (eds l) p=0->zDP T p 1=0/\zDP T p 0=0
theorem Done.perm{l l':List V2}(h:Done l T)(J:l.Perm l')(I:(eds l).Perm (eds l')):Done l' T where
 len:=by rw[<-J.length_eq,<-zFI J I];exact h.len
 ne:=h.ne
 pos:=h.pos
 cor t ht:=by have:=h.cor t ht;exact⟨J.mem_iff.1 this.1,J.mem_iff.1 this.2.1,J.mem_iff.1 this.2.2⟩
 area:=by rw[h.area];exact zEe I _
 s1 p hx:=h.s1 p (by obtain⟨e,O,h2⟩:=hx;exact⟨e,I.mem_iff.2 O,h2⟩)
 s2 p hx hw:=h.s2 p (fun e O=>hx e (I.mem_iff.1 O)) (by rw[zEM I];exact hw)
 s3 p hx hw:=h.s3 p (fun e O=>hx e (I.mem_iff.1 O)) (by rw[zEM I];exact hw)
theorem zCR(t:V6)(T:List V6)(p:V2)(k:Int):zDP (t::T) p k=zDP T p k+if zBi t p=k then 1 else 0:=by
 unfold zDP
 rw[zZ3]
 by_cases h:zBi t p=k<;>simp[h]
theorem zUV(h:zBi t p= -1):zDP (t::T) p 1=zDP T p 1:=by rw[zCR,h];rfl
theorem zPx(h:zBi t p= -1):zDP (t::T) p 0=zDP T p 0:=by rw[zCR,h];rfl
theorem zZi(h:zBi t p=0):zDP (t::T) p 1=zDP T p 1:=by rw[zCR,h];rfl
theorem zXc(h:zBi t p=0):zDP (t::T) p 0=zDP T p 0+1:=by rw[zCR,h];rfl
theorem zZI(h:zBi t p=1):zDP (t::T) p 1=zDP T p 1+1:=by rw[zCR,h];rfl
theorem zYQ(h:zBi t p=1):zDP (t::T) p 0=zDP T p 0:=by rw[zCR,h];rfl
theorem zMG{q:V2}(h:PO [p,q,r]):0<crs p q r/\Done [p,q,r] [(p,q,r)]:=by
 have hs:=h.sim
 have ee:eds [p,q,r]=zCV p q r:=rfl
 have hn:=hs.nod
 have hj:p≠q:=fun e=>by subst e;simp at hn
 have hg:p≠r:=fun e=>by subst e;simp at hn
 have hh:q≠r:=fun e=>by subst e;simp at hn
 have c1:crs q r p=crs p q r:=by unfold crs;grind
 have c2:crs r p q=crs p q r:=by unfold crs;grind
 have h4:∀a v b,(a,v)∈zCV p q r->(v,b)∈zCV p q r->crs a v b=crs p q r:=by
  intro a v b h1 h2
  unfold zCV at h1 h2
  simp only[xS,tL,rL,rK]at h1 h2
  rcases h1 with⟨rfl,rfl⟩|⟨rfl,rfl⟩|⟨rfl,rfl⟩<;>rcases h2 with⟨k1,k2⟩|⟨k1,k2⟩|⟨k1,k2⟩
  .exact absurd k1.symm hj
  .rw[k2]
  .exact absurd k1 hh
  .exact absurd k1.symm hg
  .exact absurd k1.symm hh
  .rw[k2,c1]
  .rw[k2,c2]
  .exact absurd k1 hj
  .exact absurd k1 hg
 have hD:0<crs p q r:=by
  obtain⟨a,v,b,_,_,he⟩:=zG9 3 [p,q,r] fG h (p,q) (by rw[ee];simp[zCV])
  rw[<-h4 a v b (by rw[<-ee];exact he.i) (by rw[<-ee];exact he.o)]
  exact he.pos
 have D1:0<crs q r p:=by rw[c1];exact hD
 have D2:0<crs r p q:=by rw[c2];exact hD
 have c0:∀x k,zDP [(p,q,r)] x k=if zBi (p,q,r) x=k then 1 else 0:=fun x k=>by rw[zCR];simp[zDP]
 have ha:∀x,(∃e,e∈eds [p,q,r]/\OnE e.1 e.2 x)↔zBi (p,q,r) x=0:=by
  intro x
  rw[zFH,ee]
  have h6:∀a v b w:V2,0<crs a v b->OnE a v w->crs a v w=0/\0<=crs v b w/\0<=crs b a w:=by
   intro a v b w hd hw
   have q1:crs v b a=crs a v b:=by unfold crs;grind
   have q2:crs b a v=crs a v b:=by unfold crs;grind
   refine⟨by obtain⟨t,_,_,rfl⟩:=hw;unfold crs;grind,?_,?_⟩
   .have:=zGF (g:=lin v b) hw (by rw[yO,q1];exact rE hd) (by rw[yO,zCc];grind)
    rw[yO]at this;exact this
   .have:=zGF (g:=lin b a) hw (by rw[yO,zCQ];grind) (by rw[yO,q2];exact rE hd)
    rw[yO]at this;exact this
  constructor
  .rintro⟨e,he,I⟩
   unfold zCV at he
   simp only[xS,rL,rK]at he
   rcases he with rfl|rfl|rfl
   .obtain⟨U,J,O⟩:=h6 p q r x hD I
    exact⟨⟨fF,J,O⟩,.inl U⟩
   .obtain⟨U,J,O⟩:=h6 q r p x D1 I
    exact⟨⟨O,fF,J⟩,.inr (.inl U)⟩
   .obtain⟨U,J,O⟩:=h6 r p q x D2 I
    exact⟨⟨J,O,fF⟩,.inr (.inr U)⟩
  .rintro⟨⟨U,J,O⟩,k|k|k⟩
   .exact⟨(p,q),by simp[zCV],zAC hD k J O⟩
   .exact⟨(q,r),by simp[zCV],zAC D1 k O U⟩
   .exact⟨(r,p),by simp[zCV],zAC D2 k U J⟩
 have ht:=fun x=>zID hD x
 refine⟨hD,?_,fG,fun t ht=>?_,fun t ht=>?_,?_,fun x I=>?_,fun x I hw=>?_,fun x I hw=>?_⟩
 .have:flN [p,q,r]=0:=by
   unfold flN
   rw[eS]
   intro u hu
   simp only[bY]
   rintro⟨x,y,I,hy,hz⟩
   rw[h4 x u y I hy]at hz
   grind
  simp[this]
 .obtain rfl:t=(p,q,r):=by simpa using ht
  exact hD
 .obtain rfl:t=(p,q,r):=by simpa using ht
  simp
 .unfold arE
  rw[ee]
  unfold zCV crd
  simp only[xY,bP,nG,nN]
  unfold crs
  grind
 .rw[c0,c0,(ha x).1 I]
  simp
 .rw[c0,c0]
  have n0: ¬zBi (p,q,r) x=0:=fun k=>by obtain⟨e,h1,h2⟩:=(ha x).2 k;exact I e h1 h2
  rcases zGo (p,q,r) x with k|k|k
  .have:=(ht x).2 (by
   rcases zD2.1 (show zBi (p,q,r) x<0 from oA)with q|q|q
   .exact .inr (.inr q)
   .exact .inl q
   .exact .inr (.inl q))
   rw[ee]at hw
   omega
  .exact absurd k n0
  .rw[k];simp
 .rw[c0,c0]
  have n0: ¬zBi (p,q,r) x=0:=fun k=>by obtain⟨e,h1,h2⟩:=(ha x).2 k;exact I e h1 h2
  rcases zGo (p,q,r) x with k|k|k
  .rw[k];simp
  .exact absurd k n0
  .obtain⟨U,J,O⟩:=zGp.1 k
   have:=(ht x).1 J O U
   rw[ee]at hw
   omega
theorem zPo{v b:V2}{c:List V2}(h:PO (v::b::(c++ [a])))(hc:c≠ [])(h0:crs a v b=0){T:List V6}(I:Done (b::(c++ [a])) T):Done (v::b::(c++ [a])) T:=by
 obtain⟨P',U,hb⟩:=h.flat hc h0
 have off:∀p,(∀e,e∈eds (v::b::(c++ [a]))-> ¬OnE e.1 e.2 p)->∀e,e∈eds (b::(c++ [a]))-> ¬OnE e.1 e.2 p:=fun p h e he hp=>by
  obtain⟨f,h1,h2⟩:=(hb p).2 ⟨e,he,hp⟩
  exact h f h1 h2
 refine⟨?_,I.ne,I.pos,fun t ht=>?_,?_,fun p O=>I.s1 p ((hb p).1 O),fun p O J=>I.s2 p (off p O) (by rw[<-U];exact J),fun p O J=>I.s3 p (off p O) (by rw[<-U];exact J)⟩
 .have:=I.len
  have:=zJx h.sim h0
  simp only[lU]at*
  omega
 .have:=I.cor t ht
  exact⟨.tail _ this.1,.tail _ this.2.1,.tail _ this.2.2⟩
 .rw[I.area,zL3,h0]
  grind
theorem zRI{v b:V2}{c:List V2}(h:PO (v::b::(c++ [a])))(hc:c≠ [])(he:EarP (v::b::(c++ [a])) a v b)(hf:flN (v::b::(c++ [a]))=0){T:List V6}(O:Done (b::(c++ [a])) T):Done (v::b::(c++ [a])) ((a,v,b)::T):=by
 have pt:=fun p=>h.cut_pt hc he p
 refine⟨?_,fG,fun t ht=>?_,fun t ht=>?_,?_,fun p hx=>?_,fun p hx I=>?_,fun p hx I=>?_⟩
 .have:=O.len
  simp only[lU]at*
  omega
 .rcases xS.1 ht with rfl|ht
  .exact he.pos
  .exact O.pos t ht
 .rcases xS.1 ht with rfl|ht
  .simp
  .have:=O.cor t ht
   exact⟨.tail _ this.1,.tail _ this.2.1,.tail _ this.2.2⟩
 .rw[xY,nG,O.area,zL3]
  grind
 all_goals obtain⟨g1,g2,g3⟩:=pt p
 .rcases zGo (a,v,b) p with k|k|k
  .have:=O.s1 p ((g2 (zD2 (t:=(a,v,b)).1 (by rw[k];decide))).1.1 hx)
   rw[zUV k,zPx k];exact this
  .obtain⟨⟨a1,U,a3⟩,a4⟩:=zFH.1 k
   rw[zZi k,zXc k]
   rcases g3 a1 U a3 a4 with⟨_,q|q⟩|q
   .have:=O.s1 p q
    exact⟨this.1,pX _⟩
   .have:=O.s3 p q.1 q.2
    exact⟨this.1,pX _⟩
   .obtain⟨e,J,h2⟩:=hx
    exact absurd h2 (q.1 e J)
  .obtain⟨a1,U,a3⟩:=zGp.1 k
   obtain⟨e,J,h2⟩:=hx
   exact absurd h2 ((g1 a1 U a3).1 e J)
 .rcases zGo (a,v,b) p with k|k|k
  .obtain⟨q1,q2⟩:=g2 (zD2 (t:=(a,v,b)).1 (by rw[k];decide))
   have:=O.s2 p (fun e J h2=>by obtain⟨f,h3,h4⟩:=q1.2 ⟨e,J,h2⟩;exact hx f h3 h4) (by rw[<-q2];exact I)
   rw[zUV k,zPx k];exact this
  .obtain⟨⟨a1,U,a3⟩,a4⟩:=zFH.1 k
   rw[zZi k,zXc k]
   rcases g3 a1 U a3 a4 with⟨⟨e,J,h2⟩,_⟩|q
   .exact absurd h2 (hx e J)
   .have:=O.s1 p q.2.2
    exact .inr ⟨this.1,pX _⟩
  .obtain⟨a1,U,a3⟩:=zGp.1 k
   obtain⟨_,_,q3,q4⟩:=g1 a1 U a3
   have:=O.s3 p q3 q4
   rw[zZI k,zYQ k,this.1,this.2]
   exact .inl ⟨rfl,rfl⟩
 .rcases zGo (a,v,b) p with k|k|k
  .obtain⟨q1,q2⟩:=g2 (zD2 (t:=(a,v,b)).1 (by rw[k];decide))
   have:=O.s3 p (fun e J h2=>by obtain⟨f,h3,h4⟩:=q1.2 ⟨e,J,h2⟩;exact hx f h3 h4) (by rw[<-q2];exact I)
   rw[zUV k,zPx k];exact this
  .obtain⟨⟨a1,U,a3⟩,a4⟩:=zFH.1 k
   rcases g3 a1 U a3 a4 with⟨⟨e,J,h2⟩,_⟩|q
   .exact absurd h2 (hx e J)
   .rw[q.2.1]at I;cases I
  .obtain⟨a1,U,a3⟩:=zGp.1 k
   have:=(g1 a1 U a3).2.1
   rw[this]at I;cases I
theorem zIr:∀(n:Nat) (l:List V2),l.length<=n->PO l->∃T,zIy n l=some T/\Done l T
 |0,l,hn,h=>by have:=h.sim.three;omega
 | n+1,l,hn,h=>by
  have h3:=h.sim.three
  by_cases hl:l.length<=3
  .unfold zIy
   rw[if_pos hl]
   match l,h3,hl with
   | [p,q,r],_,_=>
    obtain⟨hD,hd⟩:=zMG h
    refine⟨_,rfl,?_⟩
    have:zEx [p,q,r]=[(p,q,r)]:=by
     unfold zEx
     rw[if_pos ⟨rfl,zBE.2 hD⟩]
     rfl
    rw[this]
    exact hd
  .unfold zIy
   rw[if_neg hl]
   cases hf:zGK l with
   |some i=>
    have hi:i<l.length:=xU.1 (tW hf)
    have ht:=zZ4 hf
    simp only[bC]at ht
    obtain⟨X,Y,b,c,a,el,O,et,ee,hc⟩:=zEk h3 hi
    have J:c≠ []:=fun e=>by rw[e]at hc;simp at hc;omega
    rw[et]at ht
    have h0:crs a (at_ l i) b=0:=zA7.1 ht
    have hP:PO (at_ l i::b::(c++ [a])):=PO.at (by rw[<-el];exact h) O
    have h6:PO (X++Y):=PO.rot (by rw[O];exact(hP.flat J h0).1)
    simp only
    rw[ee]
    obtain⟨T,e1,hT⟩:=zIr n (X++Y) (by rw[<-ee,zZZ hi];omega) h6
    refine⟨T,e1,?_⟩
    have d1:Done (b::(c++ [a])) T:=by rw[<-O];exact hT.perm rO (jQ Y X)
    have d2:=zPo hP J h0 d1
    have hp:=jQ X (at_ l i::Y)
    have I:(X++at_ l i::Y).Perm (at_ l i::Y++X):=rO
    rw[<-el,mM,O]at hp I
    exact d2.perm I.symm hp
   | none=>
    have hv:∃i,i<l.length/\zKu l i=true:=by
     obtain⟨v0,hC⟩:∃v,v∈l:=by
      match l,h3 with
      |a::_,_=>exact⟨a,fG⟩
     obtain⟨x,y,h1,_⟩:=h.sim.at_corner hC
     obtain⟨a,v,b,_,_,U⟩:=zG9 l.length l lr h _ h1
     obtain⟨i,hi,e⟩:=zFg (zBj U.i).2
     have e':v=at_ l i:=e.symm
     rw[e']at U
     exact⟨i,hi,zST h hi U⟩
    cases hg:zRF l with
    |none=>
     obtain⟨i,hi,U⟩:=hv
     exact absurd U (by simpa using zCT.1 hg i (xU.2 hi))
    | some i=>
     have hi:i<l.length:=xU.1 (tW hg)
     have U:=zSU h hi (zZ4 hg)
     obtain⟨X,Y,b,c,a,el,O,et,ee,hc⟩:=zEk h3 hi
     have J:c≠ []:=fun e=>by rw[e]at hc;simp at hc;omega
     rw[et]at U
     have hp:=jQ X (at_ l i::Y)
     have I:(X++at_ l i::Y).Perm (at_ l i::Y++X):=rO
     rw[<-el,mM,O]at hp I
     have hP:PO (at_ l i::b::(c++ [a])):=PO.at (by rw[<-el];exact h) O
     have h8:=U.of_perm I hp.symm
     have h6:PO (X++Y):=PO.rot (by rw[O];exact(hP.cut J h8).1)
     simp only
     rw[ee]
     obtain⟨T,e1,hT⟩:=zIr n (X++Y) (by rw[<-ee,zZZ hi];omega) h6
     refine⟨(a,at_ l i,b)::T,by rw[e1,et];rfl,?_⟩
     have d1:Done (b::(c++ [a])) T:=by rw[<-O];exact hT.perm rO (jQ Y X)
     have hq:flN l=0:=by
      unfold flN
      rw[eS]
      intro u hu
      simp only[bY]
      rintro⟨p,q,ho,hm,hz⟩
      obtain⟨j,hj,rfl⟩:=zFg hu
      obtain⟨X',Y',b',c',a',hA,hy,hs,_,_⟩:=zEk h3 hj
      have h5:=jQ X' (at_ l j::Y')
      rw[<-hA,mM,hy]at h5
      have ea:p=a':=vR Prod.fst (h.sim.snd ho (h5.mem_iff.1 jN.1) rfl)
      have eb:q=b':=vR Prod.snd (h.sim.fst hm (h5.mem_iff.1 jN.2) rfl)
      have:=zCT.1 hf j (xU.2 hj)
      rw[hs,<-ea,<-eb]at this
      exact this (by rw[bC];exact zA7.2 hz)
     have d2:=zRI hP J h8 (by rw[<-zFI I hp.symm];exact hq) d1
     exact d2.perm I.symm hp
theorem Sim.cut{l:List V2}(h:Sim l):Done (jM l) (zD4 l):=by
 obtain⟨T,e,I⟩:=zIr (jM l).length (jM l) lr h.norm
 unfold zD4
 rw[e]
 exact I
theorem zMS{l:List V2}(h:Sim l)(p:V2):zDP (zD4 l) p 1<=1/\(zDP (zD4 l) p 1=1->zDP (zD4 l) p 0=0)/\(0<=zA5 l p↔0<zDP (zD4 l) p 1+zDP (zD4 l) p 0)/\(zDP (zD4 l) p 1≠0->zA5 l p=1):=by
 have U:=h.cut
 have hP:=h.norm
 by_cases ho:∃e,e∈eds l/\OnE e.1 e.2 p
 .have O:zA5 l p=0:=by unfold zA5;rw[if_pos ((zS5 l p).2 ho)]
  obtain⟨I,J⟩:=U.s1 p ((zOt l p).2 ho)
  rw[O,I]
  exact⟨oA,fun k=>oA,⟨fun _=>oA,fun _=>fH⟩,fun k=>absurd rfl k⟩
 .have off:∀e,e∈eds (jM l)-> ¬OnE e.1 e.2 p:=fun e he hp=>ho ((zOt l p).1 ⟨e,he,hp⟩)
  have O:zA5 l p=if zDI (crK l p) l.length%2=1 then 1 else -1:=by unfold zA5;rw[if_neg (fun k=>ho ((zS5 l p).1 k))]
  have hpar:=zXE l p
  have hn:=zWf l p
  rcases hP.w01 off with k|k
  .have: ¬zDI (crK l p) l.length%2=1:=oA
   rw[O,if_neg this]
   obtain⟨I,J⟩:=U.s3 p off k
   rw[I,J]
   exact⟨oA,fun k=>oA,⟨fun k=>oA,fun k=>oA⟩,fun k=>absurd rfl k⟩
  .have:zDI (crK l p) l.length%2=1:=oA
   rw[O,if_pos this]
   rcases U.s2 p off k with⟨I,J⟩|⟨I,J⟩
   .rw[I,J]
    exact⟨oA,fun _=>rfl,⟨fun _=>oA,fun _=>fH⟩,fun _=>rfl⟩
   .rw[I]
    exact⟨oA,fun k=>oA,⟨fun _=>oA,fun _=>fH⟩,fun k=>absurd rfl k⟩
section
variable {S:Nat->Prop}{F:Fence}{m:Nat}{P:Program}{Q:Exit->Act->WB->Prop}{w0:WB}{B:List Bx}{n:Nat}{ds:List Deferred}{a:Act}{w:WB}
theorem vK{K0:List (Nat×KF)}{B0:List Bx}(_:StS S w0 K0 B0 n ds a w){x:Code}{R:Act->WB->Prop}(K:List (Nat×KF))(B:List Bx)(h1:x.wpIn F m P (Exit.then (fun a w=>StS S w0 K B n ds a w) Q) a w)(h2:∀a w,StS S w0 K B n ds a w->R a w):x.wpIn F m P (Exit.then R Q) a w:=
 cW (fun e a w h=>by cases e<;>first|exact h2 a w h|exact h) h1
end
def whW(ps:List V2)(p:V2):Int:=if((List.range ps.length).any fun i=>onB (at_ ps i) (at_ ps ((i+1)%ps.length)) p)=true then 0 else if zDI (crK ps p) ps.length%2=1 then 1 else -1
theorem zTd(hi:i<ps.length)(h:onB (at_ ps i) (at_ ps ((i+1)%ps.length)) p=true):whW ps p=0:=by
 unfold whW
 rw[if_pos (bX.2 ⟨i,xU.2 hi,h⟩)]
theorem zRX(h:∀j,j<ps.length->onB (at_ ps j) (at_ ps ((j+1)%ps.length)) p=false):whW ps p=if zDI (crK ps p) ps.length%2=1 then 1 else -1:=by
 unfold whW
 rw[if_neg]
 rw[Bool.not_eq_true,cP]
 intro j I
 rw[h j (xU.1 I)]
 decide
theorem zXD(h:Sim ps)(p:V2):whW ps p=zA5 ps p:=by
 have e:∀i,i<ps.length->onB (at_ ps i) (at_ ps ((i+1)%ps.length)) p=onS (at_ ps i) (at_ ps ((i+1)%ps.length)) p:=fun i hi=>by
  have I:at_ ps i≠at_ ps ((i+1)%ps.length):=h.ne (zS2 hi)
  rw[tP]
  exact⟨fun k=>zGG (zXZ I k),fun k=>zXY (zSu k)⟩
 unfold whW zA5
 congr 2
 rw[tP,bX,bX]
 exact⟨fun⟨i,hi,k⟩=>⟨i,hi,by rw[<-e i (xU.1 hi)];exact k⟩,fun⟨i,hi,k⟩=>⟨i,hi,by rw[e i (xU.1 hi)];exact k⟩⟩
def loV(a b:V2):V2:=if decide (qsg a.2 b.2>0)=true then b else a
def hiV(a b:V2):V2:=if decide (qsg a.2 b.2>0)=true then a else b
theorem zSX(a b p:V2):zUR (loV a b) (hiV a b) p=zEG a b p:=by
 unfold loV hiV
 cases h:decide (qsg a.2 b.2>0)with
 |true=>rw[if_pos rfl,if_pos rfl,zRL h]
 |false=>rw[if_neg dA,if_neg dA,zRM h]
def cN(ts:List V6)(p:V2)(c:Int)(k:Nat):Nat:=zDI (fun j=>zBi (at3 ts j) p==c) k
theorem zYR{c:Int}(h:(zBi (at3 ts k) p==c)=true):cN ts p c (k+1)=cN ts p c k+1:=zPv h
theorem zXy{c:Int}(h:(zBi (at3 ts k) p==c)=false):cN ts p c (k+1)=cN ts p c k:=zPw h
theorem zRO(ts:List V6)(p:V2)(c:Int)(k:Nat):cN ts p c k<=k:=zKy _ _
theorem zPD(h:k<ts.length):at3 ts k=ts[k]:=by unfold at3;rw[rG,nE h];rfl
theorem zPy(ts:List V6)(p:V2)(c:Int):∀k,k<=ts.length->cN ts p c k=(ts.take k).countP fun t=>zBi t p==c
 |0,_=>by rw[mC];rfl
 |k+1,h=>by
  rw[mF oA,List.countP_append,<-zPy ts p c k oA,<-zPD oA]
  cases e:(zBi (at3 ts k) p==c)with
  |true=>rw[zYR e,List.countP_cons_of_pos (by simpa using e)];rfl
  |false=>rw[zXy e,List.countP_cons_of_neg (by simp[e])];rfl
theorem zZj(ts:List V6)(p:V2)(c:Int):cN ts p c ts.length=zDP ts p c:=by
 rw[zPy ts p c _ lr,rT]
 rfl
theorem zMe{q:Rat}(h:0<q):decide (q.num.sign<=0)=false:=by
 have h1:0<=q.num:=rY.2 (rE h)
 have h2:q.num≠0:=fun e=>by have:=tY.1 e;grind
 rw[nT oA]
 rfl
theorem zL4(ts:List V6):∀k,k<=ts.length->arK ts k=((ts.take k).map fun t=>crs t.1 t.2.1 t.2.2).sum
 |0,_=>by rw[mC];rfl
 |k+1,h=>by
  rw[mF oA,rQ,sD,<-zL4 ts k oA,<-zPD oA]
  show arK ts k+trn (at3 ts k)=arK ts k+(trn (at3 ts k)+0)
  rw[Rat.add_zero]
theorem zU8(ts:List V6):arK ts ts.length=(ts.map fun t=>crs t.1 t.2.1 t.2.2).sum:=by
 rw[zL4 ts _ lr,rT]
theorem zI8{y:PX}(h:g16 [y]=false)(cs:List WE)(W:WB)(I:(PX.cu y).p cs W):0+6<=cs.length/\(fPV 1 y.p).p (.agg ((cs.drop 0).take 6).toArray) W:=by
 obtain⟨J,h2⟩:=zDu cs W I
 exact⟨J,zSo ((zUG h).2 y fG) h2⟩
theorem zUU(A:List PX)(y:PX):decide (((pxs A).length:Int)>7)=true∨(decide (((pxs A).length:Int)>7)=false/\g16 A=true)∨(decide (((pxs A).length:Int)>7)=false/\g16 A=false/\g16 [y]=true)∨(decide (((pxs A).length:Int)>7)=false/\g16 A=false/\g16 [y]=false):=by
 cases decide (((pxs A).length:Int)>7)
 .cases g16 A
  .cases g16 [y]
   .exact .inr (.inr (.inr ⟨rfl,rfl,rfl⟩))
   .exact .inr (.inr (.inl ⟨rfl,rfl,rfl⟩))
  .exact .inr (.inl ⟨rfl,rfl⟩)
 .exact .inl rfl
theorem zNU(O:(SF.row 6 (pvs 1 ps)).p l W)(hn:ps.length<=12):Calls prog 15 #[l] W (Ret W (fQN (prK ps ps.length)).tS):=by
 have I:=zI9 dA O
 refine zZ [(UF.eq l).tS] func15 rfl kA ⟨rfl,trivial⟩ fun a s=>?_
 replace s:=s.renew [(0,.u (UF.eq l))] (fU (.inr ⟨_,rfl,.head _⟩) fnz)
 refine lP<|rgK 0 [] s
  zB fun a w1 s=>zX (CU.len 3) (cs:=zR3) kA rfl s kA (fun W=>rfl) rfl fun b2 a w s=>zD rfl<|lP<|rgK 1 ((5,.u (fQN (prK ps 0)))::[]) s
  (oc (zG zC zGM (fun u0 W hb (h0:u0=.int .i64 0)=>zDK 0 h0 dA))<|zB) fun a w2 s=>zX (CU.len 3) (cs:=zR3) kA rfl s kA (fun W=>rfl) rfl fun b3 a w s=>zM (fQN (prK ps 0)) rfl s zW fun a w s=>zD rfl<|lP<|rgQ ((4,.u (uI 0))::[]) s
  (oc zF<|zB) fun a w3 s=>tT<|zB4 3 (fun k=>CU.agg (fQN (prK ps k))) (fun k=>k<=ps.length) (fun k=> [(0,.u (UF.eq l)),(4,.u (uI ((k:Nat):Int)))]) (fun k=>ps.length-k) (0:Nat) (vS _) (s.keepK _ (fU mz2<|fU (.head _) fnz)) rfl fun k a w hx s=>?_
 have J:(pvs 1 ps).length=ps.length:=fG
 refine lP<|rgQ ((6,.Z (uI (k:Int)))::(7,.Z (UF.eq l))::(8,.Z (uI ((pvs 1 ps).length:Int)))::(9,.u (uB (ltz k ((pvs 1 ps).length))))::[]) s
  (oc zA<|oc zA<|oc (yK (z:=6) (Cs:=pvs 1 ps) kA (yM O s) (fun _=>rfl))<|oc (zI .i64 (k:Int) ((pvs 1 ps).length:Int) (ltz k ((pvs 1 ps).length)) iiz iiz rfl rfl)<|zB) fun a w4 s=>StS.cond s (ltz k ((pvs 1 ps).length)) iiz (fun e=>?_) (fun e=>?_)
 .have hk:k<ps.length:=by have:=xX e;rw[J]at this;omega
  have hj:(k+1)%ps.length<ps.length:=vY _ oA
  have U:QB (prK ps k) 200:=(zJc I k oA).mono oA
  have h8:QB (crd ((at_ ps k),(tn ps k))) 200:=((((I _ (jZ hk)).1.mul (I _ (jZ hj)).2).sub ((I _ (jZ hk)).2.mul (I _ (jZ hj)).1)).mono (m':=5) dA).mono dA
  refine pT<|lP<|tT<|yJ [1,2,5,6,8] 16 ((12,.Z (fQN (prK ps k)))::(13,.Z (UF.eq l))::(14,.Z (uI (k:Int)))::(15,.Y (fPV 1 (at_ ps k)))::(16,.Z (fPV 1 (at_ ps k)))::(17,.Z (UF.eq l))::(18,.Z (uI (k:Int)))::(19,.Z (uI ((k+1:Nat):Int)))::(20,.Z (UF.eq l))::(21,.Z (uI ((pvs 1 ps).length:Int)))::(22,.Z (uI (((k+1)%ps.length:Nat):Int)))::(23,.Y (fPV 1 (tn ps k)))::(24,.Z (fPV 1 (tn ps k)))::(25,.Z (fQN (crd ((at_ ps k),(tn ps k)))))::(26,.s (SF.row 3 (rvs 200 [(prK ps k),(crd ((at_ ps k),(tn ps k)))])))::(27,.u (fQN (prK ps (k+1))))::[]) hmix s kA
   (oc (zT (f:=fQN (prK ps k)) 3 kA (hz:=yW _))<|oc zA<|oc zA<|oc (zO (z:=6) (Cs:=pvs 1 ps) (i:=k) (C:=CU.agg (fPV 1 (at_ ps k))) kA (qJ hk) (yM O s) iiz)<|oc (zK 1 (at_ ps k))<|oc zA<|oc zA<|oc (yB .i64 (k:Int) 1 ((k+1:Nat):Int) iiz iiz (wrap64 _ _ oA oA))<|oc zA<|oc (yK (z:=6) (Cs:=pvs 1 ps) kA (yM O s) (fun _=>rfl))<|oc (zBv .i64 ((k+1:Nat):Int) ((pvs 1 ps).length:Int) (((k+1)%ps.length:Nat):Int) iiz iiz (by rw[J];omega) (by rw[J];exact zBK _ _))<|oc (zO (z:=6) (Cs:=pvs 1 ps) (i:=((k+1)%ps.length)) (C:=CU.agg (fPV 1 (tn ps k))) kA (qJ hj) (yM O s) iiz)<|oc (zK 1 (tn ps k))<|oc (zH zC zMF (fun u0 u1 W hb (h0:(fPV 1 (at_ ps k)).p u0 W) (h1:(fPV 1 (tn ps k)).p u1 W)=>zC3 (m:=1) (p:=(at_ ps k)) (q:=(tn ps k)) h0 h1 (I _ (jZ hk)) (I _ (jZ hj)) dA dA))<|oc (z9 (fun u v W (hu:QNp (prK ps k) u W) (hv:QNp (crd ((at_ ps k),(tn ps k))) v W)=>zB5 (m:=200) (wH hu U) (wH hv h8)))<|oc (zG zC zKs (fun u0 W hb (h0:(SF.row 3 (rvs 200 [(prK ps k),(crd ((at_ ps k),(tn ps k)))])).p u0 W)=>zCH (m:=200) (p:=prK ps k) (q:=(crd ((at_ ps k),(tn ps k)))) h0 U h8 dA))<|zB) fun Q' hQ a w5 s=>zAr (CU.agg (fQN (prK ps (k+1)))) ((fQN (prK ps (k+1))).tS) rfl s kA rfl rfl rfl (yW _) iiz zW fun a w s=>zD rfl (hQ _ _ ?_)
  refine zV 2 ((10,.Z (uI (k:Int)))::(11,.u (uI ((k+1:Nat):Int)))::[]) s kA
   (oc zA<|oc (yB .i64 (k:Int) 1 ((k+1:Nat):Int) iiz iiz (wrap64 _ _ oA oA))<|zB) fun a w6 s=>?_
  replace s:=s.drop [4]
  exact yQ (uI ((k+1:Nat):Int)) rfl s kA iiz fun a w s=>zD rfl<|⟨k+1,hk,(by show ps.length-(k+1)<ps.length-k;omega),s.keepK _ (fU mz4<|fU (.head _) fnz)⟩
 .have ha:k=ps.length:=by have h7:=nF e;rw[J]at h7;omega
  subst ha
  exact tU<|lP<|rgK 1 ((28,.u (fQN (prK ps ps.length)))::[]) s
   (oc (zT (f:=fQN (prK ps ps.length)) 3 kA (hz:=yW _))<|zB) fun a w7 s=>zM (fQN (prK ps ps.length)) rfl s zW fun a w s=>zD rfl<|pS<|wK s (CU.agg (fQN (prK ps ps.length))) rfl kA rfl rfl (yW _) (fun cs W h=>h)
theorem zMT(h1:(fPV 1 p).p u W)(hl:(SF.row 6 (pvs 1 ps)).p l W)(hn:ps.length<=1000000):Calls prog 18 #[u,l] W (Ret W (fI (whW ps p)).tS):=by
 refine zZ [(fPV 1 p).tS,(UF.eq l).tS] func18 rfl kA ⟨h1,rfl,trivial⟩ fun a s=>?_
 replace s:=s.renew [(0,.u (fPV 1 p)),(1,.u (UF.eq l))] (fU (.inr ⟨_,rfl,.head _⟩)<|fU (.inr ⟨_,rfl,mz1⟩) fnz)
 refine lP<|rgK 0 [] s
  zB fun a w1 s=>yL (CU.agg (fPV 1 p)) rfl s kA (fun v W h=>yV h) fun b2 a w s=>yQ (uI 0) rfl s kA iiz fun a w s=>zD rfl<|rgQ ((5,.u (uI 0))::[]) s
  (oc zF<|zB) fun a w2 s=>lP<|rgQ ((6,.u (uI 0))::[]) s
  (oc zF<|zB) fun a w3 s=>tT<|zAs (fun k=>k<=ps.length/\∀j,j<k->onB (at_ ps j) (tn ps j) p=false) (fun k=> [(1,.u (UF.eq l)),(6,.u (uI ((k:Nat):Int))),(5,.u (uI ((zDI (crK ps p) k:Nat):Int)))]) (fun k=>ps.length-k) (0:Nat) (⟨vS _,fun j hj=>absurd hj (rS _)⟩) (s.keepK _ (fU mz4<|fU (.head _)<|fU mz1 fnz)) fun k a w hx s=>?_
 have O:(pvs 1 ps).length=ps.length:=fG
 have hcl:=zKy (crK ps p) k
 refine lP<|rgQ ((9,.Z (uI (k:Int)))::(10,.Z (UF.eq l))::(11,.Z (uI ((pvs 1 ps).length:Int)))::(12,.u (uB (ltz k ((pvs 1 ps).length))))::[]) s
  (oc zA<|oc zA<|oc (yK (z:=6) (Cs:=pvs 1 ps) kA (yM hl s) (fun _=>rfl))<|oc (zI .i64 (k:Int) ((pvs 1 ps).length:Int) (ltz k ((pvs 1 ps).length)) iiz iiz rfl rfl)<|zB) fun a w4 s=>StS.cond s (ltz k ((pvs 1 ps).length)) iiz (fun e=>?_) (fun e=>?_)
 .have hk:k<ps.length:=by have h7:=xX e;rw[O]at h7;omega
  have hj:(k+1)%ps.length<ps.length:=vY _ oA
  refine pT<|lP<|tT<|lP<|zHG (GW W) hmix s fun w5 _ s=>?_
  have I:=s.below;have so:=s.old;have sg:=s.gr
  refine zHH [4,5,6,7,8,9,10,11] (List.range 14) [⟨12,7,30, [.bool false, sN, sN,.bool false, sN, sN],wJ w5 30 (CU.len 6)⟩,⟨13,8,30, [.bool false, sN, sN,.bool false, sN, sN],wJ w5 30 (CU.len 6)⟩] ((15,.Z (UF.eq l))::(16,.Z (uI (k:Int)))::(17,.Y (fPV 1 (at_ ps k)))::(18,.u (fPV 1 (at_ ps k)))::(19,.Z (UF.eq l))::(20,.Z (uI (k:Int)))::(21,.Z (uI ((k+1:Nat):Int)))::(22,.Z (UF.eq l))::(23,.Z (uI ((pvs 1 ps).length:Int)))::(24,.Z (uI (((k+1)%ps.length:Nat):Int)))::(25,.Z (fOp W (CU.agg (fPV 1 (tn ps k)))))::(26,.u (fPV 1 (tn ps k)))::(7,.s (wJ w5 30 (CU.len 6)))::(8,.s (wJ w5 30 (CU.len 6)))::[]) (zMB I) s kA
   (oc zA<|oc zA<|oc (zO (z:=6) (Cs:=pvs 1 ps) (i:=k) (C:=CU.agg (fPV 1 (at_ ps k))) kA (qJ hk) (yM hl s) iiz)<|oc (zK 1 (at_ ps k))<|oc zA<|oc zA<|oc (yB .i64 (k:Int) 1 ((k+1:Nat):Int) iiz iiz (wrap64 _ _ oA oA))<|oc zA<|oc (yK (z:=6) (Cs:=pvs 1 ps) kA (yM hl s) (fun _=>rfl))<|oc (zBv .i64 ((k+1:Nat):Int) ((pvs 1 ps).length:Int) (((k+1)%ps.length:Nat):Int) iiz iiz (by rw[O];omega) (by rw[O];exact zBK _ _))<|oc (zGe (z:=6) (Cs:=pvs 1 ps) (i:=((k+1)%ps.length)) (C:=CU.agg (fPV 1 (tn ps k))) kA (qJ hj) hl iiz iiz)<|oc (zHQ I (fPV 1 (tn ps k)) 6 kA iiz zDu)<|oc (zBY (cs:=zP6) kA (zAK (fun _=>rfl) rfl))<|oc (zBY (cs:=zP6) kA (zAK (fun _=>rfl) rfl))<|zB)
   (fU ⟨xU.2 (by show 12<14;decide),zRg,⟨_,_,_,rfl⟩,fJ,zAK (fun _=>rfl) rfl⟩<|fU ⟨xU.2 (by show 13<14;decide),zSy,⟨_,_,_,rfl⟩,fJ,zAK (fun _=>rfl) rfl⟩ fnz)
   (jA rfl (zEb.c zDg I) (jA rfl (zEb.c zDg I) (jA rfl (zEb.c (zO2 (x:=.tmp 20) (y:=.const (.int .i64 1)) .i64 (k:Int) 1 iiz iiz) I) (jA rfl (zEb.c zDg I) (jA rfl (zEb.c (zSJ (x:=.tmp 22) (z:=6) (Cs:=pvs 1 ps) kA (fun v W hb h=>by rw[show _=l from h];exact(SF.row 6 (pvs 1 ps)).st _ _ _ hl hb)) I) (jA rfl (zEb.c (zO1 (x:=.tmp 21) (y:=.tmp 23) .i64 ((k+1:Nat):Int) ((pvs 1 ps).length:Int) iiz iiz oA) I) (jA rfl (zEb.c (zJy (x:=.tmp 19) (y:=.tmp 24) (z:=6) (Cs:=pvs 1 ps) (i:=((k+1)%ps.length)) (C:=CU.agg (fPV 1 (tn ps k))) kA (qJ hj) hl iiz iiz) I) (jA rfl (zEb.c (zLO (x:=.tmp 25) (fPV 1 (tn ps k)) 6 kA iiz zDu) I) zGr)))))))) fun a w6 hm s hr hd=>?_
  replace I:=I.trans (hm.mono I.size)
  obtain⟨b7,hB7,e7,s⟩:=s.adoptA false 7 (hr (_,_) zRg) sg (fun y hy=>.inl (so y hy))
  obtain⟨b8,hB8,e8,s⟩:=s.adoptA false 8 (hr (_,_) zSy) sg (fun y hy=>by rcases xS.1 hy with rfl|hy;exact .inr (.inr fun b hb=>hd _ _ (.head _) mz1 (by show 12≠13;decide) _ _ e7 hb);exact .inl (so y hy))
  refine zDt (i:=14) (c:=7) (CU.agg (fPV 1 (at_ ps k))) ((fPV 1 (at_ ps k)).tS) s rfl kA kA rfl rfl rfl iiz iiz yY (fun vs _=>zLM I (s.own (c:=7) rfl rfl) _) fun w7 hg _ s=>?_
  replace I:=hg _ (xG _ _)
  refine zDt (i:=15) (c:=8) (CU.agg (fPV 1 (tn ps k))) ((fPV 1 (tn ps k)).tS) s rfl kA kA rfl rfl rfl iiz iiz yY (fun vs _=>zLM I (s.own (c:=8) rfl rfl) _) fun w8 hg _ s=>zFu kA<|lP<|rgQ ((27,.Z (fPV 1 (at_ ps k)))::(28,.Z (fPV 1 (tn ps k)))::(29,.Z (fPV 1 p))::(30,.u (uB (onB (at_ ps k) (tn ps k) p)))::[]) s
   (oc (zK 1 (at_ ps k))<|oc (zK 1 (tn ps k))<|oc (zK 1 p)<|oc (jG zC zYz (fun U u1 u2 W hb (J:(fPV 1 (at_ ps k)).p U W) (h1:(fPV 1 (tn ps k)).p u1 W) (h2:(fPV 1 p).p u2 W)=>zVS (m:=1) J h1 h2 dA dA))<|zB) fun a w6 s=>StS.cond s (onB (at_ ps k) (tn ps k) p) iiz (fun e=>?_) (fun e=>?_)
  .refine lP ?_
   exact rgE ((4,.u (uI 0))::[]) s
    (oc zF<|zB) fun a w7 s=>pS<|wF s (t:=4) rfl (fun v W h=>by rw[zTd hk e];exact h)
  .have h9:=e
   refine pT<|lP<|rgQ ((31,.X (fPV 1 (at_ ps k)) 3)::(32,.Z (fRV 1 ((at_ ps k).2)))::(33,.X (fPV 1 (tn ps k)) 3)::(34,.Z (fRV 1 ((tn ps k).2)))::(35,.Z (uI (qsg (at_ ps k).2 (tn ps k).2)))::(36,.u (uB (decide (qsg (at_ ps k).2 (tn ps k).2>0))))::[]) s
    (oc (zL (C:=cg (fPV 1 (at_ ps k))) 3 kA)<|oc (zQ (C:=cg (fPV 1 (at_ ps k))) (k:=3) 3 kA (h:=zDL))<|oc (zL (C:=cg (fPV 1 (tn ps k))) 3 kA)<|oc (zQ (C:=cg (fPV 1 (tn ps k))) (k:=3) 3 kA (h:=zDL))<|oc (zH zC zJC (fun U u1 W hb (J:RVp 1 ((at_ ps k).2) U W) (h1:RVp 1 ((tn ps k).2) u1 W)=>zC4 (m:=1) J h1 dA dA))<|oc (zI .i64 (qsg (at_ ps k).2 (tn ps k).2) 0 (decide (qsg (at_ ps k).2 (tn ps k).2>0)) iiz iiz rfl rfl)<|zB) fun a w8 s=>vK s [(36,.u (uB (decide (qsg (at_ ps k).2 (tn ps k).2>0)))),(30,.u (uB (onB (at_ ps k) (tn ps k) p))),(18,.u (fPV 1 (at_ ps k))),(26,.u (fPV 1 (tn ps k))),(12,.u (uB (ltz k ((pvs 1 ps).length)))),(1,.u (UF.eq l)),(6,.u (uI (k:Int))),(5,.u (uI ((zDI (crK ps p) k:Nat):Int)))] [⟨8,30,CU.agg (fPV 1 (hiV (at_ ps k) (tn ps k))),b8,false⟩,⟨7,30,CU.agg (fPV 1 (loV (at_ ps k) (tn ps k))),b7,false⟩,⟨2,30,CU.agg (fPV 1 p),b2,false⟩] ?_ fun a w s=>?_
   .refine StS.cond s (decide (qsg (at_ ps k).2 (tn ps k).2>0)) iiz (fun e=>?_) (fun e=>?_)
    .refine rgK 2 ((37,.u (fPV 1 (tn ps k)))::(38,.u (fPV 1 (at_ ps k)))::[]) s
      (oc (zK 1 (tn ps k))<|oc (zK 1 (at_ ps k))<|zB) fun a w9 s=>?_
     refine zAr (CU.agg (fPV 1 (tn ps k))) ((fPV 1 (tn ps k)).tS) rfl s kA rfl rfl rfl (y9 _ _) iiz yY fun a w s=>zAr (CU.agg (fPV 1 (at_ ps k))) ((fPV 1 (at_ ps k)).tS) rfl s kA rfl rfl rfl (y9 _ _) iiz yY fun a w s=>?_
     replace s:=(s.weakB 7 (CU.agg (fPV 1 (loV (at_ ps k) (tn ps k)))) rfl (jJ kA) (fun cs W h=>by rw[show(loV (at_ ps k) (tn ps k))=(tn ps k) by unfold loV;rw[e];rfl];exact h)).weakB 8 (CU.agg (fPV 1 (hiV (at_ ps k) (tn ps k)))) rfl (jJ kA) (fun cs W h=>by rw[show(hiV (at_ ps k) (tn ps k))=(at_ ps k) by unfold hiV;rw[e];rfl];exact h)
     exact zD rfl<|s.keepK _ (fU mz2<|fU mz3<|fU mz4<|fU mz5<|fU mz6<|fU mz7<|fU mz8<|fU mz9 fnz)
    .replace s:=(s.weakB 7 (CU.agg (fPV 1 (loV (at_ ps k) (tn ps k)))) rfl (jJ kA) (fun cs W h=>by rw[show(loV (at_ ps k) (tn ps k))=(at_ ps k) by unfold loV;rw[e];rfl];exact h)).weakB 8 (CU.agg (fPV 1 (hiV (at_ ps k) (tn ps k)))) rfl (jJ kA) (fun cs W h=>by rw[show(hiV (at_ ps k) (tn ps k))=(tn ps k) by unfold hiV;rw[e];rfl];exact h)
     exact pT<|s.keepK _ (fU (.head _)<|fU mz1<|fU mz2<|fU mz3<|fU mz4<|fU mz5<|fU mz6<|fU mz7 fnz)
   .refine lP ?_
    refine rgE ((39,.X (fPV 1 (loV (at_ ps k) (tn ps k))) 3)::(40,.Z (fRV 1 ((loV (at_ ps k) (tn ps k)).2)))::(41,.X (fPV 1 p) 3)::(42,.Z (fRV 1 ((p).2)))::(43,.Z (uI (qsg (loV (at_ ps k) (tn ps k)).2 (p).2)))::(44,.Z (uB (decide (qsg (loV (at_ ps k) (tn ps k)).2 (p).2<=0))))::(45,.Z (uB (decide (qsg (loV (at_ ps k) (tn ps k)).2 (p).2<=0))))::(46,.s (SF.imp ((decide (qsg (loV (at_ ps k) (tn ps k)).2 (p).2<=0))=true) (wC ((CU.agg (fPV 1 p)).cf.at 3))))::(47,.s (SF.imp ((decide (qsg (loV (at_ ps k) (tn ps k)).2 (p).2<=0))=true) ((fRV 1 ((p).2)).tS)))::(48,.s (SF.imp ((decide (qsg (loV (at_ ps k) (tn ps k)).2 (p).2<=0))=true) (wC ((CU.agg (fPV 1 (hiV (at_ ps k) (tn ps k)))).cf.at 3))))::(49,.s (SF.imp ((decide (qsg (loV (at_ ps k) (tn ps k)).2 (p).2<=0))=true) ((fRV 1 ((hiV (at_ ps k) (tn ps k)).2)).tS)))::(50,.s (SF.imp ((decide (qsg (loV (at_ ps k) (tn ps k)).2 (p).2<=0))=true) ((uI (qsg (p).2 (hiV (at_ ps k) (tn ps k)).2)).tS)))::(51,.s (SF.imp ((decide (qsg (loV (at_ ps k) (tn ps k)).2 (p).2<=0))=true) ((uB (decide (qsg (p).2 (hiV (at_ ps k) (tn ps k)).2<0))).tS)))::(52,.Z (uB ((decide (qsg (loV (at_ ps k) (tn ps k)).2 (p).2<=0))&&(decide (qsg (p).2 (hiV (at_ ps k) (tn ps k)).2<0)))))::(53,.Z (uB ((decide (qsg (loV (at_ ps k) (tn ps k)).2 (p).2<=0))&&(decide (qsg (p).2 (hiV (at_ ps k) (tn ps k)).2<0)))))::(54,.s (SF.imp (((decide (qsg (loV (at_ ps k) (tn ps k)).2 (p).2<=0))&&(decide (qsg (p).2 (hiV (at_ ps k) (tn ps k)).2<0)))=true) ((fPV 1 (loV (at_ ps k) (tn ps k))).tS)))::(55,.s (SF.imp (((decide (qsg (loV (at_ ps k) (tn ps k)).2 (p).2<=0))&&(decide (qsg (p).2 (hiV (at_ ps k) (tn ps k)).2<0)))=true) ((fPV 1 (hiV (at_ ps k) (tn ps k))).tS)))::(56,.s (SF.imp (((decide (qsg (loV (at_ ps k) (tn ps k)).2 (p).2<=0))&&(decide (qsg (p).2 (hiV (at_ ps k) (tn ps k)).2<0)))=true) ((fPV 1 p).tS)))::(57,.s (SF.imp (((decide (qsg (loV (at_ ps k) (tn ps k)).2 (p).2<=0))&&(decide (qsg (p).2 (hiV (at_ ps k) (tn ps k)).2<0)))=true) ((uI (yP (loV (at_ ps k) (tn ps k)) (hiV (at_ ps k) (tn ps k)) p)).tS)))::(58,.s (SF.imp (((decide (qsg (loV (at_ ps k) (tn ps k)).2 (p).2<=0))&&(decide (qsg (p).2 (hiV (at_ ps k) (tn ps k)).2<0)))=true) ((uB (yP (loV (at_ ps k) (tn ps k)) (hiV (at_ ps k) (tn ps k)) p==1)).tS)))::(59,.u (uB (((decide (qsg (loV (at_ ps k) (tn ps k)).2 (p).2<=0))&&(decide (qsg (p).2 (hiV (at_ ps k) (tn ps k)).2<0)))&&(yP (loV (at_ ps k) (tn ps k)) (hiV (at_ ps k) (tn ps k)) p==1))))::[]) s
     (oc (zL (C:=cg (fPV 1 (loV (at_ ps k) (tn ps k)))) 3 kA)<|oc (zQ (C:=cg (fPV 1 (loV (at_ ps k) (tn ps k)))) (k:=3) 3 kA (h:=zDL))<|oc (zL (C:=cg (fPV 1 p)) 3 kA)<|oc (zQ (C:=cg (fPV 1 p)) (k:=3) 3 kA (h:=zDL))<|oc (zH zC zJC (fun U u1 W hb (J:RVp 1 ((loV (at_ ps k) (tn ps k)).2) U W) (h1:RVp 1 ((p).2) u1 W)=>zC4 (m:=1) J h1 dA dA))<|oc (zI .i64 (qsg (loV (at_ ps k) (tn ps k)).2 (p).2) 0 (decide (qsg (loV (at_ ps k) (tn ps k)).2 (p).2<=0)) iiz iiz rfl rfl)<|oc zA<|oc (zE 45 (decide (qsg (loV (at_ ps k) (tn ps k)).2 (p).2<=0)) kA iiz (fun e=>z5 [] (wC ((CU.agg (fPV 1 p)).cf.at 3)) fnz fO kA (zL (C:=cg (fPV 1 p)) 3 kA)) fN)<|oc (zE 45 (decide (qsg (loV (at_ ps k) (tn ps k)).2 (p).2<=0)) kA iiz (fun e=>z5 [(46,wC ((CU.agg (fPV 1 p)).cf.at 3))] ((fRV 1 ((p).2)).tS) (fU (fun v W h=>zN (c:=(decide (qsg (loV (at_ ps k) (tn ps k)).2 (p).2<=0))=true) (f:=wC ((CU.agg (fPV 1 p)).cf.at 3)) e h) fnz) fO kA (zQ (C:=cg (fPV 1 p)) (k:=3) 3 kA (h:=zDL))) fN)<|oc (zE 45 (decide (qsg (loV (at_ ps k) (tn ps k)).2 (p).2<=0)) kA iiz (fun e=>z5 [] (wC ((CU.agg (fPV 1 (hiV (at_ ps k) (tn ps k)))).cf.at 3)) fnz fO kA (zL (C:=cg (fPV 1 (hiV (at_ ps k) (tn ps k)))) 3 kA)) fN)<|oc (zE 45 (decide (qsg (loV (at_ ps k) (tn ps k)).2 (p).2<=0)) kA iiz (fun e=>z5 [(48,wC ((CU.agg (fPV 1 (hiV (at_ ps k) (tn ps k)))).cf.at 3))] ((fRV 1 ((hiV (at_ ps k) (tn ps k)).2)).tS) (fU (fun v W h=>zN (c:=(decide (qsg (loV (at_ ps k) (tn ps k)).2 (p).2<=0))=true) (f:=wC ((CU.agg (fPV 1 (hiV (at_ ps k) (tn ps k)))).cf.at 3)) e h) fnz) fO kA (zQ (C:=cg (fPV 1 (hiV (at_ ps k) (tn ps k)))) (k:=3) 3 kA (h:=zDL))) fN)<|oc (zE 45 (decide (qsg (loV (at_ ps k) (tn ps k)).2 (p).2<=0)) kA iiz (fun e=>z5 [(47,(fRV 1 ((p).2)).tS),(49,(fRV 1 ((hiV (at_ ps k) (tn ps k)).2)).tS)] ((uI (qsg (p).2 (hiV (at_ ps k) (tn ps k)).2)).tS) (fU (fun v W h=>zN (c:=(decide (qsg (loV (at_ ps k) (tn ps k)).2 (p).2<=0))=true) (f:=(fRV 1 ((p).2)).tS) e h)<|fU (fun v W h=>zN (c:=(decide (qsg (loV (at_ ps k) (tn ps k)).2 (p).2<=0))=true) (f:=(fRV 1 ((hiV (at_ ps k) (tn ps k)).2)).tS) e h) fnz) fO kA (zH zC zJC (fun U u1 W hb (J:RVp 1 ((p).2) U W) (h1:RVp 1 ((hiV (at_ ps k) (tn ps k)).2) u1 W)=>zC4 (m:=1) J h1 dA dA))) fN)<|oc (zE 45 (decide (qsg (loV (at_ ps k) (tn ps k)).2 (p).2<=0)) kA iiz (fun e=>z5 [(50,(uI (qsg (p).2 (hiV (at_ ps k) (tn ps k)).2)).tS)] ((uB (decide (qsg (p).2 (hiV (at_ ps k) (tn ps k)).2<0))).tS) (fU (fun v W h=>zN (c:=(decide (qsg (loV (at_ ps k) (tn ps k)).2 (p).2<=0))=true) (f:=(uI (qsg (p).2 (hiV (at_ ps k) (tn ps k)).2)).tS) e h) fnz) fO kA (zI .i64 (qsg (p).2 (hiV (at_ ps k) (tn ps k)).2) 0 (decide (qsg (p).2 (hiV (at_ ps k) (tn ps k)).2<0)) iiz iiz rfl rfl)) fN)<|oc (yC (decide (qsg (loV (at_ ps k) (tn ps k)).2 (p).2<=0)) iiz (fun e v W h=>zA0 (zN e h) e) (fun e v W h=>zAe h e))<|oc zA<|oc (zE 53 ((decide (qsg (loV (at_ ps k) (tn ps k)).2 (p).2<=0))&&(decide (qsg (p).2 (hiV (at_ ps k) (tn ps k)).2<0))) kA iiz (fun e=>z5 [] ((fPV 1 (loV (at_ ps k) (tn ps k))).tS) fnz fO kA (zK 1 (loV (at_ ps k) (tn ps k)))) fN)<|oc (zE 53 ((decide (qsg (loV (at_ ps k) (tn ps k)).2 (p).2<=0))&&(decide (qsg (p).2 (hiV (at_ ps k) (tn ps k)).2<0))) kA iiz (fun e=>z5 [] ((fPV 1 (hiV (at_ ps k) (tn ps k))).tS) fnz fO kA (zK 1 (hiV (at_ ps k) (tn ps k)))) fN)<|oc (zE 53 ((decide (qsg (loV (at_ ps k) (tn ps k)).2 (p).2<=0))&&(decide (qsg (p).2 (hiV (at_ ps k) (tn ps k)).2<0))) kA iiz (fun e=>z5 [] ((fPV 1 p).tS) fnz fO kA (zK 1 p)) fN)<|oc (zE 53 ((decide (qsg (loV (at_ ps k) (tn ps k)).2 (p).2<=0))&&(decide (qsg (p).2 (hiV (at_ ps k) (tn ps k)).2<0))) kA iiz (fun e=>z5 [(54,(fPV 1 (loV (at_ ps k) (tn ps k))).tS),(55,(fPV 1 (hiV (at_ ps k) (tn ps k))).tS),(56,(fPV 1 p).tS)] ((uI (yP (loV (at_ ps k) (tn ps k)) (hiV (at_ ps k) (tn ps k)) p)).tS) (fU (fun v W h=>zN (c:=((decide (qsg (loV (at_ ps k) (tn ps k)).2 (p).2<=0))&&(decide (qsg (p).2 (hiV (at_ ps k) (tn ps k)).2<0)))=true) (f:=(fPV 1 (loV (at_ ps k) (tn ps k))).tS) e h)<|fU (fun v W h=>zN (c:=((decide (qsg (loV (at_ ps k) (tn ps k)).2 (p).2<=0))&&(decide (qsg (p).2 (hiV (at_ ps k) (tn ps k)).2<0)))=true) (f:=(fPV 1 (hiV (at_ ps k) (tn ps k))).tS) e h)<|fU (fun v W h=>zN (c:=((decide (qsg (loV (at_ ps k) (tn ps k)).2 (p).2<=0))&&(decide (qsg (p).2 (hiV (at_ ps k) (tn ps k)).2<0)))=true) (f:=(fPV 1 p).tS) e h) fnz) fO kA (jG zC zUO (fun U u1 u2 W hb (J:(fPV 1 (loV (at_ ps k) (tn ps k))).p U W) (h1:(fPV 1 (hiV (at_ ps k) (tn ps k))).p u1 W) (h2:(fPV 1 p).p u2 W)=>zHK (m:=1) J h1 h2 dA dA))) fN)<|oc (zE 53 ((decide (qsg (loV (at_ ps k) (tn ps k)).2 (p).2<=0))&&(decide (qsg (p).2 (hiV (at_ ps k) (tn ps k)).2<0))) kA iiz (fun e=>z5 [(57,(uI (yP (loV (at_ ps k) (tn ps k)) (hiV (at_ ps k) (tn ps k)) p)).tS)] ((uB (yP (loV (at_ ps k) (tn ps k)) (hiV (at_ ps k) (tn ps k)) p==1)).tS) (fU (fun v W h=>zN (c:=((decide (qsg (loV (at_ ps k) (tn ps k)).2 (p).2<=0))&&(decide (qsg (p).2 (hiV (at_ ps k) (tn ps k)).2<0)))=true) (f:=(uI (yP (loV (at_ ps k) (tn ps k)) (hiV (at_ ps k) (tn ps k)) p)).tS) e h) fnz) fO kA (zI .i64 (yP (loV (at_ ps k) (tn ps k)) (hiV (at_ ps k) (tn ps k)) p) 1 (yP (loV (at_ ps k) (tn ps k)) (hiV (at_ ps k) (tn ps k)) p==1) iiz iiz rfl rfl)) fN)<|oc (yC ((decide (qsg (loV (at_ ps k) (tn ps k)).2 (p).2<=0))&&(decide (qsg (p).2 (hiV (at_ ps k) (tn ps k)).2<0))) iiz (fun e v W h=>zA0 (zN e h) e) (fun e v W h=>zAe h e))<|zB) fun a w10 s=>StS.cond s (((decide (qsg (loV (at_ ps k) (tn ps k)).2 (p).2<=0))&&(decide (qsg (p).2 (hiV (at_ ps k) (tn ps k)).2<0)))&&(yP (loV (at_ ps k) (tn ps k)) (hiV (at_ ps k) (tn ps k)) p==1)) iiz (fun e=>?_) (fun e=>?_)
    .have e9:crK ps p k=true:=by unfold crK;rw[<-zSX];exact e
     refine zV 2 ((60,.Z (uI ((zDI (crK ps p) k:Nat):Int)))::(61,.u (uI ((zDI (crK ps p) (k+1):Nat):Int)))::[]) s kA
      (oc zA<|oc (yB .i64 ((zDI (crK ps p) k:Nat):Int) 1 ((zDI (crK ps p) (k+1):Nat):Int) iiz iiz (by rw[sT,zPv e9];omega))<|zB) fun a w11 s=>?_
     replace s:=s.drop [5]
     refine yQ (uI ((zDI (crK ps p) (k+1):Nat):Int)) rfl s kA iiz fun a w s=>zD rfl<|zV 2 ((13,.Z (uI (k:Int)))::(14,.u (uI ((k+1:Nat):Int)))::[]) s kA
      (oc zA<|oc (yB .i64 (k:Int) 1 ((k+1:Nat):Int) iiz iiz (wrap64 _ _ oA oA))<|zB) fun a w12 s=>?_
     replace s:=s.drop [6]
     refine yQ (uI ((k+1:Nat):Int)) rfl s kA iiz fun a w s=>zD rfl ?_
     replace s:=s.popB
     replace s:=s.popB
     exact⟨k+1,⟨hk,fun j hj=>by rcases tX (zGJ hj)with h|h;exact hx.2 j h;rw[h];exact h9⟩,(by show ps.length-(k+1)<ps.length-k;omega),s.keepK _ (fU zKe<|fU (.head _)<|fU mz2 fnz)⟩
    .have e9:crK ps p k=false:=by unfold crK;rw[<-zSX];exact e
     have e0:zDI (crK ps p) (k)=zDI (crK ps p) (k+1):=(zPw e9).symm
     rw[e0]at s
     refine pT<|zV 2 ((13,.Z (uI (k:Int)))::(14,.u (uI ((k+1:Nat):Int)))::[]) s kA
      (oc zA<|oc (yB .i64 (k:Int) 1 ((k+1:Nat):Int) iiz iiz (wrap64 _ _ oA oA))<|zB) fun a w13 s=>?_
     replace s:=s.drop [6]
     refine yQ (uI ((k+1:Nat):Int)) rfl s kA iiz fun a w s=>zD rfl ?_
     replace s:=s.popB
     replace s:=s.popB
     exact⟨k+1,⟨hk,fun j hj=>by rcases tX (zGJ hj)with h|h;exact hx.2 j h;rw[h];exact h9⟩,(by show ps.length-(k+1)<ps.length-k;omega),s.keepK _ (fU mz8<|fU (.head _)<|fU mz9 fnz)⟩
 .have hp:k=ps.length:=by have h7:=nF e;have h8:=hx.1;rw[O]at h7;omega
  subst hp
  refine tU<|lP<|rgQ ((62,.Z (uI ((zDI (crK ps p) (ps.length):Nat):Int)))::(63,.Z (uI ((zDI (crK ps p) (ps.length)%2:Nat):Int)))::(64,.u (uB (((zDI (crK ps p) (ps.length)%2:Nat):Int)==1)))::[]) s
   (oc zA<|oc (zBv .i64 ((zDI (crK ps p) (ps.length):Nat):Int) 2 (((zDI (crK ps p) (ps.length))%2:Nat):Int) iiz iiz dA (zBK _ 2))<|oc (zI .i64 ((zDI (crK ps p) (ps.length)%2:Nat):Int) 1 (((zDI (crK ps p) (ps.length)%2:Nat):Int)==1) iiz iiz rfl rfl)<|zB) fun a w14 s=>StS.cond s (((zDI (crK ps p) (ps.length)%2:Nat):Int)==1) iiz (fun e=>?_) (fun e=>?_)
  .have e2:=bC.1 e
   exact rgQ ((4,.u (uI 1))::[]) s
    (oc zF<|zB) fun a w15 s=>pS<|wF s (t:=4) rfl (fun v W h=>by rw[zRX hx.2,if_pos oA];exact h)
  .have e2:=nH.1 e
   exact pT<|rgQ ((4,.u (uI (-1)))::[]) s
    (oc zF<|zB) fun a w16 s=>pS<|wF s (t:=4) rfl (fun v W h=>by rw[zRX hx.2,if_neg oA];exact h)
theorem zKt{A:List PX}{y:PX}(U:(SF.row 6 (pxs A)).p l W)(hy:(PX.u y).p u W)(hT:Tab W):Calls prog 3 #[l,u] W (Ret W (fB true).tS):=by
 refine zZ [(UF.eq l).tS,(PX.u y).tS] func3 rfl kA ⟨rfl,hy,trivial⟩ fun a s=>?_
 replace s:=s.renew [(0,.u (UF.eq l)),(1,.u (PX.u y))] (fU (.inr ⟨_,rfl,.head _⟩)<|fU (.inr ⟨_,rfl,mz1⟩) fnz)
 refine lP<|rgK 0 [] s
  zB fun a w1 s=>yL (PX.cu y) rfl s kA (fun v W h=>yV h) fun b3 a w s=>yQ (uB false) rfl s kA iiz fun a w s=>zD rfl<|lP<|lP ?_
 rcases zUU A y with eN|⟨eN,eG⟩|⟨eN,eG,eY⟩|⟨eN,eG,eY⟩
 .refine rgE ((13,.Z (UF.eq l))::(14,.Z (uI ((pxs A).length:Int)))::(15,.Z (uB true))::(16,.Z (uB true))::(19,.Z (uB true))::(20,.Z (uB true))::(24,.Z (uB true))::(25,.Z (uB true))::(29,.u (uB true))::[]) s
   (oc zA<|oc (yK (z:=6) (Cs:=pxs A) kA (yM U s) (fun _=>rfl))<|oc (zI .i64 ((pxs A).length:Int) 7 true iiz iiz eN rfl)<|oc zA<|oc (zE 16 true kA iiz fS (fun _ _=>trivial))<|oc (zE 16 true kA iiz fS (fun _ _=>trivial))<|oc (yC true iiz fD fS)<|oc zA<|oc (zE 20 true kA iiz fS (fun _ _=>trivial))<|oc (zE 20 true kA iiz fS (fun _ _=>trivial))<|oc (zE 20 true kA iiz fS (fun _ _=>trivial))<|oc (yC true iiz fD fS)<|oc zA<|oc (zE 25 true kA iiz fS (fun _ _=>trivial))<|oc (zE 25 true kA iiz fS (fun _ _=>trivial))<|oc (zE 25 true kA iiz fS (fun _ _=>trivial))<|oc (yC true iiz fD fS)<|zB) fun a w2 s=>?_
  refine StS.cond s true iiz (fun e=>?_) fS
  refine lP ?_
  replace s:=s.drop [4]
  exact rgE ((30,.Z (uB true))::(4,.u (uB true))::[]) s
   (oc (zEq zC zWB (fun W hb=>zFN (hT.below (s.up hb))))<|oc zF<|zB) fun a w3 s=>pS<|wF s (t:=4) rfl iiz
 .refine rgE ((13,.Z (UF.eq l))::(14,.Z (uI ((pxs A).length:Int)))::(15,.Z (uB false))::(16,.Z (uB false))::(17,.Z (UF.eq l))::(18,.Z (uB true))::(19,.Z (uB true))::(20,.Z (uB true))::(24,.Z (uB true))::(25,.Z (uB true))::(29,.u (uB true))::[]) s
   (oc zA<|oc (yK (z:=6) (Cs:=pxs A) kA (yM U s) (fun _=>rfl))<|oc (zI .i64 ((pxs A).length:Int) 7 false iiz iiz eN rfl)<|oc zA<|oc (zE 16 false kA iiz (fun _=>zA) arf)<|oc (zE 16 false kA iiz (fun _=>zG zC zWJ (fun J W hb (I:J=l)=>(zEv (L:=A) (zCw U I (s.up hb))).mono (wG (fun v W h=>by rw[eG]at h;exact h)))) arf)<|oc (yC false iiz fS fD)<|oc zA<|oc (zE 20 true kA iiz fS (fun _ _=>trivial))<|oc (zE 20 true kA iiz fS (fun _ _=>trivial))<|oc (zE 20 true kA iiz fS (fun _ _=>trivial))<|oc (yC true iiz fD fS)<|oc zA<|oc (zE 25 true kA iiz fS (fun _ _=>trivial))<|oc (zE 25 true kA iiz fS (fun _ _=>trivial))<|oc (zE 25 true kA iiz fS (fun _ _=>trivial))<|oc (yC true iiz fD fS)<|zB) fun a w4 s=>?_
  refine StS.cond s true iiz (fun e=>?_) fS
  refine lP ?_
  replace s:=s.drop [4]
  exact rgE ((30,.Z (uB true))::(4,.u (uB true))::[]) s
   (oc (zEq zC zWB (fun W hb=>zFN (hT.below (s.up hb))))<|oc zF<|zB) fun a w5 s=>pS<|wF s (t:=4) rfl iiz
 .refine rgE ((13,.Z (UF.eq l))::(14,.Z (uI ((pxs A).length:Int)))::(15,.Z (uB false))::(16,.Z (uB false))::(17,.Z (UF.eq l))::(18,.Z (uB false))::(19,.Z (uB false))::(20,.Z (uB false))::(21,.Z (PX.u y))::(22,.s (SF.row 6 (pxs [y])))::(23,.Z (uB true))::(24,.Z (uB true))::(25,.Z (uB true))::(29,.u (uB true))::[]) s
   (oc zA<|oc (yK (z:=6) (Cs:=pxs A) kA (yM U s) (fun _=>rfl))<|oc (zI .i64 ((pxs A).length:Int) 7 false iiz iiz eN rfl)<|oc zA<|oc (zE 16 false kA iiz (fun _=>zA) arf)<|oc (zE 16 false kA iiz (fun _=>zG zC zWJ (fun J W hb (I:J=l)=>(zEv (L:=A) (zCw U I (s.up hb))).mono (wG (fun v W h=>by rw[eG]at h;exact h)))) arf)<|oc (yC false iiz fS fD)<|oc zA<|oc (zE 20 false kA iiz (fun _=>zT (f:=PX.u y) 6 kA (hz:=y9 _ _)) arf)<|oc (zE 20 false kA iiz (fun _=>jV (fun u W (hu:(PX.u y).p u W)=>zFX hu)) arf)<|oc (zE 20 false kA iiz (fun _=>zG zC zWJ (fun J W hb (I:(SF.row 6 (pxs [y])).p J W)=>(zEv (L:=[y]) I).mono (wG (fun v W h=>by rw[eY]at h;exact h)))) arf)<|oc (yC false iiz fS fD)<|oc zA<|oc (zE 25 true kA iiz fS (fun _ _=>trivial))<|oc (zE 25 true kA iiz fS (fun _ _=>trivial))<|oc (zE 25 true kA iiz fS (fun _ _=>trivial))<|oc (yC true iiz fD fS)<|zB) fun a w6 s=>?_
  refine StS.cond s true iiz (fun e=>?_) fS
  refine lP ?_
  replace s:=s.drop [4]
  exact rgE ((30,.Z (uB true))::(4,.u (uB true))::[]) s
   (oc (zEq zC zWB (fun W hb=>zFN (hT.below (s.up hb))))<|oc zF<|zB) fun a w7 s=>pS<|wF s (t:=4) rfl iiz
 .have hA:=zQT eG l W U
  have h9:=zI9 dA hA
  have hAl:(pps A).length=A.length:=fG
  have hS:=(zUG eG).1
  refine rgE ((13,.Z (UF.eq l))::(14,.Z (uI ((pxs A).length:Int)))::(15,.Z (uB false))::(16,.Z (uB false))::(17,.Z (UF.eq l))::(18,.Z (uB false))::(19,.Z (uB false))::(20,.Z (uB false))::(21,.Z (PX.u y))::(22,.s (SF.row 6 (pxs [y])))::(23,.Z (uB false))::(24,.Z (uB false))::(25,.Z (uB false))::(26,.Z (UF.eq l))::(27,.Z (uB (zDH (pps A))))::(28,.Z (uB (!(zDH (pps A)))))::(29,.u (uB (!(zDH (pps A)))))::[]) s
   (oc zA<|oc (yK (z:=6) (Cs:=pxs A) kA (yM U s) (fun _=>rfl))<|oc (zI .i64 ((pxs A).length:Int) 7 false iiz iiz eN rfl)<|oc zA<|oc (zE 16 false kA iiz (fun _=>zA) arf)<|oc (zE 16 false kA iiz (fun _=>zG zC zWJ (fun J W hb (I:J=l)=>(zEv (L:=A) (zCw U I (s.up hb))).mono (wG (fun v W h=>by rw[eG]at h;exact h)))) arf)<|oc (yC false iiz fS fD)<|oc zA<|oc (zE 20 false kA iiz (fun _=>zT (f:=PX.u y) 6 kA (hz:=y9 _ _)) arf)<|oc (zE 20 false kA iiz (fun _=>jV (fun u W (hu:(PX.u y).p u W)=>zFX hu)) arf)<|oc (zE 20 false kA iiz (fun _=>zG zC zWJ (fun J W hb (I:(SF.row 6 (pxs [y])).p J W)=>(zEv (L:=[y]) I).mono (wG (fun v W h=>by rw[eY]at h;exact h)))) arf)<|oc (yC false iiz fS fD)<|oc zA<|oc (zE 25 false kA iiz (fun _=>zA) arf)<|oc (zE 25 false kA iiz (fun _=>zG zC zZG (fun J W hb (I:J=l)=>zJ4 (ps:=(pps A)) (zQU (m:=1) dA _ _ (zCw hA I (s.up hb))) oA (zQ3 h9))) arf)<|oc (zE 25 false kA iiz (fun _=>zFd (zDH (pps A)) iiz (fun _=>rfl)) arf)<|oc (yC false iiz fS fD)<|zB) fun a w8 s=>StS.cond s (!(zDH (pps A))) iiz (fun e=>?_) (fun e=>?_)
  .refine lP ?_
   replace s:=s.drop [4]
   exact rgE ((30,.Z (uB true))::(4,.u (uB true))::[]) s
    (oc (zEq zC zWB (fun W hb=>zFN (hT.below (s.up hb))))<|oc zF<|zB) fun a w9 s=>pS<|wF s (t:=4) rfl iiz
  .have hW:zDH (pps A)=true:=by simpa using e
   have O:=zQk hW
   have h3:=O.three
   obtain⟨ts,hts⟩:∃ts,ts=zD4 (pps A):=⟨_,rfl⟩
   have hl:=zOZ O
   have hK:=zKx O
   have h6:=zMS O y.p
   have hd:=zPF O
   have hI:=O.cutS.pos
   rw[<-hts]at hl hK h6 hd hI
   rw[<-zZj,<-zZj]at h6
   rw[<-zU8]at hd
   have htl:ts.length<=7:=oA
   have hw:∀i,i<ts.length->∀q,q∈tl (at3 ts i)->QB q.1 1/\QB q.2 1:=fun i hi q hq=>by
    have hc:=hK _ (zPC hi)
    simp only[tl,xS,rL,rK]at hq
    rcases hq with rfl|rfl|rfl
    .exact h9 _ hc.1
    .exact h9 _ hc.2.1
    .exact h9 _ hc.2.2
   have hL:QB (arK ts ts.length) 200:=(zHg hw _ lr).mono oA
   have hG:QB (prK (pps A) (pps A).length) 200:=(zJc h9 _ lr).mono oA
   have hN:QB (if arE (pps A)<0 then -arE (pps A)else arE (pps A)) 200:=by rw[<-hd];exact hL
   have h5:=zSq (pps A)
   have hsum:arK ts ts.length=(if arE (pps A)<0 then -arE (pps A)else arE (pps A)):=hd
   refine pT<|lP<|rgL 2 ((31,.Z (UF.eq l))::(32,.s (SF.row 18 (tns ts)))::[]) s
    (oc zA<|oc (zG zC zYj (fun J W hb (I:J=l)=>(zPh (ps:=(pps A)) (zCw hA I (s.up hb)) oA oA (hT.below (s.up hb))).mono (wG (fun v W h=>by rw[<-hts]at h;exact jK _ _ h))))<|zB) fun a hP s hr=>?_
   obtain⟨v32,e32⟩:∃v,a.tmps.getD 32 undef=v:=⟨_,rfl⟩
   have h4:(SF.row 18 (tns ts)).p v32 hP:=e32▸(hr (_,_) mz1)
   replace s:=s.learn 32 v32 e32
   have hC:=s.below
   replace hT:=hT.below hC
   replace hA:=(SF.row 6 _).st _ _ _ hA hC
   replace s:StS _ _ _ [⟨3,30,PX.cu y,b3,true⟩] _ _ _ _:=s.freeze
   replace s:=s.reb rfl [(32,.u (UF.eq v32)),(29,.u (uB (!(zDH (pps A))))),(4,.u (uB false)),(0,.u (UF.eq l)),(1,.u (PX.u y))] (fU (.inl (.head _))<|fU (.inl mz1)<|fU (.inl mz2)<|fU (.inl mz3)<|fU (.inl mz4) fnz)
   refine yQ (UF.eq v32) rfl s kA iiz fun a w s=>zD rfl<|lP<|rgQ ((33,.Z (UF.eq v32))::(34,.Z (uI ((tns ts).length:Int)))::(35,.Z (uB false))::(36,.Z (uB false))::(37,.Z (UF.eq v32))::(38,.Z (uI ((tns ts).length:Int)))::(39,.Z (UF.eq l))::(40,.Z (uI ((pvs 1 (pps A)).length:Int)))::(41,.Z (uI (((pvs 1 (pps A)).length:Int)-2)))::(42,.Z (uB false))::(43,.u (uB false))::[]) s
    (oc zA<|oc (yK (z:=18) (Cs:=tns ts) kA (yM h4 s) (fun _=>rfl))<|oc (zI .i64 ((tns ts).length:Int) 1 false iiz iiz (xZ (by have h2:=hl.2;simp only[bF];omega)) rfl)<|oc zA<|oc (zE 36 false kA iiz (fun _=>zA) arf)<|oc (zE 36 false kA iiz (fun _=>yK (z:=18) (Cs:=tns ts) kA (yM h4 s) (fun _=>rfl)) arf)<|oc (zE 36 false kA iiz (fun _=>zA) arf)<|oc (zE 36 false kA iiz (fun _=>yK (z:=6) (Cs:=pvs 1 (pps A)) kA (yM hA s) (fun _=>rfl)) arf)<|oc (zE 36 false kA iiz (fun _=>zEW .i64 ((pvs 1 (pps A)).length:Int) 2 (((pvs 1 (pps A)).length:Int)-2) iiz iiz (by have:=hS;simp only[bF];rw[sT];omega)) arf)<|oc (zE 36 false kA iiz (fun _=>zI .i64 ((tns ts).length:Int) (((pvs 1 (pps A)).length:Int)-2) false iiz iiz (xZ (by have h2:=hl.1;simp only[bF]at h2 ⊢;omega)) rfl) arf)<|oc (yC false iiz fS fD)<|zB) fun a w11 s=>StS.cond s false iiz fS (fun e=>?_)
   refine pT<|lP<|rgK 1 ((44,.u (fQN (arK ts 0)))::[]) s
    (oc (zG zC zGM (fun J W hb (I:J=.int .i64 0)=>zDK 0 I dA))<|zB) fun a w12 s=>zX (CU.len 3) (cs:=zR3) kA rfl s kA (fun W=>rfl) rfl fun b6 a w s=>zM (fQN (arK ts 0)) rfl s zW fun a w s=>zD rfl<|rgQ ((7,.u (uI ((cN ts y.p 1 0:Nat):Int)))::(8,.u (uI ((cN ts y.p 0 0:Nat):Int)))::[]) s
    (oc (zF (fun v W _ h=>h))<|oc (zF (fun v W _ h=>h))<|zB) fun a w13 s=>lP<|rgQ ((9,.u (uI 0))::[]) s
    (oc zF<|zB) fun a w14 s=>tT<|zB4 6 (fun i=>CU.agg (fQN (arK ts i))) (fun i=>i<=ts.length) (fun i=> [(0,.u (UF.eq l)),(5,.u (UF.eq v32)),(7,.u (uI ((cN ts y.p 1 i:Nat):Int))),(8,.u (uI ((cN ts y.p 0 i:Nat):Int))),(9,.u (uI ((i:Nat):Int)))]) (fun i=>ts.length-i) (0:Nat) (vS _) (s.keepK _ (fU mz9<|fU mz5<|fU mz1<|fU mz2<|fU (.head _) fnz)) rfl fun i a w hx s=>?_
   have hJ:=zM8 ts
   have hc1:=zRO ts y.p 1 i
   have hc0:=zRO ts y.p 0 i
   refine lP<|rgQ ((45,.Z (uI (i:Int)))::(46,.Z (UF.eq v32))::(47,.Z (uI ((tns ts).length:Int)))::(48,.u (uB (ltz i ((tns ts).length))))::[]) s
    (oc zA<|oc zA<|oc (yK (z:=18) (Cs:=tns ts) kA (yM h4 s) (fun _=>rfl))<|oc (zI .i64 (i:Int) ((tns ts).length:Int) (ltz i ((tns ts).length)) iiz iiz rfl rfl)<|zB) fun a w15 s=>StS.cond s (ltz i ((tns ts).length)) iiz (fun e=>?_) (fun e=>?_)
   .have hi:i<ts.length:=by have:=xX e;rw[hJ]at this;omega
    have hs:=hw i hi
    have hE:QB (arK ts i) 200:=(zHg hw i oA).mono oA
    have hj:QB (trn (at3 ts i)) 200:=(zKP hs).mono dA
    have hM:0<trn (at3 ts i):=hI _ (zPC hi)
    refine pT<|lP<|tT<|lP<|rgK 6 ((51,.Z (UF.eq v32))::(52,.Z (uI (i:Int)))::(53,.Y (fTN (at3 ts i)))::(54,.Z (fTN (at3 ts i)))::(55,.s (SF.row 18 (trs 1 [(at3 ts i)])))::(56,.u (fQN (trn (at3 ts i))))::[]) s
     (oc zA<|oc zA<|oc (zO (z:=18) (Cs:=tns ts) (i:=i) (C:=CU.agg (fTN (at3 ts i))) kA (zFQ hi) (yM h4 s) iiz)<|oc (zT (f:=fTN (at3 ts i)) 18 kA (hz:=zFR _))<|oc (jV (fun u W (hu:(fTN (at3 ts i)).p u W)=>zVC (zMc hs hu)))<|oc (zG zC zYM (fun J W hb (I:(SF.row 18 (trs 1 [(at3 ts i)])).p J W)=>(zNT (ts:=[(at3 ts i)]) I (by show 1<=12;decide)).mono (wG (fun v W h=>zYW h))))<|zB) fun a w16 s=>zX (CU.len 3) (cs:=zR3) kA rfl s kA (fun W=>rfl) rfl fun b10 a w s=>zM (fQN (trn (at3 ts i))) rfl s zW fun a w s=>zD rfl<|lP<|rgQ ((57,.Z (fQN (trn (at3 ts i))))::(58,.Z (uI ((trn (at3 ts i)).num.sign)))::(59,.u (uB false))::[]) s
     (oc (zT (f:=fQN (trn (at3 ts i))) 3 kA (hz:=yW _))<|oc (zG zC zPd (fun J W hb (I:QNp (trn (at3 ts i)) J W)=>zEl (m:=200) (q:=(trn (at3 ts i))) (wH I hj) dA))<|oc (zI .i64 ((trn (at3 ts i)).num.sign) 0 false iiz iiz (zMe hM) rfl)<|zB) fun a w17 s=>StS.cond s false iiz fS (fun e=>?_)
    refine pT<|lP<|rgK 4 ((60,.Z (fQN (arK ts i)))::(61,.Z (fQN (trn (at3 ts i))))::(62,.s (SF.row 3 (rvs 200 [(arK ts i),(trn (at3 ts i))])))::(63,.u (fQN (arK ts (i+1))))::[]) s
     (oc (zT (f:=fQN (arK ts i)) 3 kA (hz:=yW _))<|oc (zT (f:=fQN (trn (at3 ts i))) 3 kA (hz:=yW _))<|oc (z9 (fun u v W (hu:QNp (arK ts i) u W) (hv:QNp (trn (at3 ts i)) v W)=>zB5 (m:=200) (wH hu hE) (wH hv hj)))<|oc (zG zC zKs (fun J W hb (I:(SF.row 3 (rvs 200 [(arK ts i),(trn (at3 ts i))])).p J W)=>zCH (m:=200) (p:=arK ts i) (q:=trn (at3 ts i)) I hE hj dA))<|zB) fun a w18 s=>zAr (CU.agg (fQN (arK ts (i+1)))) ((fQN (arK ts (i+1))).tS) rfl s kA rfl rfl rfl (yW _) iiz zW fun a w s=>zD rfl<|rgQ ((64,.Z (UF.eq v32))::(65,.Z (uI (i:Int)))::(66,.Y (fTN (at3 ts i)))::(67,.Z (fTN (at3 ts i)))::(68,.Z (fPV 1 (y.p)))::(69,.u (uI (zBi (at3 ts i) y.p)))::[]) s
     (oc zA<|oc zA<|oc (zO (z:=18) (Cs:=tns ts) (i:=i) (C:=CU.agg (fTN (at3 ts i))) kA (zFQ hi) (yM h4 s) iiz)<|oc (zT (f:=fTN (at3 ts i)) 18 kA (hz:=zFR _))<|oc (zFA (C:=(PX.cu y).cf) 6 kA (fun _ _ h=>h.2) (zI8 eY))<|oc (zH zC zYL (fun J u1 W hb (I:(fTN (at3 ts i)).p J W) (h1:(fPV 1 (y.p)).p u1 W)=>zQQ (m:=1) (zMc hs I) h1 dA dA))<|zB) fun a w19 s=>tT<|rgQ ((71,.Z (uB ((zBi (at3 ts i) y.p)==1)))::(70,.u (uB ((zBi (at3 ts i) y.p)==1)))::[]) s
     (oc (zI .i64 (zBi (at3 ts i) y.p) 1 ((zBi (at3 ts i) y.p)==1) iiz iiz rfl rfl)<|oc zF<|zB) fun a w20 s=>StS.cond s ((zBi (at3 ts i) y.p)==1) iiz (fun e=>?_) (fun e=>?_)
    .have hm:=e
     have ha:(zBi (at3 ts i) y.p==0)=false:=by have:=bC.1 e;rw[this];rfl
     have hn:((cN ts y.p 0 i:Nat):Int)=((cN ts y.p 0 (i+1):Nat):Int):=by rw[zXy ha]
     rw[hn]at s
     refine zV 2 ((72,.Z (uI ((cN ts y.p 1 i:Nat):Int)))::(73,.u (uI ((cN ts y.p 1 (i+1):Nat):Int)))::[]) s kA
      (oc zA<|oc (yB .i64 ((cN ts y.p 1 i:Nat):Int) 1 ((cN ts y.p 1 (i+1):Nat):Int) iiz iiz (by rw[sT,zYR hm];omega))<|zB) fun a w21 s=>?_
     replace s:=s.drop [7]
     refine yQ (uI ((cN ts y.p 1 (i+1):Nat):Int)) rfl s kA iiz fun a w s=>zD rfl<|zV 2 ((49,.Z (uI (i:Int)))::(50,.u (uI ((i+1:Nat):Int)))::[]) s kA
      (oc zA<|oc (yB .i64 (i:Int) 1 ((i+1:Nat):Int) iiz iiz (wrap64 _ _ oA oA))<|zB) fun a w22 s=>?_
     replace s:=s.drop [9]
     refine yQ (uI ((i+1:Nat):Int)) rfl s kA iiz fun a w s=>zD rfl ?_
     replace s:=s.popB
     exact⟨i+1,hi,(by show ts.length-(i+1)<ts.length-i;omega),s.keepK _ (fU zKe<|fU zSz<|fU mz2<|fU zRg<|fU (.head _) fnz)⟩
    .have hm:=e
     have hU:((cN ts y.p 1 i:Nat):Int)=((cN ts y.p 1 (i+1):Nat):Int):=by rw[zXy hm]
     rw[hU]at s
     refine rgQ ((75,.Z (uB ((zBi (at3 ts i) y.p)==0)))::(74,.u (uB ((zBi (at3 ts i) y.p)==0)))::[]) s
      (oc (zI .i64 (zBi (at3 ts i) y.p) 0 ((zBi (at3 ts i) y.p)==0) iiz iiz rfl rfl)<|oc zF<|zB) fun a w23 s=>StS.cond s ((zBi (at3 ts i) y.p)==0) iiz (fun e=>?_) (fun e=>?_)
     .have ha:=e
      refine zV 2 ((76,.Z (uI ((cN ts y.p 0 i:Nat):Int)))::(77,.u (uI ((cN ts y.p 0 (i+1):Nat):Int)))::[]) s kA
       (oc zA<|oc (yB .i64 ((cN ts y.p 0 i:Nat):Int) 1 ((cN ts y.p 0 (i+1):Nat):Int) iiz iiz (by rw[sT,zYR ha];omega))<|zB) fun a w24 s=>?_
      replace s:=s.drop [8]
      refine yQ (uI ((cN ts y.p 0 (i+1):Nat):Int)) rfl s kA iiz fun a w s=>zD rfl<|zV 2 ((49,.Z (uI (i:Int)))::(50,.u (uI ((i+1:Nat):Int)))::[]) s kA
       (oc zA<|oc (yB .i64 (i:Int) 1 ((i+1:Nat):Int) iiz iiz (wrap64 _ _ oA oA))<|zB) fun a w25 s=>?_
      replace s:=s.drop [9]
      refine yQ (uI ((i+1:Nat):Int)) rfl s kA iiz fun a w s=>zD rfl ?_
      replace s:=s.popB
      exact⟨i+1,hi,(by show ts.length-(i+1)<ts.length-i;omega),s.keepK _ (fU zSz<|fU zRg<|fU zSy<|fU mz2<|fU (.head _) fnz)⟩
     .have ha:=e
      have hn:((cN ts y.p 0 i:Nat):Int)=((cN ts y.p 0 (i+1):Nat):Int):=by rw[zXy ha]
      rw[hn]at s
      refine pT<|zV 2 ((49,.Z (uI (i:Int)))::(50,.u (uI ((i+1:Nat):Int)))::[]) s kA
       (oc zA<|oc (yB .i64 (i:Int) 1 ((i+1:Nat):Int) iiz iiz (wrap64 _ _ oA oA))<|zB) fun a w26 s=>?_
      replace s:=s.drop [9]
      refine yQ (uI ((i+1:Nat):Int)) rfl s kA iiz fun a w s=>zD rfl ?_
      replace s:=s.popB
      exact⟨i+1,hi,(by show ts.length-(i+1)<ts.length-i;omega),s.keepK _ (fU mz9<|fU zKe<|fU zSz<|fU zRg<|fU (.head _) fnz)⟩
   .have hV:i=ts.length:=by have h7:=nF e;rw[hJ]at h7;omega
    replace s:=s.keepK [(7,.u (uI ((cN ts y.p 1 i:Nat):Int))),(8,.u (uI ((cN ts y.p 0 i:Nat):Int))),(0,.u (UF.eq l)),(5,.u (UF.eq v32))] (fU mz3<|fU mz4<|fU mz1<|fU mz2 fnz)
    subst hV
    refine tU<|lP<|rgK 2 ((78,.Z (UF.eq l))::(79,.u (fQN (prK (pps A) (pps A).length)))::[]) s
     (oc zA<|oc (zG zC zYK (fun J W hb (I:J=l)=>zNU (ps:=pps A) (zCw hA I (s.up hb)) oA))<|zB) fun a w27 s=>zX (CU.len 3) (cs:=zR3) kA rfl s kA (fun W=>rfl) rfl fun hR a w s=>zM (fQN (prK (pps A) (pps A).length)) rfl s zW fun a w s=>zD rfl<|lP<|rgQ ((80,.Z (fQN (prK (pps A) (pps A).length)))::(81,.Z (uI ((prK (pps A) (pps A).length).num.sign)))::(82,.u (uB (decide ((prK (pps A) (pps A).length).num.sign<0))))::[]) s
     (oc (zT (f:=fQN (prK (pps A) (pps A).length)) 3 kA (hz:=yW _))<|oc (zG zC zPd (fun J W hb (I:QNp (prK (pps A) (pps A).length) J W)=>zEl (m:=200) (q:=(prK (pps A) (pps A).length)) (wH I hG) dA))<|oc (zI .i64 ((prK (pps A) (pps A).length).num.sign) 0 (decide ((prK (pps A) (pps A).length).num.sign<0)) iiz iiz rfl rfl)<|zB) fun a w28 s=>vK s [(82,.u (uB (decide ((prK (pps A) (pps A).length).num.sign<0)))),(79,.u (fQN (prK (pps A) (pps A).length))),(7,.u (uI ((cN ts y.p 1 ts.length:Nat):Int))),(8,.u (uI ((cN ts y.p 0 ts.length:Nat):Int))),(0,.u (UF.eq l)),(5,.u (UF.eq v32))] [⟨11,28,CU.agg (fQN (if arE (pps A)<0 then -arE (pps A)else arE (pps A))),hR,false⟩,⟨6,28,CU.agg (fQN (arK ts ts.length)),b6,false⟩,⟨3,30,PX.cu y,b3,true⟩] ?_ fun a w s=>?_
    .refine StS.cond s (decide ((prK (pps A) (pps A).length).num.sign<0)) iiz (fun e=>?_) (fun e=>?_)
     .have hh:arE (pps A)<0:=by rw[h5]at e;exact zEP.1 (xX e)
      have hp:((0:Int):Rat)-(prK (pps A) (pps A).length)=(if arE (pps A)<0 then -arE (pps A)else arE (pps A)):=by rw[if_pos hh,h5];have:((0:Int):Rat)=0:=rfl;rw[this];grind
      refine yJ [] 3 ((83,.Z (fQN ((0:Int):Rat)))::(84,.Z (fQN (prK (pps A) (pps A).length)))::(85,.u (fQN (((0:Int):Rat)-(prK (pps A) (pps A).length))))::[]) hmix s kA
       (oc (zG zC zGM (fun J W hb (I:J=.int .i64 0)=>zDK 0 I dA))<|oc (zT (f:=fQN (prK (pps A) (pps A).length)) 3 kA (hz:=yW _))<|oc (zH zC zPb (fun J u1 W hb (I:QNp ((0:Int):Rat) J W) (h1:QNp (prK (pps A) (pps A).length) u1 W)=>zF4 (m:=200) (p:=((0:Int):Rat)) (q:=(prK (pps A) (pps A).length)) (wH I (QB.zero dA)) (wH h1 hG) dA dA))<|zB) fun Q' hQ a w29 s=>zAr (CU.agg (fQN (((0:Int):Rat)-(prK (pps A) (pps A).length)))) ((fQN (((0:Int):Rat)-(prK (pps A) (pps A).length))).tS) rfl s kA rfl rfl rfl (yW _) iiz zW fun a w s=>?_
      replace s:=s.weakB 11 (CU.agg (fQN (if arE (pps A)<0 then -arE (pps A)else arE (pps A)))) rfl (jJ kA) (fun cs W h=>by rw[<-hp];exact h)
      refine zD rfl (hQ _ _ ?_)
      exact s.keepK _ (fU mz1<|fU mz2<|fU mz3<|fU mz4<|fU mz5<|fU mz6 fnz)
     .have hh: ¬arE (pps A)<0:=fun k=>by rw[h5]at e;exact nF e (zEP.2 k)
      have hp:(prK (pps A) (pps A).length)=(if arE (pps A)<0 then -arE (pps A)else arE (pps A)):=by rw[if_neg hh,h5]
      replace s:=s.weakB 11 (CU.agg (fQN (if arE (pps A)<0 then -arE (pps A)else arE (pps A)))) rfl (jJ kA) (fun cs W h=>by rw[<-hp];exact h)
      exact pT<|s.keepK _ (fU (.head _)<|fU mz1<|fU mz2<|fU mz3<|fU mz4<|fU mz5 fnz)
    .refine lP ?_
     refine rgQ ((86,.Z (fQN (arK ts ts.length)))::(87,.Z (fQN (if arE (pps A)<0 then -arE (pps A)else arE (pps A))))::(88,.Z (uB true))::(89,.Z (uB false))::(90,.Z (uB false))::(91,.Z (uI ((cN ts y.p 1 ts.length:Nat):Int)))::(92,.Z (uB false))::(93,.Z (uB false))::(94,.Z (uB false))::(95,.Z (uI ((cN ts y.p 1 ts.length:Nat):Int)))::(96,.Z (uB (((cN ts y.p 1 ts.length:Nat):Int)==1)))::(97,.Z (uB (((cN ts y.p 1 ts.length:Nat):Int)==1)))::(98,.s (SF.imp ((((cN ts y.p 1 ts.length:Nat):Int)==1)=true) ((uI ((cN ts y.p 0 ts.length:Nat):Int)).tS)))::(99,.s (SF.imp ((((cN ts y.p 1 ts.length:Nat):Int)==1)=true) ((uB false).tS)))::(100,.Z (uB false))::(101,.u (uB false))::[]) s
      (oc (zT (f:=fQN (arK ts ts.length)) 3 kA (hz:=yW _))<|oc (zT (f:=fQN (if arE (pps A)<0 then -arE (pps A)else arE (pps A))) 3 kA (hz:=yW _))<|oc (zH zC zWT (fun J u1 W hb (I:QNp (arK ts ts.length) J W) (h1:QNp (if arE (pps A)<0 then -arE (pps A)else arE (pps A)) u1 W)=>(zLh (m:=200) (p:=(arK ts ts.length)) (q:=(if arE (pps A)<0 then -arE (pps A)else arE (pps A))) (wH I hL) (wH h1 hN) dA dA).mono (wG (fun v W h=>by rw[hsum,zMs]at h;exact h))))<|oc (zFd true iiz (fun _=>rfl))<|oc zA<|oc (zE 90 false kA iiz (fun _=>zA) arf)<|oc (zE 90 false kA iiz (fun _=>zI .i64 ((cN ts y.p 1 ts.length:Nat):Int) 1 false iiz iiz (xZ (by have:=h6.1;omega)) rfl) arf)<|oc (yC false iiz fS fD)<|oc zA<|oc (zE 94 false kA iiz (fun _=>zA) arf)<|oc (zE 94 false kA iiz (fun _=>zI .i64 ((cN ts y.p 1 ts.length:Nat):Int) 1 (((cN ts y.p 1 ts.length:Nat):Int)==1) iiz iiz rfl rfl) arf)<|oc (zE 94 false kA iiz (fun _=>zA) arf)<|oc (zE 97 (((cN ts y.p 1 ts.length:Nat):Int)==1) kA iiz (fun e=>z5 [] ((uI ((cN ts y.p 0 ts.length:Nat):Int)).tS) fnz fO kA zA) fN)<|oc (zE 97 (((cN ts y.p 1 ts.length:Nat):Int)==1) kA iiz (fun e=>z5 [(98,(uI ((cN ts y.p 0 ts.length:Nat):Int)).tS)] ((uB false).tS) (fU (fun v W h=>zN (c:=(((cN ts y.p 1 ts.length:Nat):Int)==1)=true) (f:=(uI ((cN ts y.p 0 ts.length:Nat):Int)).tS) e h) fnz) fO kA (zI .i64 ((cN ts y.p 0 ts.length:Nat):Int) 0 false iiz iiz (xZ (by have h8:=bC.1 e;have:=h6.2.1 oA;omega)) rfl)) fN)<|oc (zE 94 false kA iiz (fun _=>yC (((cN ts y.p 1 ts.length:Nat):Int)==1) iiz (fun e v W h=>zN e h) (fun e v W h=>h)) arf)<|oc (yC false iiz fS fD)<|zB) fun a w30 s=>StS.cond s false iiz fS (fun e=>?_)
     exact pT<|rgQ ((102,.Z (fPV 1 (y.p)))::(103,.Z (UF.eq l))::(104,.Z (uI (zA5 (pps A) y.p)))::(12,.u (uI (zA5 (pps A) y.p)))::[]) s
      (oc (zFA (C:=(PX.cu y).cf) 6 kA (fun _ _ h=>h.2) (zI8 eY))<|oc zA<|oc (zH zC zYJ (fun J u1 W hb (I:(fPV 1 (y.p)).p J W) (h1:u1=l)=>(zMT (p:=y.p) (ps:=pps A) I (zCw hA h1 (s.up hb)) oA).mono (wG (fun v W h=>by rw[zXD O]at h;exact h))))<|oc zF<|zB) fun a w31 s=>rgQ ((105,.Z (uI (zA5 (pps A) y.p)))::(106,.Z (uB (decide ((zA5 (pps A) y.p)≥0))))::(107,.Z (uI ((cN ts y.p 1 ts.length:Nat):Int)))::(108,.Z (uI ((cN ts y.p 0 ts.length:Nat):Int)))::(109,.Z (uI (((cN ts y.p 1 ts.length:Nat):Int)+((cN ts y.p 0 ts.length:Nat):Int))))::(110,.Z (uB (decide ((((cN ts y.p 1 ts.length:Nat):Int)+((cN ts y.p 0 ts.length:Nat):Int))>0))))::(111,.Z (uB true))::(112,.Z (uB true))::(113,.Z (uI ((cN ts y.p 1 ts.length:Nat):Int)))::(114,.Z (uB (((cN ts y.p 1 ts.length:Nat):Int)==0)))::(115,.Z (uB (((cN ts y.p 1 ts.length:Nat):Int)==0)))::(116,.s (SF.imp ((((cN ts y.p 1 ts.length:Nat):Int)==0)=false) ((uI (zA5 (pps A) y.p)).tS)))::(117,.s (SF.imp ((((cN ts y.p 1 ts.length:Nat):Int)==0)=false) ((uB true).tS)))::(118,.Z (uB true))::(119,.Z (uB true))::(120,.Z (uB true))::(121,.Z (uB true))::(122,.Z (uB true))::(4,.u (uB true))::[]) s
      (oc zA<|oc (zI .i64 (zA5 (pps A) y.p) 0 (decide ((zA5 (pps A) y.p)≥0)) iiz iiz rfl rfl)<|oc zA<|oc zA<|oc (yB .i64 ((cN ts y.p 1 ts.length:Nat):Int) ((cN ts y.p 0 ts.length:Nat):Int) (((cN ts y.p 1 ts.length:Nat):Int)+((cN ts y.p 0 ts.length:Nat):Int)) iiz iiz (by have h1:=zRO ts y.p 1 ts.length;have I:=zRO ts y.p 0 ts.length;rw[sT];omega))<|oc (zI .i64 (((cN ts y.p 1 ts.length:Nat):Int)+((cN ts y.p 0 ts.length:Nat):Int)) 0 (decide ((((cN ts y.p 1 ts.length:Nat):Int)+((cN ts y.p 0 ts.length:Nat):Int))>0)) iiz iiz rfl rfl)<|oc (zUo (decide ((zA5 (pps A) y.p)≥0)) (decide ((((cN ts y.p 1 ts.length:Nat):Int)+((cN ts y.p 0 ts.length:Nat):Int))>0)) true kA iiz iiz (by rw[bC,rR];have:=h6.2.2.1;constructor<;>intro h<;>omega) rfl)<|oc zA<|oc (zE 112 true kA iiz (fun _=>zA) arf)<|oc (zE 112 true kA iiz (fun _=>zI .i64 ((cN ts y.p 1 ts.length:Nat):Int) 0 (((cN ts y.p 1 ts.length:Nat):Int)==0) iiz iiz rfl rfl) arf)<|oc (zE 112 true kA iiz (fun _=>zA) arf)<|oc (zE 115 (((cN ts y.p 1 ts.length:Nat):Int)==0) kA iiz (fun e=>z5 [] ((uI (zA5 (pps A) y.p)).tS) fnz fO kA zA) fN)<|oc (zE 115 (((cN ts y.p 1 ts.length:Nat):Int)==0) kA iiz (fun e=>z5 [(116,(uI (zA5 (pps A) y.p)).tS)] ((uB true).tS) (fU (fun v W h=>zN (c:=(((cN ts y.p 1 ts.length:Nat):Int)==0)=false) (f:=(uI (zA5 (pps A) y.p)).tS) e h) fnz) fO kA (zI .i64 (zA5 (pps A) y.p) 1 true iiz iiz (bC.2 (h6.2.2.2 (fun h8=>by have:=nH.1 e;omega))) rfl)) fN)<|oc (zE 112 true kA iiz (fun _=>yC (((cN ts y.p 1 ts.length:Nat):Int)==0) iiz (fun e v W h=>h) (fun e v W h=>zN e h)) arf)<|oc (yC true iiz fD fS)<|oc zA<|oc (zE 120 true kA iiz (fun _=>zEq zC zWB (fun W hb=>zFN (hT.below (s.up hb)))) arf)<|oc (yC true iiz fD fS)<|oc zF<|zB) fun a w32 s=>pS<|vJ s hC (t:=4) rfl iiz
end Go.Proofs.Wd
