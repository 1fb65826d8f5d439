/- Walks of straitref28: Least; Walks of package roads: Walk; Walks of st and what it needs. -/
import Derived.Test.YtencnknhnckpaaaGreatDoorMRT22
namespace Go.Proofs.Wd
open Tryz
variable {cs fs:List Rat}{ss:List Int}{N at_:Nat}{r:Nat×Nat×Rat}{b n x z:Int}{W:World}{js:List (Int×Int)}{lf lj lw t u v:Value}{E:Adj}
set_option maxRecDepth 100000
set_option maxHeartbeats 1000000
open Go.RowKit Lb
theorem zPo:(((((r.2.1:Int) !=(at_:Int))||(ss.getD r.1 0 !=ss.getD at_ 0-1))||(qsg (cs.getD r.1 0+r.2.2) (cs.getD at_ 0) !=0))=false)↔bkB cs ss at_ r=true:=by
 unfold bkB
 simp only[bL,bne_eq_false_iff_eq,xU,bE,zDT]
 constructor
 .rintro⟨⟨J,h⟩,I⟩
  exact⟨⟨oA,h⟩,I⟩
 .rintro⟨⟨J,h⟩,I⟩
  exact⟨⟨by rw[J],h⟩,I⟩
theorem zSp(h:bkB cs ss at_ r=false):bkS cs ss at_ b r=b:=by unfold bkS;rw[if_neg (by rw[h];decide)]
theorem zOD(h:bkB cs ss at_ r=true)(k:(decide (b<0)||decide ((r.1:Int)<b))=true):bkS cs ss at_ b r=(r.1:Int):=by
 unfold bkS
 rw[if_pos h,if_pos (by simpa using k)]
theorem zOC(h:bkB cs ss at_ r=true)(k:(decide (b<0)||decide ((r.1:Int)<b))=false):bkS cs ss at_ b r=b:=by
 unfold bkS
 rw[if_pos h,if_neg (by simp only[bL,rH]at k;omega)]
theorem vO{p q:Rat}(hp:QB p 1)(h:QB q 1):QB (p+q) 3:=(hp.add h).mono dA
theorem zKr{F:Fence}{m:Nat}{P:Program}{ops:Array Oper}{Q:Exit->Act->World->Prop}{w U:World}{a:Act}{i d:Nat}{o:Oper}{Kk:Act->World->Prop}(G:Nat->SF)(ho:ops[i]?=some o)(O:o.guard=none)(hd:o.dst=some d)(h:qR F m P w ops G o)(hU:Below w.heap.size w U)(J:∀t,t∈zCY o->(G t).p (a.tmps.getD t undef) U)
  (hK:∀v w',(G d).p v w'->Below U.heap.size U w'->Kk (a.put o.dst v) w'):wpOpIn F m P ops Q i Kk a U:=by
 refine opn ho O ?_
 have I:zMR F m P w G o:=by
  unfold qR at h
  rw[O]at h
  exact h
 exact I a U Kk Q hU J fun v W' hv hb=>hK v W' (hv d hd) hb
def uoF(wv vc:Value)(z:Int)(q:Rat)(j:Nat):SF:=match j with
 |0=>(UF.eq wv).tS
 |1=>(UF.eq vc).tS
 |2=>(uI z).tS
 |3=>wB (cg (fQN q))
 |4=>(fQN q).tS
 |5=>(UF.eq wv).tS
 |_=>SF.any
def uoG(wv vc:Value)(z:Int)(q:Rat):Nat->SF:=upd (fun _=>SF.any) [(16,(UF.eq wv).tS),(13,(UF.eq vc).tS),(4,(uI z).tS),(124,uoF wv vc z q 0),(125,uoF wv vc z q 1),(126,uoF wv vc z q 2),(127,uoF wv vc z q 3),(128,uoF wv vc z q 4),(10,uoF wv vc z q 5)]
theorem zR1(td:List Nat)(a:Nat):[wC [.int .i64 (a:Int)]]++ins (jI td).reverse=ins (jI (td++ [a])).reverse:=by simp[jI]
theorem zJ9(hu:u=.int .i64 n)(hj:(SF.row 2 (jns js)).p lj W)(hf:(SF.row 3 (rvs 1 fs)).p lf W)(hv:v=.int .i64 x)(ht:t=.int .i64 z)(xr:min (max n 0) 131072=(N:Int))(hB:GrB N js fs)(hT:Tab W):Calls prog 20 #[u,lj,lf,v,t] W (Ret W (zHK W (qM (grE N js fs) N x z))):=by
 have I:Below W.heap.size W W:=xF _ _
 have h9:=hj
 have ha:=hf
 have q0:Gok (grE N js fs) N:=zGB _ _ _
 have qj:∀a b f,(b,f)∈(grE N js fs) a->(a,f)∈(grE N js fs) b:=fun a b f h=>zFa h
 have xo:min (max (N:Int) 0) 131072=(N:Int):=by have:=hB.hN;omega
 obtain⟨csv,ecs⟩:∃c,csR (grE N js fs) N x=c:=⟨_,rfl⟩
 obtain⟨ssv,ess⟩:∃c,ssR (grE N js fs) N x=c:=⟨_,rfl⟩
 have qa:csv.length=N:=by rw[<-ecs];exact(zDL _ _ _).1
 have q2:ssv.length=N:=by rw[<-ess];exact(zDL _ _ _).2
 refine y2 [(uI n).tS,(UF.eq lj).tS,(UF.eq lf).tS,(uI x).tS,(uI z).tS] func20 rfl kA ⟨hu,rfl,rfl,hv,ht,trivial⟩ fun a s=>?_
 replace s:=s.renew [(0,.u (uI n)),(1,.u (UF.eq lj)),(2,.u (UF.eq lf)),(3,.u (uI x)),(4,.u (uI z))] (sH (.inr ⟨_,rfl,.head _⟩)<|sH (.inr ⟨_,rfl,mz1⟩)<|sH (.inr ⟨_,rfl,mz2⟩)<|sH (.inr ⟨_,rfl,mz3⟩)<|sH (.inr ⟨_,rfl,mz4⟩) fnz)
 refine fK<|rgK 1 ((10,.u (UF.eq (.slice none 0 0)))::[]) s
  (oc zE<|zC) fun a w1 s=>yP (CU.len 3) (cs:=zR3) kA rfl s kA (fun W=>rfl) rfl fun hd a w s=>yN (uB false) rfl s kA iiz fun a w s=>zF rfl ?_
 have hV:=s.inB_new (q:=hd) ⟨_,.head _,rfl,rfl⟩
 obtain⟨qq,x1,hJ,xq⟩:=s.boxAt (c:=11) rfl
 have O:=zJO (C:=CU.len 3) x1 hJ xq hJ
 replace s:=(s.learn 11 _ (s.bx.mem _ (.head _)).choose_spec.1).popB
 have J:=s.below
 replace I:=I.trans (J.mono I.size)
 replace h9:=(SF.row 2 (jns js)).st _ _ _ h9 J
 replace ha:=(SF.row 3 (rvs 1 fs)).st _ _ _ ha J
 replace s:=s.anewB rfl rfl
 refine fK<|zP 2 ((21,.Z (uI n))::(22,.u (uI (N:Int)))::[]) s kA
  (oc zA<|oc (zK zD zOs (fun u0 W J (h0:u0=.int .i64 n)=>zCD h0 xr))<|zC) fun a w2 s=>?_
 replace s:=s.drop [0]
 refine yN (uI (N:Int)) rfl s kA iiz fun a w s=>zF rfl ?_
 have J:=s.below
 replace I:=I.trans (J.mono I.size)
 replace h9:=(SF.row 2 (jns js)).st _ _ _ h9 J
 replace ha:=(SF.row 3 (rvs 1 fs)).st _ _ _ ha J
 replace O:=O.below J
 replace s:=s.anewB rfl rfl
 refine fK<|rgN ((24,.Z (uI (N:Int)))::(25,.Z (UF.eq lj))::(26,.Z (UF.eq lf))::(27,.Z (uI x))::(28,.s (wI (wD w 32 3 (qns csv)) (wD w 3 1 (ins ssv))))::(23,.s (wI (wD w 32 3 (qns csv)) (wD w 3 1 (ins ssv))))::(29,.s (wD w 32 3 (qns csv)))::(30,.s (wD w 3 1 (ins ssv)))::(13,.s (wD w 32 3 (qns csv)))::(14,.s (wD w 3 1 (ins ssv)))::[]) s
  (oc zA<|oc zA<|oc zA<|oc zA<|oc (zCJ zD zSg (fun u0 u1 u2 u3 W J (h0:u0=.int .i64 (N:Int)) (h1:u1=lj) (h2:u2=lf) (h3:u3=.int .i64 x)=>(zFD (n:=(N:Int)) (N:=N) (js:=js) (fs:=fs) h0 (zAa h9 h1 (s.up J)) (zAa ha h2 (s.up J)) h3 xo hB ((hT.below I).below (s.up J))).mono (wF (fun v W h=>by have h7:=zEB (s.up J).size h;rw[ecs,ess]at h7;exact h7))))<|oc zA<|oc (zAD (A:=wD w 32 3 (qns csv)) (B:=wD w 3 1 (ins ssv)) iiz)<|oc (zAC (A:=wD w 32 3 (qns csv)) (B:=wD w 3 1 (ins ssv)) iiz)<|oc zE<|oc zE<|zC) fun a w3 s hr=>?_
 obtain⟨vc,e13_⟩:∃v,a.tmps.getD 13 undef=v:=⟨_,rfl⟩
 have h4:=(hr (_,_) mz8)
 rw[show a.tmps.getD _ undef=vc from e13_]at h4
 replace h4:=y9.row h4
 replace s:=s.learn 13 _ e13_
 obtain⟨vs,e14_⟩:∃v,a.tmps.getD 14 undef=v:=⟨_,rfl⟩
 have h5:=(hr (_,_) mz9)
 rw[show a.tmps.getD _ undef=vs from e14_]at h5
 replace h5:=y9.row h5
 replace s:=s.learn 14 _ e14_
 have J:=s.below
 replace I:=I.trans (J.mono I.size)
 replace h9:=(SF.row 2 (jns js)).st _ _ _ h9 J
 replace ha:=(SF.row 3 (rvs 1 fs)).st _ _ _ ha J
 replace O:=O.below J
 replace s:=s.anewB rfl rfl
 refine fK<|rgQ ((31,.Z (uI x))::(32,.Z (uB (decide (x<0))))::(33,.Z (uB (decide (x<0))))::(34,.s (SF.imp ((decide (x<0))=false) ((uI x).tS)))::(35,.s (SF.imp ((decide (x<0))=false) ((uI (N:Int)).tS)))::(36,.s (SF.imp ((decide (x<0))=false) ((uB (decide (x≥(N:Int)))).tS)))::(37,.Z (uB ((decide (x<0))||(decide (x≥(N:Int))))))::(38,.Z (uB ((decide (x<0))||(decide (x≥(N:Int))))))::(39,.s (SF.imp (((decide (x<0))||(decide (x≥(N:Int))))=false) ((uI z).tS)))::(40,.s (SF.imp (((decide (x<0))||(decide (x≥(N:Int))))=false) ((uB (decide (z<0))).tS)))::(41,.Z (uB (((decide (x<0))||(decide (x≥(N:Int))))||(decide (z<0)))))::(42,.Z (uB (((decide (x<0))||(decide (x≥(N:Int))))||(decide (z<0)))))::(43,.s (SF.imp ((((decide (x<0))||(decide (x≥(N:Int))))||(decide (z<0)))=false) ((uI z).tS)))::(44,.s (SF.imp ((((decide (x<0))||(decide (x≥(N:Int))))||(decide (z<0)))=false) ((uI (N:Int)).tS)))::(45,.s (SF.imp ((((decide (x<0))||(decide (x≥(N:Int))))||(decide (z<0)))=false) ((uB (decide (z≥(N:Int)))).tS)))::(46,.Z (uB ((((decide (x<0))||(decide (x≥(N:Int))))||(decide (z<0)))||(decide (z≥(N:Int))))))::(47,.Z (uB ((((decide (x<0))||(decide (x≥(N:Int))))||(decide (z<0)))||(decide (z≥(N:Int))))))::(48,.s (SF.imp (((((decide (x<0))||(decide (x≥(N:Int))))||(decide (z<0)))||(decide (z≥(N:Int))))=false) ((UF.eq vs).tS)))::(49,.s (SF.imp (((((decide (x<0))||(decide (x≥(N:Int))))||(decide (z<0)))||(decide (z≥(N:Int))))=false) ((uI z).tS)))::(50,.s (SF.imp (((((decide (x<0))||(decide (x≥(N:Int))))||(decide (z<0)))||(decide (z≥(N:Int))))=false) (wB (wC [.int .i64 (ssv.getD z.toNat 0)]).cf)))::(51,.s (SF.imp (((((decide (x<0))||(decide (x≥(N:Int))))||(decide (z<0)))||(decide (z≥(N:Int))))=false) ((uI (ssv.getD z.toNat 0)).tS)))::(52,.s (SF.imp (((((decide (x<0))||(decide (x≥(N:Int))))||(decide (z<0)))||(decide (z≥(N:Int))))=false) ((uB (decide ((ssv.getD z.toNat 0)<0))).tS)))::(53,.u (uB (((((decide (x<0))||(decide (x≥(N:Int))))||(decide (z<0)))||(decide (z≥(N:Int))))||(decide ((ssv.getD z.toNat 0)<0)))))::[]) s
  (oc zA<|oc (zJ .i64 x 0 (decide (x<0)) iiz iiz rfl rfl)<|oc zA<|oc (zB 33 (decide (x<0)) kA iiz (fun e=>zI [] ((uI x).tS) fnz (fun _ _ h _=>h) kA zA) (fun e W h=>absurd h e))<|oc (zB 33 (decide (x<0)) kA iiz (fun e=>zI [] ((uI (N:Int)).tS) fnz (fun _ _ h _=>h) kA zA) (fun e W h=>absurd h e))<|oc (zB 33 (decide (x<0)) kA iiz (fun e=>zI [(34,(uI x).tS),(35,(uI (N:Int)).tS)] ((uB (decide (x≥(N:Int)))).tS) (sH (fun v W h=>zG (c:=(decide (x<0))=false) (f:=(uI x).tS) e h)<|sH (fun v W h=>zG (c:=(decide (x<0))=false) (f:=(uI (N:Int)).tS) e h) fnz) (fun _ _ h _=>h) kA (zJ .i64 x (N:Int) (decide (x≥(N:Int))) iiz iiz rfl rfl)) (fun e W h=>absurd h e))<|oc (zT (decide (x<0)) iiz (fun e v W h=>qH h e) (fun e v W h=>yX (zG e h) e))<|oc zA<|oc (zB 38 ((decide (x<0))||(decide (x≥(N:Int)))) kA iiz (fun e=>zI [] ((uI z).tS) fnz (fun _ _ h _=>h) kA zA) (fun e W h=>absurd h e))<|oc (zB 38 ((decide (x<0))||(decide (x≥(N:Int)))) kA iiz (fun e=>zI [(39,(uI z).tS)] ((uB (decide (z<0))).tS) (sH (fun v W h=>zG (c:=((decide (x<0))||(decide (x≥(N:Int))))=false) (f:=(uI z).tS) e h) fnz) (fun _ _ h _=>h) kA (zJ .i64 z 0 (decide (z<0)) iiz iiz rfl rfl)) (fun e W h=>absurd h e))<|oc (zT ((decide (x<0))||(decide (x≥(N:Int)))) iiz (fun e v W h=>qH h e) (fun e v W h=>yX (zG e h) e))<|oc zA<|oc (zB 42 (((decide (x<0))||(decide (x≥(N:Int))))||(decide (z<0))) kA iiz (fun e=>zI [] ((uI z).tS) fnz (fun _ _ h _=>h) kA zA) (fun e W h=>absurd h e))<|oc (zB 42 (((decide (x<0))||(decide (x≥(N:Int))))||(decide (z<0))) kA iiz (fun e=>zI [] ((uI (N:Int)).tS) fnz (fun _ _ h _=>h) kA zA) (fun e W h=>absurd h e))<|oc (zB 42 (((decide (x<0))||(decide (x≥(N:Int))))||(decide (z<0))) kA iiz (fun e=>zI [(43,(uI z).tS),(44,(uI (N:Int)).tS)] ((uB (decide (z≥(N:Int)))).tS) (sH (fun v W h=>zG (c:=(((decide (x<0))||(decide (x≥(N:Int))))||(decide (z<0)))=false) (f:=(uI z).tS) e h)<|sH (fun v W h=>zG (c:=(((decide (x<0))||(decide (x≥(N:Int))))||(decide (z<0)))=false) (f:=(uI (N:Int)).tS) e h) fnz) (fun _ _ h _=>h) kA (zJ .i64 z (N:Int) (decide (z≥(N:Int))) iiz iiz rfl rfl)) (fun e W h=>absurd h e))<|oc (zT (((decide (x<0))||(decide (x≥(N:Int))))||(decide (z<0))) iiz (fun e v W h=>qH h e) (fun e v W h=>yX (zG e h) e))<|oc zA<|oc (zB 47 ((((decide (x<0))||(decide (x≥(N:Int))))||(decide (z<0)))||(decide (z≥(N:Int)))) kA iiz (fun e=>zI [] ((UF.eq vs).tS) fnz (fun _ _ h _=>h) kA zA) (fun e W h=>absurd h e))<|oc (zB 47 ((((decide (x<0))||(decide (x≥(N:Int))))||(decide (z<0)))||(decide (z≥(N:Int)))) kA iiz (fun e=>zI [] ((uI z).tS) fnz (fun _ _ h _=>h) kA zA) (fun e W h=>absurd h e))<|oc (zB 47 ((((decide (x<0))||(decide (x≥(N:Int))))||(decide (z<0)))||(decide (z≥(N:Int)))) kA iiz (fun e=>zI [(48,(UF.eq vs).tS),(49,(uI z).tS)] (wB (wC [.int .i64 (ssv.getD z.toNat 0)]).cf) (sH (fun v W h=>zG (c:=((((decide (x<0))||(decide (x≥(N:Int))))||(decide (z<0)))||(decide (z≥(N:Int))))=false) (f:=(UF.eq vs).tS) e h)<|sH (fun v W h=>zG (c:=((((decide (x<0))||(decide (x≥(N:Int))))||(decide (z<0)))||(decide (z≥(N:Int))))=false) (f:=(uI z).tS) e h) fnz) (fun _ _ h _=>h) kA (zL (z:=1) (Cs:=ins ssv) (i:=z.toNat) (C:=wC [.int .i64 (ssv.getD z.toNat 0)]) kA (qC (by rw[q2];simp only[bL,rH]at e;omega)) (fun v W J h=>by rw[show v=vs from h];exact(SF.row 1 (ins ssv)).st _ _ _ h5 (s.up J)) (fun _ _ h=>h.trans (vX (Value.int .i64) (by simp only[bL,rH]at e;omega))))) (fun e W h=>absurd h e))<|oc (zB 47 ((((decide (x<0))||(decide (x≥(N:Int))))||(decide (z<0)))||(decide (z≥(N:Int)))) kA iiz (fun e=>zI [(50,wB (wC [.int .i64 (ssv.getD z.toNat 0)]).cf)] ((uI (ssv.getD z.toNat 0)).tS) (sH (fun v W h=>zG (c:=((((decide (x<0))||(decide (x≥(N:Int))))||(decide (z<0)))||(decide (z≥(N:Int))))=false) (f:=wB (wC [.int .i64 (ssv.getD z.toNat 0)]).cf) e h) fnz) (fun _ _ h _=>h) kA (z5 (C:=(wC [.int .i64 (ssv.getD z.toNat 0)]).cf) kA iiz yT)) (fun e W h=>absurd h e))<|oc (zB 47 ((((decide (x<0))||(decide (x≥(N:Int))))||(decide (z<0)))||(decide (z≥(N:Int)))) kA iiz (fun e=>zI [(51,(uI (ssv.getD z.toNat 0)).tS)] ((uB (decide ((ssv.getD z.toNat 0)<0))).tS) (sH (fun v W h=>zG (c:=((((decide (x<0))||(decide (x≥(N:Int))))||(decide (z<0)))||(decide (z≥(N:Int))))=false) (f:=(uI (ssv.getD z.toNat 0)).tS) e h) fnz) (fun _ _ h _=>h) kA (zJ .i64 (ssv.getD z.toNat 0) 0 (decide ((ssv.getD z.toNat 0)<0)) iiz iiz rfl rfl)) (fun e W h=>absurd h e))<|oc (zT ((((decide (x<0))||(decide (x≥(N:Int))))||(decide (z<0)))||(decide (z≥(N:Int)))) iiz (fun e v W h=>qH h e) (fun e v W h=>yX (zG e h) e))<|zC) fun a w4 s=>?_
 have J:=s.below
 replace I:=I.trans (J.mono I.size)
 replace h9:=(SF.row 2 (jns js)).st _ _ _ h9 J
 replace ha:=(SF.row 3 (rvs 1 fs)).st _ _ _ ha J
 replace O:=O.below J
 replace h4:=(SF.row 3 (qns csv)).st _ _ _ h4 J
 replace h5:=(SF.row 1 (ins ssv)).st _ _ _ h5 J
 replace s:=s.anewB rfl rfl
 refine StS.cond s (((((decide (x<0))||(decide (x≥(N:Int))))||(decide (z<0)))||(decide (z≥(N:Int))))||(decide ((ssv.getD z.toNat 0)<0))) iiz (fun e=>?_) (fun e=>?_)
 .have hc:qM (grE N js fs) N x z=([],0,false):=by unfold qM;rw[if_pos];rw[ess];unfold yU;simp only[bZ,cI,bE]at e;simp only[bZ,cI,rN,rH,bE];omega
  refine fK ?_
  replace s:=s.drop [10,12]
  refine rgK 1 ((54,.u (fQN 0))::[]) s
   (oc (zK zD zFe (fun u0 W J (h0:u0=.int .i64 0)=>zCZ h0))<|zC) fun a w5 s=>yN (UF.eq (.slice none 0 0)) rfl s kA iiz fun a w s=>?_
  have J:=s.below
  replace I:=I.trans (J.mono I.size)
  replace h9:=(SF.row 2 (jns js)).st _ _ _ h9 J
  replace ha:=(SF.row 3 (rvs 1 fs)).st _ _ _ ha J
  replace O:=O.below J
  replace h4:=(SF.row 3 (qns csv)).st _ _ _ h4 J
  replace h5:=(SF.row 1 (ins ssv)).st _ _ _ h5 J
  refine zAF (g:=hd) (i:=0) (cap:=1) (z:=3) (e:=32) (CU.agg (fQN 0)) rfl s rfl rfl O eN kA (s.fct (.tmp 11)) (zBS (s.fct (.tmp 54))) (fun q hq=>by cases hq) fun w hn q4 O s=>?_
  replace I:=yD I hn (fun q hq=>by rw[hq];exact hV)
  refine yN (uB false) rfl s kA iiz fun a w s=>zF rfl ?_
  have J:=s.below
  replace I:=I.trans (J.mono I.size)
  replace O:=O.below J
  replace s:=s.anewB rfl rfl
  refine nR ?_
  obtain⟨qq,g1,g2,g3⟩:=zCU O
  replace s:=s.home rfl rfl I
  exact vC s rfl kA (s.fct (.tmp 11)) g1 g2 ⟨_,_,_,rfl,by rw[hc,show a.tmps.getD 10 undef=.slice none 0 0 from s.fct (.tmp 10)];exact y9.nil _ _ _ _,by rw[hc];exact g3,by rw[hc];exact s.fct (.tmp 12)⟩
 .have e':(!(yU N x)|| !(yU N z)||decide (ssv.getD z.toNat 0<0))=false:=by unfold yU;simp only[bL,rH]at e;simp only[bL,rQ,xU,bE,rH];omega
  have hD:=e'
  rw[bL]at e'
  obtain⟨hx,hz⟩:=zMb e'.1
  have x6:=mB e'.2
  have hm:=zFR q0 hx
  rw[ecs,ess]at hm
  obtain⟨hI,qv⟩:=y5 hx
  obtain⟨hs,qy⟩:=y5 hz
  obtain⟨xn,exn⟩:∃k,x.toNat=k:=⟨_,rfl⟩
  obtain⟨zn,ezn⟩:∃k,z.toNat=k:=⟨_,rfl⟩
  rw[exn]at hI qv hm
  rw[ezn]at hs qy x6
  rw[<-qv,<-qy]at s
  replace s:=s.keepK [(14,.u (UF.eq vs)),(13,.u (UF.eq vc)),(0,.u (uI (N:Int))),(22,.u (uI (N:Int))),(11,.u (UF.eq (pO hd 0))),(12,.u (uB false)),(10,.u (UF.eq (.slice none 0 0))),(1,.u (UF.eq lj)),(2,.u (UF.eq lf)),(3,.u (uI (xn:Int))),(4,.u (uI (zn:Int)))] (sH mz1<|sH mz2<|sH mz3<|sH mz4<|sH mz5<|sH mz6<|sH mz7<|sH mz8<|sH mz9<|sH zC1<|sH zDW fnz)
  obtain⟨s0,q1,q3,hs0N⟩:=hm.of hs oA
  have hway:=zKJ q0 qj hI hm s0 zn hs q3 q1
  have hc:qM (grE N js fs) N x z=(jI ((zn::zD2 (nxF (grE N js fs) N csv ssv) xn s0 zn).reverse),csv.getD zn 0,true):=by unfold qM;rw[if_neg (by rw[ess,hD];decide),ecs,ess,exn,ezn,q3];rfl
  have xb:zn<csv.length:=by rw[qa];exact hs
  have hqz:QB (csv.getD zn 0) 1:=hB.qb q1.1 (by have:=hB.hN;omega)
  have hN20:=hB.hN
  clear hD e' e
  refine nQ<|fK<|rgN ((55,.Z (uI (N:Int)))::(56,.Z (UF.eq lj))::(57,.Z (UF.eq lf))::(58,.s (wD w4 59 5 (rqs (rds N js fs))))::(15,.s (wD w4 59 5 (rqs (rds N js fs))))::[]) s
   (oc zA<|oc zA<|oc zA<|oc (zBn zD zOr (fun u0 u1 u2 W J (h0:u0=.int .i64 (N:Int)) (h1:u1=lj) (h2:u2=lf)=>(zCC h0 (zAa h9 h1 (s.up J)) (zAa ha h2 (s.up J)) (by have:=hB.hN;omega) (by have:=hB.hj;omega) ((hT.below I).below (s.up J))).mono (wF (fun v W h=>y9.mono h (s.up J).size))))<|oc zE<|zC) fun a w6 s hr=>?_
  obtain⟨lr,e15_⟩:∃v,a.tmps.getD 15 undef=v:=⟨_,rfl⟩
  have h8:=(hr (_,_) mz4)
  rw[show a.tmps.getD _ undef=lr from e15_]at h8
  replace h8:=y9.row h8
  replace s:=s.learn 15 _ e15_
  have J:=s.below
  replace I:=I.trans (J.mono I.size)
  replace h9:=(SF.row 2 (jns js)).st _ _ _ h9 J
  replace ha:=(SF.row 3 (rvs 1 fs)).st _ _ _ ha J
  replace O:=O.below J
  replace h4:=(SF.row 3 (qns csv)).st _ _ _ h4 J
  replace h5:=(SF.row 1 (ins ssv)).st _ _ _ h5 J
  replace s:=s.anewB rfl rfl
  refine fK<|rgN ((59,.Z (uI (zn:Int)))::(60,.s (wD w6 3 1 [wC [.int .i64 (zn:Int)]]))::(16,.s (wD w6 3 1 [wC [.int .i64 (zn:Int)]]))::[]) s
   (oc zA<|oc (zBd (fun u W J (hu:u=.int .i64 (zn:Int))=>by subst hu;exact⟨_,_,zPR _,(zIb _ _).toN J.size rfl⟩))<|oc zE<|zC) fun a w7 s hr=>?_
  obtain⟨tv,e16_⟩:∃v,a.tmps.getD 16 undef=v:=⟨_,rfl⟩
  have h6:=(hr (_,_) mz2)
  rw[show a.tmps.getD _ undef=tv from e16_]at h6
  replace s:=s.learn 16 _ e16_
  replace h6:y9 _ W.heap.size 3 1 tv (ins (jI [zn]).reverse):=y9.mono h6 I.size
  have J:=s.below
  replace I:=I.trans (J.mono I.size)
  replace O:=O.below J
  replace h4:=(SF.row 3 (qns csv)).st _ _ _ h4 J
  replace h5:=(SF.row 1 (ins ssv)).st _ _ _ h5 J
  replace h8:=(SF.row 5 (rqs (rds N js fs))).st _ _ _ h8 J
  replace s:=s.anewB rfl rfl
  refine fK<|rgQ ((61,.Z (uI (zn:Int)))::(17,.u (uI (zn:Int)))::[]) s
   (oc zA<|oc zE<|zC) fun a w8 s=>?_
  have J:=s.below
  replace I:=I.trans (J.mono I.size)
  replace O:=O.below J
  replace h4:=(SF.row 3 (qns csv)).st _ _ _ h4 J
  replace h5:=(SF.row 1 (ins ssv)).st _ _ _ h5 J
  replace h8:=(SF.row 5 (rqs (rds N js fs))).st _ _ _ h8 J
  replace h6:=h6.below J
  replace s:=s.anewB rfl rfl
  refine rF<|yC (fun(y:Nat×Nat×List Nat×Value) a w=>(y.2.1<N/\ssv.getD y.2.1 0=(y.1:Int)/\Opt (grE N js fs) xn y.2.1 (csv.getD y.2.1 0) y.1/\y.2.2.1++zD2 (nxF (grE N js fs) N csv ssv) xn y.1 y.2.1=zn::zD2 (nxF (grE N js fs) N csv ssv) xn s0 zn/\y.2.2.1.length+y.1=s0+1)/\Below W.heap.size W w/\q9 w hd 32 3 1 [CU.len 3]/\(SF.row 3 (qns csv)).p vc w/\(SF.row 1 (ins ssv)).p vs w/\(SF.row 5 (rqs (rds N js fs))).p lr w/\y9 w W.heap.size 3 1 y.2.2.2 (ins (jI y.2.2.1).reverse)/\St w [(3,.u (uI (xn:Int))),(4,.u (uI (zn:Int))),(11,.u (UF.eq (pO hd 0))),(13,.u (UF.eq vc)),(14,.u (UF.eq vs)),(15,.u (UF.eq lr)),(16,.u (UF.eq (y.2.2.2))),(17,.u (uI (y.2.1:Int)))] [] f20.ntmps [] a w) (fun y=>y.1) (s0,zn, [zn],tv) ⟨⟨hs,q3,q1,rfl,gL _ _⟩,I,O,h4,h5,h8,h6,s.keepK _ (sH zFl<|sH zGN<|sH mz7<|sH mz4<|sH mz3<|sH mz2<|sH mz1<|sH (.head _) fnz)⟩ fun y a w hx=>?_
  clear I O h4 h5 h8 h6
  obtain⟨⟨hP,qo,hop,x0,hln⟩,I,O,h4,h5,h8,h6,s⟩:=hx
  refine fK<|rgQ ((62,.Z (uI (y.2.1:Int)))::(63,.Z (uI (xn:Int)))::(64,.u (uB ((y.2.1:Int) !=(xn:Int))))::[]) s
   (oc zA<|oc zA<|oc (zJ .i64 (y.2.1:Int) (xn:Int) ((y.2.1:Int) !=(xn:Int)) iiz iiz rfl rfl)<|zC) fun a w9 s=>?_
  have J:=s.below
  replace I:=I.trans (J.mono I.size)
  replace O:=O.below J
  replace h4:=(SF.row 3 (qns csv)).st _ _ _ h4 J
  replace h5:=(SF.row 1 (ins ssv)).st _ _ _ h5 J
  replace h8:=(SF.row 5 (rqs (rds N js fs))).st _ _ _ h8 J
  replace h6:=h6.below J
  replace s:=s.anewB rfl rfl
  refine StS.cond s ((y.2.1:Int) !=(xn:Int)) iiz (fun e=>?_) (fun e=>?_)
  .have hO:y.2.1≠xn:=by intro h;rw[h]at e;simp at e
   obtain⟨t,et⟩:∃t,y.1=t+1:=by
    rcases hy1:y.1 with _|t
    .rw[hy1]at hop;exact absurd (zEj hop.1).1 hO
    .exact⟨t,rfl⟩
   obtain⟨xg,-,-,xw,xf⟩:=hm.nx q0 qj hI hP (s:=t) (by rw[qo,et]) (by rw[<-et];exact hop)
   have xi:(rds N js fs).foldl (bkS csv ssv y.2.1) (-1)=(((nxF (grE N js fs) N csv ssv) y.2.1:Nat):Int):=zTV hI hP hm (s:=t) (by rw[qo,et]) (by rw[<-et];exact hop)
   have hrlen:=zBN N js fs js.length
   have hjl:=hB.hj
   have hkb:(rds N js fs).length<=122:=by unfold rds;omega
   have xd:y.2.1<csv.length:=by rw[qa];exact hP
   have qk:y.2.1<ssv.length:=by rw[q2];exact hP
   have xc:QB (csv.getD y.2.1 0) 1:=hB.qb hop.1 oA
   refine nQ<|rF<|rgQ ((18,.u (uI (-1)))::[]) s
    (oc zE<|zC) fun a w10 s=>?_
   have J:=s.below
   replace I:=I.trans (J.mono I.size)
   replace O:=O.below J
   replace h4:=(SF.row 3 (qns csv)).st _ _ _ h4 J
   replace h5:=(SF.row 1 (ins ssv)).st _ _ _ h5 J
   replace h8:=(SF.row 5 (rqs (rds N js fs))).st _ _ _ h8 J
   replace h6:=h6.below J
   replace s:=s.anewB rfl rfl
   refine fK<|rgQ ((19,.u (uI 0))::[]) s
    (oc zE<|zC) fun a w11 s=>?_
   have J:=s.below
   replace I:=I.trans (J.mono I.size)
   replace O:=O.below J
   replace h4:=(SF.row 3 (qns csv)).st _ _ _ h4 J
   replace h5:=(SF.row 1 (ins ssv)).st _ _ _ h5 J
   replace h8:=(SF.row 5 (rqs (rds N js fs))).st _ _ _ h8 J
   replace h6:=h6.below J
   replace s:=s.anewB rfl rfl
   refine rF<|yC (fun(q:Nat×Int) a w=>q.1<=(rds N js fs).length/\q.2=((rds N js fs).take q.1).foldl (bkS csv ssv y.2.1) (-1)/\Below W.heap.size W w/\q9 w hd 32 3 1 [CU.len 3]/\(SF.row 3 (qns csv)).p vc w/\(SF.row 1 (ins ssv)).p vs w/\(SF.row 5 (rqs (rds N js fs))).p lr w/\y9 w W.heap.size 3 1 y.2.2.2 (ins (jI y.2.2.1).reverse)/\St w [(3,.u (uI (xn:Int))),(4,.u (uI (zn:Int))),(11,.u (UF.eq (pO hd 0))),(13,.u (UF.eq vc)),(14,.u (UF.eq vs)),(15,.u (UF.eq lr)),(16,.u (UF.eq (y.2.2.2))),(17,.u (uI (y.2.1:Int))),(18,.u (uI (q.2))),(19,.u (uI (q.1:Int)))] [] f20.ntmps [] a w) (fun q=>(rds N js fs).length-q.1) (0,-1) ⟨vS _,rfl,I,O,h4,h5,h8,h6,s.keepK _ (sH mz3<|sH mz4<|sH mz5<|sH mz6<|sH mz7<|sH mz8<|sH mz9<|sH zC1<|sH mz1<|sH (.head _) fnz)⟩ fun q a w hx=>?_
   clear I O h4 h5 h8 h6
   obtain⟨hk,hM,I,O,h4,h5,h8,h6,s⟩:=hx
   refine fK<|rgQ ((65,.Z (uI (q.1:Int)))::(66,.Z (UF.eq lr))::(67,.Z (uI ((rqs (rds N js fs)).length:Int)))::(68,.u (uB (decide ((q.1:Int)<((rqs (rds N js fs)).length:Int)))))::[]) s
    (oc zA<|oc zA<|oc (qZ (z:=5) (Cs:=rqs (rds N js fs)) kA (y7 h8 s) (fun _=>rfl))<|oc (zJ .i64 (q.1:Int) ((rqs (rds N js fs)).length:Int) (decide ((q.1:Int)<((rqs (rds N js fs)).length:Int))) iiz iiz rfl rfl)<|zC) fun a w12 s=>?_
   have J:=s.below
   replace I:=I.trans (J.mono I.size)
   replace O:=O.below J
   replace h4:=(SF.row 3 (qns csv)).st _ _ _ h4 J
   replace h5:=(SF.row 1 (ins ssv)).st _ _ _ h5 J
   replace h8:=(SF.row 5 (rqs (rds N js fs))).st _ _ _ h8 J
   replace h6:=h6.below J
   replace s:=s.anewB rfl rfl
   refine StS.cond s (decide ((q.1:Int)<((rqs (rds N js fs)).length:Int))) iiz (fun e=>?_) (fun e=>?_)
   .have he:q.1<(rds N js fs).length:=by have h7:=xW e;simp only[xT]at h7;omega
    have xa:((rds N js fs).getD q.1 (0,0,0))∈(rds N js fs):=by rw[nX,mD he];exact uO he
    have ql:=zJa ((rds N js fs).getD q.1 (0,0,0)) xa
    have q6:((rds N js fs).getD q.1 (0,0,0)).1<N:=ql.1
    have xp:((rds N js fs).getD q.1 (0,0,0)).1<csv.length:=by rw[qa];exact q6
    have qz:((rds N js fs).getD q.1 (0,0,0)).1<ssv.length:=by rw[q2];exact q6
    have hY:QB ((rds N js fs).getD q.1 (0,0,0)).2.2 1:=hB.qr (a:=((rds N js fs).getD q.1 (0,0,0)).1) (r:=((rds N js fs).getD q.1 (0,0,0)).2) ql.2.2
    have q5:QB (csv.getD ((rds N js fs).getD q.1 (0,0,0)).1 0) 1:=by rw[<-ecs];exact zSl hB x q6
    refine nQ<|fK<|rF<|fK<|rgK 4 ((71,.Z (UF.eq lr))::(72,.Z (uI (q.1:Int)))::(73,.Y (fRd ((rds N js fs).getD q.1 (0,0,0))))::(74,.u (fRd ((rds N js fs).getD q.1 (0,0,0))))::[]) s
     (oc zA<|oc zA<|oc (zL (z:=5) (Cs:=rqs (rds N js fs)) (i:=q.1) (C:=CU.agg (fRd ((rds N js fs).getD q.1 (0,0,0)))) kA (zBf he) (y7 h8 s) iiz)<|oc (yJ (f:=fRd ((rds N js fs).getD q.1 (0,0,0))) 5 kA (hz:=zO5 _))<|zC) fun a w13 s=>yP (CU.len 5) (cs:=[.int .i64 0,.int .i64 0,.bool false,.slice none 0 0,.slice none 0 0]) kA rfl s kA (fun W=>rfl) rfl fun hl a w s=>yI (fRd ((rds N js fs).getD q.1 (0,0,0))) rfl s zJb fun a w s=>zF rfl ?_
    replace s:StS _ _ _ [⟨20,59,CU.agg (fRd ((rds N js fs).getD q.1 (0,0,0))),hl,true⟩] _ _ _ _:=s.freeze
    have J:=s.below
    replace I:=I.trans (J.mono I.size)
    replace O:=O.below J
    replace h4:=(SF.row 3 (qns csv)).st _ _ _ h4 J
    replace h5:=(SF.row 1 (ins ssv)).st _ _ _ h5 J
    replace h8:=(SF.row 5 (rqs (rds N js fs))).st _ _ _ h8 J
    replace h6:=h6.below J
    replace s:=s.anewB rfl rfl
    refine fK<|rgQ ((75,.X (fRd ((rds N js fs).getD q.1 (0,0,0))) 1)::(76,.Z (uI ((((rds N js fs).getD q.1 (0,0,0)).2.1:Nat):Int)))::(77,.Z (uI (y.2.1:Int)))::(78,.Z (uB (((((rds N js fs).getD q.1 (0,0,0)).2.1:Nat):Int) !=(y.2.1:Int))))::(79,.Z (uB (((((rds N js fs).getD q.1 (0,0,0)).2.1:Nat):Int) !=(y.2.1:Int))))::(80,.s (SF.imp ((((((rds N js fs).getD q.1 (0,0,0)).2.1:Nat):Int) !=(y.2.1:Int))=false) ((UF.eq vs).tS)))::(81,.s (SF.imp ((((((rds N js fs).getD q.1 (0,0,0)).2.1:Nat):Int) !=(y.2.1:Int))=false) (wB ((CU.agg (fRd ((rds N js fs).getD q.1 (0,0,0)))).cf.at 0))))::(82,.s (SF.imp ((((((rds N js fs).getD q.1 (0,0,0)).2.1:Nat):Int) !=(y.2.1:Int))=false) ((uI ((((rds N js fs).getD q.1 (0,0,0)).1:Nat):Int)).tS)))::(83,.s (SF.imp ((((((rds N js fs).getD q.1 (0,0,0)).2.1:Nat):Int) !=(y.2.1:Int))=false) (wB (wC [.int .i64 (ssv.getD ((rds N js fs).getD q.1 (0,0,0)).1 0)]).cf)))::(84,.s (SF.imp ((((((rds N js fs).getD q.1 (0,0,0)).2.1:Nat):Int) !=(y.2.1:Int))=false) ((uI (ssv.getD ((rds N js fs).getD q.1 (0,0,0)).1 0)).tS)))::(85,.s (SF.imp ((((((rds N js fs).getD q.1 (0,0,0)).2.1:Nat):Int) !=(y.2.1:Int))=false) ((UF.eq vs).tS)))::(86,.s (SF.imp ((((((rds N js fs).getD q.1 (0,0,0)).2.1:Nat):Int) !=(y.2.1:Int))=false) ((uI (y.2.1:Int)).tS)))::(87,.s (SF.imp ((((((rds N js fs).getD q.1 (0,0,0)).2.1:Nat):Int) !=(y.2.1:Int))=false) (wB (wC [.int .i64 (ssv.getD y.2.1 0)]).cf)))::(88,.s (SF.imp ((((((rds N js fs).getD q.1 (0,0,0)).2.1:Nat):Int) !=(y.2.1:Int))=false) ((uI (ssv.getD y.2.1 0)).tS)))::(89,.s (SF.imp ((((((rds N js fs).getD q.1 (0,0,0)).2.1:Nat):Int) !=(y.2.1:Int))=false) ((uI (ssv.getD y.2.1 0-1)).tS)))::(90,.s (SF.imp ((((((rds N js fs).getD q.1 (0,0,0)).2.1:Nat):Int) !=(y.2.1:Int))=false) ((uB ((ssv.getD ((rds N js fs).getD q.1 (0,0,0)).1 0) !=(ssv.getD y.2.1 0-1))).tS)))::(91,.Z (uB ((((((rds N js fs).getD q.1 (0,0,0)).2.1:Nat):Int) !=(y.2.1:Int))||((ssv.getD ((rds N js fs).getD q.1 (0,0,0)).1 0) !=(ssv.getD y.2.1 0-1)))))::(92,.Z (uB ((((((rds N js fs).getD q.1 (0,0,0)).2.1:Nat):Int) !=(y.2.1:Int))||((ssv.getD ((rds N js fs).getD q.1 (0,0,0)).1 0) !=(ssv.getD y.2.1 0-1)))))::(93,.s (SF.imp (((((((rds N js fs).getD q.1 (0,0,0)).2.1:Nat):Int) !=(y.2.1:Int))||((ssv.getD ((rds N js fs).getD q.1 (0,0,0)).1 0) !=(ssv.getD y.2.1 0-1)))=false) ((UF.eq vc).tS)))::(94,.s (SF.imp (((((((rds N js fs).getD q.1 (0,0,0)).2.1:Nat):Int) !=(y.2.1:Int))||((ssv.getD ((rds N js fs).getD q.1 (0,0,0)).1 0) !=(ssv.getD y.2.1 0-1)))=false) (wB ((CU.agg (fRd ((rds N js fs).getD q.1 (0,0,0)))).cf.at 0))))::(95,.s (SF.imp (((((((rds N js fs).getD q.1 (0,0,0)).2.1:Nat):Int) !=(y.2.1:Int))||((ssv.getD ((rds N js fs).getD q.1 (0,0,0)).1 0) !=(ssv.getD y.2.1 0-1)))=false) ((uI ((((rds N js fs).getD q.1 (0,0,0)).1:Nat):Int)).tS)))::(96,.s (SF.imp (((((((rds N js fs).getD q.1 (0,0,0)).2.1:Nat):Int) !=(y.2.1:Int))||((ssv.getD ((rds N js fs).getD q.1 (0,0,0)).1 0) !=(ssv.getD y.2.1 0-1)))=false) (wB (cg (fQN (csv.getD ((rds N js fs).getD q.1 (0,0,0)).1 0))))))::(97,.s (SF.imp (((((((rds N js fs).getD q.1 (0,0,0)).2.1:Nat):Int) !=(y.2.1:Int))||((ssv.getD ((rds N js fs).getD q.1 (0,0,0)).1 0) !=(ssv.getD y.2.1 0-1)))=false) ((fQN (csv.getD ((rds N js fs).getD q.1 (0,0,0)).1 0)).tS)))::(98,.s (SF.imp (((((((rds N js fs).getD q.1 (0,0,0)).2.1:Nat):Int) !=(y.2.1:Int))||((ssv.getD ((rds N js fs).getD q.1 (0,0,0)).1 0) !=(ssv.getD y.2.1 0-1)))=false) (wB ((CU.agg (fRd ((rds N js fs).getD q.1 (0,0,0)))).cf.at 2))))::(99,.s (SF.imp (((((((rds N js fs).getD q.1 (0,0,0)).2.1:Nat):Int) !=(y.2.1:Int))||((ssv.getD ((rds N js fs).getD q.1 (0,0,0)).1 0) !=(ssv.getD y.2.1 0-1)))=false) ((fQN (((rds N js fs).getD q.1 (0,0,0)).2.2)).tS)))::(100,.s (SF.imp (((((((rds N js fs).getD q.1 (0,0,0)).2.1:Nat):Int) !=(y.2.1:Int))||((ssv.getD ((rds N js fs).getD q.1 (0,0,0)).1 0) !=(ssv.getD y.2.1 0-1)))=false) (SF.row 3 (rvs 1 [(csv.getD ((rds N js fs).getD q.1 (0,0,0)).1 0),((rds N js fs).getD q.1 (0,0,0)).2.2]))))::(101,.s (SF.imp (((((((rds N js fs).getD q.1 (0,0,0)).2.1:Nat):Int) !=(y.2.1:Int))||((ssv.getD ((rds N js fs).getD q.1 (0,0,0)).1 0) !=(ssv.getD y.2.1 0-1)))=false) ((fQN (csv.getD ((rds N js fs).getD q.1 (0,0,0)).1 0+((rds N js fs).getD q.1 (0,0,0)).2.2)).tS)))::(102,.s (SF.imp (((((((rds N js fs).getD q.1 (0,0,0)).2.1:Nat):Int) !=(y.2.1:Int))||((ssv.getD ((rds N js fs).getD q.1 (0,0,0)).1 0) !=(ssv.getD y.2.1 0-1)))=false) ((UF.eq vc).tS)))::(103,.s (SF.imp (((((((rds N js fs).getD q.1 (0,0,0)).2.1:Nat):Int) !=(y.2.1:Int))||((ssv.getD ((rds N js fs).getD q.1 (0,0,0)).1 0) !=(ssv.getD y.2.1 0-1)))=false) ((uI (y.2.1:Int)).tS)))::(104,.s (SF.imp (((((((rds N js fs).getD q.1 (0,0,0)).2.1:Nat):Int) !=(y.2.1:Int))||((ssv.getD ((rds N js fs).getD q.1 (0,0,0)).1 0) !=(ssv.getD y.2.1 0-1)))=false) (wB (cg (fQN (csv.getD y.2.1 0))))))::(105,.s (SF.imp (((((((rds N js fs).getD q.1 (0,0,0)).2.1:Nat):Int) !=(y.2.1:Int))||((ssv.getD ((rds N js fs).getD q.1 (0,0,0)).1 0) !=(ssv.getD y.2.1 0-1)))=false) ((fQN (csv.getD y.2.1 0)).tS)))::(106,.s (SF.imp (((((((rds N js fs).getD q.1 (0,0,0)).2.1:Nat):Int) !=(y.2.1:Int))||((ssv.getD ((rds N js fs).getD q.1 (0,0,0)).1 0) !=(ssv.getD y.2.1 0-1)))=false) ((uI (qsg (csv.getD ((rds N js fs).getD q.1 (0,0,0)).1 0+((rds N js fs).getD q.1 (0,0,0)).2.2) (csv.getD y.2.1 0))).tS)))::(107,.s (SF.imp (((((((rds N js fs).getD q.1 (0,0,0)).2.1:Nat):Int) !=(y.2.1:Int))||((ssv.getD ((rds N js fs).getD q.1 (0,0,0)).1 0) !=(ssv.getD y.2.1 0-1)))=false) ((uB ((qsg (csv.getD ((rds N js fs).getD q.1 (0,0,0)).1 0+((rds N js fs).getD q.1 (0,0,0)).2.2) (csv.getD y.2.1 0)) !=0)).tS)))::(108,.u (uB (((((((rds N js fs).getD q.1 (0,0,0)).2.1:Nat):Int) !=(y.2.1:Int))||((ssv.getD ((rds N js fs).getD q.1 (0,0,0)).1 0) !=(ssv.getD y.2.1 0-1)))||((qsg (csv.getD ((rds N js fs).getD q.1 (0,0,0)).1 0+((rds N js fs).getD q.1 (0,0,0)).2.2) (csv.getD y.2.1 0)) !=0))))::[]) s
     (oc (zO (C:=cg (fRd ((rds N js fs).getD q.1 (0,0,0)))) 1 kA)<|oc (yK (C:=cg (fRd ((rds N js fs).getD q.1 (0,0,0)))) (k:=1) kA (h:=zMT))<|oc zA<|oc (zJ .i64 ((((rds N js fs).getD q.1 (0,0,0)).2.1:Nat):Int) (y.2.1:Int) (((((rds N js fs).getD q.1 (0,0,0)).2.1:Nat):Int) !=(y.2.1:Int)) iiz iiz rfl rfl)<|oc zA<|oc (zB 79 (((((rds N js fs).getD q.1 (0,0,0)).2.1:Nat):Int) !=(y.2.1:Int)) kA iiz (fun e=>zI [] ((UF.eq vs).tS) fnz (fun _ _ h _=>h) kA zA) (fun e W h=>absurd h e))<|oc (zB 79 (((((rds N js fs).getD q.1 (0,0,0)).2.1:Nat):Int) !=(y.2.1:Int)) kA iiz (fun e=>zI [] (wB ((CU.agg (fRd ((rds N js fs).getD q.1 (0,0,0)))).cf.at 0)) fnz (fun _ _ h _=>h) kA (zO (C:=cg (fRd ((rds N js fs).getD q.1 (0,0,0)))) 0 kA)) (fun e W h=>absurd h e))<|oc (zB 79 (((((rds N js fs).getD q.1 (0,0,0)).2.1:Nat):Int) !=(y.2.1:Int)) kA iiz (fun e=>zI [(81,wB ((CU.agg (fRd ((rds N js fs).getD q.1 (0,0,0)))).cf.at 0))] ((uI ((((rds N js fs).getD q.1 (0,0,0)).1:Nat):Int)).tS) (sH (fun v W h=>zG (c:=(((((rds N js fs).getD q.1 (0,0,0)).2.1:Nat):Int) !=(y.2.1:Int))=false) (f:=wB ((CU.agg (fRd ((rds N js fs).getD q.1 (0,0,0)))).cf.at 0)) e h) fnz) (fun _ _ h _=>h) kA (yK (C:=cg (fRd ((rds N js fs).getD q.1 (0,0,0)))) (k:=0) kA (h:=zKy))) (fun e W h=>absurd h e))<|oc (zB 79 (((((rds N js fs).getD q.1 (0,0,0)).2.1:Nat):Int) !=(y.2.1:Int)) kA iiz (fun e=>zI [(80,(UF.eq vs).tS),(82,(uI ((((rds N js fs).getD q.1 (0,0,0)).1:Nat):Int)).tS)] (wB (wC [.int .i64 (ssv.getD ((rds N js fs).getD q.1 (0,0,0)).1 0)]).cf) (sH (fun v W h=>zG (c:=(((((rds N js fs).getD q.1 (0,0,0)).2.1:Nat):Int) !=(y.2.1:Int))=false) (f:=(UF.eq vs).tS) e h)<|sH (fun v W h=>zG (c:=(((((rds N js fs).getD q.1 (0,0,0)).2.1:Nat):Int) !=(y.2.1:Int))=false) (f:=(uI ((((rds N js fs).getD q.1 (0,0,0)).1:Nat):Int)).tS) e h) fnz) (fun _ _ h _=>h) kA (zL (z:=1) (Cs:=ins ssv) (i:=((rds N js fs).getD q.1 (0,0,0)).1) (C:=wC [.int .i64 (ssv.getD ((rds N js fs).getD q.1 (0,0,0)).1 0)]) kA (qC qz) (y7 h5 s) iiz)) (fun e W h=>absurd h e))<|oc (zB 79 (((((rds N js fs).getD q.1 (0,0,0)).2.1:Nat):Int) !=(y.2.1:Int)) kA iiz (fun e=>zI [(83,wB (wC [.int .i64 (ssv.getD ((rds N js fs).getD q.1 (0,0,0)).1 0)]).cf)] ((uI (ssv.getD ((rds N js fs).getD q.1 (0,0,0)).1 0)).tS) (sH (fun v W h=>zG (c:=(((((rds N js fs).getD q.1 (0,0,0)).2.1:Nat):Int) !=(y.2.1:Int))=false) (f:=wB (wC [.int .i64 (ssv.getD ((rds N js fs).getD q.1 (0,0,0)).1 0)]).cf) e h) fnz) (fun _ _ h _=>h) kA (z5 (C:=(wC [.int .i64 (ssv.getD ((rds N js fs).getD q.1 (0,0,0)).1 0)]).cf) kA iiz yT)) (fun e W h=>absurd h e))<|oc (zB 79 (((((rds N js fs).getD q.1 (0,0,0)).2.1:Nat):Int) !=(y.2.1:Int)) kA iiz (fun e=>zI [] ((UF.eq vs).tS) fnz (fun _ _ h _=>h) kA zA) (fun e W h=>absurd h e))<|oc (zB 79 (((((rds N js fs).getD q.1 (0,0,0)).2.1:Nat):Int) !=(y.2.1:Int)) kA iiz (fun e=>zI [] ((uI (y.2.1:Int)).tS) fnz (fun _ _ h _=>h) kA zA) (fun e W h=>absurd h e))<|oc (zB 79 (((((rds N js fs).getD q.1 (0,0,0)).2.1:Nat):Int) !=(y.2.1:Int)) kA iiz (fun e=>zI [(85,(UF.eq vs).tS),(86,(uI (y.2.1:Int)).tS)] (wB (wC [.int .i64 (ssv.getD y.2.1 0)]).cf) (sH (fun v W h=>zG (c:=(((((rds N js fs).getD q.1 (0,0,0)).2.1:Nat):Int) !=(y.2.1:Int))=false) (f:=(UF.eq vs).tS) e h)<|sH (fun v W h=>zG (c:=(((((rds N js fs).getD q.1 (0,0,0)).2.1:Nat):Int) !=(y.2.1:Int))=false) (f:=(uI (y.2.1:Int)).tS) e h) fnz) (fun _ _ h _=>h) kA (zL (z:=1) (Cs:=ins ssv) (i:=y.2.1) (C:=wC [.int .i64 (ssv.getD y.2.1 0)]) kA (qC qk) (y7 h5 s) iiz)) (fun e W h=>absurd h e))<|oc (zB 79 (((((rds N js fs).getD q.1 (0,0,0)).2.1:Nat):Int) !=(y.2.1:Int)) kA iiz (fun e=>zI [(87,wB (wC [.int .i64 (ssv.getD y.2.1 0)]).cf)] ((uI (ssv.getD y.2.1 0)).tS) (sH (fun v W h=>zG (c:=(((((rds N js fs).getD q.1 (0,0,0)).2.1:Nat):Int) !=(y.2.1:Int))=false) (f:=wB (wC [.int .i64 (ssv.getD y.2.1 0)]).cf) e h) fnz) (fun _ _ h _=>h) kA (z5 (C:=(wC [.int .i64 (ssv.getD y.2.1 0)]).cf) kA iiz yT)) (fun e W h=>absurd h e))<|oc (zB 79 (((((rds N js fs).getD q.1 (0,0,0)).2.1:Nat):Int) !=(y.2.1:Int)) kA iiz (fun e=>zI [(88,(uI (ssv.getD y.2.1 0)).tS)] ((uI (ssv.getD y.2.1 0-1)).tS) (sH (fun v W h=>zG (c:=(((((rds N js fs).getD q.1 (0,0,0)).2.1:Nat):Int) !=(y.2.1:Int))=false) (f:=(uI (ssv.getD y.2.1 0)).tS) e h) fnz) (fun _ _ h _=>h) kA (zAR .i64 (ssv.getD y.2.1 0) 1 (ssv.getD y.2.1 0-1) iiz iiz (zAE _ oA oA))) (fun e W h=>absurd h e))<|oc (zB 79 (((((rds N js fs).getD q.1 (0,0,0)).2.1:Nat):Int) !=(y.2.1:Int)) kA iiz (fun e=>zI [(84,(uI (ssv.getD ((rds N js fs).getD q.1 (0,0,0)).1 0)).tS),(89,(uI (ssv.getD y.2.1 0-1)).tS)] ((uB ((ssv.getD ((rds N js fs).getD q.1 (0,0,0)).1 0) !=(ssv.getD y.2.1 0-1))).tS) (sH (fun v W h=>zG (c:=(((((rds N js fs).getD q.1 (0,0,0)).2.1:Nat):Int) !=(y.2.1:Int))=false) (f:=(uI (ssv.getD ((rds N js fs).getD q.1 (0,0,0)).1 0)).tS) e h)<|sH (fun v W h=>zG (c:=(((((rds N js fs).getD q.1 (0,0,0)).2.1:Nat):Int) !=(y.2.1:Int))=false) (f:=(uI (ssv.getD y.2.1 0-1)).tS) e h) fnz) (fun _ _ h _=>h) kA (zJ .i64 (ssv.getD ((rds N js fs).getD q.1 (0,0,0)).1 0) (ssv.getD y.2.1 0-1) ((ssv.getD ((rds N js fs).getD q.1 (0,0,0)).1 0) !=(ssv.getD y.2.1 0-1)) iiz iiz rfl rfl)) (fun e W h=>absurd h e))<|oc (zT (((((rds N js fs).getD q.1 (0,0,0)).2.1:Nat):Int) !=(y.2.1:Int)) iiz (fun e v W h=>qH h e) (fun e v W h=>yX (zG e h) e))<|oc zA<|oc (zB 92 ((((((rds N js fs).getD q.1 (0,0,0)).2.1:Nat):Int) !=(y.2.1:Int))||((ssv.getD ((rds N js fs).getD q.1 (0,0,0)).1 0) !=(ssv.getD y.2.1 0-1))) kA iiz (fun e=>zI [] ((UF.eq vc).tS) fnz (fun _ _ h _=>h) kA zA) (fun e W h=>absurd h e))<|oc (zB 92 ((((((rds N js fs).getD q.1 (0,0,0)).2.1:Nat):Int) !=(y.2.1:Int))||((ssv.getD ((rds N js fs).getD q.1 (0,0,0)).1 0) !=(ssv.getD y.2.1 0-1))) kA iiz (fun e=>zI [] (wB ((CU.agg (fRd ((rds N js fs).getD q.1 (0,0,0)))).cf.at 0)) fnz (fun _ _ h _=>h) kA (zO (C:=cg (fRd ((rds N js fs).getD q.1 (0,0,0)))) 0 kA)) (fun e W h=>absurd h e))<|oc (zB 92 ((((((rds N js fs).getD q.1 (0,0,0)).2.1:Nat):Int) !=(y.2.1:Int))||((ssv.getD ((rds N js fs).getD q.1 (0,0,0)).1 0) !=(ssv.getD y.2.1 0-1))) kA iiz (fun e=>zI [(94,wB ((CU.agg (fRd ((rds N js fs).getD q.1 (0,0,0)))).cf.at 0))] ((uI ((((rds N js fs).getD q.1 (0,0,0)).1:Nat):Int)).tS) (sH (fun v W h=>zG (c:=((((((rds N js fs).getD q.1 (0,0,0)).2.1:Nat):Int) !=(y.2.1:Int))||((ssv.getD ((rds N js fs).getD q.1 (0,0,0)).1 0) !=(ssv.getD y.2.1 0-1)))=false) (f:=wB ((CU.agg (fRd ((rds N js fs).getD q.1 (0,0,0)))).cf.at 0)) e h) fnz) (fun _ _ h _=>h) kA (yK (C:=cg (fRd ((rds N js fs).getD q.1 (0,0,0)))) (k:=0) kA (h:=zKy))) (fun e W h=>absurd h e))<|oc (zB 92 ((((((rds N js fs).getD q.1 (0,0,0)).2.1:Nat):Int) !=(y.2.1:Int))||((ssv.getD ((rds N js fs).getD q.1 (0,0,0)).1 0) !=(ssv.getD y.2.1 0-1))) kA iiz (fun e=>zI [(93,(UF.eq vc).tS),(95,(uI ((((rds N js fs).getD q.1 (0,0,0)).1:Nat):Int)).tS)] (wB (cg (fQN (csv.getD ((rds N js fs).getD q.1 (0,0,0)).1 0)))) (sH (fun v W h=>zG (c:=((((((rds N js fs).getD q.1 (0,0,0)).2.1:Nat):Int) !=(y.2.1:Int))||((ssv.getD ((rds N js fs).getD q.1 (0,0,0)).1 0) !=(ssv.getD y.2.1 0-1)))=false) (f:=(UF.eq vc).tS) e h)<|sH (fun v W h=>zG (c:=((((((rds N js fs).getD q.1 (0,0,0)).2.1:Nat):Int) !=(y.2.1:Int))||((ssv.getD ((rds N js fs).getD q.1 (0,0,0)).1 0) !=(ssv.getD y.2.1 0-1)))=false) (f:=(uI ((((rds N js fs).getD q.1 (0,0,0)).1:Nat):Int)).tS) e h) fnz) (fun _ _ h _=>h) kA (zL (z:=3) (Cs:=qns csv) (i:=((rds N js fs).getD q.1 (0,0,0)).1) (C:=CU.agg (fQN (csv.getD ((rds N js fs).getD q.1 (0,0,0)).1 0))) kA (zBO xp) (y7 h4 s) iiz)) (fun e W h=>absurd h e))<|oc (zB 92 ((((((rds N js fs).getD q.1 (0,0,0)).2.1:Nat):Int) !=(y.2.1:Int))||((ssv.getD ((rds N js fs).getD q.1 (0,0,0)).1 0) !=(ssv.getD y.2.1 0-1))) kA iiz (fun e=>zI [(96,wB (cg (fQN (csv.getD ((rds N js fs).getD q.1 (0,0,0)).1 0))))] ((fQN (csv.getD ((rds N js fs).getD q.1 (0,0,0)).1 0)).tS) (sH (fun v W h=>zG (c:=((((((rds N js fs).getD q.1 (0,0,0)).2.1:Nat):Int) !=(y.2.1:Int))||((ssv.getD ((rds N js fs).getD q.1 (0,0,0)).1 0) !=(ssv.getD y.2.1 0-1)))=false) (f:=wB (cg (fQN (csv.getD ((rds N js fs).getD q.1 (0,0,0)).1 0)))) e h) fnz) (fun _ _ h _=>h) kA (yJ (f:=fQN (csv.getD ((rds N js fs).getD q.1 (0,0,0)).1 0)) 3 kA (hz:=yV _))) (fun e W h=>absurd h e))<|oc (zB 92 ((((((rds N js fs).getD q.1 (0,0,0)).2.1:Nat):Int) !=(y.2.1:Int))||((ssv.getD ((rds N js fs).getD q.1 (0,0,0)).1 0) !=(ssv.getD y.2.1 0-1))) kA iiz (fun e=>zI [] (wB ((CU.agg (fRd ((rds N js fs).getD q.1 (0,0,0)))).cf.at 2)) fnz (fun _ _ h _=>h) kA (zO (C:=cg (fRd ((rds N js fs).getD q.1 (0,0,0)))) 2 kA)) (fun e W h=>absurd h e))<|oc (zB 92 ((((((rds N js fs).getD q.1 (0,0,0)).2.1:Nat):Int) !=(y.2.1:Int))||((ssv.getD ((rds N js fs).getD q.1 (0,0,0)).1 0) !=(ssv.getD y.2.1 0-1))) kA iiz (fun e=>zI [(98,wB ((CU.agg (fRd ((rds N js fs).getD q.1 (0,0,0)))).cf.at 2))] ((fQN (((rds N js fs).getD q.1 (0,0,0)).2.2)).tS) (sH (fun v W h=>zG (c:=((((((rds N js fs).getD q.1 (0,0,0)).2.1:Nat):Int) !=(y.2.1:Int))||((ssv.getD ((rds N js fs).getD q.1 (0,0,0)).1 0) !=(ssv.getD y.2.1 0-1)))=false) (f:=wB ((CU.agg (fRd ((rds N js fs).getD q.1 (0,0,0)))).cf.at 2)) e h) fnz) (fun _ _ h _=>h) kA (jS (C:=cg (fRd ((rds N js fs).getD q.1 (0,0,0)))) (k:=2) 3 kA (h:=zJc))) (fun e W h=>absurd h e))<|oc (zB 92 ((((((rds N js fs).getD q.1 (0,0,0)).2.1:Nat):Int) !=(y.2.1:Int))||((ssv.getD ((rds N js fs).getD q.1 (0,0,0)).1 0) !=(ssv.getD y.2.1 0-1))) kA iiz (fun e=>zI [(97,(fQN (csv.getD ((rds N js fs).getD q.1 (0,0,0)).1 0)).tS),(99,(fQN (((rds N js fs).getD q.1 (0,0,0)).2.2)).tS)] (SF.row 3 (rvs 1 [(csv.getD ((rds N js fs).getD q.1 (0,0,0)).1 0),((rds N js fs).getD q.1 (0,0,0)).2.2])) (sH (fun v W h=>zG (c:=((((((rds N js fs).getD q.1 (0,0,0)).2.1:Nat):Int) !=(y.2.1:Int))||((ssv.getD ((rds N js fs).getD q.1 (0,0,0)).1 0) !=(ssv.getD y.2.1 0-1)))=false) (f:=(fQN (csv.getD ((rds N js fs).getD q.1 (0,0,0)).1 0)).tS) e h)<|sH (fun v W h=>zG (c:=((((((rds N js fs).getD q.1 (0,0,0)).2.1:Nat):Int) !=(y.2.1:Int))||((ssv.getD ((rds N js fs).getD q.1 (0,0,0)).1 0) !=(ssv.getD y.2.1 0-1)))=false) (f:=(fQN (((rds N js fs).getD q.1 (0,0,0)).2.2)).tS) e h) fnz) (fun _ _ h _=>h) kA (y8 (fun u v W (hu:QNp (csv.getD ((rds N js fs).getD q.1 (0,0,0)).1 0) u W) (hv:QNp (((rds N js fs).getD q.1 (0,0,0)).2.2) v W)=>zKY (m:=1) (wH hu q5) (wH hv hY)))) (fun e W h=>absurd h e))<|oc (zB 92 ((((((rds N js fs).getD q.1 (0,0,0)).2.1:Nat):Int) !=(y.2.1:Int))||((ssv.getD ((rds N js fs).getD q.1 (0,0,0)).1 0) !=(ssv.getD y.2.1 0-1))) kA iiz (fun e=>zI [(100,SF.row 3 (rvs 1 [(csv.getD ((rds N js fs).getD q.1 (0,0,0)).1 0),((rds N js fs).getD q.1 (0,0,0)).2.2]))] ((fQN (csv.getD ((rds N js fs).getD q.1 (0,0,0)).1 0+((rds N js fs).getD q.1 (0,0,0)).2.2)).tS) (sH (fun v W h=>zG (c:=((((((rds N js fs).getD q.1 (0,0,0)).2.1:Nat):Int) !=(y.2.1:Int))||((ssv.getD ((rds N js fs).getD q.1 (0,0,0)).1 0) !=(ssv.getD y.2.1 0-1)))=false) (f:=SF.row 3 (rvs 1 [(csv.getD ((rds N js fs).getD q.1 (0,0,0)).1 0),((rds N js fs).getD q.1 (0,0,0)).2.2])) e h) fnz) (fun _ _ h _=>h) kA (zK zD zQZ (fun u0 W J (h0:(SF.row 3 (rvs 1 [(csv.getD ((rds N js fs).getD q.1 (0,0,0)).1 0),((rds N js fs).getD q.1 (0,0,0)).2.2])).p u0 W)=>zGb (m:=1) (p:=csv.getD ((rds N js fs).getD q.1 (0,0,0)).1 0) (q:=((rds N js fs).getD q.1 (0,0,0)).2.2) h0 q5 hY dA))) (fun e W h=>absurd h e))<|oc (zB 92 ((((((rds N js fs).getD q.1 (0,0,0)).2.1:Nat):Int) !=(y.2.1:Int))||((ssv.getD ((rds N js fs).getD q.1 (0,0,0)).1 0) !=(ssv.getD y.2.1 0-1))) kA iiz (fun e=>zI [] ((UF.eq vc).tS) fnz (fun _ _ h _=>h) kA zA) (fun e W h=>absurd h e))<|oc (zB 92 ((((((rds N js fs).getD q.1 (0,0,0)).2.1:Nat):Int) !=(y.2.1:Int))||((ssv.getD ((rds N js fs).getD q.1 (0,0,0)).1 0) !=(ssv.getD y.2.1 0-1))) kA iiz (fun e=>zI [] ((uI (y.2.1:Int)).tS) fnz (fun _ _ h _=>h) kA zA) (fun e W h=>absurd h e))<|oc (zB 92 ((((((rds N js fs).getD q.1 (0,0,0)).2.1:Nat):Int) !=(y.2.1:Int))||((ssv.getD ((rds N js fs).getD q.1 (0,0,0)).1 0) !=(ssv.getD y.2.1 0-1))) kA iiz (fun e=>zI [(102,(UF.eq vc).tS),(103,(uI (y.2.1:Int)).tS)] (wB (cg (fQN (csv.getD y.2.1 0)))) (sH (fun v W h=>zG (c:=((((((rds N js fs).getD q.1 (0,0,0)).2.1:Nat):Int) !=(y.2.1:Int))||((ssv.getD ((rds N js fs).getD q.1 (0,0,0)).1 0) !=(ssv.getD y.2.1 0-1)))=false) (f:=(UF.eq vc).tS) e h)<|sH (fun v W h=>zG (c:=((((((rds N js fs).getD q.1 (0,0,0)).2.1:Nat):Int) !=(y.2.1:Int))||((ssv.getD ((rds N js fs).getD q.1 (0,0,0)).1 0) !=(ssv.getD y.2.1 0-1)))=false) (f:=(uI (y.2.1:Int)).tS) e h) fnz) (fun _ _ h _=>h) kA (zL (z:=3) (Cs:=qns csv) (i:=y.2.1) (C:=CU.agg (fQN (csv.getD y.2.1 0))) kA (zBO xd) (y7 h4 s) iiz)) (fun e W h=>absurd h e))<|oc (zB 92 ((((((rds N js fs).getD q.1 (0,0,0)).2.1:Nat):Int) !=(y.2.1:Int))||((ssv.getD ((rds N js fs).getD q.1 (0,0,0)).1 0) !=(ssv.getD y.2.1 0-1))) kA iiz (fun e=>zI [(104,wB (cg (fQN (csv.getD y.2.1 0))))] ((fQN (csv.getD y.2.1 0)).tS) (sH (fun v W h=>zG (c:=((((((rds N js fs).getD q.1 (0,0,0)).2.1:Nat):Int) !=(y.2.1:Int))||((ssv.getD ((rds N js fs).getD q.1 (0,0,0)).1 0) !=(ssv.getD y.2.1 0-1)))=false) (f:=wB (cg (fQN (csv.getD y.2.1 0)))) e h) fnz) (fun _ _ h _=>h) kA (yJ (f:=fQN (csv.getD y.2.1 0)) 3 kA (hz:=yV _))) (fun e W h=>absurd h e))<|oc (zB 92 ((((((rds N js fs).getD q.1 (0,0,0)).2.1:Nat):Int) !=(y.2.1:Int))||((ssv.getD ((rds N js fs).getD q.1 (0,0,0)).1 0) !=(ssv.getD y.2.1 0-1))) kA iiz (fun e=>zI [(101,(fQN (csv.getD ((rds N js fs).getD q.1 (0,0,0)).1 0+((rds N js fs).getD q.1 (0,0,0)).2.2)).tS),(105,(fQN (csv.getD y.2.1 0)).tS)] ((uI (qsg (csv.getD ((rds N js fs).getD q.1 (0,0,0)).1 0+((rds N js fs).getD q.1 (0,0,0)).2.2) (csv.getD y.2.1 0))).tS) (sH (fun v W h=>zG (c:=((((((rds N js fs).getD q.1 (0,0,0)).2.1:Nat):Int) !=(y.2.1:Int))||((ssv.getD ((rds N js fs).getD q.1 (0,0,0)).1 0) !=(ssv.getD y.2.1 0-1)))=false) (f:=(fQN (csv.getD ((rds N js fs).getD q.1 (0,0,0)).1 0+((rds N js fs).getD q.1 (0,0,0)).2.2)).tS) e h)<|sH (fun v W h=>zG (c:=((((((rds N js fs).getD q.1 (0,0,0)).2.1:Nat):Int) !=(y.2.1:Int))||((ssv.getD ((rds N js fs).getD q.1 (0,0,0)).1 0) !=(ssv.getD y.2.1 0-1)))=false) (f:=(fQN (csv.getD y.2.1 0)).tS) e h) fnz) (fun _ _ h _=>h) kA (zW zD zOt (fun u0 u1 W J (h0:QNp (csv.getD ((rds N js fs).getD q.1 (0,0,0)).1 0+((rds N js fs).getD q.1 (0,0,0)).2.2) u0 W) (h1:QNp (csv.getD y.2.1 0) u1 W)=>zGa (m:=3) (p:=(csv.getD ((rds N js fs).getD q.1 (0,0,0)).1 0+((rds N js fs).getD q.1 (0,0,0)).2.2)) (q:=(csv.getD y.2.1 0)) (wH h0 (vO q5 hY)) (wH h1 (xc.mono dA)) dA dA))) (fun e W h=>absurd h e))<|oc (zB 92 ((((((rds N js fs).getD q.1 (0,0,0)).2.1:Nat):Int) !=(y.2.1:Int))||((ssv.getD ((rds N js fs).getD q.1 (0,0,0)).1 0) !=(ssv.getD y.2.1 0-1))) kA iiz (fun e=>zI [(106,(uI (qsg (csv.getD ((rds N js fs).getD q.1 (0,0,0)).1 0+((rds N js fs).getD q.1 (0,0,0)).2.2) (csv.getD y.2.1 0))).tS)] ((uB ((qsg (csv.getD ((rds N js fs).getD q.1 (0,0,0)).1 0+((rds N js fs).getD q.1 (0,0,0)).2.2) (csv.getD y.2.1 0)) !=0)).tS) (sH (fun v W h=>zG (c:=((((((rds N js fs).getD q.1 (0,0,0)).2.1:Nat):Int) !=(y.2.1:Int))||((ssv.getD ((rds N js fs).getD q.1 (0,0,0)).1 0) !=(ssv.getD y.2.1 0-1)))=false) (f:=(uI (qsg (csv.getD ((rds N js fs).getD q.1 (0,0,0)).1 0+((rds N js fs).getD q.1 (0,0,0)).2.2) (csv.getD y.2.1 0))).tS) e h) fnz) (fun _ _ h _=>h) kA (zJ .i64 (qsg (csv.getD ((rds N js fs).getD q.1 (0,0,0)).1 0+((rds N js fs).getD q.1 (0,0,0)).2.2) (csv.getD y.2.1 0)) 0 ((qsg (csv.getD ((rds N js fs).getD q.1 (0,0,0)).1 0+((rds N js fs).getD q.1 (0,0,0)).2.2) (csv.getD y.2.1 0)) !=0) iiz iiz rfl rfl)) (fun e W h=>absurd h e))<|oc (zT ((((((rds N js fs).getD q.1 (0,0,0)).2.1:Nat):Int) !=(y.2.1:Int))||((ssv.getD ((rds N js fs).getD q.1 (0,0,0)).1 0) !=(ssv.getD y.2.1 0-1))) iiz (fun e v W h=>qH h e) (fun e v W h=>yX (zG e h) e))<|zC) fun a w14 s=>?_
    replace s:StS _ _ _ [⟨20,59,CU.agg (fRd ((rds N js fs).getD q.1 (0,0,0))),hl,true⟩] _ _ _ _:=s.freeze
    have J:=s.below
    replace I:=I.trans (J.mono I.size)
    replace O:=O.below J
    replace h4:=(SF.row 3 (qns csv)).st _ _ _ h4 J
    replace h5:=(SF.row 1 (ins ssv)).st _ _ _ h5 J
    replace h8:=(SF.row 5 (rqs (rds N js fs))).st _ _ _ h8 J
    replace h6:=h6.below J
    replace s:=s.anewB rfl rfl
    refine StS.cond s (((((((rds N js fs).getD q.1 (0,0,0)).2.1:Nat):Int) !=(y.2.1:Int))||((ssv.getD ((rds N js fs).getD q.1 (0,0,0)).1 0) !=(ssv.getD y.2.1 0-1)))||((qsg (csv.getD ((rds N js fs).getD q.1 (0,0,0)).1 0+((rds N js fs).getD q.1 (0,0,0)).2.2) (csv.getD y.2.1 0)) !=0)) iiz (fun e=>?_) (fun e=>?_)
    .have hS:bkB csv ssv y.2.1 ((rds N js fs).getD q.1 (0,0,0))=false:=Bool.eq_false_iff.2 fun h=>by rw[zPo.2 h]at e;cases e
     refine rG<|zP 2 ((69,.Z (uI (q.1:Int)))::(70,.u (uI ((q.1+1:Nat):Int)))::[]) s kA
      (oc zA<|oc (yL .i64 (q.1:Int) 1 ((q.1+1:Nat):Int) iiz iiz (wrap64 _ _ oA oA))<|zC) fun a w15 s=>?_
     replace s:=s.drop [19]
     refine yN (uI ((q.1+1:Nat):Int)) rfl s kA iiz fun a w s=>zF rfl ?_
     replace s:StS _ _ _ [⟨20,59,CU.agg (fRd ((rds N js fs).getD q.1 (0,0,0))),hl,true⟩] _ _ _ _:=s.freeze
     have J:=s.below
     replace I:=I.trans (J.mono I.size)
     replace O:=O.below J
     replace h4:=(SF.row 3 (qns csv)).st _ _ _ h4 J
     replace h5:=(SF.row 1 (ins ssv)).st _ _ _ h5 J
     replace h8:=(SF.row 5 (rqs (rds N js fs))).st _ _ _ h8 J
     replace h6:=h6.below J
     replace s:=s.anewB rfl rfl
     replace s:=s.popB
     exact⟨(q.1+1,q.2),(by show(rds N js fs).length-(q.1+1)<(rds N js fs).length-q.1;omega),he,(by show _=((rds N js fs).take (q.1+1)).foldl _ _;rw[zAr _ _ (0,0,0) _ he,<-hM];exact(zSp hS).symm),I,O,h4,h5,h8,h6,s.keepK _ (sH mz5<|sH mz6<|sH mz7<|sH mz8<|sH mz9<|sH zC1<|sH zDW<|sH zFl<|sH zGN<|sH (.head _) fnz)⟩
    .have hS:bkB csv ssv y.2.1 ((rds N js fs).getD q.1 (0,0,0))=true:=zPo.1 e
     refine nQ<|rgQ ((109,.Z (uI (q.2)))::(110,.Z (uB (decide (q.2<0))))::(111,.Z (uB (decide (q.2<0))))::(112,.s (SF.imp ((decide (q.2<0))=false) (wB ((CU.agg (fRd ((rds N js fs).getD q.1 (0,0,0)))).cf.at 0))))::(113,.s (SF.imp ((decide (q.2<0))=false) ((uI ((((rds N js fs).getD q.1 (0,0,0)).1:Nat):Int)).tS)))::(114,.s (SF.imp ((decide (q.2<0))=false) ((uI (q.2)).tS)))::(115,.s (SF.imp ((decide (q.2<0))=false) ((uB (decide (((((rds N js fs).getD q.1 (0,0,0)).1:Nat):Int)<q.2))).tS)))::(116,.u (uB ((decide (q.2<0))||(decide (((((rds N js fs).getD q.1 (0,0,0)).1:Nat):Int)<q.2)))))::[]) s
      (oc zA<|oc (zJ .i64 (q.2) 0 (decide (q.2<0)) iiz iiz rfl rfl)<|oc zA<|oc (zB 111 (decide (q.2<0)) kA iiz (fun e=>zI [] (wB ((CU.agg (fRd ((rds N js fs).getD q.1 (0,0,0)))).cf.at 0)) fnz (fun _ _ h _=>h) kA (zO (C:=cg (fRd ((rds N js fs).getD q.1 (0,0,0)))) 0 kA)) (fun e W h=>absurd h e))<|oc (zB 111 (decide (q.2<0)) kA iiz (fun e=>zI [(112,wB ((CU.agg (fRd ((rds N js fs).getD q.1 (0,0,0)))).cf.at 0))] ((uI ((((rds N js fs).getD q.1 (0,0,0)).1:Nat):Int)).tS) (sH (fun v W h=>zG (c:=(decide (q.2<0))=false) (f:=wB ((CU.agg (fRd ((rds N js fs).getD q.1 (0,0,0)))).cf.at 0)) e h) fnz) (fun _ _ h _=>h) kA (yK (C:=cg (fRd ((rds N js fs).getD q.1 (0,0,0)))) (k:=0) kA (h:=zKy))) (fun e W h=>absurd h e))<|oc (zB 111 (decide (q.2<0)) kA iiz (fun e=>zI [] ((uI (q.2)).tS) fnz (fun _ _ h _=>h) kA zA) (fun e W h=>absurd h e))<|oc (zB 111 (decide (q.2<0)) kA iiz (fun e=>zI [(113,(uI ((((rds N js fs).getD q.1 (0,0,0)).1:Nat):Int)).tS),(114,(uI (q.2)).tS)] ((uB (decide (((((rds N js fs).getD q.1 (0,0,0)).1:Nat):Int)<q.2))).tS) (sH (fun v W h=>zG (c:=(decide (q.2<0))=false) (f:=(uI ((((rds N js fs).getD q.1 (0,0,0)).1:Nat):Int)).tS) e h)<|sH (fun v W h=>zG (c:=(decide (q.2<0))=false) (f:=(uI (q.2)).tS) e h) fnz) (fun _ _ h _=>h) kA (zJ .i64 ((((rds N js fs).getD q.1 (0,0,0)).1:Nat):Int) (q.2) (decide (((((rds N js fs).getD q.1 (0,0,0)).1:Nat):Int)<q.2)) iiz iiz rfl rfl)) (fun e W h=>absurd h e))<|oc (zT (decide (q.2<0)) iiz (fun e v W h=>qH h e) (fun e v W h=>yX (zG e h) e))<|zC) fun a w16 s=>?_
     replace s:StS _ _ _ [⟨20,59,CU.agg (fRd ((rds N js fs).getD q.1 (0,0,0))),hl,true⟩] _ _ _ _:=s.freeze
     have J:=s.below
     replace I:=I.trans (J.mono I.size)
     replace O:=O.below J
     replace h4:=(SF.row 3 (qns csv)).st _ _ _ h4 J
     replace h5:=(SF.row 1 (ins ssv)).st _ _ _ h5 J
     replace h8:=(SF.row 5 (rqs (rds N js fs))).st _ _ _ h8 J
     replace h6:=h6.below J
     replace s:=s.anewB rfl rfl
     refine StS.cond s ((decide (q.2<0))||(decide (((((rds N js fs).getD q.1 (0,0,0)).1:Nat):Int)<q.2))) iiz (fun e=>?_) (fun e=>?_)
     .replace s:=s.drop [18]
      refine rgE ((117,.X (fRd ((rds N js fs).getD q.1 (0,0,0))) 0)::(118,.Z (uI ((((rds N js fs).getD q.1 (0,0,0)).1:Nat):Int)))::(18,.u (uI ((((rds N js fs).getD q.1 (0,0,0)).1:Nat):Int)))::[]) s
       (oc (zO (C:=cg (fRd ((rds N js fs).getD q.1 (0,0,0)))) 0 kA)<|oc (yK (C:=cg (fRd ((rds N js fs).getD q.1 (0,0,0)))) (k:=0) kA (h:=zKy))<|oc zE<|zC) fun a w17 s=>?_
      replace s:StS _ _ _ [⟨20,59,CU.agg (fRd ((rds N js fs).getD q.1 (0,0,0))),hl,true⟩] _ _ _ _:=s.freeze
      have J:=s.below
      replace I:=I.trans (J.mono I.size)
      replace O:=O.below J
      replace h4:=(SF.row 3 (qns csv)).st _ _ _ h4 J
      replace h5:=(SF.row 1 (ins ssv)).st _ _ _ h5 J
      replace h8:=(SF.row 5 (rqs (rds N js fs))).st _ _ _ h8 J
      replace h6:=h6.below J
      replace s:=s.anewB rfl rfl
      refine zP 2 ((69,.Z (uI (q.1:Int)))::(70,.u (uI ((q.1+1:Nat):Int)))::[]) s kA
       (oc zA<|oc (yL .i64 (q.1:Int) 1 ((q.1+1:Nat):Int) iiz iiz (wrap64 _ _ oA oA))<|zC) fun a w18 s=>?_
      replace s:=s.drop [19]
      refine yN (uI ((q.1+1:Nat):Int)) rfl s kA iiz fun a w s=>zF rfl ?_
      replace s:StS _ _ _ [⟨20,59,CU.agg (fRd ((rds N js fs).getD q.1 (0,0,0))),hl,true⟩] _ _ _ _:=s.freeze
      have J:=s.below
      replace I:=I.trans (J.mono I.size)
      replace O:=O.below J
      replace h4:=(SF.row 3 (qns csv)).st _ _ _ h4 J
      replace h5:=(SF.row 1 (ins ssv)).st _ _ _ h5 J
      replace h8:=(SF.row 5 (rqs (rds N js fs))).st _ _ _ h8 J
      replace h6:=h6.below J
      replace s:=s.anewB rfl rfl
      replace s:=s.popB
      exact⟨(q.1+1,((((rds N js fs).getD q.1 (0,0,0)).1:Nat):Int)),(by show(rds N js fs).length-(q.1+1)<(rds N js fs).length-q.1;omega),he,(by show _=((rds N js fs).take (q.1+1)).foldl _ _;rw[zAr _ _ (0,0,0) _ he,<-hM];exact(zOD hS e).symm),I,O,h4,h5,h8,h6,s.keepK _ (sH mz7<|sH mz8<|sH mz9<|sH zC1<|sH zDW<|sH zFl<|sH zGN<|sH zMU<|sH mz2<|sH (.head _) fnz)⟩
     .refine nQ ?_
      refine zP 2 ((69,.Z (uI (q.1:Int)))::(70,.u (uI ((q.1+1:Nat):Int)))::[]) s kA
       (oc zA<|oc (yL .i64 (q.1:Int) 1 ((q.1+1:Nat):Int) iiz iiz (wrap64 _ _ oA oA))<|zC) fun a w19 s=>?_
      replace s:=s.drop [19]
      refine yN (uI ((q.1+1:Nat):Int)) rfl s kA iiz fun a w s=>zF rfl ?_
      replace s:StS _ _ _ [⟨20,59,CU.agg (fRd ((rds N js fs).getD q.1 (0,0,0))),hl,true⟩] _ _ _ _:=s.freeze
      have J:=s.below
      replace I:=I.trans (J.mono I.size)
      replace O:=O.below J
      replace h4:=(SF.row 3 (qns csv)).st _ _ _ h4 J
      replace h5:=(SF.row 1 (ins ssv)).st _ _ _ h5 J
      replace h8:=(SF.row 5 (rqs (rds N js fs))).st _ _ _ h8 J
      replace h6:=h6.below J
      replace s:=s.anewB rfl rfl
      replace s:=s.popB
      exact⟨(q.1+1,q.2),(by show(rds N js fs).length-(q.1+1)<(rds N js fs).length-q.1;omega),he,(by show _=((rds N js fs).take (q.1+1)).foldl _ _;rw[zAr _ _ (0,0,0) _ he,<-hM];exact(zOC hS e).symm),I,O,h4,h5,h8,h6,s.keepK _ (sH mz6<|sH mz7<|sH mz8<|sH mz9<|sH zC1<|sH zDW<|sH zFl<|sH zGN<|sH zMU<|sH (.head _) fnz)⟩
   .have x7:q.1=(rds N js fs).length:=by have h7:=mB e;simp only[xT]at h7;omega
    have xk:q.2=(((nxF (grE N js fs) N csv ssv) y.2.1:Nat):Int):=by rw[hM,x7,pA,xi]
    rw[xk]at s
    refine rG<|fK ?_
    replace s:=s.drop [17]
    refine rgE ((119,.Z (uI (((nxF (grE N js fs) N csv ssv) y.2.1:Nat):Int)))::(17,.u (uI (((nxF (grE N js fs) N csv ssv) y.2.1:Nat):Int)))::[]) s
     (oc zA<|oc zE<|zC) fun a qm s=>?_
    have J:=s.below
    replace I:=I.trans (J.mono I.size)
    replace O:=O.below J
    replace h4:=(SF.row 3 (qns csv)).st _ _ _ h4 J
    replace h5:=(SF.row 1 (ins ssv)).st _ _ _ h5 J
    replace h8:=(SF.row 5 (rqs (rds N js fs))).st _ _ _ h8 J
    replace h6:=h6.below J
    replace s:=s.anewB rfl rfl
    refine zA1 3 ((120,.Z (uI (((nxF (grE N js fs) N csv ssv) y.2.1:Nat):Int)))::(121,.s (wD qm 3 1 [wC [.int .i64 (((nxF (grE N js fs) N csv ssv) y.2.1:Nat):Int)]]))::(122,.u (UF.eq (y.2.2.2)))::[]) s kA
     (oc zA<|oc (zBd (fun u W J (hu:u=.int .i64 (((nxF (grE N js fs) N csv ssv) y.2.1:Nat):Int))=>by subst hu;exact⟨_,_,zPR _,(zIb _ _).toN J.size rfl⟩))<|oc zA<|zC) fun a w21 s hr=>?_
    obtain⟨nv,e121⟩:∃v,a.tmps.getD 121 undef=v:=⟨_,rfl⟩
    have hN:=(hr (_,_) mz1)
    rw[show a.tmps.getD _ undef=nv from e121]at hN
    replace s:=s.learn 121 _ e121
    have qd:=s.below
    refine zFw (base:=qm.heap.size) (z:=1) (e:=3) (v:=nv) (Cs:=[wC [.int .i64 (((nxF (grE N js fs) N csv ssv) y.2.1:Nat):Int)]]) (ins (jI y.2.2.1).reverse) s hN qd.size rfl kA kA rfl rfl (s.fct (.tmp 121)) (by rw[show a.eval (.tmp 122)=y.2.2.2 from s.fct (.tmp 122)];exact(SF.row 1 (ins (jI y.2.2.1).reverse)).st _ _ _ (y9.row h6) qd) (fun C hC=>by obtain⟨q,_,rfl⟩:=xG.1 hC;exact zJE rfl rfl) (by simp only[xT,rU,jI,rI];omega) (fun q hq=>by cases hq) fun qe a w qu hn q4 hor s=>?_
    have J:=yD qd hn (fun q hq=>(hN.lt q hq).1)
    have qt:=I.trans (J.mono I.size)
    replace O:=O.below J
    replace h4:=(SF.row 3 (qns csv)).st _ _ _ h4 J
    replace h5:=(SF.row 1 (ins ssv)).st _ _ _ h5 J
    replace h8:=(SF.row 5 (rqs (rds N js fs))).st _ _ _ h8 J
    replace h6:y9 w W.heap.size 3 1 qe (ins (jI (y.2.2.1++ [(nxF (grE N js fs) N csv ssv) y.2.1])).reverse):=by have h7:=y9.mono qu I.size;rw[zR1]at h7;exact h7
    replace I:=qt
    replace s:=s.drop [16]
    refine yN (UF.eq qe) rfl s kA iiz fun a w s=>zF rfl ?_
    have J:=s.below
    replace I:=I.trans (J.mono I.size)
    replace O:=O.below J
    replace h4:=(SF.row 3 (qns csv)).st _ _ _ h4 J
    replace h5:=(SF.row 1 (ins ssv)).st _ _ _ h5 J
    replace h8:=(SF.row 5 (rqs (rds N js fs))).st _ _ _ h8 J
    replace h6:=h6.below J
    replace s:=s.anewB rfl rfl
    exact⟨(t,(nxF (grE N js fs) N csv ssv) y.2.1,y.2.2.1++ [(nxF (grE N js fs) N csv ssv) y.2.1],qe),(by show t<y.1;omega),⟨xg,xw,xf,(by show(y.2.2.1++ [(nxF (grE N js fs) N csv ssv) y.2.1])++zD2 (nxF (grE N js fs) N csv ssv) xn t ((nxF (grE N js fs) N csv ssv) y.2.1)=_;rw[<-x0,et,zD2,if_neg hO,pT];rfl),(by show(y.2.2.1++ [(nxF (grE N js fs) N csv ssv) y.2.1]).length+t=_;rw[uD,rI];omega)⟩,I,O,h4,h5,h8,h6,s.keepK _ (sH mz6<|sH mz7<|sH mz8<|sH mz9<|sH zC1<|sH zDW<|sH (.head _)<|sH mz4 fnz)⟩
  .have hO:y.2.1=xn:=by
    have e2:(y.2.1:Int)=(xn:Int):=by simpa using e
    omega
   refine rG<|fK ?_
   have qn:y.2.2.1=zn::zD2 (nxF (grE N js fs) N csv ssv) xn s0 zn:=by rw[<-x0];rcases hy:y.1 with _|t<;>simp[zD2,hO]
   refine zA2 (w:=w9) (n:=f20.ntmps) (fun i v U=>(uoF y.2.2.2 vc (zn:Int) (csv.getD zn 0) i).p v U) (fun _ U=>Below w9.heap.size w9 U) (fun _ U V=>Below U.heap.size U V) 6 hmix s.size kA (fun i l U V _ _ _ hC hR=>hC.trans (hR.mono hC.size)) (fun i j v U V _ hj hij hE hR=>(uoF y.2.2.2 vc (zn:Int) (csv.getD zn 0) j).st _ _ _ hE hR) (fun l U _ J=>J) (fun i o hi ho l a' U hf hnl hg Kk hK=>?_) (fun Q' hQ a' w' J x8 xj x3 hv=>?_)
   .have hU:=hf.cls
    have x5:((uoG y.2.2.2 vc (zn:Int) (csv.getD zn 0)) 16).p (a'.tmps.getD 16 undef) U:=by rw[hf.keep 16 (fun j hj=>yY (k:=6) kA j hj)];exact((uoG y.2.2.2 vc (zn:Int) (csv.getD zn 0)) 16).st _ _ _ (s.at.sl 16) hU
    have xe:((uoG y.2.2.2 vc (zn:Int) (csv.getD zn 0)) 13).p (a'.tmps.getD 13 undef) U:=by rw[hf.keep 13 (fun j hj=>yY (k:=6) kA j hj)];exact((uoG y.2.2.2 vc (zn:Int) (csv.getD zn 0)) 13).st _ _ _ (s.at.sl 13) hU
    have r4:((uoG y.2.2.2 vc (zn:Int) (csv.getD zn 0)) 4).p (a'.tmps.getD 4 undef) U:=by rw[hf.keep 4 (fun j hj=>yY (k:=6) kA j hj)];exact((uoG y.2.2.2 vc (zn:Int) (csv.getD zn 0)) 4).st _ _ _ (s.at.sl 4) hU
    have xu:i=0∨i=1∨i=2∨i=3∨i=4∨i=5:=oA
    rcases xu with rfl|rfl|rfl|rfl|rfl|rfl<;>obtain rfl:=mE ho
    .exact zKr (d:=124) (uoG y.2.2.2 vc (zn:Int) (csv.getD zn 0)) ho rfl rfl zA hU (sH x5 fnz) hK
    .exact zKr (d:=125) (uoG y.2.2.2 vc (zn:Int) (csv.getD zn 0)) ho rfl rfl zA hU (sH xe fnz) hK
    .exact zKr (d:=126) (uoG y.2.2.2 vc (zn:Int) (csv.getD zn 0)) ho rfl rfl zA hU (sH r4 fnz) hK
    .exact zKr (d:=127) (uoG y.2.2.2 vc (zn:Int) (csv.getD zn 0)) ho rfl rfl (zL (z:=3) (Cs:=qns csv) (i:=zn) (C:=CU.agg (fQN (csv.getD zn 0))) kA (zBO xb) (y7 h4 s) iiz) hU (sH (hf.vals 1 dA (yF hg kA) 125 rfl)<|sH (hf.vals 2 dA (yF hg kA) 126 rfl) fnz) hK
    .exact zKr (d:=128) (uoG y.2.2.2 vc (zn:Int) (csv.getD zn 0)) ho rfl rfl (yJ (f:=fQN (csv.getD zn 0)) 3 kA (hz:=yV _)) hU (sH (hf.vals 3 dA (yF hg kA) 127 rfl) fnz) hK
    .exact zKr (d:=10) (uoG y.2.2.2 vc (zn:Int) (csv.getD zn 0)) ho rfl rfl zE hU (sH (hf.vals 0 dA (yF hg kA) 124 rfl) fnz) hK
   .have e0:a'.tmps.getD 10 undef=y.2.2.2:=hv 5 dA 10 rfl
    have e4:QNp (csv.getD zn 0) (a'.tmps.getD 128 undef) w':=hv 4 dA 128 rfl
    have hJ:=(x3 11 (fun j hj=>yY (k:=6) kA j hj)).trans (s.val mz3)
    replace I:=I.trans (J.mono I.size)
    replace O:=O.below J
    replace h6:=h6.below J
    replace s:St w' [(10,.u (UF.eq y.2.2.2)),(128,.u (fQN (csv.getD zn 0))),(11,.u (UF.eq (pO hd 0)))] [] f20.ntmps [] a' w':=wV x8 (xj.trans s.nd) (sH ⟨_,rfl,e0⟩<|sH ⟨_,rfl,e4⟩<|sH ⟨_,rfl,hJ⟩ fnz)
    have qw:∀q_,y.2.2.2.ownBlock=some q_->q_≠hd:=fun q_ hq=>(zX O.at.choose_spec (qP h6 hq).2.choose_spec.1 dA).symm
    refine zAF (g:=hd) (i:=0) (cap:=1) (z:=3) (e:=32) (CU.agg (fQN (csv.getD zn 0))) rfl s rfl rfl O eN kA (s.fct (.tmp 11)) (zBS (s.fct (.tmp 128))) (fun q hq=>by cases hq) fun w hn q4 O s=>?_
    replace I:=yD I hn (fun q hq=>by rw[hq];exact hV)
    replace h6:=h6.keep (fun q hq=>hn.block q (h6.lt q hq).2 (qw q hq)) q4
    refine yN (uB true) rfl s kA iiz fun a w s=>?_
    have J:=s.below
    replace I:=I.trans (J.mono I.size)
    replace O:=O.below J
    replace h6:=h6.below J
    replace s:=s.anewB rfl rfl
    refine zF rfl (hQ _ _ ?_)
    refine nR ?_
    obtain⟨qq,g1,g2,g3⟩:=zCU O
    replace s:=s.home rfl rfl I
    exact vC s rfl kA (s.fct (.tmp 11)) g1 g2 ⟨_,_,_,rfl,by rw[hc,show a.tmps.getD 10 undef=_ from s.fct (.tmp 10),<-qn,show jI y.2.2.1.reverse=(jI y.2.2.1).reverse by simp[jI]];exact h6,by rw[hc];exact g3,by rw[hc];exact s.fct (.tmp 12)⟩
theorem zP4{way:List Int}(hu:u=.int .i64 n)(hj:(SF.row 2 (jns js)).p lj W)(hf:(SF.row 3 (rvs 1 fs)).p lf W)(h4:(SF.row 1 (ins way)).p lw W)(hwl:way.length<=60)(qg:min (max n 0) 131072=(N:Int))(hB:GrB N js fs)(hT:Tab W):Calls prog 23 #[u,lj,lf,lw] W (Ret W (zQT (wkR (grE N js fs) N way))):=by
 have I:Below W.heap.size W W:=xF _ _
 refine y2 [(uI n).tS,(UF.eq lj).tS,(UF.eq lf).tS,(UF.eq lw).tS] func23 rfl kA ⟨hu,rfl,rfl,rfl,trivial⟩ fun a s=>?_
 replace s:=s.renew [(0,.u (uI n)),(1,.u (UF.eq lj)),(2,.u (UF.eq lf)),(3,.u (UF.eq lw))] (sH (.inr ⟨_,rfl,.head _⟩)<|sH (.inr ⟨_,rfl,mz1⟩)<|sH (.inr ⟨_,rfl,mz2⟩)<|sH (.inr ⟨_,rfl,mz3⟩) fnz)
 refine fK<|rgK 0 [] s
  zC fun a w1 s=>yP (CU.len 3) (cs:=zR3) kA rfl s kA (fun W=>rfl) rfl fun b8 a w s=>yN (uB false) rfl s kA iiz fun a w s=>zF rfl ?_
 have hQ:=s.inB_new (q:=b8) ⟨_,.head _,rfl,rfl⟩
 obtain⟨c8,qo,e8,n8⟩:=s.boxAt (c:=8) rfl
 have h8:=zJO (C:=CU.len 3) qo e8 n8 e8
 replace s:=(s.learn 8 _ (s.bx.mem _ (.head _)).choose_spec.1).popB
 have J:=s.below
 replace I:=I.trans (J.mono I.size)
 replace h4:=(SF.row 1 (ins way)).st _ _ _ h4 J
 replace s:=s.anewB rfl rfl
 refine fK<|rgN ((18,.Z (uI n))::(19,.Z (UF.eq lj))::(20,.Z (UF.eq lf))::(21,.s (fG (glN N (rds N js fs))))::(10,.s (fG (glN N (rds N js fs))))::[]) s
  (oc zA<|oc zA<|oc zA<|oc (zBn zD zOq (fun u0 u1 u2 W J (h0:u0=.int .i64 n) (h1:u1=lj) (h2:u2=lf)=>zGK h0 (by rw[h1];exact(SF.row 2 (jns js)).st _ _ _ hj (I.trans ((s.up J).mono I.size))) (by rw[h2];exact(SF.row 3 (rvs 1 fs)).st _ _ _ hf (I.trans ((s.up J).mono I.size))) qg hB.hN hB.hj ((hT.below I).below (s.up J))))<|oc zE<|zC) fun a w2 s hr=>?_
 obtain⟨gg,cap,vs,hZ,hG⟩:=(hr (_,_) mz4)
 rw[jO]at hZ
 replace s:=s.learn 10 _ hZ
 have J:=s.below
 replace I:=I.trans (J.mono I.size)
 replace h4:=(SF.row 1 (ins way)).st _ _ _ h4 J
 replace h8:=h8.below J
 replace s:=s.anewB rfl rfl
 refine fK<|rgK 1 ((22,.u (fQN 0))::[]) s
  (oc (zK zD zHM (fun u0 W J (h0:u0=.int .i64 0)=>zDS h0))<|zC) fun a w3 s=>yP (CU.len 3) (cs:=zR3) kA rfl s kA (fun W=>rfl) rfl fun O a w s=>yI (fQN 0) rfl s yO fun a w s=>zF rfl<|fK<|rgQ ((23,.u (UF.eq lw))::(24,.u (uI ((ins way).length:Int)))::(25,.u (uI 0))::[]) s
  (oc zA<|oc (qZ (z:=1) (Cs:=ins way) kA (y7 h4 s) (fun _=>rfl))<|oc zA<|zC) fun a w4 s=>rF<|yC (fun(y:Nat×Rat) a w=>y.1<=way.length/\zD1 (grE N js fs) N way y.1=some y.2/\St w2 [(3,.u (UF.eq lw)),(8,.u (UF.eq (pO b8 0))),(10,.u (UF.eq (.slice (some ⟨gg,0,none⟩) N cap))),(23,.u (UF.eq lw)),(24,.u (uI ((ins way).length:Int))),(25,.u (uI (y.1:Int)))] [⟨11,32,CU.agg (fQN (y.2)),O,false⟩] f23.ntmps [] a w) (fun y=>way.length-y.1) (0,0) ⟨vS _,rfl,s.keepK _ (sH zC1<|sH mz5<|sH mz4<|sH (.head _)<|sH mz1<|sH mz2 fnz)⟩ fun y a w hx=>?_
 obtain⟨hk,hi,s⟩:=hx
 have hU:QB y.2 1:=zM2 hB oA hi
 refine rgQ ((26,.u (uB (decide ((y.1:Int)<((ins way).length:Int)))))::[]) s
  (oc (zJ .i64 (y.1:Int) ((ins way).length:Int) (decide ((y.1:Int)<((ins way).length:Int))) iiz iiz rfl rfl)<|zC) fun a w5 s=>fK<|StS.cond s (decide ((y.1:Int)<((ins way).length:Int))) iiz (fun e=>?_) (fun e=>?_)
 .have hD:y.1<way.length:=by have h7:=xW e;simp only[xT]at h7;omega
  refine nQ<|fK<|rF<|rgQ ((27,.Z (uI (y.1:Int)))::(28,.s (wB (wC [.int .i64 (way.getD y.1 0)]).cf))::(29,.Z (uI (way.getD y.1 0)))::(12,.u (uI (y.1:Int)))::(13,.u (uI (way.getD y.1 0)))::[]) s
   (oc zA<|oc (zL (z:=1) (Cs:=ins way) (i:=y.1) (C:=wC [.int .i64 (way.getD y.1 0)]) kA (qC hD) (y7 h4 s) iiz)<|oc (z5 (C:=(wC [.int .i64 (way.getD y.1 0)]).cf) kA iiz yT)<|oc zE<|oc zE<|zC) fun a w6 s=>fK<|fK ?_
  have hK:=hG.row (n:=N) (jO _ _).symm
  refine rgE ((30,.Z (UF.eq (.slice (some ⟨gg,0,none⟩) N cap)))::(31,.Z (uI (way.getD y.1 0)))::(32,.Z (uB (yU N (way.getD y.1 0))))::(33,.u (uB (!(yU N (way.getD y.1 0)))))::[]) s
   (oc zA<|oc zA<|oc (zW zD zKs (fun u0 u1 W J (h0:u0=(.slice (some ⟨gg,0,none⟩) N cap)) (h1:u1=.int .i64 (way.getD y.1 0))=>zKp h0 h1))<|oc (zAv (yU N (way.getD y.1 0)) iiz (fun _=>rfl))<|zC) fun a w7 s=>StS.cond s (!(yU N (way.getD y.1 0))) iiz (fun e=>?_) (fun e=>?_)
  .have qq:yU N (way.getD y.1 0)=false:=by simpa using e
   have h6:wkR (grE N js fs) N way=(0,false):=zEb (i:=y.1+1) (by rw[zCg hi,qq];rfl) hD
   refine fK ?_
   have hL:b8<_:=h8.lt
   have hn:b8<O:=by have:=s.inB_new (q:=O) ⟨_,.head _,rfl,rfl⟩;omega
   replace s:StS _ _ _ [⟨11,32,CU.agg (fQN (y.2)),O,true⟩] _ _ _ _:=s.freeze
   have he:∀q_,q_∈([⟨11,32,CU.agg (fQN (y.2)),O,true⟩]:List Bx)-> ¬q_.b=b8:=fmz ⟨(by show ¬O=b8;omega),fnz⟩
   refine rgK 1 ((34,.u (fQN 0))::[]) s
    (oc (zK zD zHM (fun u0 W J (h0:u0=.int .i64 0)=>zDS h0))<|zC) fun a w8 s=>?_
   have J:=s.below
   replace I:=I.trans (J.mono I.size)
   replace h4:=(SF.row 1 (ins way)).st _ _ _ h4 J
   replace h8:=h8.below J
   replace hG:=hG.below J
   refine zAF (g:=b8) (i:=0) (cap:=1) (z:=3) (e:=32) (CU.agg (fQN 0)) rfl s rfl rfl h8 eN kA (s.fct (.tmp 8)) (zBS (s.fct (.tmp 34))) (fun q_ hq=>he q_ hq) fun w hw q1 h8 s=>?_
   replace I:=yD I hw (fun q hq=>by rw[hq];exact hQ)
   refine yN (uB false) rfl s kA iiz fun a w s=>zF rfl<|nR ?_
   have J:=s.below
   replace I:=I.trans (J.mono I.size)
   replace h8:=h8.below J
   replace s:=s.popB
   replace s:=s.anewB rfl rfl
   obtain⟨c8,g1,g2,g3⟩:=zCU h8
   replace s:=s.home rfl rfl I
   exact wU s rfl kA (s.fct (.tmp 8)) g1 g2 ⟨_,_,rfl,by rw[h6];exact g3,by rw[h6];exact s.fct (.tmp 9)⟩
  .have hM:yU N (way.getD y.1 0)=true:=by simpa using e
   refine nQ<|fK<|rgQ ((35,.Z (uI (y.1:Int)))::(36,.u (uB ((y.1:Int)==0)))::[]) s
    (oc zA<|oc (zJ .i64 (y.1:Int) 0 ((y.1:Int)==0) iiz iiz rfl rfl)<|zC) fun a w9 s=>StS.cond s ((y.1:Int)==0) iiz (fun e=>?_) (fun e=>?_)
   .have hz:y.1=0:=by simpa using e
    refine rG<|zP 1 ((76,.u (uI ((y.1+1:Nat):Int)))::[]) s kA
     (oc (yL .i64 (y.1:Int) 1 ((y.1+1:Nat):Int) iiz iiz (wrap64 _ _ oA oA))<|zC) fun a w10 s=>?_
    replace s:=s.drop [25]
    exact zBD (uI ((y.1+1:Nat):Int)) rfl s kA zA kA fun a w s=>zF rfl<|⟨(y.1+1,y.2),(by show way.length-(y.1+1)<way.length-y.1;omega),hD,(by rw[zCg hi,if_pos hM,if_pos hz]),s.keepK _ (sH mz7<|sH mz8<|sH mz9<|sH zC1<|sH zDW<|sH (.head _) fnz)⟩
   .have hz:y.1≠0:=by simpa using e
    have qa:y.1-1<way.length:=oA
    obtain⟨i0,hi0⟩:∃i,y.1=i+1:=⟨y.1-1,oA⟩
    have qd:yU N (way.getD (y.1-1) 0)=true:=by have h7:=hi;rw[hi0]at h7;have:=zKG h7;rw[show y.1-1=i0 from oA];exact this
    obtain⟨hI,q4⟩:=y5 qd
    obtain⟨pn,epn⟩:∃k,(way.getD (y.1-1) 0).toNat=k:=⟨_,rfl⟩
    rw[epn]at hI q4
    have qh:=q4.symm
    have ql:∀{k:Nat} {o:Option Rat},o=((zH (rds N js fs) pn).take k).foldl (chS (way.getD y.1 0)) none->QB (o.getD 0) 1:=fun {k o} ho=>by
     cases o with
     |none=>exact QB.zero dA
     |some g=>
      obtain⟨⟨k',h1,h2⟩,_⟩:=zGJ (E:=fun _=>(zH (rds N js fs) pn).take k) (a:=pn) ho.symm
      exact hB.qr (a:=pn) (r:=(k',g)) (gA h2)
    have hdeg:(zH (rds N js fs) pn).length<=122:=by have h1:=zDN (rds N js fs) pn;have h2:=zBN N js fs js.length;have h3:=hB.hj;unfold rds at h1 ⊢;omega
    refine nQ<|fK<|rgK 1 ((37,.u (fQN 0))::[]) s
     (oc (zK zD zHM (fun u0 W J (h0:u0=.int .i64 0)=>zDS h0))<|zC) fun a w11 s=>yP (CU.len 3) (cs:=zR3) kA rfl s kA (fun W=>rfl) rfl fun hm a w s=>yI (fQN 0) rfl s yO fun a w s=>yN (uB false) rfl s kA iiz fun a w s=>zF rfl<|fK<|fK ?_
    have hK:=hG.row (n:=N) (jO _ _).symm
    have qk:pn<vs.length:=by rw[hG.ln,jO];exact hI
    have hO:=hG.at (i:=pn) (by rw[jO];exact hI)
    rw[zC5 _ hI]at hO
    refine rgE ((38,.Z (UF.eq (.slice (some ⟨gg,0,none⟩) N cap)))::(39,.Z (UF.eq lw))::(40,.Z (uI (y.1:Int)))::(41,.Z (uI ((y.1-1:Nat):Int)))::(42,.s (wB (wC [.int .i64 (way.getD (y.1-1) 0)]).cf))::(43,.Z (uI (way.getD (y.1-1) 0)))::(44,.s (wB (wC [(vs.getD pn (.slice none 0 0))]).cf))::(45,.u (UF.eq (vs.getD pn (.slice none 0 0))))::(46,.u (uI (((ros (zH (rds N js fs) pn)).length:Nat):Int)))::(47,.u (uI 0))::[]) s
     (oc zA<|oc zA<|oc zA<|oc (zAR .i64 (y.1:Int) 1 ((y.1-1:Nat):Int) iiz iiz (wrap64 _ _ oA oA))<|oc (zL (z:=1) (Cs:=ins way) (i:=(y.1-1)) (C:=wC [.int .i64 (way.getD (y.1-1) 0)]) kA (qC qa) (y7 h4 s) iiz)<|oc (z5 (C:=(wC [.int .i64 (way.getD (y.1-1) 0)]).cf) kA iiz yT)<|oc (zL (z:=1) (Cs:=sls vs) (i:=pn) (C:=wC [(vs.getD pn (.slice none 0 0))]) kA (zDy qk) (y7 hK s) (fun _ _ h=>h.trans (vX (Value.int .i64) qh)))<|oc (z5 (C:=(wC [(vs.getD pn (.slice none 0 0))]).cf) kA iiz yT)<|oc (qZ (z:=4) (Cs:=ros (zH (rds N js fs) pn)) kA (y7 hO s) (fun _=>rfl))<|oc zA<|zC) fun a w12 s=>rF<|yC (fun(q:Nat×Option Rat) a w=>q.1<=(zH (rds N js fs) pn).length/\q.2=((zH (rds N js fs) pn).take q.1).foldl (chS (way.getD y.1 0)) none/\St w2 [(3,.u (UF.eq lw)),(8,.u (UF.eq (pO b8 0))),(10,.u (UF.eq (.slice (some ⟨gg,0,none⟩) N cap))),(23,.u (UF.eq lw)),(24,.u (uI ((ins way).length:Int))),(25,.u (uI (y.1:Int))),(13,.u (uI (way.getD y.1 0))),(15,.u (uB (q.2.isSome))),(45,.u (UF.eq (vs.getD pn (.slice none 0 0)))),(46,.u (uI (((ros (zH (rds N js fs) pn)).length:Nat):Int))),(47,.u (uI (q.1:Int)))] [⟨14,32,CU.agg (fQN (q.2.getD 0)),hm,false⟩,⟨11,32,CU.agg (fQN (y.2)),O,false⟩] f23.ntmps [] a w) (fun q=>(zH (rds N js fs) pn).length-q.1) (0,none) ⟨vS _,rfl,s.keepK _ (sH zC1<|sH zDW<|sH zFl<|sH zGN<|sH zMU<|sH zFL<|sH mz8<|sH mz3<|sH (.head _)<|sH mz1<|sH mz2 fnz)⟩ fun q a w hx=>?_
    obtain⟨hkq,hy,s⟩:=hx
    have hW:QB (q.2.getD 0) 1:=ql hy
    refine rgQ ((48,.u (uB (decide ((q.1:Int)<(((ros (zH (rds N js fs) pn)).length:Nat):Int)))))::[]) s
     (oc (zJ .i64 (q.1:Int) (((ros (zH (rds N js fs) pn)).length:Nat):Int) (decide ((q.1:Int)<(((ros (zH (rds N js fs) pn)).length:Nat):Int))) iiz iiz rfl rfl)<|zC) fun a w13 s=>fK<|StS.cond s (decide ((q.1:Int)<(((ros (zH (rds N js fs) pn)).length:Nat):Int))) iiz (fun e=>?_) (fun e=>?_)
    .have hd:q.1<(zH (rds N js fs) pn).length:=by have h7:=xW e;simp only[xT]at h7;omega
     have qi:((zH (rds N js fs) pn).getD q.1 (0,0))∈(grE N js fs) pn:=by show((zH (rds N js fs) pn).getD q.1 (0,0))∈(zH (rds N js fs) pn);rw[nX,mD hd];exact uO hd
     have qf:QB ((zH (rds N js fs) pn).getD q.1 (0,0)).2 1:=hB.qr qi
     refine nQ<|fK<|rF<|fK<|rgK 2 ((49,.Y (fRo ((zH (rds N js fs) pn).getD q.1 (0,0))))::(50,.u (fRo ((zH (rds N js fs) pn).getD q.1 (0,0))))::[]) s
      (oc (zL (z:=4) (Cs:=ros (zH (rds N js fs) pn)) (i:=q.1) (C:=CU.agg (fRo ((zH (rds N js fs) pn).getD q.1 (0,0)))) kA (zF7 hd) (y7 hO s) iiz)<|oc (yJ (f:=fRo ((zH (rds N js fs) pn).getD q.1 (0,0))) 4 kA (hz:=zI7 _))<|zC) fun a w14 s=>yP (CU.len 4) (cs:=[.int .i64 0,.bool false,.slice none 0 0,.slice none 0 0]) kA rfl s kA (fun W=>rfl) rfl fun b17 a w s=>yI (fRo ((zH (rds N js fs) pn).getD q.1 (0,0))) rfl s zEh fun a w s=>zF rfl<|fK ?_
     rcases rS (((((zH (rds N js fs) pn).getD q.1 (0,0)).1:Nat):Int)==(way.getD y.1 0))with hc|hc
     .refine rgE ((51,.X (fRo ((zH (rds N js fs) pn).getD q.1 (0,0))) 0)::(52,.Z (uI ((((zH (rds N js fs) pn).getD q.1 (0,0)).1:Nat):Int)))::(53,.Z (uI (way.getD y.1 0)))::(54,.Z (uB true))::(55,.Z (uB true))::(56,.Z (uB (q.2.isSome)))::(57,.Z (uB (!(q.2.isSome))))::(58,.Z (uB (!(q.2.isSome))))::(59,.s (SF.imp ((!(q.2.isSome))=false) (wB ((CU.agg (fRo ((zH (rds N js fs) pn).getD q.1 (0,0)))).cf.at 1))))::(60,.s (SF.imp ((!(q.2.isSome))=false) ((fQN (((zH (rds N js fs) pn).getD q.1 (0,0)).2)).tS)))::(61,.s (SF.imp ((!(q.2.isSome))=false) ((fQN (q.2.getD 0)).tS)))::(62,.s (SF.imp ((!(q.2.isSome))=false) ((uI (qsg (((zH (rds N js fs) pn).getD q.1 (0,0)).2) (q.2.getD 0))).tS)))::(63,.s (SF.imp ((!(q.2.isSome))=false) ((uB (decide ((qsg (((zH (rds N js fs) pn).getD q.1 (0,0)).2) (q.2.getD 0))<0))).tS)))::(64,.Z (uB ((!(q.2.isSome))||(decide ((qsg (((zH (rds N js fs) pn).getD q.1 (0,0)).2) (q.2.getD 0))<0)))))::(65,.u (uB ((!(q.2.isSome))||(decide ((qsg (((zH (rds N js fs) pn).getD q.1 (0,0)).2) (q.2.getD 0))<0)))))::[]) s
       (oc (zO (C:=cg (fRo ((zH (rds N js fs) pn).getD q.1 (0,0)))) 0 kA)<|oc (yK (C:=cg (fRo ((zH (rds N js fs) pn).getD q.1 (0,0)))) (k:=0) kA (h:=zEO))<|oc zA<|oc (zJ .i64 ((((zH (rds N js fs) pn).getD q.1 (0,0)).1:Nat):Int) (way.getD y.1 0) true iiz iiz hc rfl)<|oc zA<|oc (zB 55 true kA iiz (fun _=>zA) arf)<|oc (zB 55 true kA iiz (fun _=>zAv (q.2.isSome) iiz (fun _=>rfl)) arf)<|oc (zB 55 true kA iiz (fun _=>zA) arf)<|oc (zB 58 (!(q.2.isSome)) kA iiz (fun e=>zI [] (wB ((CU.agg (fRo ((zH (rds N js fs) pn).getD q.1 (0,0)))).cf.at 1)) fnz (fun _ _ h _=>h) kA (zO (C:=cg (fRo ((zH (rds N js fs) pn).getD q.1 (0,0)))) 1 kA)) (fun e W h=>absurd h e))<|oc (zB 58 (!(q.2.isSome)) kA iiz (fun e=>zI [(59,wB ((CU.agg (fRo ((zH (rds N js fs) pn).getD q.1 (0,0)))).cf.at 1))] ((fQN (((zH (rds N js fs) pn).getD q.1 (0,0)).2)).tS) (sH (fun v W h=>zG (c:=(!(q.2.isSome))=false) (f:=wB ((CU.agg (fRo ((zH (rds N js fs) pn).getD q.1 (0,0)))).cf.at 1)) e h) fnz) (fun _ _ h _=>h) kA (jS (C:=cg (fRo ((zH (rds N js fs) pn).getD q.1 (0,0)))) (k:=1) 3 kA (h:=zI8))) (fun e W h=>absurd h e))<|oc (zB 58 (!(q.2.isSome)) kA iiz (fun e=>zI [] ((fQN (q.2.getD 0)).tS) fnz (fun _ _ h _=>h) kA (yJ (f:=fQN (q.2.getD 0)) 3 kA (hz:=yV _))) (fun e W h=>absurd h e))<|oc (zB 58 (!(q.2.isSome)) kA iiz (fun e=>zI [(60,(fQN (((zH (rds N js fs) pn).getD q.1 (0,0)).2)).tS),(61,(fQN (q.2.getD 0)).tS)] ((uI (qsg (((zH (rds N js fs) pn).getD q.1 (0,0)).2) (q.2.getD 0))).tS) (sH (fun v W h=>zG (c:=(!(q.2.isSome))=false) (f:=(fQN (((zH (rds N js fs) pn).getD q.1 (0,0)).2)).tS) e h)<|sH (fun v W h=>zG (c:=(!(q.2.isSome))=false) (f:=(fQN (q.2.getD 0)).tS) e h) fnz) (fun _ _ h _=>h) kA (zW zD zQX (fun u0 u1 W J (h0:QNp (((zH (rds N js fs) pn).getD q.1 (0,0)).2) u0 W) (h1:QNp (q.2.getD 0) u1 W)=>zLh (m:=1) (wH h0 qf) (wH h1 hW) dA dA ((hT.below I).below (s.up J))))) (fun e W h=>absurd h e))<|oc (zB 58 (!(q.2.isSome)) kA iiz (fun e=>zI [(62,(uI (qsg (((zH (rds N js fs) pn).getD q.1 (0,0)).2) (q.2.getD 0))).tS)] ((uB (decide ((qsg (((zH (rds N js fs) pn).getD q.1 (0,0)).2) (q.2.getD 0))<0))).tS) (sH (fun v W h=>zG (c:=(!(q.2.isSome))=false) (f:=(uI (qsg (((zH (rds N js fs) pn).getD q.1 (0,0)).2) (q.2.getD 0))).tS) e h) fnz) (fun _ _ h _=>h) kA (zJ .i64 (qsg (((zH (rds N js fs) pn).getD q.1 (0,0)).2) (q.2.getD 0)) 0 (decide ((qsg (((zH (rds N js fs) pn).getD q.1 (0,0)).2) (q.2.getD 0))<0)) iiz iiz rfl rfl)) (fun e W h=>absurd h e))<|oc (zB 55 true kA iiz (fun _=>zT (!(q.2.isSome)) iiz (fun e v W h=>qH h e) (fun e v W h=>yX (zG e h) e)) arf)<|oc (zT true iiz (fun _ _ _ h=>h) sF)<|zC) fun a w15 s=>?_
      refine StS.cond s ((!(q.2.isSome))||(decide ((qsg (((zH (rds N js fs) pn).getD q.1 (0,0)).2) (q.2.getD 0))<0))) iiz (fun e=>?_) (fun e=>?_)
      .have ht:chS (way.getD y.1 0) q.2 ((zH (rds N js fs) pn).getD q.1 (0,0))=some ((zH (rds N js fs) pn).getD q.1 (0,0)).2:=by
        unfold chS
        rw[if_pos (bH.1 hc)]
        cases ho:q.2 with
        |none=>rfl
        |some g=>
         have h7:=e
         rw[ho]at h7
         have hP:((zH (rds N js fs) pn).getD q.1 (0,0)).2<g:=by simpa[zDD]using h7
         show(if((zH (rds N js fs) pn).getD q.1 (0,0)).2<g then _ else _)=_
         rw[if_pos hP]
       replace s:=s.drop [15]
       refine rgK 2 ((66,.X (fRo ((zH (rds N js fs) pn).getD q.1 (0,0))) 1)::(67,.u (fQN (((zH (rds N js fs) pn).getD q.1 (0,0)).2)))::[]) s
        (oc (zO (C:=cg (fRo ((zH (rds N js fs) pn).getD q.1 (0,0)))) 1 kA)<|oc (jS (C:=cg (fRo ((zH (rds N js fs) pn).getD q.1 (0,0)))) (k:=1) 3 kA (h:=zI8))<|zC) fun a w16 s=>zBs (CU.agg (fQN (((zH (rds N js fs) pn).getD q.1 (0,0)).2))) ((fQN (((zH (rds N js fs) pn).getD q.1 (0,0)).2)).tS) rfl s kA rfl rfl rfl (yV _) iiz yO fun a w s=>yN (uB true) rfl s kA iiz fun a w s=>zF rfl<|zP 1 ((68,.u (uI ((q.1+1:Nat):Int)))::[]) s kA
        (oc (yL .i64 (q.1:Int) 1 ((q.1+1:Nat):Int) iiz iiz (wrap64 _ _ oA oA))<|zC) fun a w17 s=>?_
       replace s:=s.drop [47]
       refine zBD (uI ((q.1+1:Nat):Int)) rfl s kA zA kA fun a w s=>zF rfl ?_
       replace s:=s.popB
       exact⟨(q.1+1,some ((zH (rds N js fs) pn).getD q.1 (0,0)).2),(by show(zH (rds N js fs) pn).length-(q.1+1)<(zH (rds N js fs) pn).length-q.1;omega),hd,(by show _=((zH (rds N js fs) pn).take (q.1+1)).foldl _ _;rw[zAr _ _ (0,0) _ hd,<-hy];exact ht.symm),s.keepK _ (sH mz7<|sH mz8<|sH mz9<|sH zC1<|sH zDW<|sH zFl<|sH zGN<|sH mz2<|sH zMU<|sH zFL<|sH (.head _) fnz)⟩
      .have ht:chS (way.getD y.1 0) q.2 ((zH (rds N js fs) pn).getD q.1 (0,0))=q.2:=by
        unfold chS
        rw[if_pos (bH.1 hc)]
        cases ho:q.2 with
        |none=>rw[ho]at e;simp at e
        |some g=>
         have h7:=e
         rw[ho]at h7
         have hP: ¬((zH (rds N js fs) pn).getD q.1 (0,0)).2<g:=by simpa[zDD]using h7
         show(if((zH (rds N js fs) pn).getD q.1 (0,0)).2<g then _ else _)=_
         rw[if_neg hP]
       refine nQ<|zP 1 ((68,.u (uI ((q.1+1:Nat):Int)))::[]) s kA
        (oc (yL .i64 (q.1:Int) 1 ((q.1+1:Nat):Int) iiz iiz (wrap64 _ _ oA oA))<|zC) fun a w18 s=>?_
       replace s:=s.drop [47]
       refine zBD (uI ((q.1+1:Nat):Int)) rfl s kA zA kA fun a w s=>zF rfl ?_
       replace s:=s.popB
       exact⟨(q.1+1,q.2),(by show(zH (rds N js fs) pn).length-(q.1+1)<(zH (rds N js fs) pn).length-q.1;omega),hd,(by show _=((zH (rds N js fs) pn).take (q.1+1)).foldl _ _;rw[zAr _ _ (0,0) _ hd,<-hy];exact ht.symm),s.keepK _ (sH mz5<|sH mz6<|sH mz7<|sH mz8<|sH mz9<|sH zC1<|sH zDW<|sH zFl<|sH zGN<|sH zMU<|sH (.head _) fnz)⟩
     .refine rgE ((51,.X (fRo ((zH (rds N js fs) pn).getD q.1 (0,0))) 0)::(52,.Z (uI ((((zH (rds N js fs) pn).getD q.1 (0,0)).1:Nat):Int)))::(53,.Z (uI (way.getD y.1 0)))::(54,.Z (uB false))::(55,.Z (uB false))::(58,.Z (UF.eq undef))::(65,.u (uB false))::[]) s
       (oc (zO (C:=cg (fRo ((zH (rds N js fs) pn).getD q.1 (0,0)))) 0 kA)<|oc (yK (C:=cg (fRo ((zH (rds N js fs) pn).getD q.1 (0,0)))) (k:=0) kA (h:=zEO))<|oc zA<|oc (zJ .i64 ((((zH (rds N js fs) pn).getD q.1 (0,0)).1:Nat):Int) (way.getD y.1 0) false iiz iiz hc rfl)<|oc zA<|oc (zB 55 false kA iiz sF (fun _ _=>trivial))<|oc (zB 55 false kA iiz sF (fun _ _=>trivial))<|oc (zB 55 false kA iiz sF (fun _ _=>rfl))<|oc (yH 58 undef kA iiz sF (fun _=>trivial))<|oc (yH 58 undef kA iiz sF (fun _=>trivial))<|oc (yH 58 undef kA iiz sF (fun _=>trivial))<|oc (yH 58 undef kA iiz sF (fun _=>trivial))<|oc (yH 58 undef kA iiz sF (fun _=>trivial))<|oc (zB 55 false kA iiz sF (fun _ _=>trivial))<|oc (zT false iiz sF (fun _ _ _ h=>h))<|zC) fun a w19 s=>?_
      refine StS.cond s false iiz sF (fun e=>?_)
      refine nQ<|zP 1 ((68,.u (uI ((q.1+1:Nat):Int)))::[]) s kA
       (oc (yL .i64 (q.1:Int) 1 ((q.1+1:Nat):Int) iiz iiz (wrap64 _ _ oA oA))<|zC) fun a w20 s=>?_
      replace s:=s.drop [47]
      refine zBD (uI ((q.1+1:Nat):Int)) rfl s kA zA kA fun a w s=>zF rfl ?_
      have ht:chS (way.getD y.1 0) q.2 ((zH (rds N js fs) pn).getD q.1 (0,0))=q.2:=by
       unfold chS
       rw[if_neg]
       intro hh
       rw[bH.2 hh]at hc
       cases hc
      replace s:=s.popB
      exact⟨(q.1+1,q.2),(by show(zH (rds N js fs) pn).length-(q.1+1)<(zH (rds N js fs) pn).length-q.1;omega),hd,(by show _=((zH (rds N js fs) pn).take (q.1+1)).foldl _ _;rw[zAr _ _ (0,0) _ hd,<-hy];exact ht.symm),s.keepK _ (sH mz5<|sH mz6<|sH mz7<|sH mz8<|sH mz9<|sH zC1<|sH zDW<|sH zFl<|sH zGN<|sH zMU<|sH (.head _) fnz)⟩
    .have qc:q.1=(zH (rds N js fs) pn).length:=by have h7:=mB e;simp only[xT]at h7;omega
     have hX:q.2=ch (grE N js fs) (way.getD (y.1-1) 0).toNat (way.getD y.1 0):=by rw[hy,qc,pA,epn];rfl
     refine rG<|fK<|rgQ ((69,.Z (uB (q.2.isSome)))::(70,.u (uB (!(q.2.isSome))))::[]) s
      (oc zA<|oc (zAv (q.2.isSome) iiz (fun _=>rfl))<|zC) fun a w21 s=>StS.cond s (!(q.2.isSome)) iiz (fun e=>?_) (fun e=>?_)
     .have qe:q.2=none:=by simpa using e
      have h6:wkR (grE N js fs) N way=(0,false):=zEb (i:=y.1+1) (by rw[zCg hi,if_pos hM,if_neg hz,<-hX,qe];rfl) hD
      refine fK ?_
      have hL:b8<_:=h8.lt
      have hn_b14:b8<hm:=by have:=s.inB_new (q:=hm) ⟨_,.head _,rfl,rfl⟩;omega
      have hn:b8<O:=by have:=s.inB_new (q:=O) ⟨_,mz1,rfl,rfl⟩;omega
      replace s:StS _ _ _ [⟨14,32,CU.agg (fQN (q.2.getD 0)),hm,true⟩,⟨11,32,CU.agg (fQN (y.2)),O,true⟩] _ _ _ _:=s.freeze
      have he:∀q_,q_∈([⟨14,32,CU.agg (fQN (q.2.getD 0)),hm,true⟩,⟨11,32,CU.agg (fQN (y.2)),O,true⟩]:List Bx)-> ¬q_.b=b8:=fmz ⟨(by show ¬hm=b8;omega),sH (by show ¬O=b8;omega) fnz⟩
      refine rgK 1 ((71,.u (fQN 0))::[]) s
       (oc (zK zD zHM (fun u0 W J (h0:u0=.int .i64 0)=>zDS h0))<|zC) fun a w22 s=>?_
      have J:=s.below
      replace I:=I.trans (J.mono I.size)
      replace h4:=(SF.row 1 (ins way)).st _ _ _ h4 J
      replace h8:=h8.below J
      replace hG:=hG.below J
      refine zAF (g:=b8) (i:=0) (cap:=1) (z:=3) (e:=32) (CU.agg (fQN 0)) rfl s rfl rfl h8 eN kA (s.fct (.tmp 8)) (zBS (s.fct (.tmp 71))) (fun q_ hq=>he q_ hq) fun w hw q1 h8 s=>?_
      replace I:=yD I hw (fun q hq=>by rw[hq];exact hQ)
      refine yN (uB false) rfl s kA iiz fun a w s=>zF rfl<|nR ?_
      have J:=s.below
      replace I:=I.trans (J.mono I.size)
      replace h8:=h8.below J
      replace s:=s.popB
      replace s:=s.popB
      replace s:=s.anewB rfl rfl
      obtain⟨c8,g1,g2,g3⟩:=zCU h8
      replace s:=s.home rfl rfl I
      exact wU s rfl kA (s.fct (.tmp 8)) g1 g2 ⟨_,_,rfl,by rw[h6];exact g3,by rw[h6];exact s.fct (.tmp 9)⟩
     .obtain⟨far,hfar⟩:∃g,q.2=some g:=Option.isSome_iff_exists.1 (by simpa using e)
      have hY:QB far 1:=by have h7:=hW;rw[hfar]at h7;exact h7
      have hC:zD1 (grE N js fs) N way (y.1+1)=some (y.2+far):=by rw[zCg hi,if_pos hM,if_neg hz,<-hX,hfar];rfl
      have hqx:QB (y.2+far) 1:=zM2 hB oA hC
      rw[hfar]at s
      replace s:StS _ _ _ [⟨14,32,CU.agg (fQN far),hm,false⟩,⟨11,32,CU.agg (fQN (y.2)),O,false⟩] _ _ _ _:=s
      refine nQ<|rgK 4 ((72,.Z (fQN (y.2)))::(73,.Z (fQN far))::(74,.s (fQS 1 [y.2,far]))::(75,.u (fQN (y.2+far)))::[]) s
       (oc (yJ (f:=fQN (y.2)) 3 kA (hz:=yV _))<|oc (yJ (f:=fQN far) 3 kA (hz:=yV _))<|oc (y8 (fun u v W (hu:QNp (y.2) u W) (hv:QNp far v W)=>zIa (m:=1) (wH hu hU) (wH hv hY)))<|oc (zK zD zQW (fun u0 W J (h0:(fQS 1 [y.2,far]).p u0 W)=>zIg (m:=1) (p:=y.2) (q:=far) h0 hU hY dA ((hT.below I).below (s.up J))))<|zC) fun a w23 s=>zBs (CU.agg (fQN (y.2+far))) ((fQN (y.2+far)).tS) rfl s kA rfl rfl rfl (yV _) iiz yO fun a w s=>zF rfl<|zP 1 ((76,.u (uI ((y.1+1:Nat):Int)))::[]) s kA
       (oc (yL .i64 (y.1:Int) 1 ((y.1+1:Nat):Int) iiz iiz (wrap64 _ _ oA oA))<|zC) fun a w24 s=>?_
      replace s:=s.drop [25]
      refine zBD (uI ((y.1+1:Nat):Int)) rfl s kA zA kA fun a w s=>zF rfl ?_
      replace s:=s.popB
      exact⟨(y.1+1,y.2+far),(by show way.length-(y.1+1)<way.length-y.1;omega),hD,hC,s.keepK _ (sH mz5<|sH mz6<|sH mz7<|sH mz8<|sH mz9<|sH (.head _) fnz)⟩
 .have qm:y.1=way.length:=by have h7:=mB e;simp only[xT]at h7;omega
  refine rG<|fK ?_
  have hL:b8<_:=h8.lt
  have hn:b8<O:=by have:=s.inB_new (q:=O) ⟨_,.head _,rfl,rfl⟩;omega
  replace s:StS _ _ _ [⟨11,32,CU.agg (fQN (y.2)),O,true⟩] _ _ _ _:=s.freeze
  have he:∀q_,q_∈([⟨11,32,CU.agg (fQN (y.2)),O,true⟩]:List Bx)-> ¬q_.b=b8:=fmz ⟨(by show ¬O=b8;omega),fnz⟩
  refine rgK 4 ((77,.u (fQN (y.2)))::(78,.Z (UF.eq lw))::(79,.Z (uI ((ins way).length:Int)))::(80,.u (uB (decide (0<way.length))))::[]) s
   (oc (yJ (f:=fQN (y.2)) 3 kA (hz:=yV _))<|oc zA<|oc (qZ (z:=1) (Cs:=ins way) kA (y7 h4 s) (fun _=>rfl))<|oc (zJ .i64 ((ins way).length:Int) 0 (decide (0<way.length)) iiz iiz eN rfl)<|zC) fun a w25 s=>?_
  have J:=s.below
  replace I:=I.trans (J.mono I.size)
  replace h4:=(SF.row 1 (ins way)).st _ _ _ h4 J
  replace h8:=h8.below J
  replace hG:=hG.below J
  refine zAF (g:=b8) (i:=0) (cap:=1) (z:=3) (e:=32) (CU.agg (fQN (y.2))) rfl s rfl rfl h8 eN kA (s.fct (.tmp 8)) (zBS (s.fct (.tmp 77))) (fun q_ hq=>he q_ hq) fun w hw q1 h8 s=>?_
  replace I:=yD I hw (fun q hq=>by rw[hq];exact hQ)
  refine yN (uB (decide (0<way.length))) rfl s kA iiz fun a w s=>zF rfl<|nR ?_
  have J:=s.below
  replace I:=I.trans (J.mono I.size)
  replace h8:=h8.below J
  replace s:=s.popB
  replace s:=s.anewB rfl rfl
  obtain⟨c8,g1,g2,g3⟩:=zCU h8
  replace s:=s.home rfl rfl I
  have h6:wkR (grE N js fs) N way=(y.2,decide (0<way.length)):=zIG (by rw[<-qm];exact hi)
  exact wU s rfl kA (s.fct (.tmp 8)) g1 g2 ⟨_,_,rfl,by rw[h6];exact g3,by rw[h6];exact s.fct (.tmp 9)⟩
theorem zPj{W':World}{V:World}(O:W.heap.size<=W'.heap.size)(h:(fLb W' E N).p v V):(fLb W E N).p v V:=by
 obtain⟨lab,J,I⟩:=h
 exact⟨lab,J,y9.mono I O⟩
theorem zQL{W1 W2:World}(hN:N<=20)(hu:(fLb W1 E N).p u W)(hv:(fLb W2 E N).p v W):Calls prog 19 #[u,v] W (Ret W (fB true).tS):=by
 obtain⟨l,O,h2⟩:=hu
 obtain⟨l',J,I⟩:=hv
 obtain rfl:=O.one J
 refine(zCj (y9.row h2) (y9.row I) (by have:=O.ln;omega)).mono (wF fun v W h=>?_)
 rw[fZ]at h
 exact h
theorem zG7{L:List QX}{wl:List Int}{lq:Value}(hu:u=.int .i64 n)(O:(SF.row 2 (jns js)).p lj W)(ho:(SF.row 3 (qxs L)).p lq W)(hv:v=.int .i64 x)(ht:t=.int .i64 z)(h5:(SF.row 1 (ins wl)).p lw W)(hT:Tab W):Calls prog 6 #[u,lj,lq,v,t,lw] W (Ret W (fB true).tS):=by
 have J:Below W.heap.size W W:=xF _ _
 obtain⟨N,hNz⟩:∃N:Nat,min (max n 0) 131072=(N:Int):=⟨(min (max n 0) 131072).toNat,oA⟩
 refine y2 [(uI n).tS,(UF.eq lj).tS,(UF.eq lq).tS,(uI x).tS,(uI z).tS,(UF.eq lw).tS] func6 rfl kA ⟨hu,rfl,rfl,hv,ht,rfl,trivial⟩ fun a s=>?_
 replace s:=s.renew [(0,.u (uI n)),(1,.u (UF.eq lj)),(2,.u (UF.eq lq)),(3,.u (uI x)),(4,.u (uI z)),(5,.u (UF.eq lw))] (sH (.inr ⟨_,rfl,.head _⟩)<|sH (.inr ⟨_,rfl,mz1⟩)<|sH (.inr ⟨_,rfl,mz2⟩)<|sH (.inr ⟨_,rfl,mz3⟩)<|sH (.inr ⟨_,rfl,mz4⟩)<|sH (.inr ⟨_,rfl,mz5⟩) fnz)
 refine rgQ ((12,.u (uB false))::[]) s
  (oc zE<|zC) fun a w1 s=>?_
 have I:=s.below
 replace J:=J.trans (I.mono J.size)
 replace hT:=hT.below I
 replace O:=(SF.row 2 (jns js)).st _ _ _ O I
 replace ho:=(SF.row 3 (qxs L)).st _ _ _ ho I
 replace h5:=(SF.row 1 (ins wl)).st _ _ _ h5 I
 replace s:=s.anewB rfl rfl
 refine fK<|rgQ ((27,.Z (uI n))::(28,.Z (UF.eq lj))::(29,.Z (UF.eq lq))::(30,.Z (uB (g28 n js L)))::(31,.Z (uB (g28 n js L)))::(32,.s (SF.imp ((g28 n js L)=false) ((UF.eq lw).tS)))::(33,.s (SF.imp ((g28 n js L)=false) ((uI ((ins wl).length:Int)).tS)))::(34,.s (SF.imp ((g28 n js L)=false) ((uB (decide (((ins wl).length:Int)>60))).tS)))::(35,.u (uB ((g28 n js L)||(decide (((ins wl).length:Int)>60)))))::[]) s
  (oc zA<|oc zA<|oc zA<|oc (zBn zD zUw (fun u0 u1 u2 W I (h0:u0=.int .i64 n) (h1:u1=lj) (h2:u2=lq)=>zKa h0 (zAa O h1 (s.up I)) (zAa ho h2 (s.up I))))<|oc zA<|oc (zB 31 (g28 n js L) kA iiz (fun e=>zI [] ((UF.eq lw).tS) fnz (fun _ _ h _=>h) kA zA) (fun e W h=>absurd h e))<|oc (zB 31 (g28 n js L) kA iiz (fun e=>zI [(32,(UF.eq lw).tS)] ((uI ((ins wl).length:Int)).tS) (sH (fun v W h=>zG (c:=(g28 n js L)=false) (f:=(UF.eq lw).tS) e h) fnz) (fun _ _ h _=>h) kA (qZ (z:=1) (Cs:=ins wl) kA (y7 h5 s) (fun _=>rfl))) (fun e W h=>absurd h e))<|oc (zB 31 (g28 n js L) kA iiz (fun e=>zI [(33,(uI ((ins wl).length:Int)).tS)] ((uB (decide (((ins wl).length:Int)>60))).tS) (sH (fun v W h=>zG (c:=(g28 n js L)=false) (f:=(uI ((ins wl).length:Int)).tS) e h) fnz) (fun _ _ h _=>h) kA (zJ .i64 ((ins wl).length:Int) 60 (decide (((ins wl).length:Int)>60)) iiz iiz rfl rfl)) (fun e W h=>absurd h e))<|oc (zT (g28 n js L) iiz (fun e v W h=>qH h e) (fun e v W h=>yX (zG e h) e))<|zC) fun a w2 s=>?_
 have I:=s.below
 replace J:=J.trans (I.mono J.size)
 replace hT:=hT.below I
 replace O:=(SF.row 2 (jns js)).st _ _ _ O I
 replace ho:=(SF.row 3 (qxs L)).st _ _ _ ho I
 replace h5:=(SF.row 1 (ins wl)).st _ _ _ h5 I
 replace s:=s.anewB rfl rfl
 refine StS.cond s ((g28 n js L)||(decide (((ins wl).length:Int)>60))) iiz (fun e=>?_) (fun e=>?_)
 .refine fK ?_
  replace s:=s.drop [12]
  refine rgE ((36,.Z (uB true))::(12,.u (uB true))::[]) s
   (oc (zJr zD zUe (fun W I=>zKL (hT.below (s.up I))))<|oc zE<|zC) fun a w3 s=>?_
  have I:=s.below
  replace J:=J.trans (I.mono J.size)
  replace hT:=hT.below I
  replace O:=(SF.row 2 (jns js)).st _ _ _ O I
  replace ho:=(SF.row 3 (qxs L)).st _ _ _ ho I
  replace h5:=(SF.row 1 (ins wl)).st _ _ _ h5 I
  replace s:=s.anewB rfl rfl
  exact nR<|wZ s J rfl iiz
 .rw[bL]at e
  obtain⟨hg,e1⟩:=e
  have e1:=mB e1
  rw[xT]at e1
  have hM:wl.length<=60:=oA
  have hB:=zSP hg hNz ho
  have h6:=(zOV (zR5 hg).2.2.2 ho).1
  have hD:=hB.hN
  have hK:js.length<=61:=hB.hj
  obtain⟨way,qc,ok,hLe⟩:∃w q o,qM (grE N js (qvs L)) N x z=(w,q,o):=⟨_,_,_,rfl⟩
  obtain⟨sum,is,hWk⟩:∃q o,wkR (grE N js (qvs L)) N wl=(q,o):=⟨_,_,rfl⟩
  obtain⟨ca,h_ca⟩:∃c,csR (grE N js (qvs L)) N x=c:=⟨_,rfl⟩
  obtain⟨sa,h_sa⟩:∃c,ssR (grE N js (qvs L)) N x=c:=⟨_,rfl⟩
  have hcl:ca.length=N:=by rw[<-h_ca];exact(zDL _ _ _).1
  have hsl:sa.length=N:=by rw[<-h_sa];exact(zDL _ _ _).2
  have hJ:=(zIr hB x z).1
  rw[hLe]at hJ
  dsimp only at hJ
  refine nQ<|fK<|rgL 10 ((38,.Z (uI n))::(39,.Z (UF.eq lj))::(40,.Z (UF.eq lq))::(41,.Z (uI x))::(42,.Z (uI z))::(43,.s (wL (wD w2 3 1 (ins way)) ((fQN qc).tS) ((uB ok).tS)))::(37,.s (wL (wD w2 3 1 (ins way)) ((fQN qc).tS) ((uB ok).tS)))::(44,.s (wD w2 3 1 (ins way)))::(45,.u (fQN qc))::(46,.u (uB ok))::[]) s
   (oc zA<|oc zA<|oc zA<|oc zA<|oc zA<|oc (zEp zD zQ0 (fun u0 u1 u2 u3 u4 W I (h0:u0=.int .i64 n) (h1:u1=lj) (h2:u2=lq) (h3:u3=.int .i64 x) (h4:u4=.int .i64 z)=>(zF8 (n:=n) (N:=N) (x:=x) (z:=z) (js:=js) (fs:=qvs L) h0 (zAa O h1 (s.up I)) (zAa h6 h2 (s.up I)) h3 h4 hNz hB (hT.below (s.up I))).mono (wF (fun v W h=>zLY hLe (s.up I).size h))))<|oc zA<|oc (zCH (A:=wD w2 3 1 (ins way)) (B:=(fQN qc).tS) (C:=(uB ok).tS) iiz)<|oc (zCG (A:=wD w2 3 1 (ins way)) (B:=(fQN qc).tS) (C:=(uB ok).tS) iiz)<|oc (zCF (A:=wD w2 3 1 (ins way)) (B:=(fQN qc).tS) (C:=(uB ok).tS) iiz)<|zC) fun a w4 s hr=>?_
  obtain⟨v1,e44⟩:∃v,a.tmps.getD 44 undef=v:=⟨_,rfl⟩
  have h8:=(hr (_,_) mz7)
  rw[show a.tmps.getD _ undef=v1 from e44]at h8
  replace h8:=y9.row h8
  replace s:=s.learn 44 _ e44
  have I:=s.below
  replace J:=J.trans (I.mono J.size)
  replace hT:=hT.below I
  replace O:=(SF.row 2 (jns js)).st _ _ _ O I
  replace h5:=(SF.row 1 (ins wl)).st _ _ _ h5 I
  replace h6:=(SF.row 3 (rvs 1 (qvs L))).st _ _ _ h6 I
  replace s:=s.anewB rfl rfl
  refine yP (CU.len 3) (cs:=zR3) kA rfl s kA (fun W=>rfl) rfl fun hw a w s=>yN (UF.eq v1) rfl s kA iiz fun a w s=>yI (fQN qc) rfl s yO fun a w s=>yN (uB ok) rfl s kA iiz fun a w s=>zF rfl ?_
  replace s:StS _ _ _ [⟨14,32,CU.agg (fQN qc),hw,true⟩] _ _ _ _:=s.freeze
  have I:=s.below
  replace J:=J.trans (I.mono J.size)
  replace hT:=hT.below I
  replace O:=(SF.row 2 (jns js)).st _ _ _ O I
  replace h5:=(SF.row 1 (ins wl)).st _ _ _ h5 I
  replace h6:=(SF.row 3 (rvs 1 (qvs L))).st _ _ _ h6 I
  replace h8:=(SF.row 1 (ins way)).st _ _ _ h8 I
  replace s:=s.anewB rfl rfl
  refine fK<|rgL 10 ((48,.Z (uI n))::(49,.Z (UF.eq lj))::(50,.Z (UF.eq lq))::(51,.Z (uI x))::(52,.Z (uI z))::(53,.s (wL (wD w 3 1 (ins way)) ((fQN qc).tS) ((uB ok).tS)))::(47,.s (wL (wD w 3 1 (ins way)) ((fQN qc).tS) ((uB ok).tS)))::(54,.s (wD w 3 1 (ins way)))::(55,.u (fQN qc))::(56,.u (uB ok))::[]) s
   (oc zA<|oc zA<|oc zA<|oc zA<|oc zA<|oc (zEp zD zTL (fun u0 u1 u2 u3 u4 W I (h0:u0=.int .i64 n) (h1:u1=lj) (h2:u2=lq) (h3:u3=.int .i64 x) (h4:u4=.int .i64 z)=>(zJ9 (n:=n) (N:=N) (x:=x) (z:=z) (js:=js) (fs:=qvs L) h0 (zAa O h1 (s.up I)) (zAa h6 h2 (s.up I)) h3 h4 hNz hB (hT.below (s.up I))).mono (wF (fun v W h=>zLY hLe (s.up I).size h))))<|oc zA<|oc (zCH (A:=wD w 3 1 (ins way)) (B:=(fQN qc).tS) (C:=(uB ok).tS) iiz)<|oc (zCG (A:=wD w 3 1 (ins way)) (B:=(fQN qc).tS) (C:=(uB ok).tS) iiz)<|oc (zCF (A:=wD w 3 1 (ins way)) (B:=(fQN qc).tS) (C:=(uB ok).tS) iiz)<|zC) fun a w5 s hr=>?_
  obtain⟨v2,e54⟩:∃v,a.tmps.getD 54 undef=v:=⟨_,rfl⟩
  have h9:=(hr (_,_) mz7)
  rw[show a.tmps.getD _ undef=v2 from e54]at h9
  replace h9:=y9.row h9
  replace s:=s.learn 54 _ e54
  have I:=s.below
  replace J:=J.trans (I.mono J.size)
  replace hT:=hT.below I
  replace O:=(SF.row 2 (jns js)).st _ _ _ O I
  replace h5:=(SF.row 1 (ins wl)).st _ _ _ h5 I
  replace h6:=(SF.row 3 (rvs 1 (qvs L))).st _ _ _ h6 I
  replace h8:=(SF.row 1 (ins way)).st _ _ _ h8 I
  replace s:=s.anewB rfl rfl
  refine yP (CU.len 3) (cs:=zR3) kA rfl s kA (fun W=>rfl) rfl fun hA a w s=>yN (UF.eq v2) rfl s kA iiz fun a w s=>yI (fQN qc) rfl s yO fun a w s=>yN (uB ok) rfl s kA iiz fun a w s=>zF rfl ?_
  replace s:StS _ _ _ [⟨17,32,CU.agg (fQN qc),hA,true⟩,⟨14,32,CU.agg (fQN qc),hw,true⟩] _ _ _ _:=s.freeze
  have I:=s.below
  replace J:=J.trans (I.mono J.size)
  replace hT:=hT.below I
  replace O:=(SF.row 2 (jns js)).st _ _ _ O I
  replace h5:=(SF.row 1 (ins wl)).st _ _ _ h5 I
  replace h6:=(SF.row 3 (rvs 1 (qvs L))).st _ _ _ h6 I
  replace h8:=(SF.row 1 (ins way)).st _ _ _ h8 I
  replace h9:=(SF.row 1 (ins way)).st _ _ _ h9 I
  replace s:=s.anewB rfl rfl
  refine fK<|rgQ ((57,.Z (UF.eq v1))::(58,.Z (UF.eq v2))::(59,.Z (uB true))::(60,.Z (uB false))::(61,.Z (uB false))::(62,.Z (fQN qc))::(63,.Z (fQN qc))::(64,.Z (uB true))::(65,.Z (uB false))::(66,.Z (uB false))::(67,.Z (uB false))::(68,.Z (uB ok))::(69,.Z (uB ok))::(70,.Z (uB false))::(71,.u (uB false))::[]) s
   (oc zA<|oc zA<|oc (zW zD zMn (fun u0 u1 W I (h0:u0=v1) (h1:u1=v2)=>(zCj (la:=way) (lb:=way) (zAa h8 h0 (s.up I)) (zAa h9 h1 (s.up I)) oA).mono (wF (fun v W h=>by rw[fZ]at h;exact h))))<|oc (zAv true iiz (fun _=>rfl))<|oc zA<|oc (zB 61 false kA iiz (fun _=>yJ (f:=fQN qc) 3 kA (hz:=yV _)) arf)<|oc (zB 61 false kA iiz (fun _=>yJ (f:=fQN qc) 3 kA (hz:=yV _)) arf)<|oc (zB 61 false kA iiz (fun _=>zW zD zQY (fun u0 u1 W I (h0:QNp qc u0 W) (h1:QNp qc u1 W)=>zF9 h0 h1)) arf)<|oc (zB 61 false kA iiz (fun _=>zAv true iiz (fun _=>rfl)) arf)<|oc (zT false iiz sF (fun _ _ _ h=>h))<|oc zA<|oc (zB 67 false kA iiz (fun _=>zA) arf)<|oc (zB 67 false kA iiz (fun _=>zA) arf)<|oc (zB 67 false kA iiz (fun _=>zLI ok ok false kA iiz iiz eN rfl) arf)<|oc (zT false iiz sF (fun _ _ _ h=>h))<|zC) fun a w6 s=>?_
  replace s:StS _ _ _ [⟨17,32,CU.agg (fQN qc),hA,true⟩,⟨14,32,CU.agg (fQN qc),hw,true⟩] _ _ _ _:=s.freeze
  have I:=s.below
  replace J:=J.trans (I.mono J.size)
  replace hT:=hT.below I
  replace O:=(SF.row 2 (jns js)).st _ _ _ O I
  replace h5:=(SF.row 1 (ins wl)).st _ _ _ h5 I
  replace h6:=(SF.row 3 (rvs 1 (qvs L))).st _ _ _ h6 I
  replace h8:=(SF.row 1 (ins way)).st _ _ _ h8 I
  replace h9:=(SF.row 1 (ins way)).st _ _ _ h9 I
  replace s:=s.anewB rfl rfl
  refine StS.cond s false iiz sF (fun e=>?_)
  refine nQ<|fK<|rgN ((73,.Z (uI n))::(74,.Z (UF.eq lj))::(75,.Z (UF.eq lq))::(76,.Z (uI x))::(77,.s (wI (wD w6 32 3 (qns ca)) (wD w6 3 1 (ins sa))))::(72,.s (wI (wD w6 32 3 (qns ca)) (wD w6 3 1 (ins sa))))::(78,.s (wD w6 32 3 (qns ca)))::(79,.s (wD w6 3 1 (ins sa)))::(19,.s (wD w6 32 3 (qns ca)))::(20,.s (wD w6 3 1 (ins sa)))::[]) s
   (oc zA<|oc zA<|oc zA<|oc zA<|oc (zCJ zD zTO (fun u0 u1 u2 u3 W I (h0:u0=.int .i64 n) (h1:u1=lj) (h2:u2=lq) (h3:u3=.int .i64 x)=>(zNy (n:=n) (N:=N) (x:=x) (js:=js) (fs:=qvs L) h0 (zAa O h1 (s.up I)) (zAa h6 h2 (s.up I)) h3 hNz hB (hT.below (s.up I))).mono (wF (fun v W h=>by have h7:=zEB (s.up I).size h;rw[h_ca,h_sa]at h7;exact h7))))<|oc zA<|oc (zAD (A:=wD w6 32 3 (qns ca)) (B:=wD w6 3 1 (ins sa)) iiz)<|oc (zAC (A:=wD w6 32 3 (qns ca)) (B:=wD w6 3 1 (ins sa)) iiz)<|oc zE<|oc zE<|zC) fun a w7 s hr=>?_
  obtain⟨c1,e19⟩:∃v,a.tmps.getD 19 undef=v:=⟨_,rfl⟩
  have hk:=(hr (_,_) mz8)
  rw[show a.tmps.getD _ undef=c1 from e19]at hk
  replace hk:=y9.row hk
  replace s:=s.learn 19 _ e19
  obtain⟨s1,e20⟩:∃v,a.tmps.getD 20 undef=v:=⟨_,rfl⟩
  have hl:=(hr (_,_) mz9)
  rw[show a.tmps.getD _ undef=s1 from e20]at hl
  replace hl:=y9.row hl
  replace s:=s.learn 20 _ e20
  have I:=s.below
  replace J:=J.trans (I.mono J.size)
  replace hT:=hT.below I
  replace O:=(SF.row 2 (jns js)).st _ _ _ O I
  replace h5:=(SF.row 1 (ins wl)).st _ _ _ h5 I
  replace h6:=(SF.row 3 (rvs 1 (qvs L))).st _ _ _ h6 I
  replace h8:=(SF.row 1 (ins way)).st _ _ _ h8 I
  replace h9:=(SF.row 1 (ins way)).st _ _ _ h9 I
  replace s:=s.anewB rfl rfl
  refine fK<|rgN ((81,.Z (uI n))::(82,.Z (UF.eq lj))::(83,.Z (UF.eq lq))::(84,.Z (uI x))::(85,.s (wI (wD w7 32 3 (qns ca)) (wD w7 3 1 (ins sa))))::(80,.s (wI (wD w7 32 3 (qns ca)) (wD w7 3 1 (ins sa))))::(86,.s (wD w7 32 3 (qns ca)))::(87,.s (wD w7 3 1 (ins sa)))::(21,.s (wD w7 32 3 (qns ca)))::(22,.s (wD w7 3 1 (ins sa)))::[]) s
   (oc zA<|oc zA<|oc zA<|oc zA<|oc (zCJ zD zSg (fun u0 u1 u2 u3 W I (h0:u0=.int .i64 n) (h1:u1=lj) (h2:u2=lq) (h3:u3=.int .i64 x)=>(zFD (n:=n) (N:=N) (x:=x) (js:=js) (fs:=qvs L) h0 (zAa O h1 (s.up I)) (zAa h6 h2 (s.up I)) h3 hNz hB (hT.below (s.up I))).mono (wF (fun v W h=>by have h7:=zEB (s.up I).size h;rw[h_ca,h_sa]at h7;exact h7))))<|oc zA<|oc (zAD (A:=wD w7 32 3 (qns ca)) (B:=wD w7 3 1 (ins sa)) iiz)<|oc (zAC (A:=wD w7 32 3 (qns ca)) (B:=wD w7 3 1 (ins sa)) iiz)<|oc zE<|oc zE<|zC) fun a w8 s hr=>?_
  obtain⟨c2,e21⟩:∃v,a.tmps.getD 21 undef=v:=⟨_,rfl⟩
  have hm:=(hr (_,_) mz8)
  rw[show a.tmps.getD _ undef=c2 from e21]at hm
  replace hm:=y9.row hm
  replace s:=s.learn 21 _ e21
  obtain⟨s2,e22⟩:∃v,a.tmps.getD 22 undef=v:=⟨_,rfl⟩
  have hn:=(hr (_,_) mz9)
  rw[show a.tmps.getD _ undef=s2 from e22]at hn
  replace hn:=y9.row hn
  replace s:=s.learn 22 _ e22
  have I:=s.below
  replace J:=J.trans (I.mono J.size)
  replace hT:=hT.below I
  replace O:=(SF.row 2 (jns js)).st _ _ _ O I
  replace h5:=(SF.row 1 (ins wl)).st _ _ _ h5 I
  replace h6:=(SF.row 3 (rvs 1 (qvs L))).st _ _ _ h6 I
  replace h8:=(SF.row 1 (ins way)).st _ _ _ h8 I
  replace h9:=(SF.row 1 (ins way)).st _ _ _ h9 I
  replace hk:=(SF.row 3 (qns ca)).st _ _ _ hk I
  replace hl:=(SF.row 1 (ins sa)).st _ _ _ hl I
  replace s:=s.anewB rfl rfl
  refine fK<|rgK 8 ((89,.Z (uI n))::(90,.Z (UF.eq lj))::(91,.Z (UF.eq lq))::(92,.Z (UF.eq lw))::(93,.Z (zCa (fQN sum) (uB is)))::(88,.Z (zCa (fQN sum) (uB is)))::(94,.u (fQN sum))::(95,.u (uB is))::[]) s
   (oc zA<|oc zA<|oc zA<|oc zA<|oc (zCJ zD zTK (fun u0 u1 u2 u3 W I (h0:u0=.int .i64 n) (h1:u1=lj) (h2:u2=lq) (h3:u3=lw)=>(zP4 (n:=n) (N:=N) (js:=js) (fs:=qvs L) h0 (zAa O h1 (s.up I)) (zAa h6 h2 (s.up I)) (zAa h5 h3 (s.up I)) hM hNz hB (hT.below (s.up I))).mono (wF (fun v W h=>zOP hWk h))))<|oc zA<|oc (zAD (A:=(fQN sum).tS) (B:=(uB is).tS) iiz)<|oc (zAC (A:=(fQN sum).tS) (B:=(uB is).tS) iiz)<|zC) fun a w9 s=>yP (CU.len 3) (cs:=zR3) kA rfl s kA (fun W=>rfl) rfl fun hG a w s=>yI (fQN sum) rfl s yO fun a w s=>yN (uB is) rfl s kA iiz fun a w s=>zF rfl ?_
  replace s:StS _ _ _ [⟨23,32,CU.agg (fQN sum),hG,true⟩,⟨17,32,CU.agg (fQN qc),hA,true⟩,⟨14,32,CU.agg (fQN qc),hw,true⟩] _ _ _ _:=s.freeze
  have I:=s.below
  replace J:=J.trans (I.mono J.size)
  replace hT:=hT.below I
  replace O:=(SF.row 2 (jns js)).st _ _ _ O I
  replace h5:=(SF.row 1 (ins wl)).st _ _ _ h5 I
  replace h6:=(SF.row 3 (rvs 1 (qvs L))).st _ _ _ h6 I
  replace h8:=(SF.row 1 (ins way)).st _ _ _ h8 I
  replace h9:=(SF.row 1 (ins way)).st _ _ _ h9 I
  replace hk:=(SF.row 3 (qns ca)).st _ _ _ hk I
  replace hl:=(SF.row 1 (ins sa)).st _ _ _ hl I
  replace hm:=(SF.row 3 (qns ca)).st _ _ _ hm I
  replace hn:=(SF.row 1 (ins sa)).st _ _ _ hn I
  replace s:=s.anewB rfl rfl
  refine fK<|rgK 8 ((97,.Z (uI n))::(98,.Z (UF.eq lj))::(99,.Z (UF.eq lq))::(100,.Z (UF.eq lw))::(101,.Z (zCa (fQN sum) (uB is)))::(96,.Z (zCa (fQN sum) (uB is)))::(102,.u (fQN sum))::(103,.u (uB is))::[]) s
   (oc zA<|oc zA<|oc zA<|oc zA<|oc (zCJ zD zUv (fun u0 u1 u2 u3 W I (h0:u0=.int .i64 n) (h1:u1=lj) (h2:u2=lq) (h3:u3=lw)=>(zLo (n:=n) (N:=N) (js:=js) (fs:=qvs L) h0 (zAa O h1 (s.up I)) (zAa h6 h2 (s.up I)) (zAa h5 h3 (s.up I)) hM hNz hB (hT.below (s.up I))).mono (wF (fun v W h=>zOP hWk h))))<|oc zA<|oc (zAD (A:=(fQN sum).tS) (B:=(uB is).tS) iiz)<|oc (zAC (A:=(fQN sum).tS) (B:=(uB is).tS) iiz)<|zC) fun a w10 s=>yP (CU.len 3) (cs:=zR3) kA rfl s kA (fun W=>rfl) rfl fun hL a w s=>yI (fQN sum) rfl s yO fun a w s=>yN (uB is) rfl s kA iiz fun a w s=>zF rfl ?_
  replace s:StS _ _ _ [⟨25,32,CU.agg (fQN sum),hL,true⟩,⟨23,32,CU.agg (fQN sum),hG,true⟩,⟨17,32,CU.agg (fQN qc),hA,true⟩,⟨14,32,CU.agg (fQN qc),hw,true⟩] _ _ _ _:=s.freeze
  have I:=s.below
  replace J:=J.trans (I.mono J.size)
  replace hT:=hT.below I
  replace O:=(SF.row 2 (jns js)).st _ _ _ O I
  replace h5:=(SF.row 1 (ins wl)).st _ _ _ h5 I
  replace h6:=(SF.row 3 (rvs 1 (qvs L))).st _ _ _ h6 I
  replace h8:=(SF.row 1 (ins way)).st _ _ _ h8 I
  replace h9:=(SF.row 1 (ins way)).st _ _ _ h9 I
  replace hk:=(SF.row 3 (qns ca)).st _ _ _ hk I
  replace hl:=(SF.row 1 (ins sa)).st _ _ _ hl I
  replace hm:=(SF.row 3 (qns ca)).st _ _ _ hm I
  replace hn:=(SF.row 1 (ins sa)).st _ _ _ hn I
  replace s:=s.anewB rfl rfl
  refine fK ?_
  replace s:=s.drop [12]
  refine rgE ((104,.Z (UF.eq c1))::(105,.Z (UF.eq c2))::(106,.Z (uB true))::(107,.Z (uB true))::(108,.Z (UF.eq s1))::(109,.Z (UF.eq s2))::(110,.Z (uB true))::(111,.Z (uB true))::(112,.Z (uB true))::(113,.Z (fQN sum))::(114,.Z (fQN sum))::(115,.Z (uB true))::(116,.Z (uB true))::(117,.Z (uB true))::(118,.Z (uB is))::(119,.Z (uB is))::(120,.Z (uB true))::(121,.Z (uB true))::(122,.Z (uB true))::(123,.Z (uI n))::(124,.Z (UF.eq lj))::(125,.s (fLb w (grE N js []) N))::(126,.Z (uI n))::(127,.Z (UF.eq lj))::(128,.s (fLb w (grE N js []) N))::(129,.Z (uB true))::(130,.Z (uB true))::(131,.Z (uB true))::(132,.Z (uB true))::(133,.Z (uB true))::(12,.u (uB true))::[]) s
   (oc zA<|oc zA<|oc (zW zD zTM (fun u0 u1 W I (h0:u0=c1) (h1:u1=c2)=>zKb (l:=ca) (zAa hk h0 (s.up I)) (zAa hm h1 (s.up I)) oA))<|oc zA<|oc (zB 107 true kA iiz (fun _=>zA) arf)<|oc (zB 107 true kA iiz (fun _=>zA) arf)<|oc (zB 107 true kA iiz (fun _=>zW zD zMn (fun u0 u1 W I (h0:u0=s1) (h1:u1=s2)=>(zCj (la:=sa) (lb:=sa) (zAa hl h0 (s.up I)) (zAa hn h1 (s.up I)) oA).mono (wF (fun v W h=>by rw[fZ]at h;exact h)))) arf)<|oc (zT true iiz (fun _ _ _ h=>h) sF)<|oc zA<|oc (zB 112 true kA iiz (fun _=>yJ (f:=fQN sum) 3 kA (hz:=yV _)) arf)<|oc (zB 112 true kA iiz (fun _=>yJ (f:=fQN sum) 3 kA (hz:=yV _)) arf)<|oc (zB 112 true kA iiz (fun _=>zW zD zQY (fun u0 u1 W I (h0:QNp sum u0 W) (h1:QNp sum u1 W)=>zF9 h0 h1)) arf)<|oc (zT true iiz (fun _ _ _ h=>h) sF)<|oc zA<|oc (zB 117 true kA iiz (fun _=>zA) arf)<|oc (zB 117 true kA iiz (fun _=>zA) arf)<|oc (zB 117 true kA iiz (fun _=>zLI is is true kA iiz iiz eN rfl) arf)<|oc (zT true iiz (fun _ _ _ h=>h) sF)<|oc zA<|oc (zB 122 true kA iiz (fun _=>zA) arf)<|oc (zB 122 true kA iiz (fun _=>zA) arf)<|oc (zB 122 true kA iiz (fun _=>zW zD zSi (fun u0 u1 W I (h0:u0=.int .i64 n) (h1:u1=lj)=>(zHe (n:=n) (N:=N) (js:=js) h0 (zAa O h1 (s.up I)) hNz hD hK (hT.below (s.up I))).mono (wF (fun v W h=>zPj (s.up I).size h)))) arf)<|oc (zB 122 true kA iiz (fun _=>zA) arf)<|oc (zB 122 true kA iiz (fun _=>zA) arf)<|oc (zB 122 true kA iiz (fun _=>zW zD zTJ (fun u0 u1 W I (h0:u0=.int .i64 n) (h1:u1=lj)=>(zIh (n:=n) (N:=N) (js:=js) h0 (zAa O h1 (s.up I)) hNz hD hK (hT.below (s.up I))).mono (wF (fun v W h=>zPj (s.up I).size h)))) arf)<|oc (zB 122 true kA iiz (fun _=>zW zD zMn (fun u0 u1 W I h0 h1=>zQL hD h0 h1)) arf)<|oc (zT true iiz (fun _ _ _ h=>h) sF)<|oc zA<|oc (zB 131 true kA iiz (fun _=>zJr zD zUe (fun W I=>zKL (hT.below (s.up I)))) arf)<|oc (zT true iiz (fun _ _ _ h=>h) sF)<|oc zE<|zC) fun a w11 s=>?_
  replace s:StS _ _ _ [⟨25,32,CU.agg (fQN sum),hL,true⟩,⟨23,32,CU.agg (fQN sum),hG,true⟩,⟨17,32,CU.agg (fQN qc),hA,true⟩,⟨14,32,CU.agg (fQN qc),hw,true⟩] _ _ _ _:=s.freeze
  have I:=s.below
  replace J:=J.trans (I.mono J.size)
  replace hT:=hT.below I
  replace O:=(SF.row 2 (jns js)).st _ _ _ O I
  replace h5:=(SF.row 1 (ins wl)).st _ _ _ h5 I
  replace h6:=(SF.row 3 (rvs 1 (qvs L))).st _ _ _ h6 I
  replace h8:=(SF.row 1 (ins way)).st _ _ _ h8 I
  replace h9:=(SF.row 1 (ins way)).st _ _ _ h9 I
  replace hk:=(SF.row 3 (qns ca)).st _ _ _ hk I
  replace hl:=(SF.row 1 (ins sa)).st _ _ _ hl I
  replace hm:=(SF.row 3 (qns ca)).st _ _ _ hm I
  replace hn:=(SF.row 1 (ins sa)).st _ _ _ hn I
  replace s:=s.anewB rfl rfl
  exact nR<|wZ s J rfl iiz
end Go.Proofs.Wd
