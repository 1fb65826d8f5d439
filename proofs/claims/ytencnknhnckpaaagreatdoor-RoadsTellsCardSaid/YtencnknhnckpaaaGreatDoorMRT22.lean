/- Walks of package roads: Least; Walks of straitlaw28: wakes; Walks of s and what it needs. -/
import Derived.Test.YtencnknhnckpaaaGreatDoorMRT21
namespace Go.Proofs.Wd
open Tryz
variable {V W W':WB}{n x:Int}{N a j k:Nat}{js:List (Int×Int)}{cs fs:List Rat}{lf lj u v:WD}{q:Rat}{r:List Int×Rat×Bool}{l ss way:List Int}{E:Adj}{st:List Rat×List Int×Bool}{o:Bool}
set_option maxRecDepth 100000
set_option maxHeartbeats 1000000
open Go.RowKit Lb
theorem zQN(td:List Nat)(a:Nat):ins (jI td)++ [wC [.int .i64 (a:Int)]]=ins (jI (td++ [a])):=by simp[jI]
def zHK(W:WB)(r:List Int×Rat×Bool):SF:=wL (wD W 3 1 (ins r.1)) (fQN r.2.1).tS (fB r.2.2).tS
theorem zF8{z:Int}{t:WD}(hu:u=.int .i64 n)(hj:(SF.row 2 (jns js)).p lj W)(hf:(SF.row 3 (rvs 1 fs)).p lf W)(hv:v=.int .i64 x)(ht:t=.int .i64 z)(yn:min (max n 0) 131072=(N:Int))(hB:GrB N js fs)(hT:Tab W):Calls prog 10 #[u,lj,lf,v,t] W (Ret W (zHK W (qM (grE N js fs) N x z))):=by
 have I:Below W.heap.size W W:=xF _ _
 have q1:Gok (grE N js fs) N:=zGB _ _ _
 have qn:∀a b f,(b,f)∈(grE N js fs) a->(a,f)∈(grE N js fs) b:=fun a b f h=>zFa h
 refine y2 [(uI n).tS,(UF.eq lj).tS,(UF.eq lf).tS,(uI x).tS,(uI z).tS] func10 rfl kA ⟨hu,rfl,rfl,hv,ht,trivial⟩ fun a s=>?_
 replace s:=s.renew [(0,.u (uI n)),(1,.u (UF.eq lj)),(2,.u (UF.eq lf)),(3,.u (uI x)),(4,.u (uI z))] (sH (.inr ⟨_,rfl,.head _⟩)<|sH (.inr ⟨_,rfl,mz1⟩)<|sH (.inr ⟨_,rfl,mz2⟩)<|sH (.inr ⟨_,rfl,mz3⟩)<|sH (.inr ⟨_,rfl,mz4⟩) fnz)
 refine fK<|rgK 1 ((10,.u (UF.eq (.slice none 0 0)))::[]) s
  (oc zE<|zC) fun a w1 s=>yP (CU.len 3) (cs:=zR3) kA rfl s kA (fun W=>rfl) rfl fun hm a w s=>yN (uB false) rfl s kA iiz fun a w s=>zF rfl ?_
 have qk:=s.inB_new (q:=hm) ⟨_,.head _,rfl,rfl⟩
 obtain⟨x9,xp,qf,ym⟩:=s.boxAt (c:=11) rfl
 have O:=zJO (C:=CU.len 3) xp qf ym qf
 replace s:=(s.learn 11 _ (s.bx.mem _ (.head _)).choose_spec.1).popB
 have J:=s.below
 replace I:=I.trans (J.mono I.size)
 replace s:=s.anewB rfl rfl
 refine fK<|rgN ((20,.Z (uI n))::(21,.Z (UF.eq lj))::(22,.Z (UF.eq lf))::(23,.s (fG (glN N (rds N js fs))))::(13,.s (fG (glN N (rds N js fs))))::[]) s
  (oc zA<|oc zA<|oc zA<|oc (zBn zD zOq (fun u0 u1 u2 W J (h0:u0=.int .i64 n) (h1:u1=lj) (h2:u2=lf)=>zGK h0 (by rw[h1];exact(SF.row 2 (jns js)).st _ _ _ hj (I.trans ((s.up J).mono I.size))) (by rw[h2];exact(SF.row 3 (rvs 1 fs)).st _ _ _ hf (I.trans ((s.up J).mono I.size))) yn hB.hN hB.hj ((hT.below I).below (s.up J))))<|oc zE<|zC) fun a w2 s hr=>?_
 obtain⟨gg,cap,vs,xi,hG⟩:=(hr (_,_) mz4)
 rw[jO]at xi
 replace s:=s.learn 13 _ xi
 have J:=s.below
 replace I:=I.trans (J.mono I.size)
 replace O:=O.below J
 replace s:=s.anewB rfl rfl
 refine fK<|rgN ((25,.Z (UF.eq (.slice (some ⟨gg,0,none⟩) N cap)))::(26,.Z (uI x))::(27,.s (wI (wD w2 32 3 (qns (csR (grE N js fs) N x))) (wD w2 3 1 (ins (ssR (grE N js fs) N x)))))::(24,.s (wI (wD w2 32 3 (qns (csR (grE N js fs) N x))) (wD w2 3 1 (ins (ssR (grE N js fs) N x)))))::(28,.s (wD w2 32 3 (qns (csR (grE N js fs) N x))))::(29,.s (wD w2 3 1 (ins (ssR (grE N js fs) N x))))::(14,.s (wD w2 32 3 (qns (csR (grE N js fs) N x))))::(15,.s (wD w2 3 1 (ins (ssR (grE N js fs) N x))))::[]) s
  (oc zA<|oc zA<|oc (zW zD zSe (fun u0 u1 W J (h0:u0=(.slice (some ⟨gg,0,none⟩) N cap)) (h1:u1=.int .i64 x)=>(zMx (js:=js) (fs:=fs) (by exact⟨gg,cap,vs,by rw[jO];exact h0,hG.below (s.up J)⟩) h1 hB ((hT.below I).below (s.up J))).mono (wF (fun v W h=>zEB (s.up J).size h))))<|oc zA<|oc (zAD (A:=wD w2 32 3 (qns (csR (grE N js fs) N x))) (B:=wD w2 3 1 (ins (ssR (grE N js fs) N x))) iiz)<|oc (zAC (A:=wD w2 32 3 (qns (csR (grE N js fs) N x))) (B:=wD w2 3 1 (ins (ssR (grE N js fs) N x))) iiz)<|oc zE<|oc zE<|zC) fun a w3 s hr=>?_
 obtain⟨cv,e14⟩:∃v,a.tmps.getD 14 undef=v:=⟨_,rfl⟩
 obtain⟨sv,e15⟩:∃v,a.tmps.getD 15 undef=v:=⟨_,rfl⟩
 have hC:=(hr (_,_) mz6)
 have hS:=(hr (_,_) mz7)
 rw[show a.tmps.getD _ undef=cv from e14]at hC
 rw[show a.tmps.getD _ undef=sv from e15]at hS
 replace s:=(s.learn 14 _ e14).learn 15 _ e15
 replace hC:=y9.mono hC I.size
 replace hS:=y9.mono hS I.size
 obtain⟨csv,ecs⟩:∃c,csR (grE N js fs) N x=c:=⟨_,rfl⟩
 obtain⟨ssv,ess⟩:∃c,ssR (grE N js fs) N x=c:=⟨_,rfl⟩
 have q5:csv.length=N:=by rw[<-ecs];exact(zDL _ _ _).1
 have q3:ssv.length=N:=by rw[<-ess];exact(zDL _ _ _).2
 rw[ecs]at hC
 rw[ess]at hS
 have J:=s.below
 replace I:=I.trans (J.mono I.size)
 replace O:=O.below J
 replace hG:=hG.below J
 replace s:=s.anewB rfl rfl
 refine fK<|rgQ ((30,.Z (UF.eq (.slice (some ⟨gg,0,none⟩) N cap)))::(31,.Z (uI x))::(32,.Z (uB (yU N x)))::(33,.Z (uB (!(yU N x))))::(34,.Z (uB (!(yU N x))))::(35,.s (SF.imp ((!(yU N x))=false) ((UF.eq (.slice (some ⟨gg,0,none⟩) N cap)).tS)))::(36,.s (SF.imp ((!(yU N x))=false) ((uI z).tS)))::(37,.s (SF.imp ((!(yU N x))=false) ((uB (yU N z)).tS)))::(38,.s (SF.imp ((!(yU N x))=false) ((uB (!(yU N z))).tS)))::(39,.Z (uB ((!(yU N x))||(!(yU N z)))))::(40,.Z (uB ((!(yU N x))||(!(yU N z)))))::(41,.s (SF.imp (((!(yU N x))||(!(yU N z)))=false) ((UF.eq sv).tS)))::(42,.s (SF.imp (((!(yU N x))||(!(yU N z)))=false) ((uI z).tS)))::(43,.s (SF.imp (((!(yU N x))||(!(yU N z)))=false) (wB (wC [.int .i64 (ssv.getD z.toNat 0)]).cf)))::(44,.s (SF.imp (((!(yU N x))||(!(yU N z)))=false) ((uI (ssv.getD z.toNat 0)).tS)))::(45,.s (SF.imp (((!(yU N x))||(!(yU N z)))=false) ((uB (decide ((ssv.getD z.toNat 0)<0))).tS)))::(46,.u (uB (((!(yU N x))||(!(yU N z)))||(decide ((ssv.getD z.toNat 0)<0)))))::[]) s
  (oc zA<|oc zA<|oc (zW zD zKs (fun u0 u1 W J (h0:u0=(.slice (some ⟨gg,0,none⟩) N cap)) (h1:u1=.int .i64 x)=>zKp h0 h1))<|oc (zAv (yU N x) iiz (fun _=>rfl))<|oc zA<|oc (zB 34 (!(yU N x)) kA iiz (fun e=>zI [] ((UF.eq (.slice (some ⟨gg,0,none⟩) N cap)).tS) fnz (fun _ _ h _=>h) kA zA) (fun e W h=>absurd h e))<|oc (zB 34 (!(yU N x)) kA iiz (fun e=>zI [] ((uI z).tS) fnz (fun _ _ h _=>h) kA zA) (fun e W h=>absurd h e))<|oc (zB 34 (!(yU N x)) kA iiz (fun e=>zI [(35,(UF.eq (.slice (some ⟨gg,0,none⟩) N cap)).tS),(36,(uI z).tS)] ((uB (yU N z)).tS) (sH (fun v W h=>zG (c:=(!(yU N x))=false) (f:=(UF.eq (.slice (some ⟨gg,0,none⟩) N cap)).tS) e h)<|sH (fun v W h=>zG (c:=(!(yU N x))=false) (f:=(uI z).tS) e h) fnz) (fun _ _ h _=>h) kA (zW zD zKs (fun u0 u1 W J (h0:u0=(.slice (some ⟨gg,0,none⟩) N cap)) (h1:u1=.int .i64 z)=>zKp h0 h1))) (fun e W h=>absurd h e))<|oc (zB 34 (!(yU N x)) kA iiz (fun e=>zI [(37,(uB (yU N z)).tS)] ((uB (!(yU N z))).tS) (sH (fun v W h=>zG (c:=(!(yU N x))=false) (f:=(uB (yU N z)).tS) e h) fnz) (fun _ _ h _=>h) kA (zAv (yU N z) iiz (fun _=>rfl))) (fun e W h=>absurd h e))<|oc (zT (!(yU N x)) iiz (fun e v W h=>qH h e) (fun e v W h=>yX (zG e h) e))<|oc zA<|oc (zB 40 ((!(yU N x))||(!(yU N z))) kA iiz (fun e=>zI [] ((UF.eq sv).tS) fnz (fun _ _ h _=>h) kA zA) (fun e W h=>absurd h e))<|oc (zB 40 ((!(yU N x))||(!(yU N z))) kA iiz (fun e=>zI [] ((uI z).tS) fnz (fun _ _ h _=>h) kA zA) (fun e W h=>absurd h e))<|oc (zB 40 ((!(yU N x))||(!(yU N z))) kA iiz (fun e=>zI [(41,(UF.eq sv).tS),(42,(uI z).tS)] (wB (wC [.int .i64 (ssv.getD z.toNat 0)]).cf) (sH (fun v W h=>zG (c:=((!(yU N x))||(!(yU N z)))=false) (f:=(UF.eq sv).tS) e h)<|sH (fun v W h=>zG (c:=((!(yU N x))||(!(yU N z)))=false) (f:=(uI z).tS) e h) fnz) (fun _ _ h _=>h) kA (zL (z:=1) (Cs:=ins ssv) (i:=z.toNat) (C:=wC [.int .i64 (ssv.getD z.toNat 0)]) kA (qC (by rw[q3];exact(y5 (zMb e).2).1)) (fun v W J h=>by rw[show v=sv from h];exact(SF.row 1 (ins ssv)).st _ _ _ (y9.row hS) (s.up J)) (fun _ _ h=>h.trans (vX (Value.int .i64) (y5 (zMb e).2).2.symm)))) (fun e W h=>absurd h e))<|oc (zB 40 ((!(yU N x))||(!(yU N z))) kA iiz (fun e=>zI [(43,wB (wC [.int .i64 (ssv.getD z.toNat 0)]).cf)] ((uI (ssv.getD z.toNat 0)).tS) (sH (fun v W h=>zG (c:=((!(yU N x))||(!(yU N z)))=false) (f:=wB (wC [.int .i64 (ssv.getD z.toNat 0)]).cf) e h) fnz) (fun _ _ h _=>h) kA (z5 (C:=(wC [.int .i64 (ssv.getD z.toNat 0)]).cf) kA iiz yT)) (fun e W h=>absurd h e))<|oc (zB 40 ((!(yU N x))||(!(yU N z))) kA iiz (fun e=>zI [(44,(uI (ssv.getD z.toNat 0)).tS)] ((uB (decide ((ssv.getD z.toNat 0)<0))).tS) (sH (fun v W h=>zG (c:=((!(yU N x))||(!(yU N z)))=false) (f:=(uI (ssv.getD z.toNat 0)).tS) e h) fnz) (fun _ _ h _=>h) kA (zJ .i64 (ssv.getD z.toNat 0) 0 (decide ((ssv.getD z.toNat 0)<0)) iiz iiz rfl rfl)) (fun e W h=>absurd h e))<|oc (zT ((!(yU N x))||(!(yU N z))) iiz (fun e v W h=>qH h e) (fun e v W h=>yX (zG e h) e))<|zC) fun a w4 s=>?_
 have J:=s.below
 replace I:=I.trans (J.mono I.size)
 replace O:=O.below J
 replace hG:=hG.below J
 replace hC:=hC.below J
 replace hS:=hS.below J
 replace s:=s.anewB rfl rfl
 refine StS.cond s (((!(yU N x))||(!(yU N z)))||(decide ((ssv.getD z.toNat 0)<0))) iiz (fun e=>?_) (fun e=>?_)
 .have hn:qM (grE N js fs) N x z=([],0,false):=by unfold qM;rw[if_pos (by rw[ess];exact e)]
  refine fK ?_
  replace s:=s.drop [10,12]
  refine rgK 1 ((47,.u (fQN 0))::[]) s
   (oc (zK zD zHM (fun u0 W J (h0:u0=.int .i64 0)=>zDS h0))<|zC) fun a w5 s=>yN (UF.eq (.slice none 0 0)) rfl s kA iiz fun a w s=>?_
  have J:=s.below
  replace I:=I.trans (J.mono I.size)
  replace O:=O.below J
  replace hG:=hG.below J
  replace hC:=hC.below J
  replace hS:=hS.below J
  refine zAF (g:=hm) (i:=0) (cap:=1) (z:=3) (e:=32) (CU.agg (fQN 0)) rfl s rfl rfl O eN kA (s.fct (.tmp 11)) (zBS (s.fct (.tmp 47))) (fun q hq=>by cases hq) fun w he hs O s=>?_
  replace I:=yD I he (fun q hq=>by rw[hq];exact qk)
  refine yN (uB false) rfl s kA iiz fun a w s=>zF rfl ?_
  have J:=s.below
  replace I:=I.trans (J.mono I.size)
  replace O:=O.below J
  replace s:=s.anewB rfl rfl
  refine nR ?_
  obtain⟨x9,g1,g2,g3⟩:=zCU O
  replace s:=s.home rfl rfl I
  exact vC s rfl kA (s.fct (.tmp 11)) g1 g2 ⟨_,_,_,rfl,by rw[hn,show a.tmps.getD 10 undef=.slice none 0 0 from s.fct (.tmp 10)];exact y9.nil _ _ _ _,by rw[hn];exact g3,by rw[hn];exact s.fct (.tmp 12)⟩
 .have q6:=e
  rw[bL]at e
  obtain⟨hx,hz⟩:=zMb e.1
  have xu:=mB e.2
  have hV:=zFR q1 hx
  rw[ecs,ess]at hV
  obtain⟨qe,xe⟩:=y5 hx
  obtain⟨hO,xl⟩:=y5 hz
  obtain⟨xn,exn⟩:∃k,x.toNat=k:=⟨_,rfl⟩
  obtain⟨zn,ezn⟩:∃k,z.toNat=k:=⟨_,rfl⟩
  rw[exn]at qe xe hV
  rw[ezn]at hO xl xu
  rw[<-xe,<-xl]at s
  obtain⟨gc,ha,ec,hgc,xd⟩:=zDR hC (by simp[q5];omega)
  obtain⟨gs,hg,es,hgs,xa⟩:=zDR hS (by simp[q3];omega)
  rw[show(qns csv).length=N by simp[q5]]at ec
  rw[show(ins ssv).length=N by simp[q3]]at es
  rw[ec,es]at s
  replace hC:=xd
  replace hS:=xa
  clear xd xa
  obtain⟨s0,x7,qt,x2⟩:=hV.of hO oA
  have xj:=zKJ q1 qn qe hV s0 zn hO qt x7
  have hn:qM (grE N js fs) N x z=(jI ((zn::zD2 (nxF (grE N js fs) N csv ssv) xn s0 zn).reverse),csv.getD zn 0,true):=by unfold qM;rw[if_neg (by rw[ess,q6];decide),ecs,ess,exn,ezn,qt];rfl
  clear q6 e
  refine nQ<|fK ?_
  replace s:=s.drop [10]
  refine rgN ((48,.Z (uI (zn:Int)))::(49,.s (wD w4 3 1 [wC [.int .i64 (zn:Int)]]))::(10,.s (wD w4 3 1 [wC [.int .i64 (zn:Int)]]))::[]) s
   (oc zA<|oc (zBd (fun u W J (hu:u=.int .i64 (zn:Int))=>by subst hu;exact⟨_,_,zPR _,(zIb _ _).toN J.size rfl⟩))<|oc zE<|zC) fun a w6 s hr=>?_
  obtain⟨tv,e10⟩:∃v,a.tmps.getD 10 undef=v:=⟨_,rfl⟩
  have h4:=(hr (_,_) mz2)
  rw[show a.tmps.getD _ undef=tv from e10]at h4
  replace s:=s.learn 10 _ e10
  have hL:∀q_,tv.ownBlock=some q_->q_≠gs:=fun q_ hq=>by have h1:=(h4.lt q_ hq).1;have h2:=hS.lt;omega
  replace h4:y9 w6 W.heap.size 3 1 tv (ins (jI [zn])):=h4.mono I.size
  have J:=s.below
  replace I:=I.trans (J.mono I.size)
  replace O:=O.below J
  replace hG:=hG.below J
  replace hC:=hC.below J
  replace hS:=hS.below J
  replace s:=s.anewB rfl rfl
  refine fK<|rgQ ((50,.Z (uI (zn:Int)))::(16,.u (uI (zn:Int)))::[]) s
   (oc zA<|oc zE<|zC) fun a w7 s=>?_
  have J:=s.below
  replace I:=I.trans (J.mono I.size)
  replace O:=O.below J
  replace hG:=hG.below J
  replace hC:=hC.below J
  replace hS:=hS.below J
  replace h4:=h4.below J
  replace s:=s.anewB rfl rfl
  refine rF<|yC (fun(y:Nat×Nat×List Nat×WD) a w=>(y.2.1<N/\ssv.getD y.2.1 0=(y.1:Int)/\Opt (grE N js fs) xn y.2.1 (csv.getD y.2.1 0) y.1/\y.2.2.1++zD2 (nxF (grE N js fs) N csv ssv) xn y.1 y.2.1=zn::zD2 (nxF (grE N js fs) N csv ssv) xn s0 zn/\y.2.2.1.length+y.1=s0+1)/\Below W.heap.size W w/\q9 w hm 32 3 1 [CU.len 3]/\GM w gg cap vs (glN N (rds N js fs))/\q9 w gc 32 3 ha (qns csv)/\q9 w gs 3 1 hg (ins ssv)/\y9 w W.heap.size 3 1 y.2.2.2 (ins (jI y.2.2.1))/\(∀q_,y.2.2.2.ownBlock=some q_->q_≠gs)/\St w [(3,.u (uI (xn:Int))),(4,.u (uI (zn:Int))),(10,.u (UF.eq (y.2.2.2))),(11,.u (UF.eq (pO hm 0))),(13,.u (UF.eq (.slice (some ⟨gg,0,none⟩) N cap))),(14,.u (UF.eq (.slice (some ⟨gc,0,none⟩) N ha))),(15,.u (UF.eq (.slice (some ⟨gs,0,none⟩) N hg))),(16,.u (uI (y.2.1:Int)))] [] f10.ntmps [] a w) (fun y=>y.1) (s0,zn, [zn],tv) ⟨⟨hO,qt,x7,rfl,gL _ _⟩,I,O,hG,hC,hS,h4,hL,s.keepK _ (sH zDW<|sH zFl<|sH mz1<|sH mz6<|sH mz5<|sH mz4<|sH mz3<|sH (.head _) fnz)⟩ fun y a w hx=>?_
  clear I O hG hC hS h4 hL
  obtain⟨⟨hD,yd,hop,xm,hln⟩,I,O,hG,hC,hS,h4,hL,s⟩:=hx
  refine fK<|rgQ ((51,.Z (uI (y.2.1:Int)))::(52,.Z (uI (xn:Int)))::(53,.u (uB ((y.2.1:Int) !=(xn:Int))))::[]) s
   (oc zA<|oc zA<|oc (zJ .i64 (y.2.1:Int) (xn:Int) ((y.2.1:Int) !=(xn:Int)) iiz iiz rfl rfl)<|zC) fun a w8 s=>?_
  have J:=s.below
  replace I:=I.trans (J.mono I.size)
  replace O:=O.below J
  replace hG:=hG.below J
  replace hC:=hC.below J
  replace hS:=hS.below J
  replace h4:=h4.below J
  replace s:=s.anewB rfl rfl
  refine StS.cond s ((y.2.1:Int) !=(xn:Int)) iiz (fun e=>?_) (fun e=>?_)
  .have qg:y.2.1≠xn:=by intro h;rw[h]at e;simp at e
   obtain⟨t,et⟩:∃t,y.1=t+1:=by
    rcases hy1:y.1 with _|t
    .rw[hy1]at hop;exact absurd (zEj hop.1).1 qg
    .exact⟨t,rfl⟩
   obtain⟨yc,-,-,yt,yb⟩:=hV.nx q1 qn qe hD (s:=t) (by rw[yd,et]) (by rw[<-et];exact hop)
   have hs0N':=x2
   have hdeg:(zH (rds N js fs) y.2.1).length<=122:=by have h1:=zDN (rds N js fs) y.2.1;have h2:=zBN N js fs js.length;have h3:=hB.hj;unfold rds at h1 ⊢;omega
   refine nQ<|fK<|rF<|rgQ ((58,.Z (UF.eq (.slice (some ⟨gg,0,none⟩) N cap)))::(59,.Z (uI (N:Int)))::(17,.u (uI (N:Int)))::[]) s
    (oc zA<|oc (zAd kA (fun v W h=>⟨_,_,_,h,rfl⟩))<|oc zE<|zC) fun a w9 s=>?_
   have J:=s.below
   replace I:=I.trans (J.mono I.size)
   replace O:=O.below J
   replace hG:=hG.below J
   replace hC:=hC.below J
   replace hS:=hS.below J
   replace h4:=h4.below J
   replace s:=s.anewB rfl rfl
   refine fK<|fK ?_
   have x3:=hG.row (n:=N) (jO _ _).symm
   have xz:y.2.1<vs.length:=by rw[hG.ln,jO];exact hD
   have q0:=hG.at (i:=y.2.1) (by rw[jO];exact hD)
   rw[zC5 _ hD]at q0
   refine rgE ((60,.Z (UF.eq (.slice (some ⟨gg,0,none⟩) N cap)))::(61,.Z (uI (y.2.1:Int)))::(62,.s (wB (wC [(vs.getD y.2.1 (.slice none 0 0))]).cf))::(63,.u (UF.eq (vs.getD y.2.1 (.slice none 0 0))))::(64,.u (uI (((ros (zH (rds N js fs) y.2.1)).length:Nat):Int)))::(65,.u (uI 0))::[]) s
    (oc zA<|oc zA<|oc (zL (z:=1) (Cs:=sls vs) (i:=y.2.1) (C:=wC [(vs.getD y.2.1 (.slice none 0 0))]) kA (zDy xz) (fun v W J h=>(by rw[show v=(Value.slice (some ⟨gg,0,none⟩) N cap)from h];exact(SF.row 1 (sls vs)).st _ _ _ x3 (s.up J))) iiz)<|oc (z5 (C:=(wC [(vs.getD y.2.1 (.slice none 0 0))]).cf) kA iiz yT)<|oc (qZ (z:=4) (Cs:=ros (zH (rds N js fs) y.2.1)) kA (fun v W J h=>(by rw[show v=(vs.getD y.2.1 (.slice none 0 0))from h];exact(SF.row 4 (ros (zH (rds N js fs) y.2.1))).st _ _ _ q0 (s.up J))) (fun _=>rfl))<|oc zA<|zC) fun a w10 s=>?_
   have J:=s.below
   replace I:=I.trans (J.mono I.size)
   replace O:=O.below J
   replace hG:=hG.below J
   replace hC:=hC.below J
   replace hS:=hS.below J
   replace h4:=h4.below J
   replace s:=s.anewB rfl rfl
   refine rF<|yC (fun(q:Nat×Nat) a w=>q.1<=(zH (rds N js fs) y.2.1).length/\q.2=((zH (rds N js fs) y.2.1).take q.1).foldl (zD9 csv ssv y.2.1) N/\q.2<=N/\Below W.heap.size W w/\q9 w hm 32 3 1 [CU.len 3]/\GM w gg cap vs (glN N (rds N js fs))/\q9 w gc 32 3 ha (qns csv)/\q9 w gs 3 1 hg (ins ssv)/\y9 w W.heap.size 3 1 y.2.2.2 (ins (jI y.2.2.1))/\St w [(3,.u (uI (xn:Int))),(4,.u (uI (zn:Int))),(10,.u (UF.eq (y.2.2.2))),(11,.u (UF.eq (pO hm 0))),(13,.u (UF.eq (.slice (some ⟨gg,0,none⟩) N cap))),(14,.u (UF.eq (.slice (some ⟨gc,0,none⟩) N ha))),(15,.u (UF.eq (.slice (some ⟨gs,0,none⟩) N hg))),(16,.u (uI (y.2.1:Int))),(17,.u (uI (q.2:Int))),(63,.u (UF.eq (vs.getD y.2.1 (.slice none 0 0)))),(64,.u (uI (((ros (zH (rds N js fs) y.2.1)).length:Nat):Int))),(65,.u (uI (q.1:Int)))] [] f10.ntmps [] a w) (fun q=>(zH (rds N js fs) y.2.1).length-q.1) (0,N) ⟨vS _,rfl,vR _,I,O,hG,hC,hS,h4,s.keepK _ (sH mz5<|sH mz6<|sH mz7<|sH mz8<|sH mz9<|sH zC1<|sH zDW<|sH zFl<|sH mz3<|sH (.head _)<|sH mz1<|sH mz2 fnz)⟩ fun q a w hx=>?_
   clear I O hG hC hS h4
   obtain⟨hk,qo,yf,I,O,hG,hC,hS,h4,s⟩:=hx
   refine rgQ ((66,.u (uB (decide ((q.1:Int)<(((ros (zH (rds N js fs) y.2.1)).length:Nat):Int)))))::[]) s
    (oc (zJ .i64 (q.1:Int) (((ros (zH (rds N js fs) y.2.1)).length:Nat):Int) (decide ((q.1:Int)<(((ros (zH (rds N js fs) y.2.1)).length:Nat):Int))) iiz iiz rfl rfl)<|zC) fun a w11 s=>?_
   have J:=s.below
   replace I:=I.trans (J.mono I.size)
   replace O:=O.below J
   replace hG:=hG.below J
   replace hC:=hC.below J
   replace hS:=hS.below J
   replace h4:=h4.below J
   replace s:=s.anewB rfl rfl
   refine fK<|StS.cond s (decide ((q.1:Int)<(((ros (zH (rds N js fs) y.2.1)).length:Nat):Int))) iiz (fun e=>?_) (fun e=>?_)
   .have hJ:q.1<(zH (rds N js fs) y.2.1).length:=by have h7:=xW e;simp only[xT]at h7;omega
    have qd:((zH (rds N js fs) y.2.1).getD q.1 (0,0))∈grE N js fs y.2.1:=by show((zH (rds N js fs) y.2.1).getD q.1 (0,0))∈(zH (rds N js fs) y.2.1);rw[nX,mD hJ];exact uO hJ
    have qq:((zH (rds N js fs) y.2.1).getD q.1 (0,0)).1<N:=(q1 _ hD _ qd).1
    have xk:QB ((zH (rds N js fs) y.2.1).getD q.1 (0,0)).2 1:=hB.qr qd
    have hM:y.2.1<ssv.length/\((zH (rds N js fs) y.2.1).getD q.1 (0,0)).1<ssv.length/\y.2.1<csv.length/\((zH (rds N js fs) y.2.1).getD q.1 (0,0)).1<csv.length:=by rw[q3,q5];exact⟨hD,qq,hD,qq⟩
    have y1:QB (csv.getD y.2.1 0) 1:=hB.qb hop.1 (by have:=hB.hN;omega)
    obtain⟨s',qj,hss',hs'N⟩:=hV.rch q1 qe (Rch.cons hop.1 (b:=((zH (rds N js fs) y.2.1).getD q.1 (0,0)).1) (f:=((zH (rds N js fs) y.2.1).getD q.1 (0,0)).2) qd)
    have x5:QB (csv.getD ((zH (rds N js fs) y.2.1).getD q.1 (0,0)).1 0) 1:=hB.qb qj.1 (by have:=hB.hN;omega)
    have yl:QB (csv.getD ((zH (rds N js fs) y.2.1).getD q.1 (0,0)).1 0+((zH (rds N js fs) y.2.1).getD q.1 (0,0)).2) 1:=hB.qb (Rch.cons qj.1 (b:=y.2.1) (f:=((zH (rds N js fs) y.2.1).getD q.1 (0,0)).2) (qn _ _ _ qd)) (by have:=hB.hN;omega)
    refine nQ<|fK<|rF<|fK ?_
    have q0:=hG.at (i:=y.2.1) (by rw[jO];exact hD)
    rw[zC5 _ hD]at q0
    refine rgK 2 ((67,.Y (fRo ((zH (rds N js fs) y.2.1).getD q.1 (0,0))))::(68,.u (fRo ((zH (rds N js fs) y.2.1).getD q.1 (0,0))))::[]) s
     (oc (zL (z:=4) (Cs:=ros (zH (rds N js fs) y.2.1)) (i:=q.1) (C:=CU.agg (fRo ((zH (rds N js fs) y.2.1).getD q.1 (0,0)))) kA (zF7 hJ) (fun v W J h=>(by rw[show v=(vs.getD y.2.1 (.slice none 0 0))from h];exact(SF.row 4 (ros (zH (rds N js fs) y.2.1))).st _ _ _ q0 (s.up J))) iiz)<|oc (yJ (f:=fRo ((zH (rds N js fs) y.2.1).getD q.1 (0,0))) 4 kA (hz:=zI7 _))<|zC) fun a w12 s=>yP (CU.len 4) (cs:=[.int .i64 0,.bool false,.slice none 0 0,.slice none 0 0]) kA rfl s kA (fun W=>rfl) rfl fun yr a w s=>yI (fRo ((zH (rds N js fs) y.2.1).getD q.1 (0,0))) rfl s zEh fun a w s=>zF rfl ?_
    have J:=s.below
    replace I:=I.trans (J.mono I.size)
    replace O:=O.below J
    replace hG:=hG.below J
    replace hC:=hC.below J
    replace hS:=hS.below J
    replace h4:=h4.below J
    replace s:StS _ _ _ [⟨19,67,CU.agg (fRo ((zH (rds N js fs) y.2.1).getD q.1 (0,0))),yr,true⟩] _ _ _ _:=s.freeze
    replace s:=s.anewB rfl rfl
    refine fK ?_
    have x4:=hS.row (n:=N) (by simp[q3])
    have xb:=hC.row (n:=N) (by simp[q5])
    refine rgE ((69,.Z (UF.eq (.slice (some ⟨gs,0,none⟩) N hg)))::(70,.X (fRo ((zH (rds N js fs) y.2.1).getD q.1 (0,0))) 0)::(71,.Z (uI ((((zH (rds N js fs) y.2.1).getD q.1 (0,0)).1:Nat):Int)))::(72,.s (wB (wC [.int .i64 (ssv.getD ((zH (rds N js fs) y.2.1).getD q.1 (0,0)).1 0)]).cf))::(73,.Z (uI (ssv.getD ((zH (rds N js fs) y.2.1).getD q.1 (0,0)).1 0)))::(74,.Z (UF.eq (.slice (some ⟨gs,0,none⟩) N hg)))::(75,.Z (uI (y.2.1:Int)))::(76,.s (wB (wC [.int .i64 (ssv.getD y.2.1 0)]).cf))::(77,.Z (uI (ssv.getD y.2.1 0)))::(78,.Z (uI (ssv.getD y.2.1 0-1)))::(79,.Z (uB ((ssv.getD ((zH (rds N js fs) y.2.1).getD q.1 (0,0)).1 0)==(ssv.getD y.2.1 0-1))))::(80,.Z (uB ((ssv.getD ((zH (rds N js fs) y.2.1).getD q.1 (0,0)).1 0)==(ssv.getD y.2.1 0-1))))::(81,.s (SF.imp (((ssv.getD ((zH (rds N js fs) y.2.1).getD q.1 (0,0)).1 0)==(ssv.getD y.2.1 0-1))=true) (wB ((CU.agg (fRo ((zH (rds N js fs) y.2.1).getD q.1 (0,0)))).cf.at 0))))::(82,.s (SF.imp (((ssv.getD ((zH (rds N js fs) y.2.1).getD q.1 (0,0)).1 0)==(ssv.getD y.2.1 0-1))=true) ((uI ((((zH (rds N js fs) y.2.1).getD q.1 (0,0)).1:Nat):Int)).tS)))::(83,.s (SF.imp (((ssv.getD ((zH (rds N js fs) y.2.1).getD q.1 (0,0)).1 0)==(ssv.getD y.2.1 0-1))=true) ((uI (q.2:Int)).tS)))::(84,.s (SF.imp (((ssv.getD ((zH (rds N js fs) y.2.1).getD q.1 (0,0)).1 0)==(ssv.getD y.2.1 0-1))=true) ((uB (decide (((((zH (rds N js fs) y.2.1).getD q.1 (0,0)).1:Nat):Int)<(q.2:Int)))).tS)))::(85,.Z (uB (((ssv.getD ((zH (rds N js fs) y.2.1).getD q.1 (0,0)).1 0)==(ssv.getD y.2.1 0-1))&&(decide (((((zH (rds N js fs) y.2.1).getD q.1 (0,0)).1:Nat):Int)<(q.2:Int))))))::(86,.Z (uB (((ssv.getD ((zH (rds N js fs) y.2.1).getD q.1 (0,0)).1 0)==(ssv.getD y.2.1 0-1))&&(decide (((((zH (rds N js fs) y.2.1).getD q.1 (0,0)).1:Nat):Int)<(q.2:Int))))))::(87,.s (SF.imp ((((ssv.getD ((zH (rds N js fs) y.2.1).getD q.1 (0,0)).1 0)==(ssv.getD y.2.1 0-1))&&(decide (((((zH (rds N js fs) y.2.1).getD q.1 (0,0)).1:Nat):Int)<(q.2:Int))))=true) ((UF.eq (.slice (some ⟨gc,0,none⟩) N ha)).tS)))::(88,.s (SF.imp ((((ssv.getD ((zH (rds N js fs) y.2.1).getD q.1 (0,0)).1 0)==(ssv.getD y.2.1 0-1))&&(decide (((((zH (rds N js fs) y.2.1).getD q.1 (0,0)).1:Nat):Int)<(q.2:Int))))=true) (wB ((CU.agg (fRo ((zH (rds N js fs) y.2.1).getD q.1 (0,0)))).cf.at 0))))::(89,.s (SF.imp ((((ssv.getD ((zH (rds N js fs) y.2.1).getD q.1 (0,0)).1 0)==(ssv.getD y.2.1 0-1))&&(decide (((((zH (rds N js fs) y.2.1).getD q.1 (0,0)).1:Nat):Int)<(q.2:Int))))=true) ((uI ((((zH (rds N js fs) y.2.1).getD q.1 (0,0)).1:Nat):Int)).tS)))::(90,.s (SF.imp ((((ssv.getD ((zH (rds N js fs) y.2.1).getD q.1 (0,0)).1 0)==(ssv.getD y.2.1 0-1))&&(decide (((((zH (rds N js fs) y.2.1).getD q.1 (0,0)).1:Nat):Int)<(q.2:Int))))=true) (wB (cg (fQN (csv.getD ((zH (rds N js fs) y.2.1).getD q.1 (0,0)).1 0))))))::(91,.s (SF.imp ((((ssv.getD ((zH (rds N js fs) y.2.1).getD q.1 (0,0)).1 0)==(ssv.getD y.2.1 0-1))&&(decide (((((zH (rds N js fs) y.2.1).getD q.1 (0,0)).1:Nat):Int)<(q.2:Int))))=true) ((fQN (csv.getD ((zH (rds N js fs) y.2.1).getD q.1 (0,0)).1 0)).tS)))::(92,.s (SF.imp ((((ssv.getD ((zH (rds N js fs) y.2.1).getD q.1 (0,0)).1 0)==(ssv.getD y.2.1 0-1))&&(decide (((((zH (rds N js fs) y.2.1).getD q.1 (0,0)).1:Nat):Int)<(q.2:Int))))=true) (wB ((CU.agg (fRo ((zH (rds N js fs) y.2.1).getD q.1 (0,0)))).cf.at 1))))::(93,.s (SF.imp ((((ssv.getD ((zH (rds N js fs) y.2.1).getD q.1 (0,0)).1 0)==(ssv.getD y.2.1 0-1))&&(decide (((((zH (rds N js fs) y.2.1).getD q.1 (0,0)).1:Nat):Int)<(q.2:Int))))=true) ((fQN (((zH (rds N js fs) y.2.1).getD q.1 (0,0)).2)).tS)))::(94,.s (SF.imp ((((ssv.getD ((zH (rds N js fs) y.2.1).getD q.1 (0,0)).1 0)==(ssv.getD y.2.1 0-1))&&(decide (((((zH (rds N js fs) y.2.1).getD q.1 (0,0)).1:Nat):Int)<(q.2:Int))))=true) (fQS 1 [csv.getD ((zH (rds N js fs) y.2.1).getD q.1 (0,0)).1 0,((zH (rds N js fs) y.2.1).getD q.1 (0,0)).2])))::(95,.s (SF.imp ((((ssv.getD ((zH (rds N js fs) y.2.1).getD q.1 (0,0)).1 0)==(ssv.getD y.2.1 0-1))&&(decide (((((zH (rds N js fs) y.2.1).getD q.1 (0,0)).1:Nat):Int)<(q.2:Int))))=true) ((fQN (csv.getD ((zH (rds N js fs) y.2.1).getD q.1 (0,0)).1 0+((zH (rds N js fs) y.2.1).getD q.1 (0,0)).2)).tS)))::(96,.s (SF.imp ((((ssv.getD ((zH (rds N js fs) y.2.1).getD q.1 (0,0)).1 0)==(ssv.getD y.2.1 0-1))&&(decide (((((zH (rds N js fs) y.2.1).getD q.1 (0,0)).1:Nat):Int)<(q.2:Int))))=true) ((UF.eq (.slice (some ⟨gc,0,none⟩) N ha)).tS)))::(97,.s (SF.imp ((((ssv.getD ((zH (rds N js fs) y.2.1).getD q.1 (0,0)).1 0)==(ssv.getD y.2.1 0-1))&&(decide (((((zH (rds N js fs) y.2.1).getD q.1 (0,0)).1:Nat):Int)<(q.2:Int))))=true) ((uI (y.2.1:Int)).tS)))::(98,.s (SF.imp ((((ssv.getD ((zH (rds N js fs) y.2.1).getD q.1 (0,0)).1 0)==(ssv.getD y.2.1 0-1))&&(decide (((((zH (rds N js fs) y.2.1).getD q.1 (0,0)).1:Nat):Int)<(q.2:Int))))=true) (wB (cg (fQN (csv.getD y.2.1 0))))))::(99,.s (SF.imp ((((ssv.getD ((zH (rds N js fs) y.2.1).getD q.1 (0,0)).1 0)==(ssv.getD y.2.1 0-1))&&(decide (((((zH (rds N js fs) y.2.1).getD q.1 (0,0)).1:Nat):Int)<(q.2:Int))))=true) ((fQN (csv.getD y.2.1 0)).tS)))::(100,.s (SF.imp ((((ssv.getD ((zH (rds N js fs) y.2.1).getD q.1 (0,0)).1 0)==(ssv.getD y.2.1 0-1))&&(decide (((((zH (rds N js fs) y.2.1).getD q.1 (0,0)).1:Nat):Int)<(q.2:Int))))=true) ((uI (qsg (csv.getD ((zH (rds N js fs) y.2.1).getD q.1 (0,0)).1 0+((zH (rds N js fs) y.2.1).getD q.1 (0,0)).2) (csv.getD y.2.1 0))).tS)))::(101,.s (SF.imp ((((ssv.getD ((zH (rds N js fs) y.2.1).getD q.1 (0,0)).1 0)==(ssv.getD y.2.1 0-1))&&(decide (((((zH (rds N js fs) y.2.1).getD q.1 (0,0)).1:Nat):Int)<(q.2:Int))))=true) ((uB ((qsg (csv.getD ((zH (rds N js fs) y.2.1).getD q.1 (0,0)).1 0+((zH (rds N js fs) y.2.1).getD q.1 (0,0)).2) (csv.getD y.2.1 0))==0)).tS)))::(102,.u (uB ((((ssv.getD ((zH (rds N js fs) y.2.1).getD q.1 (0,0)).1 0)==(ssv.getD y.2.1 0-1))&&(decide (((((zH (rds N js fs) y.2.1).getD q.1 (0,0)).1:Nat):Int)<(q.2:Int))))&&((qsg (csv.getD ((zH (rds N js fs) y.2.1).getD q.1 (0,0)).1 0+((zH (rds N js fs) y.2.1).getD q.1 (0,0)).2) (csv.getD y.2.1 0))==0))))::[]) s
     (oc zA<|oc (zO (C:=cg (fRo ((zH (rds N js fs) y.2.1).getD q.1 (0,0)))) 0 kA)<|oc (yK (C:=cg (fRo ((zH (rds N js fs) y.2.1).getD q.1 (0,0)))) (k:=0) kA (h:=zEO))<|oc (zL (z:=1) (Cs:=ins ssv) (i:=((zH (rds N js fs) y.2.1).getD q.1 (0,0)).1) (C:=wC [.int .i64 (ssv.getD ((zH (rds N js fs) y.2.1).getD q.1 (0,0)).1 0)]) kA (qC hM.2.1) (fun v W J h=>(by rw[show v=(Value.slice (some ⟨gs,0,none⟩) N hg)from h];exact(SF.row 1 (ins ssv)).st _ _ _ x4 (s.up J))) iiz)<|oc (z5 (C:=(wC [.int .i64 (ssv.getD ((zH (rds N js fs) y.2.1).getD q.1 (0,0)).1 0)]).cf) kA iiz yT)<|oc zA<|oc zA<|oc (zL (z:=1) (Cs:=ins ssv) (i:=y.2.1) (C:=wC [.int .i64 (ssv.getD y.2.1 0)]) kA (qC hM.1) (fun v W J h=>(by rw[show v=(Value.slice (some ⟨gs,0,none⟩) N hg)from h];exact(SF.row 1 (ins ssv)).st _ _ _ x4 (s.up J))) iiz)<|oc (z5 (C:=(wC [.int .i64 (ssv.getD y.2.1 0)]).cf) kA iiz yT)<|oc (zAR .i64 (ssv.getD y.2.1 0) 1 (ssv.getD y.2.1 0-1) iiz iiz (zAE _ oA oA))<|oc (zJ .i64 (ssv.getD ((zH (rds N js fs) y.2.1).getD q.1 (0,0)).1 0) (ssv.getD y.2.1 0-1) ((ssv.getD ((zH (rds N js fs) y.2.1).getD q.1 (0,0)).1 0)==(ssv.getD y.2.1 0-1)) iiz iiz rfl rfl)<|oc zA<|oc (zB 80 ((ssv.getD ((zH (rds N js fs) y.2.1).getD q.1 (0,0)).1 0)==(ssv.getD y.2.1 0-1)) kA iiz (fun e=>zI [] (wB ((CU.agg (fRo ((zH (rds N js fs) y.2.1).getD q.1 (0,0)))).cf.at 0)) fnz (fun _ _ h _=>h) kA (zO (C:=cg (fRo ((zH (rds N js fs) y.2.1).getD q.1 (0,0)))) 0 kA)) (fun e W h=>absurd h e))<|oc (zB 80 ((ssv.getD ((zH (rds N js fs) y.2.1).getD q.1 (0,0)).1 0)==(ssv.getD y.2.1 0-1)) kA iiz (fun e=>zI [(81,wB ((CU.agg (fRo ((zH (rds N js fs) y.2.1).getD q.1 (0,0)))).cf.at 0))] ((uI ((((zH (rds N js fs) y.2.1).getD q.1 (0,0)).1:Nat):Int)).tS) (sH (fun v W h=>zG (c:=((ssv.getD ((zH (rds N js fs) y.2.1).getD q.1 (0,0)).1 0)==(ssv.getD y.2.1 0-1))=true) (f:=wB ((CU.agg (fRo ((zH (rds N js fs) y.2.1).getD q.1 (0,0)))).cf.at 0)) e h) fnz) (fun _ _ h _=>h) kA (yK (C:=cg (fRo ((zH (rds N js fs) y.2.1).getD q.1 (0,0)))) (k:=0) kA (h:=zEO))) (fun e W h=>absurd h e))<|oc (zB 80 ((ssv.getD ((zH (rds N js fs) y.2.1).getD q.1 (0,0)).1 0)==(ssv.getD y.2.1 0-1)) kA iiz (fun e=>zI [] ((uI (q.2:Int)).tS) fnz (fun _ _ h _=>h) kA zA) (fun e W h=>absurd h e))<|oc (zB 80 ((ssv.getD ((zH (rds N js fs) y.2.1).getD q.1 (0,0)).1 0)==(ssv.getD y.2.1 0-1)) kA iiz (fun e=>zI [(82,(uI ((((zH (rds N js fs) y.2.1).getD q.1 (0,0)).1:Nat):Int)).tS),(83,(uI (q.2:Int)).tS)] ((uB (decide (((((zH (rds N js fs) y.2.1).getD q.1 (0,0)).1:Nat):Int)<(q.2:Int)))).tS) (sH (fun v W h=>zG (c:=((ssv.getD ((zH (rds N js fs) y.2.1).getD q.1 (0,0)).1 0)==(ssv.getD y.2.1 0-1))=true) (f:=(uI ((((zH (rds N js fs) y.2.1).getD q.1 (0,0)).1:Nat):Int)).tS) e h)<|sH (fun v W h=>zG (c:=((ssv.getD ((zH (rds N js fs) y.2.1).getD q.1 (0,0)).1 0)==(ssv.getD y.2.1 0-1))=true) (f:=(uI (q.2:Int)).tS) e h) fnz) (fun _ _ h _=>h) kA (zJ .i64 ((((zH (rds N js fs) y.2.1).getD q.1 (0,0)).1:Nat):Int) (q.2:Int) (decide (((((zH (rds N js fs) y.2.1).getD q.1 (0,0)).1:Nat):Int)<(q.2:Int))) iiz iiz rfl rfl)) (fun e W h=>absurd h e))<|oc (zT ((ssv.getD ((zH (rds N js fs) y.2.1).getD q.1 (0,0)).1 0)==(ssv.getD y.2.1 0-1)) iiz (fun e v W h=>zBH (zG e h) e) (fun e v W h=>zBc h e))<|oc zA<|oc (zB 86 (((ssv.getD ((zH (rds N js fs) y.2.1).getD q.1 (0,0)).1 0)==(ssv.getD y.2.1 0-1))&&(decide (((((zH (rds N js fs) y.2.1).getD q.1 (0,0)).1:Nat):Int)<(q.2:Int)))) kA iiz (fun e=>zI [] ((UF.eq (.slice (some ⟨gc,0,none⟩) N ha)).tS) fnz (fun _ _ h _=>h) kA zA) (fun e W h=>absurd h e))<|oc (zB 86 (((ssv.getD ((zH (rds N js fs) y.2.1).getD q.1 (0,0)).1 0)==(ssv.getD y.2.1 0-1))&&(decide (((((zH (rds N js fs) y.2.1).getD q.1 (0,0)).1:Nat):Int)<(q.2:Int)))) kA iiz (fun e=>zI [] (wB ((CU.agg (fRo ((zH (rds N js fs) y.2.1).getD q.1 (0,0)))).cf.at 0)) fnz (fun _ _ h _=>h) kA (zO (C:=cg (fRo ((zH (rds N js fs) y.2.1).getD q.1 (0,0)))) 0 kA)) (fun e W h=>absurd h e))<|oc (zB 86 (((ssv.getD ((zH (rds N js fs) y.2.1).getD q.1 (0,0)).1 0)==(ssv.getD y.2.1 0-1))&&(decide (((((zH (rds N js fs) y.2.1).getD q.1 (0,0)).1:Nat):Int)<(q.2:Int)))) kA iiz (fun e=>zI [(88,wB ((CU.agg (fRo ((zH (rds N js fs) y.2.1).getD q.1 (0,0)))).cf.at 0))] ((uI ((((zH (rds N js fs) y.2.1).getD q.1 (0,0)).1:Nat):Int)).tS) (sH (fun v W h=>zG (c:=(((ssv.getD ((zH (rds N js fs) y.2.1).getD q.1 (0,0)).1 0)==(ssv.getD y.2.1 0-1))&&(decide (((((zH (rds N js fs) y.2.1).getD q.1 (0,0)).1:Nat):Int)<(q.2:Int))))=true) (f:=wB ((CU.agg (fRo ((zH (rds N js fs) y.2.1).getD q.1 (0,0)))).cf.at 0)) e h) fnz) (fun _ _ h _=>h) kA (yK (C:=cg (fRo ((zH (rds N js fs) y.2.1).getD q.1 (0,0)))) (k:=0) kA (h:=zEO))) (fun e W h=>absurd h e))<|oc (zB 86 (((ssv.getD ((zH (rds N js fs) y.2.1).getD q.1 (0,0)).1 0)==(ssv.getD y.2.1 0-1))&&(decide (((((zH (rds N js fs) y.2.1).getD q.1 (0,0)).1:Nat):Int)<(q.2:Int)))) kA iiz (fun e=>zI [(87,(UF.eq (.slice (some ⟨gc,0,none⟩) N ha)).tS),(89,(uI ((((zH (rds N js fs) y.2.1).getD q.1 (0,0)).1:Nat):Int)).tS)] (wB (cg (fQN (csv.getD ((zH (rds N js fs) y.2.1).getD q.1 (0,0)).1 0)))) (sH (fun v W h=>zG (c:=(((ssv.getD ((zH (rds N js fs) y.2.1).getD q.1 (0,0)).1 0)==(ssv.getD y.2.1 0-1))&&(decide (((((zH (rds N js fs) y.2.1).getD q.1 (0,0)).1:Nat):Int)<(q.2:Int))))=true) (f:=(UF.eq (.slice (some ⟨gc,0,none⟩) N ha)).tS) e h)<|sH (fun v W h=>zG (c:=(((ssv.getD ((zH (rds N js fs) y.2.1).getD q.1 (0,0)).1 0)==(ssv.getD y.2.1 0-1))&&(decide (((((zH (rds N js fs) y.2.1).getD q.1 (0,0)).1:Nat):Int)<(q.2:Int))))=true) (f:=(uI ((((zH (rds N js fs) y.2.1).getD q.1 (0,0)).1:Nat):Int)).tS) e h) fnz) (fun _ _ h _=>h) kA (zL (z:=3) (Cs:=qns csv) (i:=((zH (rds N js fs) y.2.1).getD q.1 (0,0)).1) (C:=CU.agg (fQN (csv.getD ((zH (rds N js fs) y.2.1).getD q.1 (0,0)).1 0))) kA (zBO hM.2.2.2) (fun v W J h=>(by rw[show v=(Value.slice (some ⟨gc,0,none⟩) N ha)from h];exact(SF.row 3 (qns csv)).st _ _ _ xb (s.up J))) iiz)) (fun e W h=>absurd h e))<|oc (zB 86 (((ssv.getD ((zH (rds N js fs) y.2.1).getD q.1 (0,0)).1 0)==(ssv.getD y.2.1 0-1))&&(decide (((((zH (rds N js fs) y.2.1).getD q.1 (0,0)).1:Nat):Int)<(q.2:Int)))) kA iiz (fun e=>zI [(90,wB (cg (fQN (csv.getD ((zH (rds N js fs) y.2.1).getD q.1 (0,0)).1 0))))] ((fQN (csv.getD ((zH (rds N js fs) y.2.1).getD q.1 (0,0)).1 0)).tS) (sH (fun v W h=>zG (c:=(((ssv.getD ((zH (rds N js fs) y.2.1).getD q.1 (0,0)).1 0)==(ssv.getD y.2.1 0-1))&&(decide (((((zH (rds N js fs) y.2.1).getD q.1 (0,0)).1:Nat):Int)<(q.2:Int))))=true) (f:=wB (cg (fQN (csv.getD ((zH (rds N js fs) y.2.1).getD q.1 (0,0)).1 0)))) e h) fnz) (fun _ _ h _=>h) kA (yJ (f:=fQN (csv.getD ((zH (rds N js fs) y.2.1).getD q.1 (0,0)).1 0)) 3 kA (hz:=yV _))) (fun e W h=>absurd h e))<|oc (zB 86 (((ssv.getD ((zH (rds N js fs) y.2.1).getD q.1 (0,0)).1 0)==(ssv.getD y.2.1 0-1))&&(decide (((((zH (rds N js fs) y.2.1).getD q.1 (0,0)).1:Nat):Int)<(q.2:Int)))) kA iiz (fun e=>zI [] (wB ((CU.agg (fRo ((zH (rds N js fs) y.2.1).getD q.1 (0,0)))).cf.at 1)) fnz (fun _ _ h _=>h) kA (zO (C:=cg (fRo ((zH (rds N js fs) y.2.1).getD q.1 (0,0)))) 1 kA)) (fun e W h=>absurd h e))<|oc (zB 86 (((ssv.getD ((zH (rds N js fs) y.2.1).getD q.1 (0,0)).1 0)==(ssv.getD y.2.1 0-1))&&(decide (((((zH (rds N js fs) y.2.1).getD q.1 (0,0)).1:Nat):Int)<(q.2:Int)))) kA iiz (fun e=>zI [(92,wB ((CU.agg (fRo ((zH (rds N js fs) y.2.1).getD q.1 (0,0)))).cf.at 1))] ((fQN (((zH (rds N js fs) y.2.1).getD q.1 (0,0)).2)).tS) (sH (fun v W h=>zG (c:=(((ssv.getD ((zH (rds N js fs) y.2.1).getD q.1 (0,0)).1 0)==(ssv.getD y.2.1 0-1))&&(decide (((((zH (rds N js fs) y.2.1).getD q.1 (0,0)).1:Nat):Int)<(q.2:Int))))=true) (f:=wB ((CU.agg (fRo ((zH (rds N js fs) y.2.1).getD q.1 (0,0)))).cf.at 1)) e h) fnz) (fun _ _ h _=>h) kA (jS (C:=cg (fRo ((zH (rds N js fs) y.2.1).getD q.1 (0,0)))) (k:=1) 3 kA (h:=zI8))) (fun e W h=>absurd h e))<|oc (zB 86 (((ssv.getD ((zH (rds N js fs) y.2.1).getD q.1 (0,0)).1 0)==(ssv.getD y.2.1 0-1))&&(decide (((((zH (rds N js fs) y.2.1).getD q.1 (0,0)).1:Nat):Int)<(q.2:Int)))) kA iiz (fun e=>zI [(91,(fQN (csv.getD ((zH (rds N js fs) y.2.1).getD q.1 (0,0)).1 0)).tS),(93,(fQN (((zH (rds N js fs) y.2.1).getD q.1 (0,0)).2)).tS)] (fQS 1 [csv.getD ((zH (rds N js fs) y.2.1).getD q.1 (0,0)).1 0,((zH (rds N js fs) y.2.1).getD q.1 (0,0)).2]) (sH (fun v W h=>zG (c:=(((ssv.getD ((zH (rds N js fs) y.2.1).getD q.1 (0,0)).1 0)==(ssv.getD y.2.1 0-1))&&(decide (((((zH (rds N js fs) y.2.1).getD q.1 (0,0)).1:Nat):Int)<(q.2:Int))))=true) (f:=(fQN (csv.getD ((zH (rds N js fs) y.2.1).getD q.1 (0,0)).1 0)).tS) e h)<|sH (fun v W h=>zG (c:=(((ssv.getD ((zH (rds N js fs) y.2.1).getD q.1 (0,0)).1 0)==(ssv.getD y.2.1 0-1))&&(decide (((((zH (rds N js fs) y.2.1).getD q.1 (0,0)).1:Nat):Int)<(q.2:Int))))=true) (f:=(fQN (((zH (rds N js fs) y.2.1).getD q.1 (0,0)).2)).tS) e h) fnz) (fun _ _ h _=>h) kA (y8 (fun u v W (hu:QNp (csv.getD ((zH (rds N js fs) y.2.1).getD q.1 (0,0)).1 0) u W) (hv:QNp (((zH (rds N js fs) y.2.1).getD q.1 (0,0)).2) v W)=>zIa (m:=1) (wH hu x5) (wH hv xk)))) (fun e W h=>absurd h e))<|oc (zB 86 (((ssv.getD ((zH (rds N js fs) y.2.1).getD q.1 (0,0)).1 0)==(ssv.getD y.2.1 0-1))&&(decide (((((zH (rds N js fs) y.2.1).getD q.1 (0,0)).1:Nat):Int)<(q.2:Int)))) kA iiz (fun e=>zI [(94,fQS 1 [csv.getD ((zH (rds N js fs) y.2.1).getD q.1 (0,0)).1 0,((zH (rds N js fs) y.2.1).getD q.1 (0,0)).2])] ((fQN (csv.getD ((zH (rds N js fs) y.2.1).getD q.1 (0,0)).1 0+((zH (rds N js fs) y.2.1).getD q.1 (0,0)).2)).tS) (sH (fun v W h=>zG (c:=(((ssv.getD ((zH (rds N js fs) y.2.1).getD q.1 (0,0)).1 0)==(ssv.getD y.2.1 0-1))&&(decide (((((zH (rds N js fs) y.2.1).getD q.1 (0,0)).1:Nat):Int)<(q.2:Int))))=true) (f:=fQS 1 [csv.getD ((zH (rds N js fs) y.2.1).getD q.1 (0,0)).1 0,((zH (rds N js fs) y.2.1).getD q.1 (0,0)).2]) e h) fnz) (fun _ _ h _=>h) kA (zK zD zQW (fun u0 W J (h0:(fQS 1 [csv.getD ((zH (rds N js fs) y.2.1).getD q.1 (0,0)).1 0,((zH (rds N js fs) y.2.1).getD q.1 (0,0)).2]).p u0 W)=>zIg (m:=1) (p:=csv.getD ((zH (rds N js fs) y.2.1).getD q.1 (0,0)).1 0) (q:=((zH (rds N js fs) y.2.1).getD q.1 (0,0)).2) h0 x5 xk dA ((hT.below I).below (s.up J))))) (fun e W h=>absurd h e))<|oc (zB 86 (((ssv.getD ((zH (rds N js fs) y.2.1).getD q.1 (0,0)).1 0)==(ssv.getD y.2.1 0-1))&&(decide (((((zH (rds N js fs) y.2.1).getD q.1 (0,0)).1:Nat):Int)<(q.2:Int)))) kA iiz (fun e=>zI [] ((UF.eq (.slice (some ⟨gc,0,none⟩) N ha)).tS) fnz (fun _ _ h _=>h) kA zA) (fun e W h=>absurd h e))<|oc (zB 86 (((ssv.getD ((zH (rds N js fs) y.2.1).getD q.1 (0,0)).1 0)==(ssv.getD y.2.1 0-1))&&(decide (((((zH (rds N js fs) y.2.1).getD q.1 (0,0)).1:Nat):Int)<(q.2:Int)))) kA iiz (fun e=>zI [] ((uI (y.2.1:Int)).tS) fnz (fun _ _ h _=>h) kA zA) (fun e W h=>absurd h e))<|oc (zB 86 (((ssv.getD ((zH (rds N js fs) y.2.1).getD q.1 (0,0)).1 0)==(ssv.getD y.2.1 0-1))&&(decide (((((zH (rds N js fs) y.2.1).getD q.1 (0,0)).1:Nat):Int)<(q.2:Int)))) kA iiz (fun e=>zI [(96,(UF.eq (.slice (some ⟨gc,0,none⟩) N ha)).tS),(97,(uI (y.2.1:Int)).tS)] (wB (cg (fQN (csv.getD y.2.1 0)))) (sH (fun v W h=>zG (c:=(((ssv.getD ((zH (rds N js fs) y.2.1).getD q.1 (0,0)).1 0)==(ssv.getD y.2.1 0-1))&&(decide (((((zH (rds N js fs) y.2.1).getD q.1 (0,0)).1:Nat):Int)<(q.2:Int))))=true) (f:=(UF.eq (.slice (some ⟨gc,0,none⟩) N ha)).tS) e h)<|sH (fun v W h=>zG (c:=(((ssv.getD ((zH (rds N js fs) y.2.1).getD q.1 (0,0)).1 0)==(ssv.getD y.2.1 0-1))&&(decide (((((zH (rds N js fs) y.2.1).getD q.1 (0,0)).1:Nat):Int)<(q.2:Int))))=true) (f:=(uI (y.2.1:Int)).tS) e h) fnz) (fun _ _ h _=>h) kA (zL (z:=3) (Cs:=qns csv) (i:=y.2.1) (C:=CU.agg (fQN (csv.getD y.2.1 0))) kA (zBO hM.2.2.1) (fun v W J h=>(by rw[show v=(Value.slice (some ⟨gc,0,none⟩) N ha)from h];exact(SF.row 3 (qns csv)).st _ _ _ xb (s.up J))) iiz)) (fun e W h=>absurd h e))<|oc (zB 86 (((ssv.getD ((zH (rds N js fs) y.2.1).getD q.1 (0,0)).1 0)==(ssv.getD y.2.1 0-1))&&(decide (((((zH (rds N js fs) y.2.1).getD q.1 (0,0)).1:Nat):Int)<(q.2:Int)))) kA iiz (fun e=>zI [(98,wB (cg (fQN (csv.getD y.2.1 0))))] ((fQN (csv.getD y.2.1 0)).tS) (sH (fun v W h=>zG (c:=(((ssv.getD ((zH (rds N js fs) y.2.1).getD q.1 (0,0)).1 0)==(ssv.getD y.2.1 0-1))&&(decide (((((zH (rds N js fs) y.2.1).getD q.1 (0,0)).1:Nat):Int)<(q.2:Int))))=true) (f:=wB (cg (fQN (csv.getD y.2.1 0)))) e h) fnz) (fun _ _ h _=>h) kA (yJ (f:=fQN (csv.getD y.2.1 0)) 3 kA (hz:=yV _))) (fun e W h=>absurd h e))<|oc (zB 86 (((ssv.getD ((zH (rds N js fs) y.2.1).getD q.1 (0,0)).1 0)==(ssv.getD y.2.1 0-1))&&(decide (((((zH (rds N js fs) y.2.1).getD q.1 (0,0)).1:Nat):Int)<(q.2:Int)))) kA iiz (fun e=>zI [(95,(fQN (csv.getD ((zH (rds N js fs) y.2.1).getD q.1 (0,0)).1 0+((zH (rds N js fs) y.2.1).getD q.1 (0,0)).2)).tS),(99,(fQN (csv.getD y.2.1 0)).tS)] ((uI (qsg (csv.getD ((zH (rds N js fs) y.2.1).getD q.1 (0,0)).1 0+((zH (rds N js fs) y.2.1).getD q.1 (0,0)).2) (csv.getD y.2.1 0))).tS) (sH (fun v W h=>zG (c:=(((ssv.getD ((zH (rds N js fs) y.2.1).getD q.1 (0,0)).1 0)==(ssv.getD y.2.1 0-1))&&(decide (((((zH (rds N js fs) y.2.1).getD q.1 (0,0)).1:Nat):Int)<(q.2:Int))))=true) (f:=(fQN (csv.getD ((zH (rds N js fs) y.2.1).getD q.1 (0,0)).1 0+((zH (rds N js fs) y.2.1).getD q.1 (0,0)).2)).tS) e h)<|sH (fun v W h=>zG (c:=(((ssv.getD ((zH (rds N js fs) y.2.1).getD q.1 (0,0)).1 0)==(ssv.getD y.2.1 0-1))&&(decide (((((zH (rds N js fs) y.2.1).getD q.1 (0,0)).1:Nat):Int)<(q.2:Int))))=true) (f:=(fQN (csv.getD y.2.1 0)).tS) e h) fnz) (fun _ _ h _=>h) kA (zW zD zQX (fun u0 u1 W J (h0:QNp (csv.getD ((zH (rds N js fs) y.2.1).getD q.1 (0,0)).1 0+((zH (rds N js fs) y.2.1).getD q.1 (0,0)).2) u0 W) (h1:QNp (csv.getD y.2.1 0) u1 W)=>zLh (m:=1) (wH h0 yl) (wH h1 y1) dA dA ((hT.below I).below (s.up J))))) (fun e W h=>absurd h e))<|oc (zB 86 (((ssv.getD ((zH (rds N js fs) y.2.1).getD q.1 (0,0)).1 0)==(ssv.getD y.2.1 0-1))&&(decide (((((zH (rds N js fs) y.2.1).getD q.1 (0,0)).1:Nat):Int)<(q.2:Int)))) kA iiz (fun e=>zI [(100,(uI (qsg (csv.getD ((zH (rds N js fs) y.2.1).getD q.1 (0,0)).1 0+((zH (rds N js fs) y.2.1).getD q.1 (0,0)).2) (csv.getD y.2.1 0))).tS)] ((uB ((qsg (csv.getD ((zH (rds N js fs) y.2.1).getD q.1 (0,0)).1 0+((zH (rds N js fs) y.2.1).getD q.1 (0,0)).2) (csv.getD y.2.1 0))==0)).tS) (sH (fun v W h=>zG (c:=(((ssv.getD ((zH (rds N js fs) y.2.1).getD q.1 (0,0)).1 0)==(ssv.getD y.2.1 0-1))&&(decide (((((zH (rds N js fs) y.2.1).getD q.1 (0,0)).1:Nat):Int)<(q.2:Int))))=true) (f:=(uI (qsg (csv.getD ((zH (rds N js fs) y.2.1).getD q.1 (0,0)).1 0+((zH (rds N js fs) y.2.1).getD q.1 (0,0)).2) (csv.getD y.2.1 0))).tS) e h) fnz) (fun _ _ h _=>h) kA (zJ .i64 (qsg (csv.getD ((zH (rds N js fs) y.2.1).getD q.1 (0,0)).1 0+((zH (rds N js fs) y.2.1).getD q.1 (0,0)).2) (csv.getD y.2.1 0)) 0 ((qsg (csv.getD ((zH (rds N js fs) y.2.1).getD q.1 (0,0)).1 0+((zH (rds N js fs) y.2.1).getD q.1 (0,0)).2) (csv.getD y.2.1 0))==0) iiz iiz rfl rfl)) (fun e W h=>absurd h e))<|oc (zT (((ssv.getD ((zH (rds N js fs) y.2.1).getD q.1 (0,0)).1 0)==(ssv.getD y.2.1 0-1))&&(decide (((((zH (rds N js fs) y.2.1).getD q.1 (0,0)).1:Nat):Int)<(q.2:Int)))) iiz (fun e v W h=>zBH (zG e h) e) (fun e v W h=>zBc h e))<|zC) fun a w13 s=>?_
    have J:=s.below
    replace I:=I.trans (J.mono I.size)
    replace O:=O.below J
    replace hG:=hG.below J
    replace hC:=hC.below J
    replace hS:=hS.below J
    replace h4:=h4.below J
    replace s:=s.anewB rfl rfl
    refine StS.cond s ((((ssv.getD ((zH (rds N js fs) y.2.1).getD q.1 (0,0)).1 0)==(ssv.getD y.2.1 0-1))&&(decide (((((zH (rds N js fs) y.2.1).getD q.1 (0,0)).1:Nat):Int)<(q.2:Int))))&&((qsg (csv.getD ((zH (rds N js fs) y.2.1).getD q.1 (0,0)).1 0+((zH (rds N js fs) y.2.1).getD q.1 (0,0)).2) (csv.getD y.2.1 0))==0)) iiz (fun e=>?_) (fun e=>?_)
    .have hI:ssv.getD ((zH (rds N js fs) y.2.1).getD q.1 (0,0)).1 0=ssv.getD y.2.1 0-1/\((zH (rds N js fs) y.2.1).getD q.1 (0,0)).1<q.2/\csv.getD ((zH (rds N js fs) y.2.1).getD q.1 (0,0)).1 0+((zH (rds N js fs) y.2.1).getD q.1 (0,0)).2=csv.getD y.2.1 0:=by simpa[zDT,and_assoc]using e
     replace s:=s.drop [17]
     refine rgE ((103,.X (fRo ((zH (rds N js fs) y.2.1).getD q.1 (0,0))) 0)::(104,.Z (uI ((((zH (rds N js fs) y.2.1).getD q.1 (0,0)).1:Nat):Int)))::(17,.u (uI ((((zH (rds N js fs) y.2.1).getD q.1 (0,0)).1:Nat):Int)))::[]) s
      (oc (zO (C:=cg (fRo ((zH (rds N js fs) y.2.1).getD q.1 (0,0)))) 0 kA)<|oc (yK (C:=cg (fRo ((zH (rds N js fs) y.2.1).getD q.1 (0,0)))) (k:=0) kA (h:=zEO))<|oc zE<|zC) fun a w14 s=>?_
     have J:=s.below
     replace I:=I.trans (J.mono I.size)
     replace O:=O.below J
     replace hG:=hG.below J
     replace hC:=hC.below J
     replace hS:=hS.below J
     replace h4:=h4.below J
     replace s:=s.anewB rfl rfl
     refine zP 1 ((105,.u (uI ((q.1+1:Nat):Int)))::[]) s kA
      (oc (yL .i64 (q.1:Int) 1 ((q.1+1:Nat):Int) iiz iiz (wrap64 _ _ oA oA))<|zC) fun a w15 s=>?_
     replace s:=s.drop [65]
     refine zBD (uI ((q.1+1:Nat):Int)) rfl s kA zA kA fun a w s=>zF rfl ?_
     have J:=s.below
     replace I:=I.trans (J.mono I.size)
     replace O:=O.below J
     replace hG:=hG.below J
     replace hC:=hC.below J
     replace hS:=hS.below J
     replace h4:=h4.below J
     replace s:=s.anewB rfl rfl
     replace s:=s.popB
     exact⟨(q.1+1,((zH (rds N js fs) y.2.1).getD q.1 (0,0)).1),(by show(zH (rds N js fs) y.2.1).length-(q.1+1)<(zH (rds N js fs) y.2.1).length-q.1;omega),hJ,(by show _=((zH (rds N js fs) y.2.1).take (q.1+1)).foldl _ _;rw[zAr _ _ (0,0) _ hJ,<-qo];unfold zD9;rw[if_pos hI]),mI qq,I,O,hG,hC,hS,h4,s.keepK _ (sH mz6<|sH mz7<|sH mz8<|sH mz9<|sH zC1<|sH zDW<|sH zFl<|sH zGN<|sH mz2<|sH zMU<|sH zFL<|sH (.head _) fnz)⟩
    .have hI: ¬(ssv.getD ((zH (rds N js fs) y.2.1).getD q.1 (0,0)).1 0=ssv.getD y.2.1 0-1/\((zH (rds N js fs) y.2.1).getD q.1 (0,0)).1<q.2/\csv.getD ((zH (rds N js fs) y.2.1).getD q.1 (0,0)).1 0+((zH (rds N js fs) y.2.1).getD q.1 (0,0)).2=csv.getD y.2.1 0):=by
      intro hc
      have e2:=e
      rw[hc.1,hc.2.2]at e2
      have h3:=hc.2.1
      simp[zDT]at e2 h3
      omega
     refine nQ<|zP 1 ((105,.u (uI ((q.1+1:Nat):Int)))::[]) s kA
      (oc (yL .i64 (q.1:Int) 1 ((q.1+1:Nat):Int) iiz iiz (wrap64 _ _ oA oA))<|zC) fun a w16 s=>?_
     replace s:=s.drop [65]
     refine zBD (uI ((q.1+1:Nat):Int)) rfl s kA zA kA fun a w s=>zF rfl ?_
     have J:=s.below
     replace I:=I.trans (J.mono I.size)
     replace O:=O.below J
     replace hG:=hG.below J
     replace hC:=hC.below J
     replace hS:=hS.below J
     replace h4:=h4.below J
     replace s:=s.anewB rfl rfl
     replace s:=s.popB
     exact⟨(q.1+1,q.2),(by show(zH (rds N js fs) y.2.1).length-(q.1+1)<(zH (rds N js fs) y.2.1).length-q.1;omega),hJ,(by show _=((zH (rds N js fs) y.2.1).take (q.1+1)).foldl _ _;rw[zAr _ _ (0,0) _ hJ,<-qo];unfold zD9;rw[if_neg hI]),yf,I,O,hG,hC,hS,h4,s.keepK _ (sH mz5<|sH mz6<|sH mz7<|sH mz8<|sH mz9<|sH zC1<|sH zDW<|sH zFl<|sH zGN<|sH zMU<|sH zFL<|sH (.head _) fnz)⟩
   .have xv:q.1=(zH (rds N js fs) y.2.1).length:=by have h7:=mB e;simp only[xT]at h7;omega
    have yh:q.2=(nxF (grE N js fs) N csv ssv) y.2.1:=by rw[qo,xv,pA];rfl
    rw[yh]at s
    refine rG ?_
    replace s:=s.drop [16]
    refine rgE ((106,.Z (uI (((nxF (grE N js fs) N csv ssv) y.2.1:Nat):Int)))::(16,.u (uI (((nxF (grE N js fs) N csv ssv) y.2.1:Nat):Int)))::[]) s
     (oc zA<|oc zE<|zC) fun a y3 s=>?_
    have J:=s.below
    replace I:=I.trans (J.mono I.size)
    replace O:=O.below J
    replace hG:=hG.below J
    replace hC:=hC.below J
    replace hS:=hS.below J
    replace h4:=h4.below J
    replace s:=s.anewB rfl rfl
    refine zA1 3 ((54,.u (UF.eq (y.2.2.2)))::(55,.Z (uI (((nxF (grE N js fs) N csv ssv) y.2.1:Nat):Int)))::(56,.s (wD y3 3 1 [wC [.int .i64 (((nxF (grE N js fs) N csv ssv) y.2.1:Nat):Int)]]))::[]) s kA
     (oc zA<|oc zA<|oc (zBd (fun u W J (hu:u=.int .i64 (((nxF (grE N js fs) N csv ssv) y.2.1:Nat):Int))=>by subst hu;exact⟨_,_,zPR _,(zIb _ _).toN J.size rfl⟩))<|zC) fun a w18 s hr=>?_
    have J:=s.below
    replace I:=I.trans (J.mono I.size)
    replace O:=O.below J
    replace hG:=hG.below J
    replace hC:=hC.below J
    replace hS:=hS.below J
    replace h4:=h4.below J
    have hP:∀q_,y.2.2.2.ownBlock=some q_->(∀q',zFr gg vs q'->q'≠q_)/\gc≠q_/\hm≠q_:=fun q_ hh=>⟨fun q' qu=>hG.no qu (qP h4 hh).2.choose_spec.1 dA dA,zX hC.at.choose_spec (qP h4 hh).2.choose_spec.1 dA,zX O.at.choose_spec (qP h4 hh).2.choose_spec.1 dA⟩
    refine zFw (base:=W.heap.size) (z:=1) (e:=3) (v:=y.2.2.2) (Cs:=ins (jI y.2.2.1)) [wC [.int .i64 (((nxF (grE N js fs) N csv ssv) y.2.1:Nat):Int)]] s h4 I.size rfl kA kA rfl rfl (s.fct (.tmp 54)) (y9.row (hr (_,_) mz2)) (fun C hC=>by obtain rfl:=nY.1 hC;exact zJE rfl rfl) (by simp only[xT,jI,rI];omega) (fun q hq=>by cases hq) fun qw a w xc he hs yo s=>?_
    replace I:=yD I he (fun q_ hq=>(h4.lt q_ hq).1)
    replace hG:=hG.keep (fun q_ hq=>he.block q_ (hG.lt hq) (fun hh=>(hP _ hh).1 _ hq rfl)) hs
    replace O:=O.keep (he.block _ O.lt (fun hh=>(hP _ hh).2.2 rfl)) hs
    replace hC:=hC.keep (he.block _ hC.lt (fun hh=>(hP _ hh).2.1 rfl)) hs
    have xg:=hL
    replace hL:∀q_,qw.ownBlock=some q_->q_≠gs:=fun q_ hq=>by
     rcases yo with e|e
     .exact hL q_ (e▸hq)
     .rw[e]at hq;cases hq;have:=hS.lt;omega
    replace hS:=hS.keep (he.block gs hS.lt (fun hh=>xg _ hh rfl)) hs
    replace h4:=xc
    rw[zQN]at h4
    replace s:=s.drop [10]
    refine yN (UF.eq qw) rfl s kA iiz fun a w s=>zF rfl ?_
    have J:=s.below
    replace I:=I.trans (J.mono I.size)
    replace O:=O.below J
    replace hG:=hG.below J
    replace hC:=hC.below J
    replace hS:=hS.below J
    replace h4:=h4.below J
    replace s:=s.anewB rfl rfl
    exact⟨(t,(nxF (grE N js fs) N csv ssv) y.2.1,y.2.2.1++ [(nxF (grE N js fs) N csv ssv) y.2.1],qw),(by show t<y.1;omega),⟨yc,yt,yb,(by show(y.2.2.1++ [(nxF (grE N js fs) N csv ssv) y.2.1])++zD2 (nxF (grE N js fs) N csv ssv) xn t ((nxF (grE N js fs) N csv ssv) y.2.1)=_;rw[<-xm,et,zD2,if_neg qg,pT];rfl),(by show(y.2.2.1++ [(nxF (grE N js fs) N csv ssv) y.2.1]).length+t=_;rw[uD,rI];omega)⟩,I,O,hG,hC,hS,h4,hL,s.keepK _ (sH mz5<|sH mz6<|sH (.head _)<|sH mz7<|sH mz8<|sH mz9<|sH zC1<|sH mz3 fnz)⟩
  .have qg:y.2.1=xn:=by
    have e2:(y.2.1:Int)=(xn:Int):=by simpa using e
    omega
   refine rG<|fK<|rgK 1 ((107,.u (UF.eq (y.2.2.2)))::[]) s
    (oc zA<|zC) fun a w19 s=>?_
   have J:=s.below
   replace I:=I.trans (J.mono I.size)
   replace O:=O.below J
   replace hG:=hG.below J
   replace hC:=hC.below J
   replace hS:=hS.below J
   replace h4:=h4.below J
   obtain⟨l0,yk,x0,-⟩:=xj
   have qi:y.2.2.1=zn::zD2 (nxF (grE N js fs) N csv ssv) xn s0 zn:=by rw[<-xm];rcases hy:y.1 with _|t<;>simp[zD2,qg]
   have hlen:(jI y.2.2.1).length=s0+1:=by rw[qi,yk];simp[jI,x0]
   obtain⟨gt,hF,ev,x1,q2⟩:=zDR h4 (by simp only[xT];omega)
   rw[show(ins (jI y.2.2.1)).length=(jI y.2.2.1).length from eN]at ev
   rw[ev]at s
   have hP:(∀q',zFr gg vs q'->q'≠gt)/\gc≠gt/\hm≠gt:=⟨fun q' qu=>hG.no qu q2.at.choose_spec dA dA,zX hC.at.choose_spec q2.at.choose_spec dA,zX O.at.choose_spec q2.at.choose_spec dA⟩
   refine zEC (T:=fun q=>q=gt) (args:=#[.slice (some ⟨gt,0,none⟩) (jI y.2.2.1).length hF]) zD (enters_of func35 kA rfl) s rfl kA rfl rfl (fun q hq=>by rw[hq];exact q2.plain) (fun q hq=>by cases hq) (by rw[cE];simp[show a.eval (.tmp 107)=_ from s.fct (.tmp 107)]) (zRl q2 oA) fun a w y0 he hs s=>?_
   replace I:=yD I he (fun q hq=>by rw[hq];exact x1)
   replace O:=O.keep (he.block _ O.lt hP.2.2) hs
   replace hC:=hC.keep (he.block _ hC.lt hP.2.1) hs
   replace h4:y9 w W.heap.size 3 1 (.slice (some ⟨gt,0,none⟩) (jI y.2.2.1).length hF) (ins (jI y.2.2.1).reverse):=y0.toN x1 eN
   refine zF rfl ?_
   have J:=s.below
   replace I:=I.trans (J.mono I.size)
   replace O:=O.below J
   replace hC:=hC.below J
   replace h4:=h4.below J
   replace s:=s.anewB rfl rfl
   refine fK ?_
   have xy:zn<csv.length:=by rw[q5];exact hO
   refine zA2 (w:=w) (n:=f10.ntmps) (fun i v U=>match i with|0=>v=.slice (some ⟨gt,0,none⟩) (jI y.2.2.1).length hF|1=>v=(.slice (some ⟨gc,0,none⟩) N ha)|2=>v=.int .i64 (zn:Int)|3=>v=.pointer (some ⟨gc,zn*3,none⟩)|4=>QNp (csv.getD zn 0) v U|5=>v=.slice (some ⟨gt,0,none⟩) (jI y.2.2.1).length hF|_=>True) (fun _ U=>Below w.heap.size w U) (fun _ U V=>Below U.heap.size U V) 6 hmix s.size kA (fun i l U V _ _ _ hC hR=>hC.trans (hR.mono hC.size)) (fun i j v U V _ hj hij hE hR=>?_) (fun l U _ J=>J) (fun i o hi ho l a' U hf hnl hA Kk hK=>?_) (fun Q' hQ a' w' J xw yg xt hv=>?_)
   .have yj:j=0∨j=1∨j=2∨j=3∨j=4∨j=5:=oA
    rcases yj with rfl|rfl|rfl|rfl|rfl|rfl<;>first|exact hE|exact(fQN (csv.getD zn 0)).us _ _ _ hE (zN hR)
   .have yp:=hC.below hf.cls
    have yi:a'.eval (.tmp 10)=.slice (some ⟨gt,0,none⟩) (jI y.2.2.1).length hF:=by
     cases h5:l.getD 5 false with
     |true=>exact hf.vals 5 dA h5 10 rfl
     |false=>exact(hf.old 5 dA h5 10 rfl).trans (s.val mz5)
    have yq:i=0∨i=1∨i=2∨i=3∨i=4∨i=5:=oA
    rcases yq with rfl|rfl|rfl|rfl|rfl|rfl<;>obtain rfl:=mE ho
    .exact yE ho (fun _ e=>by cases e) (fun _ e=>by cases e) (zEI yi) (hK _ U rfl (xF _ _))
    .exact yE ho (fun _ e=>by cases e) (fun _ e=>by cases e) (zEI ((hf.keep 14 (fun j hj=>yY (k:=6) kA j hj)).trans (s.val mz8))) (hK _ U rfl (xF _ _))
    .exact yE ho (fun _ e=>by cases e) (fun _ e=>by cases e) (zEI ((hf.keep 4 (fun j hj=>yY (k:=6) kA j hj)).trans (s.val mz4))) (hK _ U rfl (xF _ _))
    .have e1:a'.eval (.tmp 110)=(.slice (some ⟨gc,0,none⟩) N ha):=hf.vals 1 dA (yF hA kA) 110 rfl
     have e2:a'.eval (.tmp 111)=.int .i64 (zn:Int):=hf.vals 2 dA (yF hA kA) 111 rfl
     exact yE ho (fun _ e=>by cases e) (fun _ e=>by cases e) (zEK (z:=3) kA hO e1 e2) (hK _ U rfl (xF _ _))
    .have e3:a'.eval (.tmp 112)=.pointer (some ⟨gc,zn*3,none⟩):=hf.vals 3 dA (yF hA kA) 112 rfl
     obtain⟨cs,g1,g2,g3⟩:=zNr yp (zBO xy)
     exact yE ho (fun _ e=>by cases e) (fun _ e=>by cases e) (zF5 (cs:=cs) (o:=zn*3) (k:=3) kA e3 g1 g2) (hK _ U g3 (xF _ _))
    .have e0:a'.eval (.tmp 109)=.slice (some ⟨gt,0,none⟩) (jI y.2.2.1).length hF:=hf.vals 0 dA (yF hA kA) 109 rfl
     exact yE ho (fun _ e=>by cases e) (fun _ e=>by cases e) (zRy e0) (hK _ U rfl (xF _ _))
   have e0:a'.tmps.getD 10 undef=.slice (some ⟨gt,0,none⟩) (jI y.2.2.1).length hF:=hv 5 dA 10 rfl
   have e4:QNp (csv.getD zn 0) (a'.tmps.getD 113 undef) w':=hv 4 dA 113 rfl
   have qf:=(xt 11 (fun j hj=>yY (k:=6) kA j hj)).trans (s.val mz6)
   replace I:=I.trans (J.mono I.size)
   replace O:=O.below J
   replace h4:=h4.below J
   replace s:St w' [(10,.u (UF.eq (.slice (some ⟨gt,0,none⟩) (jI y.2.2.1).length hF))),(113,.u (fQN (csv.getD zn 0))),(11,.u (UF.eq (pO hm 0)))] [] f10.ntmps [] a' w':=wV xw (yg.trans s.nd) (sH ⟨_,rfl,e0⟩<|sH ⟨_,rfl,e4⟩<|sH ⟨_,rfl,qf⟩ fnz)
   have xf:∀q_,(Value.slice (some ⟨gt,0,none⟩) (jI y.2.2.1).length hF).ownBlock=some q_->q_≠hm:=fun q_ hq=>(zX O.at.choose_spec (qP h4 hq).2.choose_spec.1 dA).symm
   refine zAF (g:=hm) (i:=0) (cap:=1) (z:=3) (e:=32) (CU.agg (fQN (csv.getD zn 0))) rfl s rfl rfl O eN kA (s.fct (.tmp 11)) (zBS (s.fct (.tmp 113))) (fun q hq=>by cases hq) fun w he hs O s=>?_
   replace I:=yD I he (fun q hq=>by rw[hq];exact qk)
   replace h4:=h4.keep (fun q hq=>he.block q (h4.lt q hq).2 (xf q hq)) hs
   refine yN (uB true) rfl s kA iiz fun a w s=>?_
   have J:=s.below
   replace I:=I.trans (J.mono I.size)
   replace O:=O.below J
   replace h4:=h4.below J
   replace s:=s.anewB rfl rfl
   refine zF rfl (hQ _ _ ?_)
   refine nR ?_
   obtain⟨x9,g1,g2,g3⟩:=zCU O
   replace s:=s.home rfl rfl I
   exact vC s rfl kA (s.fct (.tmp 11)) g1 g2 ⟨_,_,_,rfl,by rw[hn,show a.tmps.getD 10 undef=_ from s.fct (.tmp 10),<-qi,show jI y.2.2.1.reverse=(jI y.2.2.1).reverse by simp[jI]];exact h4,by rw[hn];exact g3,by rw[hn];exact s.fct (.tmp 12)⟩
section
variable {F:Fence}{m:Nat}{w0:WB}{ops:Array Oper}{G:Nat->SF}{d:Tmp}{ty:TypeId}{pos:String}{aft:Array Edge}
theorem zNX(a b:Int)(hd:∀v W,(SF.row 1 (ins [a,b])).p v W->(G d).p v W:=by exact fun _ _ h=>h):qR F m prog w0 ops G ⟨some d,.buildSlice 24 2 #[(0,.const (.int .i64 a)),(1,.const (.int .i64 b))],ty,pos,aft,none⟩:=
 zB5 fun J W hb hh=>by
  have I:∀v:WD,J.eval (.const v)=v:=fun _=>rfl
  exact⟨_,_,by simpa[I]using zUq a b,hd _ _ ((zEN [a,b] W (by show _<=1000;simp)).row rfl)⟩
theorem zJp(a b c:Int)(hd:∀v W,(SF.row 1 (ins [a,b,c])).p v W->(G d).p v W:=by exact fun _ _ h=>h):qR F m prog w0 ops G ⟨some d,.buildSlice 24 3 #[(0,.const (.int .i64 a)),(1,.const (.int .i64 b)),(2,.const (.int .i64 c))],ty,pos,aft,none⟩:=
 zB5 fun J W hb hh=>by
  have I:∀v:WD,J.eval (.const v)=v:=fun _=>rfl
  exact⟨_,_,by simpa[I]using zUp a b c,hd _ _ ((zEN [a,b,c] W (by show _<=1000;simp)).row rfl)⟩
theorem zNW(a b c e:Int)(hd:∀v W,(SF.row 1 (ins [a,b,c,e])).p v W->(G d).p v W:=by exact fun _ _ h=>h):qR F m prog w0 ops G ⟨some d,.buildSlice 24 4 #[(0,.const (.int .i64 a)),(1,.const (.int .i64 b)),(2,.const (.int .i64 c)),(3,.const (.int .i64 e))],ty,pos,aft,none⟩:=
 zB5 fun J W hb hh=>by
  have I:∀v:WD,J.eval (.const v)=v:=fun _=>rfl
  exact⟨_,_,by simpa[I]using zUo a b c e,hd _ _ ((zEN [a,b,c,e] W (by show _<=1000;simp)).row rfl)⟩
end
theorem zRt{a b c d e f:Int}{q:WD}(I:u=.agg #[.int .i64 a,.int .i64 b])(h:v=.agg #[.int .i64 c,.int .i64 d])(J:q=.agg #[.int .i64 e,.int .i64 f]):∃t cs,zV prog 22 3 [(0,u),(1,v),(2,q)]=some (t,cs)/\(SF.row 2 (jns [(a,b),(c,d),(e,f)])).p (.slice (some ⟨W.heap.size,0,none⟩) 3 3) (W.alloc (.cells cs t)):=by
 subst I h J
 exact⟨_,_,zSV a b c d e f,(zNs a b c d e f W).row rfl⟩
theorem zLX(O:W.heap.size<=W'.heap.size)(h:(zHK W' r).p v V):(wL (wD W 3 1 (ins r.1)) (fQN r.2.1).tS (fB r.2.2).tS).p v V:=by
 obtain⟨x,y,z,h1,I,h3,J⟩:=h
 exact⟨x,y,z,h1,y9.mono I O,h3,J⟩
theorem zQD(h:(zHK W' r).p v V):(wL SF.any (fQN r.2.1).tS (fB r.2.2).tS).p v V:=by
 obtain⟨x,y,z,J,h2,O,I⟩:=h
 exact⟨x,y,z,J,trivial,O,I⟩
theorem zRH:qzs [1,1,2]=[1,1,2]:=by decide+kernel
theorem zLv(hq:∀q,q∈fs->QB q 1){v:WD}{W:WB}(h:(SF.row 3 (qns fs)).p v W):(SF.row 3 (rvs 1 fs)).p v W:=
 zI4 eN (fun i C D I O cs W' hh=>by
  have J:i<fs.length:=by have:=(cD.1 I).1;simpa using this
  rw[rJ,mD J]at I O
  cases I;cases O
  exact wH hh (hq _ (uO J))) v W h
theorem zHZ:∀q,q∈([1,1,2]:List Rat)->q=1∨q=2:=fun q h=>by
 simp only[xX,rL,rM]at h
 rcases h with rfl|rfl|rfl
 .exact .inl rfl
 .exact .inl rfl
 .exact .inr rfl
theorem zIJ:∀q,q∈([1,1,2]:List Rat)->QB q 1:=fun q h=>by
 rcases zHZ q h with rfl|rfl<;>exact⟨by unfold Bd BB;decide+kernel,by unfold BB;decide+kernel⟩
theorem zKL(hT:Tab W):Calls prog 8 #[] W (Ret W (fB true).tS):=by
 have J:Below W.heap.size W W:=xF _ _
 refine y2 [] func8 rfl kA trivial fun a s=>rgQ ((0,.u (uB false))::[]) s
  (oc zE<|zC) fun a w1 s=>?_
 have I:=s.below
 replace J:=J.trans (I.mono J.size)
 replace hT:=hT.below I
 replace s:=s.anewB rfl rfl
 refine fK<|rgN ((8,.Z (UF.eq (.agg #[.int .i64 0,.int .i64 1])))::(9,.Z (UF.eq (.agg #[.int .i64 1,.int .i64 2])))::(10,.Z (UF.eq (.agg #[.int .i64 0,.int .i64 2])))::(11,.s (SF.row 2 (jns wkJ)))::(1,.s (SF.row 2 (jns wkJ)))::[]) s
  (oc (zAS (fun u v W (hu:u=.int .i64 0) (hv:v=.int .i64 1)=>by subst hu hv;exact⟨_,zTX _ _,rfl⟩))<|oc (zAS (fun u v W (hu:u=.int .i64 1) (hv:v=.int .i64 2)=>by subst hu hv;exact⟨_,zTX _ _,rfl⟩))<|oc (zAS (fun u v W (hu:u=.int .i64 0) (hv:v=.int .i64 2)=>by subst hu hv;exact⟨_,zTX _ _,rfl⟩))<|oc (zHr (fun u v q W (hu:u=.agg #[.int .i64 0,.int .i64 1]) (hv:v=.agg #[.int .i64 1,.int .i64 2]) (hq:q=.agg #[.int .i64 0,.int .i64 2])=>zRt hu hv hq))<|oc zE<|zC) fun a w2 s hr=>?_
 obtain⟨lj,e1⟩:∃v,a.tmps.getD 1 undef=v:=⟨_,rfl⟩
 have O:=(hr (_,_) mz4)
 rw[show a.tmps.getD _ undef=lj from e1]at O
 replace s:=s.learn 1 _ e1
 have I:=s.below
 replace J:=J.trans (I.mono J.size)
 replace hT:=hT.below I
 replace s:=s.anewB rfl rfl
 refine fK<|rgL 8 ((13,.Z (UF.eq lj))::(14,.s (SF.row 1 (ins [1,1,2])))::(15,.s (SF.row 3 (rvs 1 [1,1,2])))::(16,.s (wL (wD w2 3 1 (ins [0,2])) ((fQN 2).tS) ((uB true).tS)))::(12,.s (wL (wD w2 3 1 (ins [0,2])) ((fQN 2).tS) ((uB true).tS)))::(17,.s (wD w2 3 1 (ins [0,2])))::(18,.u (fQN 2))::(19,.u (uB true))::[]) s
  (oc zA<|oc (zJp 1 1 2)<|oc (zK zD zSf (fun u0 W I (h0:(SF.row 1 (ins [1,1,2])).p u0 W)=>(zL2 h0 dA dA).mono (wF (fun v W h=>zLv zIJ (by have h7:=y9.row h;rw[zRH]at h7;exact h7)))))<|oc (zEp zD zQ0 (fun u0 u1 u2 u3 u4 W I (h0:u0=.int .i64 4) (h1:u1=lj) (h2:(SF.row 3 (rvs 1 [1,1,2])).p u2 W) (h3:u3=.int .i64 0) (h4:u4=.int .i64 2)=>(zF8 (n:=4) (N:=4) (x:=0) (z:=2) (js:=wkJ) (fs:=[1,1,2]) h0 (zAa O h1 (s.up I)) h2 h3 h4 dA (zKK _ zHZ) (hT.below (s.up I))).mono (wF (fun v W h=>by have h7:=zLX (s.up I).size h;rw[zPz]at h7;exact h7))))<|oc zA<|oc (zCH (A:=wD w2 3 1 (ins [0,2])) (B:=(fQN 2).tS) (C:=(uB true).tS) iiz)<|oc (zCG (A:=wD w2 3 1 (ins [0,2])) (B:=(fQN 2).tS) (C:=(uB true).tS) iiz)<|oc (zCF (A:=wD w2 3 1 (ins [0,2])) (B:=(fQN 2).tS) (C:=(uB true).tS) iiz)<|zC) fun a w3 s hr=>?_
 obtain⟨lv,e17⟩:∃v,a.tmps.getD 17 undef=v:=⟨_,rfl⟩
 have h5:=(hr (_,_) mz5)
 rw[show a.tmps.getD _ undef=lv from e17]at h5
 replace h5:=y9.row h5
 replace s:=s.learn 17 _ e17
 have I:=s.below
 replace J:=J.trans (I.mono J.size)
 replace hT:=hT.below I
 replace O:=(SF.row 2 (jns wkJ)).st _ _ _ O I
 replace s:=s.anewB rfl rfl
 refine yP (CU.len 3) (cs:=zR3) kA rfl s kA (fun W=>rfl) rfl fun b3 a w s=>yN (UF.eq lv) rfl s kA iiz fun a w s=>yI (fQN 2) rfl s yO fun a w s=>yN (uB true) rfl s kA iiz fun a w s=>zF rfl ?_
 replace s:StS _ _ _ [⟨3,32,CU.agg (fQN 2),b3,true⟩] _ _ _ _:=s.freeze
 have I:=s.below
 replace J:=J.trans (I.mono J.size)
 replace hT:=hT.below I
 replace O:=(SF.row 2 (jns wkJ)).st _ _ _ O I
 replace h5:=(SF.row 1 (ins [0,2])).st _ _ _ h5 I
 replace s:=s.anewB rfl rfl
 refine fK<|rgK 8 ((21,.Z (UF.eq lj))::(22,.s (SF.row 1 (ins [1,1,2])))::(23,.s (SF.row 3 (rvs 1 [1,1,2])))::(24,.s (wL (SF.any) ((fQN ((qM (grE 4 wkJ [1,1,2]) 4 0 3).2.1)).tS) ((uB false).tS)))::(20,.s (wL (SF.any) ((fQN ((qM (grE 4 wkJ [1,1,2]) 4 0 3).2.1)).tS) ((uB false).tS)))::(26,.u (fQN ((qM (grE 4 wkJ [1,1,2]) 4 0 3).2.1)))::(27,.u (uB false))::[]) s
  (oc zA<|oc (zJp 1 1 2)<|oc (zK zD zSf (fun u0 W I (h0:(SF.row 1 (ins [1,1,2])).p u0 W)=>(zL2 h0 dA dA).mono (wF (fun v W h=>zLv zIJ (by have h7:=y9.row h;rw[zRH]at h7;exact h7)))))<|oc (zEp zD zQ0 (fun u0 u1 u2 u3 u4 W I (h0:u0=.int .i64 4) (h1:u1=lj) (h2:(SF.row 3 (rvs 1 [1,1,2])).p u2 W) (h3:u3=.int .i64 0) (h4:u4=.int .i64 3)=>(zF8 (n:=4) (N:=4) (x:=0) (z:=3) (js:=wkJ) (fs:=[1,1,2]) h0 (zAa O h1 (s.up I)) h2 h3 h4 dA (zKK _ zHZ) (hT.below (s.up I))).mono (wF (fun v W h=>by have h7:=zQD h;rw[zPy]at h7;exact h7))))<|oc zA<|oc (zCH (A:=SF.any) (B:=(fQN ((qM (grE 4 wkJ [1,1,2]) 4 0 3).2.1)).tS) (C:=(uB false).tS) iiz)<|oc (zCG (A:=SF.any) (B:=(fQN ((qM (grE 4 wkJ [1,1,2]) 4 0 3).2.1)).tS) (C:=(uB false).tS) iiz)<|oc (zCF (A:=SF.any) (B:=(fQN ((qM (grE 4 wkJ [1,1,2]) 4 0 3).2.1)).tS) (C:=(uB false).tS) iiz)<|zC) fun a w4 s=>yP (CU.len 3) (cs:=zR3) kA rfl s kA (fun W=>rfl) rfl fun b6 a w s=>yN UF.any rfl s kA (fun _ _ _=>trivial) fun a w s=>yI (fQN ((qM (grE 4 wkJ [1,1,2]) 4 0 3).2.1)) rfl s yO fun a w s=>yN (uB false) rfl s kA iiz fun a w s=>zF rfl ?_
 replace s:StS _ _ _ [⟨6,32,CU.agg (fQN ((qM (grE 4 wkJ [1,1,2]) 4 0 3).2.1)),b6,true⟩,⟨3,32,CU.agg (fQN 2),b3,true⟩] _ _ _ _:=s.freeze
 have I:=s.below
 replace J:=J.trans (I.mono J.size)
 replace hT:=hT.below I
 replace O:=(SF.row 2 (jns wkJ)).st _ _ _ O I
 replace h5:=(SF.row 1 (ins [0,2])).st _ _ _ h5 I
 replace s:=s.anewB rfl rfl
 refine fK ?_
 replace s:=s.drop [0]
 refine rgE ((28,.Z (uB true))::(29,.Z (uB true))::(30,.Z (UF.eq lv))::(31,.s (SF.row 1 (ins [0,2])))::(32,.Z (uB true))::(33,.Z (uB true))::(34,.Z (uB true))::(35,.Z (fQN 2))::(36,.Z (fQN ((2:Int):Rat)))::(37,.Z (uB true))::(38,.Z (uB true))::(39,.Z (uB true))::(40,.Z (uB false))::(41,.Z (uB true))::(42,.Z (uB true))::(43,.Z (uB true))::(44,.Z (UF.eq lj))::(45,.s (SF.row 1 (ins [0,0,0,3])))::(46,.s (SF.row 1 (ins [0,0,0,3])))::(47,.Z (uB true))::(48,.Z (uB true))::(0,.u (uB true))::[]) s
  (oc zA<|oc zA<|oc (zB 29 true kA iiz (fun _=>zA) arf)<|oc (zB 29 true kA iiz (fun _=>zNX 0 2) arf)<|oc (zB 29 true kA iiz (fun _=>zW zD zMn (fun u0 u1 W I (h0:u0=lv) (h1:(SF.row 1 (ins [0,2])).p u1 W)=>(zCj (la:=[0,2]) (lb:=[0,2]) (zAa h5 h0 (s.up I)) h1 dA).mono (wF (fun v W h=>h)))) arf)<|oc (zT true iiz (fun _ _ _ h=>h) sF)<|oc zA<|oc (zB 34 true kA iiz (fun _=>yJ (f:=fQN 2) 3 kA (hz:=yV _)) arf)<|oc (zB 34 true kA iiz (fun _=>zK zD zFe (fun u0 W I (h0:u0=.int .i64 2)=>zHf _ h0 dA)) arf)<|oc (zB 34 true kA iiz (fun _=>zW zD zTP (fun u0 u1 W I (h0:QNp 2 u0 W) (h1:QNp ((2:Int):Rat) u1 W)=>(zND (m:=1) (p:=2) (q:=((2:Int):Rat)) (wH h0 ⟨by unfold Bd BB;decide+kernel,by unfold BB;decide+kernel⟩) (wH h1 ⟨by unfold Bd BB;decide+kernel,by unfold BB;decide+kernel⟩) dA dA).mono (wF (fun v W h=>by rw[show(qsg (2:Rat) ((2:Int):Rat)==0)=true by decide+kernel]at h;exact h)))) arf)<|oc (zT true iiz (fun _ _ _ h=>h) sF)<|oc zA<|oc (zB 39 true kA iiz (fun _=>zA) arf)<|oc (zB 39 true kA iiz (fun _=>zAv false iiz (fun _=>rfl)) arf)<|oc (zT true iiz (fun _ _ _ h=>h) sF)<|oc zA<|oc (zB 43 true kA iiz (fun _=>zA) arf)<|oc (zB 43 true kA iiz (fun _=>zW zD zSi (fun u0 u1 W I (h0:u0=.int .i64 4) (h1:u1=lj)=>(zHe (n:=4) (N:=4) (js:=wkJ) h0 (zAa O h1 (s.up I)) dA dA dA (hT.below (s.up I))).mono (wF (fun v W ⟨lab,h,hr⟩=>by rw[zPx h]at hr;exact y9.row hr)))) arf)<|oc (zB 43 true kA iiz (fun _=>zNW 0 0 0 3) arf)<|oc (zB 43 true kA iiz (fun _=>zW zD zMn (fun u0 u1 W I (h0:(SF.row 1 (ins [0,0,0,3])).p u0 W) (h1:(SF.row 1 (ins [0,0,0,3])).p u1 W)=>(zCj (la:=[0,0,0,3]) (lb:=[0,0,0,3]) h0 h1 dA).mono (wF (fun v W h=>h)))) arf)<|oc (zT true iiz (fun _ _ _ h=>h) sF)<|oc zE<|zC) fun a w5 s=>?_
 replace s:StS _ _ _ [⟨6,32,CU.agg (fQN ((qM (grE 4 wkJ [1,1,2]) 4 0 3).2.1)),b6,true⟩,⟨3,32,CU.agg (fQN 2),b3,true⟩] _ _ _ _:=s.freeze
 have I:=s.below
 replace J:=J.trans (I.mono J.size)
 replace hT:=hT.below I
 replace O:=(SF.row 2 (jns wkJ)).st _ _ _ O I
 replace h5:=(SF.row 1 (ins [0,2])).st _ _ _ h5 I
 replace s:=s.anewB rfl rfl
 exact nR<|wZ s J rfl iiz
theorem zTT(I:GrB N js fs){a b:Nat}(O:a<N)(hb:b<N):QB ((csR (grE N js fs) N (a:Int)).getD b 0) 1:=by
 have h:=zFR (zGB N js fs) (zDJ O)
 rcases h.at_ b hb with⟨s,h1,_,h3⟩|⟨_,J,_⟩
 .exact I.qb h1.1 (by have:=I.hN;omega)
 .rw[J];exact QB.zero dA
section
variable {F:Fence}{m:Nat}{P:Program}{w0:WB}{ops:Array Oper}{G:Nat->SF}{d:Tmp}{ty:TypeId}{pos:String}{aft:Array Edge}
theorem zLI{op:BinOp}{t:TypeId}{x y:Operand}{t':TypeId}(u v r:Bool)(ht:P.underlying t=some .bool)(hx:∀q W,(fct G x).p q W->q=.bool u)(hy:∀q W,(fct G y).p q W->q=.bool v)(hr:(match op with| .eql=>u==v| .neq=>u !=v|_=>false)=r)(ho:(match op with| .eql| .neq=>true|_=>false)=true)(hd:∀W,(G d).p (.bool r) W:=by exact fun _=>rfl):qR F m P w0 ops G ⟨some d,.binOp op t x y t',ty,pos,aft,none⟩:=
zDg (.bool u) (.bool v) (.bool r) hx hy (fun W=>by cases op<;>first|(cases ho;done)|simp[eqGuard]) (fun W=>by cases op<;>first|(cases ho;done)|(subst hr;cases u<;>cases v<;>simp[go_sem,ht])) hd
end
theorem zSl(O:GrB N js fs)(z:Int){b:Nat}(I:b<N):QB ((csR (grE N js fs) N z).getD b 0) 1:=by
 cases h:yU N z with
 |true=>
  obtain⟨h1,J⟩:=y5 h
  rw[<-J]
  exact zTT O h1 I
 |false=>
  unfold csR
  rw[if_neg (by rw[h];decide)]
  rw[nX,nA,if_pos I]
  exact QB.zero dA
theorem zKb{l:List Rat}{la lb:WD}(I:(SF.row 3 (qns l)).p la W)(J:(SF.row 3 (qns l)).p lb W)(hll:l.length<=1000):Calls prog 18 #[la,lb] W (Ret W (fB true).tS):=by
 have h:Below W.heap.size W W:=xF _ _
 refine y2 [(UF.eq la).tS,(UF.eq lb).tS] func18 rfl kA ⟨rfl,rfl,trivial⟩ fun a s=>?_
 replace s:=s.renew [(0,.u (UF.eq la)),(1,.u (UF.eq lb))] (sH (.inr ⟨_,rfl,.head _⟩)<|sH (.inr ⟨_,rfl,mz1⟩) fnz)
 refine rgQ ((4,.u (uB false))::[]) s
  (oc zE<|zC) fun a w1 s=>?_
 have O:=s.below
 replace h:=h.trans (O.mono h.size)
 replace I:=(SF.row 3 (qns l)).st _ _ _ I O
 replace J:=(SF.row 3 (qns l)).st _ _ _ J O
 replace s:=s.anewB rfl rfl
 refine fK<|rgQ ((6,.Z (UF.eq la))::(7,.Z (uI ((qns l).length:Int)))::(8,.Z (UF.eq lb))::(9,.Z (uI ((qns l).length:Int)))::(10,.u (uB false))::[]) s
  (oc zA<|oc (qZ (z:=3) (Cs:=qns l) kA (y7 I s) (fun _=>rfl))<|oc zA<|oc (qZ (z:=3) (Cs:=qns l) kA (y7 J s) (fun _=>rfl))<|oc (zJ .i64 ((qns l).length:Int) ((qns l).length:Int) false iiz iiz eN rfl)<|zC) fun a w2 s=>?_
 have O:=s.below
 replace h:=h.trans (O.mono h.size)
 replace I:=(SF.row 3 (qns l)).st _ _ _ I O
 replace J:=(SF.row 3 (qns l)).st _ _ _ J O
 replace s:=s.anewB rfl rfl
 refine StS.cond s false iiz sF (fun e=>?_)
 refine nQ<|fK<|rgQ ((5,.u (uI 0))::[]) s
  (oc zE<|zC) fun a w3 s=>?_
 have O:=s.below
 replace h:=h.trans (O.mono h.size)
 replace I:=(SF.row 3 (qns l)).st _ _ _ I O
 replace J:=(SF.row 3 (qns l)).st _ _ _ J O
 replace s:=s.anewB rfl rfl
 refine rF<|yC (fun(y:Nat) a w=>y<=l.length/\Below W.heap.size W w/\(SF.row 3 (qns l)).p la w/\(SF.row 3 (qns l)).p lb w/\St w [(0,.u (UF.eq la)),(1,.u (UF.eq lb)),(5,.u (uI ((y:Nat):Int)))] [] f18.ntmps [] a w) (fun y=>l.length-y) (0:Nat) ⟨vS _,h,I,J,s.keepK _ (sH mz3<|sH mz4<|sH (.head _) fnz)⟩ fun y a w hx=>?_
 clear h I J
 obtain⟨hk,h,I,J,s⟩:=hx
 refine fK<|rgQ ((11,.Z (uI (y:Int)))::(12,.Z (UF.eq la))::(13,.Z (uI ((qns l).length:Int)))::(14,.u (uB (decide ((y:Int)<((qns l).length:Int)))))::[]) s
  (oc zA<|oc zA<|oc (qZ (z:=3) (Cs:=qns l) kA (y7 I s) (fun _=>rfl))<|oc (zJ .i64 (y:Int) ((qns l).length:Int) (decide ((y:Int)<((qns l).length:Int))) iiz iiz rfl rfl)<|zC) fun a w4 s=>?_
 have O:=s.below
 replace h:=h.trans (O.mono h.size)
 replace I:=(SF.row 3 (qns l)).st _ _ _ I O
 replace J:=(SF.row 3 (qns l)).st _ _ _ J O
 replace s:=s.anewB rfl rfl
 refine StS.cond s (decide ((y:Int)<((qns l).length:Int))) iiz (fun e=>?_) (fun e=>?_)
 .have h2:y<l.length:=by have h7:=xW e;simp only[xT]at h7;omega
  refine nQ<|fK<|rF<|rgQ ((17,.Z (UF.eq la))::(18,.Z (uI (y:Int)))::(19,.Y (fQN (l.getD y 0)))::(20,.Z (fQN (l.getD y 0)))::(21,.Z (UF.eq lb))::(22,.Z (uI (y:Int)))::(23,.Y (fQN (l.getD y 0)))::(24,.Z (fQN (l.getD y 0)))::(25,.Z (uB true))::(26,.u (uB false))::[]) s
   (oc zA<|oc zA<|oc (zL (z:=3) (Cs:=qns l) (i:=y) (C:=CU.agg (fQN (l.getD y 0))) kA (zBO h2) (y7 I s) iiz)<|oc (yJ (f:=fQN (l.getD y 0)) 3 kA (hz:=yV _))<|oc zA<|oc zA<|oc (zL (z:=3) (Cs:=qns l) (i:=y) (C:=CU.agg (fQN (l.getD y 0))) kA (zBO h2) (y7 J s) iiz)<|oc (yJ (f:=fQN (l.getD y 0)) 3 kA (hz:=yV _))<|oc (zW zD zQY (fun u0 u1 W O (h0:QNp (l.getD y 0) u0 W) (h1:QNp (l.getD y 0) u1 W)=>zF9 h0 h1))<|oc (zAv true iiz (fun _=>rfl))<|zC) fun a w5 s=>?_
  have O:=s.below
  replace h:=h.trans (O.mono h.size)
  replace I:=(SF.row 3 (qns l)).st _ _ _ I O
  replace J:=(SF.row 3 (qns l)).st _ _ _ J O
  replace s:=s.anewB rfl rfl
  refine StS.cond s false iiz sF (fun e=>?_)
  refine nQ<|zP 2 ((15,.Z (uI (y:Int)))::(16,.u (uI ((y+1:Nat):Int)))::[]) s kA
   (oc zA<|oc (yL .i64 (y:Int) 1 ((y+1:Nat):Int) iiz iiz (wrap64 _ _ oA oA))<|zC) fun a w6 s=>?_
  replace s:=s.drop [5]
  refine yN (uI ((y+1:Nat):Int)) rfl s kA iiz fun a w s=>zF rfl ?_
  have O:=s.below
  replace h:=h.trans (O.mono h.size)
  replace I:=(SF.row 3 (qns l)).st _ _ _ I O
  replace J:=(SF.row 3 (qns l)).st _ _ _ J O
  replace s:=s.anewB rfl rfl
  exact⟨y+1,(by show l.length-(y+1)<l.length-y;omega),h2,h,I,J,s.keepK _ (sH mz4<|sH mz5<|sH (.head _) fnz)⟩
 .refine rG ?_
  refine rgQ ((4,.u (uB true))::[]) s
   (oc zE<|zC) fun a w7 s=>?_
  have O:=s.below
  replace h:=h.trans (O.mono h.size)
  replace I:=(SF.row 3 (qns l)).st _ _ _ I O
  replace J:=(SF.row 3 (qns l)).st _ _ _ J O
  replace s:=s.anewB rfl rfl
  exact nR<|wZ s h rfl iiz
def bfB(cs:List Rat)(ss:List Int)(r:Nat×Nat×Rat):Bool:=decide (ss.getD r.2.1 0<0)||(decide (cs.getD r.1 0+r.2.2<cs.getD r.2.1 0)||(decide (cs.getD r.1 0+r.2.2=cs.getD r.2.1 0)&&decide (ss.getD r.1 0+1<ss.getD r.2.1 0)))
def bfT(st:List Rat×List Int×Bool)(r:Nat×Nat×Rat):List Rat×List Int×Bool:=if st.2.1.getD r.1 0<0 then st else if bfB st.1 st.2.1 r=true then(st.1.set r.2.1 (st.1.getD r.1 0+r.2.2),st.2.1.set r.2.1 (st.2.1.getD r.1 0+1),true)else st
def bfP(rs:List (Nat×Nat×Rat))(cs:List Rat)(ss:List Int):List Rat×List Int×Bool:=rs.foldl bfT (cs,ss,false)
def bfR(rs:List (Nat×Nat×Rat)):Nat->List Rat->List Int->List Rat×List Int
 |0,cs,ss=>(cs,ss)
 |k+1,cs,ss=>if(bfP rs cs ss).2.2=true then bfR rs k (bfP rs cs ss).1 (bfP rs cs ss).2.1 else((bfP rs cs ss).1,(bfP rs cs ss).2.1)
theorem zDm(l:List Rat)(i k:Nat)(h:i<l.length)(z:Rat):(l.set i z).getD k 0=if k=i then z else l.getD k 0:=by
 by_cases e:k=i
 .subst e;simp[h]
 .rw[if_neg e];simp[pM (xY e)]
structure BV(E:Adj)(N a j:Nat)(cs:List Rat)(ss:List Int):Prop where
 cl:cs.length=N
 sl:ss.length=N
 at_:∀n,n<N->(ss.getD n 0= -1/\cs.getD n 0=0)∨ ∃s:Nat,ss.getD n 0=(s:Int)/\Rch E a n (cs.getD n 0) s/\s<=j
def BL(cs:List Rat)(ss:List Int)(n:Nat)(c:Rat)(s:Nat):Prop:=∃t:Nat,ss.getD n 0=(t:Int)/\(cs.getD n 0<c∨(cs.getD n 0=c/\t<=s))
theorem BV.mono(h:BV E N a j cs ss)(hk:j<=k):BV E N a k cs ss:=⟨h.cl,h.sl,fun n O=>by
 rcases h.at_ n O with g|⟨s,J,I,g3⟩
 .exact .inl g
 .exact .inr ⟨s,J,I,xQ g3 hk⟩⟩
theorem BV.begin(E:Adj){N a:Nat}(J:a<N):BV E N a 0 (List.replicate N 0) ((List.replicate N (-1)).set a 0)/\BL (List.replicate N 0) ((List.replicate N (-1)).set a 0) a 0 0:=by
 have I:∀n,n<N->(List.replicate N (0:Rat)).getD n 0=0:=fun n h=>by rw[nX,nA,if_pos h];rfl
 refine⟨⟨eN,eN,fun n h=>?_⟩,0,?_,.inr ⟨I a J,vR _⟩⟩
 .rw[qW _ _ _ (by simpa using J)]
  by_cases e:n=a
  .right
   rw[if_pos e]
   subst e
   exact⟨0,rfl,by rw[I n h];exact .nil,vR _⟩
  .left
   rw[if_neg e]
   exact⟨by rw[nX,nA,if_pos h];rfl,I n h⟩
 .rw[qW _ _ _ (by simpa using J),if_pos rfl]
  rfl
section
variable {E:Adj}{N a j:Nat}
theorem BV.step(h:BV E N a j st.1 st.2.1){x b:Nat}{f:Rat}(hx:x<N)(J:b<N)(he:(b,f)∈E x):BV E N a (j+1) (bfT st (x,b,f)).1 (bfT st (x,b,f)).2.1:=by
 unfold bfT
 dsimp only
 split
 .exact h.mono (mU _)
 .rename_i hn
  split
  .refine⟨by rw[uC];exact h.cl,by rw[uC];exact h.sl,fun n I=>?_⟩
   dsimp only
   rw[qW _ _ _ (by rw[h.sl];exact J),zDm _ _ _ (by rw[h.cl];exact J)]
   by_cases e:n=b
   .rw[if_pos e,if_pos e]
    rcases h.at_ x hx with⟨g,_⟩|⟨s,g1,O,g3⟩
    .omega
    .subst e
     exact .inr ⟨s+1,by rw[g1];rfl,.cons O he,oA⟩
   .rw[if_neg e,if_neg e]
    exact(h.mono (mU _)).at_ n I
  .exact h.mono (mU _)
theorem zSq{r:Nat×Nat×Rat}(h:bfB cs ss r=false):0<=ss.getD r.2.1 0/\(cs.getD r.2.1 0<cs.getD r.1 0+r.2.2∨(cs.getD r.2.1 0=cs.getD r.1 0+r.2.2/\ss.getD r.2.1 0<=ss.getD r.1 0+1)):=by
 unfold bfB at h
 simp only[bL,rN,rH]at h
 obtain⟨h1,h2,I⟩:=h
 refine⟨oA,?_⟩
 by_cases e:cs.getD r.1 0+r.2.2=cs.getD r.2.1 0
 .rcases I with I|I
  .exact absurd e I
  .exact .inr ⟨e.symm,oA⟩
 .left
  grind
theorem zQ8{r:Nat×Nat×Rat}(h:bfB cs ss r=true){c:Rat}{s:Nat}(J:BL cs ss r.2.1 c s){t:Nat}(ht:ss.getD r.1 0=(t:Int)):cs.getD r.1 0+r.2.2<c∨(cs.getD r.1 0+r.2.2=c/\t+1<=s):=by
 obtain⟨u,h1,I⟩:=J
 unfold bfB at h
 simp only[bZ,xU,bE]at h
 rcases h with h|h|⟨h,h'⟩
 .omega
 .rcases I with I|⟨I,_⟩
  .left;grind
  .left;grind
 .rcases I with I|⟨I,h3⟩
  .left;grind
  .right
   exact⟨by rw[h,I],oA⟩
theorem BL.step(h:BV E N a j st.1 st.2.1){r:Nat×Nat×Rat}(hx:r.1<N)(I:r.2.1<N){n:Nat}{c:Rat}{s:Nat}(k:BL st.1 st.2.1 n c s):BL (bfT st r).1 (bfT st r).2.1 n c s:=by
 unfold bfT
 split
 .exact k
 .rename_i hn
  split
  .rename_i J
   dsimp only
   by_cases e:n=r.2.1
   .subst e
    obtain⟨t,ht⟩:∃t:Nat,st.2.1.getD r.1 0=(t:Int):=⟨(st.2.1.getD r.1 0).toNat,oA⟩
    refine⟨t+1,?_,?_⟩
    .rw[qW _ _ _ (by rw[h.sl];exact I),if_pos rfl,ht];rfl
    .rw[zDm _ _ _ (by rw[h.cl];exact I),if_pos rfl]
     exact zQ8 J k ht
   .obtain⟨t,h1,O⟩:=k
    refine⟨t,?_,?_⟩
    .rw[qW _ _ _ (by rw[h.sl];exact I),if_neg e];exact h1
    .rw[zDm _ _ _ (by rw[h.cl];exact I),if_neg e];exact O
  .exact k
theorem BL.take(h:BV E N a j st.1 st.2.1){x b:Nat}{f:Rat}(hb:b<N){c:Rat}{s:Nat}(k:BL st.1 st.2.1 x c s):BL (bfT st (x,b,f)).1 (bfT st (x,b,f)).2.1 b (c+f) (s+1):=by
 obtain⟨t,h1,O⟩:=k
 have I:st.1.getD x 0+f<c+f∨(st.1.getD x 0+f=c+f/\t+1<=s+1):=by
  rcases O with O|⟨O,h3⟩
  .left;grind
  .right;exact⟨by rw[O],oA⟩
 unfold bfT
 dsimp only
 rw[if_neg (by rw[h1];omega)]
 split
 .refine⟨t+1,?_,?_⟩
  .dsimp only
   rw[qW _ _ _ (by rw[h.sl];exact hb),if_pos rfl,h1];rfl
  .dsimp only
   rw[zDm _ _ _ (by rw[h.cl];exact hb),if_pos rfl]
   exact I
 .rename_i hB
  obtain⟨g1,J⟩:=zSq (r:=(x,b,f)) (by simpa using hB)
  dsimp only at g1 J
  refine⟨(st.2.1.getD b 0).toNat,oA,?_⟩
  rcases J with J|⟨J,g3⟩
  .left
   rcases I with k|⟨k,_⟩<;>grind
  .rcases I with k|⟨k,k2⟩
   .left;grind
   .right
    exact⟨J.trans k,oA⟩
end
theorem zMC{E:Adj}{N a:Nat}:∀(rs:List (Nat×Nat×Rat)) {j:Nat} {st:List Rat×List Int×Bool},(∀r,r∈rs->r.1<N/\r.2.1<N/\r.2∈E r.1)->BV E N a j st.1 st.2.1->
  BV E N a (j+rs.length) (rs.foldl bfT st).1 (rs.foldl bfT st).2.1/\(∀n c s,BL st.1 st.2.1 n c s->BL (rs.foldl bfT st).1 (rs.foldl bfT st).2.1 n c s)/\(∀r,r∈rs->∀c s,BL st.1 st.2.1 r.1 c s->BL (rs.foldl bfT st).1 (rs.foldl bfT st).2.1 r.2.1 (c+r.2.2) (s+1))/\((rs.foldl bfT st).2.2=false->rs.foldl bfT st=st)
 | [],j,st,_,h=>⟨h,fun _ _ _ k=>k,(fun r J=>by cases J),fun _=>rfl⟩
 | r::rs,j,st,J,h=>by
  obtain⟨hx,O,he⟩:=J r (.head _)
  have h1:BV E N a (j+1) (bfT st r).1 (bfT st r).2.1:=h.step (x:=r.1) (b:=r.2.1) (f:=r.2.2) hx O he
  obtain⟨g1,g2,g3,g4⟩:=zMC rs (fun q I=>J q (.tail _ I)) h1
  rw[cL]
  refine⟨by rw[fN,show j+(rs.length+1)=j+1+rs.length from oA];exact g1,fun n c s k=>g2 n c s (k.step h hx O),fun q I c s k=>?_,fun e=>?_⟩
  .rcases xX.1 I with rfl|I
   .exact g2 _ _ _ (k.take (x:=q.1) (b:=q.2.1) (f:=q.2.2) h O)
   .exact g3 q I c s (k.step h hx O)
  .have e1:=g4 e
   rw[e1]at e ⊢
   unfold bfT at e ⊢
   split
   .rfl
   .rename_i hn
    rw[if_neg hn]at e
    split
    .rename_i hB
     rw[if_pos hB]at e
     cases e
    .rfl
theorem zHP{E:Adj}{N a:Nat}{rs:List (Nat×Nat×Rat)}(hr:∀r,r∈rs->r.1<N/\r.2.1<N/\r.2∈E r.1)(hE:∀x b f,(b,f)∈E x->(x,b,f)∈rs):∀(k d:Nat) {j:Nat} {cs:List Rat} {ss:List Int},BV E N a j cs ss->(∀n c s,s<=d->Rch E a n c s->BL cs ss n c s)->
  (∃j',BV E N a j' (bfR rs k cs ss).1 (bfR rs k cs ss).2)/\∀n c s,s<=d+k->Rch E a n c s->BL (bfR rs k cs ss).1 (bfR rs k cs ss).2 n c s
 |0,d,j,cs,ss,h,hd=>⟨⟨j,h⟩,hd⟩
 | k+1,d,j,cs,ss,h,hd=>by
  have hp:=zMC (st:=(cs,ss,false)) rs hr h
  rw[show rs.foldl bfT (cs,ss,false)=bfP rs cs ss from rfl]at hp
  obtain⟨g1,g2,g3,g4⟩:=hp
  have J:∀n c s,s<=d+1->Rch E a n c s->BL (bfP rs cs ss).1 (bfP rs cs ss).2.1 n c s:=fun n c s hs I=>by
   cases I with
   |nil=>exact g2 _ _ _ (hd _ _ _ (vS _) .nil)
   |@cons m _ c f s I he=>exact g3 (m,n,f) (hE _ _ _ he) _ _ (hd _ _ _ oA I)
  show(∃j',BV E N a j' (if(bfP rs cs ss).2.2=true then bfR rs k (bfP rs cs ss).1 (bfP rs cs ss).2.1 else((bfP rs cs ss).1,(bfP rs cs ss).2.1)).1 (if(bfP rs cs ss).2.2=true then bfR rs k (bfP rs cs ss).1 (bfP rs cs ss).2.1 else((bfP rs cs ss).1,(bfP rs cs ss).2.1)).2)/\∀n c s,s<=d+(k+1)->Rch E a n c s->BL (if(bfP rs cs ss).2.2=true then bfR rs k (bfP rs cs ss).1 (bfP rs cs ss).2.1 else((bfP rs cs ss).1,(bfP rs cs ss).2.1)).1 (if(bfP rs cs ss).2.2=true then bfR rs k (bfP rs cs ss).1 (bfP rs cs ss).2.1 else((bfP rs cs ss).1,(bfP rs cs ss).2.1)).2 n c s
  by_cases e:(bfP rs cs ss).2.2=true
  .rw[if_pos e]
   obtain⟨i1,i2⟩:=zHP hr hE k (d+1) g1 J
   exact⟨i1,fun n c s hs=>i2 n c s oA⟩
  .rw[if_neg e]
   have e2:bfP rs cs ss=(cs,ss,false):=g4 (by simpa using e)
   have O:∀n c s,Rch E a n c s->BL (bfP rs cs ss).1 (bfP rs cs ss).2.1 n c s:=fun n c s I=>by
    induction I with
    |nil=>exact J _ _ _ (vS _) .nil
    |@cons m b c f s _ he ih=>
     rw[e2]at ih
     exact g3 (m,b,f) (hE _ _ _ he) _ _ ih
   exact⟨⟨_,g1⟩,fun n c s _ I=>O n c s I⟩
theorem zTW(hx:yU N x=true):bfR (rds N js fs) (N+1) (List.replicate N 0) ((List.replicate N (-1)).set x.toNat 0)=(csR (grE N js fs) N x,ssR (grE N js fs) N x):=by
 have hG:=zGB N js fs
 have hb:=(y5 hx).1
 have hr:∀r,r∈rds N js fs->r.1<N/\r.2.1<N/\r.2∈grE N js fs r.1:=fun r hr=>by
  obtain⟨h1,I,_⟩:=zHd (a:=r.1) (b:=r.2.1) (f:=r.2.2) hr
  exact⟨h1,I,zAH.2 hr⟩
 obtain⟨hV,hL⟩:=BV.begin (grE N js fs) hb
 obtain⟨⟨j,g1⟩,g2⟩:=zHP hr (fun a b f h=>zAH.1 h) (N+1) 0 hV (fun n c s hs hw=>by
  obtain rfl:s=0:=oA
  obtain⟨rfl,rfl⟩:=zEj hw
  exact hL)
 have J:=zFR hG hx
 have h9:CS (grE N js fs) N x.toNat (bfR (rds N js fs) (N+1) (List.replicate N 0) ((List.replicate N (-1)).set x.toNat 0)).1 (bfR (rds N js fs) (N+1) (List.replicate N 0) ((List.replicate N (-1)).set x.toNat 0)).2:=by
  refine⟨g1.cl,g1.sl,fun n hn=>?_⟩
  rcases J.at_ n hn with⟨s,ho,_,hs⟩|⟨h0,_,_⟩
  .left
   obtain⟨t,h1,I⟩:=g2 n _ s oA ho.1
   rcases g1.at_ n hn with⟨h3,_⟩|⟨u,h3,O,_⟩
   .omega
   .obtain rfl:u=t:=oA
    have e:(bfR (rds N js fs) (N+1) (List.replicate N 0) ((List.replicate N (-1)).set x.toNat 0)).1.getD n 0=(csR (grE N js fs) N x).getD n 0/\u=s:=by
     rcases ho.2 _ _ O with k|⟨k,k'⟩
     .rcases I with I|⟨I,_⟩
      .exact absurd k (by grind)
      .rw[I]at k;exact absurd k (by grind)
     .rcases I with I|⟨_,I⟩
      .rw[<-k]at I;exact absurd I (by grind)
      .exact⟨k.symm,oA⟩
    refine⟨s,?_,by rw[h1,e.2],hs⟩
    rw[e.1]
    exact ho
  .right
   rcases g1.at_ n hn with⟨h3,O⟩|⟨u,_,O,_⟩
   .exact⟨h0,O,h3⟩
   .exact absurd O (h0 _ _)
 obtain⟨e1,e2⟩:=h9.uniq J fun a b f=>Iff.rfl
 exact Prod.ext e1 e2
/-! ### The node that a least way comes from -/
def bkB(cs:List Rat)(ss:List Int)(at_:Nat)(r:Nat×Nat×Rat):Bool:=decide (r.2.1=at_)&&decide (ss.getD r.1 0=ss.getD at_ 0-1)&&decide (cs.getD r.1 0+r.2.2=cs.getD at_ 0)
def bkS(cs:List Rat)(ss:List Int)(at_:Nat)(b:Int)(r:Nat×Nat×Rat):Int:=if bkB cs ss at_ r=true then(if b<0∨(r.1:Int)<b then(r.1:Int)else b)else b
theorem zIA(cs:List Rat)(ss:List Int)(at_:Nat):∀(rs:List (Nat×Nat×Rat)) (b:Int),-1<=b->(rs.foldl (bkS cs ss at_) b=b∨ ∃r,r∈rs/\bkB cs ss at_ r=true/\(r.1:Int)=rs.foldl (bkS cs ss at_) b)/\(0<=b->rs.foldl (bkS cs ss at_) b<=b/\0<=rs.foldl (bkS cs ss at_) b)/\∀r,r∈rs->bkB cs ss at_ r=true->0<=rs.foldl (bkS cs ss at_) b/\rs.foldl (bkS cs ss at_) b<=(r.1:Int)
 | [],b,hb=>⟨.inl rfl,fun h=>⟨Int.le_refl _,h⟩,fun r hr=>by cases hr⟩
 | r::rs,b,hb=>by
  rw[cL]
  have hs:(bkS cs ss at_ b r=b/\(bkB cs ss at_ r=true->0<=b/\b<=(r.1:Int)))∨(bkS cs ss at_ b r=(r.1:Int)/\bkB cs ss at_ r=true/\(0<=b->(r.1:Int)<b)):=by
   unfold bkS
   split
   .rename_i h
    split
    .exact .inr ⟨rfl,h,fun h0=>oA⟩
    .exact .inl ⟨rfl,fun _=>oA⟩
   .rename_i h
    exact .inl ⟨rfl,fun h'=>absurd h' h⟩
  rcases hs with⟨e,hn⟩|⟨e,hB,h6⟩
  .rw[e]
   obtain⟨I,h2,h3⟩:=zIA cs ss at_ rs b hb
   refine⟨?_,h2,fun q J O=>?_⟩
   .rcases I with I|⟨q,J,I⟩
    .exact .inl I
    .exact .inr ⟨q,.tail _ J,I⟩
   .rcases xX.1 J with rfl|J
    .obtain⟨g1,g2⟩:=hn O
     have:=h2 g1
     omega
    .exact h3 q J O
  .rw[e]
   obtain⟨I,h2,h3⟩:=zIA cs ss at_ rs (r.1:Int) oA
   have h4:=h2 oA
   refine⟨.inr ?_,fun h0=>?_,fun q J O=>?_⟩
   .rcases I with I|⟨q,J,I⟩
    .exact⟨r,.head _,hB,I.symm⟩
    .exact⟨q,.tail _ J,I⟩
   .have:=h6 h0
    omega
   .rcases xX.1 J with rfl|J
    .exact⟨h4.2,h4.1⟩
    .exact h3 q J O
theorem zTV{n s:Nat}(ha:a<N)(hn:n<N)(h:CS (grE N js fs) N a cs ss)(hs:ss.getD n 0=((s+1:Nat):Int))(ho:Opt (grE N js fs) a n (cs.getD n 0) (s+1)):(rds N js fs).foldl (bkS cs ss n) (-1)=((nxF (grE N js fs) N cs ss n:Nat):Int):=by
 obtain⟨g1,⟨f,g2,g3⟩,g4,_,_⟩:=h.nx (zGB N js fs) (fun _ _ _ h=>zFa h) ha hn hs ho
 have hq:∀(x:Nat) (f:Rat),bkB cs ss n (x,n,f)=true↔zD8 cs ss n (x,f):=fun x f=>by
  unfold bkB zD8
  simp
 have O:=zFa g2
 obtain⟨I,_,h3⟩:=zIA cs ss n (rds N js fs) (-1) (Int.le_refl _)
 obtain⟨k1,k2⟩:=h3 (nxF (grE N js fs) N cs ss n,n,f) (zAH.1 O) ((hq _ _).2 g3)
 rcases I with I|⟨⟨x,b,f'⟩,hr,J,I⟩
 .rw[I]at k1;exact absurd k1 dA
 .have hb:b=n:=by
   unfold bkB at J
   simp only[xU,bE]at J
   exact J.1.1
  subst hb
  have:=g4 (x,f') (zFa (zAH.2 hr)) ((hq _ _).1 J)
  dsimp only at this I k2
  omega
/-! ### Labels by rounds -/
def lbT(st:List Int×Bool)(r:Nat×Nat×Rat):List Int×Bool:=if st.1.getD r.1 0<st.1.getD r.2.1 0 then(st.1.set r.2.1 (st.1.getD r.1 0),true)else st
structure LV28(E:Adj)(N:Nat)(l:List Int):Prop where
 ln:l.length=N
 at_:∀n,n<N->∃m:Nat,l.getD n 0=(m:Int)/\m<=n/\Con E m n
def zE2:List Int->Nat
 | []=>0
 |z::l=>z.toNat+zE2 l
theorem zJz:∀(l:List Int) (i:Nat) (z:Int),i<l.length->0<=z->z<l.getD i 0->zE2 (l.set i z)<zE2 l
 | [],i,z,hi,_,_=>by simp at hi
 |x::l,0,z,_,h0,h=>by
  have h:z<x:=by simpa using h
  show z.toNat+zE2 l<x.toNat+zE2 l
  omega
 |x::l,i+1,z,hi,h0,h=>by
  have:=zJz l i z (by simpa using hi) h0 (by simpa using h)
  show x.toNat+zE2 (l.set i z)<x.toNat+zE2 l
  omega
theorem LV28.begin(E:Adj)(N:Nat):LV28 E N ((List.range N).map fun i:Nat=>(i:Int)):=⟨eN,fun n h=>⟨n,by simp[h],vR _,Con.refl _ _⟩⟩
theorem LV28.step{st:List Int×Bool}(h:LV28 E N st.1){r:Nat×Nat×Rat}(hx:r.1<N)(J:r.2.1<N)(he:r.2∈E r.1):LV28 E N (lbT st r).1/\((lbT st r)=st∨((lbT st r).2=true/\zE2 (lbT st r).1<zE2 st.1)):=by
 unfold lbT
 split
 .rename_i I
  obtain⟨m,h1,h2,h3⟩:=h.at_ _ hx
  obtain⟨m',k1,k2,_⟩:=h.at_ _ J
  refine⟨⟨by rw[uC];exact h.ln,fun n O=>?_⟩,.inr ⟨rfl,zJz _ _ _ (by rw[h.ln];exact J) oA I⟩⟩
  rw[qW _ _ _ (by rw[h.ln];exact J)]
  by_cases e:n=r.2.1
  .rw[if_pos e,e]
   exact⟨m,h1,oA,h3.step (r:=r.2) he⟩
  .rw[if_neg e]
   exact h.at_ n O
 .exact⟨h,.inl rfl⟩
theorem zL1{E:Adj}{N:Nat}:∀(rs:List (Nat×Nat×Rat)) {st:List Int×Bool},(∀r,r∈rs->r.1<N/\r.2.1<N/\r.2∈E r.1)->LV28 E N st.1->LV28 E N (rs.foldl lbT st).1/\(rs.foldl lbT st=st∨((rs.foldl lbT st).2=true/\zE2 (rs.foldl lbT st).1<zE2 st.1))/\(rs.foldl lbT st=st->st.2=false->∀r,r∈rs-> ¬st.1.getD r.1 0<st.1.getD r.2.1 0)
 | [],st,_,h=>⟨h,.inl rfl,fun _ _ r hr=>by cases hr⟩
 | r::rs,st,hr,h=>by
  obtain⟨hx,hb,he⟩:=hr r (.head _)
  obtain⟨h1,J⟩:=h.step hx hb he
  obtain⟨g1,I,g3⟩:=zL1 rs (fun q hq=>hr q (.tail _ hq)) h1
  rw[cL]
  refine⟨g1,?_,fun e hf q hq=>?_⟩
  .rcases J with J|⟨J,h0⟩
   .rw[J]at I ⊢
    exact I
   .right
    rcases I with I|⟨I,h5⟩
    .rw[I];exact⟨J,h0⟩
    .exact⟨I,oA⟩
  .have O:lbT st r=st:=by
    rcases J with J|⟨J,h0⟩
    .exact J
    .exfalso
     have e1:zE2 (rs.foldl lbT (lbT st r)).1=zE2 st.1:=vX (fun p:List Int×Bool=>zE2 p.1) e
     rcases I with I|⟨_,h5⟩
     .rw[I]at e1;omega
     .omega
   rcases xX.1 hq with rfl|hq
   .intro h6
    unfold lbT at O
    rw[if_pos h6]at O
    rw[<-O]at hf
    cases hf
   .rw[O]at g3 e
    exact g3 e hf q hq
theorem zQF(h:LV28 (grE N js fs) N l)(I:∀r,r∈rds N js fs-> ¬l.getD r.1 0<l.getD r.2.1 0):Labd (grE N js fs) N l:=by
 have O:∀a b,Con (grE N js fs) a b->l.getD a 0=l.getD b 0:=fun a b ⟨c,s,hw⟩=>by
  induction hw with
  |nil=>rfl
  |@cons n b c f s hw he ih=>
   have h1:=I (n,b,f) (zAH.1 he)
   have J:=I (b,n,f) (zAH.1 (zFa he))
   have h3:l.getD a 0=l.getD n 0:=ih ⟨_,_,hw⟩
   have h4: ¬l.getD n 0<l.getD b 0:=h1
   have h5: ¬l.getD b 0<l.getD n 0:=J
   omega
 refine⟨h.ln,fun n hn=>?_⟩
 obtain⟨m,h1,J,h3⟩:=h.at_ n hn
 refine⟨m,h1,J,h3,fun m' hm' hc=>?_⟩
 obtain⟨m2,k1,k2,_⟩:=h.at_ m' oA
 have:=O _ _ hc
 omega
theorem wU{w0:WB}{K:List (Nat×KF)}{n:Nat}{a:Act}{w:WB}{P:Program}(h:St w0 K [] n [] a w){fn:Func}{f:SF}{c r b:Nat}{e te:TypeId}{cs:List WD}(O:fn.results=#[.cell c e,.tmp r])(hz:zAj P e=some 3)(I:a.tmps.getD c undef= pO b 0)(hb:w.heap[b]?=some (.cells cs.toArray te (0,0)))(hl:cs.length=3)
  (J:f.p (.tuple #[.agg cs.toArray,a.tmps.getD r undef]) w):bodyPost P fn (Ret w0 f) .ret a w:=by
 rw[xS]at I
 refine⟨h.nd,_,?_,⟨_,rfl,J,h.gr.below⟩⟩
 have h1:=zEf hz hl hb
 simp[results,O,asAddr,I,h1]
def zQT(r:Rat×Bool):SF:=wI (fQN r.1).tS (fB r.2).tS
theorem zLo{lw:WD}(hu:u=.int .i64 n)(hj:(SF.row 2 (jns js)).p lj W)(hf:(SF.row 3 (rvs 1 fs)).p lf W)(O:(SF.row 1 (ins way)).p lw W)(hwl:way.length<=60)(qa:min (max n 0) 131072=(N:Int))(hB:GrB N js fs)(hT:Tab W):Calls prog 9 #[u,lj,lf,lw] W (Ret W (zQT (wkR (grE N js fs) N way))):=by
 have I:Below W.heap.size W W:=xF _ _
 refine y2 [(uI n).tS,(UF.eq lj).tS,(UF.eq lf).tS,(UF.eq lw).tS] func9 rfl kA ⟨hu,rfl,rfl,rfl,trivial⟩ fun a s=>?_
 replace s:=s.renew [(0,.u (uI n)),(1,.u (UF.eq lj)),(2,.u (UF.eq lf)),(3,.u (UF.eq lw))] (sH (.inr ⟨_,rfl,.head _⟩)<|sH (.inr ⟨_,rfl,mz1⟩)<|sH (.inr ⟨_,rfl,mz2⟩)<|sH (.inr ⟨_,rfl,mz3⟩) fnz)
 refine fK<|rgK 0 [] s
  zC fun a w1 s=>yP (CU.len 3) (cs:=zR3) kA rfl s kA (fun W=>rfl) rfl fun b8 a w s=>yN (uB false) rfl s kA iiz fun a w s=>zF rfl ?_
 have hL:=s.inB_new (q:=b8) ⟨_,.head _,rfl,rfl⟩
 obtain⟨c8,qj,e8,n8⟩:=s.boxAt (c:=8) rfl
 have h8:=zJO (C:=CU.len 3) qj e8 n8 e8
 replace s:=(s.learn 8 _ (s.bx.mem _ (.head _)).choose_spec.1).popB
 have J:=s.below
 replace I:=I.trans (J.mono I.size)
 replace O:=(SF.row 1 (ins way)).st _ _ _ O J
 replace s:=s.anewB rfl rfl
 refine fK<|zP 2 ((16,.Z (uI n))::(17,.u (uI (N:Int)))::[]) s kA
  (oc zA<|oc (zK zD zOs (fun u0 W J (h0:u0=.int .i64 n)=>zCD h0 qa))<|zC) fun a w2 s=>?_
 replace s:=s.drop [0]
 refine yN (uI (N:Int)) rfl s kA iiz fun a w s=>zF rfl ?_
 have J:=s.below
 replace I:=I.trans (J.mono I.size)
 replace O:=(SF.row 1 (ins way)).st _ _ _ O J
 replace h8:=h8.below J
 replace s:=s.anewB rfl rfl
 refine fK<|rgN ((18,.Z (uI (N:Int)))::(19,.Z (UF.eq lj))::(20,.Z (UF.eq lf))::(21,.s (wD w 59 5 (rqs (rds N js fs))))::(10,.s (wD w 59 5 (rqs (rds N js fs))))::[]) s
  (oc zA<|oc zA<|oc zA<|oc (zBn zD zOr (fun u0 u1 u2 W J (h0:u0=.int .i64 (N:Int)) (h1:u1=lj) (h2:u2=lf)=>(zCC h0 (by rw[h1];exact(SF.row 2 (jns js)).st _ _ _ hj (I.trans ((s.up J).mono I.size))) (by rw[h2];exact(SF.row 3 (rvs 1 fs)).st _ _ _ hf (I.trans ((s.up J).mono I.size))) (by have:=hB.hN;omega) (by have:=hB.hj;omega) ((hT.below I).below (s.up J))).mono (wF (fun v W h=>y9.mono h (s.up J).size))))<|oc zE<|zC) fun a w3 s hr=>?_
 obtain⟨lr,e10⟩:∃v,a.tmps.getD 10 undef=v:=⟨_,rfl⟩
 have hE:=(hr (_,_) mz4)
 rw[show a.tmps.getD _ undef=lr from e10]at hE
 replace s:=s.learn 10 _ e10
 have h6:=y9.row hE
 clear hE
 have J:=s.below
 replace I:=I.trans (J.mono I.size)
 replace O:=(SF.row 1 (ins way)).st _ _ _ O J
 replace h8:=h8.below J
 replace s:=s.anewB rfl rfl
 refine fK<|rgK 1 ((22,.u (fQN 0))::[]) s
  (oc (zK zD zFe (fun u0 W J (h0:u0=.int .i64 0)=>zCZ h0))<|zC) fun a w4 s=>yP (CU.len 3) (cs:=zR3) kA rfl s kA (fun W=>rfl) rfl fun h3 a w s=>yI (fQN 0) rfl s yO fun a w s=>zF rfl<|fK<|rgQ ((12,.u (uI 0))::[]) s
  (oc zE<|zC) fun a w5 s=>rF<|yC (fun(y:Nat×Rat) a w=>y.1<=way.length/\zD1 (grE N js fs) N way y.1=some y.2/\St w3 [(0,.u (uI (N:Int))),(3,.u (UF.eq lw)),(8,.u (UF.eq (pO b8 0))),(10,.u (UF.eq lr)),(12,.u (uI (y.1:Int)))] [⟨11,32,CU.agg (fQN (y.2)),h3,false⟩] f9.ntmps [] a w) (fun y=>way.length-y.1) (0,0) ⟨vS _,rfl,s.keepK _ (sH mz3<|sH mz9<|sH mz5<|sH mz2<|sH (.head _) fnz)⟩ fun y a w hx=>?_
 obtain⟨hk,hl,s⟩:=hx
 have hO:QB y.2 1:=zM2 hB oA hl
 refine fK<|rgQ ((23,.Z (uI (y.1:Int)))::(24,.Z (UF.eq lw))::(25,.Z (uI ((ins way).length:Int)))::(26,.u (uB (decide ((y.1:Int)<((ins way).length:Int)))))::[]) s
  (oc zA<|oc zA<|oc (qZ (z:=1) (Cs:=ins way) kA (y7 O s) (fun _=>rfl))<|oc (zJ .i64 (y.1:Int) ((ins way).length:Int) (decide ((y.1:Int)<((ins way).length:Int))) iiz iiz rfl rfl)<|zC) fun a w6 s=>StS.cond s (decide ((y.1:Int)<((ins way).length:Int))) iiz (fun e=>?_) (fun e=>?_)
 .have he:y.1<way.length:=by have h7:=xW e;simp only[xT]at h7;omega
  refine nQ<|fK<|rF<|fK<|rgQ ((29,.Z (UF.eq lw))::(30,.Z (uI (y.1:Int)))::(31,.s (wB (wC [.int .i64 (way.getD y.1 0)]).cf))::(32,.Z (uI (way.getD y.1 0)))::(33,.Z (uB (decide ((way.getD y.1 0)<0))))::(34,.Z (uB (decide ((way.getD y.1 0)<0))))::(35,.s (SF.imp ((decide ((way.getD y.1 0)<0))=false) ((UF.eq lw).tS)))::(36,.s (SF.imp ((decide ((way.getD y.1 0)<0))=false) ((uI (y.1:Int)).tS)))::(37,.s (SF.imp ((decide ((way.getD y.1 0)<0))=false) (wB (wC [.int .i64 (way.getD y.1 0)]).cf)))::(38,.s (SF.imp ((decide ((way.getD y.1 0)<0))=false) ((uI (way.getD y.1 0)).tS)))::(39,.s (SF.imp ((decide ((way.getD y.1 0)<0))=false) ((uI (N:Int)).tS)))::(40,.s (SF.imp ((decide ((way.getD y.1 0)<0))=false) ((uB (decide ((way.getD y.1 0)≥(N:Int)))).tS)))::(41,.u (uB ((decide ((way.getD y.1 0)<0))||(decide ((way.getD y.1 0)≥(N:Int))))))::[]) s
   (oc zA<|oc zA<|oc (zL (z:=1) (Cs:=ins way) (i:=y.1) (C:=wC [.int .i64 (way.getD y.1 0)]) kA (qC he) (y7 O s) iiz)<|oc (z5 (C:=(wC [.int .i64 (way.getD y.1 0)]).cf) kA iiz yT)<|oc (zJ .i64 (way.getD y.1 0) 0 (decide ((way.getD y.1 0)<0)) iiz iiz rfl rfl)<|oc zA<|oc (zB 34 (decide ((way.getD y.1 0)<0)) kA iiz (fun e=>zI [] ((UF.eq lw).tS) fnz (fun _ _ h _=>h) kA zA) (fun e W h=>absurd h e))<|oc (zB 34 (decide ((way.getD y.1 0)<0)) kA iiz (fun e=>zI [] ((uI (y.1:Int)).tS) fnz (fun _ _ h _=>h) kA zA) (fun e W h=>absurd h e))<|oc (zB 34 (decide ((way.getD y.1 0)<0)) kA iiz (fun e=>zI [(35,(UF.eq lw).tS),(36,(uI (y.1:Int)).tS)] (wB (wC [.int .i64 (way.getD y.1 0)]).cf) (sH (fun v W h=>zG (c:=(decide ((way.getD y.1 0)<0))=false) (f:=(UF.eq lw).tS) e h)<|sH (fun v W h=>zG (c:=(decide ((way.getD y.1 0)<0))=false) (f:=(uI (y.1:Int)).tS) e h) fnz) (fun _ _ h _=>h) kA (zL (z:=1) (Cs:=ins way) (i:=y.1) (C:=wC [.int .i64 (way.getD y.1 0)]) kA (qC he) (y7 O s) iiz)) (fun e W h=>absurd h e))<|oc (zB 34 (decide ((way.getD y.1 0)<0)) kA iiz (fun e=>zI [(37,wB (wC [.int .i64 (way.getD y.1 0)]).cf)] ((uI (way.getD y.1 0)).tS) (sH (fun v W h=>zG (c:=(decide ((way.getD y.1 0)<0))=false) (f:=wB (wC [.int .i64 (way.getD y.1 0)]).cf) e h) fnz) (fun _ _ h _=>h) kA (z5 (C:=(wC [.int .i64 (way.getD y.1 0)]).cf) kA iiz yT)) (fun e W h=>absurd h e))<|oc (zB 34 (decide ((way.getD y.1 0)<0)) kA iiz (fun e=>zI [] ((uI (N:Int)).tS) fnz (fun _ _ h _=>h) kA zA) (fun e W h=>absurd h e))<|oc (zB 34 (decide ((way.getD y.1 0)<0)) kA iiz (fun e=>zI [(38,(uI (way.getD y.1 0)).tS),(39,(uI (N:Int)).tS)] ((uB (decide ((way.getD y.1 0)≥(N:Int)))).tS) (sH (fun v W h=>zG (c:=(decide ((way.getD y.1 0)<0))=false) (f:=(uI (way.getD y.1 0)).tS) e h)<|sH (fun v W h=>zG (c:=(decide ((way.getD y.1 0)<0))=false) (f:=(uI (N:Int)).tS) e h) fnz) (fun _ _ h _=>h) kA (zJ .i64 (way.getD y.1 0) (N:Int) (decide ((way.getD y.1 0)≥(N:Int))) iiz iiz rfl rfl)) (fun e W h=>absurd h e))<|oc (zT (decide ((way.getD y.1 0)<0)) iiz (fun e v W h=>qH h e) (fun e v W h=>yX (zG e h) e))<|zC) fun a w7 s=>StS.cond s ((decide ((way.getD y.1 0)<0))||(decide ((way.getD y.1 0)≥(N:Int)))) iiz (fun e=>?_) (fun e=>?_)
  .have ql:yU N (way.getD y.1 0)=false:=by unfold yU;simp only[bZ,bE]at e;simp only[rN,rH];omega
   have h9:wkR (grE N js fs) N way=(0,false):=zEb (i:=y.1+1) (by rw[zCg hl,ql];rfl) he
   refine fK ?_
   have hI:b8<_:=h8.lt
   have hs:b8<h3:=by have:=s.inB_new (q:=h3) ⟨_,.head _,rfl,rfl⟩;omega
   replace s:StS _ _ _ [⟨11,32,CU.agg (fQN (y.2)),h3,true⟩] _ _ _ _:=s.freeze
   have hg:∀q_,q_∈([⟨11,32,CU.agg (fQN (y.2)),h3,true⟩]:List Bx)-> ¬q_.b=b8:=fmz ⟨(by show ¬h3=b8;omega),fnz⟩
   refine rgK 1 ((42,.u (fQN 0))::[]) s
    (oc (zK zD zFe (fun u0 W J (h0:u0=.int .i64 0)=>zCZ h0))<|zC) fun a w8 s=>?_
   have J:=s.below
   replace I:=I.trans (J.mono I.size)
   replace O:=(SF.row 1 (ins way)).st _ _ _ O J
   replace h8:=h8.below J
   replace h6:=(SF.row 5 (rqs (rds N js fs))).st _ _ _ h6 J
   refine zAF (g:=b8) (i:=0) (cap:=1) (z:=3) (e:=32) (CU.agg (fQN 0)) rfl s rfl rfl h8 eN kA (s.fct (.tmp 8)) (zBS (s.fct (.tmp 42))) (fun q_ hq=>hg q_ hq) fun w hy hX h8 s=>?_
   replace I:=yD I hy (fun q hq=>by rw[hq];exact hL)
   refine yN (uB false) rfl s kA iiz fun a w s=>zF rfl<|nR ?_
   have J:=s.below
   replace I:=I.trans (J.mono I.size)
   replace h8:=h8.below J
   replace s:=s.popB
   replace s:=s.anewB rfl rfl
   obtain⟨c8,g1,g2,g3⟩:=zCU h8
   replace s:=s.home rfl rfl I
   exact wU s rfl kA (s.fct (.tmp 8)) g1 g2 ⟨_,_,rfl,by rw[h9];exact g3,by rw[h9];exact s.fct (.tmp 9)⟩
  .have hJ:yU N (way.getD y.1 0)=true:=by unfold yU;simp only[bL,rH]at e;simp only[xU,bE];omega
   refine nQ<|fK<|rgQ ((43,.Z (uI (y.1:Int)))::(44,.u (uB ((y.1:Int)==0)))::[]) s
    (oc zA<|oc (zJ .i64 (y.1:Int) 0 ((y.1:Int)==0) iiz iiz rfl rfl)<|zC) fun a w9 s=>StS.cond s ((y.1:Int)==0) iiz (fun e=>?_) (fun e=>?_)
   .have hz:y.1=0:=by simpa using e
    refine rG<|zP 2 ((27,.Z (uI (y.1:Int)))::(28,.u (uI ((y.1+1:Nat):Int)))::[]) s kA
     (oc zA<|oc (yL .i64 (y.1:Int) 1 ((y.1+1:Nat):Int) iiz iiz (wrap64 _ _ oA oA))<|zC) fun a w10 s=>?_
    replace s:=s.drop [12]
    exact yN (uI ((y.1+1:Nat):Int)) rfl s kA iiz fun a w s=>zF rfl<|⟨(y.1+1,y.2),(by show way.length-(y.1+1)<way.length-y.1;omega),he,(by rw[zCg hl,if_pos hJ,if_pos hz]),s.keepK _ (sH mz5<|sH mz6<|sH mz7<|sH mz8<|sH (.head _) fnz)⟩
   .have hz:y.1≠0:=by simpa using e
    have hR:y.1-1<way.length:=oA
    obtain⟨i0,hi0⟩:∃i,y.1=i+1:=⟨y.1-1,oA⟩
    have q4:yU N (way.getD (y.1-1) 0)=true:=by have h7:=hl;rw[hi0]at h7;have:=zKG h7;rw[show y.1-1=i0 from oA];exact this
    obtain⟨hpN,hZ⟩:=y5 q4
    have hS:(rds N js fs).foldl (chR (way.getD (y.1-1) 0) (way.getD y.1 0)) none=ch (grE N js fs) (way.getD (y.1-1) 0).toNat (way.getD y.1 0):=by rw[<-hZ];exact zMz _ _ _ _
    have qe:∀{k:Nat} (o:Option Rat),o=((rds N js fs).take k).foldl (chR (way.getD (y.1-1) 0) (way.getD y.1 0)) none->QB (o.getD 0) 1:=fun {k} o ho=>by
     cases o with
     |none=>exact QB.zero dA
     |some g=>
      rw[<-hZ,zMz]at ho
      obtain⟨⟨k',h1,h2⟩,_⟩:=zGJ (E:=zH ((rds N js fs).take k)) ho.symm
      exact hB.qr (a:=(way.getD (y.1-1) 0).toNat) (r:=(k',g)) (zAH.2 (gA (zAH.1 h2)))
    refine nQ<|rgQ ((13,.u (uB false))::[]) s
     (oc zE<|zC) fun a w11 s=>fK<|rgK 1 ((45,.u (fQN 0))::[]) s
     (oc (zK zD zFe (fun u0 W J (h0:u0=.int .i64 0)=>zCZ h0))<|zC) fun a w12 s=>yP (CU.len 3) (cs:=zR3) kA rfl s kA (fun W=>rfl) rfl fun hn a w s=>yI (fQN 0) rfl s yO fun a w s=>zF rfl<|fK<|rgQ ((15,.u (uI 0))::[]) s
     (oc zE<|zC) fun a w13 s=>rF<|yC (fun(q:Nat×Option Rat) a w=>q.1<=(rds N js fs).length/\q.2=((rds N js fs).take q.1).foldl (chR (way.getD (y.1-1) 0) (way.getD y.1 0)) none/\St w3 [(0,.u (uI (N:Int))),(3,.u (UF.eq lw)),(8,.u (UF.eq (pO b8 0))),(10,.u (UF.eq lr)),(12,.u (uI (y.1:Int))),(13,.u (uB (q.2.isSome))),(15,.u (uI (q.1:Int)))] [⟨14,32,CU.agg (fQN (q.2.getD 0)),hn,false⟩,⟨11,32,CU.agg (fQN (y.2)),h3,false⟩] f9.ntmps [] a w) (fun q=>(rds N js fs).length-q.1) (0,none) ⟨vS _,rfl,s.keepK _ (sH mz6<|sH mz7<|sH mz8<|sH mz9<|sH zC1<|sH mz2<|sH (.head _) fnz)⟩ fun q a w hx=>?_
    obtain⟨hkq,hA,s⟩:=hx
    have hQ:QB (q.2.getD 0) 1:=qe _ hA
    refine fK<|rgQ ((46,.Z (uI (q.1:Int)))::(47,.Z (UF.eq lr))::(48,.Z (uI ((rqs (rds N js fs)).length:Int)))::(49,.u (uB (decide ((q.1:Int)<((rqs (rds N js fs)).length:Int)))))::[]) s
     (oc zA<|oc zA<|oc (qZ (z:=5) (Cs:=rqs (rds N js fs)) kA (y7 h6 s) (fun _=>rfl))<|oc (zJ .i64 (q.1:Int) ((rqs (rds N js fs)).length:Int) (decide ((q.1:Int)<((rqs (rds N js fs)).length:Int))) iiz iiz rfl rfl)<|zC) fun a w14 s=>StS.cond s (decide ((q.1:Int)<((rqs (rds N js fs)).length:Int))) iiz (fun e=>?_) (fun e=>?_)
    .have h4:q.1<(rds N js fs).length:=by have h7:=xW e;simp only[xT]at h7;omega
     have qc:((rds N js fs).getD q.1 (0,0,0))∈(rds N js fs):=by rw[nX,mD h4];exact uO h4
     have q6:QB ((rds N js fs).getD q.1 (0,0,0)).2.2 1:=hB.qr (a:=((rds N js fs).getD q.1 (0,0,0)).1) (r:=((rds N js fs).getD q.1 (0,0,0)).2) (zAH.2 qc)
     have hrlen:=zBN N js fs js.length
     have hrjl:=hB.hj
     have hkb:(rds N js fs).length<=122:=by unfold rds;omega
     refine nQ<|fK<|rF<|fK ?_
     rcases rS ((((((rds N js fs).getD q.1 (0,0,0)).1:Nat):Int)==(way.getD (y.1-1) 0))&&(((((rds N js fs).getD q.1 (0,0,0)).2.1:Nat):Int)==(way.getD y.1 0)))with hc|hc
     .refine rgE ((52,.Z (UF.eq lr))::(53,.Z (uI (q.1:Int)))::(54,.Y (fRd ((rds N js fs).getD q.1 (0,0,0))))::(55,.X (fRd ((rds N js fs).getD q.1 (0,0,0))) 0)::(56,.Z (uI ((((rds N js fs).getD q.1 (0,0,0)).1:Nat):Int)))::(57,.Z (UF.eq lw))::(58,.Z (uI (y.1:Int)))::(59,.Z (uI ((y.1-1:Nat):Int)))::(60,.s (wB (wC [.int .i64 (way.getD (y.1-1) 0)]).cf))::(61,.Z (uI (way.getD (y.1-1) 0)))::(62,.Z (uB (((((rds N js fs).getD q.1 (0,0,0)).1:Nat):Int)==(way.getD (y.1-1) 0))))::(63,.Z (uB (((((rds N js fs).getD q.1 (0,0,0)).1:Nat):Int)==(way.getD (y.1-1) 0))))::(64,.s (SF.imp ((((((rds N js fs).getD q.1 (0,0,0)).1:Nat):Int)==(way.getD (y.1-1) 0))=true) ((UF.eq lr).tS)))::(65,.s (SF.imp ((((((rds N js fs).getD q.1 (0,0,0)).1:Nat):Int)==(way.getD (y.1-1) 0))=true) ((uI (q.1:Int)).tS)))::(66,.s (SF.imp ((((((rds N js fs).getD q.1 (0,0,0)).1:Nat):Int)==(way.getD (y.1-1) 0))=true) (wB (cg (fRd ((rds N js fs).getD q.1 (0,0,0)))))))::(67,.s (SF.imp ((((((rds N js fs).getD q.1 (0,0,0)).1:Nat):Int)==(way.getD (y.1-1) 0))=true) (wB ((CU.agg (fRd ((rds N js fs).getD q.1 (0,0,0)))).cf.at 1))))::(68,.s (SF.imp ((((((rds N js fs).getD q.1 (0,0,0)).1:Nat):Int)==(way.getD (y.1-1) 0))=true) ((uI ((((rds N js fs).getD q.1 (0,0,0)).2.1:Nat):Int)).tS)))::(69,.s (SF.imp ((((((rds N js fs).getD q.1 (0,0,0)).1:Nat):Int)==(way.getD (y.1-1) 0))=true) ((UF.eq lw).tS)))::(70,.s (SF.imp ((((((rds N js fs).getD q.1 (0,0,0)).1:Nat):Int)==(way.getD (y.1-1) 0))=true) ((uI (y.1:Int)).tS)))::(71,.s (SF.imp ((((((rds N js fs).getD q.1 (0,0,0)).1:Nat):Int)==(way.getD (y.1-1) 0))=true) (wB (wC [.int .i64 (way.getD y.1 0)]).cf)))::(72,.s (SF.imp ((((((rds N js fs).getD q.1 (0,0,0)).1:Nat):Int)==(way.getD (y.1-1) 0))=true) ((uI (way.getD y.1 0)).tS)))::(73,.s (SF.imp ((((((rds N js fs).getD q.1 (0,0,0)).1:Nat):Int)==(way.getD (y.1-1) 0))=true) ((uB (((((rds N js fs).getD q.1 (0,0,0)).2.1:Nat):Int)==(way.getD y.1 0))).tS)))::(74,.Z (uB true))::(75,.Z (uB true))::(76,.Z (uB (q.2.isSome)))::(77,.Z (uB (!(q.2.isSome))))::(78,.Z (uB (!(q.2.isSome))))::(79,.s (SF.imp ((!(q.2.isSome))=false) ((UF.eq lr).tS)))::(80,.s (SF.imp ((!(q.2.isSome))=false) ((uI (q.1:Int)).tS)))::(81,.s (SF.imp ((!(q.2.isSome))=false) (wB (cg (fRd ((rds N js fs).getD q.1 (0,0,0)))))))::(82,.s (SF.imp ((!(q.2.isSome))=false) (wB ((CU.agg (fRd ((rds N js fs).getD q.1 (0,0,0)))).cf.at 2))))::(83,.s (SF.imp ((!(q.2.isSome))=false) ((fQN (((rds N js fs).getD q.1 (0,0,0)).2.2)).tS)))::(84,.s (SF.imp ((!(q.2.isSome))=false) ((fQN (q.2.getD 0)).tS)))::(85,.s (SF.imp ((!(q.2.isSome))=false) ((uI (qsg (((rds N js fs).getD q.1 (0,0,0)).2.2) (q.2.getD 0))).tS)))::(86,.s (SF.imp ((!(q.2.isSome))=false) ((uB (decide ((qsg (((rds N js fs).getD q.1 (0,0,0)).2.2) (q.2.getD 0))<0))).tS)))::(87,.Z (uB ((!(q.2.isSome))||(decide ((qsg (((rds N js fs).getD q.1 (0,0,0)).2.2) (q.2.getD 0))<0)))))::(88,.u (uB ((!(q.2.isSome))||(decide ((qsg (((rds N js fs).getD q.1 (0,0,0)).2.2) (q.2.getD 0))<0)))))::[]) s
       (oc zA<|oc zA<|oc (zL (z:=5) (Cs:=rqs (rds N js fs)) (i:=q.1) (C:=CU.agg (fRd ((rds N js fs).getD q.1 (0,0,0)))) kA (zBf h4) (y7 h6 s) iiz)<|oc (zO (C:=cg (fRd ((rds N js fs).getD q.1 (0,0,0)))) 0 kA)<|oc (yK (C:=cg (fRd ((rds N js fs).getD q.1 (0,0,0)))) (k:=0) kA (h:=zKy))<|oc zA<|oc zA<|oc (zAR .i64 (y.1:Int) 1 ((y.1-1:Nat):Int) iiz iiz (wrap64 _ _ oA oA))<|oc (zL (z:=1) (Cs:=ins way) (i:=(y.1-1)) (C:=wC [.int .i64 (way.getD (y.1-1) 0)]) kA (qC hR) (y7 O s) iiz)<|oc (z5 (C:=(wC [.int .i64 (way.getD (y.1-1) 0)]).cf) kA iiz yT)<|oc (zJ .i64 ((((rds N js fs).getD q.1 (0,0,0)).1:Nat):Int) (way.getD (y.1-1) 0) (((((rds N js fs).getD q.1 (0,0,0)).1:Nat):Int)==(way.getD (y.1-1) 0)) iiz iiz rfl rfl)<|oc zA<|oc (zB 63 (((((rds N js fs).getD q.1 (0,0,0)).1:Nat):Int)==(way.getD (y.1-1) 0)) kA iiz (fun e=>zI [] ((UF.eq lr).tS) fnz (fun _ _ h _=>h) kA zA) (fun e W h=>absurd h e))<|oc (zB 63 (((((rds N js fs).getD q.1 (0,0,0)).1:Nat):Int)==(way.getD (y.1-1) 0)) kA iiz (fun e=>zI [] ((uI (q.1:Int)).tS) fnz (fun _ _ h _=>h) kA zA) (fun e W h=>absurd h e))<|oc (zB 63 (((((rds N js fs).getD q.1 (0,0,0)).1:Nat):Int)==(way.getD (y.1-1) 0)) kA iiz (fun e=>zI [(64,(UF.eq lr).tS),(65,(uI (q.1:Int)).tS)] (wB (cg (fRd ((rds N js fs).getD q.1 (0,0,0))))) (sH (fun v W h=>zG (c:=(((((rds N js fs).getD q.1 (0,0,0)).1:Nat):Int)==(way.getD (y.1-1) 0))=true) (f:=(UF.eq lr).tS) e h)<|sH (fun v W h=>zG (c:=(((((rds N js fs).getD q.1 (0,0,0)).1:Nat):Int)==(way.getD (y.1-1) 0))=true) (f:=(uI (q.1:Int)).tS) e h) fnz) (fun _ _ h _=>h) kA (zL (z:=5) (Cs:=rqs (rds N js fs)) (i:=q.1) (C:=CU.agg (fRd ((rds N js fs).getD q.1 (0,0,0)))) kA (zBf h4) (y7 h6 s) iiz)) (fun e W h=>absurd h e))<|oc (zB 63 (((((rds N js fs).getD q.1 (0,0,0)).1:Nat):Int)==(way.getD (y.1-1) 0)) kA iiz (fun e=>zI [(66,wB (cg (fRd ((rds N js fs).getD q.1 (0,0,0)))))] (wB ((CU.agg (fRd ((rds N js fs).getD q.1 (0,0,0)))).cf.at 1)) (sH (fun v W h=>zG (c:=(((((rds N js fs).getD q.1 (0,0,0)).1:Nat):Int)==(way.getD (y.1-1) 0))=true) (f:=wB (cg (fRd ((rds N js fs).getD q.1 (0,0,0))))) e h) fnz) (fun _ _ h _=>h) kA (zO (C:=cg (fRd ((rds N js fs).getD q.1 (0,0,0)))) 1 kA)) (fun e W h=>absurd h e))<|oc (zB 63 (((((rds N js fs).getD q.1 (0,0,0)).1:Nat):Int)==(way.getD (y.1-1) 0)) kA iiz (fun e=>zI [(67,wB ((CU.agg (fRd ((rds N js fs).getD q.1 (0,0,0)))).cf.at 1))] ((uI ((((rds N js fs).getD q.1 (0,0,0)).2.1:Nat):Int)).tS) (sH (fun v W h=>zG (c:=(((((rds N js fs).getD q.1 (0,0,0)).1:Nat):Int)==(way.getD (y.1-1) 0))=true) (f:=wB ((CU.agg (fRd ((rds N js fs).getD q.1 (0,0,0)))).cf.at 1)) e h) fnz) (fun _ _ h _=>h) kA (yK (C:=cg (fRd ((rds N js fs).getD q.1 (0,0,0)))) (k:=1) kA (h:=zMT))) (fun e W h=>absurd h e))<|oc (zB 63 (((((rds N js fs).getD q.1 (0,0,0)).1:Nat):Int)==(way.getD (y.1-1) 0)) kA iiz (fun e=>zI [] ((UF.eq lw).tS) fnz (fun _ _ h _=>h) kA zA) (fun e W h=>absurd h e))<|oc (zB 63 (((((rds N js fs).getD q.1 (0,0,0)).1:Nat):Int)==(way.getD (y.1-1) 0)) kA iiz (fun e=>zI [] ((uI (y.1:Int)).tS) fnz (fun _ _ h _=>h) kA zA) (fun e W h=>absurd h e))<|oc (zB 63 (((((rds N js fs).getD q.1 (0,0,0)).1:Nat):Int)==(way.getD (y.1-1) 0)) kA iiz (fun e=>zI [(69,(UF.eq lw).tS),(70,(uI (y.1:Int)).tS)] (wB (wC [.int .i64 (way.getD y.1 0)]).cf) (sH (fun v W h=>zG (c:=(((((rds N js fs).getD q.1 (0,0,0)).1:Nat):Int)==(way.getD (y.1-1) 0))=true) (f:=(UF.eq lw).tS) e h)<|sH (fun v W h=>zG (c:=(((((rds N js fs).getD q.1 (0,0,0)).1:Nat):Int)==(way.getD (y.1-1) 0))=true) (f:=(uI (y.1:Int)).tS) e h) fnz) (fun _ _ h _=>h) kA (zL (z:=1) (Cs:=ins way) (i:=y.1) (C:=wC [.int .i64 (way.getD y.1 0)]) kA (qC he) (y7 O s) iiz)) (fun e W h=>absurd h e))<|oc (zB 63 (((((rds N js fs).getD q.1 (0,0,0)).1:Nat):Int)==(way.getD (y.1-1) 0)) kA iiz (fun e=>zI [(71,wB (wC [.int .i64 (way.getD y.1 0)]).cf)] ((uI (way.getD y.1 0)).tS) (sH (fun v W h=>zG (c:=(((((rds N js fs).getD q.1 (0,0,0)).1:Nat):Int)==(way.getD (y.1-1) 0))=true) (f:=wB (wC [.int .i64 (way.getD y.1 0)]).cf) e h) fnz) (fun _ _ h _=>h) kA (z5 (C:=(wC [.int .i64 (way.getD y.1 0)]).cf) kA iiz yT)) (fun e W h=>absurd h e))<|oc (zB 63 (((((rds N js fs).getD q.1 (0,0,0)).1:Nat):Int)==(way.getD (y.1-1) 0)) kA iiz (fun e=>zI [(68,(uI ((((rds N js fs).getD q.1 (0,0,0)).2.1:Nat):Int)).tS),(72,(uI (way.getD y.1 0)).tS)] ((uB (((((rds N js fs).getD q.1 (0,0,0)).2.1:Nat):Int)==(way.getD y.1 0))).tS) (sH (fun v W h=>zG (c:=(((((rds N js fs).getD q.1 (0,0,0)).1:Nat):Int)==(way.getD (y.1-1) 0))=true) (f:=(uI ((((rds N js fs).getD q.1 (0,0,0)).2.1:Nat):Int)).tS) e h)<|sH (fun v W h=>zG (c:=(((((rds N js fs).getD q.1 (0,0,0)).1:Nat):Int)==(way.getD (y.1-1) 0))=true) (f:=(uI (way.getD y.1 0)).tS) e h) fnz) (fun _ _ h _=>h) kA (zJ .i64 ((((rds N js fs).getD q.1 (0,0,0)).2.1:Nat):Int) (way.getD y.1 0) (((((rds N js fs).getD q.1 (0,0,0)).2.1:Nat):Int)==(way.getD y.1 0)) iiz iiz rfl rfl)) (fun e W h=>absurd h e))<|oc (zT (((((rds N js fs).getD q.1 (0,0,0)).1:Nat):Int)==(way.getD (y.1-1) 0)) iiz (fun e v W h=>(zG e h).trans (vX Value.bool (by have h7:=hc;rw[e,mN]at h7;exact h7))) (fun e v W h=>absurd hc (by rw[e];simp)))<|oc zA<|oc (zB 75 true kA iiz (fun _=>zA) arf)<|oc (zB 75 true kA iiz (fun _=>zAv (q.2.isSome) iiz (fun _=>rfl)) arf)<|oc (zB 75 true kA iiz (fun _=>zA) arf)<|oc (zB 78 (!(q.2.isSome)) kA iiz (fun e=>zI [] ((UF.eq lr).tS) fnz (fun _ _ h _=>h) kA zA) (fun e W h=>absurd h e))<|oc (zB 78 (!(q.2.isSome)) kA iiz (fun e=>zI [] ((uI (q.1:Int)).tS) fnz (fun _ _ h _=>h) kA zA) (fun e W h=>absurd h e))<|oc (zB 78 (!(q.2.isSome)) kA iiz (fun e=>zI [(79,(UF.eq lr).tS),(80,(uI (q.1:Int)).tS)] (wB (cg (fRd ((rds N js fs).getD q.1 (0,0,0))))) (sH (fun v W h=>zG (c:=(!(q.2.isSome))=false) (f:=(UF.eq lr).tS) e h)<|sH (fun v W h=>zG (c:=(!(q.2.isSome))=false) (f:=(uI (q.1:Int)).tS) e h) fnz) (fun _ _ h _=>h) kA (zL (z:=5) (Cs:=rqs (rds N js fs)) (i:=q.1) (C:=CU.agg (fRd ((rds N js fs).getD q.1 (0,0,0)))) kA (zBf h4) (y7 h6 s) iiz)) (fun e W h=>absurd h e))<|oc (zB 78 (!(q.2.isSome)) kA iiz (fun e=>zI [(81,wB (cg (fRd ((rds N js fs).getD q.1 (0,0,0)))))] (wB ((CU.agg (fRd ((rds N js fs).getD q.1 (0,0,0)))).cf.at 2)) (sH (fun v W h=>zG (c:=(!(q.2.isSome))=false) (f:=wB (cg (fRd ((rds N js fs).getD q.1 (0,0,0))))) e h) fnz) (fun _ _ h _=>h) kA (zO (C:=cg (fRd ((rds N js fs).getD q.1 (0,0,0)))) 2 kA)) (fun e W h=>absurd h e))<|oc (zB 78 (!(q.2.isSome)) kA iiz (fun e=>zI [(82,wB ((CU.agg (fRd ((rds N js fs).getD q.1 (0,0,0)))).cf.at 2))] ((fQN (((rds N js fs).getD q.1 (0,0,0)).2.2)).tS) (sH (fun v W h=>zG (c:=(!(q.2.isSome))=false) (f:=wB ((CU.agg (fRd ((rds N js fs).getD q.1 (0,0,0)))).cf.at 2)) e h) fnz) (fun _ _ h _=>h) kA (jS (C:=cg (fRd ((rds N js fs).getD q.1 (0,0,0)))) (k:=2) 3 kA (h:=zJc))) (fun e W h=>absurd h e))<|oc (zB 78 (!(q.2.isSome)) kA iiz (fun e=>zI [] ((fQN (q.2.getD 0)).tS) fnz (fun _ _ h _=>h) kA (yJ (f:=fQN (q.2.getD 0)) 3 kA (hz:=yV _))) (fun e W h=>absurd h e))<|oc (zB 78 (!(q.2.isSome)) kA iiz (fun e=>zI [(83,(fQN (((rds N js fs).getD q.1 (0,0,0)).2.2)).tS),(84,(fQN (q.2.getD 0)).tS)] ((uI (qsg (((rds N js fs).getD q.1 (0,0,0)).2.2) (q.2.getD 0))).tS) (sH (fun v W h=>zG (c:=(!(q.2.isSome))=false) (f:=(fQN (((rds N js fs).getD q.1 (0,0,0)).2.2)).tS) e h)<|sH (fun v W h=>zG (c:=(!(q.2.isSome))=false) (f:=(fQN (q.2.getD 0)).tS) e h) fnz) (fun _ _ h _=>h) kA (zW zD zOt (fun u0 u1 W J (h0:QNp (((rds N js fs).getD q.1 (0,0,0)).2.2) u0 W) (h1:QNp (q.2.getD 0) u1 W)=>zGa (m:=1) (wH h0 q6) (wH h1 hQ) dA dA))) (fun e W h=>absurd h e))<|oc (zB 78 (!(q.2.isSome)) kA iiz (fun e=>zI [(85,(uI (qsg (((rds N js fs).getD q.1 (0,0,0)).2.2) (q.2.getD 0))).tS)] ((uB (decide ((qsg (((rds N js fs).getD q.1 (0,0,0)).2.2) (q.2.getD 0))<0))).tS) (sH (fun v W h=>zG (c:=(!(q.2.isSome))=false) (f:=(uI (qsg (((rds N js fs).getD q.1 (0,0,0)).2.2) (q.2.getD 0))).tS) e h) fnz) (fun _ _ h _=>h) kA (zJ .i64 (qsg (((rds N js fs).getD q.1 (0,0,0)).2.2) (q.2.getD 0)) 0 (decide ((qsg (((rds N js fs).getD q.1 (0,0,0)).2.2) (q.2.getD 0))<0)) iiz iiz rfl rfl)) (fun e W h=>absurd h e))<|oc (zB 75 true kA iiz (fun _=>zT (!(q.2.isSome)) iiz (fun e v W h=>qH h e) (fun e v W h=>yX (zG e h) e)) arf)<|oc (zT true iiz (fun _ _ _ h=>h) sF)<|zC) fun a w15 s=>?_
      refine StS.cond s ((!(q.2.isSome))||(decide ((qsg (((rds N js fs).getD q.1 (0,0,0)).2.2) (q.2.getD 0))<0))) iiz (fun e=>?_) (fun e=>?_)
      .have hw:chR (way.getD (y.1-1) 0) (way.getD y.1 0) q.2 ((rds N js fs).getD q.1 (0,0,0))=some ((rds N js fs).getD q.1 (0,0,0)).2.2:=by
        obtain⟨k1,k2⟩:=rR.1 hc
        unfold chR
        rw[if_pos ⟨bH.1 k1,bH.1 k2⟩]
        cases ho:q.2 with
        |none=>rfl
        |some g=>
         have h7:=e
         rw[ho]at h7
         have hK:((rds N js fs).getD q.1 (0,0,0)).2.2<g:=by simpa[zDD]using h7
         show(if((rds N js fs).getD q.1 (0,0,0)).2.2<g then _ else _)=_
         rw[if_pos hK]
       refine fK<|rgK 5 ((89,.Z (UF.eq lr))::(90,.Z (uI (q.1:Int)))::(91,.Y (fRd ((rds N js fs).getD q.1 (0,0,0))))::(92,.X (fRd ((rds N js fs).getD q.1 (0,0,0))) 2)::(93,.u (fQN (((rds N js fs).getD q.1 (0,0,0)).2.2)))::[]) s
        (oc zA<|oc zA<|oc (zL (z:=5) (Cs:=rqs (rds N js fs)) (i:=q.1) (C:=CU.agg (fRd ((rds N js fs).getD q.1 (0,0,0)))) kA (zBf h4) (y7 h6 s) iiz)<|oc (zO (C:=cg (fRd ((rds N js fs).getD q.1 (0,0,0)))) 2 kA)<|oc (jS (C:=cg (fRd ((rds N js fs).getD q.1 (0,0,0)))) (k:=2) 3 kA (h:=zJc))<|zC) fun a w16 s=>zBs (CU.agg (fQN (((rds N js fs).getD q.1 (0,0,0)).2.2))) ((fQN (((rds N js fs).getD q.1 (0,0,0)).2.2)).tS) rfl s kA rfl rfl rfl (yV _) iiz yO fun a w s=>zF rfl ?_
       replace s:=s.drop [13]
       refine rgE ((13,.u (uB true))::[]) s
        (oc zE<|zC) fun a w17 s=>zP 2 ((50,.Z (uI (q.1:Int)))::(51,.u (uI ((q.1+1:Nat):Int)))::[]) s kA
        (oc zA<|oc (yL .i64 (q.1:Int) 1 ((q.1+1:Nat):Int) iiz iiz (wrap64 _ _ oA oA))<|zC) fun a w18 s=>?_
       replace s:=s.drop [15]
       exact yN (uI ((q.1+1:Nat):Int)) rfl s kA iiz fun a w s=>zF rfl<|⟨(q.1+1,some ((rds N js fs).getD q.1 (0,0,0)).2.2),(by show(rds N js fs).length-(q.1+1)<(rds N js fs).length-q.1;omega),h4,(by show _=((rds N js fs).take (q.1+1)).foldl _ _;rw[zAr _ _ (0,0,0) _ h4,<-hA];exact hw.symm),s.keepK _ (sH mz6<|sH mz7<|sH mz8<|sH mz9<|sH zC1<|sH mz2<|sH (.head _) fnz)⟩
      .have hw:chR (way.getD (y.1-1) 0) (way.getD y.1 0) q.2 ((rds N js fs).getD q.1 (0,0,0))=q.2:=by
        obtain⟨k1,k2⟩:=rR.1 hc
        unfold chR
        rw[if_pos ⟨bH.1 k1,bH.1 k2⟩]
        cases ho:q.2 with
        |none=>rw[ho]at e;simp at e
        |some g=>
         have h7:=e
         rw[ho]at h7
         have hK: ¬((rds N js fs).getD q.1 (0,0,0)).2.2<g:=by simpa[zDD]using h7
         show(if((rds N js fs).getD q.1 (0,0,0)).2.2<g then _ else _)=_
         rw[if_neg hK]
       refine nQ<|zP 2 ((50,.Z (uI (q.1:Int)))::(51,.u (uI ((q.1+1:Nat):Int)))::[]) s kA
        (oc zA<|oc (yL .i64 (q.1:Int) 1 ((q.1+1:Nat):Int) iiz iiz (wrap64 _ _ oA oA))<|zC) fun a w19 s=>?_
       replace s:=s.drop [15]
       exact yN (uI ((q.1+1:Nat):Int)) rfl s kA iiz fun a w s=>zF rfl<|⟨(q.1+1,q.2),(by show(rds N js fs).length-(q.1+1)<(rds N js fs).length-q.1;omega),h4,(by show _=((rds N js fs).take (q.1+1)).foldl _ _;rw[zAr _ _ (0,0,0) _ h4,<-hA];exact hw.symm),s.keepK _ (sH mz4<|sH mz5<|sH mz6<|sH mz7<|sH mz8<|sH mz9<|sH (.head _) fnz)⟩
     .refine rgE ((52,.Z (UF.eq lr))::(53,.Z (uI (q.1:Int)))::(54,.Y (fRd ((rds N js fs).getD q.1 (0,0,0))))::(55,.X (fRd ((rds N js fs).getD q.1 (0,0,0))) 0)::(56,.Z (uI ((((rds N js fs).getD q.1 (0,0,0)).1:Nat):Int)))::(57,.Z (UF.eq lw))::(58,.Z (uI (y.1:Int)))::(59,.Z (uI ((y.1-1:Nat):Int)))::(60,.s (wB (wC [.int .i64 (way.getD (y.1-1) 0)]).cf))::(61,.Z (uI (way.getD (y.1-1) 0)))::(62,.Z (uB (((((rds N js fs).getD q.1 (0,0,0)).1:Nat):Int)==(way.getD (y.1-1) 0))))::(63,.Z (uB (((((rds N js fs).getD q.1 (0,0,0)).1:Nat):Int)==(way.getD (y.1-1) 0))))::(64,.s (SF.imp ((((((rds N js fs).getD q.1 (0,0,0)).1:Nat):Int)==(way.getD (y.1-1) 0))=true) ((UF.eq lr).tS)))::(65,.s (SF.imp ((((((rds N js fs).getD q.1 (0,0,0)).1:Nat):Int)==(way.getD (y.1-1) 0))=true) ((uI (q.1:Int)).tS)))::(66,.s (SF.imp ((((((rds N js fs).getD q.1 (0,0,0)).1:Nat):Int)==(way.getD (y.1-1) 0))=true) (wB (cg (fRd ((rds N js fs).getD q.1 (0,0,0)))))))::(67,.s (SF.imp ((((((rds N js fs).getD q.1 (0,0,0)).1:Nat):Int)==(way.getD (y.1-1) 0))=true) (wB ((CU.agg (fRd ((rds N js fs).getD q.1 (0,0,0)))).cf.at 1))))::(68,.s (SF.imp ((((((rds N js fs).getD q.1 (0,0,0)).1:Nat):Int)==(way.getD (y.1-1) 0))=true) ((uI ((((rds N js fs).getD q.1 (0,0,0)).2.1:Nat):Int)).tS)))::(69,.s (SF.imp ((((((rds N js fs).getD q.1 (0,0,0)).1:Nat):Int)==(way.getD (y.1-1) 0))=true) ((UF.eq lw).tS)))::(70,.s (SF.imp ((((((rds N js fs).getD q.1 (0,0,0)).1:Nat):Int)==(way.getD (y.1-1) 0))=true) ((uI (y.1:Int)).tS)))::(71,.s (SF.imp ((((((rds N js fs).getD q.1 (0,0,0)).1:Nat):Int)==(way.getD (y.1-1) 0))=true) (wB (wC [.int .i64 (way.getD y.1 0)]).cf)))::(72,.s (SF.imp ((((((rds N js fs).getD q.1 (0,0,0)).1:Nat):Int)==(way.getD (y.1-1) 0))=true) ((uI (way.getD y.1 0)).tS)))::(73,.s (SF.imp ((((((rds N js fs).getD q.1 (0,0,0)).1:Nat):Int)==(way.getD (y.1-1) 0))=true) ((uB (((((rds N js fs).getD q.1 (0,0,0)).2.1:Nat):Int)==(way.getD y.1 0))).tS)))::(74,.Z (uB false))::(75,.Z (uB false))::(78,.Z (UF.eq undef))::(88,.u (uB false))::[]) s
       (oc zA<|oc zA<|oc (zL (z:=5) (Cs:=rqs (rds N js fs)) (i:=q.1) (C:=CU.agg (fRd ((rds N js fs).getD q.1 (0,0,0)))) kA (zBf h4) (y7 h6 s) iiz)<|oc (zO (C:=cg (fRd ((rds N js fs).getD q.1 (0,0,0)))) 0 kA)<|oc (yK (C:=cg (fRd ((rds N js fs).getD q.1 (0,0,0)))) (k:=0) kA (h:=zKy))<|oc zA<|oc zA<|oc (zAR .i64 (y.1:Int) 1 ((y.1-1:Nat):Int) iiz iiz (wrap64 _ _ oA oA))<|oc (zL (z:=1) (Cs:=ins way) (i:=(y.1-1)) (C:=wC [.int .i64 (way.getD (y.1-1) 0)]) kA (qC hR) (y7 O s) iiz)<|oc (z5 (C:=(wC [.int .i64 (way.getD (y.1-1) 0)]).cf) kA iiz yT)<|oc (zJ .i64 ((((rds N js fs).getD q.1 (0,0,0)).1:Nat):Int) (way.getD (y.1-1) 0) (((((rds N js fs).getD q.1 (0,0,0)).1:Nat):Int)==(way.getD (y.1-1) 0)) iiz iiz rfl rfl)<|oc zA<|oc (zB 63 (((((rds N js fs).getD q.1 (0,0,0)).1:Nat):Int)==(way.getD (y.1-1) 0)) kA iiz (fun e=>zI [] ((UF.eq lr).tS) fnz (fun _ _ h _=>h) kA zA) (fun e W h=>absurd h e))<|oc (zB 63 (((((rds N js fs).getD q.1 (0,0,0)).1:Nat):Int)==(way.getD (y.1-1) 0)) kA iiz (fun e=>zI [] ((uI (q.1:Int)).tS) fnz (fun _ _ h _=>h) kA zA) (fun e W h=>absurd h e))<|oc (zB 63 (((((rds N js fs).getD q.1 (0,0,0)).1:Nat):Int)==(way.getD (y.1-1) 0)) kA iiz (fun e=>zI [(64,(UF.eq lr).tS),(65,(uI (q.1:Int)).tS)] (wB (cg (fRd ((rds N js fs).getD q.1 (0,0,0))))) (sH (fun v W h=>zG (c:=(((((rds N js fs).getD q.1 (0,0,0)).1:Nat):Int)==(way.getD (y.1-1) 0))=true) (f:=(UF.eq lr).tS) e h)<|sH (fun v W h=>zG (c:=(((((rds N js fs).getD q.1 (0,0,0)).1:Nat):Int)==(way.getD (y.1-1) 0))=true) (f:=(uI (q.1:Int)).tS) e h) fnz) (fun _ _ h _=>h) kA (zL (z:=5) (Cs:=rqs (rds N js fs)) (i:=q.1) (C:=CU.agg (fRd ((rds N js fs).getD q.1 (0,0,0)))) kA (zBf h4) (y7 h6 s) iiz)) (fun e W h=>absurd h e))<|oc (zB 63 (((((rds N js fs).getD q.1 (0,0,0)).1:Nat):Int)==(way.getD (y.1-1) 0)) kA iiz (fun e=>zI [(66,wB (cg (fRd ((rds N js fs).getD q.1 (0,0,0)))))] (wB ((CU.agg (fRd ((rds N js fs).getD q.1 (0,0,0)))).cf.at 1)) (sH (fun v W h=>zG (c:=(((((rds N js fs).getD q.1 (0,0,0)).1:Nat):Int)==(way.getD (y.1-1) 0))=true) (f:=wB (cg (fRd ((rds N js fs).getD q.1 (0,0,0))))) e h) fnz) (fun _ _ h _=>h) kA (zO (C:=cg (fRd ((rds N js fs).getD q.1 (0,0,0)))) 1 kA)) (fun e W h=>absurd h e))<|oc (zB 63 (((((rds N js fs).getD q.1 (0,0,0)).1:Nat):Int)==(way.getD (y.1-1) 0)) kA iiz (fun e=>zI [(67,wB ((CU.agg (fRd ((rds N js fs).getD q.1 (0,0,0)))).cf.at 1))] ((uI ((((rds N js fs).getD q.1 (0,0,0)).2.1:Nat):Int)).tS) (sH (fun v W h=>zG (c:=(((((rds N js fs).getD q.1 (0,0,0)).1:Nat):Int)==(way.getD (y.1-1) 0))=true) (f:=wB ((CU.agg (fRd ((rds N js fs).getD q.1 (0,0,0)))).cf.at 1)) e h) fnz) (fun _ _ h _=>h) kA (yK (C:=cg (fRd ((rds N js fs).getD q.1 (0,0,0)))) (k:=1) kA (h:=zMT))) (fun e W h=>absurd h e))<|oc (zB 63 (((((rds N js fs).getD q.1 (0,0,0)).1:Nat):Int)==(way.getD (y.1-1) 0)) kA iiz (fun e=>zI [] ((UF.eq lw).tS) fnz (fun _ _ h _=>h) kA zA) (fun e W h=>absurd h e))<|oc (zB 63 (((((rds N js fs).getD q.1 (0,0,0)).1:Nat):Int)==(way.getD (y.1-1) 0)) kA iiz (fun e=>zI [] ((uI (y.1:Int)).tS) fnz (fun _ _ h _=>h) kA zA) (fun e W h=>absurd h e))<|oc (zB 63 (((((rds N js fs).getD q.1 (0,0,0)).1:Nat):Int)==(way.getD (y.1-1) 0)) kA iiz (fun e=>zI [(69,(UF.eq lw).tS),(70,(uI (y.1:Int)).tS)] (wB (wC [.int .i64 (way.getD y.1 0)]).cf) (sH (fun v W h=>zG (c:=(((((rds N js fs).getD q.1 (0,0,0)).1:Nat):Int)==(way.getD (y.1-1) 0))=true) (f:=(UF.eq lw).tS) e h)<|sH (fun v W h=>zG (c:=(((((rds N js fs).getD q.1 (0,0,0)).1:Nat):Int)==(way.getD (y.1-1) 0))=true) (f:=(uI (y.1:Int)).tS) e h) fnz) (fun _ _ h _=>h) kA (zL (z:=1) (Cs:=ins way) (i:=y.1) (C:=wC [.int .i64 (way.getD y.1 0)]) kA (qC he) (y7 O s) iiz)) (fun e W h=>absurd h e))<|oc (zB 63 (((((rds N js fs).getD q.1 (0,0,0)).1:Nat):Int)==(way.getD (y.1-1) 0)) kA iiz (fun e=>zI [(71,wB (wC [.int .i64 (way.getD y.1 0)]).cf)] ((uI (way.getD y.1 0)).tS) (sH (fun v W h=>zG (c:=(((((rds N js fs).getD q.1 (0,0,0)).1:Nat):Int)==(way.getD (y.1-1) 0))=true) (f:=wB (wC [.int .i64 (way.getD y.1 0)]).cf) e h) fnz) (fun _ _ h _=>h) kA (z5 (C:=(wC [.int .i64 (way.getD y.1 0)]).cf) kA iiz yT)) (fun e W h=>absurd h e))<|oc (zB 63 (((((rds N js fs).getD q.1 (0,0,0)).1:Nat):Int)==(way.getD (y.1-1) 0)) kA iiz (fun e=>zI [(68,(uI ((((rds N js fs).getD q.1 (0,0,0)).2.1:Nat):Int)).tS),(72,(uI (way.getD y.1 0)).tS)] ((uB (((((rds N js fs).getD q.1 (0,0,0)).2.1:Nat):Int)==(way.getD y.1 0))).tS) (sH (fun v W h=>zG (c:=(((((rds N js fs).getD q.1 (0,0,0)).1:Nat):Int)==(way.getD (y.1-1) 0))=true) (f:=(uI ((((rds N js fs).getD q.1 (0,0,0)).2.1:Nat):Int)).tS) e h)<|sH (fun v W h=>zG (c:=(((((rds N js fs).getD q.1 (0,0,0)).1:Nat):Int)==(way.getD (y.1-1) 0))=true) (f:=(uI (way.getD y.1 0)).tS) e h) fnz) (fun _ _ h _=>h) kA (zJ .i64 ((((rds N js fs).getD q.1 (0,0,0)).2.1:Nat):Int) (way.getD y.1 0) (((((rds N js fs).getD q.1 (0,0,0)).2.1:Nat):Int)==(way.getD y.1 0)) iiz iiz rfl rfl)) (fun e W h=>absurd h e))<|oc (zT (((((rds N js fs).getD q.1 (0,0,0)).1:Nat):Int)==(way.getD (y.1-1) 0)) iiz (fun e v W h=>(zG e h).trans (vX Value.bool (by have h7:=hc;rw[e,mN]at h7;exact h7))) (fun e v W h=>h))<|oc zA<|oc (zB 75 false kA iiz sF (fun _ _=>trivial))<|oc (zB 75 false kA iiz sF (fun _ _=>trivial))<|oc (zB 75 false kA iiz sF (fun _ _=>rfl))<|oc (yH 78 undef kA iiz sF (fun _=>trivial))<|oc (yH 78 undef kA iiz sF (fun _=>trivial))<|oc (yH 78 undef kA iiz sF (fun _=>trivial))<|oc (yH 78 undef kA iiz sF (fun _=>trivial))<|oc (yH 78 undef kA iiz sF (fun _=>trivial))<|oc (yH 78 undef kA iiz sF (fun _=>trivial))<|oc (yH 78 undef kA iiz sF (fun _=>trivial))<|oc (yH 78 undef kA iiz sF (fun _=>trivial))<|oc (zB 75 false kA iiz sF (fun _ _=>trivial))<|oc (zT false iiz sF (fun _ _ _ h=>h))<|zC) fun a w20 s=>?_
      refine StS.cond s false iiz sF (fun e=>?_)
      refine nQ<|zP 2 ((50,.Z (uI (q.1:Int)))::(51,.u (uI ((q.1+1:Nat):Int)))::[]) s kA
       (oc zA<|oc (yL .i64 (q.1:Int) 1 ((q.1+1:Nat):Int) iiz iiz (wrap64 _ _ oA oA))<|zC) fun a w21 s=>?_
      replace s:=s.drop [15]
      refine yN (uI ((q.1+1:Nat):Int)) rfl s kA iiz fun a w s=>zF rfl ?_
      have hw:chR (way.getD (y.1-1) 0) (way.getD y.1 0) q.2 ((rds N js fs).getD q.1 (0,0,0))=q.2:=by
       unfold chR
       rw[if_neg]
       intro hh
       rw[bH.2 hh.1,bH.2 hh.2]at hc
       cases hc
      exact⟨(q.1+1,q.2),(by show(rds N js fs).length-(q.1+1)<(rds N js fs).length-q.1;omega),h4,(by show _=((rds N js fs).take (q.1+1)).foldl _ _;rw[zAr _ _ (0,0,0) _ h4,<-hA];exact hw.symm),s.keepK _ (sH mz4<|sH mz5<|sH mz6<|sH mz7<|sH mz8<|sH mz9<|sH (.head _) fnz)⟩
    .have q3:q.1=(rds N js fs).length:=by have h7:=mB e;simp only[xT]at h7;omega
     have hU:q.2=ch (grE N js fs) (way.getD (y.1-1) 0).toNat (way.getD y.1 0):=by rw[hA,q3,pA,hS]
     refine rG<|fK<|rgQ ((94,.Z (uB (q.2.isSome)))::(95,.u (uB (!(q.2.isSome))))::[]) s
      (oc zA<|oc (zAv (q.2.isSome) iiz (fun _=>rfl))<|zC) fun a w22 s=>StS.cond s (!(q.2.isSome)) iiz (fun e=>?_) (fun e=>?_)
     .have q5:q.2=none:=by simpa using e
      have h9:wkR (grE N js fs) N way=(0,false):=zEb (i:=y.1+1) (by rw[zCg hl,if_pos hJ,if_neg hz,<-hU,q5];rfl) he
      refine fK ?_
      have hI:b8<_:=h8.lt
      have hn_b14:b8<hn:=by have:=s.inB_new (q:=hn) ⟨_,.head _,rfl,rfl⟩;omega
      have hs:b8<h3:=by have:=s.inB_new (q:=h3) ⟨_,mz1,rfl,rfl⟩;omega
      replace s:StS _ _ _ [⟨14,32,CU.agg (fQN (q.2.getD 0)),hn,true⟩,⟨11,32,CU.agg (fQN (y.2)),h3,true⟩] _ _ _ _:=s.freeze
      have hg:∀q_,q_∈([⟨14,32,CU.agg (fQN (q.2.getD 0)),hn,true⟩,⟨11,32,CU.agg (fQN (y.2)),h3,true⟩]:List Bx)-> ¬q_.b=b8:=fmz ⟨(by show ¬hn=b8;omega),sH (by show ¬h3=b8;omega) fnz⟩
      refine rgK 1 ((96,.u (fQN 0))::[]) s
       (oc (zK zD zFe (fun u0 W J (h0:u0=.int .i64 0)=>zCZ h0))<|zC) fun a w23 s=>?_
      have J:=s.below
      replace I:=I.trans (J.mono I.size)
      replace O:=(SF.row 1 (ins way)).st _ _ _ O J
      replace h8:=h8.below J
      replace h6:=(SF.row 5 (rqs (rds N js fs))).st _ _ _ h6 J
      refine zAF (g:=b8) (i:=0) (cap:=1) (z:=3) (e:=32) (CU.agg (fQN 0)) rfl s rfl rfl h8 eN kA (s.fct (.tmp 8)) (zBS (s.fct (.tmp 96))) (fun q_ hq=>hg q_ hq) fun w hy hX h8 s=>?_
      replace I:=yD I hy (fun q hq=>by rw[hq];exact hL)
      refine yN (uB false) rfl s kA iiz fun a w s=>zF rfl<|nR ?_
      have J:=s.below
      replace I:=I.trans (J.mono I.size)
      replace h8:=h8.below J
      replace s:=s.popB
      replace s:=s.popB
      replace s:=s.anewB rfl rfl
      obtain⟨c8,g1,g2,g3⟩:=zCU h8
      replace s:=s.home rfl rfl I
      exact wU s rfl kA (s.fct (.tmp 8)) g1 g2 ⟨_,_,rfl,by rw[h9];exact g3,by rw[h9];exact s.fct (.tmp 9)⟩
     .obtain⟨far,hfar⟩:∃g,q.2=some g:=Option.isSome_iff_exists.1 (by simpa using e)
      have hV:QB far 1:=by have h7:=hQ;rw[hfar]at h7;exact h7
      have hD:zD1 (grE N js fs) N way (y.1+1)=some (y.2+far):=by rw[zCg hl,if_pos hJ,if_neg hz,<-hU,hfar];rfl
      have hqx:QB (y.2+far) 1:=zM2 hB oA hD
      rw[hfar]at s
      replace s:StS _ _ _ [⟨14,32,CU.agg (fQN far),hn,false⟩,⟨11,32,CU.agg (fQN (y.2)),h3,false⟩] _ _ _ _:=s
      refine nQ<|rgK 4 ((97,.Z (fQN (y.2)))::(98,.Z (fQN far))::(99,.s (SF.row 3 (rvs 1 [y.2,far])))::(100,.u (fQN (y.2+far)))::[]) s
       (oc (yJ (f:=fQN (y.2)) 3 kA (hz:=yV _))<|oc (yJ (f:=fQN far) 3 kA (hz:=yV _))<|oc (y8 (fun u v W (hu:QNp (y.2) u W) (hv:QNp far v W)=>zKY (m:=1) (wH hu hO) (wH hv hV)))<|oc (zK zD zQZ (fun u0 W J (h0:(SF.row 3 (rvs 1 [y.2,far])).p u0 W)=>zGb (m:=1) (p:=y.2) (q:=far) h0 hO hV dA))<|zC) fun a w24 s=>zBs (CU.agg (fQN (y.2+far))) ((fQN (y.2+far)).tS) rfl s kA rfl rfl rfl (yV _) iiz yO fun a w s=>zF rfl<|zP 2 ((27,.Z (uI (y.1:Int)))::(28,.u (uI ((y.1+1:Nat):Int)))::[]) s kA
       (oc zA<|oc (yL .i64 (y.1:Int) 1 ((y.1+1:Nat):Int) iiz iiz (wrap64 _ _ oA oA))<|zC) fun a w25 s=>?_
      replace s:=s.drop [12]
      refine yN (uI ((y.1+1:Nat):Int)) rfl s kA iiz fun a w s=>zF rfl ?_
      replace s:=s.popB
      exact⟨(y.1+1,y.2+far),(by show way.length-(y.1+1)<way.length-y.1;omega),he,hD,s.keepK _ (sH mz5<|sH mz6<|sH mz7<|sH mz8<|sH (.head _) fnz)⟩
 .have qg:y.1=way.length:=by have h7:=mB e;simp only[xT]at h7;omega
  refine rG<|fK ?_
  have hI:b8<_:=h8.lt
  have hs:b8<h3:=by have:=s.inB_new (q:=h3) ⟨_,.head _,rfl,rfl⟩;omega
  replace s:StS _ _ _ [⟨11,32,CU.agg (fQN (y.2)),h3,true⟩] _ _ _ _:=s.freeze
  have hg:∀q_,q_∈([⟨11,32,CU.agg (fQN (y.2)),h3,true⟩]:List Bx)-> ¬q_.b=b8:=fmz ⟨(by show ¬h3=b8;omega),fnz⟩
  refine rgK 4 ((101,.u (fQN (y.2)))::(102,.Z (UF.eq lw))::(103,.Z (uI ((ins way).length:Int)))::(104,.u (uB (decide (0<way.length))))::[]) s
   (oc (yJ (f:=fQN (y.2)) 3 kA (hz:=yV _))<|oc zA<|oc (qZ (z:=1) (Cs:=ins way) kA (y7 O s) (fun _=>rfl))<|oc (zJ .i64 ((ins way).length:Int) 0 (decide (0<way.length)) iiz iiz eN rfl)<|zC) fun a w26 s=>?_
  have J:=s.below
  replace I:=I.trans (J.mono I.size)
  replace O:=(SF.row 1 (ins way)).st _ _ _ O J
  replace h8:=h8.below J
  replace h6:=(SF.row 5 (rqs (rds N js fs))).st _ _ _ h6 J
  refine zAF (g:=b8) (i:=0) (cap:=1) (z:=3) (e:=32) (CU.agg (fQN (y.2))) rfl s rfl rfl h8 eN kA (s.fct (.tmp 8)) (zBS (s.fct (.tmp 101))) (fun q_ hq=>hg q_ hq) fun w hy hX h8 s=>?_
  replace I:=yD I hy (fun q hq=>by rw[hq];exact hL)
  refine yN (uB (decide (0<way.length))) rfl s kA iiz fun a w s=>zF rfl<|nR ?_
  have J:=s.below
  replace I:=I.trans (J.mono I.size)
  replace h8:=h8.below J
  replace s:=s.popB
  replace s:=s.anewB rfl rfl
  obtain⟨c8,g1,g2,g3⟩:=zCU h8
  replace s:=s.home rfl rfl I
  have h9:wkR (grE N js fs) N way=(y.2,decide (0<way.length)):=zIG (by rw[<-qg];exact hl)
  exact wU s rfl kA (s.fct (.tmp 8)) g1 g2 ⟨_,_,rfl,by rw[h9];exact g3,by rw[h9];exact s.fct (.tmp 9)⟩
def zFc(N k:Nat):List Int:=((List.range k).map fun i:Nat=>(i:Int))++List.replicate (N-k) 0
theorem zMj(h:k<=N):(zFc N k).length=N:=by simp[zFc];omega
theorem zMi(h:k<N):(zFc N k).set k (k:Int)=zFc N (k+1):=by
 unfold zFc
 have e:N-k=(N-(k+1))+1:=oA
 rw[e,pK,lC _ _ eN,eU]
 simp
theorem zMk(N:Nat):zFc N N=(List.range N).map fun i:Nat=>(i:Int):=by simp[zFc]
theorem zQE{rs:List (Nat×Nat×Rat)}{p:List Int×Bool}(hr:∀r,r∈rs->r.1<N/\r.2.1<N/\r.2∈E r.1)(J:LV28 E N l)(hp:p=rs.foldl lbT (l,false)):LV28 E N p.1/\(p.2=false->∀r,r∈rs-> ¬p.1.getD r.1 0<p.1.getD r.2.1 0)/\zE2 p.1*2+p.2.toNat<zE2 l*2+1:=by
 subst hp
 obtain⟨h1,h,h3⟩:=zL1 rs (st:=(l,false)) hr J
 rcases h with h|⟨h,I⟩
 .have O:=h3 h rfl
  rw[h]
  exact⟨J,fun _=>O,by show zE2 l*2+0<_;omega⟩
 .refine⟨h1,fun e=>(by rw[h]at e;cases e),?_⟩
  rw[h]
  have h5:zE2 (rs.foldl lbT (l,false)).1<zE2 l:=I
  show zE2 (rs.foldl lbT (l,false)).1*2+1<_
  omega
theorem zJa:∀r,r∈rds N js fs->r.1<N/\r.2.1<N/\r.2∈grE N js fs r.1:=fun r h=>by
 obtain⟨J,I,_⟩:=zHd (a:=r.1) (b:=r.2.1) (f:=r.2.2) h
 exact⟨J,I,zAH.2 h⟩
theorem zIh(hu:u=.int .i64 n)(hj:(SF.row 2 (jns js)).p lj W)(hF:min (max n 0) 131072=(N:Int))(hNs:N<=20)(hjl:js.length<=61)(hT:Tab W):Calls prog 24 #[u,lj] W (Ret W (fLb W (grE N js []) N)):=by
 have I:Below W.heap.size W W:=xF _ _
 have h4:=hj
 refine y2 [(uI n).tS,(UF.eq lj).tS] func24 rfl kA ⟨hu,rfl,trivial⟩ fun a s=>?_
 replace s:=s.renew [(0,.u (uI n)),(1,.u (UF.eq lj))] (sH (.inr ⟨_,rfl,.head _⟩)<|sH (.inr ⟨_,rfl,mz1⟩) fnz)
 refine rgQ ((4,.u (UF.eq (.slice none 0 0)))::[]) s
  (oc zE<|zC) fun a w1 s=>?_
 have O:=s.below
 replace I:=I.trans (O.mono I.size)
 replace h4:=(SF.row 2 (jns js)).st _ _ _ h4 O
 replace s:=s.anewB rfl rfl
 refine fK<|zP 2 ((10,.Z (uI n))::(11,.u (uI (N:Int)))::[]) s kA
  (oc zA<|oc (zK zD zOs (fun u0 W O (h0:u0=.int .i64 n)=>zCD h0 hF))<|zC) fun a w2 s=>?_
 replace s:=s.drop [0]
 refine yN (uI (N:Int)) rfl s kA iiz fun a w s=>zF rfl ?_
 have O:=s.below
 replace I:=I.trans (O.mono I.size)
 replace h4:=(SF.row 2 (jns js)).st _ _ _ h4 O
 replace s:=s.anewB rfl rfl
 refine fK<|rgK 1 ((12,.u (uI (N:Int)))::[]) s
  (oc zA<|zC) fun a w3 s=>?_
 have O:=s.below
 replace I:=I.trans (O.mono I.size)
 replace h4:=(SF.row 2 (jns js)).st _ _ _ h4 O
 refine zJW (nn:=N) (z:=1) (e:=3) (zs:=[.int .i64 0]) (wC [.int .i64 0]) s rfl kA kA kA rfl rfl oA (fun W=>rfl) (s.fct (.tmp 12)) (s.fct (.tmp 12)) fun gl a w hL O hD s=>?_
 have hm:W.heap.size<=gl:=by rw[hL];exact I.size
 replace I:=I.trans (O.mono I.size)
 replace h4:=(SF.row 2 (jns js)).st _ _ _ h4 O
 replace hD:q9 w gl 3 1 N (ins (zFc N 0)):=by unfold ins zFc;simpa using hD
 refine yN (UF.eq (.slice (some ⟨gl,0,none⟩) N N)) rfl s kA iiz fun a w s=>zF rfl ?_
 have O:=s.below
 replace I:=I.trans (O.mono I.size)
 replace h4:=(SF.row 2 (jns js)).st _ _ _ h4 O
 replace hD:=hD.below O
 replace s:=s.anewB rfl rfl
 refine fK<|rgQ ((6,.u (uI 0))::[]) s
  (oc zE<|zC) fun a w4 s=>?_
 have O:=s.below
 replace I:=I.trans (O.mono I.size)
 replace h4:=(SF.row 2 (jns js)).st _ _ _ h4 O
 replace hD:=hD.below O
 replace s:=s.anewB rfl rfl
 refine rF<|yC (fun(y:Nat) a w=>y<=N/\Below W.heap.size W w/\(SF.row 2 (jns js)).p lj w/\q9 w gl 3 1 N (ins (zFc N y))/\St w [(0,.u (uI (N:Int))),(1,.u (UF.eq lj)),(5,.u (UF.eq (.slice (some ⟨gl,0,none⟩) N N))),(6,.u (uI ((y:Nat):Int)))] [] f24.ntmps [] a w) (fun y=>N-y) 0 ⟨vS _,I,h4,hD,s.keepK _ (sH mz4<|sH mz7<|sH mz1<|sH (.head _) fnz)⟩ fun y a w hx=>?_
 clear I hD h4
 obtain⟨hk,I,h4,hD,s⟩:=hx
 refine fK<|rgQ ((14,.Z (uI (y:Int)))::(15,.Z (uI (N:Int)))::(16,.u (uB (decide ((y:Int)<(N:Int)))))::[]) s
  (oc zA<|oc zA<|oc (zJ .i64 (y:Int) (N:Int) (decide ((y:Int)<(N:Int))) iiz iiz rfl rfl)<|zC) fun a w5 s=>?_
 have O:=s.below
 replace I:=I.trans (O.mono I.size)
 replace h4:=(SF.row 2 (jns js)).st _ _ _ h4 O
 replace hD:=hD.below O
 replace s:=s.anewB rfl rfl
 refine StS.cond s (decide ((y:Int)<(N:Int))) iiz (fun e=>?_) (fun e=>?_)
 .have h5:y<N:=by have:=xW e;omega
  have hM:y<(zFc N y).length:=by rw[zMj hk];exact h5
  refine nQ<|fK<|rF<|rgK 3 ((19,.u (UF.eq (.slice (some ⟨gl,0,none⟩) N N)))::(20,.u (uI (y:Int)))::(21,.u (uI (y:Int)))::[]) s
   (oc zA<|oc zA<|oc zA<|zC) fun a w6 s=>zBD (UF.eq (.pointer (some ⟨gl,y*1,none⟩))) rfl s kA (qQ (z:=1) (g:=gl) (nn:=N) (cap:=N) (i:=y) kA h5 iiz iiz) kA fun a w s=>?_
  have O:=s.below
  replace I:=I.trans (O.mono I.size)
  replace h4:=(SF.row 2 (jns js)).st _ _ _ h4 O
  replace hD:=hD.below O
  refine zAF (g:=gl) (i:=y) (cap:=N) (z:=1) (e:=3) (wC [.int .i64 (y:Int)]) rfl s rfl rfl hD (by simpa using hM) kA (s.fct (.tmp 22)) (jY (s.fct (.tmp 21)) rfl rfl rfl) (fun q hq=>by cases hq) fun w hc hv hn s=>?_
  have hs:=I
  replace I:=yD I hc (fun q hq=>by rw[hq];exact hm)
  replace h4:=(SF.row 2 (jns js)).st _ _ _ hj I
  replace hD:=hn
  rw[zBA]at hD
  refine zF rfl ?_
  have O:=s.below
  replace I:=I.trans (O.mono I.size)
  replace h4:=(SF.row 2 (jns js)).st _ _ _ h4 O
  replace hD:=hD.below O
  replace s:=s.anewB rfl rfl
  refine zP 2 ((17,.Z (uI (y:Int)))::(18,.u (uI ((y+1:Nat):Int)))::[]) s kA
   (oc zA<|oc (yL .i64 (y:Int) 1 ((y+1:Nat):Int) iiz iiz (wrap64 _ _ oA oA))<|zC) fun a w7 s=>?_
  replace s:=s.drop [6]
  refine yN (uI ((y+1:Nat):Int)) rfl s kA iiz fun a w s=>zF rfl ?_
  have O:=s.below
  replace I:=I.trans (O.mono I.size)
  replace h4:=(SF.row 2 (jns js)).st _ _ _ h4 O
  replace hD:=hD.below O
  replace s:=s.anewB rfl rfl
  exact⟨y+1,(by show N-(y+1)<N-y;omega),h5,I,h4,(by rw[<-zMi h5];exact hD),s.keepK _ (sH mz7<|sH mz8<|sH mz9<|sH (.head _) fnz)⟩
 .have h5:y=N:=by have:=mB e;omega
  rw[h5,zMk]at hD
  refine rG<|fK<|rgN ((23,.Z (uI (N:Int)))::(24,.Z (UF.eq lj))::(25,.s (wD w5 59 5 (rqs (rds N js []))))::(7,.s (wD w5 59 5 (rqs (rds N js []))))::[]) s
   (oc zA<|oc zA<|oc (zBn zD zOr (fun u0 u1 u2 W O (h0:u0=.int .i64 (N:Int)) (h1:u1=lj) (h2:u2=.slice none 0 0)=>(zCC (fs:=[]) h0 (zAa h4 h1 (s.up O)) (by rw[h2];exact y9.row (y9.nil _ W.heap.size 32 3)) oA oA ((hT.below I).below (s.up O))).mono (wF (fun v W h=>y9.mono h (s.up O).size))))<|oc zE<|zC) fun a w8 s hr=>?_
  obtain⟨lr,e7⟩:∃v,a.tmps.getD 7 undef=v:=⟨_,rfl⟩
  have hy:=(hr (_,_) mz3)
  rw[show a.tmps.getD _ undef=lr from e7]at hy
  have J:=hy.mono (vS _)
  replace s:=s.learn 7 _ e7
  have O:=s.below
  replace I:=I.trans (O.mono I.size)
  replace h4:=(SF.row 2 (jns js)).st _ _ _ h4 O
  replace hD:=hD.below O
  replace s:=s.anewB rfl rfl
  refine fK<|rgQ ((8,.u (uB true))::[]) s
   (oc zE<|zC) fun a w9 s=>?_
  have O:=s.below
  replace I:=I.trans (O.mono I.size)
  replace hD:=hD.below O
  replace J:=J.below O
  replace s:=s.anewB rfl rfl
  refine rF ?_
  skip
  refine yC (fun(y:List Int×Bool) a w=>LV28 (grE N js []) N y.1/\(y.2=false->∀r,r∈(rds N js [])-> ¬y.1.getD r.1 0<y.1.getD r.2.1 0)/\Below W.heap.size W w/\y9 w 0 59 5 lr (rqs (rds N js []))/\q9 w gl 3 1 N (ins y.1)/\St w [(5,.u (UF.eq (.slice (some ⟨gl,0,none⟩) N N))),(7,.u (UF.eq lr)),(8,.u (uB (y.2)))] [] f24.ntmps [] a w) (fun y=>zE2 y.1*2+y.2.toNat) ((List.range N).map fun i:Nat=>(i:Int),true) ⟨LV28.begin _ _,sF,I,J,hD,s.keepK _ (sH mz5<|sH mz1<|sH (.head _) fnz)⟩ fun y a w hx=>?_
  clear I hD J
  obtain⟨hV,hC,I,J,hD,s⟩:=hx
  refine fK<|rgQ ((26,.u (uB (y.2)))::[]) s
   (oc zA<|zC) fun a w10 s=>?_
  have O:=s.below
  replace I:=I.trans (O.mono I.size)
  replace hD:=hD.below O
  replace J:=J.below O
  replace s:=s.anewB rfl rfl
  refine StS.cond s (y.2) iiz (fun e=>?_) (fun e=>?_)
  .have hl:y.2=true:=e
   refine nQ<|rF<|fK ?_
   replace s:=s.drop [8]
   refine rgE ((8,.u (uB false))::[]) s
    (oc zE<|zC) fun a w11 s=>?_
   have O:=s.below
   replace I:=I.trans (O.mono I.size)
   replace hD:=hD.below O
   replace J:=J.below O
   replace s:=s.anewB rfl rfl
   refine rgQ ((9,.u (uI 0))::[]) s
    (oc zE<|zC) fun a w12 s=>?_
   have O:=s.below
   replace I:=I.trans (O.mono I.size)
   replace hD:=hD.below O
   replace J:=J.below O
   replace s:=s.anewB rfl rfl
   refine rF<|yC (fun(q:Nat×List Int×Bool) a w=>q.1<=(rds N js []).length/\q.2=((rds N js []).take q.1).foldl lbT (y.1,false)/\LV28 (grE N js []) N q.2.1/\Below W.heap.size W w/\y9 w 0 59 5 lr (rqs (rds N js []))/\q9 w gl 3 1 N (ins q.2.1)/\St w [(5,.u (UF.eq (.slice (some ⟨gl,0,none⟩) N N))),(7,.u (UF.eq lr)),(8,.u (uB (q.2.2))),(9,.u (uI (q.1:Int)))] [] f24.ntmps [] a w) (fun q=>(rds N js []).length-q.1) (0,y.1,false) ⟨vS _,rfl,hV,I,J,hD,s.keepK _ (sH mz3<|sH mz4<|sH mz1<|sH (.head _) fnz)⟩ fun q a w hx=>?_
   clear I hD J
   obtain⟨hkq,he,h8,I,J,hD,s⟩:=hx
   refine fK<|rgQ ((27,.Z (uI (q.1:Int)))::(28,.Z (UF.eq lr))::(29,.Z (uI ((rqs (rds N js [])).length:Int)))::(30,.u (uB (decide ((q.1:Int)<((rqs (rds N js [])).length:Int)))))::[]) s
    (oc zA<|oc zA<|oc (qZ (z:=5) (Cs:=rqs (rds N js [])) kA (fun v W O h=>(by rw[show _=lr from h];exact(SF.row 5 (rqs (rds N js []))).st _ _ _ (y9.row J) (s.up O))) (fun _=>rfl))<|oc (zJ .i64 (q.1:Int) ((rqs (rds N js [])).length:Int) (decide ((q.1:Int)<((rqs (rds N js [])).length:Int))) iiz iiz rfl rfl)<|zC) fun a w13 s=>?_
   have O:=s.below
   replace I:=I.trans (O.mono I.size)
   replace hD:=hD.below O
   replace J:=J.below O
   replace s:=s.anewB rfl rfl
   refine StS.cond s (decide ((q.1:Int)<((rqs (rds N js [])).length:Int))) iiz (fun e=>?_) (fun e=>?_)
   .have h5:q.1<(rds N js []).length:=by have h7:=xW e;simp only[xT]at h7;omega
    have hI:((rds N js []).getD q.1 (0,0,0))∈(rds N js []):=by rw[nX,mD h5];exact uO h5
    have h6:=zJa ((rds N js []).getD q.1 (0,0,0)) hI
    have hK:((rds N js []).getD q.1 (0,0,0)).1<N:=h6.1
    have ht:((rds N js []).getD q.1 (0,0,0)).2.1<N:=h6.2.1
    have ho:((rds N js []).getD q.1 (0,0,0)).1<q.2.1.length:=by rw[h8.ln];exact hK
    have hw:((rds N js []).getD q.1 (0,0,0)).2.1<q.2.1.length:=by rw[h8.ln];exact ht
    have hrlen:=zBN N js [] js.length
    have hkb:(rds N js []).length<=122:=by unfold rds;omega
    refine nQ<|fK<|rF<|fK ?_
    have hd:=hD.row (n:=N) (by simp[h8.ln])
    refine rgE ((33,.Z (UF.eq (.slice (some ⟨gl,0,none⟩) N N)))::(34,.Z (UF.eq lr))::(35,.Z (uI (q.1:Int)))::(36,.Y (fRd ((rds N js []).getD q.1 (0,0,0))))::(37,.X (fRd ((rds N js []).getD q.1 (0,0,0))) 0)::(38,.Z (uI ((((rds N js []).getD q.1 (0,0,0)).1:Nat):Int)))::(39,.s (wB (wC [.int .i64 (q.2.1.getD ((rds N js []).getD q.1 (0,0,0)).1 0)]).cf))::(40,.Z (uI (q.2.1.getD ((rds N js []).getD q.1 (0,0,0)).1 0)))::(41,.Z (UF.eq (.slice (some ⟨gl,0,none⟩) N N)))::(42,.Z (UF.eq lr))::(43,.Z (uI (q.1:Int)))::(44,.Y (fRd ((rds N js []).getD q.1 (0,0,0))))::(45,.X (fRd ((rds N js []).getD q.1 (0,0,0))) 1)::(46,.Z (uI ((((rds N js []).getD q.1 (0,0,0)).2.1:Nat):Int)))::(47,.s (wB (wC [.int .i64 (q.2.1.getD ((rds N js []).getD q.1 (0,0,0)).2.1 0)]).cf))::(48,.Z (uI (q.2.1.getD ((rds N js []).getD q.1 (0,0,0)).2.1 0)))::(49,.u (uB (decide ((q.2.1.getD ((rds N js []).getD q.1 (0,0,0)).1 0)<(q.2.1.getD ((rds N js []).getD q.1 (0,0,0)).2.1 0)))))::[]) s
     (oc zA<|oc zA<|oc zA<|oc (zL (z:=5) (Cs:=rqs (rds N js [])) (i:=q.1) (C:=CU.agg (fRd ((rds N js []).getD q.1 (0,0,0)))) kA (zBf h5) (fun v W O h=>(by rw[show _=lr from h];exact(SF.row 5 (rqs (rds N js []))).st _ _ _ (y9.row J) (s.up O))) iiz)<|oc (zO (C:=cg (fRd ((rds N js []).getD q.1 (0,0,0)))) 0 kA)<|oc (yK (C:=cg (fRd ((rds N js []).getD q.1 (0,0,0)))) (k:=0) kA (h:=zKy))<|oc (zL (z:=1) (Cs:=ins q.2.1) (i:=((rds N js []).getD q.1 (0,0,0)).1) (C:=wC [.int .i64 (q.2.1.getD ((rds N js []).getD q.1 (0,0,0)).1 0)]) kA (qC ho) (y7 hd s) iiz)<|oc (z5 (C:=(wC [.int .i64 (q.2.1.getD ((rds N js []).getD q.1 (0,0,0)).1 0)]).cf) kA iiz yT)<|oc zA<|oc zA<|oc zA<|oc (zL (z:=5) (Cs:=rqs (rds N js [])) (i:=q.1) (C:=CU.agg (fRd ((rds N js []).getD q.1 (0,0,0)))) kA (zBf h5) (fun v W O h=>(by rw[show _=lr from h];exact(SF.row 5 (rqs (rds N js []))).st _ _ _ (y9.row J) (s.up O))) iiz)<|oc (zO (C:=cg (fRd ((rds N js []).getD q.1 (0,0,0)))) 1 kA)<|oc (yK (C:=cg (fRd ((rds N js []).getD q.1 (0,0,0)))) (k:=1) kA (h:=zMT))<|oc (zL (z:=1) (Cs:=ins q.2.1) (i:=((rds N js []).getD q.1 (0,0,0)).2.1) (C:=wC [.int .i64 (q.2.1.getD ((rds N js []).getD q.1 (0,0,0)).2.1 0)]) kA (qC hw) (y7 hd s) iiz)<|oc (z5 (C:=(wC [.int .i64 (q.2.1.getD ((rds N js []).getD q.1 (0,0,0)).2.1 0)]).cf) kA iiz yT)<|oc (zJ .i64 (q.2.1.getD ((rds N js []).getD q.1 (0,0,0)).1 0) (q.2.1.getD ((rds N js []).getD q.1 (0,0,0)).2.1 0) (decide ((q.2.1.getD ((rds N js []).getD q.1 (0,0,0)).1 0)<(q.2.1.getD ((rds N js []).getD q.1 (0,0,0)).2.1 0))) iiz iiz rfl rfl)<|zC) fun a w14 s=>?_
    have O:=s.below
    replace I:=I.trans (O.mono I.size)
    replace hD:=hD.below O
    replace J:=J.below O
    replace s:=s.anewB rfl rfl
    refine StS.cond s (decide ((q.2.1.getD ((rds N js []).getD q.1 (0,0,0)).1 0)<(q.2.1.getD ((rds N js []).getD q.1 (0,0,0)).2.1 0))) iiz (fun e=>?_) (fun e=>?_)
    .have h9:lbT q.2 ((rds N js []).getD q.1 (0,0,0))=(q.2.1.set ((rds N js []).getD q.1 (0,0,0)).2.1 (q.2.1.getD ((rds N js []).getD q.1 (0,0,0)).1 0),true):=by unfold lbT;rw[if_pos (xW e)]
     refine fK ?_
     have hd:=hD.row (n:=N) (by simp[h8.ln])
     refine jR [0,1,2,6,7,8] 14 ((50,.u (UF.eq (.slice (some ⟨gl,0,none⟩) N N)))::(51,.Z (UF.eq lr))::(52,.Z (uI (q.1:Int)))::(53,.Y (fRd ((rds N js []).getD q.1 (0,0,0))))::(54,.X (fRd ((rds N js []).getD q.1 (0,0,0))) 1)::(55,.u (uI ((((rds N js []).getD q.1 (0,0,0)).2.1:Nat):Int)))::(56,.Z (UF.eq (.slice (some ⟨gl,0,none⟩) N N)))::(57,.Z (UF.eq lr))::(58,.Z (uI (q.1:Int)))::(59,.Y (fRd ((rds N js []).getD q.1 (0,0,0))))::(60,.X (fRd ((rds N js []).getD q.1 (0,0,0))) 0)::(61,.Z (uI ((((rds N js []).getD q.1 (0,0,0)).1:Nat):Int)))::(62,.s (wB (wC [.int .i64 (q.2.1.getD ((rds N js []).getD q.1 (0,0,0)).1 0)]).cf))::(63,.u (uI (q.2.1.getD ((rds N js []).getD q.1 (0,0,0)).1 0)))::[]) hmix s kA
      (oc zA<|oc zA<|oc zA<|oc (zL (z:=5) (Cs:=rqs (rds N js [])) (i:=q.1) (C:=CU.agg (fRd ((rds N js []).getD q.1 (0,0,0)))) kA (zBf h5) (fun v W O h=>(by rw[show _=lr from h];exact(SF.row 5 (rqs (rds N js []))).st _ _ _ (y9.row J) (s.up O))) iiz)<|oc (zO (C:=cg (fRd ((rds N js []).getD q.1 (0,0,0)))) 1 kA)<|oc (yK (C:=cg (fRd ((rds N js []).getD q.1 (0,0,0)))) (k:=1) kA (h:=zMT))<|oc zA<|oc zA<|oc zA<|oc (zL (z:=5) (Cs:=rqs (rds N js [])) (i:=q.1) (C:=CU.agg (fRd ((rds N js []).getD q.1 (0,0,0)))) kA (zBf h5) (fun v W O h=>(by rw[show _=lr from h];exact(SF.row 5 (rqs (rds N js []))).st _ _ _ (y9.row J) (s.up O))) iiz)<|oc (zO (C:=cg (fRd ((rds N js []).getD q.1 (0,0,0)))) 0 kA)<|oc (yK (C:=cg (fRd ((rds N js []).getD q.1 (0,0,0)))) (k:=0) kA (h:=zKy))<|oc (zL (z:=1) (Cs:=ins q.2.1) (i:=((rds N js []).getD q.1 (0,0,0)).1) (C:=wC [.int .i64 (q.2.1.getD ((rds N js []).getD q.1 (0,0,0)).1 0)]) kA (qC ho) (y7 hd s) iiz)<|oc (z5 (C:=(wC [.int .i64 (q.2.1.getD ((rds N js []).getD q.1 (0,0,0)).1 0)]).cf) kA iiz yT)<|zC) fun Q' hQ a w15 s=>zBD (UF.eq (.pointer (some ⟨gl,((rds N js []).getD q.1 (0,0,0)).2.1*1,none⟩))) rfl s kA (qQ (z:=1) (g:=gl) (nn:=N) (cap:=N) (i:=((rds N js []).getD q.1 (0,0,0)).2.1) kA ht iiz iiz) kA fun a w s=>?_
     have O:=s.below
     replace I:=I.trans (O.mono I.size)
     replace hD:=hD.below O
     replace J:=J.below O
     refine zAF (g:=gl) (i:=((rds N js []).getD q.1 (0,0,0)).2.1) (cap:=N) (z:=1) (e:=3) (wC [.int .i64 (q.2.1.getD ((rds N js []).getD q.1 (0,0,0)).1 0)]) rfl s rfl rfl hD (by simpa using hw) kA (s.fct (.tmp 64)) (jY (s.fct (.tmp 63)) rfl rfl rfl) (fun q hq=>by cases hq) fun w hc hv hn s=>?_
     have hs:=I
     replace I:=yD I hc (fun q hq=>by rw[hq];exact hm)
     replace J:=J.keep (fun k hk=>hc.block k (J.lt k hk).2 (fun hh=>zX (qP J hk).2.choose_spec.1 hD.at.choose_spec dA hh)) hv
     replace hD:=hn
     rw[zBA]at hD
     refine zF rfl (hQ _ _ ?_)
     have O:=s.below
     replace I:=I.trans (O.mono I.size)
     replace hD:=hD.below O
     replace J:=J.below O
     replace s:=s.anewB rfl rfl
     replace s:=s.drop [8]
     refine rgE ((8,.u (uB true))::[]) s
      (oc zE<|zC) fun a w16 s=>?_
     have O:=s.below
     replace I:=I.trans (O.mono I.size)
     replace hD:=hD.below O
     replace J:=J.below O
     replace s:=s.anewB rfl rfl
     refine zP 2 ((31,.Z (uI (q.1:Int)))::(32,.u (uI ((q.1+1:Nat):Int)))::[]) s kA
      (oc zA<|oc (yL .i64 (q.1:Int) 1 ((q.1+1:Nat):Int) iiz iiz (wrap64 _ _ oA oA))<|zC) fun a w17 s=>?_
     replace s:=s.drop [9]
     refine yN (uI ((q.1+1:Nat):Int)) rfl s kA iiz fun a w s=>zF rfl ?_
     have O:=s.below
     replace I:=I.trans (O.mono I.size)
     replace hD:=hD.below O
     replace J:=J.below O
     replace s:=s.anewB rfl rfl
     exact⟨(q.1+1,(q.2.1.set ((rds N js []).getD q.1 (0,0,0)).2.1 (q.2.1.getD ((rds N js []).getD q.1 (0,0,0)).1 0),true)),(by show(rds N js []).length-(q.1+1)<(rds N js []).length-q.1;omega),h5,(by show _=((rds N js []).take (q.1+1)).foldl _ _;rw[zAr _ _ (0,0,0) _ h5,<-he];exact h9.symm),(by have h7:=(h8.step (st:=q.2) (r:=((rds N js []).getD q.1 (0,0,0))) h6.1 h6.2.1 h6.2.2).1;rw[h9]at h7;exact h7),I,J,hD,s.keepK _ (sH mz9<|sH zC1<|sH mz2<|sH (.head _) fnz)⟩
    .have h9:lbT q.2 ((rds N js []).getD q.1 (0,0,0))=q.2:=by unfold lbT;rw[if_neg (mB e)]
     refine nQ<|zP 2 ((31,.Z (uI (q.1:Int)))::(32,.u (uI ((q.1+1:Nat):Int)))::[]) s kA
      (oc zA<|oc (yL .i64 (q.1:Int) 1 ((q.1+1:Nat):Int) iiz iiz (wrap64 _ _ oA oA))<|zC) fun a w18 s=>?_
     replace s:=s.drop [9]
     refine yN (uI ((q.1+1:Nat):Int)) rfl s kA iiz fun a w s=>zF rfl ?_
     have O:=s.below
     replace I:=I.trans (O.mono I.size)
     replace hD:=hD.below O
     replace J:=J.below O
     replace s:=s.anewB rfl rfl
     exact⟨(q.1+1,q.2),(by show(rds N js []).length-(q.1+1)<(rds N js []).length-q.1;omega),h5,(by show _=((rds N js []).take (q.1+1)).foldl _ _;rw[zAr _ _ (0,0,0) _ h5,<-he];exact h9.symm),(by have h7:=(h8.step (st:=q.2) (r:=((rds N js []).getD q.1 (0,0,0))) h6.1 h6.2.1 h6.2.2).1;rw[h9]at h7;exact h7),I,J,hD,s.keepK _ (sH mz4<|sH mz5<|sH mz6<|sH (.head _) fnz)⟩
   .have hE:q.1=(rds N js []).length:=by have h7:=mB e;simp only[xT]at h7;omega
    have hi:=zQE zJa hV (by rw[he,hE,pA]:q.2=(rds N js []).foldl lbT (y.1,false))
    exact rG<|⟨q.2,(by show zE2 q.2.1*2+q.2.2.toNat<zE2 y.1*2+y.2.toNat;rw[hl];exact hi.2.2),hi.1,hi.2.1,I,J,hD,s.keepK _ (sH mz1<|sH mz2<|sH mz3 fnz)⟩
  .have hl:y.2=false:=e
   refine rG<|rgQ ((65,.Z (UF.eq (.slice (some ⟨gl,0,none⟩) N N)))::(4,.u (UF.eq (.slice (some ⟨gl,0,none⟩) N N)))::[]) s
    (oc zA<|oc zE<|zC) fun a w19 s=>?_
   have O:=s.below
   replace I:=I.trans (O.mono I.size)
   replace hD:=hD.below O
   replace J:=J.below O
   replace s:=s.anewB rfl rfl
   exact nR<|StS.resN s I rfl ⟨y.1,zQF hV (hC hl),by rw[show a.tmps.getD _ undef=_ from s.fct (.tmp 4)];exact hD.toN hm (by simp[hV.ln])⟩
theorem zJb{x:Nat×Nat×Rat}(v:WD)(W:WB)(h:(fRd x).p v W):∃vs:List WD,v=.agg vs.toArray/\vs.length=5/\(∀u,u∈vs->u.oneCell'=true)/\vs.all z9=true/\(CU.agg (fRd x)).p vs W:=by
 obtain⟨s,A,n,c,A',n',c',rfl,I⟩:=h
 exact⟨_,rfl,rfl,zO4,rfl,s,A,n,c,A',n',c',rfl,I⟩
theorem GrB.qb2(h:GrB N js fs){a n:Nat}{c:Rat}{s:Nat}(I:Rch (grE N js fs) a n c s)(hs:s<=100000):QB c 2:=by
 obtain⟨k,O,h2⟩:=h.rch I
 have J:k<18446744073709551616:=oA
 exact vI (X:=(k:Int)) (D:=27720) dA (by rw[rO];exact O) dA (by unfold Bd BB;rw[pD];exact J) (by unfold Bd BB;decide+kernel)
theorem BV.qb2(h:BV (grE N js fs) N a j cs ss)(J:GrB N js fs)(hj:j<=100000){n:Nat}(I:n<N):QB (cs.getD n 0) 2:=by
 rcases h.at_ n I with⟨_,g⟩|⟨s,_,g,g2⟩
 .rw[g];exact QB.zero dA
 .exact J.qb2 g oA
theorem BV.qb3{x b:Nat}{f:Rat}(h:BV (grE N js fs) N a j cs ss)(J:GrB N js fs)(hj:j<100000)(O:x<N)(I:(b,f)∈grE N js fs x)(h0: ¬ss.getD x 0<0):QB (cs.getD x 0+f) 2:=by
 rcases h.at_ x O with⟨g,_⟩|⟨s,_,g,g2⟩
 .omega
 .exact J.qb2 (.cons g I) oA
theorem BV.sb(h:BV E N a j cs ss){n:Nat}(I:n<N): -1<=ss.getD n 0/\ss.getD n 0<=(j:Int):=by
 rcases h.at_ n I with⟨g,_⟩|⟨s,g,_,g2⟩<;>omega
def zMh(N k:Nat):List CU:=List.replicate k (CU.agg (fQN 0))++List.replicate (N-k) (CU.len 3)
theorem zOf(h:k<=N):(zMh N k).length=N:=by simp[zMh];omega
theorem zOe(h:k<N):(zMh N k).set k (CU.agg (fQN 0))=zMh N (k+1):=by
 unfold zMh
 have e:N-k=(N-(k+1))+1:=oA
 rw[e,pK,lC _ _ eN]
 simp[rP]
theorem zOg(N:Nat):zMh N N=qns (List.replicate N 0):=by simp[zMh,qns]
theorem zSm(h:yU N x=false):csR E N x=List.replicate N 0/\ssR E N x=List.replicate N (-1):=by
 unfold csR ssR
 rw[if_neg (by rw[h];decide),if_neg (by rw[h];decide)]
 exact⟨rfl,rfl⟩
def zE5(c:Rat)(s:Int)(d:Rat)(t:Int):Bool:=decide (c<d)||(decide (c=d)&&decide (s<t))
theorem zQl(p q:Rat):(qsg p q==0)=decide (p=q):=by
 rw[pF,bH,bE]
 exact zDT
theorem zJf(p q:Rat):decide (qsg p q<0)=decide (p<q):=by rw[pE,zDD]
theorem zLp{c d:Rat}{J I:Int}{x y:WD}(hu:QNp c u W)(hv:v=.int .i64 J)(hx:QNp d x W)(hy:y=.int .i64 I)(hc:QB c 2)(hd:QB d 2):Calls prog 46 #[u,v,x,y] W (Ret W (fB (zE5 c J d I)).tS):=by
 refine y2 [(fQN c).tS,(uI J).tS,(fQN d).tS,(uI I).tS] func46 rfl kA ⟨hu,hv,hx,hy,trivial⟩ fun a s=>?_
 replace s:=s.renew [(0,.u (fQN c)),(1,.u (uI J)),(2,.u (fQN d)),(3,.u (uI I))] (sH (.inr ⟨_,rfl,.head _⟩)<|sH (.inr ⟨_,rfl,mz1⟩)<|sH (.inr ⟨_,rfl,mz2⟩)<|sH (.inr ⟨_,rfl,mz3⟩) fnz)
 refine fK<|rgK 0 [] s
  zC fun a w1 s=>zAZ (CU.agg (fQN c)) rfl s kA (fun v W h=>zFE h) fun b4 a w s=>zAZ (CU.agg (fQN d)) rfl s kA (fun v W h=>zFE h) fun b6 a w s=>yN (uB false) rfl s kA iiz fun a w s=>zF rfl<|rgQ ((10,.Z (fQN c))::(11,.Z (fQN d))::(12,.Z (uI (qsg c d)))::(9,.u (uI (qsg c d)))::[]) s
  (oc (yJ (f:=fQN c) 3 kA (hz:=yV _))<|oc (yJ (f:=fQN d) 3 kA (hz:=yV _))<|oc (zW zD zOt (fun u0 u1 W hb (h0:QNp c u0 W) (h1:QNp d u1 W)=>zGa (m:=2) (wH h0 hc) (wH h1 hd) dA dA))<|oc zE<|zC) fun a w2 s=>fK ?_
 rcases rS (decide (qsg c d<0))with h1|h1
 .replace s:=s.drop [8]
  refine rgE ((13,.Z (uI (qsg c d)))::(14,.Z (uB true))::(15,.Z (uB true))::(18,.Z (UF.eq undef))::(23,.Z (uB true))::(8,.u (uB true))::[]) s
   (oc zA<|oc (zJ .i64 (qsg c d) 0 true iiz iiz h1 rfl)<|oc zA<|oc (zB 15 true kA iiz sF (fun _ _=>trivial))<|oc (zB 15 true kA iiz sF (fun _ _=>trivial))<|oc (zB 15 true kA iiz sF (fun _ _=>rfl))<|oc (yH 18 undef kA iiz sF (fun _=>trivial))<|oc (yH 18 undef kA iiz sF (fun _=>trivial))<|oc (yH 18 undef kA iiz sF (fun _=>trivial))<|oc (zB 15 true kA iiz sF (fun _ _=>trivial))<|oc (zT true iiz (fun _ _ _ h=>h) sF)<|oc zE<|zC) fun a w3 s=>nR ?_
  have O:zE5 c J d I=true:=by unfold zE5;rw[<-zJf,h1];rfl
  exact wG s (t:=8) rfl (fun _ _ h=>by rw[O];exact h)
 .replace s:=s.drop [8]
  refine rgE ((13,.Z (uI (qsg c d)))::(14,.Z (uB false))::(15,.Z (uB false))::(16,.Z (uI (qsg c d)))::(17,.Z (uB ((qsg c d)==0)))::(18,.Z (uB ((qsg c d)==0)))::(19,.s (SF.imp (((qsg c d)==0)=true) ((uI J).tS)))::(20,.s (SF.imp (((qsg c d)==0)=true) ((uI I).tS)))::(21,.s (SF.imp (((qsg c d)==0)=true) ((uB (decide (J<I))).tS)))::(22,.Z (uB (((qsg c d)==0)&&(decide (J<I)))))::(23,.Z (uB (((qsg c d)==0)&&(decide (J<I)))))::(8,.u (uB (((qsg c d)==0)&&(decide (J<I)))))::[]) s
   (oc zA<|oc (zJ .i64 (qsg c d) 0 false iiz iiz h1 rfl)<|oc zA<|oc (zB 15 false kA iiz (fun _=>zA) arf)<|oc (zB 15 false kA iiz (fun _=>zJ .i64 (qsg c d) 0 ((qsg c d)==0) iiz iiz rfl rfl) arf)<|oc (zB 15 false kA iiz (fun _=>zA) arf)<|oc (zB 18 ((qsg c d)==0) kA iiz (fun e=>zI [] ((uI J).tS) fnz (fun _ _ h _=>h) kA zA) (fun e W h=>absurd h e))<|oc (zB 18 ((qsg c d)==0) kA iiz (fun e=>zI [] ((uI I).tS) fnz (fun _ _ h _=>h) kA zA) (fun e W h=>absurd h e))<|oc (zB 18 ((qsg c d)==0) kA iiz (fun e=>zI [(19,(uI J).tS),(20,(uI I).tS)] ((uB (decide (J<I))).tS) (sH (fun v W h=>zG (c:=((qsg c d)==0)=true) (f:=(uI J).tS) e h)<|sH (fun v W h=>zG (c:=((qsg c d)==0)=true) (f:=(uI I).tS) e h) fnz) (fun _ _ h _=>h) kA (zJ .i64 J I (decide (J<I)) iiz iiz rfl rfl)) (fun e W h=>absurd h e))<|oc (zB 15 false kA iiz (fun _=>zT ((qsg c d)==0) iiz (fun e v W h=>zBH (zG e h) e) (fun e v W h=>zBc h e)) arf)<|oc (zT false iiz sF (fun _ _ _ h=>h))<|oc zE<|zC) fun a w4 s=>nR ?_
  have O:zE5 c J d I=((qsg c d==0)&&decide (J<I)):=by unfold zE5;rw[<-zJf,h1,zQl];rfl
  exact wG s (t:=8) rfl (fun _ _ h=>by rw[O];exact h)
theorem zFD(hu:u=.int .i64 n)(hj:(SF.row 2 (jns js)).p lj W)(hf:(SF.row 3 (rvs 1 fs)).p lf W)(hv:v=.int .i64 x)(x4:min (max n 0) 131072=(N:Int))(hB:GrB N js fs)(hT:Tab W):Calls prog 22 #[u,lj,lf,v] W (Ret W (wI (wD W 32 3 (qns (csR (grE N js fs) N x))) (wD W 3 1 (ins (ssR (grE N js fs) N x))))):=by
 have I:Below W.heap.size W W:=xF _ _
 have h6:=hj
 have h8:=hf
 refine y2 [(uI n).tS,(UF.eq lj).tS,(UF.eq lf).tS,(uI x).tS] func22 rfl kA ⟨hu,rfl,rfl,hv,trivial⟩ fun a s=>?_
 replace s:=s.renew [(0,.u (uI n)),(1,.u (UF.eq lj)),(2,.u (UF.eq lf)),(3,.u (uI x))] (sH (.inr ⟨_,rfl,.head _⟩)<|sH (.inr ⟨_,rfl,mz1⟩)<|sH (.inr ⟨_,rfl,mz2⟩)<|sH (.inr ⟨_,rfl,mz3⟩) fnz)
 refine rgQ ((8,.u (UF.eq (.slice none 0 0)))::(9,.u (UF.eq (.slice none 0 0)))::[]) s
  (oc zE<|oc zE<|zC) fun a w1 s=>?_
 have J:=s.below
 replace I:=I.trans (J.mono I.size)
 replace h6:=(SF.row 2 (jns js)).st _ _ _ h6 J
 replace h8:=(SF.row 3 (rvs 1 fs)).st _ _ _ h8 J
 replace s:=s.anewB rfl rfl
 refine fK<|zP 2 ((19,.Z (uI n))::(20,.u (uI (N:Int)))::[]) s kA
  (oc zA<|oc (zK zD zOs (fun u0 W J (h0:u0=.int .i64 n)=>zCD h0 x4))<|zC) fun a w2 s=>?_
 replace s:=s.drop [0]
 refine yN (uI (N:Int)) rfl s kA iiz fun a w s=>zF rfl ?_
 have J:=s.below
 replace I:=I.trans (J.mono I.size)
 replace h6:=(SF.row 2 (jns js)).st _ _ _ h6 J
 replace h8:=(SF.row 3 (rvs 1 fs)).st _ _ _ h8 J
 replace s:=s.anewB rfl rfl
 refine fK<|rgK 1 ((21,.u (uI (N:Int)))::[]) s
  (oc zA<|zC) fun a w3 s=>?_
 have J:=s.below
 replace I:=I.trans (J.mono I.size)
 replace h6:=(SF.row 2 (jns js)).st _ _ _ h6 J
 replace h8:=(SF.row 3 (rvs 1 fs)).st _ _ _ h8 J
 refine zJW (nn:=N) (z:=3) (e:=32) (zs:=[.bool false,.slice none 0 0,.slice none 0 0]) (CU.len 3) s rfl kA kA kA rfl rfl (by have:=hB.hN;omega) (fun W=>rfl) (s.fct (.tmp 21)) (s.fct (.tmp 21)) fun gc a w qy J hC s=>?_
 have hO:W.heap.size<=gc:=by rw[qy];exact I.size
 replace I:=I.trans (J.mono I.size)
 replace h6:=(SF.row 2 (jns js)).st _ _ _ h6 J
 replace h8:=(SF.row 3 (rvs 1 fs)).st _ _ _ h8 J
 replace hC:q9 w gc 32 3 N (zMh N 0):=by unfold zMh;simpa using hC
 refine yN (UF.eq (.slice (some ⟨gc,0,none⟩) N N)) rfl s kA iiz fun a w s=>zF rfl ?_
 have J:=s.below
 replace I:=I.trans (J.mono I.size)
 replace h6:=(SF.row 2 (jns js)).st _ _ _ h6 J
 replace h8:=(SF.row 3 (rvs 1 fs)).st _ _ _ h8 J
 replace hC:=hC.below J
 replace s:=s.anewB rfl rfl
 refine fK<|rgK 1 ((23,.u (uI (N:Int)))::[]) s
  (oc zA<|zC) fun a w4 s=>?_
 have J:=s.below
 replace I:=I.trans (J.mono I.size)
 replace h6:=(SF.row 2 (jns js)).st _ _ _ h6 J
 replace h8:=(SF.row 3 (rvs 1 fs)).st _ _ _ h8 J
 replace hC:=hC.below J
 refine zJW (nn:=N) (z:=1) (e:=3) (zs:=[.int .i64 0]) (wC [.int .i64 0]) s rfl kA kA kA rfl rfl (by have:=hB.hN;omega) (fun W=>rfl) (s.fct (.tmp 23)) (s.fct (.tmp 23)) fun gs a w qz J hS s=>?_
 have hF:W.heap.size<=gs:=by rw[qz];exact I.size
 replace I:=I.trans (J.mono I.size)
 replace h6:=(SF.row 2 (jns js)).st _ _ _ h6 J
 replace h8:=(SF.row 3 (rvs 1 fs)).st _ _ _ h8 J
 replace hC:=hC.below J
 replace hS:q9 w gs 3 1 N (ins (zC6 N 0)):=by unfold ins zC6;simpa using hS
 refine yN (UF.eq (.slice (some ⟨gs,0,none⟩) N N)) rfl s kA iiz fun a w s=>zF rfl ?_
 have J:=s.below
 replace I:=I.trans (J.mono I.size)
 replace h6:=(SF.row 2 (jns js)).st _ _ _ h6 J
 replace h8:=(SF.row 3 (rvs 1 fs)).st _ _ _ h8 J
 replace hC:=hC.below J
 replace hS:=hS.below J
 replace s:=s.anewB rfl rfl
 refine fK<|rgQ ((12,.u (uI 0))::[]) s
  (oc zE<|zC) fun a w5 s=>?_
 have J:=s.below
 replace I:=I.trans (J.mono I.size)
 replace h6:=(SF.row 2 (jns js)).st _ _ _ h6 J
 replace h8:=(SF.row 3 (rvs 1 fs)).st _ _ _ h8 J
 replace hC:=hC.below J
 replace hS:=hS.below J
 replace s:=s.anewB rfl rfl
 refine rF<|yC (fun(y:Nat) a w=>y<=N/\Below W.heap.size W w/\(SF.row 2 (jns js)).p lj w/\(SF.row 3 (rvs 1 fs)).p lf w/\q9 w gc 32 3 N (zMh N y)/\q9 w gs 3 1 N (ins (zC6 N y))/\St w [(0,.u (uI (N:Int))),(1,.u (UF.eq lj)),(2,.u (UF.eq lf)),(3,.u (uI x)),(10,.u (UF.eq (.slice (some ⟨gc,0,none⟩) N N))),(11,.u (UF.eq (.slice (some ⟨gs,0,none⟩) N N))),(12,.u (uI ((y:Nat):Int)))] [] f22.ntmps [] a w) (fun y=>N-y) 0 ⟨vS _,I,h6,h8,hC,hS,s.keepK _ (sH mz7<|sH zDW<|sH zFl<|sH zGN<|sH mz4<|sH mz1<|sH (.head _) fnz)⟩ fun y a w hx=>?_
 clear I h6 h8 hC hS
 obtain⟨hk,I,h6,h8,hC,hS,s⟩:=hx
 refine fK<|rgQ ((25,.Z (uI (y:Int)))::(26,.Z (uI (N:Int)))::(27,.u (uB (decide ((y:Int)<(N:Int)))))::[]) s
  (oc zA<|oc zA<|oc (zJ .i64 (y:Int) (N:Int) (decide ((y:Int)<(N:Int))) iiz iiz rfl rfl)<|zC) fun a w6 s=>?_
 have J:=s.below
 replace I:=I.trans (J.mono I.size)
 replace h6:=(SF.row 2 (jns js)).st _ _ _ h6 J
 replace h8:=(SF.row 3 (rvs 1 fs)).st _ _ _ h8 J
 replace hC:=hC.below J
 replace hS:=hS.below J
 replace s:=s.anewB rfl rfl
 refine StS.cond s (decide ((y:Int)<(N:Int))) iiz (fun e=>?_) (fun e=>?_)
 .have h9:y<N:=by have:=xW e;omega
  have qt:y<(zMh N y).length:=by rw[zOf hk];exact h9
  have x6:y<(zC6 N y).length:=by rw[zHI hk];exact h9
  refine nQ<|fK<|rF<|fK<|rgK 3 ((30,.u (UF.eq (.slice (some ⟨gc,0,none⟩) N N)))::(31,.u (uI (y:Int)))::(32,.u (fQN 0))::[]) s
   (oc zA<|oc zA<|oc (zK zD zFe (fun u0 W J (h0:u0=.int .i64 0)=>zCZ h0))<|zC) fun a w7 s=>zBD (UF.eq (.pointer (some ⟨gc,y*3,none⟩))) rfl s kA (qQ (z:=3) (g:=gc) (nn:=N) (cap:=N) (i:=y) kA h9 iiz iiz) kA fun a w s=>?_
  have J:=s.below
  replace I:=I.trans (J.mono I.size)
  replace h6:=(SF.row 2 (jns js)).st _ _ _ h6 J
  replace h8:=(SF.row 3 (rvs 1 fs)).st _ _ _ h8 J
  replace hC:=hC.below J
  replace hS:=hS.below J
  refine zAF (g:=gc) (i:=y) (cap:=N) (z:=3) (e:=32) (CU.agg (fQN 0)) rfl s rfl rfl hC (by simpa using qt) kA (s.fct (.tmp 33)) (zBS (s.fct (.tmp 32))) (fun q hq=>by cases hq) fun w hc hl ho s=>?_
  replace I:=yD I hc (fun q hq=>by rw[hq];exact hO)
  replace h6:=(SF.row 2 (jns js)).st _ _ _ hj I
  replace h8:=(SF.row 3 (rvs 1 fs)).st _ _ _ hf I
  replace hS:=hS.keep (hc.block _ hS.lt (fun hh=>zX hS.at.choose_spec hC.at.choose_spec dA hh)) hl
  replace hC:=ho
  rw[zOe h9]at hC
  refine zF rfl ?_
  have J:=s.below
  replace I:=I.trans (J.mono I.size)
  replace h6:=(SF.row 2 (jns js)).st _ _ _ h6 J
  replace h8:=(SF.row 3 (rvs 1 fs)).st _ _ _ h8 J
  replace hC:=hC.below J
  replace hS:=hS.below J
  replace s:=s.anewB rfl rfl
  refine rgK 2 ((34,.u (UF.eq (.slice (some ⟨gs,0,none⟩) N N)))::(35,.u (uI (y:Int)))::[]) s
   (oc zA<|oc zA<|zC) fun a w8 s=>zBD (UF.eq (.pointer (some ⟨gs,y*1,none⟩))) rfl s kA (qQ (z:=1) (g:=gs) (nn:=N) (cap:=N) (i:=y) kA h9 iiz iiz) kA fun a w s=>?_
  have J:=s.below
  replace I:=I.trans (J.mono I.size)
  replace h6:=(SF.row 2 (jns js)).st _ _ _ h6 J
  replace h8:=(SF.row 3 (rvs 1 fs)).st _ _ _ h8 J
  replace hC:=hC.below J
  replace hS:=hS.below J
  refine zAF (g:=gs) (i:=y) (cap:=N) (z:=1) (e:=3) (wC [.int .i64 (-1)]) rfl s rfl rfl hS (by simpa using x6) kA (s.fct (.tmp 36)) (jY rfl rfl rfl rfl) (fun q hq=>by cases hq) fun w hc hl ho s=>?_
  replace I:=yD I hc (fun q hq=>by rw[hq];exact hF)
  replace h6:=(SF.row 2 (jns js)).st _ _ _ hj I
  replace h8:=(SF.row 3 (rvs 1 fs)).st _ _ _ hf I
  replace hC:=hC.keep (hc.block _ hC.lt (fun hh=>zX hC.at.choose_spec hS.at.choose_spec dA hh)) hl
  replace hS:=ho
  rw[zBA]at hS
  refine zF rfl ?_
  have J:=s.below
  replace I:=I.trans (J.mono I.size)
  replace h6:=(SF.row 2 (jns js)).st _ _ _ h6 J
  replace h8:=(SF.row 3 (rvs 1 fs)).st _ _ _ h8 J
  replace hC:=hC.below J
  replace hS:=hS.below J
  replace s:=s.anewB rfl rfl
  refine zP 2 ((28,.Z (uI (y:Int)))::(29,.u (uI ((y+1:Nat):Int)))::[]) s kA
   (oc zA<|oc (yL .i64 (y:Int) 1 ((y+1:Nat):Int) iiz iiz (wrap64 _ _ oA oA))<|zC) fun a w9 s=>?_
  replace s:=s.drop [12]
  refine yN (uI ((y+1:Nat):Int)) rfl s kA iiz fun a w s=>zF rfl ?_
  have J:=s.below
  replace I:=I.trans (J.mono I.size)
  replace h6:=(SF.row 2 (jns js)).st _ _ _ h6 J
  replace h8:=(SF.row 3 (rvs 1 fs)).st _ _ _ h8 J
  replace hC:=hC.below J
  replace hS:=hS.below J
  replace s:=s.anewB rfl rfl
  exact⟨y+1,(by show N-(y+1)<N-y;omega),h9,I,h6,h8,hC,(by rw[<-zHH h9];exact hS),s.keepK _ (sH zC1<|sH zDW<|sH zFl<|sH zGN<|sH zMU<|sH zFL<|sH (.head _) fnz)⟩
 .have h9:y=N:=by have:=mB e;omega
  rw[h9,zOg]at hC
  rw[h9,zHJ]at hS
  refine rG<|fK<|rgQ ((37,.Z (uI x))::(38,.Z (uB (decide (x<0))))::(39,.Z (uB (decide (x<0))))::(40,.s (SF.imp ((decide (x<0))=false) ((uI x).tS)))::(41,.s (SF.imp ((decide (x<0))=false) ((uI (N:Int)).tS)))::(42,.s (SF.imp ((decide (x<0))=false) ((uB (decide (x≥(N:Int)))).tS)))::(43,.u (uB ((decide (x<0))||(decide (x≥(N:Int))))))::[]) s
   (oc zA<|oc (zJ .i64 x 0 (decide (x<0)) iiz iiz rfl rfl)<|oc zA<|oc (zB 39 (decide (x<0)) kA iiz (fun e=>zI [] ((uI x).tS) fnz (fun _ _ h _=>h) kA zA) (fun e W h=>absurd h e))<|oc (zB 39 (decide (x<0)) kA iiz (fun e=>zI [] ((uI (N:Int)).tS) fnz (fun _ _ h _=>h) kA zA) (fun e W h=>absurd h e))<|oc (zB 39 (decide (x<0)) kA iiz (fun e=>zI [(40,(uI x).tS),(41,(uI (N:Int)).tS)] ((uB (decide (x≥(N:Int)))).tS) (sH (fun v W h=>zG (c:=(decide (x<0))=false) (f:=(uI x).tS) e h)<|sH (fun v W h=>zG (c:=(decide (x<0))=false) (f:=(uI (N:Int)).tS) e h) fnz) (fun _ _ h _=>h) kA (zJ .i64 x (N:Int) (decide (x≥(N:Int))) iiz iiz rfl rfl)) (fun e W h=>absurd h e))<|oc (zT (decide (x<0)) iiz (fun e v W h=>qH h e) (fun e v W h=>yX (zG e h) e))<|zC) fun a w10 s=>?_
  have J:=s.below
  replace I:=I.trans (J.mono I.size)
  replace h6:=(SF.row 2 (jns js)).st _ _ _ h6 J
  replace h8:=(SF.row 3 (rvs 1 fs)).st _ _ _ h8 J
  replace hC:=hC.below J
  replace hS:=hS.below J
  replace s:=s.anewB rfl rfl
  refine StS.cond s ((decide (x<0))||(decide (x≥(N:Int)))) iiz (fun e=>?_) (fun e=>?_)
  .have hK:yU N x=false:=by unfold yU;simp only[bZ,bE]at e;simp only[rN,rH];omega
   refine rgQ ((44,.Z (UF.eq (.slice (some ⟨gc,0,none⟩) N N)))::(45,.Z (UF.eq (.slice (some ⟨gs,0,none⟩) N N)))::(8,.u (UF.eq (.slice (some ⟨gc,0,none⟩) N N)))::(9,.u (UF.eq (.slice (some ⟨gs,0,none⟩) N N)))::[]) s
    (oc zA<|oc zA<|oc zE<|oc zE<|zC) fun a w11 s=>?_
   have J:=s.below
   replace I:=I.trans (J.mono I.size)
   replace h6:=(SF.row 2 (jns js)).st _ _ _ h6 J
   replace h8:=(SF.row 3 (rvs 1 fs)).st _ _ _ h8 J
   replace hC:=hC.below J
   replace hS:=hS.below J
   replace s:=s.anewB rfl rfl
   refine nR ?_
   obtain⟨o1,o2⟩:=zSm (E:=(grE N js fs)) hK
   replace s:=s.home rfl rfl I
   exact vD s rfl ⟨_,_,rfl,by rw[o1,show a.tmps.getD 8 undef=_ from s.fct (.tmp 8)];exact hC.toN hO eN,by rw[o2,show a.tmps.getD 9 undef=_ from s.fct (.tmp 9)];exact hS.toN hF eN⟩
  .have hK:yU N x=true:=by unfold yU;simp only[bL,rH]at e;simp only[xU,bE];omega
   obtain⟨xn,rfl⟩:∃k:Nat,x=(k:Int):=⟨x.toNat,(y5 hK).2.symm⟩
   have q4:xn<N:=by have h7:=(y5 hK).1;rwa [fR]at h7
   have qk:=zTW (js:=js) (fs:=fs) hK
   rw[fR]at qk
   have hN20:=hB.hN
   refine nQ<|fK<|rgK 2 ((46,.u (UF.eq (.slice (some ⟨gs,0,none⟩) N N)))::(47,.u (uI (xn:Int)))::[]) s
    (oc zA<|oc zA<|zC) fun a w12 s=>zBD (UF.eq (.pointer (some ⟨gs,xn*1,none⟩))) rfl s kA (qQ (z:=1) (g:=gs) (nn:=N) (cap:=N) (i:=xn) kA q4 iiz iiz) kA fun a w s=>?_
   have J:=s.below
   replace I:=I.trans (J.mono I.size)
   replace h6:=(SF.row 2 (jns js)).st _ _ _ h6 J
   replace h8:=(SF.row 3 (rvs 1 fs)).st _ _ _ h8 J
   replace hC:=hC.below J
   replace hS:=hS.below J
   refine zAF (g:=gs) (i:=xn) (cap:=N) (z:=1) (e:=3) (wC [.int .i64 0]) rfl s rfl rfl hS (by simpa using(show xn<(List.replicate N (-1:Int)).length by rw[mZ];exact q4)) kA (s.fct (.tmp 48)) (jY rfl rfl rfl rfl) (fun q hq=>by cases hq) fun w hc hl ho s=>?_
   replace I:=yD I hc (fun q hq=>by rw[hq];exact hF)
   replace h6:=(SF.row 2 (jns js)).st _ _ _ hj I
   replace h8:=(SF.row 3 (rvs 1 fs)).st _ _ _ hf I
   replace hC:=hC.keep (hc.block _ hC.lt (fun hh=>zX hC.at.choose_spec hS.at.choose_spec dA hh)) hl
   replace hS:=ho
   rw[zBA]at hS
   refine zF rfl ?_
   have J:=s.below
   replace I:=I.trans (J.mono I.size)
   replace h6:=(SF.row 2 (jns js)).st _ _ _ h6 J
   replace h8:=(SF.row 3 (rvs 1 fs)).st _ _ _ h8 J
   replace hC:=hC.below J
   replace hS:=hS.below J
   replace s:=s.anewB rfl rfl
   refine fK<|rgN ((49,.Z (uI (N:Int)))::(50,.Z (UF.eq lj))::(51,.Z (UF.eq lf))::(52,.s (wD w 59 5 (rqs (rds N js fs))))::(13,.s (wD w 59 5 (rqs (rds N js fs))))::[]) s
    (oc zA<|oc zA<|oc zA<|oc (zBn zD zOr (fun u0 u1 u2 W J (h0:u0=.int .i64 (N:Int)) (h1:u1=lj) (h2:u2=lf)=>(zCC h0 (zAa h6 h1 (s.up J)) (zAa h8 h2 (s.up J)) (by have:=hB.hN;omega) (by have:=hB.hj;omega) ((hT.below I).below (s.up J))).mono (wF (fun v W h=>y9.mono h (s.up J).size))))<|oc zE<|zC) fun a w13 s hr=>?_
   obtain⟨lr,e13⟩:∃v,a.tmps.getD 13 undef=v:=⟨_,rfl⟩
   have O:=(hr (_,_) mz4)
   rw[show a.tmps.getD _ undef=lr from e13]at O
   replace O:=O.mono (vS _)
   replace s:=s.learn 13 _ e13
   have J:=s.below
   replace I:=I.trans (J.mono I.size)
   replace h6:=(SF.row 2 (jns js)).st _ _ _ h6 J
   replace h8:=(SF.row 3 (rvs 1 fs)).st _ _ _ h8 J
   replace hC:=hC.below J
   replace hS:=hS.below J
   replace s:=s.anewB rfl rfl
   refine fK<|rgQ ((14,.u (uI 0))::[]) s
    (oc zE<|zC) fun a w14 s=>?_
   have J:=s.below
   replace I:=I.trans (J.mono I.size)
   replace hC:=hC.below J
   replace hS:=hS.below J
   replace O:=O.below J
   replace s:=s.anewB rfl rfl
   refine rF<|yC (fun(y:Nat×List Rat×List Int) a w=>y.1<=N+1/\BV (grE N js fs) N xn (y.1*(rds N js fs).length) y.2.1 y.2.2/\bfR (rds N js fs) (N+1-y.1) y.2.1 y.2.2=(csR (grE N js fs) N (xn:Int),ssR (grE N js fs) N (xn:Int))/\Below W.heap.size W w/\y9 w 0 59 5 lr (rqs (rds N js fs))/\q9 w gc 32 3 N (qns y.2.1)/\q9 w gs 3 1 N (ins y.2.2)/\St w [(0,.u (uI (N:Int))),(10,.u (UF.eq (.slice (some ⟨gc,0,none⟩) N N))),(11,.u (UF.eq (.slice (some ⟨gs,0,none⟩) N N))),(13,.u (UF.eq lr)),(14,.u (uI (y.1:Int)))] [] f22.ntmps [] a w) (fun y=>N+1-y.1) (0,List.replicate N 0,(List.replicate N (-1)).set xn 0) ⟨vS _,(by rw[gD];exact(BV.begin (grE N js fs) q4).1),qk,I,O,hC,hS,s.keepK _ (sH mz7<|sH zDW<|sH zFl<|sH mz1<|sH (.head _) fnz)⟩ fun y a w hx=>?_
   clear I O hC hS
   obtain⟨hk,q3,q6,I,O,hC,hS,s⟩:=hx
   refine fK<|rgQ ((53,.Z (uI (y.1:Int)))::(54,.Z (uI (N:Int)))::(55,.u (uB (decide ((y.1:Int)<=(N:Int)))))::[]) s
    (oc zA<|oc zA<|oc (zJ .i64 (y.1:Int) (N:Int) (decide ((y.1:Int)<=(N:Int))) iiz iiz rfl rfl)<|zC) fun a w15 s=>?_
   have J:=s.below
   replace I:=I.trans (J.mono I.size)
   replace hC:=hC.below J
   replace hS:=hS.below J
   replace O:=O.below J
   replace s:=s.anewB rfl rfl
   refine StS.cond s (decide ((y.1:Int)<=(N:Int))) iiz (fun e=>?_) (fun e=>?_)
   .have qn:y.1<=N:=by have:=xW e;omega
    have hrlen:=zBN N js fs js.length
    have hjl:=hB.hj
    have x0:(rds N js fs).length<=122:=by unfold rds;omega
    have hkm:y.1*(rds N js fs).length<=20*122:=gJ oA x0
    refine nQ<|fK<|rF<|rgQ ((15,.u (uB false))::[]) s
     (oc zE<|zC) fun a w16 s=>?_
    have J:=s.below
    replace I:=I.trans (J.mono I.size)
    replace hC:=hC.below J
    replace hS:=hS.below J
    replace O:=O.below J
    replace s:=s.anewB rfl rfl
    refine fK<|rgQ ((16,.u (uI 0))::[]) s
     (oc zE<|zC) fun a w17 s=>?_
    have J:=s.below
    replace I:=I.trans (J.mono I.size)
    replace hC:=hC.below J
    replace hS:=hS.below J
    replace O:=O.below J
    replace s:=s.anewB rfl rfl
    refine rF<|yC (fun(q:Nat×List Rat×List Int×Bool) a w=>q.1<=(rds N js fs).length/\q.2=((rds N js fs).take q.1).foldl bfT (y.2.1,y.2.2,false)/\BV (grE N js fs) N xn (y.1*(rds N js fs).length+q.1) q.2.1 q.2.2.1/\Below W.heap.size W w/\y9 w 0 59 5 lr (rqs (rds N js fs))/\q9 w gc 32 3 N (qns q.2.1)/\q9 w gs 3 1 N (ins q.2.2.1)/\St w [(0,.u (uI (N:Int))),(10,.u (UF.eq (.slice (some ⟨gc,0,none⟩) N N))),(11,.u (UF.eq (.slice (some ⟨gs,0,none⟩) N N))),(13,.u (UF.eq lr)),(14,.u (uI (y.1:Int))),(15,.u (uB (q.2.2.2))),(16,.u (uI (q.1:Int)))] [] f22.ntmps [] a w) (fun q=>(rds N js fs).length-q.1) (0,y.2.1,y.2.2,false) ⟨vS _,rfl,q3,I,O,hC,hS,s.keepK _ (sH mz3<|sH mz4<|sH mz5<|sH mz6<|sH mz7<|sH mz1<|sH (.head _) fnz)⟩ fun q a w hx=>?_
    clear I O hC hS
    obtain⟨hkq,hY,hV,I,O,hC,hS,s⟩:=hx
    refine fK<|rgQ ((58,.Z (uI (q.1:Int)))::(59,.Z (UF.eq lr))::(60,.Z (uI ((rqs (rds N js fs)).length:Int)))::(61,.u (uB (decide ((q.1:Int)<((rqs (rds N js fs)).length:Int)))))::[]) s
     (oc zA<|oc zA<|oc (qZ (z:=5) (Cs:=rqs (rds N js fs)) kA (fun v W J h=>(by rw[show _=lr from h];exact(SF.row 5 (rqs (rds N js fs))).st _ _ _ (y9.row O) (s.up J))) (fun _=>rfl))<|oc (zJ .i64 (q.1:Int) ((rqs (rds N js fs)).length:Int) (decide ((q.1:Int)<((rqs (rds N js fs)).length:Int))) iiz iiz rfl rfl)<|zC) fun a w18 s=>?_
    have J:=s.below
    replace I:=I.trans (J.mono I.size)
    replace hC:=hC.below J
    replace hS:=hS.below J
    replace O:=O.below J
    replace s:=s.anewB rfl rfl
    refine StS.cond s (decide ((q.1:Int)<((rqs (rds N js fs)).length:Int))) iiz (fun e=>?_) (fun e=>?_)
    .have h9:q.1<(rds N js fs).length:=by have h7:=xW e;simp only[xT]at h7;omega
     have qp:((rds N js fs).getD q.1 (0,0,0))∈(rds N js fs):=by rw[nX,mD h9];exact uO h9
     have hg:=zJa ((rds N js fs).getD q.1 (0,0,0)) qp
     have hP:((rds N js fs).getD q.1 (0,0,0)).1<N:=hg.1
     have hJ:((rds N js fs).getD q.1 (0,0,0)).2.1<N:=hg.2.1
     have qc:((rds N js fs).getD q.1 (0,0,0)).1<q.2.1.length:=by rw[hV.cl];exact hP
     have q0:((rds N js fs).getD q.1 (0,0,0)).2.1<q.2.1.length:=by rw[hV.cl];exact hJ
     have hM:((rds N js fs).getD q.1 (0,0,0)).1<q.2.2.1.length:=by rw[hV.sl];exact hP
     have hI:((rds N js fs).getD q.1 (0,0,0)).2.1<q.2.2.1.length:=by rw[hV.sl];exact hJ
     have qe:QB ((rds N js fs).getD q.1 (0,0,0)).2.2 2:=(hB.qr (a:=((rds N js fs).getD q.1 (0,0,0)).1) (r:=((rds N js fs).getD q.1 (0,0,0)).2) hg.2.2).mono dA
     have qf:QB (q.2.1.getD ((rds N js fs).getD q.1 (0,0,0)).1 0) 2:=hV.qb2 hB oA hP
     have x3:QB (q.2.1.getD ((rds N js fs).getD q.1 (0,0,0)).2.1 0) 2:=hV.qb2 hB oA hJ
     have hsa:=hV.sb hP
     refine nQ<|fK<|rF<|fK<|rgK 4 ((64,.Z (UF.eq lr))::(65,.Z (uI (q.1:Int)))::(66,.Y (fRd ((rds N js fs).getD q.1 (0,0,0))))::(67,.u (fRd ((rds N js fs).getD q.1 (0,0,0))))::[]) s
      (oc zA<|oc zA<|oc (zL (z:=5) (Cs:=rqs (rds N js fs)) (i:=q.1) (C:=CU.agg (fRd ((rds N js fs).getD q.1 (0,0,0)))) kA (zBf h9) (fun v W J h=>(by rw[show _=lr from h];exact(SF.row 5 (rqs (rds N js fs))).st _ _ _ (y9.row O) (s.up J))) iiz)<|oc (yJ (f:=fRd ((rds N js fs).getD q.1 (0,0,0))) 5 kA (hz:=zO5 _))<|zC) fun a w19 s=>yP (CU.len 5) (cs:=[.int .i64 0,.int .i64 0,.bool false,.slice none 0 0,.slice none 0 0]) kA rfl s kA (fun W=>rfl) rfl fun hi a w s=>yI (fRd ((rds N js fs).getD q.1 (0,0,0))) rfl s zJb fun a w s=>zF rfl ?_
     have hn17_:=s.inB_new (q:=hi) ⟨_,.head _,rfl,rfl⟩
     have q2: ¬hi=gc/\ ¬hi=gs:=by have h1:=hC.lt;have h2:=hS.lt;omega
     replace s:StS _ _ _ [⟨17,59,CU.agg (fRd ((rds N js fs).getD q.1 (0,0,0))),hi,true⟩] _ _ _ _:=s.freeze
     have J:=s.below
     replace I:=I.trans (J.mono I.size)
     replace hC:=hC.below J
     replace hS:=hS.below J
     replace O:=O.below J
     replace s:=s.anewB rfl rfl
     refine fK<|fK ?_
     have hW:=hC.row (n:=N) (by simp[hV.cl])
     have ht:=hS.row (n:=N) (by simp[hV.sl])
     refine rgE ((68,.Z (UF.eq (.slice (some ⟨gs,0,none⟩) N N)))::(69,.X (fRd ((rds N js fs).getD q.1 (0,0,0))) 0)::(70,.Z (uI ((((rds N js fs).getD q.1 (0,0,0)).1:Nat):Int)))::(71,.s (wB (wC [.int .i64 (q.2.2.1.getD ((rds N js fs).getD q.1 (0,0,0)).1 0)]).cf))::(72,.Z (uI (q.2.2.1.getD ((rds N js fs).getD q.1 (0,0,0)).1 0)))::(73,.u (uB (decide ((q.2.2.1.getD ((rds N js fs).getD q.1 (0,0,0)).1 0)<0))))::[]) s
      (oc zA<|oc (zO (C:=cg (fRd ((rds N js fs).getD q.1 (0,0,0)))) 0 kA)<|oc (yK (C:=cg (fRd ((rds N js fs).getD q.1 (0,0,0)))) (k:=0) kA (h:=zKy))<|oc (zL (z:=1) (Cs:=ins q.2.2.1) (i:=((rds N js fs).getD q.1 (0,0,0)).1) (C:=wC [.int .i64 (q.2.2.1.getD ((rds N js fs).getD q.1 (0,0,0)).1 0)]) kA (qC hM) (y7 ht s) iiz)<|oc (z5 (C:=(wC [.int .i64 (q.2.2.1.getD ((rds N js fs).getD q.1 (0,0,0)).1 0)]).cf) kA iiz yT)<|oc (zJ .i64 (q.2.2.1.getD ((rds N js fs).getD q.1 (0,0,0)).1 0) 0 (decide ((q.2.2.1.getD ((rds N js fs).getD q.1 (0,0,0)).1 0)<0)) iiz iiz rfl rfl)<|zC) fun a qj s=>?_
     replace s:StS _ _ _ [⟨17,59,CU.agg (fRd ((rds N js fs).getD q.1 (0,0,0))),hi,true⟩] _ _ _ _:=s.freeze
     have J:=s.below
     replace I:=I.trans (J.mono I.size)
     replace hC:=hC.below J
     replace hS:=hS.below J
     replace O:=O.below J
     replace s:=s.anewB rfl rfl
     refine StS.cond s (decide ((q.2.2.1.getD ((rds N js fs).getD q.1 (0,0,0)).1 0)<0)) iiz (fun e=>?_) (fun e=>?_)
     .have hw:bfT q.2 ((rds N js fs).getD q.1 (0,0,0))=q.2:=by unfold bfT;rw[if_pos (xW e)]
      refine rG<|zP 2 ((62,.Z (uI (q.1:Int)))::(63,.u (uI ((q.1+1:Nat):Int)))::[]) s kA
       (oc zA<|oc (yL .i64 (q.1:Int) 1 ((q.1+1:Nat):Int) iiz iiz (wrap64 _ _ oA oA))<|zC) fun a w21 s=>?_
      replace s:=s.drop [16]
      refine yN (uI ((q.1+1:Nat):Int)) rfl s kA iiz fun a w s=>zF rfl ?_
      replace s:StS _ _ _ [⟨17,59,CU.agg (fRd ((rds N js fs).getD q.1 (0,0,0))),hi,true⟩] _ _ _ _:=s.freeze
      have J:=s.below
      replace I:=I.trans (J.mono I.size)
      replace hC:=hC.below J
      replace hS:=hS.below J
      replace O:=O.below J
      replace s:=s.anewB rfl rfl
      replace s:=s.popB
      exact⟨(q.1+1,q.2),(by show(rds N js fs).length-(q.1+1)<(rds N js fs).length-q.1;omega),h9,(by show _=((rds N js fs).take (q.1+1)).foldl _ _;rw[zAr _ _ (0,0,0) _ h9,<-hY];exact hw.symm),(by have h7:=hV.step (st:=q.2) (x:=((rds N js fs).getD q.1 (0,0,0)).1) (b:=((rds N js fs).getD q.1 (0,0,0)).2.1) (f:=((rds N js fs).getD q.1 (0,0,0)).2.2) hg.1 hg.2.1 hg.2.2;rw[show(((rds N js fs).getD q.1 (0,0,0)).1,((rds N js fs).getD q.1 (0,0,0)).2.1,((rds N js fs).getD q.1 (0,0,0)).2.2)=((rds N js fs).getD q.1 (0,0,0))from rfl,hw]at h7;exact h7),I,O,hC,hS,s.keepK _ (sH mz5<|sH mz6<|sH mz7<|sH mz8<|sH mz9<|sH zC1<|sH (.head _) fnz)⟩
     .have qa:=mB e
      have x2:QB ((q.2.1.getD ((rds N js fs).getD q.1 (0,0,0)).1 0)+((rds N js fs).getD q.1 (0,0,0)).2.2) 2:=hV.qb3 hB oA hP hg.2.2 qa
      refine nQ<|fK ?_
      have hW:=hC.row (n:=N) (by simp[hV.cl])
      have ht:=hS.row (n:=N) (by simp[hV.sl])
      have so:=s.old;have sg:=s.gr
      refine zB2 [] [⟨9,18,32, [.bool false,.slice none 0 0,.slice none 0 0],wK qj 32 (CU.len 3)⟩] 10 ((74,.Z (UF.eq (.slice (some ⟨gc,0,none⟩) N N)))::(75,.X (fRd ((rds N js fs).getD q.1 (0,0,0))) 0)::(76,.Z (uI ((((rds N js fs).getD q.1 (0,0,0)).1:Nat):Int)))::(77,.Y (fQN (q.2.1.getD ((rds N js fs).getD q.1 (0,0,0)).1 0)))::(78,.Z (fQN (q.2.1.getD ((rds N js fs).getD q.1 (0,0,0)).1 0)))::(79,.X (fRd ((rds N js fs).getD q.1 (0,0,0))) 2)::(80,.Z (fQN (((rds N js fs).getD q.1 (0,0,0)).2.2)))::(81,.s (SF.row 3 (rvs 2 [(q.2.1.getD ((rds N js fs).getD q.1 (0,0,0)).1 0),((rds N js fs).getD q.1 (0,0,0)).2.2])))::(82,.u (fQN ((q.2.1.getD ((rds N js fs).getD q.1 (0,0,0)).1 0)+((rds N js fs).getD q.1 (0,0,0)).2.2)))::(18,.s (wK qj 32 (CU.len 3)))::[]) hmix s (sH ⟨by show 9<10;decide,mz9,⟨_,_,_,rfl⟩,rZ,zGj (fun _=>rfl) rfl⟩ fnz) kA
       (oc zA<|oc (zO (C:=cg (fRd ((rds N js fs).getD q.1 (0,0,0)))) 0 kA)<|oc (yK (C:=cg (fRd ((rds N js fs).getD q.1 (0,0,0)))) (k:=0) kA (h:=zKy))<|oc (zL (z:=3) (Cs:=qns q.2.1) (i:=((rds N js fs).getD q.1 (0,0,0)).1) (C:=CU.agg (fQN (q.2.1.getD ((rds N js fs).getD q.1 (0,0,0)).1 0))) kA (zBO qc) (y7 hW s) iiz)<|oc (yJ (f:=fQN (q.2.1.getD ((rds N js fs).getD q.1 (0,0,0)).1 0)) 3 kA (hz:=yV _))<|oc (zO (C:=cg (fRd ((rds N js fs).getD q.1 (0,0,0)))) 2 kA)<|oc (jS (C:=cg (fRd ((rds N js fs).getD q.1 (0,0,0)))) (k:=2) 3 kA (h:=zJc))<|oc (y8 (fun u v W (hu:QNp (q.2.1.getD ((rds N js fs).getD q.1 (0,0,0)).1 0) u W) (hv:QNp (((rds N js fs).getD q.1 (0,0,0)).2.2) v W)=>zKY (m:=2) (wH hu qf) (wH hv qe)))<|oc (zK zD zQZ (fun u0 W J (h0:(SF.row 3 (rvs 2 [(q.2.1.getD ((rds N js fs).getD q.1 (0,0,0)).1 0),((rds N js fs).getD q.1 (0,0,0)).2.2])).p u0 W)=>zGb (m:=2) (p:=(q.2.1.getD ((rds N js fs).getD q.1 (0,0,0)).1 0)) (q:=((rds N js fs).getD q.1 (0,0,0)).2.2) h0 qf qe dA))<|oc (zGp (cs:=zR3) kA (zGj (fun _=>rfl) rfl))<|zC) fun Q' hQ a w22 s hr hd=>?_
      obtain⟨hn,hB18,e18,s⟩:=s.adoptA false 18 (hr (_,_) mz9) sg (fun y hy=>.inl (so y hy))
      refine yI (fQN ((q.2.1.getD ((rds N js fs).getD q.1 (0,0,0)).1 0)+((rds N js fs).getD q.1 (0,0,0)).2.2)) rfl s yO fun a w s=>zF rfl (hQ _ _ ?_)
      have hn18_:=s.inB_new (q:=hn) ⟨_,.head _,rfl,rfl⟩
      have q1: ¬hn=gc/\ ¬hn=gs:=by have h1:=hC.lt;have h2:=hS.lt;omega
      replace s:StS _ _ _ [⟨18,32,CU.agg (fQN ((q.2.1.getD ((rds N js fs).getD q.1 (0,0,0)).1 0)+((rds N js fs).getD q.1 (0,0,0)).2.2)),hn,true⟩,⟨17,59,CU.agg (fRd ((rds N js fs).getD q.1 (0,0,0))),hi,true⟩] _ _ _ _:=s.freeze
      have J:=s.below
      replace I:=I.trans (J.mono I.size)
      replace hC:=hC.below J
      replace hS:=hS.below J
      replace O:=O.below J
      replace s:=s.anewB rfl rfl
      refine fK ?_
      have hW:=hC.row (n:=N) (by simp[hV.cl])
      have ht:=hS.row (n:=N) (by simp[hV.sl])
      refine rgE ((83,.Z (UF.eq (.slice (some ⟨gs,0,none⟩) N N)))::(84,.X (fRd ((rds N js fs).getD q.1 (0,0,0))) 1)::(85,.Z (uI ((((rds N js fs).getD q.1 (0,0,0)).2.1:Nat):Int)))::(86,.s (wB (wC [.int .i64 (q.2.2.1.getD ((rds N js fs).getD q.1 (0,0,0)).2.1 0)]).cf))::(87,.Z (uI (q.2.2.1.getD ((rds N js fs).getD q.1 (0,0,0)).2.1 0)))::(88,.Z (uB (decide ((q.2.2.1.getD ((rds N js fs).getD q.1 (0,0,0)).2.1 0)<0))))::(89,.Z (uB (decide ((q.2.2.1.getD ((rds N js fs).getD q.1 (0,0,0)).2.1 0)<0))))::(90,.s (SF.imp ((decide ((q.2.2.1.getD ((rds N js fs).getD q.1 (0,0,0)).2.1 0)<0))=false) ((fQN ((q.2.1.getD ((rds N js fs).getD q.1 (0,0,0)).1 0)+((rds N js fs).getD q.1 (0,0,0)).2.2)).tS)))::(91,.s (SF.imp ((decide ((q.2.2.1.getD ((rds N js fs).getD q.1 (0,0,0)).2.1 0)<0))=false) ((UF.eq (.slice (some ⟨gs,0,none⟩) N N)).tS)))::(92,.s (SF.imp ((decide ((q.2.2.1.getD ((rds N js fs).getD q.1 (0,0,0)).2.1 0)<0))=false) (wB ((CU.agg (fRd ((rds N js fs).getD q.1 (0,0,0)))).cf.at 0))))::(93,.s (SF.imp ((decide ((q.2.2.1.getD ((rds N js fs).getD q.1 (0,0,0)).2.1 0)<0))=false) ((uI ((((rds N js fs).getD q.1 (0,0,0)).1:Nat):Int)).tS)))::(94,.s (SF.imp ((decide ((q.2.2.1.getD ((rds N js fs).getD q.1 (0,0,0)).2.1 0)<0))=false) (wB (wC [.int .i64 (q.2.2.1.getD ((rds N js fs).getD q.1 (0,0,0)).1 0)]).cf)))::(95,.s (SF.imp ((decide ((q.2.2.1.getD ((rds N js fs).getD q.1 (0,0,0)).2.1 0)<0))=false) ((uI (q.2.2.1.getD ((rds N js fs).getD q.1 (0,0,0)).1 0)).tS)))::(96,.s (SF.imp ((decide ((q.2.2.1.getD ((rds N js fs).getD q.1 (0,0,0)).2.1 0)<0))=false) ((uI ((q.2.2.1.getD ((rds N js fs).getD q.1 (0,0,0)).1 0)+1)).tS)))::(97,.s (SF.imp ((decide ((q.2.2.1.getD ((rds N js fs).getD q.1 (0,0,0)).2.1 0)<0))=false) ((UF.eq (.slice (some ⟨gc,0,none⟩) N N)).tS)))::(98,.s (SF.imp ((decide ((q.2.2.1.getD ((rds N js fs).getD q.1 (0,0,0)).2.1 0)<0))=false) (wB ((CU.agg (fRd ((rds N js fs).getD q.1 (0,0,0)))).cf.at 1))))::(99,.s (SF.imp ((decide ((q.2.2.1.getD ((rds N js fs).getD q.1 (0,0,0)).2.1 0)<0))=false) ((uI ((((rds N js fs).getD q.1 (0,0,0)).2.1:Nat):Int)).tS)))::(100,.s (SF.imp ((decide ((q.2.2.1.getD ((rds N js fs).getD q.1 (0,0,0)).2.1 0)<0))=false) (wB (cg (fQN (q.2.1.getD ((rds N js fs).getD q.1 (0,0,0)).2.1 0))))))::(101,.s (SF.imp ((decide ((q.2.2.1.getD ((rds N js fs).getD q.1 (0,0,0)).2.1 0)<0))=false) ((fQN (q.2.1.getD ((rds N js fs).getD q.1 (0,0,0)).2.1 0)).tS)))::(102,.s (SF.imp ((decide ((q.2.2.1.getD ((rds N js fs).getD q.1 (0,0,0)).2.1 0)<0))=false) ((UF.eq (.slice (some ⟨gs,0,none⟩) N N)).tS)))::(103,.s (SF.imp ((decide ((q.2.2.1.getD ((rds N js fs).getD q.1 (0,0,0)).2.1 0)<0))=false) (wB ((CU.agg (fRd ((rds N js fs).getD q.1 (0,0,0)))).cf.at 1))))::(104,.s (SF.imp ((decide ((q.2.2.1.getD ((rds N js fs).getD q.1 (0,0,0)).2.1 0)<0))=false) ((uI ((((rds N js fs).getD q.1 (0,0,0)).2.1:Nat):Int)).tS)))::(105,.s (SF.imp ((decide ((q.2.2.1.getD ((rds N js fs).getD q.1 (0,0,0)).2.1 0)<0))=false) (wB (wC [.int .i64 (q.2.2.1.getD ((rds N js fs).getD q.1 (0,0,0)).2.1 0)]).cf)))::(106,.s (SF.imp ((decide ((q.2.2.1.getD ((rds N js fs).getD q.1 (0,0,0)).2.1 0)<0))=false) ((uI (q.2.2.1.getD ((rds N js fs).getD q.1 (0,0,0)).2.1 0)).tS)))::(107,.s (SF.imp ((decide ((q.2.2.1.getD ((rds N js fs).getD q.1 (0,0,0)).2.1 0)<0))=false) ((uB (zE5 ((q.2.1.getD ((rds N js fs).getD q.1 (0,0,0)).1 0)+((rds N js fs).getD q.1 (0,0,0)).2.2) ((q.2.2.1.getD ((rds N js fs).getD q.1 (0,0,0)).1 0)+1) (q.2.1.getD ((rds N js fs).getD q.1 (0,0,0)).2.1 0) (q.2.2.1.getD ((rds N js fs).getD q.1 (0,0,0)).2.1 0))).tS)))::(108,.u (uB ((decide ((q.2.2.1.getD ((rds N js fs).getD q.1 (0,0,0)).2.1 0)<0))||(zE5 ((q.2.1.getD ((rds N js fs).getD q.1 (0,0,0)).1 0)+((rds N js fs).getD q.1 (0,0,0)).2.2) ((q.2.2.1.getD ((rds N js fs).getD q.1 (0,0,0)).1 0)+1) (q.2.1.getD ((rds N js fs).getD q.1 (0,0,0)).2.1 0) (q.2.2.1.getD ((rds N js fs).getD q.1 (0,0,0)).2.1 0)))))::[]) s
       (oc zA<|oc (zO (C:=cg (fRd ((rds N js fs).getD q.1 (0,0,0)))) 1 kA)<|oc (yK (C:=cg (fRd ((rds N js fs).getD q.1 (0,0,0)))) (k:=1) kA (h:=zMT))<|oc (zL (z:=1) (Cs:=ins q.2.2.1) (i:=((rds N js fs).getD q.1 (0,0,0)).2.1) (C:=wC [.int .i64 (q.2.2.1.getD ((rds N js fs).getD q.1 (0,0,0)).2.1 0)]) kA (qC hI) (y7 ht s) iiz)<|oc (z5 (C:=(wC [.int .i64 (q.2.2.1.getD ((rds N js fs).getD q.1 (0,0,0)).2.1 0)]).cf) kA iiz yT)<|oc (zJ .i64 (q.2.2.1.getD ((rds N js fs).getD q.1 (0,0,0)).2.1 0) 0 (decide ((q.2.2.1.getD ((rds N js fs).getD q.1 (0,0,0)).2.1 0)<0)) iiz iiz rfl rfl)<|oc zA<|oc (zB 89 (decide ((q.2.2.1.getD ((rds N js fs).getD q.1 (0,0,0)).2.1 0)<0)) kA iiz (fun e=>zI [] ((fQN ((q.2.1.getD ((rds N js fs).getD q.1 (0,0,0)).1 0)+((rds N js fs).getD q.1 (0,0,0)).2.2)).tS) fnz (fun _ _ h _=>h) kA (yJ (f:=fQN ((q.2.1.getD ((rds N js fs).getD q.1 (0,0,0)).1 0)+((rds N js fs).getD q.1 (0,0,0)).2.2)) 3 kA (hz:=yV _))) (fun e W h=>absurd h e))<|oc (zB 89 (decide ((q.2.2.1.getD ((rds N js fs).getD q.1 (0,0,0)).2.1 0)<0)) kA iiz (fun e=>zI [] ((UF.eq (.slice (some ⟨gs,0,none⟩) N N)).tS) fnz (fun _ _ h _=>h) kA zA) (fun e W h=>absurd h e))<|oc (zB 89 (decide ((q.2.2.1.getD ((rds N js fs).getD q.1 (0,0,0)).2.1 0)<0)) kA iiz (fun e=>zI [] (wB ((CU.agg (fRd ((rds N js fs).getD q.1 (0,0,0)))).cf.at 0)) fnz (fun _ _ h _=>h) kA (zO (C:=cg (fRd ((rds N js fs).getD q.1 (0,0,0)))) 0 kA)) (fun e W h=>absurd h e))<|oc (zB 89 (decide ((q.2.2.1.getD ((rds N js fs).getD q.1 (0,0,0)).2.1 0)<0)) kA iiz (fun e=>zI [(92,wB ((CU.agg (fRd ((rds N js fs).getD q.1 (0,0,0)))).cf.at 0))] ((uI ((((rds N js fs).getD q.1 (0,0,0)).1:Nat):Int)).tS) (sH (fun v W h=>zG (c:=(decide ((q.2.2.1.getD ((rds N js fs).getD q.1 (0,0,0)).2.1 0)<0))=false) (f:=wB ((CU.agg (fRd ((rds N js fs).getD q.1 (0,0,0)))).cf.at 0)) e h) fnz) (fun _ _ h _=>h) kA (yK (C:=cg (fRd ((rds N js fs).getD q.1 (0,0,0)))) (k:=0) kA (h:=zKy))) (fun e W h=>absurd h e))<|oc (zB 89 (decide ((q.2.2.1.getD ((rds N js fs).getD q.1 (0,0,0)).2.1 0)<0)) kA iiz (fun e=>zI [(91,(UF.eq (.slice (some ⟨gs,0,none⟩) N N)).tS),(93,(uI ((((rds N js fs).getD q.1 (0,0,0)).1:Nat):Int)).tS)] (wB (wC [.int .i64 (q.2.2.1.getD ((rds N js fs).getD q.1 (0,0,0)).1 0)]).cf) (sH (fun v W h=>zG (c:=(decide ((q.2.2.1.getD ((rds N js fs).getD q.1 (0,0,0)).2.1 0)<0))=false) (f:=(UF.eq (.slice (some ⟨gs,0,none⟩) N N)).tS) e h)<|sH (fun v W h=>zG (c:=(decide ((q.2.2.1.getD ((rds N js fs).getD q.1 (0,0,0)).2.1 0)<0))=false) (f:=(uI ((((rds N js fs).getD q.1 (0,0,0)).1:Nat):Int)).tS) e h) fnz) (fun _ _ h _=>h) kA (zL (z:=1) (Cs:=ins q.2.2.1) (i:=((rds N js fs).getD q.1 (0,0,0)).1) (C:=wC [.int .i64 (q.2.2.1.getD ((rds N js fs).getD q.1 (0,0,0)).1 0)]) kA (qC hM) (y7 ht s) iiz)) (fun e W h=>absurd h e))<|oc (zB 89 (decide ((q.2.2.1.getD ((rds N js fs).getD q.1 (0,0,0)).2.1 0)<0)) kA iiz (fun e=>zI [(94,wB (wC [.int .i64 (q.2.2.1.getD ((rds N js fs).getD q.1 (0,0,0)).1 0)]).cf)] ((uI (q.2.2.1.getD ((rds N js fs).getD q.1 (0,0,0)).1 0)).tS) (sH (fun v W h=>zG (c:=(decide ((q.2.2.1.getD ((rds N js fs).getD q.1 (0,0,0)).2.1 0)<0))=false) (f:=wB (wC [.int .i64 (q.2.2.1.getD ((rds N js fs).getD q.1 (0,0,0)).1 0)]).cf) e h) fnz) (fun _ _ h _=>h) kA (z5 (C:=(wC [.int .i64 (q.2.2.1.getD ((rds N js fs).getD q.1 (0,0,0)).1 0)]).cf) kA iiz yT)) (fun e W h=>absurd h e))<|oc (zB 89 (decide ((q.2.2.1.getD ((rds N js fs).getD q.1 (0,0,0)).2.1 0)<0)) kA iiz (fun e=>zI [(95,(uI (q.2.2.1.getD ((rds N js fs).getD q.1 (0,0,0)).1 0)).tS)] ((uI ((q.2.2.1.getD ((rds N js fs).getD q.1 (0,0,0)).1 0)+1)).tS) (sH (fun v W h=>zG (c:=(decide ((q.2.2.1.getD ((rds N js fs).getD q.1 (0,0,0)).2.1 0)<0))=false) (f:=(uI (q.2.2.1.getD ((rds N js fs).getD q.1 (0,0,0)).1 0)).tS) e h) fnz) (fun _ _ h _=>h) kA (yL .i64 (q.2.2.1.getD ((rds N js fs).getD q.1 (0,0,0)).1 0) 1 ((q.2.2.1.getD ((rds N js fs).getD q.1 (0,0,0)).1 0)+1) iiz iiz (zAE _ oA oA))) (fun e W h=>absurd h e))<|oc (zB 89 (decide ((q.2.2.1.getD ((rds N js fs).getD q.1 (0,0,0)).2.1 0)<0)) kA iiz (fun e=>zI [] ((UF.eq (.slice (some ⟨gc,0,none⟩) N N)).tS) fnz (fun _ _ h _=>h) kA zA) (fun e W h=>absurd h e))<|oc (zB 89 (decide ((q.2.2.1.getD ((rds N js fs).getD q.1 (0,0,0)).2.1 0)<0)) kA iiz (fun e=>zI [] (wB ((CU.agg (fRd ((rds N js fs).getD q.1 (0,0,0)))).cf.at 1)) fnz (fun _ _ h _=>h) kA (zO (C:=cg (fRd ((rds N js fs).getD q.1 (0,0,0)))) 1 kA)) (fun e W h=>absurd h e))<|oc (zB 89 (decide ((q.2.2.1.getD ((rds N js fs).getD q.1 (0,0,0)).2.1 0)<0)) kA iiz (fun e=>zI [(98,wB ((CU.agg (fRd ((rds N js fs).getD q.1 (0,0,0)))).cf.at 1))] ((uI ((((rds N js fs).getD q.1 (0,0,0)).2.1:Nat):Int)).tS) (sH (fun v W h=>zG (c:=(decide ((q.2.2.1.getD ((rds N js fs).getD q.1 (0,0,0)).2.1 0)<0))=false) (f:=wB ((CU.agg (fRd ((rds N js fs).getD q.1 (0,0,0)))).cf.at 1)) e h) fnz) (fun _ _ h _=>h) kA (yK (C:=cg (fRd ((rds N js fs).getD q.1 (0,0,0)))) (k:=1) kA (h:=zMT))) (fun e W h=>absurd h e))<|oc (zB 89 (decide ((q.2.2.1.getD ((rds N js fs).getD q.1 (0,0,0)).2.1 0)<0)) kA iiz (fun e=>zI [(97,(UF.eq (.slice (some ⟨gc,0,none⟩) N N)).tS),(99,(uI ((((rds N js fs).getD q.1 (0,0,0)).2.1:Nat):Int)).tS)] (wB (cg (fQN (q.2.1.getD ((rds N js fs).getD q.1 (0,0,0)).2.1 0)))) (sH (fun v W h=>zG (c:=(decide ((q.2.2.1.getD ((rds N js fs).getD q.1 (0,0,0)).2.1 0)<0))=false) (f:=(UF.eq (.slice (some ⟨gc,0,none⟩) N N)).tS) e h)<|sH (fun v W h=>zG (c:=(decide ((q.2.2.1.getD ((rds N js fs).getD q.1 (0,0,0)).2.1 0)<0))=false) (f:=(uI ((((rds N js fs).getD q.1 (0,0,0)).2.1:Nat):Int)).tS) e h) fnz) (fun _ _ h _=>h) kA (zL (z:=3) (Cs:=qns q.2.1) (i:=((rds N js fs).getD q.1 (0,0,0)).2.1) (C:=CU.agg (fQN (q.2.1.getD ((rds N js fs).getD q.1 (0,0,0)).2.1 0))) kA (zBO q0) (y7 hW s) iiz)) (fun e W h=>absurd h e))<|oc (zB 89 (decide ((q.2.2.1.getD ((rds N js fs).getD q.1 (0,0,0)).2.1 0)<0)) kA iiz (fun e=>zI [(100,wB (cg (fQN (q.2.1.getD ((rds N js fs).getD q.1 (0,0,0)).2.1 0))))] ((fQN (q.2.1.getD ((rds N js fs).getD q.1 (0,0,0)).2.1 0)).tS) (sH (fun v W h=>zG (c:=(decide ((q.2.2.1.getD ((rds N js fs).getD q.1 (0,0,0)).2.1 0)<0))=false) (f:=wB (cg (fQN (q.2.1.getD ((rds N js fs).getD q.1 (0,0,0)).2.1 0)))) e h) fnz) (fun _ _ h _=>h) kA (yJ (f:=fQN (q.2.1.getD ((rds N js fs).getD q.1 (0,0,0)).2.1 0)) 3 kA (hz:=yV _))) (fun e W h=>absurd h e))<|oc (zB 89 (decide ((q.2.2.1.getD ((rds N js fs).getD q.1 (0,0,0)).2.1 0)<0)) kA iiz (fun e=>zI [] ((UF.eq (.slice (some ⟨gs,0,none⟩) N N)).tS) fnz (fun _ _ h _=>h) kA zA) (fun e W h=>absurd h e))<|oc (zB 89 (decide ((q.2.2.1.getD ((rds N js fs).getD q.1 (0,0,0)).2.1 0)<0)) kA iiz (fun e=>zI [] (wB ((CU.agg (fRd ((rds N js fs).getD q.1 (0,0,0)))).cf.at 1)) fnz (fun _ _ h _=>h) kA (zO (C:=cg (fRd ((rds N js fs).getD q.1 (0,0,0)))) 1 kA)) (fun e W h=>absurd h e))<|oc (zB 89 (decide ((q.2.2.1.getD ((rds N js fs).getD q.1 (0,0,0)).2.1 0)<0)) kA iiz (fun e=>zI [(103,wB ((CU.agg (fRd ((rds N js fs).getD q.1 (0,0,0)))).cf.at 1))] ((uI ((((rds N js fs).getD q.1 (0,0,0)).2.1:Nat):Int)).tS) (sH (fun v W h=>zG (c:=(decide ((q.2.2.1.getD ((rds N js fs).getD q.1 (0,0,0)).2.1 0)<0))=false) (f:=wB ((CU.agg (fRd ((rds N js fs).getD q.1 (0,0,0)))).cf.at 1)) e h) fnz) (fun _ _ h _=>h) kA (yK (C:=cg (fRd ((rds N js fs).getD q.1 (0,0,0)))) (k:=1) kA (h:=zMT))) (fun e W h=>absurd h e))<|oc (zB 89 (decide ((q.2.2.1.getD ((rds N js fs).getD q.1 (0,0,0)).2.1 0)<0)) kA iiz (fun e=>zI [(102,(UF.eq (.slice (some ⟨gs,0,none⟩) N N)).tS),(104,(uI ((((rds N js fs).getD q.1 (0,0,0)).2.1:Nat):Int)).tS)] (wB (wC [.int .i64 (q.2.2.1.getD ((rds N js fs).getD q.1 (0,0,0)).2.1 0)]).cf) (sH (fun v W h=>zG (c:=(decide ((q.2.2.1.getD ((rds N js fs).getD q.1 (0,0,0)).2.1 0)<0))=false) (f:=(UF.eq (.slice (some ⟨gs,0,none⟩) N N)).tS) e h)<|sH (fun v W h=>zG (c:=(decide ((q.2.2.1.getD ((rds N js fs).getD q.1 (0,0,0)).2.1 0)<0))=false) (f:=(uI ((((rds N js fs).getD q.1 (0,0,0)).2.1:Nat):Int)).tS) e h) fnz) (fun _ _ h _=>h) kA (zL (z:=1) (Cs:=ins q.2.2.1) (i:=((rds N js fs).getD q.1 (0,0,0)).2.1) (C:=wC [.int .i64 (q.2.2.1.getD ((rds N js fs).getD q.1 (0,0,0)).2.1 0)]) kA (qC hI) (y7 ht s) iiz)) (fun e W h=>absurd h e))<|oc (zB 89 (decide ((q.2.2.1.getD ((rds N js fs).getD q.1 (0,0,0)).2.1 0)<0)) kA iiz (fun e=>zI [(105,wB (wC [.int .i64 (q.2.2.1.getD ((rds N js fs).getD q.1 (0,0,0)).2.1 0)]).cf)] ((uI (q.2.2.1.getD ((rds N js fs).getD q.1 (0,0,0)).2.1 0)).tS) (sH (fun v W h=>zG (c:=(decide ((q.2.2.1.getD ((rds N js fs).getD q.1 (0,0,0)).2.1 0)<0))=false) (f:=wB (wC [.int .i64 (q.2.2.1.getD ((rds N js fs).getD q.1 (0,0,0)).2.1 0)]).cf) e h) fnz) (fun _ _ h _=>h) kA (z5 (C:=(wC [.int .i64 (q.2.2.1.getD ((rds N js fs).getD q.1 (0,0,0)).2.1 0)]).cf) kA iiz yT)) (fun e W h=>absurd h e))<|oc (zB 89 (decide ((q.2.2.1.getD ((rds N js fs).getD q.1 (0,0,0)).2.1 0)<0)) kA iiz (fun e=>zI [(90,(fQN ((q.2.1.getD ((rds N js fs).getD q.1 (0,0,0)).1 0)+((rds N js fs).getD q.1 (0,0,0)).2.2)).tS),(96,(uI ((q.2.2.1.getD ((rds N js fs).getD q.1 (0,0,0)).1 0)+1)).tS),(101,(fQN (q.2.1.getD ((rds N js fs).getD q.1 (0,0,0)).2.1 0)).tS),(106,(uI (q.2.2.1.getD ((rds N js fs).getD q.1 (0,0,0)).2.1 0)).tS)] ((uB (zE5 ((q.2.1.getD ((rds N js fs).getD q.1 (0,0,0)).1 0)+((rds N js fs).getD q.1 (0,0,0)).2.2) ((q.2.2.1.getD ((rds N js fs).getD q.1 (0,0,0)).1 0)+1) (q.2.1.getD ((rds N js fs).getD q.1 (0,0,0)).2.1 0) (q.2.2.1.getD ((rds N js fs).getD q.1 (0,0,0)).2.1 0))).tS) (sH (fun v W h=>zG (c:=(decide ((q.2.2.1.getD ((rds N js fs).getD q.1 (0,0,0)).2.1 0)<0))=false) (f:=(fQN ((q.2.1.getD ((rds N js fs).getD q.1 (0,0,0)).1 0)+((rds N js fs).getD q.1 (0,0,0)).2.2)).tS) e h)<|sH (fun v W h=>zG (c:=(decide ((q.2.2.1.getD ((rds N js fs).getD q.1 (0,0,0)).2.1 0)<0))=false) (f:=(uI ((q.2.2.1.getD ((rds N js fs).getD q.1 (0,0,0)).1 0)+1)).tS) e h)<|sH (fun v W h=>zG (c:=(decide ((q.2.2.1.getD ((rds N js fs).getD q.1 (0,0,0)).2.1 0)<0))=false) (f:=(fQN (q.2.1.getD ((rds N js fs).getD q.1 (0,0,0)).2.1 0)).tS) e h)<|sH (fun v W h=>zG (c:=(decide ((q.2.2.1.getD ((rds N js fs).getD q.1 (0,0,0)).2.1 0)<0))=false) (f:=(uI (q.2.2.1.getD ((rds N js fs).getD q.1 (0,0,0)).2.1 0)).tS) e h) fnz) (fun _ _ h _=>h) kA (zCJ zD zTD (fun u0 u1 u2 u3 W J (h0:QNp ((q.2.1.getD ((rds N js fs).getD q.1 (0,0,0)).1 0)+((rds N js fs).getD q.1 (0,0,0)).2.2) u0 W) (h1:u1=.int .i64 ((q.2.2.1.getD ((rds N js fs).getD q.1 (0,0,0)).1 0)+1)) (h2:QNp (q.2.1.getD ((rds N js fs).getD q.1 (0,0,0)).2.1 0) u2 W) (h3:u3=.int .i64 (q.2.2.1.getD ((rds N js fs).getD q.1 (0,0,0)).2.1 0))=>zLp h0 h1 h2 h3 x2 x3))) (fun e W h=>absurd h e))<|oc (zT (decide ((q.2.2.1.getD ((rds N js fs).getD q.1 (0,0,0)).2.1 0)<0)) iiz (fun e v W h=>qH h e) (fun e v W h=>yX (zG e h) e))<|zC) fun a w23 s=>?_
      replace s:StS _ _ _ [⟨18,32,CU.agg (fQN ((q.2.1.getD ((rds N js fs).getD q.1 (0,0,0)).1 0)+((rds N js fs).getD q.1 (0,0,0)).2.2)),hn,true⟩,⟨17,59,CU.agg (fRd ((rds N js fs).getD q.1 (0,0,0))),hi,true⟩] _ _ _ _:=s.freeze
      have J:=s.below
      replace I:=I.trans (J.mono I.size)
      replace hC:=hC.below J
      replace hS:=hS.below J
      replace O:=O.below J
      replace s:=s.anewB rfl rfl
      refine StS.cond s ((decide ((q.2.2.1.getD ((rds N js fs).getD q.1 (0,0,0)).2.1 0)<0))||(zE5 ((q.2.1.getD ((rds N js fs).getD q.1 (0,0,0)).1 0)+((rds N js fs).getD q.1 (0,0,0)).2.2) ((q.2.2.1.getD ((rds N js fs).getD q.1 (0,0,0)).1 0)+1) (q.2.1.getD ((rds N js fs).getD q.1 (0,0,0)).2.1 0) (q.2.2.1.getD ((rds N js fs).getD q.1 (0,0,0)).2.1 0))) iiz (fun e=>?_) (fun e=>?_)
      .have hw:bfT q.2 ((rds N js fs).getD q.1 (0,0,0))=(q.2.1.set ((rds N js fs).getD q.1 (0,0,0)).2.1 ((q.2.1.getD ((rds N js fs).getD q.1 (0,0,0)).1 0)+((rds N js fs).getD q.1 (0,0,0)).2.2),q.2.2.1.set ((rds N js fs).getD q.1 (0,0,0)).2.1 ((q.2.2.1.getD ((rds N js fs).getD q.1 (0,0,0)).1 0)+1),true):=by unfold bfT;rw[if_neg qa,if_pos];unfold bfB;unfold zE5 at e;exact e
       refine fK<|rgK 4 ((109,.u (UF.eq (.slice (some ⟨gc,0,none⟩) N N)))::(110,.X (fRd ((rds N js fs).getD q.1 (0,0,0))) 1)::(111,.u (uI ((((rds N js fs).getD q.1 (0,0,0)).2.1:Nat):Int)))::(112,.u (fQN ((q.2.1.getD ((rds N js fs).getD q.1 (0,0,0)).1 0)+((rds N js fs).getD q.1 (0,0,0)).2.2)))::[]) s
        (oc zA<|oc (zO (C:=cg (fRd ((rds N js fs).getD q.1 (0,0,0)))) 1 kA)<|oc (yK (C:=cg (fRd ((rds N js fs).getD q.1 (0,0,0)))) (k:=1) kA (h:=zMT))<|oc (yJ (f:=fQN ((q.2.1.getD ((rds N js fs).getD q.1 (0,0,0)).1 0)+((rds N js fs).getD q.1 (0,0,0)).2.2)) 3 kA (hz:=yV _))<|zC) fun a w24 s=>zBD (UF.eq (.pointer (some ⟨gc,((rds N js fs).getD q.1 (0,0,0)).2.1*3,none⟩))) rfl s kA (qQ (z:=3) (g:=gc) (nn:=N) (cap:=N) (i:=((rds N js fs).getD q.1 (0,0,0)).2.1) kA hJ iiz iiz) kA fun a w s=>?_
       have J:=s.below
       replace I:=I.trans (J.mono I.size)
       replace hC:=hC.below J
       replace hS:=hS.below J
       replace O:=O.below J
       refine zAF (g:=gc) (i:=((rds N js fs).getD q.1 (0,0,0)).2.1) (cap:=N) (z:=3) (e:=32) (CU.agg (fQN ((q.2.1.getD ((rds N js fs).getD q.1 (0,0,0)).1 0)+((rds N js fs).getD q.1 (0,0,0)).2.2))) rfl s rfl rfl hC (by simpa using q0) kA (s.fct (.tmp 113)) (zBS (s.fct (.tmp 112))) (sH q1.1<|sH q2.1 fnz) fun w hc hl ho s=>?_
       replace I:=yD I hc (fun q hq=>by rw[hq];exact hO)
       replace O:=O.keep (fun k hk=>hc.block k (O.lt k hk).2 (fun hh=>zX (qP O hk).2.choose_spec.1 hC.at.choose_spec dA hh)) hl
       replace hS:=hS.keep (hc.block _ hS.lt (fun hh=>zX hS.at.choose_spec hC.at.choose_spec dA hh)) hl
       replace hC:=ho
       rw[zLu]at hC
       refine zF rfl ?_
       replace s:StS _ _ _ [⟨18,32,CU.agg (fQN ((q.2.1.getD ((rds N js fs).getD q.1 (0,0,0)).1 0)+((rds N js fs).getD q.1 (0,0,0)).2.2)),hn,true⟩,⟨17,59,CU.agg (fRd ((rds N js fs).getD q.1 (0,0,0))),hi,true⟩] _ _ _ _:=s.freeze
       have J:=s.below
       replace I:=I.trans (J.mono I.size)
       replace hC:=hC.below J
       replace hS:=hS.below J
       replace O:=O.below J
       replace s:=s.anewB rfl rfl
       refine fK ?_
       have ht:=hS.row (n:=N) (by simp[hV.sl])
       refine jR [0,3] 9 ((114,.u (UF.eq (.slice (some ⟨gs,0,none⟩) N N)))::(115,.X (fRd ((rds N js fs).getD q.1 (0,0,0))) 1)::(116,.u (uI ((((rds N js fs).getD q.1 (0,0,0)).2.1:Nat):Int)))::(117,.Z (UF.eq (.slice (some ⟨gs,0,none⟩) N N)))::(118,.X (fRd ((rds N js fs).getD q.1 (0,0,0))) 0)::(119,.Z (uI ((((rds N js fs).getD q.1 (0,0,0)).1:Nat):Int)))::(120,.s (wB (wC [.int .i64 (q.2.2.1.getD ((rds N js fs).getD q.1 (0,0,0)).1 0)]).cf))::(121,.Z (uI (q.2.2.1.getD ((rds N js fs).getD q.1 (0,0,0)).1 0)))::(122,.u (uI ((q.2.2.1.getD ((rds N js fs).getD q.1 (0,0,0)).1 0)+1)))::[]) hmix s kA
        (oc zA<|oc (zO (C:=cg (fRd ((rds N js fs).getD q.1 (0,0,0)))) 1 kA)<|oc (yK (C:=cg (fRd ((rds N js fs).getD q.1 (0,0,0)))) (k:=1) kA (h:=zMT))<|oc zA<|oc (zO (C:=cg (fRd ((rds N js fs).getD q.1 (0,0,0)))) 0 kA)<|oc (yK (C:=cg (fRd ((rds N js fs).getD q.1 (0,0,0)))) (k:=0) kA (h:=zKy))<|oc (zL (z:=1) (Cs:=ins q.2.2.1) (i:=((rds N js fs).getD q.1 (0,0,0)).1) (C:=wC [.int .i64 (q.2.2.1.getD ((rds N js fs).getD q.1 (0,0,0)).1 0)]) kA (qC hM) (y7 ht s) iiz)<|oc (z5 (C:=(wC [.int .i64 (q.2.2.1.getD ((rds N js fs).getD q.1 (0,0,0)).1 0)]).cf) kA iiz yT)<|oc (yL .i64 (q.2.2.1.getD ((rds N js fs).getD q.1 (0,0,0)).1 0) 1 ((q.2.2.1.getD ((rds N js fs).getD q.1 (0,0,0)).1 0)+1) iiz iiz (zAE _ oA oA))<|zC) fun Q' hQ a w25 s=>zBD (UF.eq (.pointer (some ⟨gs,((rds N js fs).getD q.1 (0,0,0)).2.1*1,none⟩))) rfl s kA (qQ (z:=1) (g:=gs) (nn:=N) (cap:=N) (i:=((rds N js fs).getD q.1 (0,0,0)).2.1) kA hJ iiz iiz) kA fun a w s=>?_
       have J:=s.below
       replace I:=I.trans (J.mono I.size)
       replace hC:=hC.below J
       replace hS:=hS.below J
       replace O:=O.below J
       refine zAF (g:=gs) (i:=((rds N js fs).getD q.1 (0,0,0)).2.1) (cap:=N) (z:=1) (e:=3) (wC [.int .i64 ((q.2.2.1.getD ((rds N js fs).getD q.1 (0,0,0)).1 0)+1)]) rfl s rfl rfl hS (by simpa using hI) kA (s.fct (.tmp 123)) (jY (s.fct (.tmp 122)) rfl rfl rfl) (sH q1.2<|sH q2.2 fnz) fun w hc hl ho s=>?_
       replace I:=yD I hc (fun q hq=>by rw[hq];exact hF)
       replace O:=O.keep (fun k hk=>hc.block k (O.lt k hk).2 (fun hh=>zX (qP O hk).2.choose_spec.1 hS.at.choose_spec dA hh)) hl
       replace hC:=hC.keep (hc.block _ hC.lt (fun hh=>zX hC.at.choose_spec hS.at.choose_spec dA hh)) hl
       replace hS:=ho
       rw[zBA]at hS
       refine zF rfl (hQ _ _ ?_)
       replace s:StS _ _ _ [⟨18,32,CU.agg (fQN ((q.2.1.getD ((rds N js fs).getD q.1 (0,0,0)).1 0)+((rds N js fs).getD q.1 (0,0,0)).2.2)),hn,true⟩,⟨17,59,CU.agg (fRd ((rds N js fs).getD q.1 (0,0,0))),hi,true⟩] _ _ _ _:=s.freeze
       have J:=s.below
       replace I:=I.trans (J.mono I.size)
       replace hC:=hC.below J
       replace hS:=hS.below J
       replace O:=O.below J
       replace s:=s.anewB rfl rfl
       replace s:=s.drop [15]
       refine rgE ((15,.u (uB true))::[]) s
        (oc zE<|zC) fun a w26 s=>?_
       replace s:StS _ _ _ [⟨18,32,CU.agg (fQN ((q.2.1.getD ((rds N js fs).getD q.1 (0,0,0)).1 0)+((rds N js fs).getD q.1 (0,0,0)).2.2)),hn,true⟩,⟨17,59,CU.agg (fRd ((rds N js fs).getD q.1 (0,0,0))),hi,true⟩] _ _ _ _:=s.freeze
       have J:=s.below
       replace I:=I.trans (J.mono I.size)
       replace hC:=hC.below J
       replace hS:=hS.below J
       replace O:=O.below J
       replace s:=s.anewB rfl rfl
       refine zP 2 ((62,.Z (uI (q.1:Int)))::(63,.u (uI ((q.1+1:Nat):Int)))::[]) s kA
        (oc zA<|oc (yL .i64 (q.1:Int) 1 ((q.1+1:Nat):Int) iiz iiz (wrap64 _ _ oA oA))<|zC) fun a w27 s=>?_
       replace s:=s.drop [16]
       refine yN (uI ((q.1+1:Nat):Int)) rfl s kA iiz fun a w s=>zF rfl ?_
       replace s:StS _ _ _ [⟨18,32,CU.agg (fQN ((q.2.1.getD ((rds N js fs).getD q.1 (0,0,0)).1 0)+((rds N js fs).getD q.1 (0,0,0)).2.2)),hn,true⟩,⟨17,59,CU.agg (fRd ((rds N js fs).getD q.1 (0,0,0))),hi,true⟩] _ _ _ _:=s.freeze
       have J:=s.below
       replace I:=I.trans (J.mono I.size)
       replace hC:=hC.below J
       replace hS:=hS.below J
       replace O:=O.below J
       replace s:=s.anewB rfl rfl
       replace s:=s.popB
       replace s:=s.popB
       exact⟨(q.1+1,(q.2.1.set ((rds N js fs).getD q.1 (0,0,0)).2.1 ((q.2.1.getD ((rds N js fs).getD q.1 (0,0,0)).1 0)+((rds N js fs).getD q.1 (0,0,0)).2.2),q.2.2.1.set ((rds N js fs).getD q.1 (0,0,0)).2.1 ((q.2.2.1.getD ((rds N js fs).getD q.1 (0,0,0)).1 0)+1),true)),(by show(rds N js fs).length-(q.1+1)<(rds N js fs).length-q.1;omega),h9,(by show _=((rds N js fs).take (q.1+1)).foldl _ _;rw[zAr _ _ (0,0,0) _ h9,<-hY];exact hw.symm),(by have h7:=hV.step (st:=q.2) (x:=((rds N js fs).getD q.1 (0,0,0)).1) (b:=((rds N js fs).getD q.1 (0,0,0)).2.1) (f:=((rds N js fs).getD q.1 (0,0,0)).2.2) hg.1 hg.2.1 hg.2.2;rw[show(((rds N js fs).getD q.1 (0,0,0)).1,((rds N js fs).getD q.1 (0,0,0)).2.1,((rds N js fs).getD q.1 (0,0,0)).2.2)=((rds N js fs).getD q.1 (0,0,0))from rfl,hw]at h7;exact h7),I,O,hC,hS,s.keepK _ (sH (.tail _ zFL)<|sH (.tail _ (.tail _ zFL))<|sH (.tail _ (.tail _ (.tail _ zFL)))<|sH (.tail _ (.tail _ (.tail _ (.tail _ zFL))))<|sH (.tail _ (.tail _ (.tail _ (.tail _ (.tail _ zFL)))))<|sH mz2<|sH (.head _) fnz)⟩
      .have hw:bfT q.2 ((rds N js fs).getD q.1 (0,0,0))=q.2:=by unfold bfT;rw[if_neg qa,if_neg];unfold bfB;unfold zE5 at e;rw[e];decide
       refine nQ<|zP 2 ((62,.Z (uI (q.1:Int)))::(63,.u (uI ((q.1+1:Nat):Int)))::[]) s kA
        (oc zA<|oc (yL .i64 (q.1:Int) 1 ((q.1+1:Nat):Int) iiz iiz (wrap64 _ _ oA oA))<|zC) fun a w28 s=>?_
       replace s:=s.drop [16]
       refine yN (uI ((q.1+1:Nat):Int)) rfl s kA iiz fun a w s=>zF rfl ?_
       replace s:StS _ _ _ [⟨18,32,CU.agg (fQN ((q.2.1.getD ((rds N js fs).getD q.1 (0,0,0)).1 0)+((rds N js fs).getD q.1 (0,0,0)).2.2)),hn,true⟩,⟨17,59,CU.agg (fRd ((rds N js fs).getD q.1 (0,0,0))),hi,true⟩] _ _ _ _:=s.freeze
       have J:=s.below
       replace I:=I.trans (J.mono I.size)
       replace hC:=hC.below J
       replace hS:=hS.below J
       replace O:=O.below J
       replace s:=s.anewB rfl rfl
       replace s:=s.popB
       replace s:=s.popB
       exact⟨(q.1+1,q.2),(by show(rds N js fs).length-(q.1+1)<(rds N js fs).length-q.1;omega),h9,(by show _=((rds N js fs).take (q.1+1)).foldl _ _;rw[zAr _ _ (0,0,0) _ h9,<-hY];exact hw.symm),(by have h7:=hV.step (st:=q.2) (x:=((rds N js fs).getD q.1 (0,0,0)).1) (b:=((rds N js fs).getD q.1 (0,0,0)).2.1) (f:=((rds N js fs).getD q.1 (0,0,0)).2.2) hg.1 hg.2.1 hg.2.2;rw[show(((rds N js fs).getD q.1 (0,0,0)).1,((rds N js fs).getD q.1 (0,0,0)).2.1,((rds N js fs).getD q.1 (0,0,0)).2.2)=((rds N js fs).getD q.1 (0,0,0))from rfl,hw]at h7;exact h7),I,O,hC,hS,s.keepK _ (sH mz7<|sH mz8<|sH mz9<|sH zC1<|sH zDW<|sH zFl<|sH (.head _) fnz)⟩
    .have qd:q.1=(rds N js fs).length:=by have h7:=mB e;simp only[xT]at h7;omega
     rw[qd]at hV
     have qw:q.2=bfP (rds N js fs) y.2.1 y.2.2:=by rw[hY,qd,pA];rfl
     have hD:(if q.2.2.2=true then bfR (rds N js fs) (N-y.1) q.2.1 q.2.2.1 else(q.2.1,q.2.2.1))=(csR (grE N js fs) N (xn:Int),ssR (grE N js fs) N (xn:Int)):=by rw[<-q6,show N+1-y.1=(N-y.1)+1 from oA,qw];rfl
     refine rG<|rgQ ((124,.Z (uB (q.2.2.2)))::(125,.u (uB (!(q.2.2.2))))::[]) s
      (oc zA<|oc (zAv (q.2.2.2) iiz (fun _=>rfl))<|zC) fun a w29 s=>?_
     have J:=s.below
     replace I:=I.trans (J.mono I.size)
     replace hC:=hC.below J
     replace hS:=hS.below J
     replace O:=O.below J
     replace s:=s.anewB rfl rfl
     refine StS.cond s (!(q.2.2.2)) iiz (fun e=>?_) (fun e=>?_)
     .have q5:q.2.2.2=false:=by simpa using e
      rw[q5]at hD
      have hL:(q.2.1,q.2.2.1)=(csR (grE N js fs) N (xn:Int),ssR (grE N js fs) N (xn:Int)):=hD
      refine rG<|rgQ ((126,.Z (UF.eq (.slice (some ⟨gc,0,none⟩) N N)))::(127,.Z (UF.eq (.slice (some ⟨gs,0,none⟩) N N)))::(8,.u (UF.eq (.slice (some ⟨gc,0,none⟩) N N)))::(9,.u (UF.eq (.slice (some ⟨gs,0,none⟩) N N)))::[]) s
       (oc zA<|oc zA<|oc zE<|oc zE<|zC) fun a w30 s=>?_
      have J:=s.below
      replace I:=I.trans (J.mono I.size)
      replace hC:=hC.below J
      replace hS:=hS.below J
      replace s:=s.anewB rfl rfl
      refine nR ?_
      obtain⟨o1,o2⟩:=Prod.mk.inj hL
      replace s:=s.home rfl rfl I
      exact vD s rfl ⟨_,_,rfl,by rw[<-o1,show a.tmps.getD 8 undef=_ from s.fct (.tmp 8)];exact hC.toN hO (by simp[hV.cl]),by rw[<-o2,show a.tmps.getD 9 undef=_ from s.fct (.tmp 9)];exact hS.toN hF (by simp[hV.sl])⟩
     .have q5:q.2.2.2=true:=by simpa using e
      have qv:bfR (rds N js fs) (N+1-(y.1+1)) q.2.1 q.2.2.1=(csR (grE N js fs) N (xn:Int),ssR (grE N js fs) N (xn:Int)):=by rw[q5,if_pos rfl]at hD;rw[show N+1-(y.1+1)=N-y.1 from oA];exact hD
      refine nQ<|zP 2 ((56,.Z (uI (y.1:Int)))::(57,.u (uI ((y.1+1:Nat):Int)))::[]) s kA
       (oc zA<|oc (yL .i64 (y.1:Int) 1 ((y.1+1:Nat):Int) iiz iiz (wrap64 _ _ oA oA))<|zC) fun a w31 s=>?_
      replace s:=s.drop [14]
      refine yN (uI ((y.1+1:Nat):Int)) rfl s kA iiz fun a w s=>zF rfl ?_
      have J:=s.below
      replace I:=I.trans (J.mono I.size)
      replace hC:=hC.below J
      replace hS:=hS.below J
      replace O:=O.below J
      replace s:=s.anewB rfl rfl
      exact⟨(y.1+1,q.2.1,q.2.2.1),(by show N+1-(y.1+1)<N+1-y.1;omega),(by show y.1+1<=N+1;omega),(by rw[pX];exact hV),qv,I,O,hC,hS,s.keepK _ (sH mz4<|sH mz5<|sH mz6<|sH mz7<|sH (.head _) fnz)⟩
   .have qn:y.1=N+1:=by have:=mB e;omega
    rw[qn,nF]at q6
    have hL:(y.2.1,y.2.2)=(csR (grE N js fs) N (xn:Int),ssR (grE N js fs) N (xn:Int)):=q6
    refine rG<|rgQ ((126,.Z (UF.eq (.slice (some ⟨gc,0,none⟩) N N)))::(127,.Z (UF.eq (.slice (some ⟨gs,0,none⟩) N N)))::(8,.u (UF.eq (.slice (some ⟨gc,0,none⟩) N N)))::(9,.u (UF.eq (.slice (some ⟨gs,0,none⟩) N N)))::[]) s
     (oc zA<|oc zA<|oc zE<|oc zE<|zC) fun a w32 s=>?_
    have J:=s.below
    replace I:=I.trans (J.mono I.size)
    replace hC:=hC.below J
    replace hS:=hS.below J
    replace s:=s.anewB rfl rfl
    refine nR ?_
    obtain⟨o1,o2⟩:=Prod.mk.inj hL
    replace s:=s.home rfl rfl I
    exact vD s rfl ⟨_,_,rfl,by rw[<-o1,show a.tmps.getD 8 undef=_ from s.fct (.tmp 8)];exact hC.toN hO (by simp[q3.cl]),by rw[<-o2,show a.tmps.getD 9 undef=_ from s.fct (.tmp 9)];exact hS.toN hF (by simp[q3.sl])⟩
section
variable {F:Fence}{m:Nat}{P:Program}{w0:WB}{ops:Array Oper}{G:Nat->SF}{d:Tmp}{ty:TypeId}{pos:String}{aft:Array Edge}{C:CU}{x y:Operand}{t t':TypeId}
end
theorem zII(nx:Nat->Nat)(a:Nat):∀(f n:Nat),(zD2 nx a f n).length<=f
 |0,_=>vR _
 |f+1,n=>by
  show(if n=a then[]else nx n::zD2 nx a f (nx n)).length<=f+1
  split
  .exact vS _
  .simp only[fN];have:=zII nx a f (nx n);omega
theorem zIr(hB:GrB N js fs)(x z:Int):(qM (grE N js fs) N x z).1.length<=60/\QB (qM (grE N js fs) N x z).2.1 1:=by
 unfold qM
 by_cases hc:(!(yU N x)|| !(yU N z)||decide ((ssR (grE N js fs) N x).getD z.toNat 0<0))=true
 .rw[if_pos hc];exact⟨vS _,QB.zero dA⟩
 .rw[if_neg hc]
  have h:(!(yU N x)|| !(yU N z)||decide ((ssR (grE N js fs) N x).getD z.toNat 0<0))=false:=by simpa using hc
  rw[bL]at h
  obtain⟨I,O⟩:=zMb h.1
  have hneg:=mB h.2
  obtain⟨J,_⟩:=y5 O
  obtain⟨s,ho,hs,hsN⟩:=(zFR (zGB N js fs) I).of J oA
  have hN:=hB.hN
  refine⟨?_,hB.qb ho.1 oA⟩
  rw[hs]
  have:=zII (nxF (grE N js fs) N (csR (grE N js fs) N x) (ssR (grE N js fs) N x)) x.toNat (s:Int).toNat z.toNat
  simp only[jI,xT,rU,fN]
  omega
theorem zOP{r:Rat×Bool}(e:r=(q,o))(h:(zQT r).p v V):(wI (fQN q).tS (fB o).tS).p v V:=by
 subst e
 exact h
theorem zLY(e:r=(way,q,o))(I:W.heap.size<=W'.heap.size)(h:(zHK W' r).p v V):(wL (wD W 3 1 (ins way)) (fQN q).tS (fB o).tS).p v V:=by
 subst e
 exact zLX I h
end Go.Proofs.Wd
