/- Walks of package roads: Least; Walks of straitlaw28: wakes; Walks of s and what it needs. -/
import Derived.Test.YtencnknhnckpaaaGreatDoorMRB21
theorem kJ {P:Prop} (h:P:=by kernel_rfl):P:=h
theorem oQ {P:Prop} (h:P:=by omega):P:=h
theorem dC {P:Prop} (h:P:=by decide):P:=h
abbrev zUs:=@Go.wpIn_seq
abbrev zUt:=@Go.RowKit.Below.refl
abbrev zUu:=@Go.wpIn_skip
abbrev zUv:=@List.length_map
abbrev zUw:=@of_decide_eq_false
abbrev zUx:=@Bool.or_eq_false_iff
abbrev zUy:=@List.getElem?_eq_getElem
namespace Go.Proofs.Wd
open Tryz
set_option maxRecDepth 100000
set_option maxHeartbeats 1000000
open Go.RowKit Lb
theorem zPB (td:List Nat) (a:Nat):ins (jP td)++ [wB [.int .i64 (a:Int)]]=ins (jP (td++ [a])):=by simp [jP]
def zLn (W:World) (r:List Int×Rat×Bool):SF:=wH (wE W 3 1 (ins r.1)) (fQN r.2.1).tS (fB r.2.2).tS
theorem zBU {W:World} {n x z:Int} {N:Nat} {js:List (Int×Int)} {fs:List Rat} {u lj lf v t:Value} (hu:u= .int .i64 n) (hj:(SF.row 2 (jns js)).p lj W) (hf:(SF.row 3 (rvs 1 fs)).p lf W) (hv:v= .int .i64 x) (ht:t= .int .i64 z) (hNz:min (max n 0) 131072=(N:Int)) (hB:GrB N js fs) (hT:Tab W):Calls prog 10 #[u,lj,lf,v,t] W (Ret W (zLn W (yJ (grE N js fs) N x z))):=by
  have hFr:Below W.heap.size W W:=zUt _ _
  have hGk:Gok (grE N js fs) N:=zGW _ _ _
  have hSy: ∀a b f,(b,f)∈(grE N js fs) a->(a,f)∈(grE N js fs) b:=fun a b f h=>zGV h
  refine qK [(uI n).tS,(UF.eq lj).tS,(UF.eq lf).tS,(uI x).tS,(uI z).tS] func10 rfl kJ ⟨hu,rfl,rfl,hv,ht,trivial⟩ fun a s=> ?_
  replace s:=s.renew [(0, .u (uI n)),(1, .u (UF.eq lj)),(2, .u (UF.eq lf)),(3, .u (uI x)),(4, .u (uI z))] (fmz ⟨.inr ⟨_,rfl, .head _⟩,fmz ⟨.inr ⟨_,rfl,mz1⟩,fmz ⟨.inr ⟨_,rfl,mz2⟩,fmz ⟨.inr ⟨_,rfl,mz3⟩,fmz ⟨.inr ⟨_,rfl,mz4⟩,fnz⟩⟩⟩⟩⟩)
  refine zUs ?_
  refine zC 1 ((10, .u (UF.eq (.slice none 0 0))):: []) hmix s kJ
    (oc zH<|zE) fun a w1 s=> ?_
  refine yX (CU.len 3) (cs:=zR3) kJ rfl s kJ (fun W=>rfl) rfl fun b11 a w s=> ?_
  refine qL (uB false) rfl s kJ iiz fun a w s=> ?_
  refine zB rfl ?_
  have hb11:=s.inB_new (q:=b11) ⟨_, .head _,rfl,rfl⟩
  obtain ⟨c11,h11_,e11,n11⟩:=s.boxAt (c:=11) rfl
  have h11:=zRd (C:=CU.len 3) h11_ e11 n11 e11
  replace s:=(s.learn 11 _ (s.bx.mem _ (.head _)).choose_spec.1).popB
  have hb:=s.below
  replace hFr:=hFr.trans (hb.mono hFr.size)
  replace s:=s.anewB rfl rfl
  refine zUs ?_
  refine qS 5 ((20, .Z (uI n))::(21, .Z (UF.eq lj))::(22, .Z (UF.eq lf))::(23, .s (fG (glN N (rds N js fs))))::(13, .s (fG (glN N (rds N js fs)))):: []) hmix s kJ
    (oc zA<|oc zA<|oc zA<|oc (zDU zF zPM (fun u0 u1 u2 W hb (h0:u0= .int .i64 n) (h1:u1=lj) (h2:u2=lf)=>zHR h0 (by rw [h1];exact (SF.row 2 (jns js)).st _ _ _ hj (hFr.trans ((s.up hb).mono hFr.size))) (by rw [h2];exact (SF.row 3 (rvs 1 fs)).st _ _ _ hf (hFr.trans ((s.up hb).mono hFr.size))) hNz hB.hN hB.hj ((hT.below hFr).below (s.up hb))))<|oc zH<|zE) fun a w2 s hr=> ?_
  refine zB rfl ?_
  obtain ⟨gg,cap,vs,e13,hG⟩:=(hr (_,_) mz4)
  rw [zAh] at e13
  replace s:=s.learn 13 _ e13
  have hb:=s.below
  replace hFr:=hFr.trans (hb.mono hFr.size)
  replace h11:=h11.below hb
  replace s:=s.anewB rfl rfl
  refine zUs ?_
  refine qS 8 ((25, .Z (UF.eq (.slice (some ⟨gg,0,none⟩) N cap)))::(26, .Z (uI x))::(27, .s (wM (wE w2 32 3 (qns (csR (grE N js fs) N x))) (wE w2 3 1 (ins (ssR (grE N js fs) N x)))))::(24, .s (wM (wE w2 32 3 (qns (csR (grE N js fs) N x))) (wE w2 3 1 (ins (ssR (grE N js fs) N x)))))::(28, .s (wE w2 32 3 (qns (csR (grE N js fs) N x))))::(29, .s (wE w2 3 1 (ins (ssR (grE N js fs) N x))))::(14, .s (wE w2 32 3 (qns (csR (grE N js fs) N x))))::(15, .s (wE w2 3 1 (ins (ssR (grE N js fs) N x)))):: []) hmix s kJ
    (oc zA<|oc zA<|oc (yE zF zQ3 (fun u0 u1 W hb (h0:u0=(.slice (some ⟨gg,0,none⟩) N cap)) (h1:u1= .int .i64 x)=>(zLy (js:=js) (fs:=fs) (by exact ⟨gg,cap,vs,by rw [zAh];exact h0,hG.below (s.up hb)⟩) h1 hB ((hT.below hFr).below (s.up hb))).mono (wG (fun v W h=>zHj (s.up hb).size h))))<|oc zA<|oc (zBB (A:=wE w2 32 3 (qns (csR (grE N js fs) N x))) (B:=wE w2 3 1 (ins (ssR (grE N js fs) N x))) iiz)<|oc (zBA (A:=wE w2 32 3 (qns (csR (grE N js fs) N x))) (B:=wE w2 3 1 (ins (ssR (grE N js fs) N x))) iiz)<|oc zH<|oc zH<|zE) fun a w3 s hr=> ?_
  refine zB rfl ?_
  obtain ⟨cv,e14⟩: ∃v,a.tmps.getD 14 undef=v:=⟨_,rfl⟩
  obtain ⟨sv,e15⟩: ∃v,a.tmps.getD 15 undef=v:=⟨_,rfl⟩
  have hC:=(hr (_,_) mz6)
  have hS:=(hr (_,_) mz7)
  rw [show a.tmps.getD _ undef=cv from e14] at hC
  rw [show a.tmps.getD _ undef=sv from e15] at hS
  replace s:=(s.learn 14 _ e14).learn 15 _ e15
  replace hC:=jD.mono hC hFr.size
  replace hS:=jD.mono hS hFr.size
  obtain ⟨csv,ecs⟩: ∃c,csR (grE N js fs) N x=c:=⟨_,rfl⟩
  obtain ⟨ssv,ess⟩: ∃c,ssR (grE N js fs) N x=c:=⟨_,rfl⟩
  have hcl:csv.length=N:=by rw [<-ecs];exact (zLx _ _ _).1
  have hsl:ssv.length=N:=by rw [<-ess];exact (zLx _ _ _).2
  rw [ecs] at hC
  rw [ess] at hS
  have hb:=s.below
  replace hFr:=hFr.trans (hb.mono hFr.size)
  replace h11:=h11.below hb
  replace hG:=hG.below hb
  replace s:=s.anewB rfl rfl
  refine zUs ?_
  refine zUs ?_
  refine zC 17 ((30, .Z (UF.eq (.slice (some ⟨gg,0,none⟩) N cap)))::(31, .Z (uI x))::(32, .Z (uB (yS N x)))::(33, .Z (uB (!(yS N x))))::(34, .Z (uB (!(yS N x))))::(35, .s (SF.imp ((!(yS N x))=false) ((UF.eq (.slice (some ⟨gg,0,none⟩) N cap)).tS)))::(36, .s (SF.imp ((!(yS N x))=false) ((uI z).tS)))::(37, .s (SF.imp ((!(yS N x))=false) ((uB (yS N z)).tS)))::(38, .s (SF.imp ((!(yS N x))=false) ((uB (!(yS N z))).tS)))::(39, .Z (uB ((!(yS N x))||(!(yS N z)))))::(40, .Z (uB ((!(yS N x))||(!(yS N z)))))::(41, .s (SF.imp (((!(yS N x))||(!(yS N z)))=false) ((UF.eq sv).tS)))::(42, .s (SF.imp (((!(yS N x))||(!(yS N z)))=false) ((uI z).tS)))::(43, .s (SF.imp (((!(yS N x))||(!(yS N z)))=false) (wC (wB [.int .i64 (ssv.getD z.toNat 0)]).cf)))::(44, .s (SF.imp (((!(yS N x))||(!(yS N z)))=false) ((uI (ssv.getD z.toNat 0)).tS)))::(45, .s (SF.imp (((!(yS N x))||(!(yS N z)))=false) ((uB (decide ((ssv.getD z.toNat 0)<0))).tS)))::(46, .u (uB (((!(yS N x))||(!(yS N z)))||(decide ((ssv.getD z.toNat 0)<0))))):: []) hmix s kJ
    (oc zA<|oc zA<|oc (yE zF zLo (fun u0 u1 W hb (h0:u0=(.slice (some ⟨gg,0,none⟩) N cap)) (h1:u1= .int .i64 x)=>zLb h0 h1))<|oc (zBm (yS N x) iiz (fun _=>rfl))<|oc zA<|oc (zD 34 (!(yS N x)) kJ iiz (fun e=>zL [] ((UF.eq (.slice (some ⟨gg,0,none⟩) N cap)).tS) fnz (fun _ _ h _=>h) kJ zA) (fun e W h=>absurd h e))<|oc (zD 34 (!(yS N x)) kJ iiz (fun e=>zL [] ((uI z).tS) fnz (fun _ _ h _=>h) kJ zA) (fun e W h=>absurd h e))<|oc (zD 34 (!(yS N x)) kJ iiz (fun e=>zL [(35,(UF.eq (.slice (some ⟨gg,0,none⟩) N cap)).tS),(36,(uI z).tS)] ((uB (yS N z)).tS) (fmz ⟨fun v W h=>zI (c:=(!(yS N x))=false) (f:=(UF.eq (.slice (some ⟨gg,0,none⟩) N cap)).tS) e h,fmz ⟨fun v W h=>zI (c:=(!(yS N x))=false) (f:=(uI z).tS) e h,fnz⟩⟩) (fun _ _ h _=>h) kJ (yE zF zLo (fun u0 u1 W hb (h0:u0=(.slice (some ⟨gg,0,none⟩) N cap)) (h1:u1= .int .i64 z)=>zLb h0 h1))) (fun e W h=>absurd h e))<|oc (zD 34 (!(yS N x)) kJ iiz (fun e=>zL [(37,(uB (yS N z)).tS)] ((uB (!(yS N z))).tS) (fmz ⟨fun v W h=>zI (c:=(!(yS N x))=false) (f:=(uB (yS N z)).tS) e h,fnz⟩) (fun _ _ h _=>h) kJ (zBm (yS N z) iiz (fun _=>rfl))) (fun e W h=>absurd h e))<|oc (zY (!(yS N x)) iiz (fun e v W h=>zAQ h e) (fun e v W h=>zAd (zI e h) e))<|oc zA<|oc (zD 40 ((!(yS N x))||(!(yS N z))) kJ iiz (fun e=>zL [] ((UF.eq sv).tS) fnz (fun _ _ h _=>h) kJ zA) (fun e W h=>absurd h e))<|oc (zD 40 ((!(yS N x))||(!(yS N z))) kJ iiz (fun e=>zL [] ((uI z).tS) fnz (fun _ _ h _=>h) kJ zA) (fun e W h=>absurd h e))<|oc (zD 40 ((!(yS N x))||(!(yS N z))) kJ iiz (fun e=>zL [(41,(UF.eq sv).tS),(42,(uI z).tS)] (wC (wB [.int .i64 (ssv.getD z.toNat 0)]).cf) (fmz ⟨fun v W h=>zI (c:=((!(yS N x))||(!(yS N z)))=false) (f:=(UF.eq sv).tS) e h,fmz ⟨fun v W h=>zI (c:=((!(yS N x))||(!(yS N z)))=false) (f:=(uI z).tS) e h,fnz⟩⟩) (fun _ _ h _=>h) kJ (zT (z:=1) (Cs:=ins ssv) (i:=z.toNat) (C:=wB [.int .i64 (ssv.getD z.toNat 0)]) kJ (jN (by rw [hsl];exact (zAm (zPF e).2).1)) (fun v W hb h=>by rw [show v=sv from h];exact (SF.row 1 (ins ssv)).st _ _ _ (jD.row hS) (s.up hb)) (fun _ _ h=>h.trans (congrArg (Value.int .i64) (zAm (zPF e).2).2.symm)))) (fun e W h=>absurd h e))<|oc (zD 40 ((!(yS N x))||(!(yS N z))) kJ iiz (fun e=>zL [(43,wC (wB [.int .i64 (ssv.getD z.toNat 0)]).cf)] ((uI (ssv.getD z.toNat 0)).tS) (fmz ⟨fun v W h=>zI (c:=((!(yS N x))||(!(yS N z)))=false) (f:=wC (wB [.int .i64 (ssv.getD z.toNat 0)]).cf) e h,fnz⟩) (fun _ _ h _=>h) kJ (yI (C:=(wB [.int .i64 (ssv.getD z.toNat 0)]).cf) kJ iiz y7)) (fun e W h=>absurd h e))<|oc (zD 40 ((!(yS N x))||(!(yS N z))) kJ iiz (fun e=>zL [(44,(uI (ssv.getD z.toNat 0)).tS)] ((uB (decide ((ssv.getD z.toNat 0)<0))).tS) (fmz ⟨fun v W h=>zI (c:=((!(yS N x))||(!(yS N z)))=false) (f:=(uI (ssv.getD z.toNat 0)).tS) e h,fnz⟩) (fun _ _ h _=>h) kJ (zP .i64 (ssv.getD z.toNat 0) 0 (decide ((ssv.getD z.toNat 0)<0)) iiz iiz rfl rfl)) (fun e W h=>absurd h e))<|oc (zY ((!(yS N x))||(!(yS N z))) iiz (fun e v W h=>zAQ h e) (fun e v W h=>zAd (zI e h) e))<|zE) fun a w4 s=> ?_
  refine zB rfl ?_
  have hb:=s.below
  replace hFr:=hFr.trans (hb.mono hFr.size)
  replace h11:=h11.below hb
  replace hG:=hG.below hb
  replace hC:=hC.below hb
  replace hS:=hS.below hb
  replace s:=s.anewB rfl rfl
  refine StS.cond s (((!(yS N x))||(!(yS N z)))||(decide ((ssv.getD z.toNat 0)<0))) iiz (fun e=> ?_) (fun e=> ?_)
  . have hres:yJ (grE N js fs) N x z=([],0,false):=by unfold yJ;rw [if_pos (by rw [ess];exact e)]
    refine zUs ?_
    replace s:=s.drop [10,12]
    refine zC 1 ((47, .u (fQN 0)):: []) hmix s kJ
      (oc (zM zF zNh (fun u0 W hb (h0:u0= .int .i64 0)=>zIn h0))<|zE) fun a w5 s=> ?_
    refine qL (UF.eq (.slice none 0 0)) rfl s kJ iiz fun a w s=> ?_
    have hb:=s.below
    replace hFr:=hFr.trans (hb.mono hFr.size)
    replace h11:=h11.below hb
    replace hG:=hG.below hb
    replace hC:=hC.below hb
    replace hS:=hS.below hb
    refine zCC (g:=b11) (i:=0) (cap:=1) (z:=3) (e:=32) (CU.agg (fQN 0)) rfl s rfl rfl h11 (by simp) kJ (s.fct (.tmp 11)) (zKy (s.fct (.tmp 47))) (fun q hq=>by cases hq) fun w hF1 hk1 h11 s=> ?_
    replace hFr:=qF hFr hF1 (fun q hq=>by rw [hq];exact hb11)
    refine qL (uB false) rfl s kJ iiz fun a w s=> ?_
    refine zB rfl ?_
    have hb:=s.below
    replace hFr:=hFr.trans (hb.mono hFr.size)
    replace h11:=h11.below hb
    replace s:=s.anewB rfl rfl
    refine wpIn_ret ?_
    obtain ⟨c11,g1,g2,g3⟩:=zOf h11
    replace s:=s.home rfl rfl hFr
    exact vF s rfl kJ (s.fct (.tmp 11)) g1 g2 ⟨_,_,_,rfl,by rw [hres,show a.tmps.getD 10 undef= .slice none 0 0 from s.fct (.tmp 10)];exact jD.nil _ _ _ _,by rw [hres];exact g3,by rw [hres];exact s.fct (.tmp 12)⟩
  . have hres0:=e
    rw [zUx] at e
    obtain ⟨hx,hz⟩:=zPF e.1
    have hzs:=zUw e.2
    have hCS:=zEG hGk hx
    rw [ecs,ess] at hCS
    obtain ⟨hxN,hxe⟩:=zAm hx
    obtain ⟨hzN,hze⟩:=zAm hz
    obtain ⟨xn,exn⟩: ∃k,x.toNat=k:=⟨_,rfl⟩
    obtain ⟨zn,ezn⟩: ∃k,z.toNat=k:=⟨_,rfl⟩
    rw [exn] at hxN hxe hCS
    rw [ezn] at hzN hze hzs
    rw [<-hxe, <-hze] at s
    obtain ⟨gc,capc,ec,hgc,hRc⟩:=zDz hC (by simp [hcl];omega)
    obtain ⟨gs,caps,es,hgs,hRs⟩:=zDz hS (by simp [hsl];omega)
    rw [show (qns csv).length=N by simp [hcl]] at ec
    rw [show (ins ssv).length=N by simp [hsl]] at es
    rw [ec,es] at s
    replace hC:=hRc
    replace hS:=hRs
    clear hRc hRs
    obtain ⟨s0,ho0,hs0,hs0N⟩:=hCS.of hzN oQ
    have hway:=zNC hGk hSy hxN hCS s0 zn hzN hs0 ho0
    have hres:yJ (grE N js fs) N x z=(jP ((zn::zGc (nxF (grE N js fs) N csv ssv) xn s0 zn).reverse),csv.getD zn 0,true):=by unfold yJ;rw [if_neg (by rw [ess,hres0];decide),ecs,ess,exn,ezn,hs0];rfl
    clear hres0 e
    refine zUu ?_
    refine zUs ?_
    replace s:=s.drop [10]
    refine qS 3 ((48, .Z (uI (zn:Int)))::(49, .s (wE w4 3 1 [wB [.int .i64 (zn:Int)]]))::(10, .s (wE w4 3 1 [wB [.int .i64 (zn:Int)]])):: []) hmix s kJ
      (oc zA<|oc (zBL (fun u W hb (hu:u= .int .i64 (zn:Int))=>by subst hu;exact ⟨_,_,zQm _,(zJ0 _ _).toN hb.size rfl⟩))<|oc zH<|zE) fun a w6 s hr=> ?_
    refine zB rfl ?_
    obtain ⟨tv,e10⟩: ∃v,a.tmps.getD 10 undef=v:=⟨_,rfl⟩
    have hTd:=(hr (_,_) mz2)
    rw [show a.tmps.getD _ undef=tv from e10] at hTd
    replace s:=s.learn 10 _ e10
    have hne: ∀q_,tv.ownBlock=some q_->q_≠gs:=fun q_ hq=>by have h1:=(hTd.lt q_ hq).1;have h2:=hS.lt;omega
    replace hTd:jD w6 W.heap.size 3 1 tv (ins (jP [zn])):=hTd.mono hFr.size
    have hb:=s.below
    replace hFr:=hFr.trans (hb.mono hFr.size)
    replace h11:=h11.below hb
    replace hG:=hG.below hb
    replace hC:=hC.below hb
    replace hS:=hS.below hb
    replace s:=s.anewB rfl rfl
    refine zUs ?_
    refine zUs ?_
    refine zC 2 ((50, .Z (uI (zn:Int)))::(16, .u (uI (zn:Int))):: []) hmix s kJ
      (oc zA<|oc zH<|zE) fun a w7 s=> ?_
    refine zB rfl ?_
    have hb:=s.below
    replace hFr:=hFr.trans (hb.mono hFr.size)
    replace h11:=h11.below hb
    replace hG:=hG.below hb
    replace hC:=hC.below hb
    replace hS:=hS.below hb
    replace hTd:=hTd.below hb
    replace s:=s.anewB rfl rfl
    refine wpIn_block ?_
    refine y9 (fun (y:Nat×Nat×List Nat×Value) a w=>(y.2.1<N/\ssv.getD y.2.1 0=(y.1:Int)/\Opt (grE N js fs) xn y.2.1 (csv.getD y.2.1 0) y.1/\y.2.2.1++zGc (nxF (grE N js fs) N csv ssv) xn y.1 y.2.1=zn::zGc (nxF (grE N js fs) N csv ssv) xn s0 zn/\y.2.2.1.length+y.1=s0+1)/\Below W.heap.size W w/\jF w b11 32 3 1 [CU.len 3]/\GM w gg cap vs (glN N (rds N js fs))/\jF w gc 32 3 capc (qns csv)/\jF w gs 3 1 caps (ins ssv)/\jD w W.heap.size 3 1 y.2.2.2 (ins (jP y.2.2.1))/\(∀q_,y.2.2.2.ownBlock=some q_->q_≠gs)/\St w [(3, .u (uI (xn:Int))),(4, .u (uI (zn:Int))),(10, .u (UF.eq (y.2.2.2))),(11, .u (UF.eq (pO b11 0))),(13, .u (UF.eq (.slice (some ⟨gg,0,none⟩) N cap))),(14, .u (UF.eq (.slice (some ⟨gc,0,none⟩) N capc))),(15, .u (UF.eq (.slice (some ⟨gs,0,none⟩) N caps))),(16, .u (uI (y.2.1:Int)))] [] f10.ntmps [] a w) (fun y=>y.1) (s0,zn, [zn],tv) ⟨⟨hzN,hs0,ho0,rfl,Nat.add_comm _ _⟩,hFr,h11,hG,hC,hS,hTd,hne,s.keepK _ (fmz ⟨zJB,fmz ⟨zLR,fmz ⟨mz1,fmz ⟨mz6,fmz ⟨mz5,fmz ⟨mz4,fmz ⟨mz3,fmz ⟨.head _,fnz⟩⟩⟩⟩⟩⟩⟩⟩)⟩ fun y a w hx=> ?_
    clear hFr h11 hG hC hS hTd hne
    obtain ⟨⟨hat,hss,hop,hwy,hln⟩,hFr,h11,hG,hC,hS,hTd,hne,s⟩:=hx
    refine zUs ?_
    refine zUs ?_
    refine zC 3 ((51, .Z (uI (y.2.1:Int)))::(52, .Z (uI (xn:Int)))::(53, .u (uB ((y.2.1:Int) !=(xn:Int)))):: []) hmix s kJ
      (oc zA<|oc zA<|oc (zP .i64 (y.2.1:Int) (xn:Int) ((y.2.1:Int) !=(xn:Int)) iiz iiz rfl rfl)<|zE) fun a w8 s=> ?_
    refine zB rfl ?_
    have hb:=s.below
    replace hFr:=hFr.trans (hb.mono hFr.size)
    replace h11:=h11.below hb
    replace hG:=hG.below hb
    replace hC:=hC.below hb
    replace hS:=hS.below hb
    replace hTd:=hTd.below hb
    replace s:=s.anewB rfl rfl
    refine StS.cond s ((y.2.1:Int) !=(xn:Int)) iiz (fun e=> ?_) (fun e=> ?_)
    . have hax:y.2.1≠xn:=by intro h;rw [h] at e;simp at e
      obtain ⟨t,et⟩: ∃t,y.1=t+1:=by
        rcases hy1:y.1 with _|t
        . rw [hy1] at hop;exact absurd (zIp hop.1).1 hax
        . exact ⟨t,rfl⟩
      obtain ⟨hn1,-,-,hn4,hn5⟩:=hCS.nx hGk hSy hxN hat (s:=t) (by rw [hss,et]) (by rw [<-et];exact hop)
      have hs0N':=hs0N
      have hdeg:(zG (rds N js fs) y.2.1).length<=122:=by have h1:=zEM (rds N js fs) y.2.1;have h2:=zFx N js fs js.length;have h3:=hB.hj;unfold rds at h1 ⊢;omega
      refine zUu ?_
      refine zUs ?_
      refine wpIn_block ?_
      refine zUs ?_
      refine zC 3 ((58, .Z (UF.eq (.slice (some ⟨gg,0,none⟩) N cap)))::(59, .Z (uI (N:Int)))::(17, .u (uI (N:Int))):: []) hmix s kJ
        (oc zA<|oc (jU kJ (fun v W h=>⟨_,_,_,h,rfl⟩))<|oc zH<|zE) fun a w9 s=> ?_
      refine zB rfl ?_
      have hb:=s.below
      replace hFr:=hFr.trans (hb.mono hFr.size)
      replace h11:=h11.below hb
      replace hG:=hG.below hb
      replace hC:=hC.below hb
      replace hS:=hS.below hb
      replace hTd:=hTd.below hb
      replace s:=s.anewB rfl rfl
      refine zUs ?_
      refine zUs ?_
      have hgl_:=hG.row (n:=N) (zAh _ _).symm
      have hcv:y.2.1<vs.length:=by rw [hG.ln,zAh];exact hat
      have hrl:=hG.at (i:=y.2.1) (by rw [zAh];exact hat)
      rw [zDt _ hat] at hrl
      refine zC 6 ((60, .Z (UF.eq (.slice (some ⟨gg,0,none⟩) N cap)))::(61, .Z (uI (y.2.1:Int)))::(62, .s (wC (wB [(vs.getD y.2.1 (.slice none 0 0))]).cf))::(63, .u (UF.eq (vs.getD y.2.1 (.slice none 0 0))))::(64, .u (uI (((ros (zG (rds N js fs) y.2.1)).length:Nat):Int)))::(65, .u (uI 0)):: []) hmix s kJ
        (oc zA<|oc zA<|oc (zT (z:=1) (Cs:=sls vs) (i:=y.2.1) (C:=wB [(vs.getD y.2.1 (.slice none 0 0))]) kJ (zEa hcv) (fun v W hb h=>(by rw [show v=(Value.slice (some ⟨gg,0,none⟩) N cap) from h];exact (SF.row 1 (sls vs)).st _ _ _ hgl_ (s.up hb))) iiz)<|oc (yI (C:=(wB [(vs.getD y.2.1 (.slice none 0 0))]).cf) kJ iiz y7)<|oc (zAR (z:=4) (Cs:=ros (zG (rds N js fs) y.2.1)) kJ (fun v W hb h=>(by rw [show v=(vs.getD y.2.1 (.slice none 0 0)) from h];exact (SF.row 4 (ros (zG (rds N js fs) y.2.1))).st _ _ _ hrl (s.up hb))) (fun _=>rfl))<|oc zA<|zE) fun a w10 s=> ?_
      refine zB rfl ?_
      have hb:=s.below
      replace hFr:=hFr.trans (hb.mono hFr.size)
      replace h11:=h11.below hb
      replace hG:=hG.below hb
      replace hC:=hC.below hb
      replace hS:=hS.below hb
      replace hTd:=hTd.below hb
      replace s:=s.anewB rfl rfl
      refine wpIn_block ?_
      refine y9 (fun (q:Nat×Nat) a w=>q.1<=(zG (rds N js fs) y.2.1).length/\q.2=((zG (rds N js fs) y.2.1).take q.1).foldl (zDK csv ssv y.2.1) N/\q.2<=N/\Below W.heap.size W w/\jF w b11 32 3 1 [CU.len 3]/\GM w gg cap vs (glN N (rds N js fs))/\jF w gc 32 3 capc (qns csv)/\jF w gs 3 1 caps (ins ssv)/\jD w W.heap.size 3 1 y.2.2.2 (ins (jP y.2.2.1))/\St w [(3, .u (uI (xn:Int))),(4, .u (uI (zn:Int))),(10, .u (UF.eq (y.2.2.2))),(11, .u (UF.eq (pO b11 0))),(13, .u (UF.eq (.slice (some ⟨gg,0,none⟩) N cap))),(14, .u (UF.eq (.slice (some ⟨gc,0,none⟩) N capc))),(15, .u (UF.eq (.slice (some ⟨gs,0,none⟩) N caps))),(16, .u (uI (y.2.1:Int))),(17, .u (uI (q.2:Int))),(63, .u (UF.eq (vs.getD y.2.1 (.slice none 0 0)))),(64, .u (uI (((ros (zG (rds N js fs) y.2.1)).length:Nat):Int))),(65, .u (uI (q.1:Int)))] [] f10.ntmps [] a w) (fun q=>(zG (rds N js fs) y.2.1).length - q.1) (0,N) ⟨Nat.zero_le _,rfl,Nat.le_refl _,hFr,h11,hG,hC,hS,hTd,s.keepK _ (fmz ⟨mz5,fmz ⟨mz6,fmz ⟨mz7,fmz ⟨mz8,fmz ⟨mz9,fmz ⟨zJC,fmz ⟨zJB,fmz ⟨zLR,fmz ⟨mz3,fmz ⟨.head _,fmz ⟨mz1,fmz ⟨mz2,fnz⟩⟩⟩⟩⟩⟩⟩⟩⟩⟩⟩⟩)⟩ fun q a w hx=> ?_
      clear hFr h11 hG hC hS hTd
      obtain ⟨hk,hbq,hqN,hFr,h11,hG,hC,hS,hTd,s⟩:=hx
      refine zUs ?_
      refine zC 1 ((66, .u (uB (decide ((q.1:Int)<(((ros (zG (rds N js fs) y.2.1)).length:Nat):Int))))):: []) hmix s kJ
        (oc (zP .i64 (q.1:Int) (((ros (zG (rds N js fs) y.2.1)).length:Nat):Int) (decide ((q.1:Int)<(((ros (zG (rds N js fs) y.2.1)).length:Nat):Int))) iiz iiz rfl rfl)<|zE) fun a w11 s=> ?_
      refine zB rfl ?_
      have hb:=s.below
      replace hFr:=hFr.trans (hb.mono hFr.size)
      replace h11:=h11.below hb
      replace hG:=hG.below hb
      replace hC:=hC.below hb
      replace hS:=hS.below hb
      replace hTd:=hTd.below hb
      replace s:=s.anewB rfl rfl
      refine zUs ?_
      refine StS.cond s (decide ((q.1:Int)<(((ros (zG (rds N js fs) y.2.1)).length:Nat):Int))) iiz (fun e=> ?_) (fun e=> ?_)
      . have hkl:q.1<(zG (rds N js fs) y.2.1).length:=by have h7:=of_decide_eq_true e;simp only [zUv] at h7;omega
        have hrm:((zG (rds N js fs) y.2.1).getD q.1 (0,0))∈grE N js fs y.2.1:=by show ((zG (rds N js fs) y.2.1).getD q.1 (0,0))∈(zG (rds N js fs) y.2.1);rw [List.getD_eq_getElem?_getD,zUy hkl];exact List.getElem_mem hkl
        have hrn:((zG (rds N js fs) y.2.1).getD q.1 (0,0)).1<N:=(hGk _ hat _ hrm).1
        have hqb:QB ((zG (rds N js fs) y.2.1).getD q.1 (0,0)).2 1:=hB.qr hrm
        have hrsl:y.2.1<ssv.length/\((zG (rds N js fs) y.2.1).getD q.1 (0,0)).1<ssv.length/\y.2.1<csv.length/\((zG (rds N js fs) y.2.1).getD q.1 (0,0)).1<csv.length:=by rw [hsl,hcl];exact ⟨hat,hrn,hat,hrn⟩
        have hqa:QB (csv.getD y.2.1 0) 1:=hB.qb hop.1 (by have:=hB.hN;omega)
        obtain ⟨s',hop',hss',hs'N⟩:=hCS.rch hGk hxN (Rch.cons hop.1 (b:=((zG (rds N js fs) y.2.1).getD q.1 (0,0)).1) (f:=((zG (rds N js fs) y.2.1).getD q.1 (0,0)).2) hrm)
        have hqc:QB (csv.getD ((zG (rds N js fs) y.2.1).getD q.1 (0,0)).1 0) 1:=hB.qb hop'.1 (by have:=hB.hN;omega)
        have hqx:QB (csv.getD ((zG (rds N js fs) y.2.1).getD q.1 (0,0)).1 0+((zG (rds N js fs) y.2.1).getD q.1 (0,0)).2) 1:=hB.qb (Rch.cons hop'.1 (b:=y.2.1) (f:=((zG (rds N js fs) y.2.1).getD q.1 (0,0)).2) (hSy _ _ _ hrm)) (by have:=hB.hN;omega)
        refine zUu ?_
        refine zUs ?_
        refine wpIn_block ?_
        refine zUs ?_
        have hrl:=hG.at (i:=y.2.1) (by rw [zAh];exact hat)
        rw [zDt _ hat] at hrl
        refine zC 2 ((67, .Y (fRo ((zG (rds N js fs) y.2.1).getD q.1 (0,0))))::(68, .u (fRo ((zG (rds N js fs) y.2.1).getD q.1 (0,0)))):: []) hmix s kJ
          (oc (zT (z:=4) (Cs:=ros (zG (rds N js fs) y.2.1)) (i:=q.1) (C:=CU.agg (fRo ((zG (rds N js fs) y.2.1).getD q.1 (0,0)))) kJ (zHt hkl) (fun v W hb h=>(by rw [show v=(vs.getD y.2.1 (.slice none 0 0)) from h];exact (SF.row 4 (ros (zG (rds N js fs) y.2.1))).st _ _ _ hrl (s.up hb))) iiz)<|oc (yY (f:=fRo ((zG (rds N js fs) y.2.1).getD q.1 (0,0))) 4 kJ (hz:=zKd _))<|zE) fun a w12 s=> ?_
        refine yX (CU.len 4) (cs:= [.int .i64 0, .bool false, .slice none 0 0, .slice none 0 0]) kJ rfl s kJ (fun W=>rfl) rfl fun b19 a w s=> ?_
        refine yM (CU.agg (fRo ((zG (rds N js fs) y.2.1).getD q.1 (0,0)))) ((fRo ((zG (rds N js fs) y.2.1).getD q.1 (0,0))).tS) rfl s kJ rfl rfl rfl iiz iiz zFw fun a w s=> ?_
        refine zB rfl ?_
        have hb:=s.below
        replace hFr:=hFr.trans (hb.mono hFr.size)
        replace h11:=h11.below hb
        replace hG:=hG.below hb
        replace hC:=hC.below hb
        replace hS:=hS.below hb
        replace hTd:=hTd.below hb
        replace s:StS _ _ _ [⟨19,67,CU.agg (fRo ((zG (rds N js fs) y.2.1).getD q.1 (0,0))),b19,true⟩] _ _ _ _:=s.freeze
        replace s:=s.anewB rfl rfl
        refine zUs ?_
        have hsr:=hS.row (n:=N) (by simp [hsl])
        have hcr:=hC.row (n:=N) (by simp [hcl])
        refine zC 34 ((69, .Z (UF.eq (.slice (some ⟨gs,0,none⟩) N caps)))::(70, .X (fRo ((zG (rds N js fs) y.2.1).getD q.1 (0,0))) 0)::(71, .Z (uI ((((zG (rds N js fs) y.2.1).getD q.1 (0,0)).1:Nat):Int)))::(72, .s (wC (wB [.int .i64 (ssv.getD ((zG (rds N js fs) y.2.1).getD q.1 (0,0)).1 0)]).cf))::(73, .Z (uI (ssv.getD ((zG (rds N js fs) y.2.1).getD q.1 (0,0)).1 0)))::(74, .Z (UF.eq (.slice (some ⟨gs,0,none⟩) N caps)))::(75, .Z (uI (y.2.1:Int)))::(76, .s (wC (wB [.int .i64 (ssv.getD y.2.1 0)]).cf))::(77, .Z (uI (ssv.getD y.2.1 0)))::(78, .Z (uI (ssv.getD y.2.1 0 - 1)))::(79, .Z (uB ((ssv.getD ((zG (rds N js fs) y.2.1).getD q.1 (0,0)).1 0)==(ssv.getD y.2.1 0 - 1))))::(80, .Z (uB ((ssv.getD ((zG (rds N js fs) y.2.1).getD q.1 (0,0)).1 0)==(ssv.getD y.2.1 0 - 1))))::(81, .s (SF.imp (((ssv.getD ((zG (rds N js fs) y.2.1).getD q.1 (0,0)).1 0)==(ssv.getD y.2.1 0 - 1))=true) (wC ((CU.agg (fRo ((zG (rds N js fs) y.2.1).getD q.1 (0,0)))).cf.at 0))))::(82, .s (SF.imp (((ssv.getD ((zG (rds N js fs) y.2.1).getD q.1 (0,0)).1 0)==(ssv.getD y.2.1 0 - 1))=true) ((uI ((((zG (rds N js fs) y.2.1).getD q.1 (0,0)).1:Nat):Int)).tS)))::(83, .s (SF.imp (((ssv.getD ((zG (rds N js fs) y.2.1).getD q.1 (0,0)).1 0)==(ssv.getD y.2.1 0 - 1))=true) ((uI (q.2:Int)).tS)))::(84, .s (SF.imp (((ssv.getD ((zG (rds N js fs) y.2.1).getD q.1 (0,0)).1 0)==(ssv.getD y.2.1 0 - 1))=true) ((uB (decide (((((zG (rds N js fs) y.2.1).getD q.1 (0,0)).1:Nat):Int)<(q.2:Int)))).tS)))::(85, .Z (uB (((ssv.getD ((zG (rds N js fs) y.2.1).getD q.1 (0,0)).1 0)==(ssv.getD y.2.1 0 - 1))&&(decide (((((zG (rds N js fs) y.2.1).getD q.1 (0,0)).1:Nat):Int)<(q.2:Int))))))::(86, .Z (uB (((ssv.getD ((zG (rds N js fs) y.2.1).getD q.1 (0,0)).1 0)==(ssv.getD y.2.1 0 - 1))&&(decide (((((zG (rds N js fs) y.2.1).getD q.1 (0,0)).1:Nat):Int)<(q.2:Int))))))::(87, .s (SF.imp ((((ssv.getD ((zG (rds N js fs) y.2.1).getD q.1 (0,0)).1 0)==(ssv.getD y.2.1 0 - 1))&&(decide (((((zG (rds N js fs) y.2.1).getD q.1 (0,0)).1:Nat):Int)<(q.2:Int))))=true) ((UF.eq (.slice (some ⟨gc,0,none⟩) N capc)).tS)))::(88, .s (SF.imp ((((ssv.getD ((zG (rds N js fs) y.2.1).getD q.1 (0,0)).1 0)==(ssv.getD y.2.1 0 - 1))&&(decide (((((zG (rds N js fs) y.2.1).getD q.1 (0,0)).1:Nat):Int)<(q.2:Int))))=true) (wC ((CU.agg (fRo ((zG (rds N js fs) y.2.1).getD q.1 (0,0)))).cf.at 0))))::(89, .s (SF.imp ((((ssv.getD ((zG (rds N js fs) y.2.1).getD q.1 (0,0)).1 0)==(ssv.getD y.2.1 0 - 1))&&(decide (((((zG (rds N js fs) y.2.1).getD q.1 (0,0)).1:Nat):Int)<(q.2:Int))))=true) ((uI ((((zG (rds N js fs) y.2.1).getD q.1 (0,0)).1:Nat):Int)).tS)))::(90, .s (SF.imp ((((ssv.getD ((zG (rds N js fs) y.2.1).getD q.1 (0,0)).1 0)==(ssv.getD y.2.1 0 - 1))&&(decide (((((zG (rds N js fs) y.2.1).getD q.1 (0,0)).1:Nat):Int)<(q.2:Int))))=true) (wC (cg (fQN (csv.getD ((zG (rds N js fs) y.2.1).getD q.1 (0,0)).1 0))))))::(91, .s (SF.imp ((((ssv.getD ((zG (rds N js fs) y.2.1).getD q.1 (0,0)).1 0)==(ssv.getD y.2.1 0 - 1))&&(decide (((((zG (rds N js fs) y.2.1).getD q.1 (0,0)).1:Nat):Int)<(q.2:Int))))=true) ((fQN (csv.getD ((zG (rds N js fs) y.2.1).getD q.1 (0,0)).1 0)).tS)))::(92, .s (SF.imp ((((ssv.getD ((zG (rds N js fs) y.2.1).getD q.1 (0,0)).1 0)==(ssv.getD y.2.1 0 - 1))&&(decide (((((zG (rds N js fs) y.2.1).getD q.1 (0,0)).1:Nat):Int)<(q.2:Int))))=true) (wC ((CU.agg (fRo ((zG (rds N js fs) y.2.1).getD q.1 (0,0)))).cf.at 1))))::(93, .s (SF.imp ((((ssv.getD ((zG (rds N js fs) y.2.1).getD q.1 (0,0)).1 0)==(ssv.getD y.2.1 0 - 1))&&(decide (((((zG (rds N js fs) y.2.1).getD q.1 (0,0)).1:Nat):Int)<(q.2:Int))))=true) ((fQN (((zG (rds N js fs) y.2.1).getD q.1 (0,0)).2)).tS)))::(94, .s (SF.imp ((((ssv.getD ((zG (rds N js fs) y.2.1).getD q.1 (0,0)).1 0)==(ssv.getD y.2.1 0 - 1))&&(decide (((((zG (rds N js fs) y.2.1).getD q.1 (0,0)).1:Nat):Int)<(q.2:Int))))=true) (fQS 1 [csv.getD ((zG (rds N js fs) y.2.1).getD q.1 (0,0)).1 0,((zG (rds N js fs) y.2.1).getD q.1 (0,0)).2])))::(95, .s (SF.imp ((((ssv.getD ((zG (rds N js fs) y.2.1).getD q.1 (0,0)).1 0)==(ssv.getD y.2.1 0 - 1))&&(decide (((((zG (rds N js fs) y.2.1).getD q.1 (0,0)).1:Nat):Int)<(q.2:Int))))=true) ((fQN (csv.getD ((zG (rds N js fs) y.2.1).getD q.1 (0,0)).1 0+((zG (rds N js fs) y.2.1).getD q.1 (0,0)).2)).tS)))::(96, .s (SF.imp ((((ssv.getD ((zG (rds N js fs) y.2.1).getD q.1 (0,0)).1 0)==(ssv.getD y.2.1 0 - 1))&&(decide (((((zG (rds N js fs) y.2.1).getD q.1 (0,0)).1:Nat):Int)<(q.2:Int))))=true) ((UF.eq (.slice (some ⟨gc,0,none⟩) N capc)).tS)))::(97, .s (SF.imp ((((ssv.getD ((zG (rds N js fs) y.2.1).getD q.1 (0,0)).1 0)==(ssv.getD y.2.1 0 - 1))&&(decide (((((zG (rds N js fs) y.2.1).getD q.1 (0,0)).1:Nat):Int)<(q.2:Int))))=true) ((uI (y.2.1:Int)).tS)))::(98, .s (SF.imp ((((ssv.getD ((zG (rds N js fs) y.2.1).getD q.1 (0,0)).1 0)==(ssv.getD y.2.1 0 - 1))&&(decide (((((zG (rds N js fs) y.2.1).getD q.1 (0,0)).1:Nat):Int)<(q.2:Int))))=true) (wC (cg (fQN (csv.getD y.2.1 0))))))::(99, .s (SF.imp ((((ssv.getD ((zG (rds N js fs) y.2.1).getD q.1 (0,0)).1 0)==(ssv.getD y.2.1 0 - 1))&&(decide (((((zG (rds N js fs) y.2.1).getD q.1 (0,0)).1:Nat):Int)<(q.2:Int))))=true) ((fQN (csv.getD y.2.1 0)).tS)))::(100, .s (SF.imp ((((ssv.getD ((zG (rds N js fs) y.2.1).getD q.1 (0,0)).1 0)==(ssv.getD y.2.1 0 - 1))&&(decide (((((zG (rds N js fs) y.2.1).getD q.1 (0,0)).1:Nat):Int)<(q.2:Int))))=true) ((uI (qsg (csv.getD ((zG (rds N js fs) y.2.1).getD q.1 (0,0)).1 0+((zG (rds N js fs) y.2.1).getD q.1 (0,0)).2) (csv.getD y.2.1 0))).tS)))::(101, .s (SF.imp ((((ssv.getD ((zG (rds N js fs) y.2.1).getD q.1 (0,0)).1 0)==(ssv.getD y.2.1 0 - 1))&&(decide (((((zG (rds N js fs) y.2.1).getD q.1 (0,0)).1:Nat):Int)<(q.2:Int))))=true) ((uB ((qsg (csv.getD ((zG (rds N js fs) y.2.1).getD q.1 (0,0)).1 0+((zG (rds N js fs) y.2.1).getD q.1 (0,0)).2) (csv.getD y.2.1 0))==0)).tS)))::(102, .u (uB ((((ssv.getD ((zG (rds N js fs) y.2.1).getD q.1 (0,0)).1 0)==(ssv.getD y.2.1 0 - 1))&&(decide (((((zG (rds N js fs) y.2.1).getD q.1 (0,0)).1:Nat):Int)<(q.2:Int))))&&((qsg (csv.getD ((zG (rds N js fs) y.2.1).getD q.1 (0,0)).1 0+((zG (rds N js fs) y.2.1).getD q.1 (0,0)).2) (csv.getD y.2.1 0))==0)))):: []) hmix s kJ
          (oc zA<|oc (zU (C:=cg (fRo ((zG (rds N js fs) y.2.1).getD q.1 (0,0)))) 0 kJ)<|oc (y2 (C:=cg (fRo ((zG (rds N js fs) y.2.1).getD q.1 (0,0)))) (k:=0) kJ (h:=zFv))<|oc (zT (z:=1) (Cs:=ins ssv) (i:=((zG (rds N js fs) y.2.1).getD q.1 (0,0)).1) (C:=wB [.int .i64 (ssv.getD ((zG (rds N js fs) y.2.1).getD q.1 (0,0)).1 0)]) kJ (jN hrsl.2.1) (fun v W hb h=>(by rw [show v=(Value.slice (some ⟨gs,0,none⟩) N caps) from h];exact (SF.row 1 (ins ssv)).st _ _ _ hsr (s.up hb))) iiz)<|oc (yI (C:=(wB [.int .i64 (ssv.getD ((zG (rds N js fs) y.2.1).getD q.1 (0,0)).1 0)]).cf) kJ iiz y7)<|oc zA<|oc zA<|oc (zT (z:=1) (Cs:=ins ssv) (i:=y.2.1) (C:=wB [.int .i64 (ssv.getD y.2.1 0)]) kJ (jN hrsl.1) (fun v W hb h=>(by rw [show v=(Value.slice (some ⟨gs,0,none⟩) N caps) from h];exact (SF.row 1 (ins ssv)).st _ _ _ hsr (s.up hb))) iiz)<|oc (yI (C:=(wB [.int .i64 (ssv.getD y.2.1 0)]).cf) kJ iiz y7)<|oc (zBH .i64 (ssv.getD y.2.1 0) 1 (ssv.getD y.2.1 0 - 1) iiz iiz (zA3 _ oQ oQ))<|oc (zP .i64 (ssv.getD ((zG (rds N js fs) y.2.1).getD q.1 (0,0)).1 0) (ssv.getD y.2.1 0 - 1) ((ssv.getD ((zG (rds N js fs) y.2.1).getD q.1 (0,0)).1 0)==(ssv.getD y.2.1 0 - 1)) iiz iiz rfl rfl)<|oc zA<|oc (zD 80 ((ssv.getD ((zG (rds N js fs) y.2.1).getD q.1 (0,0)).1 0)==(ssv.getD y.2.1 0 - 1)) kJ iiz (fun e=>zL [] (wC ((CU.agg (fRo ((zG (rds N js fs) y.2.1).getD q.1 (0,0)))).cf.at 0)) fnz (fun _ _ h _=>h) kJ (zU (C:=cg (fRo ((zG (rds N js fs) y.2.1).getD q.1 (0,0)))) 0 kJ)) (fun e W h=>absurd h e))<|oc (zD 80 ((ssv.getD ((zG (rds N js fs) y.2.1).getD q.1 (0,0)).1 0)==(ssv.getD y.2.1 0 - 1)) kJ iiz (fun e=>zL [(81,wC ((CU.agg (fRo ((zG (rds N js fs) y.2.1).getD q.1 (0,0)))).cf.at 0))] ((uI ((((zG (rds N js fs) y.2.1).getD q.1 (0,0)).1:Nat):Int)).tS) (fmz ⟨fun v W h=>zI (c:=((ssv.getD ((zG (rds N js fs) y.2.1).getD q.1 (0,0)).1 0)==(ssv.getD y.2.1 0 - 1))=true) (f:=wC ((CU.agg (fRo ((zG (rds N js fs) y.2.1).getD q.1 (0,0)))).cf.at 0)) e h,fnz⟩) (fun _ _ h _=>h) kJ (y2 (C:=cg (fRo ((zG (rds N js fs) y.2.1).getD q.1 (0,0)))) (k:=0) kJ (h:=zFv))) (fun e W h=>absurd h e))<|oc (zD 80 ((ssv.getD ((zG (rds N js fs) y.2.1).getD q.1 (0,0)).1 0)==(ssv.getD y.2.1 0 - 1)) kJ iiz (fun e=>zL [] ((uI (q.2:Int)).tS) fnz (fun _ _ h _=>h) kJ zA) (fun e W h=>absurd h e))<|oc (zD 80 ((ssv.getD ((zG (rds N js fs) y.2.1).getD q.1 (0,0)).1 0)==(ssv.getD y.2.1 0 - 1)) kJ iiz (fun e=>zL [(82,(uI ((((zG (rds N js fs) y.2.1).getD q.1 (0,0)).1:Nat):Int)).tS),(83,(uI (q.2:Int)).tS)] ((uB (decide (((((zG (rds N js fs) y.2.1).getD q.1 (0,0)).1:Nat):Int)<(q.2:Int)))).tS) (fmz ⟨fun v W h=>zI (c:=((ssv.getD ((zG (rds N js fs) y.2.1).getD q.1 (0,0)).1 0)==(ssv.getD y.2.1 0 - 1))=true) (f:=(uI ((((zG (rds N js fs) y.2.1).getD q.1 (0,0)).1:Nat):Int)).tS) e h,fmz ⟨fun v W h=>zI (c:=((ssv.getD ((zG (rds N js fs) y.2.1).getD q.1 (0,0)).1 0)==(ssv.getD y.2.1 0 - 1))=true) (f:=(uI (q.2:Int)).tS) e h,fnz⟩⟩) (fun _ _ h _=>h) kJ (zP .i64 ((((zG (rds N js fs) y.2.1).getD q.1 (0,0)).1:Nat):Int) (q.2:Int) (decide (((((zG (rds N js fs) y.2.1).getD q.1 (0,0)).1:Nat):Int)<(q.2:Int))) iiz iiz rfl rfl)) (fun e W h=>absurd h e))<|oc (zY ((ssv.getD ((zG (rds N js fs) y.2.1).getD q.1 (0,0)).1 0)==(ssv.getD y.2.1 0 - 1)) iiz (fun e v W h=>zBX (zI e h) e) (fun e v W h=>zBl h e))<|oc zA<|oc (zD 86 (((ssv.getD ((zG (rds N js fs) y.2.1).getD q.1 (0,0)).1 0)==(ssv.getD y.2.1 0 - 1))&&(decide (((((zG (rds N js fs) y.2.1).getD q.1 (0,0)).1:Nat):Int)<(q.2:Int)))) kJ iiz (fun e=>zL [] ((UF.eq (.slice (some ⟨gc,0,none⟩) N capc)).tS) fnz (fun _ _ h _=>h) kJ zA) (fun e W h=>absurd h e))<|oc (zD 86 (((ssv.getD ((zG (rds N js fs) y.2.1).getD q.1 (0,0)).1 0)==(ssv.getD y.2.1 0 - 1))&&(decide (((((zG (rds N js fs) y.2.1).getD q.1 (0,0)).1:Nat):Int)<(q.2:Int)))) kJ iiz (fun e=>zL [] (wC ((CU.agg (fRo ((zG (rds N js fs) y.2.1).getD q.1 (0,0)))).cf.at 0)) fnz (fun _ _ h _=>h) kJ (zU (C:=cg (fRo ((zG (rds N js fs) y.2.1).getD q.1 (0,0)))) 0 kJ)) (fun e W h=>absurd h e))<|oc (zD 86 (((ssv.getD ((zG (rds N js fs) y.2.1).getD q.1 (0,0)).1 0)==(ssv.getD y.2.1 0 - 1))&&(decide (((((zG (rds N js fs) y.2.1).getD q.1 (0,0)).1:Nat):Int)<(q.2:Int)))) kJ iiz (fun e=>zL [(88,wC ((CU.agg (fRo ((zG (rds N js fs) y.2.1).getD q.1 (0,0)))).cf.at 0))] ((uI ((((zG (rds N js fs) y.2.1).getD q.1 (0,0)).1:Nat):Int)).tS) (fmz ⟨fun v W h=>zI (c:=(((ssv.getD ((zG (rds N js fs) y.2.1).getD q.1 (0,0)).1 0)==(ssv.getD y.2.1 0 - 1))&&(decide (((((zG (rds N js fs) y.2.1).getD q.1 (0,0)).1:Nat):Int)<(q.2:Int))))=true) (f:=wC ((CU.agg (fRo ((zG (rds N js fs) y.2.1).getD q.1 (0,0)))).cf.at 0)) e h,fnz⟩) (fun _ _ h _=>h) kJ (y2 (C:=cg (fRo ((zG (rds N js fs) y.2.1).getD q.1 (0,0)))) (k:=0) kJ (h:=zFv))) (fun e W h=>absurd h e))<|oc (zD 86 (((ssv.getD ((zG (rds N js fs) y.2.1).getD q.1 (0,0)).1 0)==(ssv.getD y.2.1 0 - 1))&&(decide (((((zG (rds N js fs) y.2.1).getD q.1 (0,0)).1:Nat):Int)<(q.2:Int)))) kJ iiz (fun e=>zL [(87,(UF.eq (.slice (some ⟨gc,0,none⟩) N capc)).tS),(89,(uI ((((zG (rds N js fs) y.2.1).getD q.1 (0,0)).1:Nat):Int)).tS)] (wC (cg (fQN (csv.getD ((zG (rds N js fs) y.2.1).getD q.1 (0,0)).1 0)))) (fmz ⟨fun v W h=>zI (c:=(((ssv.getD ((zG (rds N js fs) y.2.1).getD q.1 (0,0)).1 0)==(ssv.getD y.2.1 0 - 1))&&(decide (((((zG (rds N js fs) y.2.1).getD q.1 (0,0)).1:Nat):Int)<(q.2:Int))))=true) (f:=(UF.eq (.slice (some ⟨gc,0,none⟩) N capc)).tS) e h,fmz ⟨fun v W h=>zI (c:=(((ssv.getD ((zG (rds N js fs) y.2.1).getD q.1 (0,0)).1 0)==(ssv.getD y.2.1 0 - 1))&&(decide (((((zG (rds N js fs) y.2.1).getD q.1 (0,0)).1:Nat):Int)<(q.2:Int))))=true) (f:=(uI ((((zG (rds N js fs) y.2.1).getD q.1 (0,0)).1:Nat):Int)).tS) e h,fnz⟩⟩) (fun _ _ h _=>h) kJ (zT (z:=3) (Cs:=qns csv) (i:=((zG (rds N js fs) y.2.1).getD q.1 (0,0)).1) (C:=CU.agg (fQN (csv.getD ((zG (rds N js fs) y.2.1).getD q.1 (0,0)).1 0))) kJ (zFC hrsl.2.2.2) (fun v W hb h=>(by rw [show v=(Value.slice (some ⟨gc,0,none⟩) N capc) from h];exact (SF.row 3 (qns csv)).st _ _ _ hcr (s.up hb))) iiz)) (fun e W h=>absurd h e))<|oc (zD 86 (((ssv.getD ((zG (rds N js fs) y.2.1).getD q.1 (0,0)).1 0)==(ssv.getD y.2.1 0 - 1))&&(decide (((((zG (rds N js fs) y.2.1).getD q.1 (0,0)).1:Nat):Int)<(q.2:Int)))) kJ iiz (fun e=>zL [(90,wC (cg (fQN (csv.getD ((zG (rds N js fs) y.2.1).getD q.1 (0,0)).1 0))))] ((fQN (csv.getD ((zG (rds N js fs) y.2.1).getD q.1 (0,0)).1 0)).tS) (fmz ⟨fun v W h=>zI (c:=(((ssv.getD ((zG (rds N js fs) y.2.1).getD q.1 (0,0)).1 0)==(ssv.getD y.2.1 0 - 1))&&(decide (((((zG (rds N js fs) y.2.1).getD q.1 (0,0)).1:Nat):Int)<(q.2:Int))))=true) (f:=wC (cg (fQN (csv.getD ((zG (rds N js fs) y.2.1).getD q.1 (0,0)).1 0)))) e h,fnz⟩) (fun _ _ h _=>h) kJ (yY (f:=fQN (csv.getD ((zG (rds N js fs) y.2.1).getD q.1 (0,0)).1 0)) 3 kJ (hz:=jA _))) (fun e W h=>absurd h e))<|oc (zD 86 (((ssv.getD ((zG (rds N js fs) y.2.1).getD q.1 (0,0)).1 0)==(ssv.getD y.2.1 0 - 1))&&(decide (((((zG (rds N js fs) y.2.1).getD q.1 (0,0)).1:Nat):Int)<(q.2:Int)))) kJ iiz (fun e=>zL [] (wC ((CU.agg (fRo ((zG (rds N js fs) y.2.1).getD q.1 (0,0)))).cf.at 1)) fnz (fun _ _ h _=>h) kJ (zU (C:=cg (fRo ((zG (rds N js fs) y.2.1).getD q.1 (0,0)))) 1 kJ)) (fun e W h=>absurd h e))<|oc (zD 86 (((ssv.getD ((zG (rds N js fs) y.2.1).getD q.1 (0,0)).1 0)==(ssv.getD y.2.1 0 - 1))&&(decide (((((zG (rds N js fs) y.2.1).getD q.1 (0,0)).1:Nat):Int)<(q.2:Int)))) kJ iiz (fun e=>zL [(92,wC ((CU.agg (fRo ((zG (rds N js fs) y.2.1).getD q.1 (0,0)))).cf.at 1))] ((fQN (((zG (rds N js fs) y.2.1).getD q.1 (0,0)).2)).tS) (fmz ⟨fun v W h=>zI (c:=(((ssv.getD ((zG (rds N js fs) y.2.1).getD q.1 (0,0)).1 0)==(ssv.getD y.2.1 0 - 1))&&(decide (((((zG (rds N js fs) y.2.1).getD q.1 (0,0)).1:Nat):Int)<(q.2:Int))))=true) (f:=wC ((CU.agg (fRo ((zG (rds N js fs) y.2.1).getD q.1 (0,0)))).cf.at 1)) e h,fnz⟩) (fun _ _ h _=>h) kJ (zAO (C:=cg (fRo ((zG (rds N js fs) y.2.1).getD q.1 (0,0)))) (k:=1) 3 kJ (h:=zNQ))) (fun e W h=>absurd h e))<|oc (zD 86 (((ssv.getD ((zG (rds N js fs) y.2.1).getD q.1 (0,0)).1 0)==(ssv.getD y.2.1 0 - 1))&&(decide (((((zG (rds N js fs) y.2.1).getD q.1 (0,0)).1:Nat):Int)<(q.2:Int)))) kJ iiz (fun e=>zL [(91,(fQN (csv.getD ((zG (rds N js fs) y.2.1).getD q.1 (0,0)).1 0)).tS),(93,(fQN (((zG (rds N js fs) y.2.1).getD q.1 (0,0)).2)).tS)] (fQS 1 [csv.getD ((zG (rds N js fs) y.2.1).getD q.1 (0,0)).1 0,((zG (rds N js fs) y.2.1).getD q.1 (0,0)).2]) (fmz ⟨fun v W h=>zI (c:=(((ssv.getD ((zG (rds N js fs) y.2.1).getD q.1 (0,0)).1 0)==(ssv.getD y.2.1 0 - 1))&&(decide (((((zG (rds N js fs) y.2.1).getD q.1 (0,0)).1:Nat):Int)<(q.2:Int))))=true) (f:=(fQN (csv.getD ((zG (rds N js fs) y.2.1).getD q.1 (0,0)).1 0)).tS) e h,fmz ⟨fun v W h=>zI (c:=(((ssv.getD ((zG (rds N js fs) y.2.1).getD q.1 (0,0)).1 0)==(ssv.getD y.2.1 0 - 1))&&(decide (((((zG (rds N js fs) y.2.1).getD q.1 (0,0)).1:Nat):Int)<(q.2:Int))))=true) (f:=(fQN (((zG (rds N js fs) y.2.1).getD q.1 (0,0)).2)).tS) e h,fnz⟩⟩) (fun _ _ h _=>h) kJ (qM (fun u v W (hu:QNp (csv.getD ((zG (rds N js fs) y.2.1).getD q.1 (0,0)).1 0) u W) (hv:QNp (((zG (rds N js fs) y.2.1).getD q.1 (0,0)).2) v W)=>zJY (m:=1) (wJ hu hqc) (wJ hv hqb)))) (fun e W h=>absurd h e))<|oc (zD 86 (((ssv.getD ((zG (rds N js fs) y.2.1).getD q.1 (0,0)).1 0)==(ssv.getD y.2.1 0 - 1))&&(decide (((((zG (rds N js fs) y.2.1).getD q.1 (0,0)).1:Nat):Int)<(q.2:Int)))) kJ iiz (fun e=>zL [(94,fQS 1 [csv.getD ((zG (rds N js fs) y.2.1).getD q.1 (0,0)).1 0,((zG (rds N js fs) y.2.1).getD q.1 (0,0)).2])] ((fQN (csv.getD ((zG (rds N js fs) y.2.1).getD q.1 (0,0)).1 0+((zG (rds N js fs) y.2.1).getD q.1 (0,0)).2)).tS) (fmz ⟨fun v W h=>zI (c:=(((ssv.getD ((zG (rds N js fs) y.2.1).getD q.1 (0,0)).1 0)==(ssv.getD y.2.1 0 - 1))&&(decide (((((zG (rds N js fs) y.2.1).getD q.1 (0,0)).1:Nat):Int)<(q.2:Int))))=true) (f:=fQS 1 [csv.getD ((zG (rds N js fs) y.2.1).getD q.1 (0,0)).1 0,((zG (rds N js fs) y.2.1).getD q.1 (0,0)).2]) e h,fnz⟩) (fun _ _ h _=>h) kJ (zM zF zQ1 (fun u0 W hb (h0:(fQS 1 [csv.getD ((zG (rds N js fs) y.2.1).getD q.1 (0,0)).1 0,((zG (rds N js fs) y.2.1).getD q.1 (0,0)).2]).p u0 W)=>zKk (m:=1) (p:=csv.getD ((zG (rds N js fs) y.2.1).getD q.1 (0,0)).1 0) (q:=((zG (rds N js fs) y.2.1).getD q.1 (0,0)).2) h0 hqc hqb dC ((hT.below hFr).below (s.up hb))))) (fun e W h=>absurd h e))<|oc (zD 86 (((ssv.getD ((zG (rds N js fs) y.2.1).getD q.1 (0,0)).1 0)==(ssv.getD y.2.1 0 - 1))&&(decide (((((zG (rds N js fs) y.2.1).getD q.1 (0,0)).1:Nat):Int)<(q.2:Int)))) kJ iiz (fun e=>zL [] ((UF.eq (.slice (some ⟨gc,0,none⟩) N capc)).tS) fnz (fun _ _ h _=>h) kJ zA) (fun e W h=>absurd h e))<|oc (zD 86 (((ssv.getD ((zG (rds N js fs) y.2.1).getD q.1 (0,0)).1 0)==(ssv.getD y.2.1 0 - 1))&&(decide (((((zG (rds N js fs) y.2.1).getD q.1 (0,0)).1:Nat):Int)<(q.2:Int)))) kJ iiz (fun e=>zL [] ((uI (y.2.1:Int)).tS) fnz (fun _ _ h _=>h) kJ zA) (fun e W h=>absurd h e))<|oc (zD 86 (((ssv.getD ((zG (rds N js fs) y.2.1).getD q.1 (0,0)).1 0)==(ssv.getD y.2.1 0 - 1))&&(decide (((((zG (rds N js fs) y.2.1).getD q.1 (0,0)).1:Nat):Int)<(q.2:Int)))) kJ iiz (fun e=>zL [(96,(UF.eq (.slice (some ⟨gc,0,none⟩) N capc)).tS),(97,(uI (y.2.1:Int)).tS)] (wC (cg (fQN (csv.getD y.2.1 0)))) (fmz ⟨fun v W h=>zI (c:=(((ssv.getD ((zG (rds N js fs) y.2.1).getD q.1 (0,0)).1 0)==(ssv.getD y.2.1 0 - 1))&&(decide (((((zG (rds N js fs) y.2.1).getD q.1 (0,0)).1:Nat):Int)<(q.2:Int))))=true) (f:=(UF.eq (.slice (some ⟨gc,0,none⟩) N capc)).tS) e h,fmz ⟨fun v W h=>zI (c:=(((ssv.getD ((zG (rds N js fs) y.2.1).getD q.1 (0,0)).1 0)==(ssv.getD y.2.1 0 - 1))&&(decide (((((zG (rds N js fs) y.2.1).getD q.1 (0,0)).1:Nat):Int)<(q.2:Int))))=true) (f:=(uI (y.2.1:Int)).tS) e h,fnz⟩⟩) (fun _ _ h _=>h) kJ (zT (z:=3) (Cs:=qns csv) (i:=y.2.1) (C:=CU.agg (fQN (csv.getD y.2.1 0))) kJ (zFC hrsl.2.2.1) (fun v W hb h=>(by rw [show v=(Value.slice (some ⟨gc,0,none⟩) N capc) from h];exact (SF.row 3 (qns csv)).st _ _ _ hcr (s.up hb))) iiz)) (fun e W h=>absurd h e))<|oc (zD 86 (((ssv.getD ((zG (rds N js fs) y.2.1).getD q.1 (0,0)).1 0)==(ssv.getD y.2.1 0 - 1))&&(decide (((((zG (rds N js fs) y.2.1).getD q.1 (0,0)).1:Nat):Int)<(q.2:Int)))) kJ iiz (fun e=>zL [(98,wC (cg (fQN (csv.getD y.2.1 0))))] ((fQN (csv.getD y.2.1 0)).tS) (fmz ⟨fun v W h=>zI (c:=(((ssv.getD ((zG (rds N js fs) y.2.1).getD q.1 (0,0)).1 0)==(ssv.getD y.2.1 0 - 1))&&(decide (((((zG (rds N js fs) y.2.1).getD q.1 (0,0)).1:Nat):Int)<(q.2:Int))))=true) (f:=wC (cg (fQN (csv.getD y.2.1 0)))) e h,fnz⟩) (fun _ _ h _=>h) kJ (yY (f:=fQN (csv.getD y.2.1 0)) 3 kJ (hz:=jA _))) (fun e W h=>absurd h e))<|oc (zD 86 (((ssv.getD ((zG (rds N js fs) y.2.1).getD q.1 (0,0)).1 0)==(ssv.getD y.2.1 0 - 1))&&(decide (((((zG (rds N js fs) y.2.1).getD q.1 (0,0)).1:Nat):Int)<(q.2:Int)))) kJ iiz (fun e=>zL [(95,(fQN (csv.getD ((zG (rds N js fs) y.2.1).getD q.1 (0,0)).1 0+((zG (rds N js fs) y.2.1).getD q.1 (0,0)).2)).tS),(99,(fQN (csv.getD y.2.1 0)).tS)] ((uI (qsg (csv.getD ((zG (rds N js fs) y.2.1).getD q.1 (0,0)).1 0+((zG (rds N js fs) y.2.1).getD q.1 (0,0)).2) (csv.getD y.2.1 0))).tS) (fmz ⟨fun v W h=>zI (c:=(((ssv.getD ((zG (rds N js fs) y.2.1).getD q.1 (0,0)).1 0)==(ssv.getD y.2.1 0 - 1))&&(decide (((((zG (rds N js fs) y.2.1).getD q.1 (0,0)).1:Nat):Int)<(q.2:Int))))=true) (f:=(fQN (csv.getD ((zG (rds N js fs) y.2.1).getD q.1 (0,0)).1 0+((zG (rds N js fs) y.2.1).getD q.1 (0,0)).2)).tS) e h,fmz ⟨fun v W h=>zI (c:=(((ssv.getD ((zG (rds N js fs) y.2.1).getD q.1 (0,0)).1 0)==(ssv.getD y.2.1 0 - 1))&&(decide (((((zG (rds N js fs) y.2.1).getD q.1 (0,0)).1:Nat):Int)<(q.2:Int))))=true) (f:=(fQN (csv.getD y.2.1 0)).tS) e h,fnz⟩⟩) (fun _ _ h _=>h) kJ (yE zF zQ2 (fun u0 u1 W hb (h0:QNp (csv.getD ((zG (rds N js fs) y.2.1).getD q.1 (0,0)).1 0+((zG (rds N js fs) y.2.1).getD q.1 (0,0)).2) u0 W) (h1:QNp (csv.getD y.2.1 0) u1 W)=>zNT (m:=1) (wJ h0 hqx) (wJ h1 hqa) dC dC ((hT.below hFr).below (s.up hb))))) (fun e W h=>absurd h e))<|oc (zD 86 (((ssv.getD ((zG (rds N js fs) y.2.1).getD q.1 (0,0)).1 0)==(ssv.getD y.2.1 0 - 1))&&(decide (((((zG (rds N js fs) y.2.1).getD q.1 (0,0)).1:Nat):Int)<(q.2:Int)))) kJ iiz (fun e=>zL [(100,(uI (qsg (csv.getD ((zG (rds N js fs) y.2.1).getD q.1 (0,0)).1 0+((zG (rds N js fs) y.2.1).getD q.1 (0,0)).2) (csv.getD y.2.1 0))).tS)] ((uB ((qsg (csv.getD ((zG (rds N js fs) y.2.1).getD q.1 (0,0)).1 0+((zG (rds N js fs) y.2.1).getD q.1 (0,0)).2) (csv.getD y.2.1 0))==0)).tS) (fmz ⟨fun v W h=>zI (c:=(((ssv.getD ((zG (rds N js fs) y.2.1).getD q.1 (0,0)).1 0)==(ssv.getD y.2.1 0 - 1))&&(decide (((((zG (rds N js fs) y.2.1).getD q.1 (0,0)).1:Nat):Int)<(q.2:Int))))=true) (f:=(uI (qsg (csv.getD ((zG (rds N js fs) y.2.1).getD q.1 (0,0)).1 0+((zG (rds N js fs) y.2.1).getD q.1 (0,0)).2) (csv.getD y.2.1 0))).tS) e h,fnz⟩) (fun _ _ h _=>h) kJ (zP .i64 (qsg (csv.getD ((zG (rds N js fs) y.2.1).getD q.1 (0,0)).1 0+((zG (rds N js fs) y.2.1).getD q.1 (0,0)).2) (csv.getD y.2.1 0)) 0 ((qsg (csv.getD ((zG (rds N js fs) y.2.1).getD q.1 (0,0)).1 0+((zG (rds N js fs) y.2.1).getD q.1 (0,0)).2) (csv.getD y.2.1 0))==0) iiz iiz rfl rfl)) (fun e W h=>absurd h e))<|oc (zY (((ssv.getD ((zG (rds N js fs) y.2.1).getD q.1 (0,0)).1 0)==(ssv.getD y.2.1 0 - 1))&&(decide (((((zG (rds N js fs) y.2.1).getD q.1 (0,0)).1:Nat):Int)<(q.2:Int)))) iiz (fun e v W h=>zBX (zI e h) e) (fun e v W h=>zBl h e))<|zE) fun a w13 s=> ?_
        refine zB rfl ?_
        have hb:=s.below
        replace hFr:=hFr.trans (hb.mono hFr.size)
        replace h11:=h11.below hb
        replace hG:=hG.below hb
        replace hC:=hC.below hb
        replace hS:=hS.below hb
        replace hTd:=hTd.below hb
        replace s:=s.anewB rfl rfl
        refine StS.cond s ((((ssv.getD ((zG (rds N js fs) y.2.1).getD q.1 (0,0)).1 0)==(ssv.getD y.2.1 0 - 1))&&(decide (((((zG (rds N js fs) y.2.1).getD q.1 (0,0)).1:Nat):Int)<(q.2:Int))))&&((qsg (csv.getD ((zG (rds N js fs) y.2.1).getD q.1 (0,0)).1 0+((zG (rds N js fs) y.2.1).getD q.1 (0,0)).2) (csv.getD y.2.1 0))==0)) iiz (fun e=> ?_) (fun e=> ?_)
        . have hcond:ssv.getD ((zG (rds N js fs) y.2.1).getD q.1 (0,0)).1 0=ssv.getD y.2.1 0 - 1/\((zG (rds N js fs) y.2.1).getD q.1 (0,0)).1<q.2/\csv.getD ((zG (rds N js fs) y.2.1).getD q.1 (0,0)).1 0+((zG (rds N js fs) y.2.1).getD q.1 (0,0)).2=csv.getD y.2.1 0:=by simpa [zEl,and_assoc] using e
          replace s:=s.drop [17]
          refine zC 3 ((103, .X (fRo ((zG (rds N js fs) y.2.1).getD q.1 (0,0))) 0)::(104, .Z (uI ((((zG (rds N js fs) y.2.1).getD q.1 (0,0)).1:Nat):Int)))::(17, .u (uI ((((zG (rds N js fs) y.2.1).getD q.1 (0,0)).1:Nat):Int))):: []) hmix s kJ
            (oc (zU (C:=cg (fRo ((zG (rds N js fs) y.2.1).getD q.1 (0,0)))) 0 kJ)<|oc (y2 (C:=cg (fRo ((zG (rds N js fs) y.2.1).getD q.1 (0,0)))) (k:=0) kJ (h:=zFv))<|oc zH<|zE) fun a w14 s=> ?_
          refine zB rfl ?_
          have hb:=s.below
          replace hFr:=hFr.trans (hb.mono hFr.size)
          replace h11:=h11.below hb
          replace hG:=hG.below hb
          replace hC:=hC.below hb
          replace hS:=hS.below hb
          replace hTd:=hTd.below hb
          replace s:=s.anewB rfl rfl
          refine yQ 1 ((105, .u (uI ((q.1+1:Nat):Int))):: []) s kJ
            (oc (jH .i64 (q.1:Int) 1 ((q.1+1:Nat):Int) iiz iiz (wrap64 _ _ oQ oQ))<|zE) fun a w15 s=> ?_
          replace s:=s.drop [65]
          refine zCt (uI ((q.1+1:Nat):Int)) rfl s kJ zA kJ fun a w s=> ?_
          refine zB rfl ?_
          have hb:=s.below
          replace hFr:=hFr.trans (hb.mono hFr.size)
          replace h11:=h11.below hb
          replace hG:=hG.below hb
          replace hC:=hC.below hb
          replace hS:=hS.below hb
          replace hTd:=hTd.below hb
          replace s:=s.anewB rfl rfl
          replace s:=s.popB
          exact ⟨(q.1+1,((zG (rds N js fs) y.2.1).getD q.1 (0,0)).1),(by show (zG (rds N js fs) y.2.1).length - (q.1+1)<(zG (rds N js fs) y.2.1).length - q.1;omega),hkl,(by show _=((zG (rds N js fs) y.2.1).take (q.1+1)).foldl _ _;rw [zLf _ _ (0,0) _ hkl, <-hbq];unfold zDK;rw [if_pos hcond]),Nat.le_of_lt hrn,hFr,h11,hG,hC,hS,hTd,s.keepK _ (fmz ⟨mz6,fmz ⟨mz7,fmz ⟨mz8,fmz ⟨mz9,fmz ⟨zJC,fmz ⟨zJB,fmz ⟨zLR,fmz ⟨zPs,fmz ⟨mz2,fmz ⟨zRQ,fmz ⟨zJA,fmz ⟨.head _,fnz⟩⟩⟩⟩⟩⟩⟩⟩⟩⟩⟩⟩)⟩
        . have hcond: ¬(ssv.getD ((zG (rds N js fs) y.2.1).getD q.1 (0,0)).1 0=ssv.getD y.2.1 0 - 1/\((zG (rds N js fs) y.2.1).getD q.1 (0,0)).1<q.2/\csv.getD ((zG (rds N js fs) y.2.1).getD q.1 (0,0)).1 0+((zG (rds N js fs) y.2.1).getD q.1 (0,0)).2=csv.getD y.2.1 0):=by
            intro hc
            have e2:=e
            rw [hc.1,hc.2.2] at e2
            have h3:=hc.2.1
            simp [zEl] at e2 h3
            omega
          refine zUu ?_
          refine yQ 1 ((105, .u (uI ((q.1+1:Nat):Int))):: []) s kJ
            (oc (jH .i64 (q.1:Int) 1 ((q.1+1:Nat):Int) iiz iiz (wrap64 _ _ oQ oQ))<|zE) fun a w16 s=> ?_
          replace s:=s.drop [65]
          refine zCt (uI ((q.1+1:Nat):Int)) rfl s kJ zA kJ fun a w s=> ?_
          refine zB rfl ?_
          have hb:=s.below
          replace hFr:=hFr.trans (hb.mono hFr.size)
          replace h11:=h11.below hb
          replace hG:=hG.below hb
          replace hC:=hC.below hb
          replace hS:=hS.below hb
          replace hTd:=hTd.below hb
          replace s:=s.anewB rfl rfl
          replace s:=s.popB
          exact ⟨(q.1+1,q.2),(by show (zG (rds N js fs) y.2.1).length - (q.1+1)<(zG (rds N js fs) y.2.1).length - q.1;omega),hkl,(by show _=((zG (rds N js fs) y.2.1).take (q.1+1)).foldl _ _;rw [zLf _ _ (0,0) _ hkl, <-hbq];unfold zDK;rw [if_neg hcond]),hqN,hFr,h11,hG,hC,hS,hTd,s.keepK _ (fmz ⟨mz5,fmz ⟨mz6,fmz ⟨mz7,fmz ⟨mz8,fmz ⟨mz9,fmz ⟨zJC,fmz ⟨zJB,fmz ⟨zLR,fmz ⟨zPs,fmz ⟨zRQ,fmz ⟨zJA,fmz ⟨.head _,fnz⟩⟩⟩⟩⟩⟩⟩⟩⟩⟩⟩⟩)⟩
      . have hqe:q.1=(zG (rds N js fs) y.2.1).length:=by have h7:=zUw e;simp only [zUv] at h7;omega
        have hq2:q.2=(nxF (grE N js fs) N csv ssv) y.2.1:=by rw [hbq,hqe,List.take_length];rfl
        rw [hq2] at s
        refine wpIn_exit ?_
        replace s:=s.drop [16]
        refine zC 2 ((106, .Z (uI (((nxF (grE N js fs) N csv ssv) y.2.1:Nat):Int)))::(16, .u (uI (((nxF (grE N js fs) N csv ssv) y.2.1:Nat):Int))):: []) hmix s kJ
          (oc zA<|oc zH<|zE) fun a w17 s=> ?_
        refine zB rfl ?_
        have hb:=s.below
        replace hFr:=hFr.trans (hb.mono hFr.size)
        replace h11:=h11.below hb
        replace hG:=hG.below hb
        replace hC:=hC.below hb
        replace hS:=hS.below hb
        replace hTd:=hTd.below hb
        replace s:=s.anewB rfl rfl
        refine zBT 3 ((54, .u (UF.eq (y.2.2.2)))::(55, .Z (uI (((nxF (grE N js fs) N csv ssv) y.2.1:Nat):Int)))::(56, .s (wE w17 3 1 [wB [.int .i64 (((nxF (grE N js fs) N csv ssv) y.2.1:Nat):Int)]])):: []) s kJ
          (oc zA<|oc zA<|oc (zBL (fun u W hb (hu:u= .int .i64 (((nxF (grE N js fs) N csv ssv) y.2.1:Nat):Int))=>by subst hu;exact ⟨_,_,zQm _,(zJ0 _ _).toN hb.size rfl⟩))<|zE) fun a w18 s hr=> ?_
        have hb:=s.below
        replace hFr:=hFr.trans (hb.mono hFr.size)
        replace h11:=h11.below hb
        replace hG:=hG.below hb
        replace hC:=hC.below hb
        replace hS:=hS.below hb
        replace hTd:=hTd.below hb
        have hty: ∀q_,y.2.2.2.ownBlock=some q_->(∀q',zET gg vs q'->q'≠q_)/\gc≠q_/\b11≠q_:=fun q_ hh=>⟨fun q' hq'=>hG.no hq' (qZ hTd hh).2.choose_spec.1 dC dC,yA hC.at.choose_spec (qZ hTd hh).2.choose_spec.1 dC,yA h11.at.choose_spec (qZ hTd hh).2.choose_spec.1 dC⟩
        refine zH4 (base:=W.heap.size) (z:=1) (e:=3) (v:=y.2.2.2) (Cs:=ins (jP y.2.2.1)) [wB [.int .i64 (((nxF (grE N js fs) N csv ssv) y.2.1:Nat):Int)]] s hTd hFr.size rfl kJ kJ rfl rfl (s.fct (.tmp 54)) (jD.row (hr (_,_) mz2)) (fun C hC=>by obtain rfl:=List.mem_singleton.1 hC;exact zLa rfl rfl) (by simp only [zUv,jP,List.length_singleton];omega) (fun q hq=>by cases hq) fun tv' a w hTd1 hF1 hk1 hor s=> ?_
        replace hFr:=qF hFr hF1 (fun q_ hq=>(hTd.lt q_ hq).1)
        replace hG:=hG.keep (fun q_ hq=>hF1.block q_ (hG.lt hq) (fun hh=>(hty _ hh).1 _ hq rfl)) hk1
        replace h11:=h11.keep (hF1.block _ h11.lt (fun hh=>(hty _ hh).2.2 rfl)) hk1
        replace hC:=hC.keep (hF1.block _ hC.lt (fun hh=>(hty _ hh).2.1 rfl)) hk1
        have hne0:=hne
        replace hne: ∀q_,tv'.ownBlock=some q_->q_≠gs:=fun q_ hq=>by
          rcases hor with e|e
          . exact hne q_ (e▸hq)
          . rw [e] at hq;cases hq;have:=hS.lt;omega
        replace hS:=hS.keep (hF1.block gs hS.lt (fun hh=>hne0 _ hh rfl)) hk1
        replace hTd:=hTd1
        rw [zPB] at hTd
        replace s:=s.drop [10]
        refine qL (UF.eq tv') rfl s kJ iiz fun a w s=> ?_
        refine zB rfl ?_
        have hb:=s.below
        replace hFr:=hFr.trans (hb.mono hFr.size)
        replace h11:=h11.below hb
        replace hG:=hG.below hb
        replace hC:=hC.below hb
        replace hS:=hS.below hb
        replace hTd:=hTd.below hb
        replace s:=s.anewB rfl rfl
        exact ⟨(t,(nxF (grE N js fs) N csv ssv) y.2.1,y.2.2.1++ [(nxF (grE N js fs) N csv ssv) y.2.1],tv'),(by show t<y.1;omega),⟨hn1,hn4,hn5,(by show (y.2.2.1++ [(nxF (grE N js fs) N csv ssv) y.2.1])++zGc (nxF (grE N js fs) N csv ssv) xn t ((nxF (grE N js fs) N csv ssv) y.2.1)=_;rw [<-hwy,et,zGc,if_neg hax,List.append_assoc];rfl),(by show (y.2.2.1++ [(nxF (grE N js fs) N csv ssv) y.2.1]).length+t=_;rw [List.length_append,List.length_singleton];omega)⟩,hFr,h11,hG,hC,hS,hTd,hne,s.keepK _ (fmz ⟨mz5,fmz ⟨mz6,fmz ⟨.head _,fmz ⟨mz7,fmz ⟨mz8,fmz ⟨mz9,fmz ⟨zJC,fmz ⟨mz3,fnz⟩⟩⟩⟩⟩⟩⟩⟩)⟩
    . have hax : y.2.1 = xn := by have e2:(y.2.1:Int)=(xn:Int):=by simpa using e
                                  omega
      refine wpIn_exit ?_
      refine zUs ?_
      refine zC 1 ((107, .u (UF.eq (y.2.2.2))):: []) hmix s kJ
        (oc zA<|zE) fun a w19 s=> ?_
      have hb:=s.below
      replace hFr:=hFr.trans (hb.mono hFr.size)
      replace h11:=h11.below hb
      replace hG:=hG.below hb
      replace hC:=hC.below hb
      replace hS:=hS.below hb
      replace hTd:=hTd.below hb
      obtain ⟨l0,hl0,hl0n,-⟩:=hway
      have hall:y.2.2.1=zn::zGc (nxF (grE N js fs) N csv ssv) xn s0 zn:=by rw [<-hwy];rcases hy:y.1 with _|t<;>simp [zGc,hax]
      have hlen:(jP y.2.2.1).length=s0+1:=by rw [hall,hl0];simp [jP,hl0n]
      obtain ⟨gt,cpt,ev,hgt,hRt⟩:=zDz hTd (by simp only [zUv];omega)
      rw [show (ins (jP y.2.2.1)).length=(jP y.2.2.1).length by simp] at ev
      rw [ev] at s
      have hty:(∀q',zET gg vs q'->q'≠gt)/\gc≠gt/\b11≠gt:=⟨fun q' hq'=>hG.no hq' hRt.at.choose_spec dC dC,yA hC.at.choose_spec hRt.at.choose_spec dC,yA h11.at.choose_spec hRt.at.choose_spec dC⟩
      refine zD6 (T:=fun q=>q=gt) (args:=#[.slice (some ⟨gt,0,none⟩) (jP y.2.2.1).length cpt]) zF (enters_of func35 kJ rfl) s rfl kJ rfl rfl (fun q hq=>by rw [hq];exact hRt.plain) (fun q hq=>by cases hq) (by rw [List.map_toArray];simp [show a.eval (.tmp 107)=_ from s.fct (.tmp 107)]) (zQa hRt oQ) fun a w hR1 hF1 hk1 s=> ?_
      replace hFr:=qF hFr hF1 (fun q hq=>by rw [hq];exact hgt)
      replace h11:=h11.keep (hF1.block _ h11.lt hty.2.2) hk1
      replace hC:=hC.keep (hF1.block _ hC.lt hty.2.1) hk1
      replace hTd:jD w W.heap.size 3 1 (.slice (some ⟨gt,0,none⟩) (jP y.2.2.1).length cpt) (ins (jP y.2.2.1).reverse):=hR1.toN hgt (by simp)
      refine zB rfl ?_
      have hb:=s.below
      replace hFr:=hFr.trans (hb.mono hFr.size)
      replace h11:=h11.below hb
      replace hC:=hC.below hb
      replace hTd:=hTd.below hb
      replace s:=s.anewB rfl rfl
      refine zUs ?_
      have hzc:zn<csv.length:=by rw [hcl];exact hzN
      refine zBh (w:=w) (n:=f10.ntmps) (fun i v U=>match i with|0=>v= .slice (some ⟨gt,0,none⟩) (jP y.2.2.1).length cpt|1=>v=(.slice (some ⟨gc,0,none⟩) N capc)|2=>v= .int .i64 (zn:Int)|3=>v= .pointer (some ⟨gc,zn*3,none⟩)|4=>QNp (csv.getD zn 0) v U|5=>v= .slice (some ⟨gt,0,none⟩) (jP y.2.2.1).length cpt|_=>True) (fun _ U=>Below w.heap.size w U) (fun _ U V=>Below U.heap.size U V) 6 hmix s.size kJ (fun i l U V _ _ _ hC hR=>hC.trans (hR.mono hC.size)) (fun i j v U V _ hj hij hE hR=> ?_) (fun l U _ hb=>hb) (fun i o hi ho l a' U hf hnl hall_ Kk hK=> ?_) (fun Q' hQ a' w' hb hsz hnd hkp hv=> ?_)
      . have hj':j=0∨j=1∨j=2∨j=3∨j=4∨j=5:=by omega
        rcases hj' with rfl|rfl|rfl|rfl|rfl|rfl<;>first|exact hE|exact (fQN (csv.getD zn 0)).us _ _ _ hE (zK hR)
      . have hCU:=hC.below hf.cls
        have k10:a'.eval (.tmp 10)= .slice (some ⟨gt,0,none⟩) (jP y.2.2.1).length cpt:=by
          cases h5:l.getD 5 false with
          |true=>exact hf.vals 5 dC h5 10 rfl
          |false=>exact (hf.old 5 dC h5 10 rfl).trans (s.val mz5)
        have hi':i=0∨i=1∨i=2∨i=3∨i=4∨i=5:=by omega
        rcases hi' with rfl|rfl|rfl|rfl|rfl|rfl<;>obtain rfl:=Option.some.inj ho
        . exact yC ho (fun _ e=>by cases e) (fun _ e=>by cases e) (zEc k10) (hK _ U rfl (zUt _ _))
        . exact yC ho (fun _ e=>by cases e) (fun _ e=>by cases e) (zEc ((hf.keep 14 (fun j hj=>yT (k:=6) kJ j hj)).trans (s.val mz8))) (hK _ U rfl (zUt _ _))
        . exact yC ho (fun _ e=>by cases e) (fun _ e=>by cases e) (zEc ((hf.keep 4 (fun j hj=>yT (k:=6) kJ j hj)).trans (s.val mz4))) (hK _ U rfl (zUt _ _))
        . have e1:a'.eval (.tmp 110)=(.slice (some ⟨gc,0,none⟩) N capc):=hf.vals 1 dC (yF hall_ kJ) 110 rfl
          have e2:a'.eval (.tmp 111)= .int .i64 (zn:Int):=hf.vals 2 dC (yF hall_ kJ) 111 rfl
          exact yC ho (fun _ e=>by cases e) (fun _ e=>by cases e) (zEe (z:=3) kJ hzN e1 e2) (hK _ U rfl (zUt _ _))
        . have e3:a'.eval (.tmp 112)= .pointer (some ⟨gc,zn*3,none⟩):=hf.vals 3 dC (yF hall_ kJ) 112 rfl
          obtain ⟨cs,g1,g2,g3⟩:=zMm hCU (zFC hzc)
          exact yC ho (fun _ e=>by cases e) (fun _ e=>by cases e) (zFr (cs:=cs) (o:=zn*3) (k:=3) kJ e3 g1 g2) (hK _ U g3 (zUt _ _))
        . have e0:a'.eval (.tmp 109)= .slice (some ⟨gt,0,none⟩) (jP y.2.2.1).length cpt:=hf.vals 0 dC (yF hall_ kJ) 109 rfl
          exact yC ho (fun _ e=>by cases e) (fun _ e=>by cases e) (zQo e0) (hK _ U rfl (zUt _ _))
      have e0:a'.tmps.getD 10 undef= .slice (some ⟨gt,0,none⟩) (jP y.2.2.1).length cpt:=hv 5 dC 10 rfl
      have e4:QNp (csv.getD zn 0) (a'.tmps.getD 113 undef) w':=hv 4 dC 113 rfl
      have e11:=(hkp 11 (fun j hj=>yT (k:=6) kJ j hj)).trans (s.val mz6)
      replace hFr:=hFr.trans (hb.mono hFr.size)
      replace h11:=h11.below hb
      replace hTd:=hTd.below hb
      replace s:St w' [(10, .u (UF.eq (.slice (some ⟨gt,0,none⟩) (jP y.2.2.1).length cpt))),(113, .u (fQN (csv.getD zn 0))),(11, .u (UF.eq (pO b11 0)))] [] f10.ntmps [] a' w':=wX hsz (hnd.trans s.nd) (fmz ⟨⟨_,rfl,e0⟩,fmz ⟨⟨_,rfl,e4⟩,fmz ⟨⟨_,rfl,e11⟩,fnz⟩⟩⟩)
      have h11t: ∀q_,(Value.slice (some ⟨gt,0,none⟩) (jP y.2.2.1).length cpt).ownBlock=some q_->q_≠b11:=fun q_ hq=>(yA h11.at.choose_spec (qZ hTd hq).2.choose_spec.1 dC).symm
      refine zCC (g:=b11) (i:=0) (cap:=1) (z:=3) (e:=32) (CU.agg (fQN (csv.getD zn 0))) rfl s rfl rfl h11 (by simp) kJ (s.fct (.tmp 11)) (zKy (s.fct (.tmp 113))) (fun q hq=>by cases hq) fun w hF1 hk1 h11 s=> ?_
      replace hFr:=qF hFr hF1 (fun q hq=>by rw [hq];exact hb11)
      replace hTd:=hTd.keep (fun q hq=>hF1.block q (hTd.lt q hq).2 (h11t q hq)) hk1
      refine qL (uB true) rfl s kJ iiz fun a w s=> ?_
      have hb:=s.below
      replace hFr:=hFr.trans (hb.mono hFr.size)
      replace h11:=h11.below hb
      replace hTd:=hTd.below hb
      replace s:=s.anewB rfl rfl
      refine zB rfl (hQ _ _ ?_)
      refine wpIn_ret ?_
      obtain ⟨c11,g1,g2,g3⟩:=zOf h11
      replace s:=s.home rfl rfl hFr
      exact vF s rfl kJ (s.fct (.tmp 11)) g1 g2 ⟨_,_,_,rfl,by rw [hres,show a.tmps.getD 10 undef=_ from s.fct (.tmp 10), <-hall,show jP y.2.2.1.reverse=(jP y.2.2.1).reverse by simp [jP]];exact hTd,by rw [hres];exact g3,by rw [hres];exact s.fct (.tmp 12)⟩
end Go.Proofs.Wd

namespace Go.Proofs.Wd
open Tryz
set_option maxRecDepth 100000
set_option maxHeartbeats 1000000
open Go.RowKit Lb
section
variable {F:Fence} {m:Nat} {w0:World} {ops:Array Oper} {G:Nat->SF} {d:Tmp} {ty:TypeId} {pos:String} {aft:Array Edge}
theorem zMQ (a b:Int) (hd: ∀v W,(SF.row 1 (ins [a,b])).p v W->(G d).p v W:=by exact fun _ _ h=>h):qD F m prog w0 ops G ⟨some d, .buildSlice 24 2 #[(0, .const (.int .i64 a)),(1, .const (.int .i64 b))],ty,pos,aft,none⟩:=
 zBY fun bb W hb hh=>by
  have ev: ∀v:Value,bb.eval (.const v)=v:=fun _=>rfl
  exact ⟨_,_,by simpa [ev] using zS4 a b,hd _ _ ((zEg [a,b] W (by show _<=1000;simp)).row rfl)⟩
theorem zID (a b c:Int) (hd: ∀v W,(SF.row 1 (ins [a,b,c])).p v W->(G d).p v W:=by exact fun _ _ h=>h):qD F m prog w0 ops G ⟨some d, .buildSlice 24 3 #[(0, .const (.int .i64 a)),(1, .const (.int .i64 b)),(2, .const (.int .i64 c))],ty,pos,aft,none⟩:=
 zBY fun bb W hb hh=>by
  have ev: ∀v:Value,bb.eval (.const v)=v:=fun _=>rfl
  exact ⟨_,_,by simpa [ev] using zS3 a b c,hd _ _ ((zEg [a,b,c] W (by show _<=1000;simp)).row rfl)⟩
theorem zMP (a b c e:Int) (hd: ∀v W,(SF.row 1 (ins [a,b,c,e])).p v W->(G d).p v W:=by exact fun _ _ h=>h):qD F m prog w0 ops G ⟨some d, .buildSlice 24 4 #[(0, .const (.int .i64 a)),(1, .const (.int .i64 b)),(2, .const (.int .i64 c)),(3, .const (.int .i64 e))],ty,pos,aft,none⟩:=
 zBY fun bb W hb hh=>by
  have ev: ∀v:Value,bb.eval (.const v)=v:=fun _=>rfl
  exact ⟨_,_,by simpa [ev] using zS2 a b c e,hd _ _ ((zEg [a,b,c,e] W (by show _<=1000;simp)).row rfl)⟩
end
theorem zQi {a b c d e f:Int} {u v q:Value} {W:World} (hu:u= .agg #[.int .i64 a, .int .i64 b]) (hv:v= .agg #[.int .i64 c, .int .i64 d]) (hq:q= .agg #[.int .i64 e, .int .i64 f]): ∃t cs,zW prog 22 3 [(0,u),(1,v),(2,q)]=some (t,cs)/\(SF.row 2 (jns [(a,b),(c,d),(e,f)])).p (.slice (some ⟨W.heap.size,0,none⟩) 3 3) (W.alloc (.cells cs t)):=by
 subst hu hv hq
 exact ⟨_,_,zRH a b c d e f,(zMn a b c d e f W).row rfl⟩
theorem zKZ {W W':World} {r:List Int×Rat×Bool} {v:Value} {V:World} (hW:W.heap.size<=W'.heap.size) (h:(zLn W' r).p v V):(wH (wE W 3 1 (ins r.1)) (fQN r.2.1).tS (fB r.2.2).tS).p v V:=by
 obtain ⟨x,y,z,h1,h2,h3,h4⟩:=h
 exact ⟨x,y,z,h1,jD.mono h2 hW,h3,h4⟩
theorem zEz {W':World} {r:List Int×Rat×Bool} {v:Value} {V:World} (h:(zLn W' r).p v V):(wH SF.any (fQN r.2.1).tS (fB r.2.2).tS).p v V:=by
 obtain ⟨x,y,z,h1,h2,h3,h4⟩:=h
 exact ⟨x,y,z,h1,trivial,h3,h4⟩
theorem zQx:qzs [1,1,2]= [1,1,2]:=by decide+kernel
theorem zKx {fs:List Rat} (hq: ∀q,q∈fs->QB q 1) {v:Value} {W:World} (h:(SF.row 3 (qns fs)).p v W):(SF.row 3 (rvs 1 fs)).p v W:=
 zIk (by simp) (fun i C D hC hD cs W' hh=>by
  have hi:i<fs.length:=by have:=(List.getElem?_eq_some_iff.1 hC).1;simpa using this
  rw [List.getElem?_map,zUy hi] at hC hD
  cases hC;cases hD
  exact wJ hh (hq _ (List.getElem_mem hi))) v W h
theorem zHf: ∀q,q∈([1,1,2]:List Rat)->q=1∨q=2:=fun q hq=>by
 simp only [List.mem_cons,List.not_mem_nil,or_false] at hq
 rcases hq with rfl|rfl|rfl
 ·exact .inl rfl
 ·exact .inl rfl
 ·exact .inr rfl
theorem zHX: ∀q,q∈([1,1,2]:List Rat)->QB q 1:=fun q hq=>by
 rcases zHf q hq with rfl|rfl<;>exact ⟨by unfold Bd BB;decide+kernel,by unfold BB;decide+kernel⟩
theorem zJL {W:World} (hT:Tab W):Calls prog 8 #[] W (Ret W (fB true).tS):=by
 have hFr:Below W.heap.size W W:=zUt _ _
 refine qK [] func8 rfl kJ trivial fun a s=> ?_
 refine zUs ?_
 refine zC 1 ((0, .u (uB false)):: []) hmix s kJ
  (oc zH<|zE) fun a w1 s=> ?_
 refine zB rfl ?_
 have hb:=s.below
 replace hFr:=hFr.trans (hb.mono hFr.size)
 replace hT:=hT.below hb
 replace s:=s.anewB rfl rfl
 refine zUs ?_
 refine qS 5 ((8, .Z (UF.eq (.agg #[.int .i64 0, .int .i64 1])))::(9, .Z (UF.eq (.agg #[.int .i64 1, .int .i64 2])))::(10, .Z (UF.eq (.agg #[.int .i64 0, .int .i64 2])))::(11, .s (SF.row 2 (jns wkJ)))::(1, .s (SF.row 2 (jns wkJ))):: []) hmix s kJ
  (oc (zAF (fun u v W (hu:u= .int .i64 0) (hv:v= .int .i64 1)=>by subst hu hv;exact ⟨_,zSz _ _,rfl⟩))<|oc (zAF (fun u v W (hu:u= .int .i64 1) (hv:v= .int .i64 2)=>by subst hu hv;exact ⟨_,zSz _ _,rfl⟩))<|oc (zAF (fun u v W (hu:u= .int .i64 0) (hv:v= .int .i64 2)=>by subst hu hv;exact ⟨_,zSz _ _,rfl⟩))<|oc (zGJ (fun u v q W (hu:u= .agg #[.int .i64 0, .int .i64 1]) (hv:v= .agg #[.int .i64 1, .int .i64 2]) (hq:q= .agg #[.int .i64 0, .int .i64 2])=>zQi hu hv hq))<|oc zH<|zE) fun a w2 s hr=> ?_
 refine zB rfl ?_
 obtain ⟨lj,e1⟩: ∃v,a.tmps.getD 1 undef=v:=⟨_,rfl⟩
 have hlj:=(hr (_,_) mz4)
 rw [show a.tmps.getD _ undef=lj from e1] at hlj
 replace s:=s.learn 1 _ e1
 have hb:=s.below
 replace hFr:=hFr.trans (hb.mono hFr.size)
 replace hT:=hT.below hb
 replace s:=s.anewB rfl rfl
 refine zUs ?_
 refine qS 8 ((13, .Z (UF.eq lj))::(14, .s (SF.row 1 (ins [1,1,2])))::(15, .s (SF.row 3 (rvs 1 [1,1,2])))::(16, .s (wH (wE w2 3 1 (ins [0,2])) ((fQN 2).tS) ((uB true).tS)))::(12, .s (wH (wE w2 3 1 (ins [0,2])) ((fQN 2).tS) ((uB true).tS)))::(17, .s (wE w2 3 1 (ins [0,2])))::(18, .u (fQN 2))::(19, .u (uB true)):: []) hmix s kJ
  (oc zA<|oc (zID 1 1 2)<|oc (zM zF zQ4 (fun u0 W hb (h0:(SF.row 1 (ins [1,1,2])).p u0 W)=>(zK2 h0 dC dC).mono (wG (fun v W h=>zKx zHX (by have h7:=jD.row h;rw [zQx] at h7;exact h7)))))<|oc (zBZ zF zHO (fun u0 u1 u2 u3 u4 W hb (h0:u0= .int .i64 4) (h1:u1=lj) (h2:(SF.row 3 (rvs 1 [1,1,2])).p u2 W) (h3:u3= .int .i64 0) (h4:u4= .int .i64 2)=>(zBU (n:=4) (N:=4) (x:=0) (z:=2) (js:=wkJ) (fs:= [1,1,2]) h0 (jI hlj h1 (s.up hb)) h2 h3 h4 dC (zJK _ zHf) (hT.below (s.up hb))).mono (wG (fun v W h=>by have h7:=zKZ (s.up hb).size h;rw [zOo] at h7;exact h7))))<|oc zA<|oc (zBb (A:=wE w2 3 1 (ins [0,2])) (B:=(fQN 2).tS) (C:=(uB true).tS) iiz)<|oc (zBa (A:=wE w2 3 1 (ins [0,2])) (B:=(fQN 2).tS) (C:=(uB true).tS) iiz)<|oc (zA9 (A:=wE w2 3 1 (ins [0,2])) (B:=(fQN 2).tS) (C:=(uB true).tS) iiz)<|zE) fun a w3 s hr=> ?_
 obtain ⟨lv,e17⟩: ∃v,a.tmps.getD 17 undef=v:=⟨_,rfl⟩
 have hlv:=(hr (_,_) mz5)
 rw [show a.tmps.getD _ undef=lv from e17] at hlv
 replace hlv:=jD.row hlv
 replace s:=s.learn 17 _ e17
 have hb:=s.below
 replace hFr:=hFr.trans (hb.mono hFr.size)
 replace hT:=hT.below hb
 replace hlj:=(SF.row 2 (jns wkJ)).st _ _ _ hlj hb
 replace s:=s.anewB rfl rfl
 refine yX (CU.len 3) (cs:=zR3) kJ rfl s kJ (fun W=>rfl) rfl fun b3 a w s=> ?_
 refine qL (UF.eq lv) rfl s kJ iiz fun a w s=> ?_
 refine yM (CU.agg (fQN 2)) ((fQN 2).tS) rfl s kJ rfl rfl rfl iiz iiz yV fun a w s=> ?_
 refine qL (uB true) rfl s kJ iiz fun a w s=> ?_
 refine zB rfl ?_
 replace s:StS _ _ _ [⟨3,32,CU.agg (fQN 2),b3,true⟩] _ _ _ _:=s.freeze
 have hb:=s.below
 replace hFr:=hFr.trans (hb.mono hFr.size)
 replace hT:=hT.below hb
 replace hlj:=(SF.row 2 (jns wkJ)).st _ _ _ hlj hb
 replace hlv:=(SF.row 1 (ins [0,2])).st _ _ _ hlv hb
 replace s:=s.anewB rfl rfl
 refine zUs ?_
 refine zC 8 ((21, .Z (UF.eq lj))::(22, .s (SF.row 1 (ins [1,1,2])))::(23, .s (SF.row 3 (rvs 1 [1,1,2])))::(24, .s (wH (SF.any) ((fQN ((yJ (grE 4 wkJ [1,1,2]) 4 0 3).2.1)).tS) ((uB false).tS)))::(20, .s (wH (SF.any) ((fQN ((yJ (grE 4 wkJ [1,1,2]) 4 0 3).2.1)).tS) ((uB false).tS)))::(26, .u (fQN ((yJ (grE 4 wkJ [1,1,2]) 4 0 3).2.1)))::(27, .u (uB false)):: []) hmix s kJ
  (oc zA<|oc (zID 1 1 2)<|oc (zM zF zQ4 (fun u0 W hb (h0:(SF.row 1 (ins [1,1,2])).p u0 W)=>(zK2 h0 dC dC).mono (wG (fun v W h=>zKx zHX (by have h7:=jD.row h;rw [zQx] at h7;exact h7)))))<|oc (zBZ zF zHO (fun u0 u1 u2 u3 u4 W hb (h0:u0= .int .i64 4) (h1:u1=lj) (h2:(SF.row 3 (rvs 1 [1,1,2])).p u2 W) (h3:u3= .int .i64 0) (h4:u4= .int .i64 3)=>(zBU (n:=4) (N:=4) (x:=0) (z:=3) (js:=wkJ) (fs:= [1,1,2]) h0 (jI hlj h1 (s.up hb)) h2 h3 h4 dC (zJK _ zHf) (hT.below (s.up hb))).mono (wG (fun v W h=>by have h7:=zEz h;rw [zOn] at h7;exact h7))))<|oc zA<|oc (zBb (A:=SF.any) (B:=(fQN ((yJ (grE 4 wkJ [1,1,2]) 4 0 3).2.1)).tS) (C:=(uB false).tS) iiz)<|oc (zBa (A:=SF.any) (B:=(fQN ((yJ (grE 4 wkJ [1,1,2]) 4 0 3).2.1)).tS) (C:=(uB false).tS) iiz)<|oc (zA9 (A:=SF.any) (B:=(fQN ((yJ (grE 4 wkJ [1,1,2]) 4 0 3).2.1)).tS) (C:=(uB false).tS) iiz)<|zE) fun a w4 s=> ?_
 refine yX (CU.len 3) (cs:=zR3) kJ rfl s kJ (fun W=>rfl) rfl fun b6 a w s=> ?_
 refine qL UF.any rfl s kJ (fun _ _ _=>trivial) fun a w s=> ?_
 refine yM (CU.agg (fQN ((yJ (grE 4 wkJ [1,1,2]) 4 0 3).2.1))) ((fQN ((yJ (grE 4 wkJ [1,1,2]) 4 0 3).2.1)).tS) rfl s kJ rfl rfl rfl iiz iiz yV fun a w s=> ?_
 refine qL (uB false) rfl s kJ iiz fun a w s=> ?_
 refine zB rfl ?_
 replace s:StS _ _ _ [⟨6,32,CU.agg (fQN ((yJ (grE 4 wkJ [1,1,2]) 4 0 3).2.1)),b6,true⟩,⟨3,32,CU.agg (fQN 2),b3,true⟩] _ _ _ _:=s.freeze
 have hb:=s.below
 replace hFr:=hFr.trans (hb.mono hFr.size)
 replace hT:=hT.below hb
 replace hlj:=(SF.row 2 (jns wkJ)).st _ _ _ hlj hb
 replace hlv:=(SF.row 1 (ins [0,2])).st _ _ _ hlv hb
 replace s:=s.anewB rfl rfl
 refine zUs ?_
 replace s:=s.drop [0]
 refine zC 22 ((28, .Z (uB true))::(29, .Z (uB true))::(30, .Z (UF.eq lv))::(31, .s (SF.row 1 (ins [0,2])))::(32, .Z (uB true))::(33, .Z (uB true))::(34, .Z (uB true))::(35, .Z (fQN 2))::(36, .Z (fQN ((2:Int):Rat)))::(37, .Z (uB true))::(38, .Z (uB true))::(39, .Z (uB true))::(40, .Z (uB false))::(41, .Z (uB true))::(42, .Z (uB true))::(43, .Z (uB true))::(44, .Z (UF.eq lj))::(45, .s (SF.row 1 (ins [0,0,0,3])))::(46, .s (SF.row 1 (ins [0,0,0,3])))::(47, .Z (uB true))::(48, .Z (uB true))::(0, .u (uB true)):: []) hmix s kJ
  (oc zA<|oc zA<|oc (zD 29 true kJ iiz (fun _=>zA) arf)<|oc (zD 29 true kJ iiz (fun _=>zMQ 0 2) arf)<|oc (zD 29 true kJ iiz (fun _=>yE zF zQ5 (fun u0 u1 W hb (h0:u0=lv) (h1:(SF.row 1 (ins [0,2])).p u1 W)=>(zGz (la:= [0,2]) (lb:= [0,2]) (jI hlv h0 (s.up hb)) h1 dC).mono (wG (fun v W h=>h)))) arf)<|oc (zY true iiz (fun _ _ _ h=>h) (fun e=>by cases e))<|oc zA<|oc (zD 34 true kJ iiz (fun _=>yY (f:=fQN 2) 3 kJ (hz:=jA _)) arf)<|oc (zD 34 true kJ iiz (fun _=>zM zF zNi (fun u0 W hb (h0:u0= .int .i64 2)=>zIq _ h0 dC)) arf)<|oc (zD 34 true kJ iiz (fun _=>yE zF zPN (fun u0 u1 W hb (h0:QNp 2 u0 W) (h1:QNp ((2:Int):Rat) u1 W)=>(zFy (m:=1) (p:=2) (q:=((2:Int):Rat)) (wJ h0 ⟨by unfold Bd BB;decide+kernel,by unfold BB;decide+kernel⟩) (wJ h1 ⟨by unfold Bd BB;decide+kernel,by unfold BB;decide+kernel⟩) dC dC).mono (wG (fun v W h=>by rw [show (qsg (2:Rat) ((2:Int):Rat)==0)=true by decide+kernel] at h;exact h)))) arf)<|oc (zY true iiz (fun _ _ _ h=>h) (fun e=>by cases e))<|oc zA<|oc (zD 39 true kJ iiz (fun _=>zA) arf)<|oc (zD 39 true kJ iiz (fun _=>zBm false iiz (fun _=>rfl)) arf)<|oc (zY true iiz (fun _ _ _ h=>h) (fun e=>by cases e))<|oc zA<|oc (zD 43 true kJ iiz (fun _=>zA) arf)<|oc (zD 43 true kJ iiz (fun _=>yE zF zQ7 (fun u0 u1 W hb (h0:u0= .int .i64 4) (h1:u1=lj)=>(zGw (n:=4) (N:=4) (js:=wkJ) h0 (jI hlj h1 (s.up hb)) dC dC dC (hT.below (s.up hb))).mono (wG (fun v W ⟨lab,h,hr⟩=>by rw [zOm h] at hr;exact jD.row hr)))) arf)<|oc (zD 43 true kJ iiz (fun _=>zMP 0 0 0 3) arf)<|oc (zD 43 true kJ iiz (fun _=>yE zF zQ5 (fun u0 u1 W hb (h0:(SF.row 1 (ins [0,0,0,3])).p u0 W) (h1:(SF.row 1 (ins [0,0,0,3])).p u1 W)=>(zGz (la:= [0,0,0,3]) (lb:= [0,0,0,3]) h0 h1 dC).mono (wG (fun v W h=>h)))) arf)<|oc (zY true iiz (fun _ _ _ h=>h) (fun e=>by cases e))<|oc zH<|zE) fun a w5 s=> ?_
 refine zB rfl ?_
 replace s:StS _ _ _ [⟨6,32,CU.agg (fQN ((yJ (grE 4 wkJ [1,1,2]) 4 0 3).2.1)),b6,true⟩,⟨3,32,CU.agg (fQN 2),b3,true⟩] _ _ _ _:=s.freeze
 have hb:=s.below
 replace hFr:=hFr.trans (hb.mono hFr.size)
 replace hT:=hT.below hb
 replace hlj:=(SF.row 2 (jns wkJ)).st _ _ _ hlj hb
 replace hlv:=(SF.row 1 (ins [0,2])).st _ _ _ hlv hb
 replace s:=s.anewB rfl rfl
 refine wpIn_ret ?_
 exact vC s hFr rfl iiz
end Go.Proofs.Wd

namespace Go.Proofs.Wd
open Tryz
set_option maxRecDepth 100000
set_option maxHeartbeats 1000000
open Go.RowKit Lb
theorem zOb {N:Nat} {js:List (Int×Int)} {fs fs':List Rat} {a b:Nat} (h:Con (grE N js fs) a b):Con (grE N js fs') a b:=by
 obtain ⟨c,s,h⟩:=h
 induction h with
 |nil=>exact Con.refl _ _
 |cons _ hm ih=>
  obtain ⟨i,h1,h2,_,h4⟩:=zKR.1 hm
  exact ih.step (r:=(_,zF2 fs' i)) (zKR.2 ⟨i,h1,h2,rfl,h4⟩)
theorem zPQ {N:Nat} {js:List (Int×Int)} {fs:List Rat} (hB:GrB N js fs) {a b:Nat} (ha:a<N) (hb:b<N):QB ((csR (grE N js fs) N (a:Int)).getD b 0) 1:=by
 have hCS:=zEG (zGW N js fs) (zBs ha)
 rcases hCS.at_ b hb with ⟨s,h1,_,h3⟩|⟨_,h2,_⟩
 ·exact hB.qb h1.1 (by have:=hB.hN;omega)
 ·rw [h2];exact QB.zero dC
theorem zNr {N:Nat} {js:List (Int×Int)} {fs:List Rat} (hB:GrB N js fs) {a b c:Nat} (ha:a<N) (hb:b<N) (hc:c<N) {lab:List Int} (hl:Labd (grE N js []) N lab) {oab obc oac:Bool} {qab qbc qac:Rat}
  (h1:(yJ (grE N js fs) N a b).2.2=oab) (h2:(yJ (grE N js fs) N a b).2.1=qab) (h3:(yJ (grE N js fs) N b c).2.2=obc) (h4:(yJ (grE N js fs) N b c).2.1=qbc) (h5:(yJ (grE N js fs) N a c).2.2=oac) (h6:(yJ (grE N js fs) N a c).2.1=qac):
  oab=(lab.getD a 0==lab.getD b 0)/\obc=(lab.getD b 0==lab.getD c 0)/\0<=lab.getD a 0/\lab.getD a 0<=(a:Int)/\(oab=true->obc=true->oac=true/\qac<=qab+qbc/\QB (qab+qbc) 1)/\
  (csR (grE N js fs) N a).length=N/\(ssR (grE N js fs) N a).length=N/\decide ((ssR (grE N js fs) N a).getD b 0≥0)=oab/\(csR (grE N js fs) N a).getD b 0=qab/\(ssR (grE N js fs) N a).getD a 0=0/\QB qab 1/\QB qbc 1/\QB qac 1:=by
 have hG:=zGW N js fs
 have hS: ∀a b f,(b,f)∈grE N js fs a->(a,f)∈grE N js fs b:=fun a b f h=>zGV h
 have hS0: ∀a b f,(b,f)∈grE N js [] a->(a,f)∈grE N js [] b:=fun a b f h=>zGV h
 have key: ∀{a b:Nat} {o:Bool},a<N->b<N->(yJ (grE N js fs) N a b).2.2=o->o=(lab.getD a 0==lab.getD b 0):=fun {a b o} ha hb h=>by
  rw [Bool.eq_iff_iff, <-h,zGR hG ha hb,beq_iff_eq,hl.con hS0 ha hb]
  exact ⟨zOb,zOb⟩
 have hq: ∀{a b:Nat} {q:Rat},a<N->b<N->(yJ (grE N js fs) N a b).2.1=q->(csR (grE N js fs) N a).getD b 0=q:=fun {a b q} ha hb h=>by
  rcases jQ hG ha hb with ⟨s,_,_,g,_⟩|⟨_,g,_,g',_⟩
  ·rw [g,h]
  ·rw [g', <-h,g]
 have hCS:=zEG hG (zBs ha)
 obtain ⟨m,k1,k2,_⟩:=hl.at_ a ha
 refine ⟨key ha hb h1,key hb hc h3,by omega,by omega,fun e1 e2=> ?_,hCS.cl,hCS.sl, ?_,hq ha hb h2,(zE9 hG ha).2,hq ha hb h2▸zPQ hB ha hb,hq hb hc h4▸zPQ hB hb hc,hq ha hc h6▸zPQ hB ha hc⟩
 ·obtain ⟨g1,g2⟩:=zK0 hG ha hb hc (h1.trans e1) (h3.trans e2)
  refine ⟨by rw [<-h5];exact g1,by rw [<-h6, <-h2, <-h4];exact g2, ?_⟩
  rcases (zEG hG (zBs ha)).at_ b hb with ⟨s,g3,_,g4⟩|⟨g3,_⟩
  ·rcases (zEG hG (zBs hb)).at_ c hc with ⟨t,g5,_,g6⟩|⟨g5,_⟩
   ·have hr:=g3.1.trans g5.1
    rw [hq ha hb h2,hq hb hc h4] at hr
    exact hB.qb hr (by have:=hB.hN;omega)
   ·rcases jQ hG hb hc with ⟨s,_,g,_⟩|⟨g,_⟩
    ·exact absurd g.1 (g5 _ _)
    ·rw [g] at h3;rw [<-h3] at e2;cases e2
  ·rcases jQ hG ha hb with ⟨s,_,g,_⟩|⟨g,_⟩
   ·exact absurd g.1 (g3 _ _)
   ·rw [g] at h1;rw [<-h1] at e1;cases e1
 ·rcases jQ hG ha hb with ⟨s,g1,_,_,g2⟩|⟨g1,_,_,_,g2⟩
  ·rw [g2, <-h1,g1];simp
  ·rw [g2, <-h1,g1];decide
section
variable {F:Fence} {m:Nat} {P:Program} {w0:World} {ops:Array Oper} {G:Nat->SF} {d:Tmp} {ty:TypeId} {pos:String} {aft:Array Edge}
theorem zFL {op:BinOp} {t:TypeId} {x y:Operand} {t':TypeId} (u v r:Bool) (ht:P.underlying t=some .bool) (hx: ∀q W,(fct G x).p q W->q= .bool u) (hy: ∀q W,(fct G y).p q W->q= .bool v) (hr:(match op with| .eql=>u==v| .neq=>u !=v|_=>false)=r) (ho:(match op with| .eql| .neq=>true|_=>false)=true) (hd: ∀W,(G d).p (.bool r) W:=by exact fun _=>rfl):qD F m P w0 ops G ⟨some d, .binOp op t x y t',ty,pos,aft,none⟩:=
zCZ (.bool u) (.bool v) (.bool r) hx hy (fun W=>by cases op<;>first|(cases ho;done)|simp [eqGuard]) (fun W=>by cases op<;>first|(cases ho;done)|(subst hr;cases u<;>cases v<;>simp [go_sem,ht])) hd
theorem zBo {op:Op} {j:Nat} {want:Bool} (g:Nat) (c:Prop) [Decidable c] (hj:zV ops j=some g) (hg: ∀v W,(G g).p v W->v=if c then .bool want else undef) (h1:c->qD F m P w0 ops G ⟨some d,op,ty,pos,aft,none⟩) (h2: ¬c-> ∀W,(G d).p undef W)
  (h3: ∀W ρ f,(⟨some d,op,ty,pos,aft,none⟩:Oper).about P W ρ=some f->F.fn f:=by first|exact fun _ _ _ h=>by cases h|exact fun _ _ _ _=>trivial):qD F m P w0 ops G ⟨some d,op,ty,pos,aft,some (j,want)⟩:=
 ⟨g,_,hj,hg,fun e=>h1 (Decidable.byContradiction fun hc=>by rw [if_neg hc] at e;cases e),fun e=>⟨fun d' hd W=>by cases hd;exact h2 (fun hc=>e (if_pos hc)) W,h3⟩⟩
theorem zPj {x y z:Operand} {ats:Array TypeId} (u v q:Int) (hx: ∀p W,(fct G x).p p W->p= .int .i64 u) (hy: ∀p W,(fct G y).p p W->p= .int .i64 v) (hz: ∀p W,(fct G z).p p W->p= .int .i64 q) (hd: ∀W,(G d).p (.int .i64 (min (min u v) q)) W:=by exact fun _=>rfl):qD F m P w0 ops G ⟨some d, .call ⟨.builtin .min,#[x,y,z],ats⟩,ty,pos,aft,none⟩:=by
 intro b W K Q hb hr hK
 have e1:=hx _ _ (yN hr (x:=x) (by simp [Op.operands,Call.operands]))
 have e2:=hy _ _ (yN hr (x:=y) (by simp [Op.operands,Call.operands]))
 have e3:=hz _ _ (yN hr (x:=z) (by simp [Op.operands,Call.operands]))
 refine ⟨fun f hf=>(by
  unfold Oper.about at hf
  simp [resolve,go_sem] at hf), ?_⟩
 rw [Oper.semAt_eq _ _ _ (fun _ e=>by cases e)]
 have:(execOp b.eval ⟨some d, .call ⟨.builtin .min,#[x,y,z],ats⟩,ty,pos,aft,none⟩).run P W= .ok (.value (.int .i64 (min (min u v) q))) W:=by
  have h:min u v=if v<u then v else u:=by split<;>omega
  have h': ∀p,min p q=if q<p then q else p:=fun p=>by split<;>omega
  simp [execOp,resolve,invoke,builtin,e1,e2,e3,Builtin.min_,Builtin.min2,h,h']
 rw [this]
 exact hK _ _ (fun d' e'=>by cases e';exact hd _) (zUt _ _)
theorem zPl {x y z:Operand} {ats:Array TypeId} (u v q:Int) (hx: ∀p W,(fct G x).p p W->p= .int .i64 u) (hy: ∀p W,(fct G y).p p W->p= .int .i64 v) (hz: ∀p W,(fct G z).p p W->p= .int .i64 q) (hd: ∀W,(G d).p (.int .i64 (max (max u v) q)) W:=by exact fun _=>rfl):qD F m P w0 ops G ⟨some d, .call ⟨.builtin .max,#[x,y,z],ats⟩,ty,pos,aft,none⟩:=by
 intro b W K Q hb hr hK
 have e1:=hx _ _ (yN hr (x:=x) (by simp [Op.operands,Call.operands]))
 have e2:=hy _ _ (yN hr (x:=y) (by simp [Op.operands,Call.operands]))
 have e3:=hz _ _ (yN hr (x:=z) (by simp [Op.operands,Call.operands]))
 refine ⟨fun f hf=>(by
  unfold Oper.about at hf
  simp [resolve,go_sem] at hf), ?_⟩
 rw [Oper.semAt_eq _ _ _ (fun _ e=>by cases e)]
 have:(execOp b.eval ⟨some d, .call ⟨.builtin .max,#[x,y,z],ats⟩,ty,pos,aft,none⟩).run P W= .ok (.value (.int .i64 (max (max u v) q))) W:=by
  have h:max u v=if u<v then v else u:=by split<;>omega
  have h': ∀p,max p q=if p<q then q else p:=fun p=>by split<;>omega
  simp [execOp,resolve,invoke,builtin,e1,e2,e3,Builtin.max_,Builtin.max2,h,h']
 rw [this]
 exact hK _ _ (fun d' e'=>by cases e';exact hd _) (zUt _ _)
end
theorem zIt (q:Rat):(qsg q q==0)=true:=by rw [beq_iff_eq];exact zEl.2 rfl
theorem zO8 {p q:Rat} (h:p<=q):decide (qsg p q>0)=false:=by
 rw [decide_eq_false_iff_not]
 intro h2
 have h3:qsg p q=1:=by
  have:=zKw p q
  omega
 have:=zNX.1 h3
 grind
theorem zHv {W:World} {n xa xb xc:Int} {js:List (Int×Int)} {L:List QX} {u lj lq v t r:Value} (hu:u= .int .i64 n) (hlj:(SF.row 2 (jns js)).p lj W) (hlq:(SF.row 3 (qxs L)).p lq W) (hv:v= .int .i64 xa) (ht:t= .int .i64 xb) (hr:r= .int .i64 xc) (hT:Tab W):Calls prog 4 #[u,lj,lq,v,t,r] W (Ret W (fB true).tS):=by
 have hFr:Below W.heap.size W W:=zUt _ _
 obtain ⟨N,hNz⟩: ∃N:Nat,min (max n 0) 131072=(N:Int):=⟨(min (max n 0) 131072).toNat,by omega⟩
 refine qK [(uI n).tS,(UF.eq lj).tS,(UF.eq lq).tS,(uI xa).tS,(uI xb).tS,(uI xc).tS] func4 rfl kJ ⟨hu,rfl,rfl,hv,ht,hr,trivial⟩ fun a s=> ?_
 replace s:=s.renew [(0, .u (uI n)),(1, .u (UF.eq lj)),(2, .u (UF.eq lq)),(3, .u (uI xa)),(4, .u (uI xb)),(5, .u (uI xc))] (fmz ⟨.inr ⟨_,rfl, .head _⟩,fmz ⟨.inr ⟨_,rfl,mz1⟩,fmz ⟨.inr ⟨_,rfl,mz2⟩,fmz ⟨.inr ⟨_,rfl,mz3⟩,fmz ⟨.inr ⟨_,rfl,mz4⟩,fmz ⟨.inr ⟨_,rfl,mz5⟩,fnz⟩⟩⟩⟩⟩⟩)
 refine zUs ?_
 refine zC 1 ((12, .u (uB false)):: []) hmix s kJ
  (oc zH<|zE) fun a w1 s=> ?_
 refine zB rfl ?_
 have hb:=s.below
 replace hFr:=hFr.trans (hb.mono hFr.size)
 replace hT:=hT.below hb
 replace hlj:=(SF.row 2 (jns js)).st _ _ _ hlj hb
 replace hlq:=(SF.row 3 (qxs L)).st _ _ _ hlq hb
 replace s:=s.anewB rfl rfl
 refine zUs ?_
 refine zUs ?_
 refine zC 19 ((31, .Z (uI n))::(32, .Z (UF.eq lj))::(33, .Z (UF.eq lq))::(34, .Z (uB (g28 n js L)))::(35, .Z (uB (g28 n js L)))::(36, .s (SF.imp ((g28 n js L)=false) ((uI xa).tS)))::(37, .s (SF.imp ((g28 n js L)=false) ((uI xb).tS)))::(38, .s (SF.imp ((g28 n js L)=false) ((uI xc).tS)))::(39, .s (SF.imp ((g28 n js L)=false) ((uI (min (min xa xb) xc)).tS)))::(40, .s (SF.imp ((g28 n js L)=false) ((uB (decide ((min (min xa xb) xc)<0))).tS)))::(41, .Z (uB ((g28 n js L)||(decide ((min (min xa xb) xc)<0)))))::(42, .Z (uB ((g28 n js L)||(decide ((min (min xa xb) xc)<0)))))::(43, .s (SF.imp (((g28 n js L)||(decide ((min (min xa xb) xc)<0)))=false) ((uI xa).tS)))::(44, .s (SF.imp (((g28 n js L)||(decide ((min (min xa xb) xc)<0)))=false) ((uI xb).tS)))::(45, .s (SF.imp (((g28 n js L)||(decide ((min (min xa xb) xc)<0)))=false) ((uI xc).tS)))::(46, .s (SF.imp (((g28 n js L)||(decide ((min (min xa xb) xc)<0)))=false) ((uI (max (max xa xb) xc)).tS)))::(47, .s (SF.imp (((g28 n js L)||(decide ((min (min xa xb) xc)<0)))=false) ((uI n).tS)))::(48, .s (SF.imp (((g28 n js L)||(decide ((min (min xa xb) xc)<0)))=false) ((uB (decide ((max (max xa xb) xc)≥n))).tS)))::(49, .u (uB (((g28 n js L)||(decide ((min (min xa xb) xc)<0)))||(decide ((max (max xa xb) xc)≥n))))):: []) hmix s kJ
  (oc zA<|oc zA<|oc zA<|oc (zDU zF zS9 (fun u0 u1 u2 W hb (h0:u0= .int .i64 n) (h1:u1=lj) (h2:u2=lq)=>zJh h0 (jI hlj h1 (s.up hb)) (jI hlq h2 (s.up hb))))<|oc zA<|oc (zD 35 (g28 n js L) kJ iiz (fun e=>zL [] ((uI xa).tS) fnz (fun _ _ h _=>h) kJ zA) (fun e W h=>absurd h e))<|oc (zD 35 (g28 n js L) kJ iiz (fun e=>zL [] ((uI xb).tS) fnz (fun _ _ h _=>h) kJ zA) (fun e W h=>absurd h e))<|oc (zD 35 (g28 n js L) kJ iiz (fun e=>zL [] ((uI xc).tS) fnz (fun _ _ h _=>h) kJ zA) (fun e W h=>absurd h e))<|oc (zD 35 (g28 n js L) kJ iiz (fun e=>zL [(36,(uI xa).tS),(37,(uI xb).tS),(38,(uI xc).tS)] ((uI (min (min xa xb) xc)).tS) (fmz ⟨fun v W h=>zI (c:=(g28 n js L)=false) (f:=(uI xa).tS) e h,fmz ⟨fun v W h=>zI (c:=(g28 n js L)=false) (f:=(uI xb).tS) e h,fmz ⟨fun v W h=>zI (c:=(g28 n js L)=false) (f:=(uI xc).tS) e h,fnz⟩⟩⟩) (fun _ _ h _=>h) kJ (zPj xa xb xc iiz iiz iiz)) (fun e W h=>absurd h e))<|oc (zD 35 (g28 n js L) kJ iiz (fun e=>zL [(39,(uI (min (min xa xb) xc)).tS)] ((uB (decide ((min (min xa xb) xc)<0))).tS) (fmz ⟨fun v W h=>zI (c:=(g28 n js L)=false) (f:=(uI (min (min xa xb) xc)).tS) e h,fnz⟩) (fun _ _ h _=>h) kJ (zP .i64 (min (min xa xb) xc) 0 (decide ((min (min xa xb) xc)<0)) iiz iiz rfl rfl)) (fun e W h=>absurd h e))<|oc (zY (g28 n js L) iiz (fun e v W h=>zAQ h e) (fun e v W h=>zAd (zI e h) e))<|oc zA<|oc (zD 42 ((g28 n js L)||(decide ((min (min xa xb) xc)<0))) kJ iiz (fun e=>zL [] ((uI xa).tS) fnz (fun _ _ h _=>h) kJ zA) (fun e W h=>absurd h e))<|oc (zD 42 ((g28 n js L)||(decide ((min (min xa xb) xc)<0))) kJ iiz (fun e=>zL [] ((uI xb).tS) fnz (fun _ _ h _=>h) kJ zA) (fun e W h=>absurd h e))<|oc (zD 42 ((g28 n js L)||(decide ((min (min xa xb) xc)<0))) kJ iiz (fun e=>zL [] ((uI xc).tS) fnz (fun _ _ h _=>h) kJ zA) (fun e W h=>absurd h e))<|oc (zD 42 ((g28 n js L)||(decide ((min (min xa xb) xc)<0))) kJ iiz (fun e=>zL [(43,(uI xa).tS),(44,(uI xb).tS),(45,(uI xc).tS)] ((uI (max (max xa xb) xc)).tS) (fmz ⟨fun v W h=>zI (c:=((g28 n js L)||(decide ((min (min xa xb) xc)<0)))=false) (f:=(uI xa).tS) e h,fmz ⟨fun v W h=>zI (c:=((g28 n js L)||(decide ((min (min xa xb) xc)<0)))=false) (f:=(uI xb).tS) e h,fmz ⟨fun v W h=>zI (c:=((g28 n js L)||(decide ((min (min xa xb) xc)<0)))=false) (f:=(uI xc).tS) e h,fnz⟩⟩⟩) (fun _ _ h _=>h) kJ (zPl xa xb xc iiz iiz iiz)) (fun e W h=>absurd h e))<|oc (zD 42 ((g28 n js L)||(decide ((min (min xa xb) xc)<0))) kJ iiz (fun e=>zL [] ((uI n).tS) fnz (fun _ _ h _=>h) kJ zA) (fun e W h=>absurd h e))<|oc (zD 42 ((g28 n js L)||(decide ((min (min xa xb) xc)<0))) kJ iiz (fun e=>zL [(46,(uI (max (max xa xb) xc)).tS),(47,(uI n).tS)] ((uB (decide ((max (max xa xb) xc)≥n))).tS) (fmz ⟨fun v W h=>zI (c:=((g28 n js L)||(decide ((min (min xa xb) xc)<0)))=false) (f:=(uI (max (max xa xb) xc)).tS) e h,fmz ⟨fun v W h=>zI (c:=((g28 n js L)||(decide ((min (min xa xb) xc)<0)))=false) (f:=(uI n).tS) e h,fnz⟩⟩) (fun _ _ h _=>h) kJ (zP .i64 (max (max xa xb) xc) n (decide ((max (max xa xb) xc)≥n)) iiz iiz rfl rfl)) (fun e W h=>absurd h e))<|oc (zY ((g28 n js L)||(decide ((min (min xa xb) xc)<0))) iiz (fun e v W h=>zAQ h e) (fun e v W h=>zAd (zI e h) e))<|zE) fun a w2 s=> ?_
 refine zB rfl ?_
 have hb:=s.below
 replace hFr:=hFr.trans (hb.mono hFr.size)
 replace hT:=hT.below hb
 replace hlj:=(SF.row 2 (jns js)).st _ _ _ hlj hb
 replace hlq:=(SF.row 3 (qxs L)).st _ _ _ hlq hb
 replace s:=s.anewB rfl rfl
 refine StS.cond s (((g28 n js L)||(decide ((min (min xa xb) xc)<0)))||(decide ((max (max xa xb) xc)≥n))) iiz (fun e=> ?_) (fun e=> ?_)
 ·refine zUs ?_
  replace s:=s.drop [12]
  refine zC 2 ((50, .Z (uB true))::(12, .u (uB true)):: []) hmix s kJ
   (oc (zIF zF zST (fun W hb=>zJL (hT.below (s.up hb))))<|oc zH<|zE) fun a w3 s=> ?_
  refine zB rfl ?_
  have hb:=s.below
  replace hFr:=hFr.trans (hb.mono hFr.size)
  replace hT:=hT.below hb
  replace hlj:=(SF.row 2 (jns js)).st _ _ _ hlj hb
  replace hlq:=(SF.row 3 (qxs L)).st _ _ _ hlq hb
  replace s:=s.anewB rfl rfl
  refine wpIn_ret ?_
  exact vC s hFr rfl iiz
 ·rw [zUx,zUx] at e
  obtain ⟨⟨hg,e1⟩,e2⟩:=e
  have e1:=zUw e1
  have e2:=zUw e2
  have hgn:=(zPH hg).1
  have hn:n=(N:Int):=by omega
  subst hn
  obtain ⟨an,rfl⟩: ∃k:Nat,xa=(k:Int):=⟨xa.toNat,by omega⟩
  obtain ⟨bn,rfl⟩: ∃k:Nat,xb=(k:Int):=⟨xb.toNat,by omega⟩
  obtain ⟨cn,rfl⟩: ∃k:Nat,xc=(k:Int):=⟨xc.toNat,by omega⟩
  have haN:an<N:=by omega
  have hbN:bn<N:=by omega
  have hcN:cn<N:=by omega
  have hB:=zRC hg hNz hlq
  have hlf:=(zNI (zPH hg).2.2.2 hlq).1
  have hjl:js.length<=61:=hB.hj
  have hN20:=hB.hN
  obtain ⟨oab,qab,h1ab,h2ab⟩: ∃o q,(yJ (grE N js (qvs L)) N (an:Int) (bn:Int)).2.2=o/\(yJ (grE N js (qvs L)) N (an:Int) (bn:Int)).2.1=q:=⟨_,_,rfl,rfl⟩
  obtain ⟨obc,qbc,h1bc,h2bc⟩: ∃o q,(yJ (grE N js (qvs L)) N (bn:Int) (cn:Int)).2.2=o/\(yJ (grE N js (qvs L)) N (bn:Int) (cn:Int)).2.1=q:=⟨_,_,rfl,rfl⟩
  obtain ⟨oac,qac,h1ac,h2ac⟩: ∃o q,(yJ (grE N js (qvs L)) N (an:Int) (cn:Int)).2.2=o/\(yJ (grE N js (qvs L)) N (an:Int) (cn:Int)).2.1=q:=⟨_,_,rfl,rfl⟩
  have hbk:=zJt (a:=an) (b:=bn) (zGW N js (qvs L)) (fun _ _ _ h=>zGV h) haN hbN
  rw [h1ab,h2ab] at hbk
  have hsf:=(zE9 (a:=an) (zGW N js (qvs L)) haN).1
  refine zUu ?_
  refine zUs ?_
  refine zC 10 ((52, .Z (uI (N:Int)))::(53, .Z (UF.eq lj))::(54, .Z (UF.eq lq))::(55, .Z (uI (an:Int)))::(56, .Z (uI (bn:Int)))::(57, .s (wH (SF.any) ((fQN qab).tS) ((uB oab).tS)))::(51, .s (wH (SF.any) ((fQN qab).tS) ((uB oab).tS)))::(59, .u (fQN qab))::(60, .u (uB oab)):: []) hmix s kJ
   (oc zA<|oc zA<|oc zA<|oc zA<|oc zA<|oc (zBZ zF zHO (fun u0 u1 u2 u3 u4 W hb (h0:u0= .int .i64 (N:Int)) (h1:u1=lj) (h2:u2=lq) (h3:u3= .int .i64 (an:Int)) (h4:u4= .int .i64 (bn:Int))=>(zBU (n:=(N:Int)) (N:=N) (x:=(an:Int)) (z:=(bn:Int)) (js:=js) (fs:=qvs L) h0 (jI hlj h1 (s.up hb)) (jI hlf h2 (s.up hb)) h3 h4 hNz hB (hT.below (s.up hb))).mono (wG (fun v W h=>by have h7:=zEz h;rw [h1ab,h2ab] at h7;exact h7))))<|oc zA<|oc (zBb (A:=SF.any) (B:=(fQN qab).tS) (C:=(uB oab).tS) iiz)<|oc (zBa (A:=SF.any) (B:=(fQN qab).tS) (C:=(uB oab).tS) iiz)<|oc (zA9 (A:=SF.any) (B:=(fQN qab).tS) (C:=(uB oab).tS) iiz)<|zE) fun a w4 s=> ?_
  refine yX (CU.len 3) (cs:=zR3) kJ rfl s kJ (fun W=>rfl) rfl fun b14 a w s=> ?_
  refine qL UF.any rfl s kJ (fun _ _ _=>trivial) fun a w s=> ?_
  refine yM (CU.agg (fQN qab)) ((fQN qab).tS) rfl s kJ rfl rfl rfl iiz iiz yV fun a w s=> ?_
  refine qL (uB oab) rfl s kJ iiz fun a w s=> ?_
  refine zB rfl ?_
  replace s:StS _ _ _ [⟨14,32,CU.agg (fQN qab),b14,true⟩] _ _ _ _:=s.freeze
  have hb:=s.below
  replace hFr:=hFr.trans (hb.mono hFr.size)
  replace hT:=hT.below hb
  replace hlj:=(SF.row 2 (jns js)).st _ _ _ hlj hb
  replace hlf:=(SF.row 3 (rvs 1 (qvs L))).st _ _ _ hlf hb
  replace s:=s.anewB rfl rfl
  refine zUs ?_
  refine zC 10 ((62, .Z (uI (N:Int)))::(63, .Z (UF.eq lj))::(64, .Z (UF.eq lq))::(65, .Z (uI (bn:Int)))::(66, .Z (uI (an:Int)))::(67, .s (wH (SF.any) ((fQN qab).tS) ((uB oab).tS)))::(61, .s (wH (SF.any) ((fQN qab).tS) ((uB oab).tS)))::(69, .u (fQN qab))::(70, .u (uB oab)):: []) hmix s kJ
   (oc zA<|oc zA<|oc zA<|oc zA<|oc zA<|oc (zBZ zF zHO (fun u0 u1 u2 u3 u4 W hb (h0:u0= .int .i64 (N:Int)) (h1:u1=lj) (h2:u2=lq) (h3:u3= .int .i64 (bn:Int)) (h4:u4= .int .i64 (an:Int))=>(zBU (n:=(N:Int)) (N:=N) (x:=(bn:Int)) (z:=(an:Int)) (js:=js) (fs:=qvs L) h0 (jI hlj h1 (s.up hb)) (jI hlf h2 (s.up hb)) h3 h4 hNz hB (hT.below (s.up hb))).mono (wG (fun v W h=>by have h7:=zEz h;rw [<-hbk.1, <-hbk.2] at h7;exact h7))))<|oc zA<|oc (zBb (A:=SF.any) (B:=(fQN qab).tS) (C:=(uB oab).tS) iiz)<|oc (zBa (A:=SF.any) (B:=(fQN qab).tS) (C:=(uB oab).tS) iiz)<|oc (zA9 (A:=SF.any) (B:=(fQN qab).tS) (C:=(uB oab).tS) iiz)<|zE) fun a w5 s=> ?_
  refine yX (CU.len 3) (cs:=zR3) kJ rfl s kJ (fun W=>rfl) rfl fun b17 a w s=> ?_
  refine qL UF.any rfl s kJ (fun _ _ _=>trivial) fun a w s=> ?_
  refine yM (CU.agg (fQN qab)) ((fQN qab).tS) rfl s kJ rfl rfl rfl iiz iiz yV fun a w s=> ?_
  refine qL (uB oab) rfl s kJ iiz fun a w s=> ?_
  refine zB rfl ?_
  replace s:StS _ _ _ [⟨17,32,CU.agg (fQN qab),b17,true⟩,⟨14,32,CU.agg (fQN qab),b14,true⟩] _ _ _ _:=s.freeze
  have hb:=s.below
  replace hFr:=hFr.trans (hb.mono hFr.size)
  replace hT:=hT.below hb
  replace hlj:=(SF.row 2 (jns js)).st _ _ _ hlj hb
  replace hlf:=(SF.row 3 (rvs 1 (qvs L))).st _ _ _ hlf hb
  replace s:=s.anewB rfl rfl
  refine zUs ?_
  refine zC 10 ((72, .Z (uI (N:Int)))::(73, .Z (UF.eq lj))::(74, .Z (UF.eq lq))::(75, .Z (uI (bn:Int)))::(76, .Z (uI (cn:Int)))::(77, .s (wH (SF.any) ((fQN qbc).tS) ((uB obc).tS)))::(71, .s (wH (SF.any) ((fQN qbc).tS) ((uB obc).tS)))::(79, .u (fQN qbc))::(80, .u (uB obc)):: []) hmix s kJ
   (oc zA<|oc zA<|oc zA<|oc zA<|oc zA<|oc (zBZ zF zHO (fun u0 u1 u2 u3 u4 W hb (h0:u0= .int .i64 (N:Int)) (h1:u1=lj) (h2:u2=lq) (h3:u3= .int .i64 (bn:Int)) (h4:u4= .int .i64 (cn:Int))=>(zBU (n:=(N:Int)) (N:=N) (x:=(bn:Int)) (z:=(cn:Int)) (js:=js) (fs:=qvs L) h0 (jI hlj h1 (s.up hb)) (jI hlf h2 (s.up hb)) h3 h4 hNz hB (hT.below (s.up hb))).mono (wG (fun v W h=>by have h7:=zEz h;rw [h1bc,h2bc] at h7;exact h7))))<|oc zA<|oc (zBb (A:=SF.any) (B:=(fQN qbc).tS) (C:=(uB obc).tS) iiz)<|oc (zBa (A:=SF.any) (B:=(fQN qbc).tS) (C:=(uB obc).tS) iiz)<|oc (zA9 (A:=SF.any) (B:=(fQN qbc).tS) (C:=(uB obc).tS) iiz)<|zE) fun a w6 s=> ?_
  refine yX (CU.len 3) (cs:=zR3) kJ rfl s kJ (fun W=>rfl) rfl fun b20 a w s=> ?_
  refine qL UF.any rfl s kJ (fun _ _ _=>trivial) fun a w s=> ?_
  refine yM (CU.agg (fQN qbc)) ((fQN qbc).tS) rfl s kJ rfl rfl rfl iiz iiz yV fun a w s=> ?_
  refine qL (uB obc) rfl s kJ iiz fun a w s=> ?_
  refine zB rfl ?_
  replace s:StS _ _ _ [⟨20,32,CU.agg (fQN qbc),b20,true⟩,⟨17,32,CU.agg (fQN qab),b17,true⟩,⟨14,32,CU.agg (fQN qab),b14,true⟩] _ _ _ _:=s.freeze
  have hb:=s.below
  replace hFr:=hFr.trans (hb.mono hFr.size)
  replace hT:=hT.below hb
  replace hlj:=(SF.row 2 (jns js)).st _ _ _ hlj hb
  replace hlf:=(SF.row 3 (rvs 1 (qvs L))).st _ _ _ hlf hb
  replace s:=s.anewB rfl rfl
  refine zUs ?_
  refine zC 10 ((82, .Z (uI (N:Int)))::(83, .Z (UF.eq lj))::(84, .Z (UF.eq lq))::(85, .Z (uI (an:Int)))::(86, .Z (uI (cn:Int)))::(87, .s (wH (SF.any) ((fQN qac).tS) ((uB oac).tS)))::(81, .s (wH (SF.any) ((fQN qac).tS) ((uB oac).tS)))::(89, .u (fQN qac))::(90, .u (uB oac)):: []) hmix s kJ
   (oc zA<|oc zA<|oc zA<|oc zA<|oc zA<|oc (zBZ zF zHO (fun u0 u1 u2 u3 u4 W hb (h0:u0= .int .i64 (N:Int)) (h1:u1=lj) (h2:u2=lq) (h3:u3= .int .i64 (an:Int)) (h4:u4= .int .i64 (cn:Int))=>(zBU (n:=(N:Int)) (N:=N) (x:=(an:Int)) (z:=(cn:Int)) (js:=js) (fs:=qvs L) h0 (jI hlj h1 (s.up hb)) (jI hlf h2 (s.up hb)) h3 h4 hNz hB (hT.below (s.up hb))).mono (wG (fun v W h=>by have h7:=zEz h;rw [h1ac,h2ac] at h7;exact h7))))<|oc zA<|oc (zBb (A:=SF.any) (B:=(fQN qac).tS) (C:=(uB oac).tS) iiz)<|oc (zBa (A:=SF.any) (B:=(fQN qac).tS) (C:=(uB oac).tS) iiz)<|oc (zA9 (A:=SF.any) (B:=(fQN qac).tS) (C:=(uB oac).tS) iiz)<|zE) fun a w7 s=> ?_
  refine yX (CU.len 3) (cs:=zR3) kJ rfl s kJ (fun W=>rfl) rfl fun b23 a w s=> ?_
  refine qL UF.any rfl s kJ (fun _ _ _=>trivial) fun a w s=> ?_
  refine yM (CU.agg (fQN qac)) ((fQN qac).tS) rfl s kJ rfl rfl rfl iiz iiz yV fun a w s=> ?_
  refine qL (uB oac) rfl s kJ iiz fun a w s=> ?_
  refine zB rfl ?_
  replace s:StS _ _ _ [⟨23,32,CU.agg (fQN qac),b23,true⟩,⟨20,32,CU.agg (fQN qbc),b20,true⟩,⟨17,32,CU.agg (fQN qab),b17,true⟩,⟨14,32,CU.agg (fQN qab),b14,true⟩] _ _ _ _:=s.freeze
  have hb:=s.below
  replace hFr:=hFr.trans (hb.mono hFr.size)
  replace hT:=hT.below hb
  replace hlj:=(SF.row 2 (jns js)).st _ _ _ hlj hb
  replace hlf:=(SF.row 3 (rvs 1 (qvs L))).st _ _ _ hlf hb
  replace s:=s.anewB rfl rfl
  refine zUs ?_
  refine qS 4 ((91, .Z (uI (N:Int)))::(92, .Z (UF.eq lj))::(93, .s (fLb w (grE N js []) N))::(25, .s (fLb w (grE N js []) N)):: []) hmix s kJ
   (oc zA<|oc zA<|oc (yE zF zQ7 (fun u0 u1 W hb (h0:u0= .int .i64 (N:Int)) (h1:u1=lj)=>(zGw (n:=(N:Int)) (N:=N) (js:=js) h0 (jI hlj h1 (s.up hb)) hNz hN20 hjl (hT.below (s.up hb))).mono (wG (fun v W ⟨lab,h,hr⟩=>⟨lab,h,jD.mono hr (s.up hb).size⟩))))<|oc zH<|zE) fun a w8 s hr=> ?_
  refine zB rfl ?_
  obtain ⟨lv,e25⟩: ∃v,a.tmps.getD 25 undef=v:=⟨_,rfl⟩
  have hlv:=(hr (_,_) mz3)
  rw [show a.tmps.getD _ undef=lv from e25] at hlv
  obtain ⟨lab,hLb,hlv⟩:=hlv
  replace hlv:=jD.row hlv
  replace s:=s.learn 25 _ e25
  have hb:=s.below
  replace hFr:=hFr.trans (hb.mono hFr.size)
  replace hT:=hT.below hb
  replace hlj:=(SF.row 2 (jns js)).st _ _ _ hlj hb
  replace hlf:=(SF.row 3 (rvs 1 (qvs L))).st _ _ _ hlf hb
  replace s:=s.anewB rfl rfl
  obtain ⟨b1,b2,b3,b4,b5,b6,b7,b8,b9,b10,hqab,hqbc,hqac⟩:=zNr hB haN hbN hcN hLb h1ab h2ab h1bc h2bc h1ac h2ac
  have hla:an<lab.length:=by rw [hLb.ln];exact haN
  have hlb:bn<lab.length:=by rw [hLb.ln];exact hbN
  have hlc_:cn<lab.length:=by rw [hLb.ln];exact hcN
  refine zUs ?_
  refine zUs ?_
  refine zC 56 ((94, .Z (UF.eq lv))::(95, .Z (uI ((ins lab).length:Int)))::(96, .Z (uI (N:Int)))::(97, .Z (uB false))::(98, .Z (uB false))::(99, .Z (uB oab))::(100, .Z (uB oab))::(101, .Z (uB false))::(102, .Z (uB false))::(103, .Z (uB false))::(104, .Z (uB oab))::(105, .Z (UF.eq lv))::(106, .Z (uI (an:Int)))::(107, .s (wC (wB [.int .i64 (lab.getD an 0)]).cf))::(108, .Z (uI (lab.getD an 0)))::(109, .Z (UF.eq lv))::(110, .Z (uI (bn:Int)))::(111, .s (wC (wB [.int .i64 (lab.getD bn 0)]).cf))::(112, .Z (uI (lab.getD bn 0)))::(113, .Z (uB ((lab.getD an 0)==(lab.getD bn 0))))::(114, .Z (uB false))::(115, .Z (uB false))::(116, .Z (uB false))::(117, .Z (uB obc))::(118, .Z (UF.eq lv))::(119, .Z (uI (bn:Int)))::(120, .s (wC (wB [.int .i64 (lab.getD bn 0)]).cf))::(121, .Z (uI (lab.getD bn 0)))::(122, .Z (UF.eq lv))::(123, .Z (uI (cn:Int)))::(124, .s (wC (wB [.int .i64 (lab.getD cn 0)]).cf))::(125, .Z (uI (lab.getD cn 0)))::(126, .Z (uB ((lab.getD bn 0)==(lab.getD cn 0))))::(127, .Z (uB false))::(128, .Z (uB false))::(129, .Z (uB false))::(130, .Z (fQN qab))::(131, .Z (fQN qab))::(132, .Z (uB true))::(133, .Z (uB false))::(134, .Z (uB false))::(135, .Z (uB false))::(136, .Z (UF.eq lv))::(137, .Z (uI (an:Int)))::(138, .s (wC (wB [.int .i64 (lab.getD an 0)]).cf))::(139, .Z (uI (lab.getD an 0)))::(140, .Z (uB false))::(141, .Z (uB false))::(142, .Z (uB false))::(143, .Z (UF.eq lv))::(144, .Z (uI (an:Int)))::(145, .s (wC (wB [.int .i64 (lab.getD an 0)]).cf))::(146, .Z (uI (lab.getD an 0)))::(147, .Z (uI (an:Int)))::(148, .Z (uB false))::(149, .u (uB false)):: []) hmix s kJ
   (oc zA<|oc (zAR (z:=1) (Cs:=ins lab) kJ (fun v W hb h=>(jI hlv h (s.up hb))) (fun _=>rfl))<|oc zA<|oc (zP .i64 ((ins lab).length:Int) (N:Int) false iiz iiz (by simp [hLb.ln]) rfl)<|oc zA<|oc (zD 98 false kJ iiz (fun _=>zA) arf)<|oc (zD 98 false kJ iiz (fun _=>zA) arf)<|oc (zD 98 false kJ iiz (fun _=>zFL oab oab false kJ iiz iiz (by simp) rfl) arf)<|oc (zY false iiz (fun e=>by cases e) (fun _ _ _ h=>h))<|oc zA<|oc (zD 103 false kJ iiz (fun _=>zA) arf)<|oc (zD 103 false kJ iiz (fun _=>zA) arf)<|oc (zD 103 false kJ iiz (fun _=>zA) arf)<|oc (zD 103 false kJ iiz (fun _=>zT (z:=1) (Cs:=ins lab) (i:=an) (C:=wB [.int .i64 (lab.getD an 0)]) kJ (jN hla) (fun v W hb h=>(jI hlv h (s.up hb))) iiz) arf)<|oc (zD 103 false kJ iiz (fun _=>yI (C:=(wB [.int .i64 (lab.getD an 0)]).cf) kJ iiz y7) arf)<|oc (zD 103 false kJ iiz (fun _=>zA) arf)<|oc (zD 103 false kJ iiz (fun _=>zA) arf)<|oc (zD 103 false kJ iiz (fun _=>zT (z:=1) (Cs:=ins lab) (i:=bn) (C:=wB [.int .i64 (lab.getD bn 0)]) kJ (jN hlb) (fun v W hb h=>(jI hlv h (s.up hb))) iiz) arf)<|oc (zD 103 false kJ iiz (fun _=>yI (C:=(wB [.int .i64 (lab.getD bn 0)]).cf) kJ iiz y7) arf)<|oc (zD 103 false kJ iiz (fun _=>zP .i64 (lab.getD an 0) (lab.getD bn 0) ((lab.getD an 0)==(lab.getD bn 0)) iiz iiz rfl rfl) arf)<|oc (zD 103 false kJ iiz (fun _=>zFL oab ((lab.getD an 0)==(lab.getD bn 0)) false kJ iiz iiz (by rw [b1];simp) rfl) arf)<|oc (zY false iiz (fun e=>by cases e) (fun _ _ _ h=>h))<|oc zA<|oc (zD 116 false kJ iiz (fun _=>zA) arf)<|oc (zD 116 false kJ iiz (fun _=>zA) arf)<|oc (zD 116 false kJ iiz (fun _=>zA) arf)<|oc (zD 116 false kJ iiz (fun _=>zT (z:=1) (Cs:=ins lab) (i:=bn) (C:=wB [.int .i64 (lab.getD bn 0)]) kJ (jN hlb) (fun v W hb h=>(jI hlv h (s.up hb))) iiz) arf)<|oc (zD 116 false kJ iiz (fun _=>yI (C:=(wB [.int .i64 (lab.getD bn 0)]).cf) kJ iiz y7) arf)<|oc (zD 116 false kJ iiz (fun _=>zA) arf)<|oc (zD 116 false kJ iiz (fun _=>zA) arf)<|oc (zD 116 false kJ iiz (fun _=>zT (z:=1) (Cs:=ins lab) (i:=cn) (C:=wB [.int .i64 (lab.getD cn 0)]) kJ (jN hlc_) (fun v W hb h=>(jI hlv h (s.up hb))) iiz) arf)<|oc (zD 116 false kJ iiz (fun _=>yI (C:=(wB [.int .i64 (lab.getD cn 0)]).cf) kJ iiz y7) arf)<|oc (zD 116 false kJ iiz (fun _=>zP .i64 (lab.getD bn 0) (lab.getD cn 0) ((lab.getD bn 0)==(lab.getD cn 0)) iiz iiz rfl rfl) arf)<|oc (zD 116 false kJ iiz (fun _=>zFL obc ((lab.getD bn 0)==(lab.getD cn 0)) false kJ iiz iiz (by rw [b2];simp) rfl) arf)<|oc (zY false iiz (fun e=>by cases e) (fun _ _ _ h=>h))<|oc zA<|oc (zD 129 false kJ iiz (fun _=>yY (f:=fQN qab) 3 kJ (hz:=jA _)) arf)<|oc (zD 129 false kJ iiz (fun _=>yY (f:=fQN qab) 3 kJ (hz:=jA _)) arf)<|oc (zD 129 false kJ iiz (fun _=>yE zF zPN (fun u0 u1 W hb (h0:QNp qab u0 W) (h1:QNp qab u1 W)=>(zFy (m:=1) (p:=qab) (q:=qab) (wJ h0 hqab) (wJ h1 hqab) dC dC).mono (wG (fun v W h=>by rw [zIt] at h;exact h)))) arf)<|oc (zD 129 false kJ iiz (fun _=>zBm true iiz (fun _=>rfl)) arf)<|oc (zY false iiz (fun e=>by cases e) (fun _ _ _ h=>h))<|oc zA<|oc (zD 135 false kJ iiz (fun _=>zA) arf)<|oc (zD 135 false kJ iiz (fun _=>zA) arf)<|oc (zD 135 false kJ iiz (fun _=>zT (z:=1) (Cs:=ins lab) (i:=an) (C:=wB [.int .i64 (lab.getD an 0)]) kJ (jN hla) (fun v W hb h=>(jI hlv h (s.up hb))) iiz) arf)<|oc (zD 135 false kJ iiz (fun _=>yI (C:=(wB [.int .i64 (lab.getD an 0)]).cf) kJ iiz y7) arf)<|oc (zD 135 false kJ iiz (fun _=>zP .i64 (lab.getD an 0) 0 false iiz iiz (decide_eq_false oQ) rfl) arf)<|oc (zY false iiz (fun e=>by cases e) (fun _ _ _ h=>h))<|oc zA<|oc (zD 142 false kJ iiz (fun _=>zA) arf)<|oc (zD 142 false kJ iiz (fun _=>zA) arf)<|oc (zD 142 false kJ iiz (fun _=>zT (z:=1) (Cs:=ins lab) (i:=an) (C:=wB [.int .i64 (lab.getD an 0)]) kJ (jN hla) (fun v W hb h=>(jI hlv h (s.up hb))) iiz) arf)<|oc (zD 142 false kJ iiz (fun _=>yI (C:=(wB [.int .i64 (lab.getD an 0)]).cf) kJ iiz y7) arf)<|oc (zD 142 false kJ iiz (fun _=>zA) arf)<|oc (zD 142 false kJ iiz (fun _=>zP .i64 (lab.getD an 0) (an:Int) false iiz iiz (decide_eq_false oQ) rfl) arf)<|oc (zY false iiz (fun e=>by cases e) (fun _ _ _ h=>h))<|zE) fun a w9 s=> ?_
  refine zB rfl ?_
  replace s:StS _ _ _ [⟨23,32,CU.agg (fQN qac),b23,true⟩,⟨20,32,CU.agg (fQN qbc),b20,true⟩,⟨17,32,CU.agg (fQN qab),b17,true⟩,⟨14,32,CU.agg (fQN qab),b14,true⟩] _ _ _ _:=s.freeze
  have hb:=s.below
  replace hFr:=hFr.trans (hb.mono hFr.size)
  replace hT:=hT.below hb
  replace hlj:=(SF.row 2 (jns js)).st _ _ _ hlj hb
  replace hlf:=(SF.row 3 (rvs 1 (qvs L))).st _ _ _ hlf hb
  replace hlv:=(SF.row 1 (ins lab)).st _ _ _ hlv hb
  replace s:=s.anewB rfl rfl
  refine StS.cond s false iiz (fun e=>by cases e) (fun e=> ?_)
  refine zUu ?_
  refine zUs ?_
  refine zUs ?_
  have hcd:(oab&&obc)=true->oac=true/\qac<=qab+qbc/\QB (qab+qbc) 1:=fun h=>b5 (Bool.and_eq_true_iff.1 h).1 (Bool.and_eq_true_iff.1 h).2
  refine zC 17 ((150, .Z (uB oab))::(151, .Z (uB oab))::(152, .s (SF.imp ((oab)=true) ((uB obc).tS)))::(153, .Z (uB (oab&&obc)))::(154, .Z (uB (oab&&obc)))::(155, .s (SF.imp ((oab&&obc)=true) ((uB true).tS)))::(156, .s (SF.imp ((oab&&obc)=true) ((uB false).tS)))::(157, .Z (UF.eq (if (oab&&obc)=true then .bool false else undef)))::(158, .s (SF.imp ((oab&&obc)=true) ((fQN qac).tS)))::(159, .s (SF.imp ((oab&&obc)=true) ((fQN qab).tS)))::(160, .s (SF.imp ((oab&&obc)=true) ((fQN qbc).tS)))::(161, .s (SF.imp ((oab&&obc)=true) (SF.row 3 (rvs 1 [qab,qbc]))))::(162, .s (SF.imp ((oab&&obc)=true) ((fQN (qab+qbc)).tS)))::(163, .s (SF.imp ((oab&&obc)=true) ((uI (qsg qac (qab+qbc))).tS)))::(164, .s (SF.imp ((oab&&obc)=true) ((uB false).tS)))::(165, .s (SF.imp ((oab&&obc)=true) ((uB false).tS)))::(166, .u (uB false)):: []) hmix s kJ
   (oc zA<|oc zA<|oc (zD 151 oab kJ iiz (fun e=>zL [] ((uB obc).tS) fnz (fun _ _ h _=>h) kJ zA) (fun e W h=>absurd h e))<|oc (zY oab iiz (fun e v W h=>zBX (zI e h) e) (fun e v W h=>zBl h e))<|oc zA<|oc (zD 154 (oab&&obc) kJ iiz (fun e=>zL [] ((uB true).tS) fnz (fun _ _ h _=>h) kJ (zA (fun _ _ _ h=>h.trans (congrArg Value.bool (hcd e).1)))) (fun e W h=>absurd h e))<|oc (zD 154 (oab&&obc) kJ iiz (fun e=>zL [(155,(uB true).tS)] ((uB false).tS) (fmz ⟨fun v W h=>zI (c:=(oab&&obc)=true) (f:=(uB true).tS) e h,fnz⟩) (fun _ _ h _=>h) kJ (zBm true iiz (fun _=>rfl))) (fun e W h=>absurd h e))<|oc (zD 154 (oab&&obc) kJ iiz (fun e=>zL [(156,(uB false).tS)] ((uB false).tS) (fmz ⟨fun v W h=>zI (c:=(oab&&obc)=true) (f:=(uB false).tS) e h,fnz⟩) (fun _ _ h=>h.trans (if_pos e).symm) kJ zA) (fun e W=>(if_neg e).symm))<|oc (zBo 157 ((oab&&obc)=true) kJ iiz (fun e=>zL [] ((fQN qac).tS) fnz (fun _ _ h _=>h) kJ (yY (f:=fQN qac) 3 kJ (hz:=jA _))) (fun e W h=>absurd h e))<|oc (zBo 157 ((oab&&obc)=true) kJ iiz (fun e=>zL [] ((fQN qab).tS) fnz (fun _ _ h _=>h) kJ (yY (f:=fQN qab) 3 kJ (hz:=jA _))) (fun e W h=>absurd h e))<|oc (zBo 157 ((oab&&obc)=true) kJ iiz (fun e=>zL [] ((fQN qbc).tS) fnz (fun _ _ h _=>h) kJ (yY (f:=fQN qbc) 3 kJ (hz:=jA _))) (fun e W h=>absurd h e))<|oc (zBo 157 ((oab&&obc)=true) kJ iiz (fun e=>zL [(159,(fQN qab).tS),(160,(fQN qbc).tS)] (SF.row 3 (rvs 1 [qab,qbc])) (fmz ⟨fun v W h=>zI (c:=(oab&&obc)=true) (f:=(fQN qab).tS) e h,fmz ⟨fun v W h=>zI (c:=(oab&&obc)=true) (f:=(fQN qbc).tS) e h,fnz⟩⟩) (fun _ _ h _=>h) kJ (qM (fun u v W (hu:QNp qab u W) (hv:QNp qbc v W)=>zQf (m:=1) (wJ hu hqab) (wJ hv hqbc)))) (fun e W h=>absurd h e))<|oc (zBo 157 ((oab&&obc)=true) kJ iiz (fun e=>zL [(161,SF.row 3 (rvs 1 [qab,qbc]))] ((fQN (qab+qbc)).tS) (fmz ⟨fun v W h=>zI (c:=(oab&&obc)=true) (f:=SF.row 3 (rvs 1 [qab,qbc])) e h,fnz⟩) (fun _ _ h _=>h) kJ (zM zF zSu (fun u0 W hb (h0:(SF.row 3 (rvs 1 [qab,qbc])).p u0 W)=>zMz (m:=1) (p:=qab) (q:=qbc) h0 hqab hqbc dC))) (fun e W h=>absurd h e))<|oc (zBo 157 ((oab&&obc)=true) kJ iiz (fun e=>zL [(158,(fQN qac).tS),(162,(fQN (qab+qbc)).tS)] ((uI (qsg qac (qab+qbc))).tS) (fmz ⟨fun v W h=>zI (c:=(oab&&obc)=true) (f:=(fQN qac).tS) e h,fmz ⟨fun v W h=>zI (c:=(oab&&obc)=true) (f:=(fQN (qab+qbc)).tS) e h,fnz⟩⟩) (fun _ _ h _=>h) kJ (yE zF zQ8 (fun u0 u1 W hb (h0:QNp qac u0 W) (h1:QNp (qab+qbc) u1 W)=>zKo (m:=1) (wJ h0 hqac) (wJ h1 (hcd e).2.2) dC dC))) (fun e W h=>absurd h e))<|oc (zBo 157 ((oab&&obc)=true) kJ iiz (fun e=>zL [(163,(uI (qsg qac (qab+qbc))).tS)] ((uB false).tS) (fmz ⟨fun v W h=>zI (c:=(oab&&obc)=true) (f:=(uI (qsg qac (qab+qbc))).tS) e h,fnz⟩) (fun _ _ h _=>h) kJ (zP .i64 (qsg qac (qab+qbc)) 0 false iiz iiz (zO8 (hcd e).2.1) rfl)) (fun e W h=>absurd h e))<|oc (zD 154 (oab&&obc) kJ iiz (fun e=>zL [(157,(uB false).tS),(164,(uB false).tS)] ((uB false).tS) (fmz ⟨fun v W h=>h.trans (if_pos e),fmz ⟨fun v W h=>zI (c:=(oab&&obc)=true) (f:=(uB false).tS) e h,fnz⟩⟩) (fun _ _ h _=>h) kJ (zY false iiz (fun e=>by cases e) (fun _ _ _ h=>h))) (fun e W h=>absurd h e))<|oc (zY (oab&&obc) iiz (fun e v W h=>zI e h) (fun e v W h=>h))<|zE) fun a w10 s=> ?_
  refine zB rfl ?_
  replace s:StS _ _ _ [⟨23,32,CU.agg (fQN qac),b23,true⟩,⟨20,32,CU.agg (fQN qbc),b20,true⟩,⟨17,32,CU.agg (fQN qab),b17,true⟩,⟨14,32,CU.agg (fQN qab),b14,true⟩] _ _ _ _:=s.freeze
  have hb:=s.below
  replace hFr:=hFr.trans (hb.mono hFr.size)
  replace hT:=hT.below hb
  replace hlj:=(SF.row 2 (jns js)).st _ _ _ hlj hb
  replace hlf:=(SF.row 3 (rvs 1 (qvs L))).st _ _ _ hlf hb
  replace hlv:=(SF.row 1 (ins lab)).st _ _ _ hlv hb
  replace s:=s.anewB rfl rfl
  refine StS.cond s false iiz (fun e=>by cases e) (fun e=> ?_)
  refine zUu ?_
  refine zUs ?_
  refine qS 10 ((168, .Z (uI (N:Int)))::(169, .Z (UF.eq lj))::(170, .Z (UF.eq lq))::(171, .Z (uI (an:Int)))::(172, .s (wM (wE w10 32 3 (qns (csR (grE N js (qvs L)) N (an:Int)))) (wE w10 3 1 (ins (ssR (grE N js (qvs L)) N (an:Int))))))::(167, .s (wM (wE w10 32 3 (qns (csR (grE N js (qvs L)) N (an:Int)))) (wE w10 3 1 (ins (ssR (grE N js (qvs L)) N (an:Int))))))::(173, .s (wE w10 32 3 (qns (csR (grE N js (qvs L)) N (an:Int)))))::(174, .s (wE w10 3 1 (ins (ssR (grE N js (qvs L)) N (an:Int)))))::(26, .s (wE w10 32 3 (qns (csR (grE N js (qvs L)) N (an:Int)))))::(27, .s (wE w10 3 1 (ins (ssR (grE N js (qvs L)) N (an:Int))))):: []) hmix s kJ
   (oc zA<|oc zA<|oc zA<|oc zA<|oc (zMR zF zSt (fun u0 u1 u2 u3 W hb (h0:u0= .int .i64 (N:Int)) (h1:u1=lj) (h2:u2=lq) (h3:u3= .int .i64 (an:Int))=>(zMt (n:=(N:Int)) (N:=N) (x:=(an:Int)) (js:=js) (fs:=qvs L) h0 (jI hlj h1 (s.up hb)) (jI hlf h2 (s.up hb)) h3 hNz hB (hT.below (s.up hb))).mono (wG (fun v W h=>zHj (s.up hb).size h))))<|oc zA<|oc (zBB (A:=wE w10 32 3 (qns (csR (grE N js (qvs L)) N (an:Int)))) (B:=wE w10 3 1 (ins (ssR (grE N js (qvs L)) N (an:Int)))) iiz)<|oc (zBA (A:=wE w10 32 3 (qns (csR (grE N js (qvs L)) N (an:Int)))) (B:=wE w10 3 1 (ins (ssR (grE N js (qvs L)) N (an:Int)))) iiz)<|oc zH<|oc zH<|zE) fun a w11 s hr=> ?_
  refine zB rfl ?_
  obtain ⟨lc,e26⟩: ∃v,a.tmps.getD 26 undef=v:=⟨_,rfl⟩
  have hlc:=(hr (_,_) mz8)
  rw [show a.tmps.getD _ undef=lc from e26] at hlc
  replace hlc:=jD.row hlc
  replace s:=s.learn 26 _ e26
  obtain ⟨ls,e27⟩: ∃v,a.tmps.getD 27 undef=v:=⟨_,rfl⟩
  have hls:=(hr (_,_) mz9)
  rw [show a.tmps.getD _ undef=ls from e27] at hls
  replace hls:=jD.row hls
  replace s:=s.learn 27 _ e27
  have hb:=s.below
  replace hFr:=hFr.trans (hb.mono hFr.size)
  replace hT:=hT.below hb
  replace hlj:=(SF.row 2 (jns js)).st _ _ _ hlj hb
  replace hlf:=(SF.row 3 (rvs 1 (qvs L))).st _ _ _ hlf hb
  replace hlv:=(SF.row 1 (ins lab)).st _ _ _ hlv hb
  replace s:=s.anewB rfl rfl
  have hlcb:bn<(csR (grE N js (qvs L)) N (an:Int)).length:=by rw [b6];exact hbN
  have hlsb:bn<(ssR (grE N js (qvs L)) N (an:Int)).length/\an<(ssR (grE N js (qvs L)) N (an:Int)).length:=by rw [b7];exact ⟨hbN,haN⟩
  refine zUs ?_
  refine zUs ?_
  refine zC 28 ((175, .Z (UF.eq lc))::(176, .Z (uI (((qns (csR (grE N js (qvs L)) N (an:Int))).length:Nat):Int)))::(177, .Z (uI (N:Int)))::(178, .Z (uB false))::(179, .Z (uB false))::(180, .Z (UF.eq ls))::(181, .Z (uI (((ins (ssR (grE N js (qvs L)) N (an:Int))).length:Nat):Int)))::(182, .Z (uI (N:Int)))::(183, .Z (uB false))::(184, .Z (uB false))::(185, .Z (uB false))::(186, .Z (UF.eq ls))::(187, .Z (uI (bn:Int)))::(188, .s (wC (wB [.int .i64 ((ssR (grE N js (qvs L)) N (an:Int)).getD bn 0)]).cf))::(189, .Z (uI ((ssR (grE N js (qvs L)) N (an:Int)).getD bn 0)))::(190, .Z (uB (decide (((ssR (grE N js (qvs L)) N (an:Int)).getD bn 0)≥0))))::(191, .Z (uB oab))::(192, .Z (uB false))::(193, .Z (uB false))::(194, .Z (uB false))::(195, .Z (UF.eq lc))::(196, .Z (uI (bn:Int)))::(197, .Y (fQN ((csR (grE N js (qvs L)) N (an:Int)).getD bn 0)))::(198, .Z (fQN ((csR (grE N js (qvs L)) N (an:Int)).getD bn 0)))::(199, .Z (fQN qab))::(200, .Z (uB true))::(201, .Z (uB false))::(202, .u (uB false)):: []) hmix s kJ
   (oc zA<|oc (zAR (z:=3) (Cs:=qns (csR (grE N js (qvs L)) N (an:Int))) kJ (fun v W hb h=>(by rw [show _=lc from h];exact (SF.row 3 (qns (csR (grE N js (qvs L)) N (an:Int)))).st _ _ _ hlc (s.up hb))) (fun _=>rfl))<|oc zA<|oc (zP .i64 (((qns (csR (grE N js (qvs L)) N (an:Int))).length:Nat):Int) (N:Int) false iiz iiz (by rw [zUv,b6];simp) rfl)<|oc zA<|oc (zD 179 false kJ iiz (fun _=>zA) arf)<|oc (zD 179 false kJ iiz (fun _=>zAR (z:=1) (Cs:=ins (ssR (grE N js (qvs L)) N (an:Int))) kJ (fun v W hb h=>(by rw [show _=ls from h];exact (SF.row 1 (ins (ssR (grE N js (qvs L)) N (an:Int)))).st _ _ _ hls (s.up hb))) (fun _=>rfl)) arf)<|oc (zD 179 false kJ iiz (fun _=>zA) arf)<|oc (zD 179 false kJ iiz (fun _=>zP .i64 (((ins (ssR (grE N js (qvs L)) N (an:Int))).length:Nat):Int) (N:Int) false iiz iiz (by rw [zUv,b7];simp) rfl) arf)<|oc (zY false iiz (fun e=>by cases e) (fun _ _ _ h=>h))<|oc zA<|oc (zD 185 false kJ iiz (fun _=>zA) arf)<|oc (zD 185 false kJ iiz (fun _=>zA) arf)<|oc (zD 185 false kJ iiz (fun _=>zT (z:=1) (Cs:=ins (ssR (grE N js (qvs L)) N (an:Int))) (i:=bn) (C:=wB [.int .i64 ((ssR (grE N js (qvs L)) N (an:Int)).getD bn 0)]) kJ (jN hlsb.1) (fun v W hb h=>(by rw [show _=ls from h];exact (SF.row 1 (ins (ssR (grE N js (qvs L)) N (an:Int)))).st _ _ _ hls (s.up hb))) iiz) arf)<|oc (zD 185 false kJ iiz (fun _=>yI (C:=(wB [.int .i64 ((ssR (grE N js (qvs L)) N (an:Int)).getD bn 0)]).cf) kJ iiz y7) arf)<|oc (zD 185 false kJ iiz (fun _=>zP .i64 ((ssR (grE N js (qvs L)) N (an:Int)).getD bn 0) 0 (decide (((ssR (grE N js (qvs L)) N (an:Int)).getD bn 0)≥0)) iiz iiz rfl rfl) arf)<|oc (zD 185 false kJ iiz (fun _=>zA) arf)<|oc (zD 185 false kJ iiz (fun _=>zFL (decide (((ssR (grE N js (qvs L)) N (an:Int)).getD bn 0)≥0)) oab false kJ iiz iiz (by rw [b8];simp) rfl) arf)<|oc (zY false iiz (fun e=>by cases e) (fun _ _ _ h=>h))<|oc zA<|oc (zD 194 false kJ iiz (fun _=>zA) arf)<|oc (zD 194 false kJ iiz (fun _=>zA) arf)<|oc (zD 194 false kJ iiz (fun _=>zT (z:=3) (Cs:=qns (csR (grE N js (qvs L)) N (an:Int))) (i:=bn) (C:=CU.agg (fQN ((csR (grE N js (qvs L)) N (an:Int)).getD bn 0))) kJ (zFC hlcb) (fun v W hb h=>(by rw [show _=lc from h];exact (SF.row 3 (qns (csR (grE N js (qvs L)) N (an:Int)))).st _ _ _ hlc (s.up hb))) iiz) arf)<|oc (zD 194 false kJ iiz (fun _=>yY (f:=fQN ((csR (grE N js (qvs L)) N (an:Int)).getD bn 0)) 3 kJ (hz:=jA _)) arf)<|oc (zD 194 false kJ iiz (fun _=>yY (f:=fQN qab) 3 kJ (hz:=jA _)) arf)<|oc (zD 194 false kJ iiz (fun _=>yE zF zPN (fun u0 u1 W hb (h0:QNp ((csR (grE N js (qvs L)) N (an:Int)).getD bn 0) u0 W) (h1:QNp qab u1 W)=>(zFy (m:=1) (p:=((csR (grE N js (qvs L)) N (an:Int)).getD bn 0)) (q:=qab) (wJ h0 (by rw [b9];exact hqab)) (wJ h1 hqab) dC dC).mono (wG (fun v W h=>by rw [b9,zIt] at h;exact h)))) arf)<|oc (zD 194 false kJ iiz (fun _=>zBm true iiz (fun _=>rfl)) arf)<|oc (zY false iiz (fun e=>by cases e) (fun _ _ _ h=>h))<|zE) fun a w12 s=> ?_
  refine zB rfl ?_
  replace s:StS _ _ _ [⟨23,32,CU.agg (fQN qac),b23,true⟩,⟨20,32,CU.agg (fQN qbc),b20,true⟩,⟨17,32,CU.agg (fQN qab),b17,true⟩,⟨14,32,CU.agg (fQN qab),b14,true⟩] _ _ _ _:=s.freeze
  have hb:=s.below
  replace hFr:=hFr.trans (hb.mono hFr.size)
  replace hT:=hT.below hb
  replace hlj:=(SF.row 2 (jns js)).st _ _ _ hlj hb
  replace hlf:=(SF.row 3 (rvs 1 (qvs L))).st _ _ _ hlf hb
  replace hlv:=(SF.row 1 (ins lab)).st _ _ _ hlv hb
  replace hlc:=(SF.row 3 (qns (csR (grE N js (qvs L)) N (an:Int)))).st _ _ _ hlc hb
  replace hls:=(SF.row 1 (ins (ssR (grE N js (qvs L)) N (an:Int)))).st _ _ _ hls hb
  replace s:=s.anewB rfl rfl
  refine StS.cond s false iiz (fun e=>by cases e) (fun e=> ?_)
  refine zUu ?_
  refine zUs ?_
  refine qS 10 ((204, .Z (uI (N:Int)))::(205, .Z (UF.eq lj))::(206, .Z (UF.eq lq))::(207, .Z (uI (an:Int)))::(208, .Z (uI (an:Int)))::(209, .s (wH (wE w12 3 1 (ins [(an:Int)])) ((fQN 0).tS) ((uB true).tS)))::(203, .s (wH (wE w12 3 1 (ins [(an:Int)])) ((fQN 0).tS) ((uB true).tS)))::(210, .s (wE w12 3 1 (ins [(an:Int)])))::(211, .u (fQN 0))::(212, .u (uB true)):: []) hmix s kJ
   (oc zA<|oc zA<|oc zA<|oc zA<|oc zA<|oc (zBZ zF zHO (fun u0 u1 u2 u3 u4 W hb (h0:u0= .int .i64 (N:Int)) (h1:u1=lj) (h2:u2=lq) (h3:u3= .int .i64 (an:Int)) (h4:u4= .int .i64 (an:Int))=>(zBU (n:=(N:Int)) (N:=N) (x:=(an:Int)) (z:=(an:Int)) (js:=js) (fs:=qvs L) h0 (jI hlj h1 (s.up hb)) (jI hlf h2 (s.up hb)) h3 h4 hNz hB (hT.below (s.up hb))).mono (wG (fun v W h=>by have h7:=zKZ (s.up hb).size h;rw [hsf] at h7;exact h7))))<|oc zA<|oc (zBb (A:=wE w12 3 1 (ins [(an:Int)])) (B:=(fQN 0).tS) (C:=(uB true).tS) iiz)<|oc (zBa (A:=wE w12 3 1 (ins [(an:Int)])) (B:=(fQN 0).tS) (C:=(uB true).tS) iiz)<|oc (zA9 (A:=wE w12 3 1 (ins [(an:Int)])) (B:=(fQN 0).tS) (C:=(uB true).tS) iiz)<|zE) fun a w13 s hr=> ?_
  obtain ⟨lw,e210⟩: ∃v,a.tmps.getD 210 undef=v:=⟨_,rfl⟩
  have hlw:=(hr (_,_) mz7)
  rw [show a.tmps.getD _ undef=lw from e210] at hlw
  replace hlw:=jD.row hlw
  replace s:=s.learn 210 _ e210
  have hb:=s.below
  replace hFr:=hFr.trans (hb.mono hFr.size)
  replace hT:=hT.below hb
  replace hlj:=(SF.row 2 (jns js)).st _ _ _ hlj hb
  replace hlf:=(SF.row 3 (rvs 1 (qvs L))).st _ _ _ hlf hb
  replace hlv:=(SF.row 1 (ins lab)).st _ _ _ hlv hb
  replace hlc:=(SF.row 3 (qns (csR (grE N js (qvs L)) N (an:Int)))).st _ _ _ hlc hb
  replace hls:=(SF.row 1 (ins (ssR (grE N js (qvs L)) N (an:Int)))).st _ _ _ hls hb
  replace s:=s.anewB rfl rfl
  refine yX (CU.len 3) (cs:=zR3) kJ rfl s kJ (fun W=>rfl) rfl fun b29 a w s=> ?_
  refine qL (UF.eq lw) rfl s kJ iiz fun a w s=> ?_
  refine yM (CU.agg (fQN 0)) ((fQN 0).tS) rfl s kJ rfl rfl rfl iiz iiz yV fun a w s=> ?_
  refine qL (uB true) rfl s kJ iiz fun a w s=> ?_
  refine zB rfl ?_
  replace s:StS _ _ _ [⟨29,32,CU.agg (fQN 0),b29,true⟩,⟨23,32,CU.agg (fQN qac),b23,true⟩,⟨20,32,CU.agg (fQN qbc),b20,true⟩,⟨17,32,CU.agg (fQN qab),b17,true⟩,⟨14,32,CU.agg (fQN qab),b14,true⟩] _ _ _ _:=s.freeze
  have hb:=s.below
  replace hFr:=hFr.trans (hb.mono hFr.size)
  replace hT:=hT.below hb
  replace hlj:=(SF.row 2 (jns js)).st _ _ _ hlj hb
  replace hlf:=(SF.row 3 (rvs 1 (qvs L))).st _ _ _ hlf hb
  replace hlv:=(SF.row 1 (ins lab)).st _ _ _ hlv hb
  replace hlc:=(SF.row 3 (qns (csR (grE N js (qvs L)) N (an:Int)))).st _ _ _ hlc hb
  replace hls:=(SF.row 1 (ins (ssR (grE N js (qvs L)) N (an:Int)))).st _ _ _ hls hb
  replace hlw:=(SF.row 1 (ins [(an:Int)])).st _ _ _ hlw hb
  replace s:=s.anewB rfl rfl
  refine zUs ?_
  replace s:=s.drop [12]
  refine zC 29 ((213, .Z (uB true))::(214, .Z (uB true))::(215, .Z (UF.eq lw))::(216, .Z (uI ((ins [(an:Int)]).length:Int)))::(217, .Z (uB true))::(218, .Z (uB true))::(219, .Z (uB true))::(220, .Z (UF.eq lw))::(221, .s (wC (wB [.int .i64 (an:Int)]).cf))::(222, .Z (uI (an:Int)))::(223, .Z (uI (an:Int)))::(224, .Z (uB true))::(225, .Z (uB true))::(226, .Z (uB true))::(227, .Z (fQN 0))::(228, .Z (uI ((0:Rat).num.sign)))::(229, .Z (uB true))::(230, .Z (uB true))::(231, .Z (uB true))::(232, .Z (UF.eq ls))::(233, .Z (uI (an:Int)))::(234, .s (wC (wB [.int .i64 ((ssR (grE N js (qvs L)) N (an:Int)).getD an 0)]).cf))::(235, .Z (uI ((ssR (grE N js (qvs L)) N (an:Int)).getD an 0)))::(236, .Z (uB true))::(237, .Z (uB true))::(238, .Z (uB true))::(239, .Z (uB true))::(240, .Z (uB true))::(12, .u (uB true)):: []) hmix s kJ
   (oc zA<|oc zA<|oc (zD 214 true kJ iiz (fun _=>zA) arf)<|oc (zD 214 true kJ iiz (fun _=>zAR (z:=1) (Cs:=ins [(an:Int)]) kJ (fun v W hb h=>(jI hlw h (s.up hb))) (fun _=>rfl)) arf)<|oc (zD 214 true kJ iiz (fun _=>zP .i64 ((ins [(an:Int)]).length:Int) 1 true iiz iiz (by rfl) rfl) arf)<|oc (zY true iiz (fun _ _ _ h=>h) (fun e=>by cases e))<|oc zA<|oc (zD 219 true kJ iiz (fun _=>zA) arf)<|oc (zD 219 true kJ iiz (fun _=>zT (z:=1) (Cs:=ins [(an:Int)]) (i:=0) (C:=wB [.int .i64 (an:Int)]) kJ rfl (fun v W hb h=>(jI hlw h (s.up hb))) iiz) arf)<|oc (zD 219 true kJ iiz (fun _=>yI (C:=(wB [.int .i64 (an:Int)]).cf) kJ iiz y7) arf)<|oc (zD 219 true kJ iiz (fun _=>zA) arf)<|oc (zD 219 true kJ iiz (fun _=>zP .i64 (an:Int) (an:Int) true iiz iiz (by simp) rfl) arf)<|oc (zY true iiz (fun _ _ _ h=>h) (fun e=>by cases e))<|oc zA<|oc (zD 226 true kJ iiz (fun _=>yY (f:=fQN 0) 3 kJ (hz:=jA _)) arf)<|oc (zD 226 true kJ iiz (fun _=>zM zF zSv (fun u0 W hb (h0:QNp 0 u0 W)=>zMw (m:=1) (wJ h0 (QB.zero dC)) dC)) arf)<|oc (zD 226 true kJ iiz (fun _=>zP .i64 ((0:Rat).num.sign) 0 true iiz iiz (by decide+kernel) rfl) arf)<|oc (zY true iiz (fun _ _ _ h=>h) (fun e=>by cases e))<|oc zA<|oc (zD 231 true kJ iiz (fun _=>zA) arf)<|oc (zD 231 true kJ iiz (fun _=>zA) arf)<|oc (zD 231 true kJ iiz (fun _=>zT (z:=1) (Cs:=ins (ssR (grE N js (qvs L)) N (an:Int))) (i:=an) (C:=wB [.int .i64 ((ssR (grE N js (qvs L)) N (an:Int)).getD an 0)]) kJ (jN hlsb.2) (fun v W hb h=>(by rw [show _=ls from h];exact (SF.row 1 (ins (ssR (grE N js (qvs L)) N (an:Int)))).st _ _ _ hls (s.up hb))) iiz) arf)<|oc (zD 231 true kJ iiz (fun _=>yI (C:=(wB [.int .i64 ((ssR (grE N js (qvs L)) N (an:Int)).getD an 0)]).cf) kJ iiz y7) arf)<|oc (zD 231 true kJ iiz (fun _=>zP .i64 ((ssR (grE N js (qvs L)) N (an:Int)).getD an 0) 0 true iiz iiz (by rw [b10];rfl) rfl) arf)<|oc (zY true iiz (fun _ _ _ h=>h) (fun e=>by cases e))<|oc zA<|oc (zD 238 true kJ iiz (fun _=>zIF zF zST (fun W hb=>zJL (hT.below (s.up hb)))) arf)<|oc (zY true iiz (fun _ _ _ h=>h) (fun e=>by cases e))<|oc zH<|zE) fun a w14 s=> ?_
  refine zB rfl ?_
  replace s:StS _ _ _ [⟨29,32,CU.agg (fQN 0),b29,true⟩,⟨23,32,CU.agg (fQN qac),b23,true⟩,⟨20,32,CU.agg (fQN qbc),b20,true⟩,⟨17,32,CU.agg (fQN qab),b17,true⟩,⟨14,32,CU.agg (fQN qab),b14,true⟩] _ _ _ _:=s.freeze
  have hb:=s.below
  replace hFr:=hFr.trans (hb.mono hFr.size)
  replace hT:=hT.below hb
  replace hlj:=(SF.row 2 (jns js)).st _ _ _ hlj hb
  replace hlf:=(SF.row 3 (rvs 1 (qvs L))).st _ _ _ hlf hb
  replace hlv:=(SF.row 1 (ins lab)).st _ _ _ hlv hb
  replace hlc:=(SF.row 3 (qns (csR (grE N js (qvs L)) N (an:Int)))).st _ _ _ hlc hb
  replace hls:=(SF.row 1 (ins (ssR (grE N js (qvs L)) N (an:Int)))).st _ _ _ hls hb
  replace hlw:=(SF.row 1 (ins [(an:Int)])).st _ _ _ hlw hb
  replace s:=s.anewB rfl rfl
  refine wpIn_ret ?_
  exact vC s hFr rfl iiz
end Go.Proofs.Wd
