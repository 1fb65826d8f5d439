/- Walks of package roads: Least; Walks of straitlaw28: wakes; Walks of s and what it needs. -/
import Derived.Test.YtencnknhnckpaaaGreatDoorMRL21
theorem kJ {P:Prop} (h:P:=by kernel_rfl):P:=h
theorem oQ {P:Prop} (h:P:=by omega):P:=h
theorem dC {P:Prop} (h:P:=by decide):P:=h
abbrev zUP:=@Go.wpIn_seq
abbrev zUQ:=@Go.wpIn_skip
abbrev zUR:=@List.length_map
abbrev zUS:=@Go.RowKit.Below.refl
abbrev zUT:=@Go.wpIn_ret
abbrev zUU:=@Go.wpIn_block
abbrev zUV:=@of_decide_eq_false
abbrev zUW:=@beq_iff_eq
abbrev zUX:=@congrArg
abbrev zUY:=@Bool.or_eq_false_iff
abbrev zUZ:=@Nat.zero_le
abbrev zU0:=@Go.wpIn_exit
abbrev zU1:=@of_decide_eq_true
abbrev zU2:=@List.getElem?_eq_getElem
abbrev zU3:=@List.getElem_mem
abbrev zU4:=@decide_eq_true_eq
abbrev zU5:=@List.getD_eq_getElem?_getD
abbrev Wu:=Go.World
namespace Go.Proofs.Wd
open Tryz
set_option maxRecDepth 100000
set_option maxHeartbeats 1000000
open Go.RowKit Lb
theorem zPQ (td:List Nat) (a:Nat):ins (jJ td)++ [wC [.int .i64 (a:Int)]]=ins (jJ (td++ [a])):=by simp [jJ]
def zI0 (W:Wu) (r:List Int×Rat×Bool):SF:=wL (wE W 3 1 (ins r.1)) (fQN r.2.1).tS (fB r.2.2).tS
theorem zFI {W:Wu} {n x z:Int} {N:Nat} {js:List (Int×Int)} {fs:List Rat} {u lj lf v t:Value} (hu:u= .int .i64 n) (hj:(SF.row 2 (jns js)).p lj W) (hf:(SF.row 3 (rvs 1 fs)).p lf W) (hv:v= .int .i64 x) (ht:t= .int .i64 z) (hNz:min (max n 0) 131072=(N:Int)) (hB:GrB N js fs) (hT:Tab W):Calls prog 10 #[u,lj,lf,v,t] W (Ret W (zI0 W (yQ (grE N js fs) N x z))):=by
  have hFr:Below W.heap.size W W:=zUS _ _
  have hGk:Gok (grE N js fs) N:=zJI _ _ _
  have hSy: ∀a b f,(b,f)∈(grE N js fs) a->(a,f)∈(grE N js fs) b:=fun a b f h=>zLw h
  refine qF [(uI n).tS,(UF.eq lj).tS,(UF.eq lf).tS,(uI x).tS,(uI z).tS] func10 rfl kJ ⟨hu,rfl,rfl,hv,ht,trivial⟩ fun a s=> ?_
  replace s:=s.renew [(0, .u (uI n)),(1, .u (UF.eq lj)),(2, .u (UF.eq lf)),(3, .u (uI x)),(4, .u (uI z))] (fmz ⟨.inr ⟨_,rfl, .head _⟩,fmz ⟨.inr ⟨_,rfl,mz1⟩,fmz ⟨.inr ⟨_,rfl,mz2⟩,fmz ⟨.inr ⟨_,rfl,mz3⟩,fmz ⟨.inr ⟨_,rfl,mz4⟩,fnz⟩⟩⟩⟩⟩)
  refine zUP ?_
  refine zC 1 ((10, .u (UF.eq (.slice none 0 0))):: []) hmix s kJ
    (oc zG<|zE) fun a w1 s=> ?_
  refine yS (CU.len 3) (cs:=zR3) kJ rfl s kJ (fun W=>rfl) rfl fun b11 a w s=> ?_
  refine y6 (uB false) rfl s kJ iiz fun a w s=> ?_
  refine zB rfl ?_
  have hb11:=s.inB_new (q:=b11) ⟨_, .head _,rfl,rfl⟩
  obtain ⟨c11,h11_,e11,n11⟩:=s.boxAt (c:=11) rfl
  have h11:=zOr (C:=CU.len 3) h11_ e11 n11 e11
  replace s:=(s.learn 11 _ (s.bx.mem _ (.head _)).choose_spec.1).popB
  have hb:=s.below
  replace hFr:=hFr.trans (hb.mono hFr.size)
  replace s:=s.anewB rfl rfl
  refine zUP ?_
  refine jM 5 ((20, .Z (uI n))::(21, .Z (UF.eq lj))::(22, .Z (UF.eq lf))::(23, .s (fG (glN N (rds N js fs))))::(13, .s (fG (glN N (rds N js fs)))):: []) hmix s kJ
    (oc zA<|oc zA<|oc zA<|oc (zDZ zF zRi (fun u0 u1 u2 W hb (h0:u0= .int .i64 n) (h1:u1=lj) (h2:u2=lf)=>zLR h0 (by rw [h1];exact (SF.row 2 (jns js)).st _ _ _ hj (hFr.trans ((s.up hb).mono hFr.size))) (by rw [h2];exact (SF.row 3 (rvs 1 fs)).st _ _ _ hf (hFr.trans ((s.up hb).mono hFr.size))) hNz hB.hN hB.hj ((hT.below hFr).below (s.up hb))))<|oc zG<|zE) fun a w2 s hr=> ?_
  refine zB rfl ?_
  obtain ⟨gg,cap,vs,e13,hG⟩:=(hr (_,_) mz4)
  rw [zAj] at e13
  replace s:=s.learn 13 _ e13
  have hb:=s.below
  replace hFr:=hFr.trans (hb.mono hFr.size)
  replace h11:=h11.below hb
  replace s:=s.anewB rfl rfl
  refine zUP ?_
  refine jM 8 ((25, .Z (UF.eq (.slice (some ⟨gg,0,none⟩) N cap)))::(26, .Z (uI x))::(27, .s (wM (wE w2 32 3 (qns (csR (grE N js fs) N x))) (wE w2 3 1 (ins (ssR (grE N js fs) N x)))))::(24, .s (wM (wE w2 32 3 (qns (csR (grE N js fs) N x))) (wE w2 3 1 (ins (ssR (grE N js fs) N x)))))::(28, .s (wE w2 32 3 (qns (csR (grE N js fs) N x))))::(29, .s (wE w2 3 1 (ins (ssR (grE N js fs) N x))))::(14, .s (wE w2 32 3 (qns (csR (grE N js fs) N x))))::(15, .s (wE w2 3 1 (ins (ssR (grE N js fs) N x)))):: []) hmix s kJ
    (oc zA<|oc zA<|oc (yF zF zSK (fun u0 u1 W hb (h0:u0=(.slice (some ⟨gg,0,none⟩) N cap)) (h1:u1= .int .i64 x)=>(zP3 (js:=js) (fs:=fs) (by exact ⟨gg,cap,vs,by rw [zAj];exact h0,hG.below (s.up hb)⟩) h1 hB ((hT.below hFr).below (s.up hb))).mono (wG (fun v W h=>zOM (s.up hb).size h))))<|oc zA<|oc (zBx (A:=wE w2 32 3 (qns (csR (grE N js fs) N x))) (B:=wE w2 3 1 (ins (ssR (grE N js fs) N x))) iiz)<|oc (zBw (A:=wE w2 32 3 (qns (csR (grE N js fs) N x))) (B:=wE w2 3 1 (ins (ssR (grE N js fs) N x))) iiz)<|oc zG<|oc zG<|zE) fun a w3 s hr=> ?_
  refine zB rfl ?_
  obtain ⟨cv,e14⟩: ∃v,a.tmps.getD 14 undef=v:=⟨_,rfl⟩
  obtain ⟨sv,e15⟩: ∃v,a.tmps.getD 15 undef=v:=⟨_,rfl⟩
  have hC:=(hr (_,_) mz6)
  have hS:=(hr (_,_) mz7)
  rw [show a.tmps.getD _ undef=cv from e14] at hC
  rw [show a.tmps.getD _ undef=sv from e15] at hS
  replace s:=(s.learn 14 _ e14).learn 15 _ e15
  replace hC:=jD.mono hC hFr.size
  replace hS:=jD.mono hS hFr.size
  obtain ⟨csv,ecs⟩: ∃c,csR (grE N js fs) N x=c:=⟨_,rfl⟩
  obtain ⟨ssv,ess⟩: ∃c,ssR (grE N js fs) N x=c:=⟨_,rfl⟩
  have hcl:csv.length=N:=by rw [<-ecs];exact (zLN _ _ _).1
  have hsl:ssv.length=N:=by rw [<-ess];exact (zLN _ _ _).2
  rw [ecs] at hC
  rw [ess] at hS
  have hb:=s.below
  replace hFr:=hFr.trans (hb.mono hFr.size)
  replace h11:=h11.below hb
  replace hG:=hG.below hb
  replace s:=s.anewB rfl rfl
  refine zUP ?_
  refine zUP ?_
  refine zC 17 ((30, .Z (UF.eq (.slice (some ⟨gg,0,none⟩) N cap)))::(31, .Z (uI x))::(32, .Z (uB (yM N x)))::(33, .Z (uB (!(yM N x))))::(34, .Z (uB (!(yM N x))))::(35, .s (SF.imp ((!(yM N x))=false) ((UF.eq (.slice (some ⟨gg,0,none⟩) N cap)).tS)))::(36, .s (SF.imp ((!(yM N x))=false) ((uI z).tS)))::(37, .s (SF.imp ((!(yM N x))=false) ((uB (yM N z)).tS)))::(38, .s (SF.imp ((!(yM N x))=false) ((uB (!(yM N z))).tS)))::(39, .Z (uB ((!(yM N x))||(!(yM N z)))))::(40, .Z (uB ((!(yM N x))||(!(yM N z)))))::(41, .s (SF.imp (((!(yM N x))||(!(yM N z)))=false) ((UF.eq sv).tS)))::(42, .s (SF.imp (((!(yM N x))||(!(yM N z)))=false) ((uI z).tS)))::(43, .s (SF.imp (((!(yM N x))||(!(yM N z)))=false) (wB (wC [.int .i64 (ssv.getD z.toNat 0)]).cf)))::(44, .s (SF.imp (((!(yM N x))||(!(yM N z)))=false) ((uI (ssv.getD z.toNat 0)).tS)))::(45, .s (SF.imp (((!(yM N x))||(!(yM N z)))=false) ((uB (decide ((ssv.getD z.toNat 0)<0))).tS)))::(46, .u (uB (((!(yM N x))||(!(yM N z)))||(decide ((ssv.getD z.toNat 0)<0))))):: []) hmix s kJ
    (oc zA<|oc zA<|oc (yF zF zLE (fun u0 u1 W hb (h0:u0=(.slice (some ⟨gg,0,none⟩) N cap)) (h1:u1= .int .i64 x)=>zLr h0 h1))<|oc (zAG (yM N x) iiz (fun _=>rfl))<|oc zA<|oc (zD 34 (!(yM N x)) kJ iiz (fun e=>zJ [] ((UF.eq (.slice (some ⟨gg,0,none⟩) N cap)).tS) fnz (fun _ _ h _=>h) kJ zA) (fun e W h=>absurd h e))<|oc (zD 34 (!(yM N x)) kJ iiz (fun e=>zJ [] ((uI z).tS) fnz (fun _ _ h _=>h) kJ zA) (fun e W h=>absurd h e))<|oc (zD 34 (!(yM N x)) kJ iiz (fun e=>zJ [(35,(UF.eq (.slice (some ⟨gg,0,none⟩) N cap)).tS),(36,(uI z).tS)] ((uB (yM N z)).tS) (fmz ⟨fun v W h=>zI (c:=(!(yM N x))=false) (f:=(UF.eq (.slice (some ⟨gg,0,none⟩) N cap)).tS) e h,fmz ⟨fun v W h=>zI (c:=(!(yM N x))=false) (f:=(uI z).tS) e h,fnz⟩⟩) (fun _ _ h _=>h) kJ (yF zF zLE (fun u0 u1 W hb (h0:u0=(.slice (some ⟨gg,0,none⟩) N cap)) (h1:u1= .int .i64 z)=>zLr h0 h1))) (fun e W h=>absurd h e))<|oc (zD 34 (!(yM N x)) kJ iiz (fun e=>zJ [(37,(uB (yM N z)).tS)] ((uB (!(yM N z))).tS) (fmz ⟨fun v W h=>zI (c:=(!(yM N x))=false) (f:=(uB (yM N z)).tS) e h,fnz⟩) (fun _ _ h _=>h) kJ (zAG (yM N z) iiz (fun _=>rfl))) (fun e W h=>absurd h e))<|oc (zX (!(yM N x)) iiz (fun e v W h=>jQ h e) (fun e v W h=>qS (zI e h) e))<|oc zA<|oc (zD 40 ((!(yM N x))||(!(yM N z))) kJ iiz (fun e=>zJ [] ((UF.eq sv).tS) fnz (fun _ _ h _=>h) kJ zA) (fun e W h=>absurd h e))<|oc (zD 40 ((!(yM N x))||(!(yM N z))) kJ iiz (fun e=>zJ [] ((uI z).tS) fnz (fun _ _ h _=>h) kJ zA) (fun e W h=>absurd h e))<|oc (zD 40 ((!(yM N x))||(!(yM N z))) kJ iiz (fun e=>zJ [(41,(UF.eq sv).tS),(42,(uI z).tS)] (wB (wC [.int .i64 (ssv.getD z.toNat 0)]).cf) (fmz ⟨fun v W h=>zI (c:=((!(yM N x))||(!(yM N z)))=false) (f:=(UF.eq sv).tS) e h,fmz ⟨fun v W h=>zI (c:=((!(yM N x))||(!(yM N z)))=false) (f:=(uI z).tS) e h,fnz⟩⟩) (fun _ _ h _=>h) kJ (zQ (z:=1) (Cs:=ins ssv) (i:=z.toNat) (C:=wC [.int .i64 (ssv.getD z.toNat 0)]) kJ (jI (by rw [hsl];exact (qL (zLs e).2).1)) (fun v W hb h=>by rw [show v=sv from h];exact (SF.row 1 (ins ssv)).st _ _ _ (jD.row hS) (s.up hb)) (fun _ _ h=>h.trans (zUX (Value.int .i64) (qL (zLs e).2).2.symm)))) (fun e W h=>absurd h e))<|oc (zD 40 ((!(yM N x))||(!(yM N z))) kJ iiz (fun e=>zJ [(43,wB (wC [.int .i64 (ssv.getD z.toNat 0)]).cf)] ((uI (ssv.getD z.toNat 0)).tS) (fmz ⟨fun v W h=>zI (c:=((!(yM N x))||(!(yM N z)))=false) (f:=wB (wC [.int .i64 (ssv.getD z.toNat 0)]).cf) e h,fnz⟩) (fun _ _ h _=>h) kJ (yG (C:=(wC [.int .i64 (ssv.getD z.toNat 0)]).cf) kJ iiz y4)) (fun e W h=>absurd h e))<|oc (zD 40 ((!(yM N x))||(!(yM N z))) kJ iiz (fun e=>zJ [(44,(uI (ssv.getD z.toNat 0)).tS)] ((uB (decide ((ssv.getD z.toNat 0)<0))).tS) (fmz ⟨fun v W h=>zI (c:=((!(yM N x))||(!(yM N z)))=false) (f:=(uI (ssv.getD z.toNat 0)).tS) e h,fnz⟩) (fun _ _ h _=>h) kJ (zN .i64 (ssv.getD z.toNat 0) 0 (decide ((ssv.getD z.toNat 0)<0)) iiz iiz rfl rfl)) (fun e W h=>absurd h e))<|oc (zX ((!(yM N x))||(!(yM N z))) iiz (fun e v W h=>jQ h e) (fun e v W h=>qS (zI e h) e))<|zE) fun a w4 s=> ?_
  refine zB rfl ?_
  have hb:=s.below
  replace hFr:=hFr.trans (hb.mono hFr.size)
  replace h11:=h11.below hb
  replace hG:=hG.below hb
  replace hC:=hC.below hb
  replace hS:=hS.below hb
  replace s:=s.anewB rfl rfl
  refine StS.cond s (((!(yM N x))||(!(yM N z)))||(decide ((ssv.getD z.toNat 0)<0))) iiz (fun e=> ?_) (fun e=> ?_)
  . have hres:yQ (grE N js fs) N x z=([],0,false):=by unfold yQ;rw [if_pos (by rw [ess];exact e)]
    refine zUP ?_
    replace s:=s.drop [10,12]
    refine zC 1 ((47, .u (fQN 0)):: []) hmix s kJ
      (oc (zM zF zNx (fun u0 W hb (h0:u0= .int .i64 0)=>zIt h0))<|zE) fun a w5 s=> ?_
    refine y6 (UF.eq (.slice none 0 0)) rfl s kJ iiz fun a w s=> ?_
    have hb:=s.below
    replace hFr:=hFr.trans (hb.mono hFr.size)
    replace h11:=h11.below hb
    replace hG:=hG.below hb
    replace hC:=hC.below hb
    replace hS:=hS.below hb
    refine zBL (g:=b11) (i:=0) (cap:=1) (z:=3) (e:=32) (CU.agg (fQN 0)) rfl s rfl rfl h11 (by simp) kJ (s.fct (.tmp 11)) (zFe (s.fct (.tmp 47))) (fun q hq=>by cases hq) fun w hF1 hk1 h11 s=> ?_
    replace hFr:=yV hFr hF1 (fun q hq=>by rw [hq];exact hb11)
    refine y6 (uB false) rfl s kJ iiz fun a w s=> ?_
    refine zB rfl ?_
    have hb:=s.below
    replace hFr:=hFr.trans (hb.mono hFr.size)
    replace h11:=h11.below hb
    replace s:=s.anewB rfl rfl
    refine zUT ?_
    obtain ⟨c11,g1,g2,g3⟩:=zHh h11
    replace s:=s.home rfl rfl hFr
    exact vG s rfl kJ (s.fct (.tmp 11)) g1 g2 ⟨_,_,_,rfl,by rw [hres,show a.tmps.getD 10 undef= .slice none 0 0 from s.fct (.tmp 10)];exact jD.nil _ _ _ _,by rw [hres];exact g3,by rw [hres];exact s.fct (.tmp 12)⟩
  . have hres0:=e
    rw [zUY] at e
    obtain ⟨hx,hz⟩:=zLs e.1
    have hzs:=zUV e.2
    have hCS:=zHa hGk hx
    rw [ecs,ess] at hCS
    obtain ⟨hxN,hxe⟩:=qL hx
    obtain ⟨hzN,hze⟩:=qL hz
    obtain ⟨xn,exn⟩: ∃k,x.toNat=k:=⟨_,rfl⟩
    obtain ⟨zn,ezn⟩: ∃k,z.toNat=k:=⟨_,rfl⟩
    rw [exn] at hxN hxe hCS
    rw [ezn] at hzN hze hzs
    rw [<-hxe, <-hze] at s
    obtain ⟨gc,capc,ec,hgc,hRc⟩:=zDx hC (by simp [hcl];omega)
    obtain ⟨gs,caps,es,hgs,hRs⟩:=zDx hS (by simp [hsl];omega)
    rw [show (qns csv).length=N by simp [hcl]] at ec
    rw [show (ins ssv).length=N by simp [hsl]] at es
    rw [ec,es] at s
    replace hC:=hRc
    replace hS:=hRs
    clear hRc hRs
    obtain ⟨s0,ho0,hs0,hs0N⟩:=hCS.of hzN oQ
    have hway:=zJX hGk hSy hxN hCS s0 zn hzN hs0 ho0
    have hres:yQ (grE N js fs) N x z=(jJ ((zn::zD9 (nxF (grE N js fs) N csv ssv) xn s0 zn).reverse),csv.getD zn 0,true):=by unfold yQ;rw [if_neg (by rw [ess,hres0];decide),ecs,ess,exn,ezn,hs0];rfl
    clear hres0 e
    refine zUQ ?_
    refine zUP ?_
    replace s:=s.drop [10]
    refine jM 3 ((48, .Z (uI (zn:Int)))::(49, .s (wE w4 3 1 [wC [.int .i64 (zn:Int)]]))::(10, .s (wE w4 3 1 [wC [.int .i64 (zn:Int)]])):: []) hmix s kJ
      (oc zA<|oc (zBF (fun u W hb (hu:u= .int .i64 (zn:Int))=>by subst hu;exact ⟨_,_,zQz _,(zKd _ _).toN hb.size rfl⟩))<|oc zG<|zE) fun a w6 s hr=> ?_
    refine zB rfl ?_
    obtain ⟨tv,e10⟩: ∃v,a.tmps.getD 10 undef=v:=⟨_,rfl⟩
    have hTd:=(hr (_,_) mz2)
    rw [show a.tmps.getD _ undef=tv from e10] at hTd
    replace s:=s.learn 10 _ e10
    have hne: ∀q_,tv.ownBlock=some q_->q_≠gs:=fun q_ hq=>by have h1:=(hTd.lt q_ hq).1;have h2:=hS.lt;omega
    replace hTd:jD w6 W.heap.size 3 1 tv (ins (jJ [zn])):=hTd.mono hFr.size
    have hb:=s.below
    replace hFr:=hFr.trans (hb.mono hFr.size)
    replace h11:=h11.below hb
    replace hG:=hG.below hb
    replace hC:=hC.below hb
    replace hS:=hS.below hb
    replace s:=s.anewB rfl rfl
    refine zUP ?_
    refine zUP ?_
    refine zC 2 ((50, .Z (uI (zn:Int)))::(16, .u (uI (zn:Int))):: []) hmix s kJ
      (oc zA<|oc zG<|zE) fun a w7 s=> ?_
    refine zB rfl ?_
    have hb:=s.below
    replace hFr:=hFr.trans (hb.mono hFr.size)
    replace h11:=h11.below hb
    replace hG:=hG.below hb
    replace hC:=hC.below hb
    replace hS:=hS.below hb
    replace hTd:=hTd.below hb
    replace s:=s.anewB rfl rfl
    refine zUU ?_
    refine yU (fun (y:Nat×Nat×List Nat×Value) a w=>(y.2.1<N/\ssv.getD y.2.1 0=(y.1:Int)/\Opt (grE N js fs) xn y.2.1 (csv.getD y.2.1 0) y.1/\y.2.2.1++zD9 (nxF (grE N js fs) N csv ssv) xn y.1 y.2.1=zn::zD9 (nxF (grE N js fs) N csv ssv) xn s0 zn/\y.2.2.1.length+y.1=s0+1)/\Below W.heap.size W w/\jK w b11 32 3 1 [CU.len 3]/\GM w gg cap vs (glN N (rds N js fs))/\jK w gc 32 3 capc (qns csv)/\jK w gs 3 1 caps (ins ssv)/\jD w W.heap.size 3 1 y.2.2.2 (ins (jJ y.2.2.1))/\(∀q_,y.2.2.2.ownBlock=some q_->q_≠gs)/\St w [(3, .u (uI (xn:Int))),(4, .u (uI (zn:Int))),(10, .u (UF.eq (y.2.2.2))),(11, .u (UF.eq (pO b11 0))),(13, .u (UF.eq (.slice (some ⟨gg,0,none⟩) N cap))),(14, .u (UF.eq (.slice (some ⟨gc,0,none⟩) N capc))),(15, .u (UF.eq (.slice (some ⟨gs,0,none⟩) N caps))),(16, .u (uI (y.2.1:Int)))] [] f10.ntmps [] a w) (fun y=>y.1) (s0,zn, [zn],tv) ⟨⟨hzN,hs0,ho0,rfl,Nat.add_comm _ _⟩,hFr,h11,hG,hC,hS,hTd,hne,s.keepK _ (fmz ⟨zJP,fmz ⟨zL8,fmz ⟨mz1,fmz ⟨mz6,fmz ⟨mz5,fmz ⟨mz4,fmz ⟨mz3,fmz ⟨.head _,fnz⟩⟩⟩⟩⟩⟩⟩⟩)⟩ fun y a w hx=> ?_
    clear hFr h11 hG hC hS hTd hne
    obtain ⟨⟨hat,hss,hop,hwy,hln⟩,hFr,h11,hG,hC,hS,hTd,hne,s⟩:=hx
    refine zUP ?_
    refine zUP ?_
    refine zC 3 ((51, .Z (uI (y.2.1:Int)))::(52, .Z (uI (xn:Int)))::(53, .u (uB ((y.2.1:Int) !=(xn:Int)))):: []) hmix s kJ
      (oc zA<|oc zA<|oc (zN .i64 (y.2.1:Int) (xn:Int) ((y.2.1:Int) !=(xn:Int)) iiz iiz rfl rfl)<|zE) fun a w8 s=> ?_
    refine zB rfl ?_
    have hb:=s.below
    replace hFr:=hFr.trans (hb.mono hFr.size)
    replace h11:=h11.below hb
    replace hG:=hG.below hb
    replace hC:=hC.below hb
    replace hS:=hS.below hb
    replace hTd:=hTd.below hb
    replace s:=s.anewB rfl rfl
    refine StS.cond s ((y.2.1:Int) !=(xn:Int)) iiz (fun e=> ?_) (fun e=> ?_)
    . have hax:y.2.1≠xn:=by intro h;rw [h] at e;simp at e
      obtain ⟨t,et⟩: ∃t,y.1=t+1:=by
        rcases hy1:y.1 with _|t
        . rw [hy1] at hop;exact absurd (zIv hop.1).1 hax
        . exact ⟨t,rfl⟩
      obtain ⟨hn1,-,-,hn4,hn5⟩:=hCS.nx hGk hSy hxN hat (s:=t) (by rw [hss,et]) (by rw [<-et];exact hop)
      have hs0N':=hs0N
      have hdeg:(zH (rds N js fs) y.2.1).length<=122:=by have h1:=zEW (rds N js fs) y.2.1;have h2:=zDj N js fs js.length;have h3:=hB.hj;unfold rds at h1 ⊢;omega
      refine zUQ ?_
      refine zUP ?_
      refine zUU ?_
      refine zUP ?_
      refine zC 3 ((58, .Z (UF.eq (.slice (some ⟨gg,0,none⟩) N cap)))::(59, .Z (uI (N:Int)))::(17, .u (uI (N:Int))):: []) hmix s kJ
        (oc zA<|oc (jY kJ (fun v W h=>⟨_,_,_,h,rfl⟩))<|oc zG<|zE) fun a w9 s=> ?_
      refine zB rfl ?_
      have hb:=s.below
      replace hFr:=hFr.trans (hb.mono hFr.size)
      replace h11:=h11.below hb
      replace hG:=hG.below hb
      replace hC:=hC.below hb
      replace hS:=hS.below hb
      replace hTd:=hTd.below hb
      replace s:=s.anewB rfl rfl
      refine zUP ?_
      refine zUP ?_
      have hgl_:=hG.row (n:=N) (zAj _ _).symm
      have hcv:y.2.1<vs.length:=by rw [hG.ln,zAj];exact hat
      have hrl:=hG.at (i:=y.2.1) (by rw [zAj];exact hat)
      rw [zDr _ hat] at hrl
      refine zC 6 ((60, .Z (UF.eq (.slice (some ⟨gg,0,none⟩) N cap)))::(61, .Z (uI (y.2.1:Int)))::(62, .s (wB (wC [(vs.getD y.2.1 (.slice none 0 0))]).cf))::(63, .u (UF.eq (vs.getD y.2.1 (.slice none 0 0))))::(64, .u (uI (((ros (zH (rds N js fs) y.2.1)).length:Nat):Int)))::(65, .u (uI 0)):: []) hmix s kJ
        (oc zA<|oc zA<|oc (zQ (z:=1) (Cs:=sls vs) (i:=y.2.1) (C:=wC [(vs.getD y.2.1 (.slice none 0 0))]) kJ (zEh hcv) (fun v W hb h=>(by rw [show v=(Value.slice (some ⟨gg,0,none⟩) N cap) from h];exact (SF.row 1 (sls vs)).st _ _ _ hgl_ (s.up hb))) iiz)<|oc (yG (C:=(wC [(vs.getD y.2.1 (.slice none 0 0))]).cf) kJ iiz y4)<|oc (jA (z:=4) (Cs:=ros (zH (rds N js fs) y.2.1)) kJ (fun v W hb h=>(by rw [show v=(vs.getD y.2.1 (.slice none 0 0)) from h];exact (SF.row 4 (ros (zH (rds N js fs) y.2.1))).st _ _ _ hrl (s.up hb))) (fun _=>rfl))<|oc zA<|zE) fun a w10 s=> ?_
      refine zB rfl ?_
      have hb:=s.below
      replace hFr:=hFr.trans (hb.mono hFr.size)
      replace h11:=h11.below hb
      replace hG:=hG.below hb
      replace hC:=hC.below hb
      replace hS:=hS.below hb
      replace hTd:=hTd.below hb
      replace s:=s.anewB rfl rfl
      refine zUU ?_
      refine yU (fun (q:Nat×Nat) a w=>q.1<=(zH (rds N js fs) y.2.1).length/\q.2=((zH (rds N js fs) y.2.1).take q.1).foldl (zDK csv ssv y.2.1) N/\q.2<=N/\Below W.heap.size W w/\jK w b11 32 3 1 [CU.len 3]/\GM w gg cap vs (glN N (rds N js fs))/\jK w gc 32 3 capc (qns csv)/\jK w gs 3 1 caps (ins ssv)/\jD w W.heap.size 3 1 y.2.2.2 (ins (jJ y.2.2.1))/\St w [(3, .u (uI (xn:Int))),(4, .u (uI (zn:Int))),(10, .u (UF.eq (y.2.2.2))),(11, .u (UF.eq (pO b11 0))),(13, .u (UF.eq (.slice (some ⟨gg,0,none⟩) N cap))),(14, .u (UF.eq (.slice (some ⟨gc,0,none⟩) N capc))),(15, .u (UF.eq (.slice (some ⟨gs,0,none⟩) N caps))),(16, .u (uI (y.2.1:Int))),(17, .u (uI (q.2:Int))),(63, .u (UF.eq (vs.getD y.2.1 (.slice none 0 0)))),(64, .u (uI (((ros (zH (rds N js fs) y.2.1)).length:Nat):Int))),(65, .u (uI (q.1:Int)))] [] f10.ntmps [] a w) (fun q=>(zH (rds N js fs) y.2.1).length - q.1) (0,N) ⟨zUZ _,rfl,Nat.le_refl _,hFr,h11,hG,hC,hS,hTd,s.keepK _ (fmz ⟨mz5,fmz ⟨mz6,fmz ⟨mz7,fmz ⟨mz8,fmz ⟨mz9,fmz ⟨zHJ,fmz ⟨zJP,fmz ⟨zL8,fmz ⟨mz3,fmz ⟨.head _,fmz ⟨mz1,fmz ⟨mz2,fnz⟩⟩⟩⟩⟩⟩⟩⟩⟩⟩⟩⟩)⟩ fun q a w hx=> ?_
      clear hFr h11 hG hC hS hTd
      obtain ⟨hk,hbq,hqN,hFr,h11,hG,hC,hS,hTd,s⟩:=hx
      refine zUP ?_
      refine zC 1 ((66, .u (uB (decide ((q.1:Int)<(((ros (zH (rds N js fs) y.2.1)).length:Nat):Int))))):: []) hmix s kJ
        (oc (zN .i64 (q.1:Int) (((ros (zH (rds N js fs) y.2.1)).length:Nat):Int) (decide ((q.1:Int)<(((ros (zH (rds N js fs) y.2.1)).length:Nat):Int))) iiz iiz rfl rfl)<|zE) fun a w11 s=> ?_
      refine zB rfl ?_
      have hb:=s.below
      replace hFr:=hFr.trans (hb.mono hFr.size)
      replace h11:=h11.below hb
      replace hG:=hG.below hb
      replace hC:=hC.below hb
      replace hS:=hS.below hb
      replace hTd:=hTd.below hb
      replace s:=s.anewB rfl rfl
      refine zUP ?_
      refine StS.cond s (decide ((q.1:Int)<(((ros (zH (rds N js fs) y.2.1)).length:Nat):Int))) iiz (fun e=> ?_) (fun e=> ?_)
      . have hkl:q.1<(zH (rds N js fs) y.2.1).length:=by have h7:=zU1 e;simp only [zUR] at h7;omega
        have hrm:((zH (rds N js fs) y.2.1).getD q.1 (0,0))∈grE N js fs y.2.1:=by show ((zH (rds N js fs) y.2.1).getD q.1 (0,0))∈(zH (rds N js fs) y.2.1);rw [zU5,zU2 hkl];exact zU3 hkl
        have hrn:((zH (rds N js fs) y.2.1).getD q.1 (0,0)).1<N:=(hGk _ hat _ hrm).1
        have hqb:QB ((zH (rds N js fs) y.2.1).getD q.1 (0,0)).2 1:=hB.qr hrm
        have hrsl:y.2.1<ssv.length/\((zH (rds N js fs) y.2.1).getD q.1 (0,0)).1<ssv.length/\y.2.1<csv.length/\((zH (rds N js fs) y.2.1).getD q.1 (0,0)).1<csv.length:=by rw [hsl,hcl];exact ⟨hat,hrn,hat,hrn⟩
        have hqa:QB (csv.getD y.2.1 0) 1:=hB.qb hop.1 (by have:=hB.hN;omega)
        obtain ⟨s',hop',hss',hs'N⟩:=hCS.rch hGk hxN (Rch.cons hop.1 (b:=((zH (rds N js fs) y.2.1).getD q.1 (0,0)).1) (f:=((zH (rds N js fs) y.2.1).getD q.1 (0,0)).2) hrm)
        have hqc:QB (csv.getD ((zH (rds N js fs) y.2.1).getD q.1 (0,0)).1 0) 1:=hB.qb hop'.1 (by have:=hB.hN;omega)
        have hqx:QB (csv.getD ((zH (rds N js fs) y.2.1).getD q.1 (0,0)).1 0+((zH (rds N js fs) y.2.1).getD q.1 (0,0)).2) 1:=hB.qb (Rch.cons hop'.1 (b:=y.2.1) (f:=((zH (rds N js fs) y.2.1).getD q.1 (0,0)).2) (hSy _ _ _ hrm)) (by have:=hB.hN;omega)
        refine zUQ ?_
        refine zUP ?_
        refine zUU ?_
        refine zUP ?_
        have hrl:=hG.at (i:=y.2.1) (by rw [zAj];exact hat)
        rw [zDr _ hat] at hrl
        refine zC 2 ((67, .Y (fRo ((zH (rds N js fs) y.2.1).getD q.1 (0,0))))::(68, .u (fRo ((zH (rds N js fs) y.2.1).getD q.1 (0,0)))):: []) hmix s kJ
          (oc (zQ (z:=4) (Cs:=ros (zH (rds N js fs) y.2.1)) (i:=q.1) (C:=CU.agg (fRo ((zH (rds N js fs) y.2.1).getD q.1 (0,0)))) kJ (zHx hkl) (fun v W hb h=>(by rw [show v=(vs.getD y.2.1 (.slice none 0 0)) from h];exact (SF.row 4 (ros (zH (rds N js fs) y.2.1))).st _ _ _ hrl (s.up hb))) iiz)<|oc (yP (f:=fRo ((zH (rds N js fs) y.2.1).getD q.1 (0,0))) 4 kJ (hz:=zKq _))<|zE) fun a w12 s=> ?_
        refine yS (CU.len 4) (cs:= [.int .i64 0, .bool false, .slice none 0 0, .slice none 0 0]) kJ rfl s kJ (fun W=>rfl) rfl fun b19 a w s=> ?_
        refine yJ (CU.agg (fRo ((zH (rds N js fs) y.2.1).getD q.1 (0,0)))) ((fRo ((zH (rds N js fs) y.2.1).getD q.1 (0,0))).tS) rfl s kJ rfl rfl rfl iiz iiz zFH fun a w s=> ?_
        refine zB rfl ?_
        have hb:=s.below
        replace hFr:=hFr.trans (hb.mono hFr.size)
        replace h11:=h11.below hb
        replace hG:=hG.below hb
        replace hC:=hC.below hb
        replace hS:=hS.below hb
        replace hTd:=hTd.below hb
        replace s:StS _ _ _ [⟨19,67,CU.agg (fRo ((zH (rds N js fs) y.2.1).getD q.1 (0,0))),b19,true⟩] _ _ _ _:=s.freeze
        replace s:=s.anewB rfl rfl
        refine zUP ?_
        have hsr:=hS.row (n:=N) (by simp [hsl])
        have hcr:=hC.row (n:=N) (by simp [hcl])
        refine zC 34 ((69, .Z (UF.eq (.slice (some ⟨gs,0,none⟩) N caps)))::(70, .X (fRo ((zH (rds N js fs) y.2.1).getD q.1 (0,0))) 0)::(71, .Z (uI ((((zH (rds N js fs) y.2.1).getD q.1 (0,0)).1:Nat):Int)))::(72, .s (wB (wC [.int .i64 (ssv.getD ((zH (rds N js fs) y.2.1).getD q.1 (0,0)).1 0)]).cf))::(73, .Z (uI (ssv.getD ((zH (rds N js fs) y.2.1).getD q.1 (0,0)).1 0)))::(74, .Z (UF.eq (.slice (some ⟨gs,0,none⟩) N caps)))::(75, .Z (uI (y.2.1:Int)))::(76, .s (wB (wC [.int .i64 (ssv.getD y.2.1 0)]).cf))::(77, .Z (uI (ssv.getD y.2.1 0)))::(78, .Z (uI (ssv.getD y.2.1 0 - 1)))::(79, .Z (uB ((ssv.getD ((zH (rds N js fs) y.2.1).getD q.1 (0,0)).1 0)==(ssv.getD y.2.1 0 - 1))))::(80, .Z (uB ((ssv.getD ((zH (rds N js fs) y.2.1).getD q.1 (0,0)).1 0)==(ssv.getD y.2.1 0 - 1))))::(81, .s (SF.imp (((ssv.getD ((zH (rds N js fs) y.2.1).getD q.1 (0,0)).1 0)==(ssv.getD y.2.1 0 - 1))=true) (wB ((CU.agg (fRo ((zH (rds N js fs) y.2.1).getD q.1 (0,0)))).cf.at 0))))::(82, .s (SF.imp (((ssv.getD ((zH (rds N js fs) y.2.1).getD q.1 (0,0)).1 0)==(ssv.getD y.2.1 0 - 1))=true) ((uI ((((zH (rds N js fs) y.2.1).getD q.1 (0,0)).1:Nat):Int)).tS)))::(83, .s (SF.imp (((ssv.getD ((zH (rds N js fs) y.2.1).getD q.1 (0,0)).1 0)==(ssv.getD y.2.1 0 - 1))=true) ((uI (q.2:Int)).tS)))::(84, .s (SF.imp (((ssv.getD ((zH (rds N js fs) y.2.1).getD q.1 (0,0)).1 0)==(ssv.getD y.2.1 0 - 1))=true) ((uB (decide (((((zH (rds N js fs) y.2.1).getD q.1 (0,0)).1:Nat):Int)<(q.2:Int)))).tS)))::(85, .Z (uB (((ssv.getD ((zH (rds N js fs) y.2.1).getD q.1 (0,0)).1 0)==(ssv.getD y.2.1 0 - 1))&&(decide (((((zH (rds N js fs) y.2.1).getD q.1 (0,0)).1:Nat):Int)<(q.2:Int))))))::(86, .Z (uB (((ssv.getD ((zH (rds N js fs) y.2.1).getD q.1 (0,0)).1 0)==(ssv.getD y.2.1 0 - 1))&&(decide (((((zH (rds N js fs) y.2.1).getD q.1 (0,0)).1:Nat):Int)<(q.2:Int))))))::(87, .s (SF.imp ((((ssv.getD ((zH (rds N js fs) y.2.1).getD q.1 (0,0)).1 0)==(ssv.getD y.2.1 0 - 1))&&(decide (((((zH (rds N js fs) y.2.1).getD q.1 (0,0)).1:Nat):Int)<(q.2:Int))))=true) ((UF.eq (.slice (some ⟨gc,0,none⟩) N capc)).tS)))::(88, .s (SF.imp ((((ssv.getD ((zH (rds N js fs) y.2.1).getD q.1 (0,0)).1 0)==(ssv.getD y.2.1 0 - 1))&&(decide (((((zH (rds N js fs) y.2.1).getD q.1 (0,0)).1:Nat):Int)<(q.2:Int))))=true) (wB ((CU.agg (fRo ((zH (rds N js fs) y.2.1).getD q.1 (0,0)))).cf.at 0))))::(89, .s (SF.imp ((((ssv.getD ((zH (rds N js fs) y.2.1).getD q.1 (0,0)).1 0)==(ssv.getD y.2.1 0 - 1))&&(decide (((((zH (rds N js fs) y.2.1).getD q.1 (0,0)).1:Nat):Int)<(q.2:Int))))=true) ((uI ((((zH (rds N js fs) y.2.1).getD q.1 (0,0)).1:Nat):Int)).tS)))::(90, .s (SF.imp ((((ssv.getD ((zH (rds N js fs) y.2.1).getD q.1 (0,0)).1 0)==(ssv.getD y.2.1 0 - 1))&&(decide (((((zH (rds N js fs) y.2.1).getD q.1 (0,0)).1:Nat):Int)<(q.2:Int))))=true) (wB (cg (fQN (csv.getD ((zH (rds N js fs) y.2.1).getD q.1 (0,0)).1 0))))))::(91, .s (SF.imp ((((ssv.getD ((zH (rds N js fs) y.2.1).getD q.1 (0,0)).1 0)==(ssv.getD y.2.1 0 - 1))&&(decide (((((zH (rds N js fs) y.2.1).getD q.1 (0,0)).1:Nat):Int)<(q.2:Int))))=true) ((fQN (csv.getD ((zH (rds N js fs) y.2.1).getD q.1 (0,0)).1 0)).tS)))::(92, .s (SF.imp ((((ssv.getD ((zH (rds N js fs) y.2.1).getD q.1 (0,0)).1 0)==(ssv.getD y.2.1 0 - 1))&&(decide (((((zH (rds N js fs) y.2.1).getD q.1 (0,0)).1:Nat):Int)<(q.2:Int))))=true) (wB ((CU.agg (fRo ((zH (rds N js fs) y.2.1).getD q.1 (0,0)))).cf.at 1))))::(93, .s (SF.imp ((((ssv.getD ((zH (rds N js fs) y.2.1).getD q.1 (0,0)).1 0)==(ssv.getD y.2.1 0 - 1))&&(decide (((((zH (rds N js fs) y.2.1).getD q.1 (0,0)).1:Nat):Int)<(q.2:Int))))=true) ((fQN (((zH (rds N js fs) y.2.1).getD q.1 (0,0)).2)).tS)))::(94, .s (SF.imp ((((ssv.getD ((zH (rds N js fs) y.2.1).getD q.1 (0,0)).1 0)==(ssv.getD y.2.1 0 - 1))&&(decide (((((zH (rds N js fs) y.2.1).getD q.1 (0,0)).1:Nat):Int)<(q.2:Int))))=true) (fQS 1 [csv.getD ((zH (rds N js fs) y.2.1).getD q.1 (0,0)).1 0,((zH (rds N js fs) y.2.1).getD q.1 (0,0)).2])))::(95, .s (SF.imp ((((ssv.getD ((zH (rds N js fs) y.2.1).getD q.1 (0,0)).1 0)==(ssv.getD y.2.1 0 - 1))&&(decide (((((zH (rds N js fs) y.2.1).getD q.1 (0,0)).1:Nat):Int)<(q.2:Int))))=true) ((fQN (csv.getD ((zH (rds N js fs) y.2.1).getD q.1 (0,0)).1 0+((zH (rds N js fs) y.2.1).getD q.1 (0,0)).2)).tS)))::(96, .s (SF.imp ((((ssv.getD ((zH (rds N js fs) y.2.1).getD q.1 (0,0)).1 0)==(ssv.getD y.2.1 0 - 1))&&(decide (((((zH (rds N js fs) y.2.1).getD q.1 (0,0)).1:Nat):Int)<(q.2:Int))))=true) ((UF.eq (.slice (some ⟨gc,0,none⟩) N capc)).tS)))::(97, .s (SF.imp ((((ssv.getD ((zH (rds N js fs) y.2.1).getD q.1 (0,0)).1 0)==(ssv.getD y.2.1 0 - 1))&&(decide (((((zH (rds N js fs) y.2.1).getD q.1 (0,0)).1:Nat):Int)<(q.2:Int))))=true) ((uI (y.2.1:Int)).tS)))::(98, .s (SF.imp ((((ssv.getD ((zH (rds N js fs) y.2.1).getD q.1 (0,0)).1 0)==(ssv.getD y.2.1 0 - 1))&&(decide (((((zH (rds N js fs) y.2.1).getD q.1 (0,0)).1:Nat):Int)<(q.2:Int))))=true) (wB (cg (fQN (csv.getD y.2.1 0))))))::(99, .s (SF.imp ((((ssv.getD ((zH (rds N js fs) y.2.1).getD q.1 (0,0)).1 0)==(ssv.getD y.2.1 0 - 1))&&(decide (((((zH (rds N js fs) y.2.1).getD q.1 (0,0)).1:Nat):Int)<(q.2:Int))))=true) ((fQN (csv.getD y.2.1 0)).tS)))::(100, .s (SF.imp ((((ssv.getD ((zH (rds N js fs) y.2.1).getD q.1 (0,0)).1 0)==(ssv.getD y.2.1 0 - 1))&&(decide (((((zH (rds N js fs) y.2.1).getD q.1 (0,0)).1:Nat):Int)<(q.2:Int))))=true) ((uI (qsg (csv.getD ((zH (rds N js fs) y.2.1).getD q.1 (0,0)).1 0+((zH (rds N js fs) y.2.1).getD q.1 (0,0)).2) (csv.getD y.2.1 0))).tS)))::(101, .s (SF.imp ((((ssv.getD ((zH (rds N js fs) y.2.1).getD q.1 (0,0)).1 0)==(ssv.getD y.2.1 0 - 1))&&(decide (((((zH (rds N js fs) y.2.1).getD q.1 (0,0)).1:Nat):Int)<(q.2:Int))))=true) ((uB ((qsg (csv.getD ((zH (rds N js fs) y.2.1).getD q.1 (0,0)).1 0+((zH (rds N js fs) y.2.1).getD q.1 (0,0)).2) (csv.getD y.2.1 0))==0)).tS)))::(102, .u (uB ((((ssv.getD ((zH (rds N js fs) y.2.1).getD q.1 (0,0)).1 0)==(ssv.getD y.2.1 0 - 1))&&(decide (((((zH (rds N js fs) y.2.1).getD q.1 (0,0)).1:Nat):Int)<(q.2:Int))))&&((qsg (csv.getD ((zH (rds N js fs) y.2.1).getD q.1 (0,0)).1 0+((zH (rds N js fs) y.2.1).getD q.1 (0,0)).2) (csv.getD y.2.1 0))==0)))):: []) hmix s kJ
          (oc zA<|oc (zS (C:=cg (fRo ((zH (rds N js fs) y.2.1).getD q.1 (0,0)))) 0 kJ)<|oc (yN (C:=cg (fRo ((zH (rds N js fs) y.2.1).getD q.1 (0,0)))) (k:=0) kJ (h:=zFG))<|oc (zQ (z:=1) (Cs:=ins ssv) (i:=((zH (rds N js fs) y.2.1).getD q.1 (0,0)).1) (C:=wC [.int .i64 (ssv.getD ((zH (rds N js fs) y.2.1).getD q.1 (0,0)).1 0)]) kJ (jI hrsl.2.1) (fun v W hb h=>(by rw [show v=(Value.slice (some ⟨gs,0,none⟩) N caps) from h];exact (SF.row 1 (ins ssv)).st _ _ _ hsr (s.up hb))) iiz)<|oc (yG (C:=(wC [.int .i64 (ssv.getD ((zH (rds N js fs) y.2.1).getD q.1 (0,0)).1 0)]).cf) kJ iiz y4)<|oc zA<|oc zA<|oc (zQ (z:=1) (Cs:=ins ssv) (i:=y.2.1) (C:=wC [.int .i64 (ssv.getD y.2.1 0)]) kJ (jI hrsl.1) (fun v W hb h=>(by rw [show v=(Value.slice (some ⟨gs,0,none⟩) N caps) from h];exact (SF.row 1 (ins ssv)).st _ _ _ hsr (s.up hb))) iiz)<|oc (yG (C:=(wC [.int .i64 (ssv.getD y.2.1 0)]).cf) kJ iiz y4)<|oc (zAF .i64 (ssv.getD y.2.1 0) 1 (ssv.getD y.2.1 0 - 1) iiz iiz (zA3 _ oQ oQ))<|oc (zN .i64 (ssv.getD ((zH (rds N js fs) y.2.1).getD q.1 (0,0)).1 0) (ssv.getD y.2.1 0 - 1) ((ssv.getD ((zH (rds N js fs) y.2.1).getD q.1 (0,0)).1 0)==(ssv.getD y.2.1 0 - 1)) iiz iiz rfl rfl)<|oc zA<|oc (zD 80 ((ssv.getD ((zH (rds N js fs) y.2.1).getD q.1 (0,0)).1 0)==(ssv.getD y.2.1 0 - 1)) kJ iiz (fun e=>zJ [] (wB ((CU.agg (fRo ((zH (rds N js fs) y.2.1).getD q.1 (0,0)))).cf.at 0)) fnz (fun _ _ h _=>h) kJ (zS (C:=cg (fRo ((zH (rds N js fs) y.2.1).getD q.1 (0,0)))) 0 kJ)) (fun e W h=>absurd h e))<|oc (zD 80 ((ssv.getD ((zH (rds N js fs) y.2.1).getD q.1 (0,0)).1 0)==(ssv.getD y.2.1 0 - 1)) kJ iiz (fun e=>zJ [(81,wB ((CU.agg (fRo ((zH (rds N js fs) y.2.1).getD q.1 (0,0)))).cf.at 0))] ((uI ((((zH (rds N js fs) y.2.1).getD q.1 (0,0)).1:Nat):Int)).tS) (fmz ⟨fun v W h=>zI (c:=((ssv.getD ((zH (rds N js fs) y.2.1).getD q.1 (0,0)).1 0)==(ssv.getD y.2.1 0 - 1))=true) (f:=wB ((CU.agg (fRo ((zH (rds N js fs) y.2.1).getD q.1 (0,0)))).cf.at 0)) e h,fnz⟩) (fun _ _ h _=>h) kJ (yN (C:=cg (fRo ((zH (rds N js fs) y.2.1).getD q.1 (0,0)))) (k:=0) kJ (h:=zFG))) (fun e W h=>absurd h e))<|oc (zD 80 ((ssv.getD ((zH (rds N js fs) y.2.1).getD q.1 (0,0)).1 0)==(ssv.getD y.2.1 0 - 1)) kJ iiz (fun e=>zJ [] ((uI (q.2:Int)).tS) fnz (fun _ _ h _=>h) kJ zA) (fun e W h=>absurd h e))<|oc (zD 80 ((ssv.getD ((zH (rds N js fs) y.2.1).getD q.1 (0,0)).1 0)==(ssv.getD y.2.1 0 - 1)) kJ iiz (fun e=>zJ [(82,(uI ((((zH (rds N js fs) y.2.1).getD q.1 (0,0)).1:Nat):Int)).tS),(83,(uI (q.2:Int)).tS)] ((uB (decide (((((zH (rds N js fs) y.2.1).getD q.1 (0,0)).1:Nat):Int)<(q.2:Int)))).tS) (fmz ⟨fun v W h=>zI (c:=((ssv.getD ((zH (rds N js fs) y.2.1).getD q.1 (0,0)).1 0)==(ssv.getD y.2.1 0 - 1))=true) (f:=(uI ((((zH (rds N js fs) y.2.1).getD q.1 (0,0)).1:Nat):Int)).tS) e h,fmz ⟨fun v W h=>zI (c:=((ssv.getD ((zH (rds N js fs) y.2.1).getD q.1 (0,0)).1 0)==(ssv.getD y.2.1 0 - 1))=true) (f:=(uI (q.2:Int)).tS) e h,fnz⟩⟩) (fun _ _ h _=>h) kJ (zN .i64 ((((zH (rds N js fs) y.2.1).getD q.1 (0,0)).1:Nat):Int) (q.2:Int) (decide (((((zH (rds N js fs) y.2.1).getD q.1 (0,0)).1:Nat):Int)<(q.2:Int))) iiz iiz rfl rfl)) (fun e W h=>absurd h e))<|oc (zX ((ssv.getD ((zH (rds N js fs) y.2.1).getD q.1 (0,0)).1 0)==(ssv.getD y.2.1 0 - 1)) iiz (fun e v W h=>zBR (zI e h) e) (fun e v W h=>zBk h e))<|oc zA<|oc (zD 86 (((ssv.getD ((zH (rds N js fs) y.2.1).getD q.1 (0,0)).1 0)==(ssv.getD y.2.1 0 - 1))&&(decide (((((zH (rds N js fs) y.2.1).getD q.1 (0,0)).1:Nat):Int)<(q.2:Int)))) kJ iiz (fun e=>zJ [] ((UF.eq (.slice (some ⟨gc,0,none⟩) N capc)).tS) fnz (fun _ _ h _=>h) kJ zA) (fun e W h=>absurd h e))<|oc (zD 86 (((ssv.getD ((zH (rds N js fs) y.2.1).getD q.1 (0,0)).1 0)==(ssv.getD y.2.1 0 - 1))&&(decide (((((zH (rds N js fs) y.2.1).getD q.1 (0,0)).1:Nat):Int)<(q.2:Int)))) kJ iiz (fun e=>zJ [] (wB ((CU.agg (fRo ((zH (rds N js fs) y.2.1).getD q.1 (0,0)))).cf.at 0)) fnz (fun _ _ h _=>h) kJ (zS (C:=cg (fRo ((zH (rds N js fs) y.2.1).getD q.1 (0,0)))) 0 kJ)) (fun e W h=>absurd h e))<|oc (zD 86 (((ssv.getD ((zH (rds N js fs) y.2.1).getD q.1 (0,0)).1 0)==(ssv.getD y.2.1 0 - 1))&&(decide (((((zH (rds N js fs) y.2.1).getD q.1 (0,0)).1:Nat):Int)<(q.2:Int)))) kJ iiz (fun e=>zJ [(88,wB ((CU.agg (fRo ((zH (rds N js fs) y.2.1).getD q.1 (0,0)))).cf.at 0))] ((uI ((((zH (rds N js fs) y.2.1).getD q.1 (0,0)).1:Nat):Int)).tS) (fmz ⟨fun v W h=>zI (c:=(((ssv.getD ((zH (rds N js fs) y.2.1).getD q.1 (0,0)).1 0)==(ssv.getD y.2.1 0 - 1))&&(decide (((((zH (rds N js fs) y.2.1).getD q.1 (0,0)).1:Nat):Int)<(q.2:Int))))=true) (f:=wB ((CU.agg (fRo ((zH (rds N js fs) y.2.1).getD q.1 (0,0)))).cf.at 0)) e h,fnz⟩) (fun _ _ h _=>h) kJ (yN (C:=cg (fRo ((zH (rds N js fs) y.2.1).getD q.1 (0,0)))) (k:=0) kJ (h:=zFG))) (fun e W h=>absurd h e))<|oc (zD 86 (((ssv.getD ((zH (rds N js fs) y.2.1).getD q.1 (0,0)).1 0)==(ssv.getD y.2.1 0 - 1))&&(decide (((((zH (rds N js fs) y.2.1).getD q.1 (0,0)).1:Nat):Int)<(q.2:Int)))) kJ iiz (fun e=>zJ [(87,(UF.eq (.slice (some ⟨gc,0,none⟩) N capc)).tS),(89,(uI ((((zH (rds N js fs) y.2.1).getD q.1 (0,0)).1:Nat):Int)).tS)] (wB (cg (fQN (csv.getD ((zH (rds N js fs) y.2.1).getD q.1 (0,0)).1 0)))) (fmz ⟨fun v W h=>zI (c:=(((ssv.getD ((zH (rds N js fs) y.2.1).getD q.1 (0,0)).1 0)==(ssv.getD y.2.1 0 - 1))&&(decide (((((zH (rds N js fs) y.2.1).getD q.1 (0,0)).1:Nat):Int)<(q.2:Int))))=true) (f:=(UF.eq (.slice (some ⟨gc,0,none⟩) N capc)).tS) e h,fmz ⟨fun v W h=>zI (c:=(((ssv.getD ((zH (rds N js fs) y.2.1).getD q.1 (0,0)).1 0)==(ssv.getD y.2.1 0 - 1))&&(decide (((((zH (rds N js fs) y.2.1).getD q.1 (0,0)).1:Nat):Int)<(q.2:Int))))=true) (f:=(uI ((((zH (rds N js fs) y.2.1).getD q.1 (0,0)).1:Nat):Int)).tS) e h,fnz⟩⟩) (fun _ _ h _=>h) kJ (zQ (z:=3) (Cs:=qns csv) (i:=((zH (rds N js fs) y.2.1).getD q.1 (0,0)).1) (C:=CU.agg (fQN (csv.getD ((zH (rds N js fs) y.2.1).getD q.1 (0,0)).1 0))) kJ (zHD hrsl.2.2.2) (fun v W hb h=>(by rw [show v=(Value.slice (some ⟨gc,0,none⟩) N capc) from h];exact (SF.row 3 (qns csv)).st _ _ _ hcr (s.up hb))) iiz)) (fun e W h=>absurd h e))<|oc (zD 86 (((ssv.getD ((zH (rds N js fs) y.2.1).getD q.1 (0,0)).1 0)==(ssv.getD y.2.1 0 - 1))&&(decide (((((zH (rds N js fs) y.2.1).getD q.1 (0,0)).1:Nat):Int)<(q.2:Int)))) kJ iiz (fun e=>zJ [(90,wB (cg (fQN (csv.getD ((zH (rds N js fs) y.2.1).getD q.1 (0,0)).1 0))))] ((fQN (csv.getD ((zH (rds N js fs) y.2.1).getD q.1 (0,0)).1 0)).tS) (fmz ⟨fun v W h=>zI (c:=(((ssv.getD ((zH (rds N js fs) y.2.1).getD q.1 (0,0)).1 0)==(ssv.getD y.2.1 0 - 1))&&(decide (((((zH (rds N js fs) y.2.1).getD q.1 (0,0)).1:Nat):Int)<(q.2:Int))))=true) (f:=wB (cg (fQN (csv.getD ((zH (rds N js fs) y.2.1).getD q.1 (0,0)).1 0)))) e h,fnz⟩) (fun _ _ h _=>h) kJ (yP (f:=fQN (csv.getD ((zH (rds N js fs) y.2.1).getD q.1 (0,0)).1 0)) 3 kJ (hz:=qJ _))) (fun e W h=>absurd h e))<|oc (zD 86 (((ssv.getD ((zH (rds N js fs) y.2.1).getD q.1 (0,0)).1 0)==(ssv.getD y.2.1 0 - 1))&&(decide (((((zH (rds N js fs) y.2.1).getD q.1 (0,0)).1:Nat):Int)<(q.2:Int)))) kJ iiz (fun e=>zJ [] (wB ((CU.agg (fRo ((zH (rds N js fs) y.2.1).getD q.1 (0,0)))).cf.at 1)) fnz (fun _ _ h _=>h) kJ (zS (C:=cg (fRo ((zH (rds N js fs) y.2.1).getD q.1 (0,0)))) 1 kJ)) (fun e W h=>absurd h e))<|oc (zD 86 (((ssv.getD ((zH (rds N js fs) y.2.1).getD q.1 (0,0)).1 0)==(ssv.getD y.2.1 0 - 1))&&(decide (((((zH (rds N js fs) y.2.1).getD q.1 (0,0)).1:Nat):Int)<(q.2:Int)))) kJ iiz (fun e=>zJ [(92,wB ((CU.agg (fRo ((zH (rds N js fs) y.2.1).getD q.1 (0,0)))).cf.at 1))] ((fQN (((zH (rds N js fs) y.2.1).getD q.1 (0,0)).2)).tS) (fmz ⟨fun v W h=>zI (c:=(((ssv.getD ((zH (rds N js fs) y.2.1).getD q.1 (0,0)).1 0)==(ssv.getD y.2.1 0 - 1))&&(decide (((((zH (rds N js fs) y.2.1).getD q.1 (0,0)).1:Nat):Int)<(q.2:Int))))=true) (f:=wB ((CU.agg (fRo ((zH (rds N js fs) y.2.1).getD q.1 (0,0)))).cf.at 1)) e h,fnz⟩) (fun _ _ h _=>h) kJ (zAw (C:=cg (fRo ((zH (rds N js fs) y.2.1).getD q.1 (0,0)))) (k:=1) 3 kJ (h:=zN4))) (fun e W h=>absurd h e))<|oc (zD 86 (((ssv.getD ((zH (rds N js fs) y.2.1).getD q.1 (0,0)).1 0)==(ssv.getD y.2.1 0 - 1))&&(decide (((((zH (rds N js fs) y.2.1).getD q.1 (0,0)).1:Nat):Int)<(q.2:Int)))) kJ iiz (fun e=>zJ [(91,(fQN (csv.getD ((zH (rds N js fs) y.2.1).getD q.1 (0,0)).1 0)).tS),(93,(fQN (((zH (rds N js fs) y.2.1).getD q.1 (0,0)).2)).tS)] (fQS 1 [csv.getD ((zH (rds N js fs) y.2.1).getD q.1 (0,0)).1 0,((zH (rds N js fs) y.2.1).getD q.1 (0,0)).2]) (fmz ⟨fun v W h=>zI (c:=(((ssv.getD ((zH (rds N js fs) y.2.1).getD q.1 (0,0)).1 0)==(ssv.getD y.2.1 0 - 1))&&(decide (((((zH (rds N js fs) y.2.1).getD q.1 (0,0)).1:Nat):Int)<(q.2:Int))))=true) (f:=(fQN (csv.getD ((zH (rds N js fs) y.2.1).getD q.1 (0,0)).1 0)).tS) e h,fmz ⟨fun v W h=>zI (c:=(((ssv.getD ((zH (rds N js fs) y.2.1).getD q.1 (0,0)).1 0)==(ssv.getD y.2.1 0 - 1))&&(decide (((((zH (rds N js fs) y.2.1).getD q.1 (0,0)).1:Nat):Int)<(q.2:Int))))=true) (f:=(fQN (((zH (rds N js fs) y.2.1).getD q.1 (0,0)).2)).tS) e h,fnz⟩⟩) (fun _ _ h _=>h) kJ (qK (fun u v W (hu:QNp (csv.getD ((zH (rds N js fs) y.2.1).getD q.1 (0,0)).1 0) u W) (hv:QNp (((zH (rds N js fs) y.2.1).getD q.1 (0,0)).2) v W)=>zKb (m:=1) (wI hu hqc) (wI hv hqb)))) (fun e W h=>absurd h e))<|oc (zD 86 (((ssv.getD ((zH (rds N js fs) y.2.1).getD q.1 (0,0)).1 0)==(ssv.getD y.2.1 0 - 1))&&(decide (((((zH (rds N js fs) y.2.1).getD q.1 (0,0)).1:Nat):Int)<(q.2:Int)))) kJ iiz (fun e=>zJ [(94,fQS 1 [csv.getD ((zH (rds N js fs) y.2.1).getD q.1 (0,0)).1 0,((zH (rds N js fs) y.2.1).getD q.1 (0,0)).2])] ((fQN (csv.getD ((zH (rds N js fs) y.2.1).getD q.1 (0,0)).1 0+((zH (rds N js fs) y.2.1).getD q.1 (0,0)).2)).tS) (fmz ⟨fun v W h=>zI (c:=(((ssv.getD ((zH (rds N js fs) y.2.1).getD q.1 (0,0)).1 0)==(ssv.getD y.2.1 0 - 1))&&(decide (((((zH (rds N js fs) y.2.1).getD q.1 (0,0)).1:Nat):Int)<(q.2:Int))))=true) (f:=fQS 1 [csv.getD ((zH (rds N js fs) y.2.1).getD q.1 (0,0)).1 0,((zH (rds N js fs) y.2.1).getD q.1 (0,0)).2]) e h,fnz⟩) (fun _ _ h _=>h) kJ (zM zF zRg (fun u0 W hb (h0:(fQS 1 [csv.getD ((zH (rds N js fs) y.2.1).getD q.1 (0,0)).1 0,((zH (rds N js fs) y.2.1).getD q.1 (0,0)).2]).p u0 W)=>zKx (m:=1) (p:=csv.getD ((zH (rds N js fs) y.2.1).getD q.1 (0,0)).1 0) (q:=((zH (rds N js fs) y.2.1).getD q.1 (0,0)).2) h0 hqc hqb dC ((hT.below hFr).below (s.up hb))))) (fun e W h=>absurd h e))<|oc (zD 86 (((ssv.getD ((zH (rds N js fs) y.2.1).getD q.1 (0,0)).1 0)==(ssv.getD y.2.1 0 - 1))&&(decide (((((zH (rds N js fs) y.2.1).getD q.1 (0,0)).1:Nat):Int)<(q.2:Int)))) kJ iiz (fun e=>zJ [] ((UF.eq (.slice (some ⟨gc,0,none⟩) N capc)).tS) fnz (fun _ _ h _=>h) kJ zA) (fun e W h=>absurd h e))<|oc (zD 86 (((ssv.getD ((zH (rds N js fs) y.2.1).getD q.1 (0,0)).1 0)==(ssv.getD y.2.1 0 - 1))&&(decide (((((zH (rds N js fs) y.2.1).getD q.1 (0,0)).1:Nat):Int)<(q.2:Int)))) kJ iiz (fun e=>zJ [] ((uI (y.2.1:Int)).tS) fnz (fun _ _ h _=>h) kJ zA) (fun e W h=>absurd h e))<|oc (zD 86 (((ssv.getD ((zH (rds N js fs) y.2.1).getD q.1 (0,0)).1 0)==(ssv.getD y.2.1 0 - 1))&&(decide (((((zH (rds N js fs) y.2.1).getD q.1 (0,0)).1:Nat):Int)<(q.2:Int)))) kJ iiz (fun e=>zJ [(96,(UF.eq (.slice (some ⟨gc,0,none⟩) N capc)).tS),(97,(uI (y.2.1:Int)).tS)] (wB (cg (fQN (csv.getD y.2.1 0)))) (fmz ⟨fun v W h=>zI (c:=(((ssv.getD ((zH (rds N js fs) y.2.1).getD q.1 (0,0)).1 0)==(ssv.getD y.2.1 0 - 1))&&(decide (((((zH (rds N js fs) y.2.1).getD q.1 (0,0)).1:Nat):Int)<(q.2:Int))))=true) (f:=(UF.eq (.slice (some ⟨gc,0,none⟩) N capc)).tS) e h,fmz ⟨fun v W h=>zI (c:=(((ssv.getD ((zH (rds N js fs) y.2.1).getD q.1 (0,0)).1 0)==(ssv.getD y.2.1 0 - 1))&&(decide (((((zH (rds N js fs) y.2.1).getD q.1 (0,0)).1:Nat):Int)<(q.2:Int))))=true) (f:=(uI (y.2.1:Int)).tS) e h,fnz⟩⟩) (fun _ _ h _=>h) kJ (zQ (z:=3) (Cs:=qns csv) (i:=y.2.1) (C:=CU.agg (fQN (csv.getD y.2.1 0))) kJ (zHD hrsl.2.2.1) (fun v W hb h=>(by rw [show v=(Value.slice (some ⟨gc,0,none⟩) N capc) from h];exact (SF.row 3 (qns csv)).st _ _ _ hcr (s.up hb))) iiz)) (fun e W h=>absurd h e))<|oc (zD 86 (((ssv.getD ((zH (rds N js fs) y.2.1).getD q.1 (0,0)).1 0)==(ssv.getD y.2.1 0 - 1))&&(decide (((((zH (rds N js fs) y.2.1).getD q.1 (0,0)).1:Nat):Int)<(q.2:Int)))) kJ iiz (fun e=>zJ [(98,wB (cg (fQN (csv.getD y.2.1 0))))] ((fQN (csv.getD y.2.1 0)).tS) (fmz ⟨fun v W h=>zI (c:=(((ssv.getD ((zH (rds N js fs) y.2.1).getD q.1 (0,0)).1 0)==(ssv.getD y.2.1 0 - 1))&&(decide (((((zH (rds N js fs) y.2.1).getD q.1 (0,0)).1:Nat):Int)<(q.2:Int))))=true) (f:=wB (cg (fQN (csv.getD y.2.1 0)))) e h,fnz⟩) (fun _ _ h _=>h) kJ (yP (f:=fQN (csv.getD y.2.1 0)) 3 kJ (hz:=qJ _))) (fun e W h=>absurd h e))<|oc (zD 86 (((ssv.getD ((zH (rds N js fs) y.2.1).getD q.1 (0,0)).1 0)==(ssv.getD y.2.1 0 - 1))&&(decide (((((zH (rds N js fs) y.2.1).getD q.1 (0,0)).1:Nat):Int)<(q.2:Int)))) kJ iiz (fun e=>zJ [(95,(fQN (csv.getD ((zH (rds N js fs) y.2.1).getD q.1 (0,0)).1 0+((zH (rds N js fs) y.2.1).getD q.1 (0,0)).2)).tS),(99,(fQN (csv.getD y.2.1 0)).tS)] ((uI (qsg (csv.getD ((zH (rds N js fs) y.2.1).getD q.1 (0,0)).1 0+((zH (rds N js fs) y.2.1).getD q.1 (0,0)).2) (csv.getD y.2.1 0))).tS) (fmz ⟨fun v W h=>zI (c:=(((ssv.getD ((zH (rds N js fs) y.2.1).getD q.1 (0,0)).1 0)==(ssv.getD y.2.1 0 - 1))&&(decide (((((zH (rds N js fs) y.2.1).getD q.1 (0,0)).1:Nat):Int)<(q.2:Int))))=true) (f:=(fQN (csv.getD ((zH (rds N js fs) y.2.1).getD q.1 (0,0)).1 0+((zH (rds N js fs) y.2.1).getD q.1 (0,0)).2)).tS) e h,fmz ⟨fun v W h=>zI (c:=(((ssv.getD ((zH (rds N js fs) y.2.1).getD q.1 (0,0)).1 0)==(ssv.getD y.2.1 0 - 1))&&(decide (((((zH (rds N js fs) y.2.1).getD q.1 (0,0)).1:Nat):Int)<(q.2:Int))))=true) (f:=(fQN (csv.getD y.2.1 0)).tS) e h,fnz⟩⟩) (fun _ _ h _=>h) kJ (yF zF zRh (fun u0 u1 W hb (h0:QNp (csv.getD ((zH (rds N js fs) y.2.1).getD q.1 (0,0)).1 0+((zH (rds N js fs) y.2.1).getD q.1 (0,0)).2) u0 W) (h1:QNp (csv.getD y.2.1 0) u1 W)=>zN8 (m:=1) (wI h0 hqx) (wI h1 hqa) dC dC ((hT.below hFr).below (s.up hb))))) (fun e W h=>absurd h e))<|oc (zD 86 (((ssv.getD ((zH (rds N js fs) y.2.1).getD q.1 (0,0)).1 0)==(ssv.getD y.2.1 0 - 1))&&(decide (((((zH (rds N js fs) y.2.1).getD q.1 (0,0)).1:Nat):Int)<(q.2:Int)))) kJ iiz (fun e=>zJ [(100,(uI (qsg (csv.getD ((zH (rds N js fs) y.2.1).getD q.1 (0,0)).1 0+((zH (rds N js fs) y.2.1).getD q.1 (0,0)).2) (csv.getD y.2.1 0))).tS)] ((uB ((qsg (csv.getD ((zH (rds N js fs) y.2.1).getD q.1 (0,0)).1 0+((zH (rds N js fs) y.2.1).getD q.1 (0,0)).2) (csv.getD y.2.1 0))==0)).tS) (fmz ⟨fun v W h=>zI (c:=(((ssv.getD ((zH (rds N js fs) y.2.1).getD q.1 (0,0)).1 0)==(ssv.getD y.2.1 0 - 1))&&(decide (((((zH (rds N js fs) y.2.1).getD q.1 (0,0)).1:Nat):Int)<(q.2:Int))))=true) (f:=(uI (qsg (csv.getD ((zH (rds N js fs) y.2.1).getD q.1 (0,0)).1 0+((zH (rds N js fs) y.2.1).getD q.1 (0,0)).2) (csv.getD y.2.1 0))).tS) e h,fnz⟩) (fun _ _ h _=>h) kJ (zN .i64 (qsg (csv.getD ((zH (rds N js fs) y.2.1).getD q.1 (0,0)).1 0+((zH (rds N js fs) y.2.1).getD q.1 (0,0)).2) (csv.getD y.2.1 0)) 0 ((qsg (csv.getD ((zH (rds N js fs) y.2.1).getD q.1 (0,0)).1 0+((zH (rds N js fs) y.2.1).getD q.1 (0,0)).2) (csv.getD y.2.1 0))==0) iiz iiz rfl rfl)) (fun e W h=>absurd h e))<|oc (zX (((ssv.getD ((zH (rds N js fs) y.2.1).getD q.1 (0,0)).1 0)==(ssv.getD y.2.1 0 - 1))&&(decide (((((zH (rds N js fs) y.2.1).getD q.1 (0,0)).1:Nat):Int)<(q.2:Int)))) iiz (fun e v W h=>zBR (zI e h) e) (fun e v W h=>zBk h e))<|zE) fun a w13 s=> ?_
        refine zB rfl ?_
        have hb:=s.below
        replace hFr:=hFr.trans (hb.mono hFr.size)
        replace h11:=h11.below hb
        replace hG:=hG.below hb
        replace hC:=hC.below hb
        replace hS:=hS.below hb
        replace hTd:=hTd.below hb
        replace s:=s.anewB rfl rfl
        refine StS.cond s ((((ssv.getD ((zH (rds N js fs) y.2.1).getD q.1 (0,0)).1 0)==(ssv.getD y.2.1 0 - 1))&&(decide (((((zH (rds N js fs) y.2.1).getD q.1 (0,0)).1:Nat):Int)<(q.2:Int))))&&((qsg (csv.getD ((zH (rds N js fs) y.2.1).getD q.1 (0,0)).1 0+((zH (rds N js fs) y.2.1).getD q.1 (0,0)).2) (csv.getD y.2.1 0))==0)) iiz (fun e=> ?_) (fun e=> ?_)
        . have hcond:ssv.getD ((zH (rds N js fs) y.2.1).getD q.1 (0,0)).1 0=ssv.getD y.2.1 0 - 1/\((zH (rds N js fs) y.2.1).getD q.1 (0,0)).1<q.2/\csv.getD ((zH (rds N js fs) y.2.1).getD q.1 (0,0)).1 0+((zH (rds N js fs) y.2.1).getD q.1 (0,0)).2=csv.getD y.2.1 0:=by simpa [zEu,and_assoc] using e
          replace s:=s.drop [17]
          refine zC 3 ((103, .X (fRo ((zH (rds N js fs) y.2.1).getD q.1 (0,0))) 0)::(104, .Z (uI ((((zH (rds N js fs) y.2.1).getD q.1 (0,0)).1:Nat):Int)))::(17, .u (uI ((((zH (rds N js fs) y.2.1).getD q.1 (0,0)).1:Nat):Int))):: []) hmix s kJ
            (oc (zS (C:=cg (fRo ((zH (rds N js fs) y.2.1).getD q.1 (0,0)))) 0 kJ)<|oc (yN (C:=cg (fRo ((zH (rds N js fs) y.2.1).getD q.1 (0,0)))) (k:=0) kJ (h:=zFG))<|oc zG<|zE) fun a w14 s=> ?_
          refine zB rfl ?_
          have hb:=s.below
          replace hFr:=hFr.trans (hb.mono hFr.size)
          replace h11:=h11.below hb
          replace hG:=hG.below hb
          replace hC:=hC.below hb
          replace hS:=hS.below hb
          replace hTd:=hTd.below hb
          replace s:=s.anewB rfl rfl
          refine yC 1 ((105, .u (uI ((q.1+1:Nat):Int))):: []) s kJ
            (oc (qC .i64 (q.1:Int) 1 ((q.1+1:Nat):Int) iiz iiz (wrap64 _ _ oQ oQ))<|zE) fun a w15 s=> ?_
          replace s:=s.drop [65]
          refine zCo (uI ((q.1+1:Nat):Int)) rfl s kJ zA kJ fun a w s=> ?_
          refine zB rfl ?_
          have hb:=s.below
          replace hFr:=hFr.trans (hb.mono hFr.size)
          replace h11:=h11.below hb
          replace hG:=hG.below hb
          replace hC:=hC.below hb
          replace hS:=hS.below hb
          replace hTd:=hTd.below hb
          replace s:=s.anewB rfl rfl
          replace s:=s.popB
          exact ⟨(q.1+1,((zH (rds N js fs) y.2.1).getD q.1 (0,0)).1),(by show (zH (rds N js fs) y.2.1).length - (q.1+1)<(zH (rds N js fs) y.2.1).length - q.1;omega),hkl,(by show _=((zH (rds N js fs) y.2.1).take (q.1+1)).foldl _ _;rw [zEO _ _ (0,0) _ hkl, <-hbq];unfold zDK;rw [if_pos hcond]),Nat.le_of_lt hrn,hFr,h11,hG,hC,hS,hTd,s.keepK _ (fmz ⟨mz6,fmz ⟨mz7,fmz ⟨mz8,fmz ⟨mz9,fmz ⟨zHJ,fmz ⟨zJP,fmz ⟨zL8,fmz ⟨zOl,fmz ⟨mz2,fmz ⟨zR8,fmz ⟨zJO,fmz ⟨.head _,fnz⟩⟩⟩⟩⟩⟩⟩⟩⟩⟩⟩⟩)⟩
        . have hcond: ¬(ssv.getD ((zH (rds N js fs) y.2.1).getD q.1 (0,0)).1 0=ssv.getD y.2.1 0 - 1/\((zH (rds N js fs) y.2.1).getD q.1 (0,0)).1<q.2/\csv.getD ((zH (rds N js fs) y.2.1).getD q.1 (0,0)).1 0+((zH (rds N js fs) y.2.1).getD q.1 (0,0)).2=csv.getD y.2.1 0):=by
            intro hc
            have e2:=e
            rw [hc.1,hc.2.2] at e2
            have h3:=hc.2.1
            simp [zEu] at e2 h3
            omega
          refine zUQ ?_
          refine yC 1 ((105, .u (uI ((q.1+1:Nat):Int))):: []) s kJ
            (oc (qC .i64 (q.1:Int) 1 ((q.1+1:Nat):Int) iiz iiz (wrap64 _ _ oQ oQ))<|zE) fun a w16 s=> ?_
          replace s:=s.drop [65]
          refine zCo (uI ((q.1+1:Nat):Int)) rfl s kJ zA kJ fun a w s=> ?_
          refine zB rfl ?_
          have hb:=s.below
          replace hFr:=hFr.trans (hb.mono hFr.size)
          replace h11:=h11.below hb
          replace hG:=hG.below hb
          replace hC:=hC.below hb
          replace hS:=hS.below hb
          replace hTd:=hTd.below hb
          replace s:=s.anewB rfl rfl
          replace s:=s.popB
          exact ⟨(q.1+1,q.2),(by show (zH (rds N js fs) y.2.1).length - (q.1+1)<(zH (rds N js fs) y.2.1).length - q.1;omega),hkl,(by show _=((zH (rds N js fs) y.2.1).take (q.1+1)).foldl _ _;rw [zEO _ _ (0,0) _ hkl, <-hbq];unfold zDK;rw [if_neg hcond]),hqN,hFr,h11,hG,hC,hS,hTd,s.keepK _ (fmz ⟨mz5,fmz ⟨mz6,fmz ⟨mz7,fmz ⟨mz8,fmz ⟨mz9,fmz ⟨zHJ,fmz ⟨zJP,fmz ⟨zL8,fmz ⟨zOl,fmz ⟨zR8,fmz ⟨zJO,fmz ⟨.head _,fnz⟩⟩⟩⟩⟩⟩⟩⟩⟩⟩⟩⟩)⟩
      . have hqe:q.1=(zH (rds N js fs) y.2.1).length:=by have h7:=zUV e;simp only [zUR] at h7;omega
        have hq2:q.2=(nxF (grE N js fs) N csv ssv) y.2.1:=by rw [hbq,hqe,List.take_length];rfl
        rw [hq2] at s
        refine zU0 ?_
        replace s:=s.drop [16]
        refine zC 2 ((106, .Z (uI (((nxF (grE N js fs) N csv ssv) y.2.1:Nat):Int)))::(16, .u (uI (((nxF (grE N js fs) N csv ssv) y.2.1:Nat):Int))):: []) hmix s kJ
          (oc zA<|oc zG<|zE) fun a w17 s=> ?_
        refine zB rfl ?_
        have hb:=s.below
        replace hFr:=hFr.trans (hb.mono hFr.size)
        replace h11:=h11.below hb
        replace hG:=hG.below hb
        replace hC:=hC.below hb
        replace hS:=hS.below hb
        replace hTd:=hTd.below hb
        replace s:=s.anewB rfl rfl
        refine zBi 3 ((54, .u (UF.eq (y.2.2.2)))::(55, .Z (uI (((nxF (grE N js fs) N csv ssv) y.2.1:Nat):Int)))::(56, .s (wE w17 3 1 [wC [.int .i64 (((nxF (grE N js fs) N csv ssv) y.2.1:Nat):Int)]])):: []) s kJ
          (oc zA<|oc zA<|oc (zBF (fun u W hb (hu:u= .int .i64 (((nxF (grE N js fs) N csv ssv) y.2.1:Nat):Int))=>by subst hu;exact ⟨_,_,zQz _,(zKd _ _).toN hb.size rfl⟩))<|zE) fun a w18 s hr=> ?_
        have hb:=s.below
        replace hFr:=hFr.trans (hb.mono hFr.size)
        replace h11:=h11.below hb
        replace hG:=hG.below hb
        replace hC:=hC.below hb
        replace hS:=hS.below hb
        replace hTd:=hTd.below hb
        have hty: ∀q_,y.2.2.2.ownBlock=some q_->(∀q',zE4 gg vs q'->q'≠q_)/\gc≠q_/\b11≠q_:=fun q_ hh=>⟨fun q' hq'=>hG.no hq' (q9 hTd hh).2.choose_spec.1 dC dC,z7 hC.at.choose_spec (q9 hTd hh).2.choose_spec.1 dC,z7 h11.at.choose_spec (q9 hTd hh).2.choose_spec.1 dC⟩
        refine zGo (base:=W.heap.size) (z:=1) (e:=3) (v:=y.2.2.2) (Cs:=ins (jJ y.2.2.1)) [wC [.int .i64 (((nxF (grE N js fs) N csv ssv) y.2.1:Nat):Int)]] s hTd hFr.size rfl kJ kJ rfl rfl (s.fct (.tmp 54)) (jD.row (hr (_,_) mz2)) (fun C hC=>by obtain rfl:=List.mem_singleton.1 hC;exact zLq rfl rfl) (by simp only [zUR,jJ,List.length_singleton];omega) (fun q hq=>by cases hq) fun tv' a w hTd1 hF1 hk1 hor s=> ?_
        replace hFr:=yV hFr hF1 (fun q_ hq=>(hTd.lt q_ hq).1)
        replace hG:=hG.keep (fun q_ hq=>hF1.block q_ (hG.lt hq) (fun hh=>(hty _ hh).1 _ hq rfl)) hk1
        replace h11:=h11.keep (hF1.block _ h11.lt (fun hh=>(hty _ hh).2.2 rfl)) hk1
        replace hC:=hC.keep (hF1.block _ hC.lt (fun hh=>(hty _ hh).2.1 rfl)) hk1
        have hne0:=hne
        replace hne: ∀q_,tv'.ownBlock=some q_->q_≠gs:=fun q_ hq=>by
          rcases hor with e|e
          . exact hne q_ (e▸hq)
          . rw [e] at hq;cases hq;have:=hS.lt;omega
        replace hS:=hS.keep (hF1.block gs hS.lt (fun hh=>hne0 _ hh rfl)) hk1
        replace hTd:=hTd1
        rw [zPQ] at hTd
        replace s:=s.drop [10]
        refine y6 (UF.eq tv') rfl s kJ iiz fun a w s=> ?_
        refine zB rfl ?_
        have hb:=s.below
        replace hFr:=hFr.trans (hb.mono hFr.size)
        replace h11:=h11.below hb
        replace hG:=hG.below hb
        replace hC:=hC.below hb
        replace hS:=hS.below hb
        replace hTd:=hTd.below hb
        replace s:=s.anewB rfl rfl
        exact ⟨(t,(nxF (grE N js fs) N csv ssv) y.2.1,y.2.2.1++ [(nxF (grE N js fs) N csv ssv) y.2.1],tv'),(by show t<y.1;omega),⟨hn1,hn4,hn5,(by show (y.2.2.1++ [(nxF (grE N js fs) N csv ssv) y.2.1])++zD9 (nxF (grE N js fs) N csv ssv) xn t ((nxF (grE N js fs) N csv ssv) y.2.1)=_;rw [<-hwy,et,zD9,if_neg hax,List.append_assoc];rfl),(by show (y.2.2.1++ [(nxF (grE N js fs) N csv ssv) y.2.1]).length+t=_;rw [List.length_append,List.length_singleton];omega)⟩,hFr,h11,hG,hC,hS,hTd,hne,s.keepK _ (fmz ⟨mz5,fmz ⟨mz6,fmz ⟨.head _,fmz ⟨mz7,fmz ⟨mz8,fmz ⟨mz9,fmz ⟨zHJ,fmz ⟨mz3,fnz⟩⟩⟩⟩⟩⟩⟩⟩)⟩
    . have hax : y.2.1 = xn := by have e2:(y.2.1:Int)=(xn:Int):=by simpa using e
                                  omega
      refine zU0 ?_
      refine zUP ?_
      refine zC 1 ((107, .u (UF.eq (y.2.2.2))):: []) hmix s kJ
        (oc zA<|zE) fun a w19 s=> ?_
      have hb:=s.below
      replace hFr:=hFr.trans (hb.mono hFr.size)
      replace h11:=h11.below hb
      replace hG:=hG.below hb
      replace hC:=hC.below hb
      replace hS:=hS.below hb
      replace hTd:=hTd.below hb
      obtain ⟨l0,hl0,hl0n,-⟩:=hway
      have hall:y.2.2.1=zn::zD9 (nxF (grE N js fs) N csv ssv) xn s0 zn:=by rw [<-hwy];rcases hy:y.1 with _|t<;>simp [zD9,hax]
      have hlen:(jJ y.2.2.1).length=s0+1:=by rw [hall,hl0];simp [jJ,hl0n]
      obtain ⟨gt,cpt,ev,hgt,hRt⟩:=zDx hTd (by simp only [zUR];omega)
      rw [show (ins (jJ y.2.2.1)).length=(jJ y.2.2.1).length by simp] at ev
      rw [ev] at s
      have hty:(∀q',zE4 gg vs q'->q'≠gt)/\gc≠gt/\b11≠gt:=⟨fun q' hq'=>hG.no hq' hRt.at.choose_spec dC dC,z7 hC.at.choose_spec hRt.at.choose_spec dC,z7 h11.at.choose_spec hRt.at.choose_spec dC⟩
      refine zEd (T:=fun q=>q=gt) (args:=#[.slice (some ⟨gt,0,none⟩) (jJ y.2.2.1).length cpt]) zF (enters_of func35 kJ rfl) s rfl kJ rfl rfl (fun q hq=>by rw [hq];exact hRt.plain) (fun q hq=>by cases hq) (by rw [List.map_toArray];simp [show a.eval (.tmp 107)=_ from s.fct (.tmp 107)]) (zQm hRt oQ) fun a w hR1 hF1 hk1 s=> ?_
      replace hFr:=yV hFr hF1 (fun q hq=>by rw [hq];exact hgt)
      replace h11:=h11.keep (hF1.block _ h11.lt hty.2.2) hk1
      replace hC:=hC.keep (hF1.block _ hC.lt hty.2.1) hk1
      replace hTd:jD w W.heap.size 3 1 (.slice (some ⟨gt,0,none⟩) (jJ y.2.2.1).length cpt) (ins (jJ y.2.2.1).reverse):=hR1.toN hgt (by simp)
      refine zB rfl ?_
      have hb:=s.below
      replace hFr:=hFr.trans (hb.mono hFr.size)
      replace h11:=h11.below hb
      replace hC:=hC.below hb
      replace hTd:=hTd.below hb
      replace s:=s.anewB rfl rfl
      refine zUP ?_
      have hzc:zn<csv.length:=by rw [hcl];exact hzN
      refine zBd (w:=w) (n:=f10.ntmps) (fun i v U=>match i with|0=>v= .slice (some ⟨gt,0,none⟩) (jJ y.2.2.1).length cpt|1=>v=(.slice (some ⟨gc,0,none⟩) N capc)|2=>v= .int .i64 (zn:Int)|3=>v= .pointer (some ⟨gc,zn*3,none⟩)|4=>QNp (csv.getD zn 0) v U|5=>v= .slice (some ⟨gt,0,none⟩) (jJ y.2.2.1).length cpt|_=>True) (fun _ U=>Below w.heap.size w U) (fun _ U V=>Below U.heap.size U V) 6 hmix s.size kJ (fun i l U V _ _ _ hC hR=>hC.trans (hR.mono hC.size)) (fun i j v U V _ hj hij hE hR=> ?_) (fun l U _ hb=>hb) (fun i o hi ho l a' U hf hnl hall_ Kk hK=> ?_) (fun Q' hQ a' w' hb hsz hnd hkp hv=> ?_)
      . have hj':j=0∨j=1∨j=2∨j=3∨j=4∨j=5:=by omega
        rcases hj' with rfl|rfl|rfl|rfl|rfl|rfl<;>first|exact hE|exact (fQN (csv.getD zn 0)).us _ _ _ hE (zL hR)
      . have hCU:=hC.below hf.cls
        have k10:a'.eval (.tmp 10)= .slice (some ⟨gt,0,none⟩) (jJ y.2.2.1).length cpt:=by
          cases h5:l.getD 5 false with
          |true=>exact hf.vals 5 dC h5 10 rfl
          |false=>exact (hf.old 5 dC h5 10 rfl).trans (s.val mz5)
        have hi':i=0∨i=1∨i=2∨i=3∨i=4∨i=5:=by omega
        rcases hi' with rfl|rfl|rfl|rfl|rfl|rfl<;>obtain rfl:=Option.some.inj ho
        . exact yA ho (fun _ e=>by cases e) (fun _ e=>by cases e) (zEk k10) (hK _ U rfl (zUS _ _))
        . exact yA ho (fun _ e=>by cases e) (fun _ e=>by cases e) (zEk ((hf.keep 14 (fun j hj=>yX (k:=6) kJ j hj)).trans (s.val mz8))) (hK _ U rfl (zUS _ _))
        . exact yA ho (fun _ e=>by cases e) (fun _ e=>by cases e) (zEk ((hf.keep 4 (fun j hj=>yX (k:=6) kJ j hj)).trans (s.val mz4))) (hK _ U rfl (zUS _ _))
        . have e1:a'.eval (.tmp 110)=(.slice (some ⟨gc,0,none⟩) N capc):=hf.vals 1 dC (yE hall_ kJ) 110 rfl
          have e2:a'.eval (.tmp 111)= .int .i64 (zn:Int):=hf.vals 2 dC (yE hall_ kJ) 111 rfl
          exact yA ho (fun _ e=>by cases e) (fun _ e=>by cases e) (zEm (z:=3) kJ hzN e1 e2) (hK _ U rfl (zUS _ _))
        . have e3:a'.eval (.tmp 112)= .pointer (some ⟨gc,zn*3,none⟩):=hf.vals 3 dC (yE hall_ kJ) 112 rfl
          obtain ⟨cs,g1,g2,g3⟩:=zME hCU (zHD hzc)
          exact yA ho (fun _ e=>by cases e) (fun _ e=>by cases e) (zFE (cs:=cs) (o:=zn*3) (k:=3) kJ e3 g1 g2) (hK _ U g3 (zUS _ _))
        . have e0:a'.eval (.tmp 109)= .slice (some ⟨gt,0,none⟩) (jJ y.2.2.1).length cpt:=hf.vals 0 dC (yE hall_ kJ) 109 rfl
          exact yA ho (fun _ e=>by cases e) (fun _ e=>by cases e) (zQB e0) (hK _ U rfl (zUS _ _))
      have e0:a'.tmps.getD 10 undef= .slice (some ⟨gt,0,none⟩) (jJ y.2.2.1).length cpt:=hv 5 dC 10 rfl
      have e4:QNp (csv.getD zn 0) (a'.tmps.getD 113 undef) w':=hv 4 dC 113 rfl
      have e11:=(hkp 11 (fun j hj=>yX (k:=6) kJ j hj)).trans (s.val mz6)
      replace hFr:=hFr.trans (hb.mono hFr.size)
      replace h11:=h11.below hb
      replace hTd:=hTd.below hb
      replace s:St w' [(10, .u (UF.eq (.slice (some ⟨gt,0,none⟩) (jJ y.2.2.1).length cpt))),(113, .u (fQN (csv.getD zn 0))),(11, .u (UF.eq (pO b11 0)))] [] f10.ntmps [] a' w':=wY hsz (hnd.trans s.nd) (fmz ⟨⟨_,rfl,e0⟩,fmz ⟨⟨_,rfl,e4⟩,fmz ⟨⟨_,rfl,e11⟩,fnz⟩⟩⟩)
      have h11t: ∀q_,(Value.slice (some ⟨gt,0,none⟩) (jJ y.2.2.1).length cpt).ownBlock=some q_->q_≠b11:=fun q_ hq=>(z7 h11.at.choose_spec (q9 hTd hq).2.choose_spec.1 dC).symm
      refine zBL (g:=b11) (i:=0) (cap:=1) (z:=3) (e:=32) (CU.agg (fQN (csv.getD zn 0))) rfl s rfl rfl h11 (by simp) kJ (s.fct (.tmp 11)) (zFe (s.fct (.tmp 113))) (fun q hq=>by cases hq) fun w hF1 hk1 h11 s=> ?_
      replace hFr:=yV hFr hF1 (fun q hq=>by rw [hq];exact hb11)
      replace hTd:=hTd.keep (fun q hq=>hF1.block q (hTd.lt q hq).2 (h11t q hq)) hk1
      refine y6 (uB true) rfl s kJ iiz fun a w s=> ?_
      have hb:=s.below
      replace hFr:=hFr.trans (hb.mono hFr.size)
      replace h11:=h11.below hb
      replace hTd:=hTd.below hb
      replace s:=s.anewB rfl rfl
      refine zB rfl (hQ _ _ ?_)
      refine zUT ?_
      obtain ⟨c11,g1,g2,g3⟩:=zHh h11
      replace s:=s.home rfl rfl hFr
      exact vG s rfl kJ (s.fct (.tmp 11)) g1 g2 ⟨_,_,_,rfl,by rw [hres,show a.tmps.getD 10 undef=_ from s.fct (.tmp 10), <-hall,show jJ y.2.2.1.reverse=(jJ y.2.2.1).reverse by simp [jJ]];exact hTd,by rw [hres];exact g3,by rw [hres];exact s.fct (.tmp 12)⟩
end Go.Proofs.Wd

namespace Go.Proofs.Wd
open Tryz
set_option maxRecDepth 100000
set_option maxHeartbeats 1000000
open Go.RowKit Lb
section
variable {F:Fence} {m:Nat} {w0:Wu} {ops:Array Oper} {G:Nat->SF} {d:Tmp} {ty:TypeId} {pos:String} {aft:Array Edge}
theorem zM7 (a b:Int) (hd: ∀v W,(SF.row 1 (ins [a,b])).p v W->(G d).p v W:=by exact fun _ _ h=>h):qP F m prog w0 ops G ⟨some d, .buildSlice 24 2 #[(0, .const (.int .i64 a)),(1, .const (.int .i64 b))],ty,pos,aft,none⟩:=
 zBS fun bb W hb hh=>by
  have ev: ∀v:Value,bb.eval (.const v)=v:=fun _=>rfl
  exact ⟨_,_,by simpa [ev] using zTo a b,hd _ _ ((zEp [a,b] W (by show _<=1000;simp)).row rfl)⟩
theorem zIJ (a b c:Int) (hd: ∀v W,(SF.row 1 (ins [a,b,c])).p v W->(G d).p v W:=by exact fun _ _ h=>h):qP F m prog w0 ops G ⟨some d, .buildSlice 24 3 #[(0, .const (.int .i64 a)),(1, .const (.int .i64 b)),(2, .const (.int .i64 c))],ty,pos,aft,none⟩:=
 zBS fun bb W hb hh=>by
  have ev: ∀v:Value,bb.eval (.const v)=v:=fun _=>rfl
  exact ⟨_,_,by simpa [ev] using zTn a b c,hd _ _ ((zEp [a,b,c] W (by show _<=1000;simp)).row rfl)⟩
theorem zM6 (a b c e:Int) (hd: ∀v W,(SF.row 1 (ins [a,b,c,e])).p v W->(G d).p v W:=by exact fun _ _ h=>h):qP F m prog w0 ops G ⟨some d, .buildSlice 24 4 #[(0, .const (.int .i64 a)),(1, .const (.int .i64 b)),(2, .const (.int .i64 c)),(3, .const (.int .i64 e))],ty,pos,aft,none⟩:=
 zBS fun bb W hb hh=>by
  have ev: ∀v:Value,bb.eval (.const v)=v:=fun _=>rfl
  exact ⟨_,_,by simpa [ev] using zTm a b c e,hd _ _ ((zEp [a,b,c,e] W (by show _<=1000;simp)).row rfl)⟩
end
theorem zQv {a b c d e f:Int} {u v q:Value} {W:Wu} (hu:u= .agg #[.int .i64 a, .int .i64 b]) (hv:v= .agg #[.int .i64 c, .int .i64 d]) (hq:q= .agg #[.int .i64 e, .int .i64 f]): ∃t cs,zV prog 22 3 [(0,u),(1,v),(2,q)]=some (t,cs)/\(SF.row 2 (jns [(a,b),(c,d),(e,f)])).p (.slice (some ⟨W.heap.size,0,none⟩) 3 3) (W.alloc (.cells cs t)):=by
 subst hu hv hq
 exact ⟨_,_,zRX a b c d e f,(zMF a b c d e f W).row rfl⟩
theorem zLd {W W':Wu} {r:List Int×Rat×Bool} {v:Value} {V:Wu} (hW:W.heap.size<=W'.heap.size) (h:(zI0 W' r).p v V):(wL (wE W 3 1 (ins r.1)) (fQN r.2.1).tS (fB r.2.2).tS).p v V:=by
 obtain ⟨x,y,z,h1,h2,h3,h4⟩:=h
 exact ⟨x,y,z,h1,jD.mono h2 hW,h3,h4⟩
theorem zPJ {W':Wu} {r:List Int×Rat×Bool} {v:Value} {V:Wu} (h:(zI0 W' r).p v V):(wL SF.any (fQN r.2.1).tS (fB r.2.2).tS).p v V:=by
 obtain ⟨x,y,z,h1,h2,h3,h4⟩:=h
 exact ⟨x,y,z,h1,trivial,h3,h4⟩
theorem zQL:qzs [1,1,2]= [1,1,2]:=by decide+kernel
theorem zKL {fs:List Rat} (hq: ∀q,q∈fs->QB q 1) {v:Value} {W:Wu} (h:(SF.row 3 (qns fs)).p v W):(SF.row 3 (rvs 1 fs)).p v W:=
 zIq (by simp) (fun i C D hC hD cs W' hh=>by
  have hi:i<fs.length:=by have:=(List.getElem?_eq_some_iff.1 hC).1;simpa using this
  rw [List.getElem?_map,zU2 hi] at hC hD
  cases hC;cases hD
  exact wI hh (hq _ (zU3 hi))) v W h
theorem zHo: ∀q,q∈([1,1,2]:List Rat)->q=1∨q=2:=fun q hq=>by
 simp only [List.mem_cons,List.not_mem_nil,or_false] at hq
 rcases hq with rfl|rfl|rfl
 ·exact .inl rfl
 ·exact .inl rfl
 ·exact .inr rfl
theorem zH5: ∀q,q∈([1,1,2]:List Rat)->QB q 1:=fun q hq=>by
 rcases zHo q hq with rfl|rfl<;>exact ⟨by unfold Bd BB;decide+kernel,by unfold BB;decide+kernel⟩
theorem zFz {W:Wu} (hT:Tab W):Calls prog 8 #[] W (Ret W (fB true).tS):=by
 have hFr:Below W.heap.size W W:=zUS _ _
 refine qF [] func8 rfl kJ trivial fun a s=> ?_
 refine zUP ?_
 refine zC 1 ((0, .u (uB false)):: []) hmix s kJ
  (oc zG<|zE) fun a w1 s=> ?_
 refine zB rfl ?_
 have hb:=s.below
 replace hFr:=hFr.trans (hb.mono hFr.size)
 replace hT:=hT.below hb
 replace s:=s.anewB rfl rfl
 refine zUP ?_
 refine jM 5 ((8, .Z (UF.eq (.agg #[.int .i64 0, .int .i64 1])))::(9, .Z (UF.eq (.agg #[.int .i64 1, .int .i64 2])))::(10, .Z (UF.eq (.agg #[.int .i64 0, .int .i64 2])))::(11, .s (SF.row 2 (jns wkJ)))::(1, .s (SF.row 2 (jns wkJ))):: []) hmix s kJ
  (oc (zAH (fun u v W (hu:u= .int .i64 0) (hv:v= .int .i64 1)=>by subst hu hv;exact ⟨_,zST _ _,rfl⟩))<|oc (zAH (fun u v W (hu:u= .int .i64 1) (hv:v= .int .i64 2)=>by subst hu hv;exact ⟨_,zST _ _,rfl⟩))<|oc (zAH (fun u v W (hu:u= .int .i64 0) (hv:v= .int .i64 2)=>by subst hu hv;exact ⟨_,zST _ _,rfl⟩))<|oc (zGU (fun u v q W (hu:u= .agg #[.int .i64 0, .int .i64 1]) (hv:v= .agg #[.int .i64 1, .int .i64 2]) (hq:q= .agg #[.int .i64 0, .int .i64 2])=>zQv hu hv hq))<|oc zG<|zE) fun a w2 s hr=> ?_
 refine zB rfl ?_
 obtain ⟨lj,e1⟩: ∃v,a.tmps.getD 1 undef=v:=⟨_,rfl⟩
 have hlj:=(hr (_,_) mz4)
 rw [show a.tmps.getD _ undef=lj from e1] at hlj
 replace s:=s.learn 1 _ e1
 have hb:=s.below
 replace hFr:=hFr.trans (hb.mono hFr.size)
 replace hT:=hT.below hb
 replace s:=s.anewB rfl rfl
 refine zUP ?_
 refine jM 8 ((13, .Z (UF.eq lj))::(14, .s (SF.row 1 (ins [1,1,2])))::(15, .s (SF.row 3 (rvs 1 [1,1,2])))::(16, .s (wL (wE w2 3 1 (ins [0,2])) ((fQN 2).tS) ((uB true).tS)))::(12, .s (wL (wE w2 3 1 (ins [0,2])) ((fQN 2).tS) ((uB true).tS)))::(17, .s (wE w2 3 1 (ins [0,2])))::(18, .u (fQN 2))::(19, .u (uB true)):: []) hmix s kJ
  (oc zA<|oc (zIJ 1 1 2)<|oc (zM zF zRj (fun u0 W hb (h0:(SF.row 1 (ins [1,1,2])).p u0 W)=>(zLh h0 dC dC).mono (wG (fun v W h=>zKL zH5 (by have h7:=jD.row h;rw [zQL] at h7;exact h7)))))<|oc (zFT zF zPZ (fun u0 u1 u2 u3 u4 W hb (h0:u0= .int .i64 4) (h1:u1=lj) (h2:(SF.row 3 (rvs 1 [1,1,2])).p u2 W) (h3:u3= .int .i64 0) (h4:u4= .int .i64 2)=>(zFI (n:=4) (N:=4) (x:=0) (z:=2) (js:=wkJ) (fs:= [1,1,2]) h0 (y7 hlj h1 (s.up hb)) h2 h3 h4 dC (zJY _ zHo) (hT.below (s.up hb))).mono (wG (fun v W h=>by have h7:=zLd (s.up hb).size h;rw [zOE] at h7;exact h7))))<|oc zA<|oc (zCV (A:=wE w2 3 1 (ins [0,2])) (B:=(fQN 2).tS) (C:=(uB true).tS) iiz)<|oc (zCU (A:=wE w2 3 1 (ins [0,2])) (B:=(fQN 2).tS) (C:=(uB true).tS) iiz)<|oc (zCT (A:=wE w2 3 1 (ins [0,2])) (B:=(fQN 2).tS) (C:=(uB true).tS) iiz)<|zE) fun a w3 s hr=> ?_
 obtain ⟨lv,e17⟩: ∃v,a.tmps.getD 17 undef=v:=⟨_,rfl⟩
 have hlv:=(hr (_,_) mz5)
 rw [show a.tmps.getD _ undef=lv from e17] at hlv
 replace hlv:=jD.row hlv
 replace s:=s.learn 17 _ e17
 have hb:=s.below
 replace hFr:=hFr.trans (hb.mono hFr.size)
 replace hT:=hT.below hb
 replace hlj:=(SF.row 2 (jns wkJ)).st _ _ _ hlj hb
 replace s:=s.anewB rfl rfl
 refine yS (CU.len 3) (cs:=zR3) kJ rfl s kJ (fun W=>rfl) rfl fun b3 a w s=> ?_
 refine y6 (UF.eq lv) rfl s kJ iiz fun a w s=> ?_
 refine yJ (CU.agg (fQN 2)) ((fQN 2).tS) rfl s kJ rfl rfl rfl iiz iiz yO fun a w s=> ?_
 refine y6 (uB true) rfl s kJ iiz fun a w s=> ?_
 refine zB rfl ?_
 replace s:StS _ _ _ [⟨3,32,CU.agg (fQN 2),b3,true⟩] _ _ _ _:=s.freeze
 have hb:=s.below
 replace hFr:=hFr.trans (hb.mono hFr.size)
 replace hT:=hT.below hb
 replace hlj:=(SF.row 2 (jns wkJ)).st _ _ _ hlj hb
 replace hlv:=(SF.row 1 (ins [0,2])).st _ _ _ hlv hb
 replace s:=s.anewB rfl rfl
 refine zUP ?_
 refine zC 8 ((21, .Z (UF.eq lj))::(22, .s (SF.row 1 (ins [1,1,2])))::(23, .s (SF.row 3 (rvs 1 [1,1,2])))::(24, .s (wL (SF.any) ((fQN ((yQ (grE 4 wkJ [1,1,2]) 4 0 3).2.1)).tS) ((uB false).tS)))::(20, .s (wL (SF.any) ((fQN ((yQ (grE 4 wkJ [1,1,2]) 4 0 3).2.1)).tS) ((uB false).tS)))::(26, .u (fQN ((yQ (grE 4 wkJ [1,1,2]) 4 0 3).2.1)))::(27, .u (uB false)):: []) hmix s kJ
  (oc zA<|oc (zIJ 1 1 2)<|oc (zM zF zRj (fun u0 W hb (h0:(SF.row 1 (ins [1,1,2])).p u0 W)=>(zLh h0 dC dC).mono (wG (fun v W h=>zKL zH5 (by have h7:=jD.row h;rw [zQL] at h7;exact h7)))))<|oc (zFT zF zPZ (fun u0 u1 u2 u3 u4 W hb (h0:u0= .int .i64 4) (h1:u1=lj) (h2:(SF.row 3 (rvs 1 [1,1,2])).p u2 W) (h3:u3= .int .i64 0) (h4:u4= .int .i64 3)=>(zFI (n:=4) (N:=4) (x:=0) (z:=3) (js:=wkJ) (fs:= [1,1,2]) h0 (y7 hlj h1 (s.up hb)) h2 h3 h4 dC (zJY _ zHo) (hT.below (s.up hb))).mono (wG (fun v W h=>by have h7:=zPJ h;rw [zOD] at h7;exact h7))))<|oc zA<|oc (zCV (A:=SF.any) (B:=(fQN ((yQ (grE 4 wkJ [1,1,2]) 4 0 3).2.1)).tS) (C:=(uB false).tS) iiz)<|oc (zCU (A:=SF.any) (B:=(fQN ((yQ (grE 4 wkJ [1,1,2]) 4 0 3).2.1)).tS) (C:=(uB false).tS) iiz)<|oc (zCT (A:=SF.any) (B:=(fQN ((yQ (grE 4 wkJ [1,1,2]) 4 0 3).2.1)).tS) (C:=(uB false).tS) iiz)<|zE) fun a w4 s=> ?_
 refine yS (CU.len 3) (cs:=zR3) kJ rfl s kJ (fun W=>rfl) rfl fun b6 a w s=> ?_
 refine y6 UF.any rfl s kJ (fun _ _ _=>trivial) fun a w s=> ?_
 refine yJ (CU.agg (fQN ((yQ (grE 4 wkJ [1,1,2]) 4 0 3).2.1))) ((fQN ((yQ (grE 4 wkJ [1,1,2]) 4 0 3).2.1)).tS) rfl s kJ rfl rfl rfl iiz iiz yO fun a w s=> ?_
 refine y6 (uB false) rfl s kJ iiz fun a w s=> ?_
 refine zB rfl ?_
 replace s:StS _ _ _ [⟨6,32,CU.agg (fQN ((yQ (grE 4 wkJ [1,1,2]) 4 0 3).2.1)),b6,true⟩,⟨3,32,CU.agg (fQN 2),b3,true⟩] _ _ _ _:=s.freeze
 have hb:=s.below
 replace hFr:=hFr.trans (hb.mono hFr.size)
 replace hT:=hT.below hb
 replace hlj:=(SF.row 2 (jns wkJ)).st _ _ _ hlj hb
 replace hlv:=(SF.row 1 (ins [0,2])).st _ _ _ hlv hb
 replace s:=s.anewB rfl rfl
 refine zUP ?_
 replace s:=s.drop [0]
 refine zC 22 ((28, .Z (uB true))::(29, .Z (uB true))::(30, .Z (UF.eq lv))::(31, .s (SF.row 1 (ins [0,2])))::(32, .Z (uB true))::(33, .Z (uB true))::(34, .Z (uB true))::(35, .Z (fQN 2))::(36, .Z (fQN ((2:Int):Rat)))::(37, .Z (uB true))::(38, .Z (uB true))::(39, .Z (uB true))::(40, .Z (uB false))::(41, .Z (uB true))::(42, .Z (uB true))::(43, .Z (uB true))::(44, .Z (UF.eq lj))::(45, .s (SF.row 1 (ins [0,0,0,3])))::(46, .s (SF.row 1 (ins [0,0,0,3])))::(47, .Z (uB true))::(48, .Z (uB true))::(0, .u (uB true)):: []) hmix s kJ
  (oc zA<|oc zA<|oc (zD 29 true kJ iiz (fun _=>zA) arf)<|oc (zD 29 true kJ iiz (fun _=>zM7 0 2) arf)<|oc (zD 29 true kJ iiz (fun _=>yF zF zRk (fun u0 u1 W hb (h0:u0=lv) (h1:(SF.row 1 (ins [0,2])).p u1 W)=>(zGK (la:= [0,2]) (lb:= [0,2]) (y7 hlv h0 (s.up hb)) h1 dC).mono (wG (fun v W h=>h)))) arf)<|oc (zX true iiz (fun _ _ _ h=>h) (fun e=>by cases e))<|oc zA<|oc (zD 34 true kJ iiz (fun _=>yP (f:=fQN 2) 3 kJ (hz:=qJ _)) arf)<|oc (zD 34 true kJ iiz (fun _=>zM zF zGb (fun u0 W hb (h0:u0= .int .i64 2)=>zGG _ h0 dC)) arf)<|oc (zD 34 true kJ iiz (fun _=>yF zF zRm (fun u0 u1 W hb (h0:QNp 2 u0 W) (h1:QNp ((2:Int):Rat) u1 W)=>(zIx (m:=1) (p:=2) (q:=((2:Int):Rat)) (wI h0 ⟨by unfold Bd BB;decide+kernel,by unfold BB;decide+kernel⟩) (wI h1 ⟨by unfold Bd BB;decide+kernel,by unfold BB;decide+kernel⟩) dC dC).mono (wG (fun v W h=>by rw [show (qsg (2:Rat) ((2:Int):Rat)==0)=true by decide+kernel] at h;exact h)))) arf)<|oc (zX true iiz (fun _ _ _ h=>h) (fun e=>by cases e))<|oc zA<|oc (zD 39 true kJ iiz (fun _=>zA) arf)<|oc (zD 39 true kJ iiz (fun _=>zAG false iiz (fun _=>rfl)) arf)<|oc (zX true iiz (fun _ _ _ h=>h) (fun e=>by cases e))<|oc zA<|oc (zD 43 true kJ iiz (fun _=>zA) arf)<|oc (zD 43 true kJ iiz (fun _=>yF zF zSP (fun u0 u1 W hb (h0:u0= .int .i64 4) (h1:u1=lj)=>(zKy (n:=4) (N:=4) (js:=wkJ) h0 (y7 hlj h1 (s.up hb)) dC dC dC (hT.below (s.up hb))).mono (wG (fun v W ⟨lab,h,hr⟩=>by rw [zOC h] at hr;exact jD.row hr)))) arf)<|oc (zD 43 true kJ iiz (fun _=>zM6 0 0 0 3) arf)<|oc (zD 43 true kJ iiz (fun _=>yF zF zRk (fun u0 u1 W hb (h0:(SF.row 1 (ins [0,0,0,3])).p u0 W) (h1:(SF.row 1 (ins [0,0,0,3])).p u1 W)=>(zGK (la:= [0,0,0,3]) (lb:= [0,0,0,3]) h0 h1 dC).mono (wG (fun v W h=>h)))) arf)<|oc (zX true iiz (fun _ _ _ h=>h) (fun e=>by cases e))<|oc zG<|zE) fun a w5 s=> ?_
 refine zB rfl ?_
 replace s:StS _ _ _ [⟨6,32,CU.agg (fQN ((yQ (grE 4 wkJ [1,1,2]) 4 0 3).2.1)),b6,true⟩,⟨3,32,CU.agg (fQN 2),b3,true⟩] _ _ _ _:=s.freeze
 have hb:=s.below
 replace hFr:=hFr.trans (hb.mono hFr.size)
 replace hT:=hT.below hb
 replace hlj:=(SF.row 2 (jns wkJ)).st _ _ _ hlj hb
 replace hlv:=(SF.row 1 (ins [0,2])).st _ _ _ hlv hb
 replace s:=s.anewB rfl rfl
 refine zUT ?_
 exact wU s hFr rfl iiz
section
variable {F:Fence} {m:Nat} {P:Program} {w0:Wu} {ops:Array Oper} {G:Nat->SF} {d:Tmp} {ty:TypeId} {pos:String} {aft:Array Edge}
end
theorem zMU (q:Rat):(qsg q q==0)=true:=by rw [zUW];exact zEu.2 rfl
end Go.Proofs.Wd

namespace Go.Proofs.Wd
open Tryz
set_option maxRecDepth 100000
set_option maxHeartbeats 1000000
open Go.RowKit Lb
theorem vD {w0:Wu} {K:List (Nat×KF)} {n:Nat} {a:Act} {w:Wu} {P:Program} (h:St w0 K [] n [] a w) {fn:Func} {f:SF} {c r b:Nat} {e te:TypeId} {cs:List Value} (hr:fn.results=#[.cell c e, .tmp r]) (hz:zAl P e=some 3) (hc:a.tmps.getD c undef= pO b 0) (hb:w.heap[b]?=some (.cells cs.toArray te (0,0))) (hl:cs.length=3)
  (hv:f.p (.tuple #[.agg cs.toArray,a.tmps.getD r undef]) w):bodyPost P fn (Ret w0 f) .ret a w:=by
 rw [Array.getD_eq_getD_getElem?] at hc
 refine ⟨h.nd,_, ?_,⟨_,rfl,hv,h.gr.below⟩⟩
 have h1:=zDR hz hl hb
 simp [results,hr,asAddr,hc,h1]
def zQ7 (r:Rat×Bool):SF:=wM (fQN r.1).tS (fB r.2).tS
theorem zGJ {W:Wu} {n:Int} {N:Nat} {js:List (Int×Int)} {fs:List Rat} {way:List Int} {u lj lf lw:Value} (hu:u= .int .i64 n) (hj:(SF.row 2 (jns js)).p lj W) (hf:(SF.row 3 (rvs 1 fs)).p lf W) (hlw:(SF.row 1 (ins way)).p lw W) (hwl:way.length<=60) (hNz:min (max n 0) 131072=(N:Int)) (hB:GrB N js fs) (hT:Tab W):Calls prog 9 #[u,lj,lf,lw] W (Ret W (zQ7 (wkR (grE N js fs) N way))):=by
 have hFr:Below W.heap.size W W:=zUS _ _
 refine qF [(uI n).tS,(UF.eq lj).tS,(UF.eq lf).tS,(UF.eq lw).tS] func9 rfl kJ ⟨hu,rfl,rfl,rfl,trivial⟩ fun a s=> ?_
 replace s:=s.renew [(0, .u (uI n)),(1, .u (UF.eq lj)),(2, .u (UF.eq lf)),(3, .u (UF.eq lw))] (fmz ⟨.inr ⟨_,rfl, .head _⟩,fmz ⟨.inr ⟨_,rfl,mz1⟩,fmz ⟨.inr ⟨_,rfl,mz2⟩,fmz ⟨.inr ⟨_,rfl,mz3⟩,fnz⟩⟩⟩⟩)
 refine zUP ?_
 refine zC 0 [] hmix s kJ
  zE fun a w1 s=> ?_
 refine yS (CU.len 3) (cs:=zR3) kJ rfl s kJ (fun W=>rfl) rfl fun b8 a w s=> ?_
 refine y6 (uB false) rfl s kJ iiz fun a w s=> ?_
 refine zB rfl ?_
 have hb8:=s.inB_new (q:=b8) ⟨_, .head _,rfl,rfl⟩
 obtain ⟨c8,h8_,e8,n8⟩:=s.boxAt (c:=8) rfl
 have h8:=zOr (C:=CU.len 3) h8_ e8 n8 e8
 replace s:=(s.learn 8 _ (s.bx.mem _ (.head _)).choose_spec.1).popB
 have hb:=s.below
 replace hFr:=hFr.trans (hb.mono hFr.size)
 replace hlw:=(SF.row 1 (ins way)).st _ _ _ hlw hb
 replace s:=s.anewB rfl rfl
 refine zUP ?_
 refine yC 2 ((16, .Z (uI n))::(17, .u (uI (N:Int))):: []) s kJ
  (oc zA<|oc (zM zF zSM (fun u0 W hb (h0:u0= .int .i64 n)=>zJs h0 hNz))<|zE) fun a w2 s=> ?_
 replace s:=s.drop [0]
 refine y6 (uI (N:Int)) rfl s kJ iiz fun a w s=> ?_
 refine zB rfl ?_
 have hb:=s.below
 replace hFr:=hFr.trans (hb.mono hFr.size)
 replace hlw:=(SF.row 1 (ins way)).st _ _ _ hlw hb
 replace h8:=h8.below hb
 replace s:=s.anewB rfl rfl
 refine zUP ?_
 refine jM 5 ((18, .Z (uI (N:Int)))::(19, .Z (UF.eq lj))::(20, .Z (UF.eq lf))::(21, .s (wE w 59 5 (rqs (rds N js fs))))::(10, .s (wE w 59 5 (rqs (rds N js fs)))):: []) hmix s kJ
  (oc zA<|oc zA<|oc zA<|oc (zDZ zF zSL (fun u0 u1 u2 W hb (h0:u0= .int .i64 (N:Int)) (h1:u1=lj) (h2:u2=lf)=>(zJr h0 (by rw [h1];exact (SF.row 2 (jns js)).st _ _ _ hj (hFr.trans ((s.up hb).mono hFr.size))) (by rw [h2];exact (SF.row 3 (rvs 1 fs)).st _ _ _ hf (hFr.trans ((s.up hb).mono hFr.size))) (by have:=hB.hN;omega) (by have:=hB.hj;omega) ((hT.below hFr).below (s.up hb))).mono (wG (fun v W h=>jD.mono h (s.up hb).size))))<|oc zG<|zE) fun a w3 s hr=> ?_
 refine zB rfl ?_
 obtain ⟨lr,e10⟩: ∃v,a.tmps.getD 10 undef=v:=⟨_,rfl⟩
 have hlr_:=(hr (_,_) mz4)
 rw [show a.tmps.getD _ undef=lr from e10] at hlr_
 replace s:=s.learn 10 _ e10
 have hlr:=jD.row hlr_
 clear hlr_
 have hb:=s.below
 replace hFr:=hFr.trans (hb.mono hFr.size)
 replace hlw:=(SF.row 1 (ins way)).st _ _ _ hlw hb
 replace h8:=h8.below hb
 replace s:=s.anewB rfl rfl
 refine zUP ?_
 refine zC 1 ((22, .u (fQN 0)):: []) hmix s kJ
  (oc (zM zF zGb (fun u0 W hb (h0:u0= .int .i64 0)=>zEs h0))<|zE) fun a w4 s=> ?_
 refine yS (CU.len 3) (cs:=zR3) kJ rfl s kJ (fun W=>rfl) rfl fun b11 a w s=> ?_
 refine yJ (CU.agg (fQN 0)) ((fQN 0).tS) rfl s kJ rfl rfl rfl iiz iiz yO fun a w s=> ?_
 refine zB rfl ?_
 refine zUP ?_
 refine zUP ?_
 refine zC 1 ((12, .u (uI 0)):: []) hmix s kJ
  (oc zG<|zE) fun a w5 s=> ?_
 refine zB rfl ?_
 refine zUU ?_
 refine yU (fun (y:Nat×Rat) a w=>y.1<=way.length/\zC9 (grE N js fs) N way y.1=some y.2/\St w3 [(0, .u (uI (N:Int))),(3, .u (UF.eq lw)),(8, .u (UF.eq (pO b8 0))),(10, .u (UF.eq lr)),(12, .u (uI (y.1:Int)))] [⟨11,32,CU.agg (fQN (y.2)),b11,false⟩] f9.ntmps [] a w) (fun y=>way.length - y.1) (0,0) ⟨zUZ _,rfl,s.keepK _ (fmz ⟨mz3,fmz ⟨mz9,fmz ⟨mz5,fmz ⟨mz2,fmz ⟨.head _,fnz⟩⟩⟩⟩⟩)⟩ fun y a w hx=> ?_
 obtain ⟨hk,hwk,s⟩:=hx
 have hqs:QB y.2 1:=zOA hB oQ hwk
 refine zUP ?_
 refine zUP ?_
 refine zC 4 ((23, .Z (uI (y.1:Int)))::(24, .Z (UF.eq lw))::(25, .Z (uI ((ins way).length:Int)))::(26, .u (uB (decide ((y.1:Int)<((ins way).length:Int))))):: []) hmix s kJ
  (oc zA<|oc zA<|oc (jA (z:=1) (Cs:=ins way) kJ (fun v W hb h=>(y7 hlw h (s.up hb))) (fun _=>rfl))<|oc (zN .i64 (y.1:Int) ((ins way).length:Int) (decide ((y.1:Int)<((ins way).length:Int))) iiz iiz rfl rfl)<|zE) fun a w6 s=> ?_
 refine zB rfl ?_
 refine StS.cond s (decide ((y.1:Int)<((ins way).length:Int))) iiz (fun e=> ?_) (fun e=> ?_)
 ·have hyl:y.1<way.length:=by have h7:=zU1 e;simp only [zUR] at h7;omega
  refine zUQ ?_
  refine zUP ?_
  refine zUU ?_
  refine zUP ?_
  refine zUP ?_
  refine zC 13 ((29, .Z (UF.eq lw))::(30, .Z (uI (y.1:Int)))::(31, .s (wB (wC [.int .i64 (way.getD y.1 0)]).cf))::(32, .Z (uI (way.getD y.1 0)))::(33, .Z (uB (decide ((way.getD y.1 0)<0))))::(34, .Z (uB (decide ((way.getD y.1 0)<0))))::(35, .s (SF.imp ((decide ((way.getD y.1 0)<0))=false) ((UF.eq lw).tS)))::(36, .s (SF.imp ((decide ((way.getD y.1 0)<0))=false) ((uI (y.1:Int)).tS)))::(37, .s (SF.imp ((decide ((way.getD y.1 0)<0))=false) (wB (wC [.int .i64 (way.getD y.1 0)]).cf)))::(38, .s (SF.imp ((decide ((way.getD y.1 0)<0))=false) ((uI (way.getD y.1 0)).tS)))::(39, .s (SF.imp ((decide ((way.getD y.1 0)<0))=false) ((uI (N:Int)).tS)))::(40, .s (SF.imp ((decide ((way.getD y.1 0)<0))=false) ((uB (decide ((way.getD y.1 0)≥(N:Int)))).tS)))::(41, .u (uB ((decide ((way.getD y.1 0)<0))||(decide ((way.getD y.1 0)≥(N:Int)))))):: []) hmix s kJ
   (oc zA<|oc zA<|oc (zQ (z:=1) (Cs:=ins way) (i:=y.1) (C:=wC [.int .i64 (way.getD y.1 0)]) kJ (jI hyl) (fun v W hb h=>(y7 hlw h (s.up hb))) iiz)<|oc (yG (C:=(wC [.int .i64 (way.getD y.1 0)]).cf) kJ iiz y4)<|oc (zN .i64 (way.getD y.1 0) 0 (decide ((way.getD y.1 0)<0)) iiz iiz rfl rfl)<|oc zA<|oc (zD 34 (decide ((way.getD y.1 0)<0)) kJ iiz (fun e=>zJ [] ((UF.eq lw).tS) fnz (fun _ _ h _=>h) kJ zA) (fun e W h=>absurd h e))<|oc (zD 34 (decide ((way.getD y.1 0)<0)) kJ iiz (fun e=>zJ [] ((uI (y.1:Int)).tS) fnz (fun _ _ h _=>h) kJ zA) (fun e W h=>absurd h e))<|oc (zD 34 (decide ((way.getD y.1 0)<0)) kJ iiz (fun e=>zJ [(35,(UF.eq lw).tS),(36,(uI (y.1:Int)).tS)] (wB (wC [.int .i64 (way.getD y.1 0)]).cf) (fmz ⟨fun v W h=>zI (c:=(decide ((way.getD y.1 0)<0))=false) (f:=(UF.eq lw).tS) e h,fmz ⟨fun v W h=>zI (c:=(decide ((way.getD y.1 0)<0))=false) (f:=(uI (y.1:Int)).tS) e h,fnz⟩⟩) (fun _ _ h _=>h) kJ (zQ (z:=1) (Cs:=ins way) (i:=y.1) (C:=wC [.int .i64 (way.getD y.1 0)]) kJ (jI hyl) (fun v W hb h=>(y7 hlw h (s.up hb))) iiz)) (fun e W h=>absurd h e))<|oc (zD 34 (decide ((way.getD y.1 0)<0)) kJ iiz (fun e=>zJ [(37,wB (wC [.int .i64 (way.getD y.1 0)]).cf)] ((uI (way.getD y.1 0)).tS) (fmz ⟨fun v W h=>zI (c:=(decide ((way.getD y.1 0)<0))=false) (f:=wB (wC [.int .i64 (way.getD y.1 0)]).cf) e h,fnz⟩) (fun _ _ h _=>h) kJ (yG (C:=(wC [.int .i64 (way.getD y.1 0)]).cf) kJ iiz y4)) (fun e W h=>absurd h e))<|oc (zD 34 (decide ((way.getD y.1 0)<0)) kJ iiz (fun e=>zJ [] ((uI (N:Int)).tS) fnz (fun _ _ h _=>h) kJ zA) (fun e W h=>absurd h e))<|oc (zD 34 (decide ((way.getD y.1 0)<0)) kJ iiz (fun e=>zJ [(38,(uI (way.getD y.1 0)).tS),(39,(uI (N:Int)).tS)] ((uB (decide ((way.getD y.1 0)≥(N:Int)))).tS) (fmz ⟨fun v W h=>zI (c:=(decide ((way.getD y.1 0)<0))=false) (f:=(uI (way.getD y.1 0)).tS) e h,fmz ⟨fun v W h=>zI (c:=(decide ((way.getD y.1 0)<0))=false) (f:=(uI (N:Int)).tS) e h,fnz⟩⟩) (fun _ _ h _=>h) kJ (zN .i64 (way.getD y.1 0) (N:Int) (decide ((way.getD y.1 0)≥(N:Int))) iiz iiz rfl rfl)) (fun e W h=>absurd h e))<|oc (zX (decide ((way.getD y.1 0)<0)) iiz (fun e v W h=>jQ h e) (fun e v W h=>qS (zI e h) e))<|zE) fun a w7 s=> ?_
  refine zB rfl ?_
  refine StS.cond s ((decide ((way.getD y.1 0)<0))||(decide ((way.getD y.1 0)≥(N:Int)))) iiz (fun e=> ?_) (fun e=> ?_)
  ·have hhn:yM N (way.getD y.1 0)=false:=by unfold yM;simp only [Bool.or_eq_true,zU4] at e;simp only [Bool.and_eq_false_iff,decide_eq_false_iff_not];omega
   have hres:wkR (grE N js fs) N way=(0,false):=zDN (i:=y.1+1) (by rw [zFx hwk,hhn];rfl) hyl
   refine zUP ?_
   have hb8l:b8<_:=h8.lt
   have hn_b11:b8<b11:=by have:=s.inB_new (q:=b11) ⟨_, .head _,rfl,rfl⟩;omega
   replace s:StS _ _ _ [⟨11,32,CU.agg (fQN (y.2)),b11,true⟩] _ _ _ _:=s.freeze
   have hb8x: ∀q_,q_∈([⟨11,32,CU.agg (fQN (y.2)),b11,true⟩]:List Bx)-> ¬q_.b=b8:=fmz ⟨(by show ¬b11=b8;omega),fnz⟩
   refine zC 1 ((42, .u (fQN 0)):: []) hmix s kJ
    (oc (zM zF zGb (fun u0 W hb (h0:u0= .int .i64 0)=>zEs h0))<|zE) fun a w8 s=> ?_
   have hb:=s.below
   replace hFr:=hFr.trans (hb.mono hFr.size)
   replace hlw:=(SF.row 1 (ins way)).st _ _ _ hlw hb
   replace h8:=h8.below hb
   replace hlr:=(SF.row 5 (rqs (rds N js fs))).st _ _ _ hlr hb
   refine zBL (g:=b8) (i:=0) (cap:=1) (z:=3) (e:=32) (CU.agg (fQN 0)) rfl s rfl rfl h8 (by simp) kJ (s.fct (.tmp 8)) (zFe (s.fct (.tmp 42))) (fun q_ hq=>hb8x q_ hq) fun w hF1 hk1 h8 s=> ?_
   replace hFr:=yV hFr hF1 (fun q hq=>by rw [hq];exact hb8)
   refine y6 (uB false) rfl s kJ iiz fun a w s=> ?_
   refine zB rfl ?_
   refine zUT ?_
   have hb:=s.below
   replace hFr:=hFr.trans (hb.mono hFr.size)
   replace h8:=h8.below hb
   replace s:=s.popB
   replace s:=s.anewB rfl rfl
   obtain ⟨c8,g1,g2,g3⟩:=zHh h8
   replace s:=s.home rfl rfl hFr
   exact vD s rfl kJ (s.fct (.tmp 8)) g1 g2 ⟨_,_,rfl,by rw [hres];exact g3,by rw [hres];exact s.fct (.tmp 9)⟩
  ·have hha:yM N (way.getD y.1 0)=true:=by unfold yM;simp only [zUY,decide_eq_false_iff_not] at e;simp only [Bool.and_eq_true,zU4];omega
   refine zUQ ?_
   refine zUP ?_
   refine zUP ?_
   refine zC 2 ((43, .Z (uI (y.1:Int)))::(44, .u (uB ((y.1:Int)==0))):: []) hmix s kJ
    (oc zA<|oc (zN .i64 (y.1:Int) 0 ((y.1:Int)==0) iiz iiz rfl rfl)<|zE) fun a w9 s=> ?_
   refine zB rfl ?_
   refine StS.cond s ((y.1:Int)==0) iiz (fun e=> ?_) (fun e=> ?_)
   ·have hz:y.1=0:=by simpa using e
    refine zU0 ?_
    refine yC 2 ((27, .Z (uI (y.1:Int)))::(28, .u (uI ((y.1+1:Nat):Int))):: []) s kJ
     (oc zA<|oc (qC .i64 (y.1:Int) 1 ((y.1+1:Nat):Int) iiz iiz (wrap64 _ _ oQ oQ))<|zE) fun a w10 s=> ?_
    replace s:=s.drop [12]
    refine y6 (uI ((y.1+1:Nat):Int)) rfl s kJ iiz fun a w s=> ?_
    refine zB rfl ?_
    exact ⟨(y.1+1,y.2),(by show way.length - (y.1+1)<way.length - y.1;omega),hyl,(by rw [zFx hwk,if_pos hha,if_pos hz]),s.keepK _ (fmz ⟨mz5,fmz ⟨mz6,fmz ⟨mz7,fmz ⟨mz8,fmz ⟨.head _,fnz⟩⟩⟩⟩⟩)⟩
   ·have hz:y.1≠0:=by simpa using e
    have hyp:y.1 - 1<way.length:=by omega
    obtain ⟨i0,hi0⟩: ∃i,y.1=i+1:=⟨y.1 - 1,by omega⟩
    have hhp:yM N (way.getD (y.1 - 1) 0)=true:=by have h7:=hwk;rw [hi0] at h7;have:=zOB h7;rw [show y.1 - 1=i0 by omega];exact this
    obtain ⟨hpN,hpe⟩:=qL hhp
    have hchf:(rds N js fs).foldl (chR (way.getD (y.1 - 1) 0) (way.getD y.1 0)) none=ch (grE N js fs) (way.getD (y.1 - 1) 0).toNat (way.getD y.1 0):=by rw [<-hpe];exact zLP _ _ _ _
    have hgq: ∀{k:Nat} (o:Option Rat),o=((rds N js fs).take k).foldl (chR (way.getD (y.1 - 1) 0) (way.getD y.1 0)) none->QB (o.getD 0) 1:=fun {k} o ho=>by
     cases o with
     |none=>exact QB.zero dC
     |some g=>
      rw [<-hpe,zLP] at ho
      obtain ⟨⟨k',h1,h2⟩,_⟩:=zHX (E:=zH ((rds N js fs).take k)) ho.symm
      exact hB.qr (a:=(way.getD (y.1 - 1) 0).toNat) (r:=(k',g)) (zCb.2 (List.mem_of_mem_take (zCb.1 h2)))
    refine zUQ ?_
    refine zUP ?_
    refine zC 1 ((13, .u (uB false)):: []) hmix s kJ
     (oc zG<|zE) fun a w11 s=> ?_
    refine zB rfl ?_
    refine zUP ?_
    refine zC 1 ((45, .u (fQN 0)):: []) hmix s kJ
     (oc (zM zF zGb (fun u0 W hb (h0:u0= .int .i64 0)=>zEs h0))<|zE) fun a w12 s=> ?_
    refine yS (CU.len 3) (cs:=zR3) kJ rfl s kJ (fun W=>rfl) rfl fun b14 a w s=> ?_
    refine yJ (CU.agg (fQN 0)) ((fQN 0).tS) rfl s kJ rfl rfl rfl iiz iiz yO fun a w s=> ?_
    refine zB rfl ?_
    refine zUP ?_
    refine zUP ?_
    refine zC 1 ((15, .u (uI 0)):: []) hmix s kJ
     (oc zG<|zE) fun a w13 s=> ?_
    refine zB rfl ?_
    refine zUU ?_
    refine yU (fun (q:Nat×Option Rat) a w=>q.1<=(rds N js fs).length/\q.2=((rds N js fs).take q.1).foldl (chR (way.getD (y.1 - 1) 0) (way.getD y.1 0)) none/\St w3 [(0, .u (uI (N:Int))),(3, .u (UF.eq lw)),(8, .u (UF.eq (pO b8 0))),(10, .u (UF.eq lr)),(12, .u (uI (y.1:Int))),(13, .u (uB (q.2.isSome))),(15, .u (uI (q.1:Int)))] [⟨14,32,CU.agg (fQN (q.2.getD 0)),b14,false⟩,⟨11,32,CU.agg (fQN (y.2)),b11,false⟩] f9.ntmps [] a w) (fun q=>(rds N js fs).length - q.1) (0,none) ⟨zUZ _,rfl,s.keepK _ (fmz ⟨mz6,fmz ⟨mz7,fmz ⟨mz8,fmz ⟨mz9,fmz ⟨zHJ,fmz ⟨mz2,fmz ⟨.head _,fnz⟩⟩⟩⟩⟩⟩⟩)⟩ fun q a w hx=> ?_
    obtain ⟨hkq,hq2,s⟩:=hx
    have hqg:QB (q.2.getD 0) 1:=hgq _ hq2
    refine zUP ?_
    refine zUP ?_
    refine zC 4 ((46, .Z (uI (q.1:Int)))::(47, .Z (UF.eq lr))::(48, .Z (uI ((rqs (rds N js fs)).length:Int)))::(49, .u (uB (decide ((q.1:Int)<((rqs (rds N js fs)).length:Int))))):: []) hmix s kJ
     (oc zA<|oc zA<|oc (jA (z:=5) (Cs:=rqs (rds N js fs)) kJ (fun v W hb h=>(y7 hlr h (s.up hb))) (fun _=>rfl))<|oc (zN .i64 (q.1:Int) ((rqs (rds N js fs)).length:Int) (decide ((q.1:Int)<((rqs (rds N js fs)).length:Int))) iiz iiz rfl rfl)<|zE) fun a w14 s=> ?_
    refine zB rfl ?_
    refine StS.cond s (decide ((q.1:Int)<((rqs (rds N js fs)).length:Int))) iiz (fun e=> ?_) (fun e=> ?_)
    ·have hkl:q.1<(rds N js fs).length:=by have h7:=zU1 e;simp only [zUR] at h7;omega
     have hrm:((rds N js fs).getD q.1 (0,0,0))∈(rds N js fs):=by rw [zU5,zU2 hkl];exact zU3 hkl
     have hqb:QB ((rds N js fs).getD q.1 (0,0,0)).2.2 1:=hB.qr (a:=((rds N js fs).getD q.1 (0,0,0)).1) (r:=((rds N js fs).getD q.1 (0,0,0)).2) (zCb.2 hrm)
     have hrlen:=zDj N js fs js.length
     have hrjl:=hB.hj
     have hkb:(rds N js fs).length<=122:=by unfold rds;omega
     refine zUQ ?_
     refine zUP ?_
     refine zUU ?_
     refine zUP ?_
     rcases Bool.eq_false_or_eq_true ((((((rds N js fs).getD q.1 (0,0,0)).1:Nat):Int)==(way.getD (y.1 - 1) 0))&&(((((rds N js fs).getD q.1 (0,0,0)).2.1:Nat):Int)==(way.getD y.1 0))) with hc|hc
     ·refine zC 37 ((52, .Z (UF.eq lr))::(53, .Z (uI (q.1:Int)))::(54, .Y (fRd ((rds N js fs).getD q.1 (0,0,0))))::(55, .X (fRd ((rds N js fs).getD q.1 (0,0,0))) 0)::(56, .Z (uI ((((rds N js fs).getD q.1 (0,0,0)).1:Nat):Int)))::(57, .Z (UF.eq lw))::(58, .Z (uI (y.1:Int)))::(59, .Z (uI ((y.1 - 1:Nat):Int)))::(60, .s (wB (wC [.int .i64 (way.getD (y.1 - 1) 0)]).cf))::(61, .Z (uI (way.getD (y.1 - 1) 0)))::(62, .Z (uB (((((rds N js fs).getD q.1 (0,0,0)).1:Nat):Int)==(way.getD (y.1 - 1) 0))))::(63, .Z (uB (((((rds N js fs).getD q.1 (0,0,0)).1:Nat):Int)==(way.getD (y.1 - 1) 0))))::(64, .s (SF.imp ((((((rds N js fs).getD q.1 (0,0,0)).1:Nat):Int)==(way.getD (y.1 - 1) 0))=true) ((UF.eq lr).tS)))::(65, .s (SF.imp ((((((rds N js fs).getD q.1 (0,0,0)).1:Nat):Int)==(way.getD (y.1 - 1) 0))=true) ((uI (q.1:Int)).tS)))::(66, .s (SF.imp ((((((rds N js fs).getD q.1 (0,0,0)).1:Nat):Int)==(way.getD (y.1 - 1) 0))=true) (wB (cg (fRd ((rds N js fs).getD q.1 (0,0,0)))))))::(67, .s (SF.imp ((((((rds N js fs).getD q.1 (0,0,0)).1:Nat):Int)==(way.getD (y.1 - 1) 0))=true) (wB ((CU.agg (fRd ((rds N js fs).getD q.1 (0,0,0)))).cf.at 1))))::(68, .s (SF.imp ((((((rds N js fs).getD q.1 (0,0,0)).1:Nat):Int)==(way.getD (y.1 - 1) 0))=true) ((uI ((((rds N js fs).getD q.1 (0,0,0)).2.1:Nat):Int)).tS)))::(69, .s (SF.imp ((((((rds N js fs).getD q.1 (0,0,0)).1:Nat):Int)==(way.getD (y.1 - 1) 0))=true) ((UF.eq lw).tS)))::(70, .s (SF.imp ((((((rds N js fs).getD q.1 (0,0,0)).1:Nat):Int)==(way.getD (y.1 - 1) 0))=true) ((uI (y.1:Int)).tS)))::(71, .s (SF.imp ((((((rds N js fs).getD q.1 (0,0,0)).1:Nat):Int)==(way.getD (y.1 - 1) 0))=true) (wB (wC [.int .i64 (way.getD y.1 0)]).cf)))::(72, .s (SF.imp ((((((rds N js fs).getD q.1 (0,0,0)).1:Nat):Int)==(way.getD (y.1 - 1) 0))=true) ((uI (way.getD y.1 0)).tS)))::(73, .s (SF.imp ((((((rds N js fs).getD q.1 (0,0,0)).1:Nat):Int)==(way.getD (y.1 - 1) 0))=true) ((uB (((((rds N js fs).getD q.1 (0,0,0)).2.1:Nat):Int)==(way.getD y.1 0))).tS)))::(74, .Z (uB true))::(75, .Z (uB true))::(76, .Z (uB (q.2.isSome)))::(77, .Z (uB (!(q.2.isSome))))::(78, .Z (uB (!(q.2.isSome))))::(79, .s (SF.imp ((!(q.2.isSome))=false) ((UF.eq lr).tS)))::(80, .s (SF.imp ((!(q.2.isSome))=false) ((uI (q.1:Int)).tS)))::(81, .s (SF.imp ((!(q.2.isSome))=false) (wB (cg (fRd ((rds N js fs).getD q.1 (0,0,0)))))))::(82, .s (SF.imp ((!(q.2.isSome))=false) (wB ((CU.agg (fRd ((rds N js fs).getD q.1 (0,0,0)))).cf.at 2))))::(83, .s (SF.imp ((!(q.2.isSome))=false) ((fQN (((rds N js fs).getD q.1 (0,0,0)).2.2)).tS)))::(84, .s (SF.imp ((!(q.2.isSome))=false) ((fQN (q.2.getD 0)).tS)))::(85, .s (SF.imp ((!(q.2.isSome))=false) ((uI (qsg (((rds N js fs).getD q.1 (0,0,0)).2.2) (q.2.getD 0))).tS)))::(86, .s (SF.imp ((!(q.2.isSome))=false) ((uB (decide ((qsg (((rds N js fs).getD q.1 (0,0,0)).2.2) (q.2.getD 0))<0))).tS)))::(87, .Z (uB ((!(q.2.isSome))||(decide ((qsg (((rds N js fs).getD q.1 (0,0,0)).2.2) (q.2.getD 0))<0)))))::(88, .u (uB ((!(q.2.isSome))||(decide ((qsg (((rds N js fs).getD q.1 (0,0,0)).2.2) (q.2.getD 0))<0))))):: []) hmix s kJ
       (oc zA<|oc zA<|oc (zQ (z:=5) (Cs:=rqs (rds N js fs)) (i:=q.1) (C:=CU.agg (fRd ((rds N js fs).getD q.1 (0,0,0)))) kJ (zDg hkl) (fun v W hb h=>(y7 hlr h (s.up hb))) iiz)<|oc (zS (C:=cg (fRd ((rds N js fs).getD q.1 (0,0,0)))) 0 kJ)<|oc (yN (C:=cg (fRd ((rds N js fs).getD q.1 (0,0,0)))) (k:=0) kJ (h:=zTa))<|oc zA<|oc zA<|oc (zAF .i64 (y.1:Int) 1 ((y.1 - 1:Nat):Int) iiz iiz (wrap64 _ _ oQ oQ))<|oc (zQ (z:=1) (Cs:=ins way) (i:=(y.1 - 1)) (C:=wC [.int .i64 (way.getD (y.1 - 1) 0)]) kJ (jI hyp) (fun v W hb h=>(y7 hlw h (s.up hb))) iiz)<|oc (yG (C:=(wC [.int .i64 (way.getD (y.1 - 1) 0)]).cf) kJ iiz y4)<|oc (zN .i64 ((((rds N js fs).getD q.1 (0,0,0)).1:Nat):Int) (way.getD (y.1 - 1) 0) (((((rds N js fs).getD q.1 (0,0,0)).1:Nat):Int)==(way.getD (y.1 - 1) 0)) iiz iiz rfl rfl)<|oc zA<|oc (zD 63 (((((rds N js fs).getD q.1 (0,0,0)).1:Nat):Int)==(way.getD (y.1 - 1) 0)) kJ iiz (fun e=>zJ [] ((UF.eq lr).tS) fnz (fun _ _ h _=>h) kJ zA) (fun e W h=>absurd h e))<|oc (zD 63 (((((rds N js fs).getD q.1 (0,0,0)).1:Nat):Int)==(way.getD (y.1 - 1) 0)) kJ iiz (fun e=>zJ [] ((uI (q.1:Int)).tS) fnz (fun _ _ h _=>h) kJ zA) (fun e W h=>absurd h e))<|oc (zD 63 (((((rds N js fs).getD q.1 (0,0,0)).1:Nat):Int)==(way.getD (y.1 - 1) 0)) kJ iiz (fun e=>zJ [(64,(UF.eq lr).tS),(65,(uI (q.1:Int)).tS)] (wB (cg (fRd ((rds N js fs).getD q.1 (0,0,0))))) (fmz ⟨fun v W h=>zI (c:=(((((rds N js fs).getD q.1 (0,0,0)).1:Nat):Int)==(way.getD (y.1 - 1) 0))=true) (f:=(UF.eq lr).tS) e h,fmz ⟨fun v W h=>zI (c:=(((((rds N js fs).getD q.1 (0,0,0)).1:Nat):Int)==(way.getD (y.1 - 1) 0))=true) (f:=(uI (q.1:Int)).tS) e h,fnz⟩⟩) (fun _ _ h _=>h) kJ (zQ (z:=5) (Cs:=rqs (rds N js fs)) (i:=q.1) (C:=CU.agg (fRd ((rds N js fs).getD q.1 (0,0,0)))) kJ (zDg hkl) (fun v W hb h=>(y7 hlr h (s.up hb))) iiz)) (fun e W h=>absurd h e))<|oc (zD 63 (((((rds N js fs).getD q.1 (0,0,0)).1:Nat):Int)==(way.getD (y.1 - 1) 0)) kJ iiz (fun e=>zJ [(66,wB (cg (fRd ((rds N js fs).getD q.1 (0,0,0)))))] (wB ((CU.agg (fRd ((rds N js fs).getD q.1 (0,0,0)))).cf.at 1)) (fmz ⟨fun v W h=>zI (c:=(((((rds N js fs).getD q.1 (0,0,0)).1:Nat):Int)==(way.getD (y.1 - 1) 0))=true) (f:=wB (cg (fRd ((rds N js fs).getD q.1 (0,0,0))))) e h,fnz⟩) (fun _ _ h _=>h) kJ (zS (C:=cg (fRd ((rds N js fs).getD q.1 (0,0,0)))) 1 kJ)) (fun e W h=>absurd h e))<|oc (zD 63 (((((rds N js fs).getD q.1 (0,0,0)).1:Nat):Int)==(way.getD (y.1 - 1) 0)) kJ iiz (fun e=>zJ [(67,wB ((CU.agg (fRd ((rds N js fs).getD q.1 (0,0,0)))).cf.at 1))] ((uI ((((rds N js fs).getD q.1 (0,0,0)).2.1:Nat):Int)).tS) (fmz ⟨fun v W h=>zI (c:=(((((rds N js fs).getD q.1 (0,0,0)).1:Nat):Int)==(way.getD (y.1 - 1) 0))=true) (f:=wB ((CU.agg (fRd ((rds N js fs).getD q.1 (0,0,0)))).cf.at 1)) e h,fnz⟩) (fun _ _ h _=>h) kJ (yN (C:=cg (fRd ((rds N js fs).getD q.1 (0,0,0)))) (k:=1) kJ (h:=zS9))) (fun e W h=>absurd h e))<|oc (zD 63 (((((rds N js fs).getD q.1 (0,0,0)).1:Nat):Int)==(way.getD (y.1 - 1) 0)) kJ iiz (fun e=>zJ [] ((UF.eq lw).tS) fnz (fun _ _ h _=>h) kJ zA) (fun e W h=>absurd h e))<|oc (zD 63 (((((rds N js fs).getD q.1 (0,0,0)).1:Nat):Int)==(way.getD (y.1 - 1) 0)) kJ iiz (fun e=>zJ [] ((uI (y.1:Int)).tS) fnz (fun _ _ h _=>h) kJ zA) (fun e W h=>absurd h e))<|oc (zD 63 (((((rds N js fs).getD q.1 (0,0,0)).1:Nat):Int)==(way.getD (y.1 - 1) 0)) kJ iiz (fun e=>zJ [(69,(UF.eq lw).tS),(70,(uI (y.1:Int)).tS)] (wB (wC [.int .i64 (way.getD y.1 0)]).cf) (fmz ⟨fun v W h=>zI (c:=(((((rds N js fs).getD q.1 (0,0,0)).1:Nat):Int)==(way.getD (y.1 - 1) 0))=true) (f:=(UF.eq lw).tS) e h,fmz ⟨fun v W h=>zI (c:=(((((rds N js fs).getD q.1 (0,0,0)).1:Nat):Int)==(way.getD (y.1 - 1) 0))=true) (f:=(uI (y.1:Int)).tS) e h,fnz⟩⟩) (fun _ _ h _=>h) kJ (zQ (z:=1) (Cs:=ins way) (i:=y.1) (C:=wC [.int .i64 (way.getD y.1 0)]) kJ (jI hyl) (fun v W hb h=>(y7 hlw h (s.up hb))) iiz)) (fun e W h=>absurd h e))<|oc (zD 63 (((((rds N js fs).getD q.1 (0,0,0)).1:Nat):Int)==(way.getD (y.1 - 1) 0)) kJ iiz (fun e=>zJ [(71,wB (wC [.int .i64 (way.getD y.1 0)]).cf)] ((uI (way.getD y.1 0)).tS) (fmz ⟨fun v W h=>zI (c:=(((((rds N js fs).getD q.1 (0,0,0)).1:Nat):Int)==(way.getD (y.1 - 1) 0))=true) (f:=wB (wC [.int .i64 (way.getD y.1 0)]).cf) e h,fnz⟩) (fun _ _ h _=>h) kJ (yG (C:=(wC [.int .i64 (way.getD y.1 0)]).cf) kJ iiz y4)) (fun e W h=>absurd h e))<|oc (zD 63 (((((rds N js fs).getD q.1 (0,0,0)).1:Nat):Int)==(way.getD (y.1 - 1) 0)) kJ iiz (fun e=>zJ [(68,(uI ((((rds N js fs).getD q.1 (0,0,0)).2.1:Nat):Int)).tS),(72,(uI (way.getD y.1 0)).tS)] ((uB (((((rds N js fs).getD q.1 (0,0,0)).2.1:Nat):Int)==(way.getD y.1 0))).tS) (fmz ⟨fun v W h=>zI (c:=(((((rds N js fs).getD q.1 (0,0,0)).1:Nat):Int)==(way.getD (y.1 - 1) 0))=true) (f:=(uI ((((rds N js fs).getD q.1 (0,0,0)).2.1:Nat):Int)).tS) e h,fmz ⟨fun v W h=>zI (c:=(((((rds N js fs).getD q.1 (0,0,0)).1:Nat):Int)==(way.getD (y.1 - 1) 0))=true) (f:=(uI (way.getD y.1 0)).tS) e h,fnz⟩⟩) (fun _ _ h _=>h) kJ (zN .i64 ((((rds N js fs).getD q.1 (0,0,0)).2.1:Nat):Int) (way.getD y.1 0) (((((rds N js fs).getD q.1 (0,0,0)).2.1:Nat):Int)==(way.getD y.1 0)) iiz iiz rfl rfl)) (fun e W h=>absurd h e))<|oc (zX (((((rds N js fs).getD q.1 (0,0,0)).1:Nat):Int)==(way.getD (y.1 - 1) 0)) iiz (fun e v W h=>(zI e h).trans (zUX Value.bool (by have h7:=hc;rw [e,Bool.true_and] at h7;exact h7))) (fun e v W h=>absurd hc (by rw [e];simp)))<|oc zA<|oc (zD 75 true kJ iiz (fun _=>zA) arf)<|oc (zD 75 true kJ iiz (fun _=>zAG (q.2.isSome) iiz (fun _=>rfl)) arf)<|oc (zD 75 true kJ iiz (fun _=>zA) arf)<|oc (zD 78 (!(q.2.isSome)) kJ iiz (fun e=>zJ [] ((UF.eq lr).tS) fnz (fun _ _ h _=>h) kJ zA) (fun e W h=>absurd h e))<|oc (zD 78 (!(q.2.isSome)) kJ iiz (fun e=>zJ [] ((uI (q.1:Int)).tS) fnz (fun _ _ h _=>h) kJ zA) (fun e W h=>absurd h e))<|oc (zD 78 (!(q.2.isSome)) kJ iiz (fun e=>zJ [(79,(UF.eq lr).tS),(80,(uI (q.1:Int)).tS)] (wB (cg (fRd ((rds N js fs).getD q.1 (0,0,0))))) (fmz ⟨fun v W h=>zI (c:=(!(q.2.isSome))=false) (f:=(UF.eq lr).tS) e h,fmz ⟨fun v W h=>zI (c:=(!(q.2.isSome))=false) (f:=(uI (q.1:Int)).tS) e h,fnz⟩⟩) (fun _ _ h _=>h) kJ (zQ (z:=5) (Cs:=rqs (rds N js fs)) (i:=q.1) (C:=CU.agg (fRd ((rds N js fs).getD q.1 (0,0,0)))) kJ (zDg hkl) (fun v W hb h=>(y7 hlr h (s.up hb))) iiz)) (fun e W h=>absurd h e))<|oc (zD 78 (!(q.2.isSome)) kJ iiz (fun e=>zJ [(81,wB (cg (fRd ((rds N js fs).getD q.1 (0,0,0)))))] (wB ((CU.agg (fRd ((rds N js fs).getD q.1 (0,0,0)))).cf.at 2)) (fmz ⟨fun v W h=>zI (c:=(!(q.2.isSome))=false) (f:=wB (cg (fRd ((rds N js fs).getD q.1 (0,0,0))))) e h,fnz⟩) (fun _ _ h _=>h) kJ (zS (C:=cg (fRd ((rds N js fs).getD q.1 (0,0,0)))) 2 kJ)) (fun e W h=>absurd h e))<|oc (zD 78 (!(q.2.isSome)) kJ iiz (fun e=>zJ [(82,wB ((CU.agg (fRd ((rds N js fs).getD q.1 (0,0,0)))).cf.at 2))] ((fQN (((rds N js fs).getD q.1 (0,0,0)).2.2)).tS) (fmz ⟨fun v W h=>zI (c:=(!(q.2.isSome))=false) (f:=wB ((CU.agg (fRd ((rds N js fs).getD q.1 (0,0,0)))).cf.at 2)) e h,fnz⟩) (fun _ _ h _=>h) kJ (zAw (C:=cg (fRd ((rds N js fs).getD q.1 (0,0,0)))) (k:=2) 3 kJ (h:=zN6))) (fun e W h=>absurd h e))<|oc (zD 78 (!(q.2.isSome)) kJ iiz (fun e=>zJ [] ((fQN (q.2.getD 0)).tS) fnz (fun _ _ h _=>h) kJ (yP (f:=fQN (q.2.getD 0)) 3 kJ (hz:=qJ _))) (fun e W h=>absurd h e))<|oc (zD 78 (!(q.2.isSome)) kJ iiz (fun e=>zJ [(83,(fQN (((rds N js fs).getD q.1 (0,0,0)).2.2)).tS),(84,(fQN (q.2.getD 0)).tS)] ((uI (qsg (((rds N js fs).getD q.1 (0,0,0)).2.2) (q.2.getD 0))).tS) (fmz ⟨fun v W h=>zI (c:=(!(q.2.isSome))=false) (f:=(fQN (((rds N js fs).getD q.1 (0,0,0)).2.2)).tS) e h,fmz ⟨fun v W h=>zI (c:=(!(q.2.isSome))=false) (f:=(fQN (q.2.getD 0)).tS) e h,fnz⟩⟩) (fun _ _ h _=>h) kJ (yF zF zPY (fun u0 u1 W hb (h0:QNp (((rds N js fs).getD q.1 (0,0,0)).2.2) u0 W) (h1:QNp (q.2.getD 0) u1 W)=>zHB (m:=1) (wI h0 hqb) (wI h1 hqg) dC dC))) (fun e W h=>absurd h e))<|oc (zD 78 (!(q.2.isSome)) kJ iiz (fun e=>zJ [(85,(uI (qsg (((rds N js fs).getD q.1 (0,0,0)).2.2) (q.2.getD 0))).tS)] ((uB (decide ((qsg (((rds N js fs).getD q.1 (0,0,0)).2.2) (q.2.getD 0))<0))).tS) (fmz ⟨fun v W h=>zI (c:=(!(q.2.isSome))=false) (f:=(uI (qsg (((rds N js fs).getD q.1 (0,0,0)).2.2) (q.2.getD 0))).tS) e h,fnz⟩) (fun _ _ h _=>h) kJ (zN .i64 (qsg (((rds N js fs).getD q.1 (0,0,0)).2.2) (q.2.getD 0)) 0 (decide ((qsg (((rds N js fs).getD q.1 (0,0,0)).2.2) (q.2.getD 0))<0)) iiz iiz rfl rfl)) (fun e W h=>absurd h e))<|oc (zD 75 true kJ iiz (fun _=>zX (!(q.2.isSome)) iiz (fun e v W h=>jQ h e) (fun e v W h=>qS (zI e h) e)) arf)<|oc (zX true iiz (fun _ _ _ h=>h) (fun e=>by cases e))<|zE) fun a w15 s=> ?_
      refine zB rfl ?_
      refine StS.cond s ((!(q.2.isSome))||(decide ((qsg (((rds N js fs).getD q.1 (0,0,0)).2.2) (q.2.getD 0))<0))) iiz (fun e=> ?_) (fun e=> ?_)
      ·have hch:chR (way.getD (y.1 - 1) 0) (way.getD y.1 0) q.2 ((rds N js fs).getD q.1 (0,0,0))=some ((rds N js fs).getD q.1 (0,0,0)).2.2:=by
        obtain ⟨k1,k2⟩:=Bool.and_eq_true_iff.1 hc
        unfold chR
        rw [if_pos ⟨zUW.1 k1,zUW.1 k2⟩]
        cases ho:q.2 with
        |none=>rfl
        |some g=>
         have h7:=e
         rw [ho] at h7
         have h8':((rds N js fs).getD q.1 (0,0,0)).2.2<g:=by simpa [zHC] using h7
         show (if ((rds N js fs).getD q.1 (0,0,0)).2.2<g then _ else _)=_
         rw [if_pos h8']
       refine zUP ?_
       refine zC 5 ((89, .Z (UF.eq lr))::(90, .Z (uI (q.1:Int)))::(91, .Y (fRd ((rds N js fs).getD q.1 (0,0,0))))::(92, .X (fRd ((rds N js fs).getD q.1 (0,0,0))) 2)::(93, .u (fQN (((rds N js fs).getD q.1 (0,0,0)).2.2))):: []) hmix s kJ
        (oc zA<|oc zA<|oc (zQ (z:=5) (Cs:=rqs (rds N js fs)) (i:=q.1) (C:=CU.agg (fRd ((rds N js fs).getD q.1 (0,0,0)))) kJ (zDg hkl) (fun v W hb h=>(y7 hlr h (s.up hb))) iiz)<|oc (zS (C:=cg (fRd ((rds N js fs).getD q.1 (0,0,0)))) 2 kJ)<|oc (zAw (C:=cg (fRd ((rds N js fs).getD q.1 (0,0,0)))) (k:=2) 3 kJ (h:=zN6))<|zE) fun a w16 s=> ?_
       refine yJ (CU.agg (fQN (((rds N js fs).getD q.1 (0,0,0)).2.2))) ((fQN (((rds N js fs).getD q.1 (0,0,0)).2.2)).tS) rfl s kJ rfl rfl rfl (qJ _) iiz yO fun a w s=> ?_
       refine zB rfl ?_
       replace s:=s.drop [13]
       refine zC 1 ((13, .u (uB true)):: []) hmix s kJ
        (oc zG<|zE) fun a w17 s=> ?_
       refine zB rfl ?_
       refine yC 2 ((50, .Z (uI (q.1:Int)))::(51, .u (uI ((q.1+1:Nat):Int))):: []) s kJ
        (oc zA<|oc (qC .i64 (q.1:Int) 1 ((q.1+1:Nat):Int) iiz iiz (wrap64 _ _ oQ oQ))<|zE) fun a w18 s=> ?_
       replace s:=s.drop [15]
       refine y6 (uI ((q.1+1:Nat):Int)) rfl s kJ iiz fun a w s=> ?_
       refine zB rfl ?_
       exact ⟨(q.1+1,some ((rds N js fs).getD q.1 (0,0,0)).2.2),(by show (rds N js fs).length - (q.1+1)<(rds N js fs).length - q.1;omega),hkl,(by show _=((rds N js fs).take (q.1+1)).foldl _ _;rw [zEO _ _ (0,0,0) _ hkl, <-hq2];exact hch.symm),s.keepK _ (fmz ⟨mz6,fmz ⟨mz7,fmz ⟨mz8,fmz ⟨mz9,fmz ⟨zHJ,fmz ⟨mz2,fmz ⟨.head _,fnz⟩⟩⟩⟩⟩⟩⟩)⟩
      ·have hch:chR (way.getD (y.1 - 1) 0) (way.getD y.1 0) q.2 ((rds N js fs).getD q.1 (0,0,0))=q.2:=by
        obtain ⟨k1,k2⟩:=Bool.and_eq_true_iff.1 hc
        unfold chR
        rw [if_pos ⟨zUW.1 k1,zUW.1 k2⟩]
        cases ho:q.2 with
        |none=>rw [ho] at e;simp at e
        |some g=>
         have h7:=e
         rw [ho] at h7
         have h8': ¬((rds N js fs).getD q.1 (0,0,0)).2.2<g:=by simpa [zHC] using h7
         show (if ((rds N js fs).getD q.1 (0,0,0)).2.2<g then _ else _)=_
         rw [if_neg h8']
       refine zUQ ?_
       refine yC 2 ((50, .Z (uI (q.1:Int)))::(51, .u (uI ((q.1+1:Nat):Int))):: []) s kJ
        (oc zA<|oc (qC .i64 (q.1:Int) 1 ((q.1+1:Nat):Int) iiz iiz (wrap64 _ _ oQ oQ))<|zE) fun a w19 s=> ?_
       replace s:=s.drop [15]
       refine y6 (uI ((q.1+1:Nat):Int)) rfl s kJ iiz fun a w s=> ?_
       refine zB rfl ?_
       exact ⟨(q.1+1,q.2),(by show (rds N js fs).length - (q.1+1)<(rds N js fs).length - q.1;omega),hkl,(by show _=((rds N js fs).take (q.1+1)).foldl _ _;rw [zEO _ _ (0,0,0) _ hkl, <-hq2];exact hch.symm),s.keepK _ (fmz ⟨mz4,fmz ⟨mz5,fmz ⟨mz6,fmz ⟨mz7,fmz ⟨mz8,fmz ⟨mz9,fmz ⟨.head _,fnz⟩⟩⟩⟩⟩⟩⟩)⟩
     ·refine zC 37 ((52, .Z (UF.eq lr))::(53, .Z (uI (q.1:Int)))::(54, .Y (fRd ((rds N js fs).getD q.1 (0,0,0))))::(55, .X (fRd ((rds N js fs).getD q.1 (0,0,0))) 0)::(56, .Z (uI ((((rds N js fs).getD q.1 (0,0,0)).1:Nat):Int)))::(57, .Z (UF.eq lw))::(58, .Z (uI (y.1:Int)))::(59, .Z (uI ((y.1 - 1:Nat):Int)))::(60, .s (wB (wC [.int .i64 (way.getD (y.1 - 1) 0)]).cf))::(61, .Z (uI (way.getD (y.1 - 1) 0)))::(62, .Z (uB (((((rds N js fs).getD q.1 (0,0,0)).1:Nat):Int)==(way.getD (y.1 - 1) 0))))::(63, .Z (uB (((((rds N js fs).getD q.1 (0,0,0)).1:Nat):Int)==(way.getD (y.1 - 1) 0))))::(64, .s (SF.imp ((((((rds N js fs).getD q.1 (0,0,0)).1:Nat):Int)==(way.getD (y.1 - 1) 0))=true) ((UF.eq lr).tS)))::(65, .s (SF.imp ((((((rds N js fs).getD q.1 (0,0,0)).1:Nat):Int)==(way.getD (y.1 - 1) 0))=true) ((uI (q.1:Int)).tS)))::(66, .s (SF.imp ((((((rds N js fs).getD q.1 (0,0,0)).1:Nat):Int)==(way.getD (y.1 - 1) 0))=true) (wB (cg (fRd ((rds N js fs).getD q.1 (0,0,0)))))))::(67, .s (SF.imp ((((((rds N js fs).getD q.1 (0,0,0)).1:Nat):Int)==(way.getD (y.1 - 1) 0))=true) (wB ((CU.agg (fRd ((rds N js fs).getD q.1 (0,0,0)))).cf.at 1))))::(68, .s (SF.imp ((((((rds N js fs).getD q.1 (0,0,0)).1:Nat):Int)==(way.getD (y.1 - 1) 0))=true) ((uI ((((rds N js fs).getD q.1 (0,0,0)).2.1:Nat):Int)).tS)))::(69, .s (SF.imp ((((((rds N js fs).getD q.1 (0,0,0)).1:Nat):Int)==(way.getD (y.1 - 1) 0))=true) ((UF.eq lw).tS)))::(70, .s (SF.imp ((((((rds N js fs).getD q.1 (0,0,0)).1:Nat):Int)==(way.getD (y.1 - 1) 0))=true) ((uI (y.1:Int)).tS)))::(71, .s (SF.imp ((((((rds N js fs).getD q.1 (0,0,0)).1:Nat):Int)==(way.getD (y.1 - 1) 0))=true) (wB (wC [.int .i64 (way.getD y.1 0)]).cf)))::(72, .s (SF.imp ((((((rds N js fs).getD q.1 (0,0,0)).1:Nat):Int)==(way.getD (y.1 - 1) 0))=true) ((uI (way.getD y.1 0)).tS)))::(73, .s (SF.imp ((((((rds N js fs).getD q.1 (0,0,0)).1:Nat):Int)==(way.getD (y.1 - 1) 0))=true) ((uB (((((rds N js fs).getD q.1 (0,0,0)).2.1:Nat):Int)==(way.getD y.1 0))).tS)))::(74, .Z (uB false))::(75, .Z (uB false))::(78, .Z (UF.eq undef))::(88, .u (uB false)):: []) hmix s kJ
       (oc zA<|oc zA<|oc (zQ (z:=5) (Cs:=rqs (rds N js fs)) (i:=q.1) (C:=CU.agg (fRd ((rds N js fs).getD q.1 (0,0,0)))) kJ (zDg hkl) (fun v W hb h=>(y7 hlr h (s.up hb))) iiz)<|oc (zS (C:=cg (fRd ((rds N js fs).getD q.1 (0,0,0)))) 0 kJ)<|oc (yN (C:=cg (fRd ((rds N js fs).getD q.1 (0,0,0)))) (k:=0) kJ (h:=zTa))<|oc zA<|oc zA<|oc (zAF .i64 (y.1:Int) 1 ((y.1 - 1:Nat):Int) iiz iiz (wrap64 _ _ oQ oQ))<|oc (zQ (z:=1) (Cs:=ins way) (i:=(y.1 - 1)) (C:=wC [.int .i64 (way.getD (y.1 - 1) 0)]) kJ (jI hyp) (fun v W hb h=>(y7 hlw h (s.up hb))) iiz)<|oc (yG (C:=(wC [.int .i64 (way.getD (y.1 - 1) 0)]).cf) kJ iiz y4)<|oc (zN .i64 ((((rds N js fs).getD q.1 (0,0,0)).1:Nat):Int) (way.getD (y.1 - 1) 0) (((((rds N js fs).getD q.1 (0,0,0)).1:Nat):Int)==(way.getD (y.1 - 1) 0)) iiz iiz rfl rfl)<|oc zA<|oc (zD 63 (((((rds N js fs).getD q.1 (0,0,0)).1:Nat):Int)==(way.getD (y.1 - 1) 0)) kJ iiz (fun e=>zJ [] ((UF.eq lr).tS) fnz (fun _ _ h _=>h) kJ zA) (fun e W h=>absurd h e))<|oc (zD 63 (((((rds N js fs).getD q.1 (0,0,0)).1:Nat):Int)==(way.getD (y.1 - 1) 0)) kJ iiz (fun e=>zJ [] ((uI (q.1:Int)).tS) fnz (fun _ _ h _=>h) kJ zA) (fun e W h=>absurd h e))<|oc (zD 63 (((((rds N js fs).getD q.1 (0,0,0)).1:Nat):Int)==(way.getD (y.1 - 1) 0)) kJ iiz (fun e=>zJ [(64,(UF.eq lr).tS),(65,(uI (q.1:Int)).tS)] (wB (cg (fRd ((rds N js fs).getD q.1 (0,0,0))))) (fmz ⟨fun v W h=>zI (c:=(((((rds N js fs).getD q.1 (0,0,0)).1:Nat):Int)==(way.getD (y.1 - 1) 0))=true) (f:=(UF.eq lr).tS) e h,fmz ⟨fun v W h=>zI (c:=(((((rds N js fs).getD q.1 (0,0,0)).1:Nat):Int)==(way.getD (y.1 - 1) 0))=true) (f:=(uI (q.1:Int)).tS) e h,fnz⟩⟩) (fun _ _ h _=>h) kJ (zQ (z:=5) (Cs:=rqs (rds N js fs)) (i:=q.1) (C:=CU.agg (fRd ((rds N js fs).getD q.1 (0,0,0)))) kJ (zDg hkl) (fun v W hb h=>(y7 hlr h (s.up hb))) iiz)) (fun e W h=>absurd h e))<|oc (zD 63 (((((rds N js fs).getD q.1 (0,0,0)).1:Nat):Int)==(way.getD (y.1 - 1) 0)) kJ iiz (fun e=>zJ [(66,wB (cg (fRd ((rds N js fs).getD q.1 (0,0,0)))))] (wB ((CU.agg (fRd ((rds N js fs).getD q.1 (0,0,0)))).cf.at 1)) (fmz ⟨fun v W h=>zI (c:=(((((rds N js fs).getD q.1 (0,0,0)).1:Nat):Int)==(way.getD (y.1 - 1) 0))=true) (f:=wB (cg (fRd ((rds N js fs).getD q.1 (0,0,0))))) e h,fnz⟩) (fun _ _ h _=>h) kJ (zS (C:=cg (fRd ((rds N js fs).getD q.1 (0,0,0)))) 1 kJ)) (fun e W h=>absurd h e))<|oc (zD 63 (((((rds N js fs).getD q.1 (0,0,0)).1:Nat):Int)==(way.getD (y.1 - 1) 0)) kJ iiz (fun e=>zJ [(67,wB ((CU.agg (fRd ((rds N js fs).getD q.1 (0,0,0)))).cf.at 1))] ((uI ((((rds N js fs).getD q.1 (0,0,0)).2.1:Nat):Int)).tS) (fmz ⟨fun v W h=>zI (c:=(((((rds N js fs).getD q.1 (0,0,0)).1:Nat):Int)==(way.getD (y.1 - 1) 0))=true) (f:=wB ((CU.agg (fRd ((rds N js fs).getD q.1 (0,0,0)))).cf.at 1)) e h,fnz⟩) (fun _ _ h _=>h) kJ (yN (C:=cg (fRd ((rds N js fs).getD q.1 (0,0,0)))) (k:=1) kJ (h:=zS9))) (fun e W h=>absurd h e))<|oc (zD 63 (((((rds N js fs).getD q.1 (0,0,0)).1:Nat):Int)==(way.getD (y.1 - 1) 0)) kJ iiz (fun e=>zJ [] ((UF.eq lw).tS) fnz (fun _ _ h _=>h) kJ zA) (fun e W h=>absurd h e))<|oc (zD 63 (((((rds N js fs).getD q.1 (0,0,0)).1:Nat):Int)==(way.getD (y.1 - 1) 0)) kJ iiz (fun e=>zJ [] ((uI (y.1:Int)).tS) fnz (fun _ _ h _=>h) kJ zA) (fun e W h=>absurd h e))<|oc (zD 63 (((((rds N js fs).getD q.1 (0,0,0)).1:Nat):Int)==(way.getD (y.1 - 1) 0)) kJ iiz (fun e=>zJ [(69,(UF.eq lw).tS),(70,(uI (y.1:Int)).tS)] (wB (wC [.int .i64 (way.getD y.1 0)]).cf) (fmz ⟨fun v W h=>zI (c:=(((((rds N js fs).getD q.1 (0,0,0)).1:Nat):Int)==(way.getD (y.1 - 1) 0))=true) (f:=(UF.eq lw).tS) e h,fmz ⟨fun v W h=>zI (c:=(((((rds N js fs).getD q.1 (0,0,0)).1:Nat):Int)==(way.getD (y.1 - 1) 0))=true) (f:=(uI (y.1:Int)).tS) e h,fnz⟩⟩) (fun _ _ h _=>h) kJ (zQ (z:=1) (Cs:=ins way) (i:=y.1) (C:=wC [.int .i64 (way.getD y.1 0)]) kJ (jI hyl) (fun v W hb h=>(y7 hlw h (s.up hb))) iiz)) (fun e W h=>absurd h e))<|oc (zD 63 (((((rds N js fs).getD q.1 (0,0,0)).1:Nat):Int)==(way.getD (y.1 - 1) 0)) kJ iiz (fun e=>zJ [(71,wB (wC [.int .i64 (way.getD y.1 0)]).cf)] ((uI (way.getD y.1 0)).tS) (fmz ⟨fun v W h=>zI (c:=(((((rds N js fs).getD q.1 (0,0,0)).1:Nat):Int)==(way.getD (y.1 - 1) 0))=true) (f:=wB (wC [.int .i64 (way.getD y.1 0)]).cf) e h,fnz⟩) (fun _ _ h _=>h) kJ (yG (C:=(wC [.int .i64 (way.getD y.1 0)]).cf) kJ iiz y4)) (fun e W h=>absurd h e))<|oc (zD 63 (((((rds N js fs).getD q.1 (0,0,0)).1:Nat):Int)==(way.getD (y.1 - 1) 0)) kJ iiz (fun e=>zJ [(68,(uI ((((rds N js fs).getD q.1 (0,0,0)).2.1:Nat):Int)).tS),(72,(uI (way.getD y.1 0)).tS)] ((uB (((((rds N js fs).getD q.1 (0,0,0)).2.1:Nat):Int)==(way.getD y.1 0))).tS) (fmz ⟨fun v W h=>zI (c:=(((((rds N js fs).getD q.1 (0,0,0)).1:Nat):Int)==(way.getD (y.1 - 1) 0))=true) (f:=(uI ((((rds N js fs).getD q.1 (0,0,0)).2.1:Nat):Int)).tS) e h,fmz ⟨fun v W h=>zI (c:=(((((rds N js fs).getD q.1 (0,0,0)).1:Nat):Int)==(way.getD (y.1 - 1) 0))=true) (f:=(uI (way.getD y.1 0)).tS) e h,fnz⟩⟩) (fun _ _ h _=>h) kJ (zN .i64 ((((rds N js fs).getD q.1 (0,0,0)).2.1:Nat):Int) (way.getD y.1 0) (((((rds N js fs).getD q.1 (0,0,0)).2.1:Nat):Int)==(way.getD y.1 0)) iiz iiz rfl rfl)) (fun e W h=>absurd h e))<|oc (zX (((((rds N js fs).getD q.1 (0,0,0)).1:Nat):Int)==(way.getD (y.1 - 1) 0)) iiz (fun e v W h=>(zI e h).trans (zUX Value.bool (by have h7:=hc;rw [e,Bool.true_and] at h7;exact h7))) (fun e v W h=>h))<|oc zA<|oc (zD 75 false kJ iiz (fun e=>by cases e) (fun _ _=>trivial))<|oc (zD 75 false kJ iiz (fun e=>by cases e) (fun _ _=>trivial))<|oc (zD 75 false kJ iiz (fun e=>by cases e) (fun _ _=>rfl))<|oc (yL 78 undef kJ iiz (fun e=>by cases e) (fun _=>trivial))<|oc (yL 78 undef kJ iiz (fun e=>by cases e) (fun _=>trivial))<|oc (yL 78 undef kJ iiz (fun e=>by cases e) (fun _=>trivial))<|oc (yL 78 undef kJ iiz (fun e=>by cases e) (fun _=>trivial))<|oc (yL 78 undef kJ iiz (fun e=>by cases e) (fun _=>trivial))<|oc (yL 78 undef kJ iiz (fun e=>by cases e) (fun _=>trivial))<|oc (yL 78 undef kJ iiz (fun e=>by cases e) (fun _=>trivial))<|oc (yL 78 undef kJ iiz (fun e=>by cases e) (fun _=>trivial))<|oc (zD 75 false kJ iiz (fun e=>by cases e) (fun _ _=>trivial))<|oc (zX false iiz (fun e=>by cases e) (fun _ _ _ h=>h))<|zE) fun a w20 s=> ?_
      refine zB rfl ?_
      refine StS.cond s false iiz (fun e=>by cases e) (fun e=> ?_)
      refine zUQ ?_
      refine yC 2 ((50, .Z (uI (q.1:Int)))::(51, .u (uI ((q.1+1:Nat):Int))):: []) s kJ
       (oc zA<|oc (qC .i64 (q.1:Int) 1 ((q.1+1:Nat):Int) iiz iiz (wrap64 _ _ oQ oQ))<|zE) fun a w21 s=> ?_
      replace s:=s.drop [15]
      refine y6 (uI ((q.1+1:Nat):Int)) rfl s kJ iiz fun a w s=> ?_
      refine zB rfl ?_
      have hch:chR (way.getD (y.1 - 1) 0) (way.getD y.1 0) q.2 ((rds N js fs).getD q.1 (0,0,0))=q.2:=by
       unfold chR
       rw [if_neg]
       intro hh
       rw [zUW.2 hh.1,zUW.2 hh.2] at hc
       cases hc
      exact ⟨(q.1+1,q.2),(by show (rds N js fs).length - (q.1+1)<(rds N js fs).length - q.1;omega),hkl,(by show _=((rds N js fs).take (q.1+1)).foldl _ _;rw [zEO _ _ (0,0,0) _ hkl, <-hq2];exact hch.symm),s.keepK _ (fmz ⟨mz4,fmz ⟨mz5,fmz ⟨mz6,fmz ⟨mz7,fmz ⟨mz8,fmz ⟨mz9,fmz ⟨.head _,fnz⟩⟩⟩⟩⟩⟩⟩)⟩
    ·have hqe:q.1=(rds N js fs).length:=by have h7:=zUV e;simp only [zUR] at h7;omega
     have hqc:q.2=ch (grE N js fs) (way.getD (y.1 - 1) 0).toNat (way.getD y.1 0):=by rw [hq2,hqe,List.take_length,hchf]
     refine zU0 ?_
     refine zUP ?_
     refine zUP ?_
     refine zC 2 ((94, .Z (uB (q.2.isSome)))::(95, .u (uB (!(q.2.isSome)))):: []) hmix s kJ
      (oc zA<|oc (zAG (q.2.isSome) iiz (fun _=>rfl))<|zE) fun a w22 s=> ?_
     refine zB rfl ?_
     refine StS.cond s (!(q.2.isSome)) iiz (fun e=> ?_) (fun e=> ?_)
     ·have hqn:q.2=none:=by simpa using e
      have hres:wkR (grE N js fs) N way=(0,false):=zDN (i:=y.1+1) (by rw [zFx hwk,if_pos hha,if_neg hz, <-hqc,hqn];rfl) hyl
      refine zUP ?_
      have hb8l:b8<_:=h8.lt
      have hn_b14:b8<b14:=by have:=s.inB_new (q:=b14) ⟨_, .head _,rfl,rfl⟩;omega
      have hn_b11:b8<b11:=by have:=s.inB_new (q:=b11) ⟨_,mz1,rfl,rfl⟩;omega
      replace s:StS _ _ _ [⟨14,32,CU.agg (fQN (q.2.getD 0)),b14,true⟩,⟨11,32,CU.agg (fQN (y.2)),b11,true⟩] _ _ _ _:=s.freeze
      have hb8x: ∀q_,q_∈([⟨14,32,CU.agg (fQN (q.2.getD 0)),b14,true⟩,⟨11,32,CU.agg (fQN (y.2)),b11,true⟩]:List Bx)-> ¬q_.b=b8:=fmz ⟨(by show ¬b14=b8;omega),fmz ⟨(by show ¬b11=b8;omega),fnz⟩⟩
      refine zC 1 ((96, .u (fQN 0)):: []) hmix s kJ
       (oc (zM zF zGb (fun u0 W hb (h0:u0= .int .i64 0)=>zEs h0))<|zE) fun a w23 s=> ?_
      have hb:=s.below
      replace hFr:=hFr.trans (hb.mono hFr.size)
      replace hlw:=(SF.row 1 (ins way)).st _ _ _ hlw hb
      replace h8:=h8.below hb
      replace hlr:=(SF.row 5 (rqs (rds N js fs))).st _ _ _ hlr hb
      refine zBL (g:=b8) (i:=0) (cap:=1) (z:=3) (e:=32) (CU.agg (fQN 0)) rfl s rfl rfl h8 (by simp) kJ (s.fct (.tmp 8)) (zFe (s.fct (.tmp 96))) (fun q_ hq=>hb8x q_ hq) fun w hF1 hk1 h8 s=> ?_
      replace hFr:=yV hFr hF1 (fun q hq=>by rw [hq];exact hb8)
      refine y6 (uB false) rfl s kJ iiz fun a w s=> ?_
      refine zB rfl ?_
      refine zUT ?_
      have hb:=s.below
      replace hFr:=hFr.trans (hb.mono hFr.size)
      replace h8:=h8.below hb
      replace s:=s.popB
      replace s:=s.popB
      replace s:=s.anewB rfl rfl
      obtain ⟨c8,g1,g2,g3⟩:=zHh h8
      replace s:=s.home rfl rfl hFr
      exact vD s rfl kJ (s.fct (.tmp 8)) g1 g2 ⟨_,_,rfl,by rw [hres];exact g3,by rw [hres];exact s.fct (.tmp 9)⟩
     ·obtain ⟨far,hfar⟩: ∃g,q.2=some g:=Option.isSome_iff_exists.1 (by simpa using e)
      have hqf:QB far 1:=by have h7:=hqg;rw [hfar] at h7;exact h7
      have hnext:zC9 (grE N js fs) N way (y.1+1)=some (y.2+far):=by rw [zFx hwk,if_pos hha,if_neg hz, <-hqc,hfar];rfl
      have hqx:QB (y.2+far) 1:=zOA hB oQ hnext
      rw [hfar] at s
      replace s:StS _ _ _ [⟨14,32,CU.agg (fQN far),b14,false⟩,⟨11,32,CU.agg (fQN (y.2)),b11,false⟩] _ _ _ _:=s
      refine zUQ ?_
      refine zC 4 ((97, .Z (fQN (y.2)))::(98, .Z (fQN far))::(99, .s (SF.row 3 (rvs 1 [y.2,far])))::(100, .u (fQN (y.2+far))):: []) hmix s kJ
       (oc (yP (f:=fQN (y.2)) 3 kJ (hz:=qJ _))<|oc (yP (f:=fQN far) 3 kJ (hz:=qJ _))<|oc (qK (fun u v W (hu:QNp (y.2) u W) (hv:QNp far v W)=>zQr (m:=1) (wI hu hqs) (wI hv hqf)))<|oc (zM zF zSO (fun u0 W hb (h0:(SF.row 3 (rvs 1 [y.2,far])).p u0 W)=>zMP (m:=1) (p:=y.2) (q:=far) h0 hqs hqf dC))<|zE) fun a w24 s=> ?_
      refine yJ (CU.agg (fQN (y.2+far))) ((fQN (y.2+far)).tS) rfl s kJ rfl rfl rfl (qJ _) iiz yO fun a w s=> ?_
      refine zB rfl ?_
      refine yC 2 ((27, .Z (uI (y.1:Int)))::(28, .u (uI ((y.1+1:Nat):Int))):: []) s kJ
       (oc zA<|oc (qC .i64 (y.1:Int) 1 ((y.1+1:Nat):Int) iiz iiz (wrap64 _ _ oQ oQ))<|zE) fun a w25 s=> ?_
      replace s:=s.drop [12]
      refine y6 (uI ((y.1+1:Nat):Int)) rfl s kJ iiz fun a w s=> ?_
      refine zB rfl ?_
      replace s:=s.popB
      exact ⟨(y.1+1,y.2+far),(by show way.length - (y.1+1)<way.length - y.1;omega),hyl,hnext,s.keepK _ (fmz ⟨mz5,fmz ⟨mz6,fmz ⟨mz7,fmz ⟨mz8,fmz ⟨.head _,fnz⟩⟩⟩⟩⟩)⟩
 ·have hye:y.1=way.length:=by have h7:=zUV e;simp only [zUR] at h7;omega
  refine zU0 ?_
  refine zUP ?_
  have hb8l:b8<_:=h8.lt
  have hn_b11:b8<b11:=by have:=s.inB_new (q:=b11) ⟨_, .head _,rfl,rfl⟩;omega
  replace s:StS _ _ _ [⟨11,32,CU.agg (fQN (y.2)),b11,true⟩] _ _ _ _:=s.freeze
  have hb8x: ∀q_,q_∈([⟨11,32,CU.agg (fQN (y.2)),b11,true⟩]:List Bx)-> ¬q_.b=b8:=fmz ⟨(by show ¬b11=b8;omega),fnz⟩
  refine zC 4 ((101, .u (fQN (y.2)))::(102, .Z (UF.eq lw))::(103, .Z (uI ((ins way).length:Int)))::(104, .u (uB (decide (0<way.length)))):: []) hmix s kJ
   (oc (yP (f:=fQN (y.2)) 3 kJ (hz:=qJ _))<|oc zA<|oc (jA (z:=1) (Cs:=ins way) kJ (fun v W hb h=>(y7 hlw h (s.up hb))) (fun _=>rfl))<|oc (zN .i64 ((ins way).length:Int) 0 (decide (0<way.length)) iiz iiz (by simp) rfl)<|zE) fun a w26 s=> ?_
  have hb:=s.below
  replace hFr:=hFr.trans (hb.mono hFr.size)
  replace hlw:=(SF.row 1 (ins way)).st _ _ _ hlw hb
  replace h8:=h8.below hb
  replace hlr:=(SF.row 5 (rqs (rds N js fs))).st _ _ _ hlr hb
  refine zBL (g:=b8) (i:=0) (cap:=1) (z:=3) (e:=32) (CU.agg (fQN (y.2))) rfl s rfl rfl h8 (by simp) kJ (s.fct (.tmp 8)) (zFe (s.fct (.tmp 101))) (fun q_ hq=>hb8x q_ hq) fun w hF1 hk1 h8 s=> ?_
  replace hFr:=yV hFr hF1 (fun q hq=>by rw [hq];exact hb8)
  refine y6 (uB (decide (0<way.length))) rfl s kJ iiz fun a w s=> ?_
  refine zB rfl ?_
  refine zUT ?_
  have hb:=s.below
  replace hFr:=hFr.trans (hb.mono hFr.size)
  replace h8:=h8.below hb
  replace s:=s.popB
  replace s:=s.anewB rfl rfl
  obtain ⟨c8,g1,g2,g3⟩:=zHh h8
  replace s:=s.home rfl rfl hFr
  have hres:wkR (grE N js fs) N way=(y.2,decide (0<way.length)):=zDM (by rw [<-hye];exact hwk)
  exact vD s rfl kJ (s.fct (.tmp 8)) g1 g2 ⟨_,_,rfl,by rw [hres];exact g3,by rw [hres];exact s.fct (.tmp 9)⟩
end Go.Proofs.Wd

namespace Go.Proofs.Wd
open Tryz
set_option maxRecDepth 100000
set_option maxHeartbeats 1000000
open Go.RowKit Lb
section
variable {F:Fence} {m:Nat} {P:Program} {w0:Wu} {ops:Array Oper} {G:Nat->SF} {d:Tmp} {ty:TypeId} {pos:String} {aft:Array Edge} {C:CU} {x y:Operand} {t t':TypeId}
end
theorem zH4 (nx:Nat->Nat) (a:Nat): ∀(f n:Nat),(zD9 nx a f n).length<=f
 |0,_=>Nat.le_refl _
 |f+1,n=>by
  show (if n=a then [] else nx n::zD9 nx a f (nx n)).length<=f+1
  split
  ·exact zUZ _
  ·simp only [List.length_cons];have:=zH4 nx a f (nx n);omega
theorem zHP {N:Nat} {js:List (Int×Int)} {fs:List Rat} (hB:GrB N js fs) (x z:Int):(yQ (grE N js fs) N x z).1.length<=60/\QB (yQ (grE N js fs) N x z).2.1 1:=by
 unfold yQ
 by_cases hc:(!(yM N x)|| !(yM N z)||decide ((ssR (grE N js fs) N x).getD z.toNat 0<0))=true
 ·rw [if_pos hc];exact ⟨zUZ _,QB.zero dC⟩
 ·rw [if_neg hc]
  have hc':(!(yM N x)|| !(yM N z)||decide ((ssR (grE N js fs) N x).getD z.toNat 0<0))=false:=by simpa using hc
  rw [zUY] at hc'
  obtain ⟨hbx,hbz⟩:=zLs hc'.1
  have hneg:=zUV hc'.2
  obtain ⟨hzN,_⟩:=qL hbz
  obtain ⟨s,ho,hs,hsN⟩:=(zHa (zJI N js fs) hbx).of hzN oQ
  have hN:=hB.hN
  refine ⟨?_,hB.qb ho.1 oQ⟩
  rw [hs]
  have:=zH4 (nxF (grE N js fs) N (csR (grE N js fs) N x) (ssR (grE N js fs) N x)) x.toNat (s:Int).toNat z.toNat
  simp only [jJ,zUR,List.length_reverse,List.length_cons]
  omega
theorem zQf {N:Nat} {js:List (Int×Int)} {fs:List Rat} (hB:GrB N js fs) {way:List Int} (hl:way.length<=60):QB (wkR (grE N js fs) N way).1 1:=by
 cases h:zC9 (grE N js fs) N way way.length with
 |none=>rw [zDN h lr];exact QB.zero dC
 |some s=>rw [zDM h];exact zOA hB oQ h
theorem zPp {p q:Rat} (h:p<=q):decide (qsg p q<=0)=true:=by
 rw [zU4]
 rcases zKJ p q with k|k|k
 ·omega
 ·omega
 ·have:=zOb.1 k;grind
theorem zPo {p q:Rat} {b:Prop} (h:p<q∨(p=q/\b)) (e:decide (qsg p q<0)=false):b:=by
 rcases h with h|h
 ·have:=zUV e
  rw [zKK.2 h] at this
  omega
 ·exact h.2
theorem zNQ {r:Rat×Bool} {q:Rat} {o:Bool} {v:Value} {V:Wu} (e:r=(q,o)) (h:(zQ7 r).p v V):(wM (fQN q).tS (fB o).tS).p v V:=by
 subst e
 exact h
theorem zPI {W W':Wu} {r:List Int×Rat×Bool} {way:List Int} {q:Rat} {o:Bool} {v:Value} {V:Wu} (e:r=(way,q,o)) (hW:W.heap.size<=W'.heap.size) (h:(zI0 W' r).p v V):(wL (wE W 3 1 (ins way)) (fQN q).tS (fB o).tS).p v V:=by
 subst e
 exact zLd hW h
theorem zGB {W:Wu} {n:Int} {js:List (Int×Int)} {L:List QX} {wl:List Int} {u lj lq lw:Value} (hu:u= .int .i64 n) (hlj:(SF.row 2 (jns js)).p lj W) (hlq:(SF.row 3 (qxs L)).p lq W) (hlw:(SF.row 1 (ins wl)).p lw W) (hT:Tab W):Calls prog 3 #[u,lj,lq,lw] W (Ret W (fB true).tS):=by
 have hFr:Below W.heap.size W W:=zUS _ _
 obtain ⟨N,hNz⟩: ∃N:Nat,min (max n 0) 131072=(N:Int):=⟨(min (max n 0) 131072).toNat,by omega⟩
 refine qF [(uI n).tS,(UF.eq lj).tS,(UF.eq lq).tS,(UF.eq lw).tS] func3 rfl kJ ⟨hu,rfl,rfl,rfl,trivial⟩ fun a s=> ?_
 replace s:=s.renew [(0, .u (uI n)),(1, .u (UF.eq lj)),(2, .u (UF.eq lq)),(3, .u (UF.eq lw))] (fmz ⟨.inr ⟨_,rfl, .head _⟩,fmz ⟨.inr ⟨_,rfl,mz1⟩,fmz ⟨.inr ⟨_,rfl,mz2⟩,fmz ⟨.inr ⟨_,rfl,mz3⟩,fnz⟩⟩⟩⟩)
 refine zUP ?_
 refine zC 1 ((8, .u (uB false)):: []) hmix s kJ
  (oc zG<|zE) fun a w1 s=> ?_
 refine zB rfl ?_
 have hb:=s.below
 replace hFr:=hFr.trans (hb.mono hFr.size)
 replace hT:=hT.below hb
 replace hlj:=(SF.row 2 (jns js)).st _ _ _ hlj hb
 replace hlq:=(SF.row 3 (qxs L)).st _ _ _ hlq hb
 replace hlw:=(SF.row 1 (ins wl)).st _ _ _ hlw hb
 replace s:=s.anewB rfl rfl
 refine zUP ?_
 refine zUP ?_
 refine zC 14 ((19, .Z (uI n))::(20, .Z (UF.eq lj))::(21, .Z (UF.eq lq))::(22, .Z (uB (g28 n js L)))::(23, .Z (uB (g28 n js L)))::(24, .s (SF.imp ((g28 n js L)=false) ((UF.eq lw).tS)))::(25, .s (SF.imp ((g28 n js L)=false) ((uI ((ins wl).length:Int)).tS)))::(26, .s (SF.imp ((g28 n js L)=false) ((uB (decide (((ins wl).length:Int)>60))).tS)))::(27, .Z (uB ((g28 n js L)||(decide (((ins wl).length:Int)>60)))))::(28, .Z (uB ((g28 n js L)||(decide (((ins wl).length:Int)>60)))))::(29, .s (SF.imp (((g28 n js L)||(decide (((ins wl).length:Int)>60)))=false) ((UF.eq lw).tS)))::(30, .s (SF.imp (((g28 n js L)||(decide (((ins wl).length:Int)>60)))=false) ((uI ((ins wl).length:Int)).tS)))::(31, .s (SF.imp (((g28 n js L)||(decide (((ins wl).length:Int)>60)))=false) ((uB (((ins wl).length:Int)==0)).tS)))::(32, .u (uB (((g28 n js L)||(decide (((ins wl).length:Int)>60)))||(((ins wl).length:Int)==0)))):: []) hmix s kJ
  (oc zA<|oc zA<|oc zA<|oc (zDZ zF zTt (fun u0 u1 u2 W hb (h0:u0= .int .i64 n) (h1:u1=lj) (h2:u2=lq)=>zJt h0 (y7 hlj h1 (s.up hb)) (y7 hlq h2 (s.up hb))))<|oc zA<|oc (zD 23 (g28 n js L) kJ iiz (fun e=>zJ [] ((UF.eq lw).tS) fnz (fun _ _ h _=>h) kJ zA) (fun e W h=>absurd h e))<|oc (zD 23 (g28 n js L) kJ iiz (fun e=>zJ [(24,(UF.eq lw).tS)] ((uI ((ins wl).length:Int)).tS) (fmz ⟨fun v W h=>zI (c:=(g28 n js L)=false) (f:=(UF.eq lw).tS) e h,fnz⟩) (fun _ _ h _=>h) kJ (jA (z:=1) (Cs:=ins wl) kJ (fun v W hb h=>(y7 hlw h (s.up hb))) (fun _=>rfl))) (fun e W h=>absurd h e))<|oc (zD 23 (g28 n js L) kJ iiz (fun e=>zJ [(25,(uI ((ins wl).length:Int)).tS)] ((uB (decide (((ins wl).length:Int)>60))).tS) (fmz ⟨fun v W h=>zI (c:=(g28 n js L)=false) (f:=(uI ((ins wl).length:Int)).tS) e h,fnz⟩) (fun _ _ h _=>h) kJ (zN .i64 ((ins wl).length:Int) 60 (decide (((ins wl).length:Int)>60)) iiz iiz rfl rfl)) (fun e W h=>absurd h e))<|oc (zX (g28 n js L) iiz (fun e v W h=>jQ h e) (fun e v W h=>qS (zI e h) e))<|oc zA<|oc (zD 28 ((g28 n js L)||(decide (((ins wl).length:Int)>60))) kJ iiz (fun e=>zJ [] ((UF.eq lw).tS) fnz (fun _ _ h _=>h) kJ zA) (fun e W h=>absurd h e))<|oc (zD 28 ((g28 n js L)||(decide (((ins wl).length:Int)>60))) kJ iiz (fun e=>zJ [(29,(UF.eq lw).tS)] ((uI ((ins wl).length:Int)).tS) (fmz ⟨fun v W h=>zI (c:=((g28 n js L)||(decide (((ins wl).length:Int)>60)))=false) (f:=(UF.eq lw).tS) e h,fnz⟩) (fun _ _ h _=>h) kJ (jA (z:=1) (Cs:=ins wl) kJ (fun v W hb h=>(y7 hlw h (s.up hb))) (fun _=>rfl))) (fun e W h=>absurd h e))<|oc (zD 28 ((g28 n js L)||(decide (((ins wl).length:Int)>60))) kJ iiz (fun e=>zJ [(30,(uI ((ins wl).length:Int)).tS)] ((uB (((ins wl).length:Int)==0)).tS) (fmz ⟨fun v W h=>zI (c:=((g28 n js L)||(decide (((ins wl).length:Int)>60)))=false) (f:=(uI ((ins wl).length:Int)).tS) e h,fnz⟩) (fun _ _ h _=>h) kJ (zN .i64 ((ins wl).length:Int) 0 (((ins wl).length:Int)==0) iiz iiz rfl rfl)) (fun e W h=>absurd h e))<|oc (zX ((g28 n js L)||(decide (((ins wl).length:Int)>60))) iiz (fun e v W h=>jQ h e) (fun e v W h=>qS (zI e h) e))<|zE) fun a w2 s=> ?_
 refine zB rfl ?_
 have hb:=s.below
 replace hFr:=hFr.trans (hb.mono hFr.size)
 replace hT:=hT.below hb
 replace hlj:=(SF.row 2 (jns js)).st _ _ _ hlj hb
 replace hlq:=(SF.row 3 (qxs L)).st _ _ _ hlq hb
 replace hlw:=(SF.row 1 (ins wl)).st _ _ _ hlw hb
 replace s:=s.anewB rfl rfl
 refine StS.cond s (((g28 n js L)||(decide (((ins wl).length:Int)>60)))||(((ins wl).length:Int)==0)) iiz (fun e=> ?_) (fun e=> ?_)
 ·refine zUP ?_
  replace s:=s.drop [8]
  refine zC 2 ((33, .Z (uB true))::(8, .u (uB true)):: []) hmix s kJ
   (oc (zD0 zF zRH (fun W hb=>zFz (hT.below (s.up hb))))<|oc zG<|zE) fun a w3 s=> ?_
  refine zB rfl ?_
  have hb:=s.below
  replace hFr:=hFr.trans (hb.mono hFr.size)
  replace hT:=hT.below hb
  replace hlj:=(SF.row 2 (jns js)).st _ _ _ hlj hb
  replace hlq:=(SF.row 3 (qxs L)).st _ _ _ hlq hb
  replace hlw:=(SF.row 1 (ins wl)).st _ _ _ hlw hb
  replace s:=s.anewB rfl rfl
  refine zUT ?_
  exact wU s hFr rfl iiz
 ·rw [zUY,zUY] at e
  obtain ⟨⟨hg,e1⟩,e2⟩:=e
  have e1:=zUV e1
  rw [beq_eq_false_iff_ne] at e2
  rw [zUR] at e1 e2
  have hwl0:0<wl.length:=by omega
  have hwl:wl.length<=60:=by omega
  have hB:=zRR hg hNz hlq
  have hlf:=(zNW (zQ6 hg).2.2.2 hlq).1
  obtain ⟨way,qc,ok,hLe⟩: ∃w q o,yQ (grE N js (qvs L)) N (wl.getD 0 0) (wl.getD (wl.length - 1) 0)=(w,q,o):=⟨_,_,_,rfl⟩
  obtain ⟨sum,is,hWk⟩: ∃q o,wkR (grE N js (qvs L)) N wl=(q,o):=⟨_,_,rfl⟩
  have hlaw:=zLe (N:=N) (js:=js) (fs:=qvs L) hwl0 rfl rfl
  rw [hLe,hWk] at hlaw
  obtain ⟨hlaw1,hlaw2⟩:=hlaw
  have hsm:=zHP hB (wl.getD 0 0) (wl.getD (wl.length - 1) 0)
  rw [hLe] at hsm
  have hqs:=zQf hB hwl
  rw [hWk] at hqs
  dsimp only at hlaw1 hlaw2 hsm hqs
  obtain ⟨hwy,hqc⟩:=hsm
  refine zUQ ?_
  refine zUP ?_
  refine zC 8 ((35, .Z (uI n))::(36, .Z (UF.eq lj))::(37, .Z (UF.eq lq))::(38, .Z (UF.eq lw))::(39, .Z (zBX (fQN sum) (uB is)))::(34, .Z (zBX (fQN sum) (uB is)))::(40, .u (fQN sum))::(41, .u (uB is)):: []) hmix s kJ
   (oc zA<|oc zA<|oc zA<|oc zA<|oc (zIL zF zTc (fun u0 u1 u2 u3 W hb (h0:u0= .int .i64 n) (h1:u1=lj) (h2:u2=lq) (h3:u3=lw)=>(zGJ (n:=n) (N:=N) (js:=js) (fs:=qvs L) h0 (y7 hlj h1 (s.up hb)) (y7 hlf h2 (s.up hb)) (y7 hlw h3 (s.up hb))  hwl hNz hB (hT.below (s.up hb))).mono (wG (fun v W h=>zNQ hWk h))))<|oc zA<|oc (zBx (A:=(fQN sum).tS) (B:=(uB is).tS) iiz)<|oc (zBw (A:=(fQN sum).tS) (B:=(uB is).tS) iiz)<|zE) fun a w4 s=> ?_
  refine yS (CU.len 3) (cs:=zR3) kJ rfl s kJ (fun W=>rfl) rfl fun b9 a w s=> ?_
  refine yJ (CU.agg (fQN sum)) ((fQN sum).tS) rfl s kJ rfl rfl rfl iiz iiz yO fun a w s=> ?_
  refine y6 (uB is) rfl s kJ iiz fun a w s=> ?_
  refine zB rfl ?_
  replace s:StS _ _ _ [⟨9,32,CU.agg (fQN sum),b9,true⟩] _ _ _ _:=s.freeze
  have hb:=s.below
  replace hFr:=hFr.trans (hb.mono hFr.size)
  replace hT:=hT.below hb
  replace hlj:=(SF.row 2 (jns js)).st _ _ _ hlj hb
  replace hlw:=(SF.row 1 (ins wl)).st _ _ _ hlw hb
  replace hlf:=(SF.row 3 (rvs 1 (qvs L))).st _ _ _ hlf hb
  replace s:=s.anewB rfl rfl
  refine zUP ?_
  refine zC 11 ((42, .Z (UF.eq lw))::(43, .s (wB (wC [.int .i64 (wl.getD 0 0)]).cf))::(44, .Z (uI (wl.getD 0 0)))::(45, .Z (UF.eq lw))::(46, .Z (UF.eq lw))::(47, .Z (uI ((ins wl).length:Int)))::(48, .Z (uI ((wl.length - 1:Nat):Int)))::(49, .s (wB (wC [.int .i64 (wl.getD (wl.length - 1) 0)]).cf))::(50, .Z (uI (wl.getD (wl.length - 1) 0)))::(11, .u (uI (wl.getD 0 0)))::(12, .u (uI (wl.getD (wl.length - 1) 0))):: []) hmix s kJ
   (oc zA<|oc (zQ (z:=1) (Cs:=ins wl) (i:=0) (C:=wC [.int .i64 (wl.getD 0 0)]) kJ (jI hwl0) (fun v W hb h=>(y7 hlw h (s.up hb))) iiz)<|oc (yG (C:=(wC [.int .i64 (wl.getD 0 0)]).cf) kJ iiz y4)<|oc zA<|oc zA<|oc (jA (z:=1) (Cs:=ins wl) kJ (fun v W hb h=>(y7 hlw h (s.up hb))) (fun _=>rfl))<|oc (zAF .i64 ((ins wl).length:Int) 1 ((wl.length - 1:Nat):Int) iiz iiz (by rw [zUR];exact wrap64 _ _ oQ oQ))<|oc (zQ (z:=1) (Cs:=ins wl) (i:=(wl.length - 1)) (C:=wC [.int .i64 (wl.getD (wl.length - 1) 0)]) kJ (jI oQ) (fun v W hb h=>(y7 hlw h (s.up hb))) iiz)<|oc (yG (C:=(wC [.int .i64 (wl.getD (wl.length - 1) 0)]).cf) kJ iiz y4)<|oc zG<|oc zG<|zE) fun a w5 s=> ?_
  refine zB rfl ?_
  replace s:StS _ _ _ [⟨9,32,CU.agg (fQN sum),b9,true⟩] _ _ _ _:=s.freeze
  have hb:=s.below
  replace hFr:=hFr.trans (hb.mono hFr.size)
  replace hT:=hT.below hb
  replace hlj:=(SF.row 2 (jns js)).st _ _ _ hlj hb
  replace hlw:=(SF.row 1 (ins wl)).st _ _ _ hlw hb
  replace hlf:=(SF.row 3 (rvs 1 (qvs L))).st _ _ _ hlf hb
  replace s:=s.anewB rfl rfl
  refine zUP ?_
  refine jM 10 ((52, .Z (uI n))::(53, .Z (UF.eq lj))::(54, .Z (UF.eq lq))::(55, .Z (uI (wl.getD 0 0)))::(56, .Z (uI (wl.getD (wl.length - 1) 0)))::(57, .s (wL (wE w5 3 1 (ins way)) ((fQN qc).tS) ((uB ok).tS)))::(51, .s (wL (wE w5 3 1 (ins way)) ((fQN qc).tS) ((uB ok).tS)))::(58, .s (wE w5 3 1 (ins way)))::(59, .u (fQN qc))::(60, .u (uB ok)):: []) hmix s kJ
   (oc zA<|oc zA<|oc zA<|oc zA<|oc zA<|oc (zFT zF zPZ (fun u0 u1 u2 u3 u4 W hb (h0:u0= .int .i64 n) (h1:u1=lj) (h2:u2=lq) (h3:u3= .int .i64 (wl.getD 0 0)) (h4:u4= .int .i64 (wl.getD (wl.length - 1) 0))=>(zFI (n:=n) (N:=N) (x:=(wl.getD 0 0)) (z:=(wl.getD (wl.length - 1) 0)) (js:=js) (fs:=qvs L) h0 (y7 hlj h1 (s.up hb)) (y7 hlf h2 (s.up hb)) h3 h4 hNz hB (hT.below (s.up hb))).mono (wG (fun v W h=>zPI hLe (s.up hb).size h))))<|oc zA<|oc (zCV (A:=wE w5 3 1 (ins way)) (B:=(fQN qc).tS) (C:=(uB ok).tS) iiz)<|oc (zCU (A:=wE w5 3 1 (ins way)) (B:=(fQN qc).tS) (C:=(uB ok).tS) iiz)<|oc (zCT (A:=wE w5 3 1 (ins way)) (B:=(fQN qc).tS) (C:=(uB ok).tS) iiz)<|zE) fun a w6 s hr=> ?_
  obtain ⟨lv,e58⟩: ∃v,a.tmps.getD 58 undef=v:=⟨_,rfl⟩
  have hlv:=(hr (_,_) mz7)
  rw [show a.tmps.getD _ undef=lv from e58] at hlv
  replace hlv:=jD.row hlv
  replace s:=s.learn 58 _ e58
  have hb:=s.below
  replace hFr:=hFr.trans (hb.mono hFr.size)
  replace hT:=hT.below hb
  replace hlj:=(SF.row 2 (jns js)).st _ _ _ hlj hb
  replace hlw:=(SF.row 1 (ins wl)).st _ _ _ hlw hb
  replace hlf:=(SF.row 3 (rvs 1 (qvs L))).st _ _ _ hlf hb
  replace s:=s.anewB rfl rfl
  refine yS (CU.len 3) (cs:=zR3) kJ rfl s kJ (fun W=>rfl) rfl fun b14 a w s=> ?_
  refine y6 (UF.eq lv) rfl s kJ iiz fun a w s=> ?_
  refine yJ (CU.agg (fQN qc)) ((fQN qc).tS) rfl s kJ rfl rfl rfl iiz iiz yO fun a w s=> ?_
  refine y6 (uB ok) rfl s kJ iiz fun a w s=> ?_
  refine zB rfl ?_
  replace s:StS _ _ _ [⟨14,32,CU.agg (fQN qc),b14,true⟩,⟨9,32,CU.agg (fQN sum),b9,true⟩] _ _ _ _:=s.freeze
  have hb:=s.below
  replace hFr:=hFr.trans (hb.mono hFr.size)
  replace hT:=hT.below hb
  replace hlj:=(SF.row 2 (jns js)).st _ _ _ hlj hb
  replace hlw:=(SF.row 1 (ins wl)).st _ _ _ hlw hb
  replace hlf:=(SF.row 3 (rvs 1 (qvs L))).st _ _ _ hlf hb
  replace hlv:=(SF.row 1 (ins way)).st _ _ _ hlv hb
  replace s:=s.anewB rfl rfl
  refine zUP ?_
  refine zUP ?_
  refine zC 2 ((61, .Z (uB ok))::(62, .u (uB (!ok))):: []) hmix s kJ
   (oc zA<|oc (zAG ok iiz (fun _=>rfl))<|zE) fun a w7 s=> ?_
  refine zB rfl ?_
  replace s:StS _ _ _ [⟨14,32,CU.agg (fQN qc),b14,true⟩,⟨9,32,CU.agg (fQN sum),b9,true⟩] _ _ _ _:=s.freeze
  have hb:=s.below
  replace hFr:=hFr.trans (hb.mono hFr.size)
  replace hT:=hT.below hb
  replace hlj:=(SF.row 2 (jns js)).st _ _ _ hlj hb
  replace hlw:=(SF.row 1 (ins wl)).st _ _ _ hlw hb
  replace hlf:=(SF.row 3 (rvs 1 (qvs L))).st _ _ _ hlf hb
  replace hlv:=(SF.row 1 (ins way)).st _ _ _ hlv hb
  replace s:=s.anewB rfl rfl
  refine StS.cond s (!ok) iiz (fun e=> ?_) (fun e=> ?_)
  ·have hok:ok=false:=by simpa using e
   obtain ⟨g1,g2,g3⟩:=hlaw1 hok
   refine zUP ?_
   replace s:=s.drop [8]
   refine zC 16 ((63, .Z (uB is))::(64, .Z (uB true))::(65, .Z (uB true))::(66, .Z (UF.eq lv))::(67, .Z (uI ((ins way).length:Int)))::(68, .Z (uB true))::(69, .Z (uB true))::(70, .Z (uB true))::(71, .Z (fQN qc))::(72, .Z (uI (qc.num.sign)))::(73, .Z (uB true))::(74, .Z (uB true))::(75, .Z (uB true))::(76, .Z (uB true))::(77, .Z (uB true))::(8, .u (uB true)):: []) hmix s kJ
    (oc zA<|oc (zAG is iiz (fun _=>zUX Value.bool (by rw [g1];rfl)))<|oc zA<|oc (zD 65 true kJ iiz (fun _=>zA) arf)<|oc (zD 65 true kJ iiz (fun _=>jA (z:=1) (Cs:=ins way) kJ (fun v W hb h=>(y7 hlv h (s.up hb))) (fun _=>rfl)) arf)<|oc (zD 65 true kJ iiz (fun _=>zN .i64 ((ins way).length:Int) 0 true iiz iiz (by rw [g2];rfl) rfl) arf)<|oc (zX true iiz (fun _ _ _ h=>h) (fun e=>by cases e))<|oc zA<|oc (zD 70 true kJ iiz (fun _=>yP (f:=fQN qc) 3 kJ (hz:=qJ _)) arf)<|oc (zD 70 true kJ iiz (fun _=>zM zF zRn (fun u0 W hb (h0:QNp qc u0 W)=>zIw (m:=1) (wI h0 hqc) dC)) arf)<|oc (zD 70 true kJ iiz (fun _=>zN .i64 (qc.num.sign) 0 true iiz iiz (by rw [g3];decide+kernel) rfl) arf)<|oc (zX true iiz (fun _ _ _ h=>h) (fun e=>by cases e))<|oc zA<|oc (zD 75 true kJ iiz (fun _=>zD0 zF zRH (fun W hb=>zFz (hT.below (s.up hb)))) arf)<|oc (zX true iiz (fun _ _ _ h=>h) (fun e=>by cases e))<|oc zG<|zE) fun a w8 s=> ?_
   refine zB rfl ?_
   replace s:StS _ _ _ [⟨14,32,CU.agg (fQN qc),b14,true⟩,⟨9,32,CU.agg (fQN sum),b9,true⟩] _ _ _ _:=s.freeze
   have hb:=s.below
   replace hFr:=hFr.trans (hb.mono hFr.size)
   replace hT:=hT.below hb
   replace hlj:=(SF.row 2 (jns js)).st _ _ _ hlj hb
   replace hlw:=(SF.row 1 (ins wl)).st _ _ _ hlw hb
   replace hlf:=(SF.row 3 (rvs 1 (qvs L))).st _ _ _ hlf hb
   replace hlv:=(SF.row 1 (ins way)).st _ _ _ hlv hb
   replace s:=s.anewB rfl rfl
   refine zUT ?_
   exact wU s hFr rfl iiz
  ·have hok:ok=true:=by simpa using e
   obtain ⟨g1,g2,g3,g4,g5⟩:=hlaw2 hok
   refine zUQ ?_
   refine zUP ?_
   refine zC 8 ((79, .Z (uI n))::(80, .Z (UF.eq lj))::(81, .Z (UF.eq lq))::(82, .Z (UF.eq lv))::(83, .Z (zBX (fQN qc) (uB true)))::(78, .Z (zBX (fQN qc) (uB true)))::(84, .u (fQN qc))::(85, .u (uB true)):: []) hmix s kJ
    (oc zA<|oc zA<|oc zA<|oc zA<|oc (zIL zF zTc (fun u0 u1 u2 u3 W hb (h0:u0= .int .i64 n) (h1:u1=lj) (h2:u2=lq) (h3:u3=lv)=>(zGJ (n:=n) (N:=N) (js:=js) (fs:=qvs L) h0 (y7 hlj h1 (s.up hb)) (y7 hlf h2 (s.up hb)) (y7 hlv h3 (s.up hb))  hwy hNz hB (hT.below (s.up hb))).mono (wG (fun v W h=>zNQ g1 h))))<|oc zA<|oc (zBx (A:=(fQN qc).tS) (B:=(uB true).tS) iiz)<|oc (zBw (A:=(fQN qc).tS) (B:=(uB true).tS) iiz)<|zE) fun a w9 s=> ?_
   refine yS (CU.len 3) (cs:=zR3) kJ rfl s kJ (fun W=>rfl) rfl fun b16 a w s=> ?_
   refine yJ (CU.agg (fQN qc)) ((fQN qc).tS) rfl s kJ rfl rfl rfl iiz iiz yO fun a w s=> ?_
   refine y6 (uB true) rfl s kJ iiz fun a w s=> ?_
   refine zB rfl ?_
   replace s:StS _ _ _ [⟨16,32,CU.agg (fQN qc),b16,true⟩,⟨14,32,CU.agg (fQN qc),b14,true⟩,⟨9,32,CU.agg (fQN sum),b9,true⟩] _ _ _ _:=s.freeze
   have hb:=s.below
   replace hFr:=hFr.trans (hb.mono hFr.size)
   replace hT:=hT.below hb
   replace hlj:=(SF.row 2 (jns js)).st _ _ _ hlj hb
   replace hlw:=(SF.row 1 (ins wl)).st _ _ _ hlw hb
   replace hlf:=(SF.row 3 (rvs 1 (qvs L))).st _ _ _ hlf hb
   replace hlv:=(SF.row 1 (ins way)).st _ _ _ hlv hb
   replace s:=s.anewB rfl rfl
   refine zUP ?_
   refine zUP ?_
   refine zC 30 ((86, .Z (uB true))::(87, .Z (uB false))::(88, .Z (uB false))::(89, .Z (fQN qc))::(90, .Z (fQN qc))::(91, .Z (uB true))::(92, .Z (uB false))::(93, .Z (uB false))::(94, .Z (uB false))::(95, .Z (UF.eq lv))::(96, .Z (uI ((ins way).length:Int)))::(97, .Z (uB false))::(98, .Z (uB false))::(99, .Z (uB false))::(100, .Z (UF.eq lv))::(101, .s (wB (wC [.int .i64 (way.getD 0 0)]).cf))::(102, .Z (uI (way.getD 0 0)))::(103, .Z (uI (wl.getD 0 0)))::(104, .Z (uB false))::(105, .Z (uB false))::(106, .Z (uB false))::(107, .Z (UF.eq lv))::(108, .Z (UF.eq lv))::(109, .Z (uI ((ins way).length:Int)))::(110, .Z (uI ((way.length - 1:Nat):Int)))::(111, .s (wB (wC [.int .i64 (way.getD (way.length - 1) 0)]).cf))::(112, .Z (uI (way.getD (way.length - 1) 0)))::(113, .Z (uI (wl.getD (wl.length - 1) 0)))::(114, .Z (uB false))::(115, .u (uB false)):: []) hmix s kJ
    (oc zA<|oc (zAG true iiz (fun _=>rfl))<|oc zA<|oc (zD 88 false kJ iiz (fun _=>yP (f:=fQN qc) 3 kJ (hz:=qJ _)) arf)<|oc (zD 88 false kJ iiz (fun _=>yP (f:=fQN qc) 3 kJ (hz:=qJ _)) arf)<|oc (zD 88 false kJ iiz (fun _=>yF zF zRm (fun u0 u1 W hb (h0:QNp qc u0 W) (h1:QNp qc u1 W)=>(zIx (m:=1) (p:=qc) (q:=qc) (wI h0 hqc) (wI h1 hqc) dC dC).mono (wG (fun v W h=>by rw [zMU] at h;exact h)))) arf)<|oc (zD 88 false kJ iiz (fun _=>zAG true iiz (fun _=>rfl)) arf)<|oc (zX false iiz (fun e=>by cases e) (fun _ _ _ h=>h))<|oc zA<|oc (zD 94 false kJ iiz (fun _=>zA) arf)<|oc (zD 94 false kJ iiz (fun _=>jA (z:=1) (Cs:=ins way) kJ (fun v W hb h=>(y7 hlv h (s.up hb))) (fun _=>rfl)) arf)<|oc (zD 94 false kJ iiz (fun _=>zN .i64 ((ins way).length:Int) 0 false iiz iiz (by rw [zUR,beq_eq_false_iff_ne];omega) rfl) arf)<|oc (zX false iiz (fun e=>by cases e) (fun _ _ _ h=>h))<|oc zA<|oc (zD 99 false kJ iiz (fun _=>zA) arf)<|oc (zD 99 false kJ iiz (fun _=>zQ (z:=1) (Cs:=ins way) (i:=0) (C:=wC [.int .i64 (way.getD 0 0)]) kJ (jI g2) (fun v W hb h=>(y7 hlv h (s.up hb))) iiz) arf)<|oc (zD 99 false kJ iiz (fun _=>yG (C:=(wC [.int .i64 (way.getD 0 0)]).cf) kJ iiz y4) arf)<|oc (zD 99 false kJ iiz (fun _=>zA) arf)<|oc (zD 99 false kJ iiz (fun _=>zN .i64 (way.getD 0 0) (wl.getD 0 0) false iiz iiz (by rw [g3];simp) rfl) arf)<|oc (zX false iiz (fun e=>by cases e) (fun _ _ _ h=>h))<|oc zA<|oc (zD 106 false kJ iiz (fun _=>zA) arf)<|oc (zD 106 false kJ iiz (fun _=>zA) arf)<|oc (zD 106 false kJ iiz (fun _=>jA (z:=1) (Cs:=ins way) kJ (fun v W hb h=>(y7 hlv h (s.up hb))) (fun _=>rfl)) arf)<|oc (zD 106 false kJ iiz (fun _=>zAF .i64 ((ins way).length:Int) 1 ((way.length - 1:Nat):Int) iiz iiz (by rw [zUR];exact wrap64 _ _ oQ oQ)) arf)<|oc (zD 106 false kJ iiz (fun _=>zQ (z:=1) (Cs:=ins way) (i:=(way.length - 1)) (C:=wC [.int .i64 (way.getD (way.length - 1) 0)]) kJ (jI oQ) (fun v W hb h=>(y7 hlv h (s.up hb))) iiz) arf)<|oc (zD 106 false kJ iiz (fun _=>yG (C:=(wC [.int .i64 (way.getD (way.length - 1) 0)]).cf) kJ iiz y4) arf)<|oc (zD 106 false kJ iiz (fun _=>zA) arf)<|oc (zD 106 false kJ iiz (fun _=>zN .i64 (way.getD (way.length - 1) 0) (wl.getD (wl.length - 1) 0) false iiz iiz (by rw [g4];simp) rfl) arf)<|oc (zX false iiz (fun e=>by cases e) (fun _ _ _ h=>h))<|zE) fun a w10 s=> ?_
   refine zB rfl ?_
   replace s:StS _ _ _ [⟨16,32,CU.agg (fQN qc),b16,true⟩,⟨14,32,CU.agg (fQN qc),b14,true⟩,⟨9,32,CU.agg (fQN sum),b9,true⟩] _ _ _ _:=s.freeze
   have hb:=s.below
   replace hFr:=hFr.trans (hb.mono hFr.size)
   replace hT:=hT.below hb
   replace hlj:=(SF.row 2 (jns js)).st _ _ _ hlj hb
   replace hlw:=(SF.row 1 (ins wl)).st _ _ _ hlw hb
   replace hlf:=(SF.row 3 (rvs 1 (qvs L))).st _ _ _ hlf hb
   replace hlv:=(SF.row 1 (ins way)).st _ _ _ hlv hb
   replace s:=s.anewB rfl rfl
   refine StS.cond s false iiz (fun e=>by cases e) (fun e=> ?_)
   refine zUQ ?_
   refine zUP ?_
   refine zUP ?_
   refine zC 2 ((116, .Z (uB is))::(117, .u (uB (!is))):: []) hmix s kJ
    (oc zA<|oc (zAG is iiz (fun _=>rfl))<|zE) fun a w11 s=> ?_
   refine zB rfl ?_
   replace s:StS _ _ _ [⟨16,32,CU.agg (fQN qc),b16,true⟩,⟨14,32,CU.agg (fQN qc),b14,true⟩,⟨9,32,CU.agg (fQN sum),b9,true⟩] _ _ _ _:=s.freeze
   have hb:=s.below
   replace hFr:=hFr.trans (hb.mono hFr.size)
   replace hT:=hT.below hb
   replace hlj:=(SF.row 2 (jns js)).st _ _ _ hlj hb
   replace hlw:=(SF.row 1 (ins wl)).st _ _ _ hlw hb
   replace hlf:=(SF.row 3 (rvs 1 (qvs L))).st _ _ _ hlf hb
   replace hlv:=(SF.row 1 (ins way)).st _ _ _ hlv hb
   replace s:=s.anewB rfl rfl
   refine StS.cond s (!is) iiz (fun e=> ?_) (fun e=> ?_)
   ·refine zUP ?_
    replace s:=s.drop [8]
    refine zC 2 ((118, .Z (uB true))::(8, .u (uB true)):: []) hmix s kJ
     (oc (zD0 zF zRH (fun W hb=>zFz (hT.below (s.up hb))))<|oc zG<|zE) fun a w12 s=> ?_
    refine zB rfl ?_
    replace s:StS _ _ _ [⟨16,32,CU.agg (fQN qc),b16,true⟩,⟨14,32,CU.agg (fQN qc),b14,true⟩,⟨9,32,CU.agg (fQN sum),b9,true⟩] _ _ _ _:=s.freeze
    have hb:=s.below
    replace hFr:=hFr.trans (hb.mono hFr.size)
    replace hT:=hT.below hb
    replace hlj:=(SF.row 2 (jns js)).st _ _ _ hlj hb
    replace hlw:=(SF.row 1 (ins wl)).st _ _ _ hlw hb
    replace hlf:=(SF.row 3 (rvs 1 (qvs L))).st _ _ _ hlf hb
    replace hlv:=(SF.row 1 (ins way)).st _ _ _ hlv hb
    replace s:=s.anewB rfl rfl
    refine zUT ?_
    exact wU s hFr rfl iiz
   ·have his:is=true:=by simpa using e
    have hlt:=g5 his
    have hle:qc<=sum:=by rcases hlt with h|h;exact Rat.le_of_lt h;rw [h.1];exact Rat.le_refl
    refine zUQ ?_
    refine zUP ?_
    refine zC 4 ((119, .Z (fQN qc))::(120, .Z (fQN sum))::(121, .Z (uI (qsg qc sum)))::(18, .u (uI (qsg qc sum))):: []) hmix s kJ
     (oc (yP (f:=fQN qc) 3 kJ (hz:=qJ _))<|oc (yP (f:=fQN sum) 3 kJ (hz:=qJ _))<|oc (yF zF zPY (fun u0 u1 W hb (h0:QNp qc u0 W) (h1:QNp sum u1 W)=>zHB (m:=1) (wI h0 hqc) (wI h1 hqs) dC dC))<|oc zG<|zE) fun a w13 s=> ?_
    refine zB rfl ?_
    replace s:StS _ _ _ [⟨16,32,CU.agg (fQN qc),b16,true⟩,⟨14,32,CU.agg (fQN qc),b14,true⟩,⟨9,32,CU.agg (fQN sum),b9,true⟩] _ _ _ _:=s.freeze
    have hb:=s.below
    replace hFr:=hFr.trans (hb.mono hFr.size)
    replace hT:=hT.below hb
    replace hlj:=(SF.row 2 (jns js)).st _ _ _ hlj hb
    replace hlw:=(SF.row 1 (ins wl)).st _ _ _ hlw hb
    replace hlf:=(SF.row 3 (rvs 1 (qvs L))).st _ _ _ hlf hb
    replace hlv:=(SF.row 1 (ins way)).st _ _ _ hlv hb
    replace s:=s.anewB rfl rfl
    refine zUP ?_
    replace s:=s.drop [8]
    refine zC 17 ((122, .Z (uI (qsg qc sum)))::(123, .Z (uB true))::(124, .Z (uB true))::(125, .Z (uI (qsg qc sum)))::(126, .Z (uB (decide ((qsg qc sum)<0))))::(127, .Z (uB (decide ((qsg qc sum)<0))))::(128, .s (SF.imp ((decide ((qsg qc sum)<0))=false) ((UF.eq lv).tS)))::(129, .s (SF.imp ((decide ((qsg qc sum)<0))=false) ((uI ((ins way).length:Int)).tS)))::(130, .s (SF.imp ((decide ((qsg qc sum)<0))=false) ((UF.eq lw).tS)))::(131, .s (SF.imp ((decide ((qsg qc sum)<0))=false) ((uI ((ins wl).length:Int)).tS)))::(132, .s (SF.imp ((decide ((qsg qc sum)<0))=false) ((uB (decide (((ins way).length:Int)<=((ins wl).length:Int)))).tS)))::(133, .Z (uB true))::(134, .Z (uB true))::(135, .Z (uB true))::(136, .Z (uB true))::(137, .Z (uB true))::(8, .u (uB true)):: []) hmix s kJ
     (oc zA<|oc (zN .i64 (qsg qc sum) 0 true iiz iiz (zPp hle) rfl)<|oc zA<|oc (zD 124 true kJ iiz (fun _=>zA) arf)<|oc (zD 124 true kJ iiz (fun _=>zN .i64 (qsg qc sum) 0 (decide ((qsg qc sum)<0)) iiz iiz rfl rfl) arf)<|oc (zD 124 true kJ iiz (fun _=>zA) arf)<|oc (zD 127 (decide ((qsg qc sum)<0)) kJ iiz (fun e=>zJ [] ((UF.eq lv).tS) fnz (fun _ _ h _=>h) kJ zA) (fun e W h=>absurd h e))<|oc (zD 127 (decide ((qsg qc sum)<0)) kJ iiz (fun e=>zJ [(128,(UF.eq lv).tS)] ((uI ((ins way).length:Int)).tS) (fmz ⟨fun v W h=>zI (c:=(decide ((qsg qc sum)<0))=false) (f:=(UF.eq lv).tS) e h,fnz⟩) (fun _ _ h _=>h) kJ (jA (z:=1) (Cs:=ins way) kJ (fun v W hb h=>(y7 hlv h (s.up hb))) (fun _=>rfl))) (fun e W h=>absurd h e))<|oc (zD 127 (decide ((qsg qc sum)<0)) kJ iiz (fun e=>zJ [] ((UF.eq lw).tS) fnz (fun _ _ h _=>h) kJ zA) (fun e W h=>absurd h e))<|oc (zD 127 (decide ((qsg qc sum)<0)) kJ iiz (fun e=>zJ [(130,(UF.eq lw).tS)] ((uI ((ins wl).length:Int)).tS) (fmz ⟨fun v W h=>zI (c:=(decide ((qsg qc sum)<0))=false) (f:=(UF.eq lw).tS) e h,fnz⟩) (fun _ _ h _=>h) kJ (jA (z:=1) (Cs:=ins wl) kJ (fun v W hb h=>(y7 hlw h (s.up hb))) (fun _=>rfl))) (fun e W h=>absurd h e))<|oc (zD 127 (decide ((qsg qc sum)<0)) kJ iiz (fun e=>zJ [(129,(uI ((ins way).length:Int)).tS),(131,(uI ((ins wl).length:Int)).tS)] ((uB (decide (((ins way).length:Int)<=((ins wl).length:Int)))).tS) (fmz ⟨fun v W h=>zI (c:=(decide ((qsg qc sum)<0))=false) (f:=(uI ((ins way).length:Int)).tS) e h,fmz ⟨fun v W h=>zI (c:=(decide ((qsg qc sum)<0))=false) (f:=(uI ((ins wl).length:Int)).tS) e h,fnz⟩⟩) (fun _ _ h _=>h) kJ (zN .i64 ((ins way).length:Int) ((ins wl).length:Int) (decide (((ins way).length:Int)<=((ins wl).length:Int))) iiz iiz rfl rfl)) (fun e W h=>absurd h e))<|oc (zD 124 true kJ iiz (fun _=>zX (decide ((qsg qc sum)<0)) iiz (fun e v W h=>h) (fun e v W h=>(zI e h).trans (zUX Value.bool (by have h7:=zPo hlt e;rw [zUR,zUR];exact decide_eq_true oQ)))) arf)<|oc (zX true iiz (fun _ _ _ h=>h) (fun e=>by cases e))<|oc zA<|oc (zD 135 true kJ iiz (fun _=>zD0 zF zRH (fun W hb=>zFz (hT.below (s.up hb)))) arf)<|oc (zX true iiz (fun _ _ _ h=>h) (fun e=>by cases e))<|oc zG<|zE) fun a w14 s=> ?_
    refine zB rfl ?_
    replace s:StS _ _ _ [⟨16,32,CU.agg (fQN qc),b16,true⟩,⟨14,32,CU.agg (fQN qc),b14,true⟩,⟨9,32,CU.agg (fQN sum),b9,true⟩] _ _ _ _:=s.freeze
    have hb:=s.below
    replace hFr:=hFr.trans (hb.mono hFr.size)
    replace hT:=hT.below hb
    replace hlj:=(SF.row 2 (jns js)).st _ _ _ hlj hb
    replace hlw:=(SF.row 1 (ins wl)).st _ _ _ hlw hb
    replace hlf:=(SF.row 3 (rvs 1 (qvs L))).st _ _ _ hlf hb
    replace hlv:=(SF.row 1 (ins way)).st _ _ _ hlv hb
    replace s:=s.anewB rfl rfl
    refine zUT ?_
    exact wU s hFr rfl iiz
end Go.Proofs.Wd
