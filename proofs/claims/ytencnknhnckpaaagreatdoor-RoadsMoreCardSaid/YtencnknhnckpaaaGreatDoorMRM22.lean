/- Walks of package roads: Least; Walks of straitlaw28: wakes; Walks of s and what it needs. -/
import Derived.Test.YtencnknhnckpaaaGreatDoorMRM21
theorem kJ {P:Prop} (h:P:=by kernel_rfl):P:=h
theorem oQ {P:Prop} (h:P:=by omega):P:=h
theorem dC {P:Prop} (h:P:=by decide):P:=h
abbrev zVc:=@Go.wpIn_seq
abbrev zVd:=@List.length_map
abbrev zVe:=@Go.RowKit.Below.refl
abbrev zVf:=@Go.wpIn_skip
abbrev zVg:=@Go.wpIn_block
abbrev zVh:=@of_decide_eq_true
abbrev zVi:=@List.getD_eq_getElem?_getD
abbrev zVj:=@List.length_singleton
abbrev zVk:=@Go.wpIn_ret
abbrev zVl:=@Go.wpIn_exit
abbrev zVm:=@List.mem_singleton
abbrev zVn:=@Nat.zero_le
abbrev zVo:=@of_decide_eq_false
abbrev zVp:=@Nat.le_refl
abbrev zVq:=@List.getElem?_eq_getElem
abbrev zVr:=@List.getElem_mem
abbrev zVs:=@List.mem_map
abbrev zVt:=@Bool.or_eq_false_iff
abbrev zVu:=@List.mem_cons
abbrev zVv:=@List.not_mem_nil
abbrev zVw:=@List.getElem?_replicate
abbrev zVx:=@Go.World.alloc_heap_new
abbrev zVy:=@List.take_of_length_le
abbrev zVz:=@List.take_succ_eq_append_getElem
abbrev zVA:=@List.map_append
abbrev zVB:=@List.length_take
abbrev zVC:=@List.length_reverse
abbrev Wu:=Go.World
abbrev Wv:=Go.Value
namespace Go.Proofs.Wd
open Tryz
set_option maxRecDepth 100000
set_option maxHeartbeats 1000000
open Go.RowKit Lb
theorem zQb (td:List Nat) (a:Nat):ins (jO td)++ [wB [.int .i64 (a:Int)]]=ins (jO (td++ [a])):=by simp [jO]
def zLI (W:Wu) (r:List Int×Rat×Bool):SF:=wM (wE W 3 1 (ins r.1)) (fQN r.2.1).tS (fB r.2.2).tS
theorem zIx {W:Wu} {n x z:Int} {N:Nat} {js:List (Int×Int)} {fs:List Rat} {u lj lf v t:Wv} (hu:u= .int .i64 n) (hj:(SF.row 2 (jns js)).p lj W) (hf:(SF.row 3 (rvs 1 fs)).p lf W) (hv:v= .int .i64 x) (ht:t= .int .i64 z) (hNz:min (max n 0) 131072=(N:Int)) (hB:GrB N js fs) (hT:Tab W):Calls prog 10 #[u,lj,lf,v,t] W (Ret W (zLI W (jI (grE N js fs) N x z))):=by
  have hFr:Below W.heap.size W W:=zVe _ _
  have hGk:Gok (grE N js fs) N:=zGb _ _ _
  have hSy: ∀a b f,(b,f)∈(grE N js fs) a->(a,f)∈(grE N js fs) b:=fun a b f h=>zOI h
  refine qH [(uI n).tS,(UF.eq lj).tS,(UF.eq lf).tS,(uI x).tS,(uI z).tS] func10 rfl kJ ⟨hu,rfl,rfl,hv,ht,trivial⟩ fun a s=> ?_
  replace s:=s.renew [(0, .u (uI n)),(1, .u (UF.eq lj)),(2, .u (UF.eq lf)),(3, .u (uI x)),(4, .u (uI z))] (fmz ⟨.inr ⟨_,rfl, .head _⟩,fmz ⟨.inr ⟨_,rfl,mz1⟩,fmz ⟨.inr ⟨_,rfl,mz2⟩,fmz ⟨.inr ⟨_,rfl,mz3⟩,fmz ⟨.inr ⟨_,rfl,mz4⟩,fnz⟩⟩⟩⟩⟩)
  refine zVc ?_
  refine zC 1 ((10, .u (UF.eq (.slice none 0 0))):: []) hmix s kJ
    (oc zG<|zE) fun a w1 s=> ?_
  refine qJ (CU.len 3) (cs:=zR3) kJ rfl s kJ (fun W=>rfl) rfl fun b11 a w s=> ?_
  refine qN (uB false) rfl s kJ iiz fun a w s=> ?_
  refine zB rfl ?_
  have hb11:=s.inB_new (q:=b11) ⟨_, .head _,rfl,rfl⟩
  obtain ⟨c11,h11_,e11,n11⟩:=s.boxAt (c:=11) rfl
  have h11:=zRN (C:=CU.len 3) h11_ e11 n11 e11
  replace s:=(s.learn 11 _ (s.bx.mem _ (.head _)).choose_spec.1).popB
  have hb:=s.below
  replace hFr:=hFr.trans (hb.mono hFr.size)
  replace s:=s.anewB rfl rfl
  refine zVc ?_
  refine qU 5 ((20, .Z (uI n))::(21, .Z (UF.eq lj))::(22, .Z (UF.eq lf))::(23, .s (fG (glN N (rds N js fs))))::(13, .s (fG (glN N (rds N js fs)))):: []) hmix s kJ
    (oc zA<|oc zA<|oc zA<|oc (zD7 zF zQn (fun u0 u1 u2 W hb (h0:u0= .int .i64 n) (h1:u1=lj) (h2:u2=lf)=>zH1 h0 (by rw [h1];exact (SF.row 2 (jns js)).st _ _ _ hj (hFr.trans ((s.up hb).mono hFr.size))) (by rw [h2];exact (SF.row 3 (rvs 1 fs)).st _ _ _ hf (hFr.trans ((s.up hb).mono hFr.size))) hNz hB.hN hB.hj ((hT.below hFr).below (s.up hb))))<|oc zG<|zE) fun a w2 s hr=> ?_
  refine zB rfl ?_
  obtain ⟨gg,cap,vs,e13,hG⟩:=(hr (_,_) mz4)
  rw [zAi] at e13
  replace s:=s.learn 13 _ e13
  have hb:=s.below
  replace hFr:=hFr.trans (hb.mono hFr.size)
  replace h11:=h11.below hb
  replace s:=s.anewB rfl rfl
  refine zVc ?_
  refine qU 8 ((25, .Z (UF.eq (.slice (some ⟨gg,0,none⟩) N cap)))::(26, .Z (uI x))::(27, .s (wI (wE w2 32 3 (qns (csR (grE N js fs) N x))) (wE w2 3 1 (ins (ssR (grE N js fs) N x)))))::(24, .s (wI (wE w2 32 3 (qns (csR (grE N js fs) N x))) (wE w2 3 1 (ins (ssR (grE N js fs) N x)))))::(28, .s (wE w2 32 3 (qns (csR (grE N js fs) N x))))::(29, .s (wE w2 3 1 (ins (ssR (grE N js fs) N x))))::(14, .s (wE w2 32 3 (qns (csR (grE N js fs) N x))))::(15, .s (wE w2 3 1 (ins (ssR (grE N js fs) N x)))):: []) hmix s kJ
    (oc zA<|oc zA<|oc (yB zF zRB (fun u0 u1 W hb (h0:u0=(.slice (some ⟨gg,0,none⟩) N cap)) (h1:u1= .int .i64 x)=>(zLW (js:=js) (fs:=fs) (by exact ⟨gg,cap,vs,by rw [zAi];exact h0,hG.below (s.up hb)⟩) h1 hB ((hT.below hFr).below (s.up hb))).mono (wG (fun v W h=>zDl (s.up hb).size h))))<|oc zA<|oc (zAK (A:=wE w2 32 3 (qns (csR (grE N js fs) N x))) (B:=wE w2 3 1 (ins (ssR (grE N js fs) N x))) iiz)<|oc (zAJ (A:=wE w2 32 3 (qns (csR (grE N js fs) N x))) (B:=wE w2 3 1 (ins (ssR (grE N js fs) N x))) iiz)<|oc zG<|oc zG<|zE) fun a w3 s hr=> ?_
  refine zB rfl ?_
  obtain ⟨cv,e14⟩: ∃v,a.tmps.getD 14 undef=v:=⟨_,rfl⟩
  obtain ⟨sv,e15⟩: ∃v,a.tmps.getD 15 undef=v:=⟨_,rfl⟩
  have hC:=(hr (_,_) mz6)
  have hS:=(hr (_,_) mz7)
  rw [show a.tmps.getD _ undef=cv from e14] at hC
  rw [show a.tmps.getD _ undef=sv from e15] at hS
  replace s:=(s.learn 14 _ e14).learn 15 _ e15
  replace hC:=y9.mono hC hFr.size
  replace hS:=y9.mono hS hFr.size
  obtain ⟨csv,ecs⟩: ∃c,csR (grE N js fs) N x=c:=⟨_,rfl⟩
  obtain ⟨ssv,ess⟩: ∃c,ssR (grE N js fs) N x=c:=⟨_,rfl⟩
  have hcl:csv.length=N:=by rw [<-ecs];exact (zLV _ _ _).1
  have hsl:ssv.length=N:=by rw [<-ess];exact (zLV _ _ _).2
  rw [ecs] at hC
  rw [ess] at hS
  have hb:=s.below
  replace hFr:=hFr.trans (hb.mono hFr.size)
  replace h11:=h11.below hb
  replace hG:=hG.below hb
  replace s:=s.anewB rfl rfl
  refine zVc ?_
  refine zVc ?_
  refine zC 17 ((30, .Z (UF.eq (.slice (some ⟨gg,0,none⟩) N cap)))::(31, .Z (uI x))::(32, .Z (uB (yS N x)))::(33, .Z (uB (!(yS N x))))::(34, .Z (uB (!(yS N x))))::(35, .s (SF.imp ((!(yS N x))=false) ((UF.eq (.slice (some ⟨gg,0,none⟩) N cap)).tS)))::(36, .s (SF.imp ((!(yS N x))=false) ((uI z).tS)))::(37, .s (SF.imp ((!(yS N x))=false) ((uB (yS N z)).tS)))::(38, .s (SF.imp ((!(yS N x))=false) ((uB (!(yS N z))).tS)))::(39, .Z (uB ((!(yS N x))||(!(yS N z)))))::(40, .Z (uB ((!(yS N x))||(!(yS N z)))))::(41, .s (SF.imp (((!(yS N x))||(!(yS N z)))=false) ((UF.eq sv).tS)))::(42, .s (SF.imp (((!(yS N x))||(!(yS N z)))=false) ((uI z).tS)))::(43, .s (SF.imp (((!(yS N x))||(!(yS N z)))=false) (wC (wB [.int .i64 (ssv.getD z.toNat 0)]).cf)))::(44, .s (SF.imp (((!(yS N x))||(!(yS N z)))=false) ((uI (ssv.getD z.toNat 0)).tS)))::(45, .s (SF.imp (((!(yS N x))||(!(yS N z)))=false) ((uB (decide ((ssv.getD z.toNat 0)<0))).tS)))::(46, .u (uB (((!(yS N x))||(!(yS N z)))||(decide ((ssv.getD z.toNat 0)<0))))):: []) hmix s kJ
    (oc zA<|oc zA<|oc (yB zF zLJ (fun u0 u1 W hb (h0:u0=(.slice (some ⟨gg,0,none⟩) N cap)) (h1:u1= .int .i64 x)=>zLv h0 h1))<|oc (zAT (yS N x) iiz (fun _=>rfl))<|oc zA<|oc (zD 34 (!(yS N x)) kJ iiz (fun e=>zL [] ((UF.eq (.slice (some ⟨gg,0,none⟩) N cap)).tS) fnz (fun _ _ h _=>h) kJ zA) (fun e W h=>absurd h e))<|oc (zD 34 (!(yS N x)) kJ iiz (fun e=>zL [] ((uI z).tS) fnz (fun _ _ h _=>h) kJ zA) (fun e W h=>absurd h e))<|oc (zD 34 (!(yS N x)) kJ iiz (fun e=>zL [(35,(UF.eq (.slice (some ⟨gg,0,none⟩) N cap)).tS),(36,(uI z).tS)] ((uB (yS N z)).tS) (fmz ⟨fun v W h=>zI (c:=(!(yS N x))=false) (f:=(UF.eq (.slice (some ⟨gg,0,none⟩) N cap)).tS) e h,fmz ⟨fun v W h=>zI (c:=(!(yS N x))=false) (f:=(uI z).tS) e h,fnz⟩⟩) (fun _ _ h _=>h) kJ (yB zF zLJ (fun u0 u1 W hb (h0:u0=(.slice (some ⟨gg,0,none⟩) N cap)) (h1:u1= .int .i64 z)=>zLv h0 h1))) (fun e W h=>absurd h e))<|oc (zD 34 (!(yS N x)) kJ iiz (fun e=>zL [(37,(uB (yS N z)).tS)] ((uB (!(yS N z))).tS) (fmz ⟨fun v W h=>zI (c:=(!(yS N x))=false) (f:=(uB (yS N z)).tS) e h,fnz⟩) (fun _ _ h _=>h) kJ (zAT (yS N z) iiz (fun _=>rfl))) (fun e W h=>absurd h e))<|oc (yE (!(yS N x)) iiz (fun e v W h=>zAV h e) (fun e v W h=>zAe (zI e h) e))<|oc zA<|oc (zD 40 ((!(yS N x))||(!(yS N z))) kJ iiz (fun e=>zL [] ((UF.eq sv).tS) fnz (fun _ _ h _=>h) kJ zA) (fun e W h=>absurd h e))<|oc (zD 40 ((!(yS N x))||(!(yS N z))) kJ iiz (fun e=>zL [] ((uI z).tS) fnz (fun _ _ h _=>h) kJ zA) (fun e W h=>absurd h e))<|oc (zD 40 ((!(yS N x))||(!(yS N z))) kJ iiz (fun e=>zL [(41,(UF.eq sv).tS),(42,(uI z).tS)] (wC (wB [.int .i64 (ssv.getD z.toNat 0)]).cf) (fmz ⟨fun v W h=>zI (c:=((!(yS N x))||(!(yS N z)))=false) (f:=(UF.eq sv).tS) e h,fmz ⟨fun v W h=>zI (c:=((!(yS N x))||(!(yS N z)))=false) (f:=(uI z).tS) e h,fnz⟩⟩) (fun _ _ h _=>h) kJ (zT (z:=1) (Cs:=ins ssv) (i:=z.toNat) (C:=wB [.int .i64 (ssv.getD z.toNat 0)]) kJ (zAY (by rw [hsl];exact (jX (zQf e).2).1)) (fun v W hb h=>by rw [show v=sv from h];exact (SF.row 1 (ins ssv)).st _ _ _ (y9.row hS) (s.up hb)) (fun _ _ h=>h.trans (congrArg (Value.int .i64) (jX (zQf e).2).2.symm)))) (fun e W h=>absurd h e))<|oc (zD 40 ((!(yS N x))||(!(yS N z))) kJ iiz (fun e=>zL [(43,wC (wB [.int .i64 (ssv.getD z.toNat 0)]).cf)] ((uI (ssv.getD z.toNat 0)).tS) (fmz ⟨fun v W h=>zI (c:=((!(yS N x))||(!(yS N z)))=false) (f:=wC (wB [.int .i64 (ssv.getD z.toNat 0)]).cf) e h,fnz⟩) (fun _ _ h _=>h) kJ (yR (C:=(wB [.int .i64 (ssv.getD z.toNat 0)]).cf) kJ iiz jF)) (fun e W h=>absurd h e))<|oc (zD 40 ((!(yS N x))||(!(yS N z))) kJ iiz (fun e=>zL [(44,(uI (ssv.getD z.toNat 0)).tS)] ((uB (decide ((ssv.getD z.toNat 0)<0))).tS) (fmz ⟨fun v W h=>zI (c:=((!(yS N x))||(!(yS N z)))=false) (f:=(uI (ssv.getD z.toNat 0)).tS) e h,fnz⟩) (fun _ _ h _=>h) kJ (zP .i64 (ssv.getD z.toNat 0) 0 (decide ((ssv.getD z.toNat 0)<0)) iiz iiz rfl rfl)) (fun e W h=>absurd h e))<|oc (yE ((!(yS N x))||(!(yS N z))) iiz (fun e v W h=>zAV h e) (fun e v W h=>zAe (zI e h) e))<|zE) fun a w4 s=> ?_
  refine zB rfl ?_
  have hb:=s.below
  replace hFr:=hFr.trans (hb.mono hFr.size)
  replace h11:=h11.below hb
  replace hG:=hG.below hb
  replace hC:=hC.below hb
  replace hS:=hS.below hb
  replace s:=s.anewB rfl rfl
  refine StS.cond s (((!(yS N x))||(!(yS N z)))||(decide ((ssv.getD z.toNat 0)<0))) iiz (fun e=> ?_) (fun e=> ?_)
  . have hres:jI (grE N js fs) N x z=([],0,false):=by unfold jI;rw [if_pos (by rw [ess];exact e)]
    refine zVc ?_
    replace s:=s.drop [10,12]
    refine zC 1 ((47, .u (fQN 0)):: []) hmix s kJ
      (oc (zM zF zNH (fun u0 W hb (h0:u0= .int .i64 0)=>zIu h0))<|zE) fun a w5 s=> ?_
    refine qN (UF.eq (.slice none 0 0)) rfl s kJ iiz fun a w s=> ?_
    have hb:=s.below
    replace hFr:=hFr.trans (hb.mono hFr.size)
    replace h11:=h11.below hb
    replace hG:=hG.below hb
    replace hC:=hC.below hb
    replace hS:=hS.below hb
    refine zCC (g:=b11) (i:=0) (cap:=1) (z:=3) (e:=32) (CU.agg (fQN 0)) rfl s rfl rfl h11 (by simp) kJ (s.fct (.tmp 11)) (zKP (s.fct (.tmp 47))) (fun q hq=>by cases hq) fun w hF1 hk1 h11 s=> ?_
    replace hFr:=yN hFr hF1 (fun q hq=>by rw [hq];exact hb11)
    refine qN (uB false) rfl s kJ iiz fun a w s=> ?_
    refine zB rfl ?_
    have hb:=s.below
    replace hFr:=hFr.trans (hb.mono hFr.size)
    replace h11:=h11.below hb
    replace s:=s.anewB rfl rfl
    refine zVk ?_
    obtain ⟨c11,g1,g2,g3⟩:=zON h11
    replace s:=s.home rfl rfl hFr
    exact vG s rfl kJ (s.fct (.tmp 11)) g1 g2 ⟨_,_,_,rfl,by rw [hres,show a.tmps.getD 10 undef= .slice none 0 0 from s.fct (.tmp 10)];exact y9.nil _ _ _ _,by rw [hres];exact g3,by rw [hres];exact s.fct (.tmp 12)⟩
  . have hres0:=e
    rw [zVt] at e
    obtain ⟨hx,hz⟩:=zQf e.1
    have hzs:=zVo e.2
    have hCS:=zES hGk hx
    rw [ecs,ess] at hCS
    obtain ⟨hxN,hxe⟩:=jX hx
    obtain ⟨hzN,hze⟩:=jX hz
    obtain ⟨xn,exn⟩: ∃k,x.toNat=k:=⟨_,rfl⟩
    obtain ⟨zn,ezn⟩: ∃k,z.toNat=k:=⟨_,rfl⟩
    rw [exn] at hxN hxe hCS
    rw [ezn] at hzN hze hzs
    rw [<-hxe, <-hze] at s
    obtain ⟨gc,capc,ec,hgc,hRc⟩:=zDF hC (by simp [hcl];omega)
    obtain ⟨gs,caps,es,hgs,hRs⟩:=zDF hS (by simp [hsl];omega)
    rw [show (qns csv).length=N by simp [hcl]] at ec
    rw [show (ins ssv).length=N by simp [hsl]] at es
    rw [ec,es] at s
    replace hC:=hRc
    replace hS:=hRs
    clear hRc hRs
    obtain ⟨s0,ho0,hs0,hs0N⟩:=hCS.of hzN oQ
    have hway:=zN4 hGk hSy hxN hCS s0 zn hzN hs0 ho0
    have hres:jI (grE N js fs) N x z=(jO ((zn::zHp (nxF (grE N js fs) N csv ssv) xn s0 zn).reverse),csv.getD zn 0,true):=by unfold jI;rw [if_neg (by rw [ess,hres0];decide),ecs,ess,exn,ezn,hs0];rfl
    clear hres0 e
    refine zVf ?_
    refine zVc ?_
    replace s:=s.drop [10]
    refine qU 3 ((48, .Z (uI (zn:Int)))::(49, .s (wE w4 3 1 [wB [.int .i64 (zn:Int)]]))::(10, .s (wE w4 3 1 [wB [.int .i64 (zn:Int)]])):: []) hmix s kJ
      (oc zA<|oc (jU (fun u W hb (hu:u= .int .i64 (zn:Int))=>by subst hu;exact ⟨_,_,zQV _,(zKc _ _).toN hb.size rfl⟩))<|oc zG<|zE) fun a w6 s hr=> ?_
    refine zB rfl ?_
    obtain ⟨tv,e10⟩: ∃v,a.tmps.getD 10 undef=v:=⟨_,rfl⟩
    have hTd:=(hr (_,_) mz2)
    rw [show a.tmps.getD _ undef=tv from e10] at hTd
    replace s:=s.learn 10 _ e10
    have hne: ∀q_,tv.ownBlock=some q_->q_≠gs:=fun q_ hq=>by have h1:=(hTd.lt q_ hq).1;have h2:=hS.lt;omega
    replace hTd:y9 w6 W.heap.size 3 1 tv (ins (jO [zn])):=hTd.mono hFr.size
    have hb:=s.below
    replace hFr:=hFr.trans (hb.mono hFr.size)
    replace h11:=h11.below hb
    replace hG:=hG.below hb
    replace hC:=hC.below hb
    replace hS:=hS.below hb
    replace s:=s.anewB rfl rfl
    refine zVc ?_
    refine zVc ?_
    refine zC 2 ((50, .Z (uI (zn:Int)))::(16, .u (uI (zn:Int))):: []) hmix s kJ
      (oc zA<|oc zG<|zE) fun a w7 s=> ?_
    refine zB rfl ?_
    have hb:=s.below
    replace hFr:=hFr.trans (hb.mono hFr.size)
    replace h11:=h11.below hb
    replace hG:=hG.below hb
    replace hC:=hC.below hb
    replace hS:=hS.below hb
    replace hTd:=hTd.below hb
    replace s:=s.anewB rfl rfl
    refine zVg ?_
    refine yM (fun (y:Nat×Nat×List Nat×Wv) a w=>(y.2.1<N/\ssv.getD y.2.1 0=(y.1:Int)/\Opt (grE N js fs) xn y.2.1 (csv.getD y.2.1 0) y.1/\y.2.2.1++zHp (nxF (grE N js fs) N csv ssv) xn y.1 y.2.1=zn::zHp (nxF (grE N js fs) N csv ssv) xn s0 zn/\y.2.2.1.length+y.1=s0+1)/\Below W.heap.size W w/\jG w b11 32 3 1 [CU.len 3]/\GM w gg cap vs (glN N (rds N js fs))/\jG w gc 32 3 capc (qns csv)/\jG w gs 3 1 caps (ins ssv)/\y9 w W.heap.size 3 1 y.2.2.2 (ins (jO y.2.2.1))/\(∀q_,y.2.2.2.ownBlock=some q_->q_≠gs)/\St w [(3, .u (uI (xn:Int))),(4, .u (uI (zn:Int))),(10, .u (UF.eq (y.2.2.2))),(11, .u (UF.eq (pO b11 0))),(13, .u (UF.eq (.slice (some ⟨gg,0,none⟩) N cap))),(14, .u (UF.eq (.slice (some ⟨gc,0,none⟩) N capc))),(15, .u (UF.eq (.slice (some ⟨gs,0,none⟩) N caps))),(16, .u (uI (y.2.1:Int)))] [] f10.ntmps [] a w) (fun y=>y.1) (s0,zn, [zn],tv) ⟨⟨hzN,hs0,ho0,rfl,Nat.add_comm _ _⟩,hFr,h11,hG,hC,hS,hTd,hne,s.keepK _ (fmz ⟨zF2,fmz ⟨zG1,fmz ⟨mz1,fmz ⟨mz6,fmz ⟨mz5,fmz ⟨mz4,fmz ⟨mz3,fmz ⟨.head _,fnz⟩⟩⟩⟩⟩⟩⟩⟩)⟩ fun y a w hx=> ?_
    clear hFr h11 hG hC hS hTd hne
    obtain ⟨⟨hat,hss,hop,hwy,hln⟩,hFr,h11,hG,hC,hS,hTd,hne,s⟩:=hx
    refine zVc ?_
    refine zVc ?_
    refine zC 3 ((51, .Z (uI (y.2.1:Int)))::(52, .Z (uI (xn:Int)))::(53, .u (uB ((y.2.1:Int) !=(xn:Int)))):: []) hmix s kJ
      (oc zA<|oc zA<|oc (zP .i64 (y.2.1:Int) (xn:Int) ((y.2.1:Int) !=(xn:Int)) iiz iiz rfl rfl)<|zE) fun a w8 s=> ?_
    refine zB rfl ?_
    have hb:=s.below
    replace hFr:=hFr.trans (hb.mono hFr.size)
    replace h11:=h11.below hb
    replace hG:=hG.below hb
    replace hC:=hC.below hb
    replace hS:=hS.below hb
    replace hTd:=hTd.below hb
    replace s:=s.anewB rfl rfl
    refine StS.cond s ((y.2.1:Int) !=(xn:Int)) iiz (fun e=> ?_) (fun e=> ?_)
    . have hax:y.2.1≠xn:=by intro h;rw [h] at e;simp at e
      obtain ⟨t,et⟩: ∃t,y.1=t+1:=by
        rcases hy1:y.1 with _|t
        . rw [hy1] at hop;exact absurd (zIw hop.1).1 hax
        . exact ⟨t,rfl⟩
      obtain ⟨hn1,-,-,hn4,hn5⟩:=hCS.nx hGk hSy hxN hat (s:=t) (by rw [hss,et]) (by rw [<-et];exact hop)
      have hs0N':=hs0N
      have hdeg:(zH (rds N js fs) y.2.1).length<=122:=by have h1:=zEY (rds N js fs) y.2.1;have h2:=zFJ N js fs js.length;have h3:=hB.hj;unfold rds at h1 ⊢;omega
      refine zVf ?_
      refine zVc ?_
      refine zVg ?_
      refine zVc ?_
      refine zC 3 ((58, .Z (UF.eq (.slice (some ⟨gg,0,none⟩) N cap)))::(59, .Z (uI (N:Int)))::(17, .u (uI (N:Int))):: []) hmix s kJ
        (oc zA<|oc (jV kJ (fun v W h=>⟨_,_,_,h,rfl⟩))<|oc zG<|zE) fun a w9 s=> ?_
      refine zB rfl ?_
      have hb:=s.below
      replace hFr:=hFr.trans (hb.mono hFr.size)
      replace h11:=h11.below hb
      replace hG:=hG.below hb
      replace hC:=hC.below hb
      replace hS:=hS.below hb
      replace hTd:=hTd.below hb
      replace s:=s.anewB rfl rfl
      refine zVc ?_
      refine zVc ?_
      have hgl_:=hG.row (n:=N) (zAi _ _).symm
      have hcv:y.2.1<vs.length:=by rw [hG.ln,zAi];exact hat
      have hrl:=hG.at (i:=y.2.1) (by rw [zAi];exact hat)
      rw [zDz _ hat] at hrl
      refine zC 6 ((60, .Z (UF.eq (.slice (some ⟨gg,0,none⟩) N cap)))::(61, .Z (uI (y.2.1:Int)))::(62, .s (wC (wB [(vs.getD y.2.1 (.slice none 0 0))]).cf))::(63, .u (UF.eq (vs.getD y.2.1 (.slice none 0 0))))::(64, .u (uI (((ros (zH (rds N js fs) y.2.1)).length:Nat):Int)))::(65, .u (uI 0)):: []) hmix s kJ
        (oc zA<|oc zA<|oc (zT (z:=1) (Cs:=sls vs) (i:=y.2.1) (C:=wB [(vs.getD y.2.1 (.slice none 0 0))]) kJ (zEm hcv) (fun v W hb h=>(by rw [show v=(Value.slice (some ⟨gg,0,none⟩) N cap) from h];exact (SF.row 1 (sls vs)).st _ _ _ hgl_ (s.up hb))) iiz)<|oc (yR (C:=(wB [(vs.getD y.2.1 (.slice none 0 0))]).cf) kJ iiz jF)<|oc (qK (z:=4) (Cs:=ros (zH (rds N js fs) y.2.1)) kJ (fun v W hb h=>(by rw [show v=(vs.getD y.2.1 (.slice none 0 0)) from h];exact (SF.row 4 (ros (zH (rds N js fs) y.2.1))).st _ _ _ hrl (s.up hb))) (fun _=>rfl))<|oc zA<|zE) fun a w10 s=> ?_
      refine zB rfl ?_
      have hb:=s.below
      replace hFr:=hFr.trans (hb.mono hFr.size)
      replace h11:=h11.below hb
      replace hG:=hG.below hb
      replace hC:=hC.below hb
      replace hS:=hS.below hb
      replace hTd:=hTd.below hb
      replace s:=s.anewB rfl rfl
      refine zVg ?_
      refine yM (fun (q:Nat×Nat) a w=>q.1<=(zH (rds N js fs) y.2.1).length/\q.2=((zH (rds N js fs) y.2.1).take q.1).foldl (zDR csv ssv y.2.1) N/\q.2<=N/\Below W.heap.size W w/\jG w b11 32 3 1 [CU.len 3]/\GM w gg cap vs (glN N (rds N js fs))/\jG w gc 32 3 capc (qns csv)/\jG w gs 3 1 caps (ins ssv)/\y9 w W.heap.size 3 1 y.2.2.2 (ins (jO y.2.2.1))/\St w [(3, .u (uI (xn:Int))),(4, .u (uI (zn:Int))),(10, .u (UF.eq (y.2.2.2))),(11, .u (UF.eq (pO b11 0))),(13, .u (UF.eq (.slice (some ⟨gg,0,none⟩) N cap))),(14, .u (UF.eq (.slice (some ⟨gc,0,none⟩) N capc))),(15, .u (UF.eq (.slice (some ⟨gs,0,none⟩) N caps))),(16, .u (uI (y.2.1:Int))),(17, .u (uI (q.2:Int))),(63, .u (UF.eq (vs.getD y.2.1 (.slice none 0 0)))),(64, .u (uI (((ros (zH (rds N js fs) y.2.1)).length:Nat):Int))),(65, .u (uI (q.1:Int)))] [] f10.ntmps [] a w) (fun q=>(zH (rds N js fs) y.2.1).length - q.1) (0,N) ⟨zVn _,rfl,zVp _,hFr,h11,hG,hC,hS,hTd,s.keepK _ (fmz ⟨mz5,fmz ⟨mz6,fmz ⟨mz7,fmz ⟨mz8,fmz ⟨mz9,fmz ⟨zGo,fmz ⟨zF2,fmz ⟨zG1,fmz ⟨mz3,fmz ⟨.head _,fmz ⟨mz1,fmz ⟨mz2,fnz⟩⟩⟩⟩⟩⟩⟩⟩⟩⟩⟩⟩)⟩ fun q a w hx=> ?_
      clear hFr h11 hG hC hS hTd
      obtain ⟨hk,hbq,hqN,hFr,h11,hG,hC,hS,hTd,s⟩:=hx
      refine zVc ?_
      refine zC 1 ((66, .u (uB (decide ((q.1:Int)<(((ros (zH (rds N js fs) y.2.1)).length:Nat):Int))))):: []) hmix s kJ
        (oc (zP .i64 (q.1:Int) (((ros (zH (rds N js fs) y.2.1)).length:Nat):Int) (decide ((q.1:Int)<(((ros (zH (rds N js fs) y.2.1)).length:Nat):Int))) iiz iiz rfl rfl)<|zE) fun a w11 s=> ?_
      refine zB rfl ?_
      have hb:=s.below
      replace hFr:=hFr.trans (hb.mono hFr.size)
      replace h11:=h11.below hb
      replace hG:=hG.below hb
      replace hC:=hC.below hb
      replace hS:=hS.below hb
      replace hTd:=hTd.below hb
      replace s:=s.anewB rfl rfl
      refine zVc ?_
      refine StS.cond s (decide ((q.1:Int)<(((ros (zH (rds N js fs) y.2.1)).length:Nat):Int))) iiz (fun e=> ?_) (fun e=> ?_)
      . have hkl:q.1<(zH (rds N js fs) y.2.1).length:=by have h7:=zVh e;simp only [zVd] at h7;omega
        have hrm:((zH (rds N js fs) y.2.1).getD q.1 (0,0))∈grE N js fs y.2.1:=by show ((zH (rds N js fs) y.2.1).getD q.1 (0,0))∈(zH (rds N js fs) y.2.1);rw [zVi,zVq hkl];exact zVr hkl
        have hrn:((zH (rds N js fs) y.2.1).getD q.1 (0,0)).1<N:=(hGk _ hat _ hrm).1
        have hqb:QB ((zH (rds N js fs) y.2.1).getD q.1 (0,0)).2 1:=hB.qr hrm
        have hrsl:y.2.1<ssv.length/\((zH (rds N js fs) y.2.1).getD q.1 (0,0)).1<ssv.length/\y.2.1<csv.length/\((zH (rds N js fs) y.2.1).getD q.1 (0,0)).1<csv.length:=by rw [hsl,hcl];exact ⟨hat,hrn,hat,hrn⟩
        have hqa:QB (csv.getD y.2.1 0) 1:=hB.qb hop.1 (by have:=hB.hN;omega)
        obtain ⟨s',hop',hss',hs'N⟩:=hCS.rch hGk hxN (Rch.cons hop.1 (b:=((zH (rds N js fs) y.2.1).getD q.1 (0,0)).1) (f:=((zH (rds N js fs) y.2.1).getD q.1 (0,0)).2) hrm)
        have hqc:QB (csv.getD ((zH (rds N js fs) y.2.1).getD q.1 (0,0)).1 0) 1:=hB.qb hop'.1 (by have:=hB.hN;omega)
        have hqx:QB (csv.getD ((zH (rds N js fs) y.2.1).getD q.1 (0,0)).1 0+((zH (rds N js fs) y.2.1).getD q.1 (0,0)).2) 1:=hB.qb (Rch.cons hop'.1 (b:=y.2.1) (f:=((zH (rds N js fs) y.2.1).getD q.1 (0,0)).2) (hSy _ _ _ hrm)) (by have:=hB.hN;omega)
        refine zVf ?_
        refine zVc ?_
        refine zVg ?_
        refine zVc ?_
        have hrl:=hG.at (i:=y.2.1) (by rw [zAi];exact hat)
        rw [zDz _ hat] at hrl
        refine zC 2 ((67, .Y (fRo ((zH (rds N js fs) y.2.1).getD q.1 (0,0))))::(68, .u (fRo ((zH (rds N js fs) y.2.1).getD q.1 (0,0)))):: []) hmix s kJ
          (oc (zT (z:=4) (Cs:=ros (zH (rds N js fs) y.2.1)) (i:=q.1) (C:=CU.agg (fRo ((zH (rds N js fs) y.2.1).getD q.1 (0,0)))) kJ (zHF hkl) (fun v W hb h=>(by rw [show v=(vs.getD y.2.1 (.slice none 0 0)) from h];exact (SF.row 4 (ros (zH (rds N js fs) y.2.1))).st _ _ _ hrl (s.up hb))) iiz)<|oc (yP (f:=fRo ((zH (rds N js fs) y.2.1).getD q.1 (0,0))) 4 kJ (hz:=zKt _))<|zE) fun a w12 s=> ?_
        refine qJ (CU.len 4) (cs:= [.int .i64 0, .bool false, .slice none 0 0, .slice none 0 0]) kJ rfl s kJ (fun W=>rfl) rfl fun b19 a w s=> ?_
        refine yY (CU.agg (fRo ((zH (rds N js fs) y.2.1).getD q.1 (0,0)))) ((fRo ((zH (rds N js fs) y.2.1).getD q.1 (0,0))).tS) rfl s kJ rfl rfl rfl iiz iiz zFI fun a w s=> ?_
        refine zB rfl ?_
        have hb:=s.below
        replace hFr:=hFr.trans (hb.mono hFr.size)
        replace h11:=h11.below hb
        replace hG:=hG.below hb
        replace hC:=hC.below hb
        replace hS:=hS.below hb
        replace hTd:=hTd.below hb
        replace s:StS _ _ _ [⟨19,67,CU.agg (fRo ((zH (rds N js fs) y.2.1).getD q.1 (0,0))),b19,true⟩] _ _ _ _:=s.freeze
        replace s:=s.anewB rfl rfl
        refine zVc ?_
        have hsr:=hS.row (n:=N) (by simp [hsl])
        have hcr:=hC.row (n:=N) (by simp [hcl])
        refine zC 34 ((69, .Z (UF.eq (.slice (some ⟨gs,0,none⟩) N caps)))::(70, .X (fRo ((zH (rds N js fs) y.2.1).getD q.1 (0,0))) 0)::(71, .Z (uI ((((zH (rds N js fs) y.2.1).getD q.1 (0,0)).1:Nat):Int)))::(72, .s (wC (wB [.int .i64 (ssv.getD ((zH (rds N js fs) y.2.1).getD q.1 (0,0)).1 0)]).cf))::(73, .Z (uI (ssv.getD ((zH (rds N js fs) y.2.1).getD q.1 (0,0)).1 0)))::(74, .Z (UF.eq (.slice (some ⟨gs,0,none⟩) N caps)))::(75, .Z (uI (y.2.1:Int)))::(76, .s (wC (wB [.int .i64 (ssv.getD y.2.1 0)]).cf))::(77, .Z (uI (ssv.getD y.2.1 0)))::(78, .Z (uI (ssv.getD y.2.1 0 - 1)))::(79, .Z (uB ((ssv.getD ((zH (rds N js fs) y.2.1).getD q.1 (0,0)).1 0)==(ssv.getD y.2.1 0 - 1))))::(80, .Z (uB ((ssv.getD ((zH (rds N js fs) y.2.1).getD q.1 (0,0)).1 0)==(ssv.getD y.2.1 0 - 1))))::(81, .s (SF.imp (((ssv.getD ((zH (rds N js fs) y.2.1).getD q.1 (0,0)).1 0)==(ssv.getD y.2.1 0 - 1))=true) (wC ((CU.agg (fRo ((zH (rds N js fs) y.2.1).getD q.1 (0,0)))).cf.at 0))))::(82, .s (SF.imp (((ssv.getD ((zH (rds N js fs) y.2.1).getD q.1 (0,0)).1 0)==(ssv.getD y.2.1 0 - 1))=true) ((uI ((((zH (rds N js fs) y.2.1).getD q.1 (0,0)).1:Nat):Int)).tS)))::(83, .s (SF.imp (((ssv.getD ((zH (rds N js fs) y.2.1).getD q.1 (0,0)).1 0)==(ssv.getD y.2.1 0 - 1))=true) ((uI (q.2:Int)).tS)))::(84, .s (SF.imp (((ssv.getD ((zH (rds N js fs) y.2.1).getD q.1 (0,0)).1 0)==(ssv.getD y.2.1 0 - 1))=true) ((uB (decide (((((zH (rds N js fs) y.2.1).getD q.1 (0,0)).1:Nat):Int)<(q.2:Int)))).tS)))::(85, .Z (uB (((ssv.getD ((zH (rds N js fs) y.2.1).getD q.1 (0,0)).1 0)==(ssv.getD y.2.1 0 - 1))&&(decide (((((zH (rds N js fs) y.2.1).getD q.1 (0,0)).1:Nat):Int)<(q.2:Int))))))::(86, .Z (uB (((ssv.getD ((zH (rds N js fs) y.2.1).getD q.1 (0,0)).1 0)==(ssv.getD y.2.1 0 - 1))&&(decide (((((zH (rds N js fs) y.2.1).getD q.1 (0,0)).1:Nat):Int)<(q.2:Int))))))::(87, .s (SF.imp ((((ssv.getD ((zH (rds N js fs) y.2.1).getD q.1 (0,0)).1 0)==(ssv.getD y.2.1 0 - 1))&&(decide (((((zH (rds N js fs) y.2.1).getD q.1 (0,0)).1:Nat):Int)<(q.2:Int))))=true) ((UF.eq (.slice (some ⟨gc,0,none⟩) N capc)).tS)))::(88, .s (SF.imp ((((ssv.getD ((zH (rds N js fs) y.2.1).getD q.1 (0,0)).1 0)==(ssv.getD y.2.1 0 - 1))&&(decide (((((zH (rds N js fs) y.2.1).getD q.1 (0,0)).1:Nat):Int)<(q.2:Int))))=true) (wC ((CU.agg (fRo ((zH (rds N js fs) y.2.1).getD q.1 (0,0)))).cf.at 0))))::(89, .s (SF.imp ((((ssv.getD ((zH (rds N js fs) y.2.1).getD q.1 (0,0)).1 0)==(ssv.getD y.2.1 0 - 1))&&(decide (((((zH (rds N js fs) y.2.1).getD q.1 (0,0)).1:Nat):Int)<(q.2:Int))))=true) ((uI ((((zH (rds N js fs) y.2.1).getD q.1 (0,0)).1:Nat):Int)).tS)))::(90, .s (SF.imp ((((ssv.getD ((zH (rds N js fs) y.2.1).getD q.1 (0,0)).1 0)==(ssv.getD y.2.1 0 - 1))&&(decide (((((zH (rds N js fs) y.2.1).getD q.1 (0,0)).1:Nat):Int)<(q.2:Int))))=true) (wC (cg (fQN (csv.getD ((zH (rds N js fs) y.2.1).getD q.1 (0,0)).1 0))))))::(91, .s (SF.imp ((((ssv.getD ((zH (rds N js fs) y.2.1).getD q.1 (0,0)).1 0)==(ssv.getD y.2.1 0 - 1))&&(decide (((((zH (rds N js fs) y.2.1).getD q.1 (0,0)).1:Nat):Int)<(q.2:Int))))=true) ((fQN (csv.getD ((zH (rds N js fs) y.2.1).getD q.1 (0,0)).1 0)).tS)))::(92, .s (SF.imp ((((ssv.getD ((zH (rds N js fs) y.2.1).getD q.1 (0,0)).1 0)==(ssv.getD y.2.1 0 - 1))&&(decide (((((zH (rds N js fs) y.2.1).getD q.1 (0,0)).1:Nat):Int)<(q.2:Int))))=true) (wC ((CU.agg (fRo ((zH (rds N js fs) y.2.1).getD q.1 (0,0)))).cf.at 1))))::(93, .s (SF.imp ((((ssv.getD ((zH (rds N js fs) y.2.1).getD q.1 (0,0)).1 0)==(ssv.getD y.2.1 0 - 1))&&(decide (((((zH (rds N js fs) y.2.1).getD q.1 (0,0)).1:Nat):Int)<(q.2:Int))))=true) ((fQN (((zH (rds N js fs) y.2.1).getD q.1 (0,0)).2)).tS)))::(94, .s (SF.imp ((((ssv.getD ((zH (rds N js fs) y.2.1).getD q.1 (0,0)).1 0)==(ssv.getD y.2.1 0 - 1))&&(decide (((((zH (rds N js fs) y.2.1).getD q.1 (0,0)).1:Nat):Int)<(q.2:Int))))=true) (fQS 1 [csv.getD ((zH (rds N js fs) y.2.1).getD q.1 (0,0)).1 0,((zH (rds N js fs) y.2.1).getD q.1 (0,0)).2])))::(95, .s (SF.imp ((((ssv.getD ((zH (rds N js fs) y.2.1).getD q.1 (0,0)).1 0)==(ssv.getD y.2.1 0 - 1))&&(decide (((((zH (rds N js fs) y.2.1).getD q.1 (0,0)).1:Nat):Int)<(q.2:Int))))=true) ((fQN (csv.getD ((zH (rds N js fs) y.2.1).getD q.1 (0,0)).1 0+((zH (rds N js fs) y.2.1).getD q.1 (0,0)).2)).tS)))::(96, .s (SF.imp ((((ssv.getD ((zH (rds N js fs) y.2.1).getD q.1 (0,0)).1 0)==(ssv.getD y.2.1 0 - 1))&&(decide (((((zH (rds N js fs) y.2.1).getD q.1 (0,0)).1:Nat):Int)<(q.2:Int))))=true) ((UF.eq (.slice (some ⟨gc,0,none⟩) N capc)).tS)))::(97, .s (SF.imp ((((ssv.getD ((zH (rds N js fs) y.2.1).getD q.1 (0,0)).1 0)==(ssv.getD y.2.1 0 - 1))&&(decide (((((zH (rds N js fs) y.2.1).getD q.1 (0,0)).1:Nat):Int)<(q.2:Int))))=true) ((uI (y.2.1:Int)).tS)))::(98, .s (SF.imp ((((ssv.getD ((zH (rds N js fs) y.2.1).getD q.1 (0,0)).1 0)==(ssv.getD y.2.1 0 - 1))&&(decide (((((zH (rds N js fs) y.2.1).getD q.1 (0,0)).1:Nat):Int)<(q.2:Int))))=true) (wC (cg (fQN (csv.getD y.2.1 0))))))::(99, .s (SF.imp ((((ssv.getD ((zH (rds N js fs) y.2.1).getD q.1 (0,0)).1 0)==(ssv.getD y.2.1 0 - 1))&&(decide (((((zH (rds N js fs) y.2.1).getD q.1 (0,0)).1:Nat):Int)<(q.2:Int))))=true) ((fQN (csv.getD y.2.1 0)).tS)))::(100, .s (SF.imp ((((ssv.getD ((zH (rds N js fs) y.2.1).getD q.1 (0,0)).1 0)==(ssv.getD y.2.1 0 - 1))&&(decide (((((zH (rds N js fs) y.2.1).getD q.1 (0,0)).1:Nat):Int)<(q.2:Int))))=true) ((uI (qsg (csv.getD ((zH (rds N js fs) y.2.1).getD q.1 (0,0)).1 0+((zH (rds N js fs) y.2.1).getD q.1 (0,0)).2) (csv.getD y.2.1 0))).tS)))::(101, .s (SF.imp ((((ssv.getD ((zH (rds N js fs) y.2.1).getD q.1 (0,0)).1 0)==(ssv.getD y.2.1 0 - 1))&&(decide (((((zH (rds N js fs) y.2.1).getD q.1 (0,0)).1:Nat):Int)<(q.2:Int))))=true) ((uB ((qsg (csv.getD ((zH (rds N js fs) y.2.1).getD q.1 (0,0)).1 0+((zH (rds N js fs) y.2.1).getD q.1 (0,0)).2) (csv.getD y.2.1 0))==0)).tS)))::(102, .u (uB ((((ssv.getD ((zH (rds N js fs) y.2.1).getD q.1 (0,0)).1 0)==(ssv.getD y.2.1 0 - 1))&&(decide (((((zH (rds N js fs) y.2.1).getD q.1 (0,0)).1:Nat):Int)<(q.2:Int))))&&((qsg (csv.getD ((zH (rds N js fs) y.2.1).getD q.1 (0,0)).1 0+((zH (rds N js fs) y.2.1).getD q.1 (0,0)).2) (csv.getD y.2.1 0))==0)))):: []) hmix s kJ
          (oc zA<|oc (zW (C:=cg (fRo ((zH (rds N js fs) y.2.1).getD q.1 (0,0)))) 0 kJ)<|oc (yW (C:=cg (fRo ((zH (rds N js fs) y.2.1).getD q.1 (0,0)))) (k:=0) kJ (h:=zFH))<|oc (zT (z:=1) (Cs:=ins ssv) (i:=((zH (rds N js fs) y.2.1).getD q.1 (0,0)).1) (C:=wB [.int .i64 (ssv.getD ((zH (rds N js fs) y.2.1).getD q.1 (0,0)).1 0)]) kJ (zAY hrsl.2.1) (fun v W hb h=>(by rw [show v=(Value.slice (some ⟨gs,0,none⟩) N caps) from h];exact (SF.row 1 (ins ssv)).st _ _ _ hsr (s.up hb))) iiz)<|oc (yR (C:=(wB [.int .i64 (ssv.getD ((zH (rds N js fs) y.2.1).getD q.1 (0,0)).1 0)]).cf) kJ iiz jF)<|oc zA<|oc zA<|oc (zT (z:=1) (Cs:=ins ssv) (i:=y.2.1) (C:=wB [.int .i64 (ssv.getD y.2.1 0)]) kJ (zAY hrsl.1) (fun v W hb h=>(by rw [show v=(Value.slice (some ⟨gs,0,none⟩) N caps) from h];exact (SF.row 1 (ins ssv)).st _ _ _ hsr (s.up hb))) iiz)<|oc (yR (C:=(wB [.int .i64 (ssv.getD y.2.1 0)]).cf) kJ iiz jF)<|oc (zA9 .i64 (ssv.getD y.2.1 0) 1 (ssv.getD y.2.1 0 - 1) iiz iiz (zAE _ oQ oQ))<|oc (zP .i64 (ssv.getD ((zH (rds N js fs) y.2.1).getD q.1 (0,0)).1 0) (ssv.getD y.2.1 0 - 1) ((ssv.getD ((zH (rds N js fs) y.2.1).getD q.1 (0,0)).1 0)==(ssv.getD y.2.1 0 - 1)) iiz iiz rfl rfl)<|oc zA<|oc (zD 80 ((ssv.getD ((zH (rds N js fs) y.2.1).getD q.1 (0,0)).1 0)==(ssv.getD y.2.1 0 - 1)) kJ iiz (fun e=>zL [] (wC ((CU.agg (fRo ((zH (rds N js fs) y.2.1).getD q.1 (0,0)))).cf.at 0)) fnz (fun _ _ h _=>h) kJ (zW (C:=cg (fRo ((zH (rds N js fs) y.2.1).getD q.1 (0,0)))) 0 kJ)) (fun e W h=>absurd h e))<|oc (zD 80 ((ssv.getD ((zH (rds N js fs) y.2.1).getD q.1 (0,0)).1 0)==(ssv.getD y.2.1 0 - 1)) kJ iiz (fun e=>zL [(81,wC ((CU.agg (fRo ((zH (rds N js fs) y.2.1).getD q.1 (0,0)))).cf.at 0))] ((uI ((((zH (rds N js fs) y.2.1).getD q.1 (0,0)).1:Nat):Int)).tS) (fmz ⟨fun v W h=>zI (c:=((ssv.getD ((zH (rds N js fs) y.2.1).getD q.1 (0,0)).1 0)==(ssv.getD y.2.1 0 - 1))=true) (f:=wC ((CU.agg (fRo ((zH (rds N js fs) y.2.1).getD q.1 (0,0)))).cf.at 0)) e h,fnz⟩) (fun _ _ h _=>h) kJ (yW (C:=cg (fRo ((zH (rds N js fs) y.2.1).getD q.1 (0,0)))) (k:=0) kJ (h:=zFH))) (fun e W h=>absurd h e))<|oc (zD 80 ((ssv.getD ((zH (rds N js fs) y.2.1).getD q.1 (0,0)).1 0)==(ssv.getD y.2.1 0 - 1)) kJ iiz (fun e=>zL [] ((uI (q.2:Int)).tS) fnz (fun _ _ h _=>h) kJ zA) (fun e W h=>absurd h e))<|oc (zD 80 ((ssv.getD ((zH (rds N js fs) y.2.1).getD q.1 (0,0)).1 0)==(ssv.getD y.2.1 0 - 1)) kJ iiz (fun e=>zL [(82,(uI ((((zH (rds N js fs) y.2.1).getD q.1 (0,0)).1:Nat):Int)).tS),(83,(uI (q.2:Int)).tS)] ((uB (decide (((((zH (rds N js fs) y.2.1).getD q.1 (0,0)).1:Nat):Int)<(q.2:Int)))).tS) (fmz ⟨fun v W h=>zI (c:=((ssv.getD ((zH (rds N js fs) y.2.1).getD q.1 (0,0)).1 0)==(ssv.getD y.2.1 0 - 1))=true) (f:=(uI ((((zH (rds N js fs) y.2.1).getD q.1 (0,0)).1:Nat):Int)).tS) e h,fmz ⟨fun v W h=>zI (c:=((ssv.getD ((zH (rds N js fs) y.2.1).getD q.1 (0,0)).1 0)==(ssv.getD y.2.1 0 - 1))=true) (f:=(uI (q.2:Int)).tS) e h,fnz⟩⟩) (fun _ _ h _=>h) kJ (zP .i64 ((((zH (rds N js fs) y.2.1).getD q.1 (0,0)).1:Nat):Int) (q.2:Int) (decide (((((zH (rds N js fs) y.2.1).getD q.1 (0,0)).1:Nat):Int)<(q.2:Int))) iiz iiz rfl rfl)) (fun e W h=>absurd h e))<|oc (yE ((ssv.getD ((zH (rds N js fs) y.2.1).getD q.1 (0,0)).1 0)==(ssv.getD y.2.1 0 - 1)) iiz (fun e v W h=>zCs (zI e h) e) (fun e v W h=>zBK h e))<|oc zA<|oc (zD 86 (((ssv.getD ((zH (rds N js fs) y.2.1).getD q.1 (0,0)).1 0)==(ssv.getD y.2.1 0 - 1))&&(decide (((((zH (rds N js fs) y.2.1).getD q.1 (0,0)).1:Nat):Int)<(q.2:Int)))) kJ iiz (fun e=>zL [] ((UF.eq (.slice (some ⟨gc,0,none⟩) N capc)).tS) fnz (fun _ _ h _=>h) kJ zA) (fun e W h=>absurd h e))<|oc (zD 86 (((ssv.getD ((zH (rds N js fs) y.2.1).getD q.1 (0,0)).1 0)==(ssv.getD y.2.1 0 - 1))&&(decide (((((zH (rds N js fs) y.2.1).getD q.1 (0,0)).1:Nat):Int)<(q.2:Int)))) kJ iiz (fun e=>zL [] (wC ((CU.agg (fRo ((zH (rds N js fs) y.2.1).getD q.1 (0,0)))).cf.at 0)) fnz (fun _ _ h _=>h) kJ (zW (C:=cg (fRo ((zH (rds N js fs) y.2.1).getD q.1 (0,0)))) 0 kJ)) (fun e W h=>absurd h e))<|oc (zD 86 (((ssv.getD ((zH (rds N js fs) y.2.1).getD q.1 (0,0)).1 0)==(ssv.getD y.2.1 0 - 1))&&(decide (((((zH (rds N js fs) y.2.1).getD q.1 (0,0)).1:Nat):Int)<(q.2:Int)))) kJ iiz (fun e=>zL [(88,wC ((CU.agg (fRo ((zH (rds N js fs) y.2.1).getD q.1 (0,0)))).cf.at 0))] ((uI ((((zH (rds N js fs) y.2.1).getD q.1 (0,0)).1:Nat):Int)).tS) (fmz ⟨fun v W h=>zI (c:=(((ssv.getD ((zH (rds N js fs) y.2.1).getD q.1 (0,0)).1 0)==(ssv.getD y.2.1 0 - 1))&&(decide (((((zH (rds N js fs) y.2.1).getD q.1 (0,0)).1:Nat):Int)<(q.2:Int))))=true) (f:=wC ((CU.agg (fRo ((zH (rds N js fs) y.2.1).getD q.1 (0,0)))).cf.at 0)) e h,fnz⟩) (fun _ _ h _=>h) kJ (yW (C:=cg (fRo ((zH (rds N js fs) y.2.1).getD q.1 (0,0)))) (k:=0) kJ (h:=zFH))) (fun e W h=>absurd h e))<|oc (zD 86 (((ssv.getD ((zH (rds N js fs) y.2.1).getD q.1 (0,0)).1 0)==(ssv.getD y.2.1 0 - 1))&&(decide (((((zH (rds N js fs) y.2.1).getD q.1 (0,0)).1:Nat):Int)<(q.2:Int)))) kJ iiz (fun e=>zL [(87,(UF.eq (.slice (some ⟨gc,0,none⟩) N capc)).tS),(89,(uI ((((zH (rds N js fs) y.2.1).getD q.1 (0,0)).1:Nat):Int)).tS)] (wC (cg (fQN (csv.getD ((zH (rds N js fs) y.2.1).getD q.1 (0,0)).1 0)))) (fmz ⟨fun v W h=>zI (c:=(((ssv.getD ((zH (rds N js fs) y.2.1).getD q.1 (0,0)).1 0)==(ssv.getD y.2.1 0 - 1))&&(decide (((((zH (rds N js fs) y.2.1).getD q.1 (0,0)).1:Nat):Int)<(q.2:Int))))=true) (f:=(UF.eq (.slice (some ⟨gc,0,none⟩) N capc)).tS) e h,fmz ⟨fun v W h=>zI (c:=(((ssv.getD ((zH (rds N js fs) y.2.1).getD q.1 (0,0)).1 0)==(ssv.getD y.2.1 0 - 1))&&(decide (((((zH (rds N js fs) y.2.1).getD q.1 (0,0)).1:Nat):Int)<(q.2:Int))))=true) (f:=(uI ((((zH (rds N js fs) y.2.1).getD q.1 (0,0)).1:Nat):Int)).tS) e h,fnz⟩⟩) (fun _ _ h _=>h) kJ (zT (z:=3) (Cs:=qns csv) (i:=((zH (rds N js fs) y.2.1).getD q.1 (0,0)).1) (C:=CU.agg (fQN (csv.getD ((zH (rds N js fs) y.2.1).getD q.1 (0,0)).1 0))) kJ (zBE hrsl.2.2.2) (fun v W hb h=>(by rw [show v=(Value.slice (some ⟨gc,0,none⟩) N capc) from h];exact (SF.row 3 (qns csv)).st _ _ _ hcr (s.up hb))) iiz)) (fun e W h=>absurd h e))<|oc (zD 86 (((ssv.getD ((zH (rds N js fs) y.2.1).getD q.1 (0,0)).1 0)==(ssv.getD y.2.1 0 - 1))&&(decide (((((zH (rds N js fs) y.2.1).getD q.1 (0,0)).1:Nat):Int)<(q.2:Int)))) kJ iiz (fun e=>zL [(90,wC (cg (fQN (csv.getD ((zH (rds N js fs) y.2.1).getD q.1 (0,0)).1 0))))] ((fQN (csv.getD ((zH (rds N js fs) y.2.1).getD q.1 (0,0)).1 0)).tS) (fmz ⟨fun v W h=>zI (c:=(((ssv.getD ((zH (rds N js fs) y.2.1).getD q.1 (0,0)).1 0)==(ssv.getD y.2.1 0 - 1))&&(decide (((((zH (rds N js fs) y.2.1).getD q.1 (0,0)).1:Nat):Int)<(q.2:Int))))=true) (f:=wC (cg (fQN (csv.getD ((zH (rds N js fs) y.2.1).getD q.1 (0,0)).1 0)))) e h,fnz⟩) (fun _ _ h _=>h) kJ (yP (f:=fQN (csv.getD ((zH (rds N js fs) y.2.1).getD q.1 (0,0)).1 0)) 3 kJ (hz:=jH _))) (fun e W h=>absurd h e))<|oc (zD 86 (((ssv.getD ((zH (rds N js fs) y.2.1).getD q.1 (0,0)).1 0)==(ssv.getD y.2.1 0 - 1))&&(decide (((((zH (rds N js fs) y.2.1).getD q.1 (0,0)).1:Nat):Int)<(q.2:Int)))) kJ iiz (fun e=>zL [] (wC ((CU.agg (fRo ((zH (rds N js fs) y.2.1).getD q.1 (0,0)))).cf.at 1)) fnz (fun _ _ h _=>h) kJ (zW (C:=cg (fRo ((zH (rds N js fs) y.2.1).getD q.1 (0,0)))) 1 kJ)) (fun e W h=>absurd h e))<|oc (zD 86 (((ssv.getD ((zH (rds N js fs) y.2.1).getD q.1 (0,0)).1 0)==(ssv.getD y.2.1 0 - 1))&&(decide (((((zH (rds N js fs) y.2.1).getD q.1 (0,0)).1:Nat):Int)<(q.2:Int)))) kJ iiz (fun e=>zL [(92,wC ((CU.agg (fRo ((zH (rds N js fs) y.2.1).getD q.1 (0,0)))).cf.at 1))] ((fQN (((zH (rds N js fs) y.2.1).getD q.1 (0,0)).2)).tS) (fmz ⟨fun v W h=>zI (c:=(((ssv.getD ((zH (rds N js fs) y.2.1).getD q.1 (0,0)).1 0)==(ssv.getD y.2.1 0 - 1))&&(decide (((((zH (rds N js fs) y.2.1).getD q.1 (0,0)).1:Nat):Int)<(q.2:Int))))=true) (f:=wC ((CU.agg (fRo ((zH (rds N js fs) y.2.1).getD q.1 (0,0)))).cf.at 1)) e h,fnz⟩) (fun _ _ h _=>h) kJ (zAI (C:=cg (fRo ((zH (rds N js fs) y.2.1).getD q.1 (0,0)))) (k:=1) 3 kJ (h:=zOl))) (fun e W h=>absurd h e))<|oc (zD 86 (((ssv.getD ((zH (rds N js fs) y.2.1).getD q.1 (0,0)).1 0)==(ssv.getD y.2.1 0 - 1))&&(decide (((((zH (rds N js fs) y.2.1).getD q.1 (0,0)).1:Nat):Int)<(q.2:Int)))) kJ iiz (fun e=>zL [(91,(fQN (csv.getD ((zH (rds N js fs) y.2.1).getD q.1 (0,0)).1 0)).tS),(93,(fQN (((zH (rds N js fs) y.2.1).getD q.1 (0,0)).2)).tS)] (fQS 1 [csv.getD ((zH (rds N js fs) y.2.1).getD q.1 (0,0)).1 0,((zH (rds N js fs) y.2.1).getD q.1 (0,0)).2]) (fmz ⟨fun v W h=>zI (c:=(((ssv.getD ((zH (rds N js fs) y.2.1).getD q.1 (0,0)).1 0)==(ssv.getD y.2.1 0 - 1))&&(decide (((((zH (rds N js fs) y.2.1).getD q.1 (0,0)).1:Nat):Int)<(q.2:Int))))=true) (f:=(fQN (csv.getD ((zH (rds N js fs) y.2.1).getD q.1 (0,0)).1 0)).tS) e h,fmz ⟨fun v W h=>zI (c:=(((ssv.getD ((zH (rds N js fs) y.2.1).getD q.1 (0,0)).1 0)==(ssv.getD y.2.1 0 - 1))&&(decide (((((zH (rds N js fs) y.2.1).getD q.1 (0,0)).1:Nat):Int)<(q.2:Int))))=true) (f:=(fQN (((zH (rds N js fs) y.2.1).getD q.1 (0,0)).2)).tS) e h,fnz⟩⟩) (fun _ _ h _=>h) kJ (qD (fun u v W (hu:QNp (csv.getD ((zH (rds N js fs) y.2.1).getD q.1 (0,0)).1 0) u W) (hv:QNp (((zH (rds N js fs) y.2.1).getD q.1 (0,0)).2) v W)=>zKa (m:=1) (wJ hu hqc) (wJ hv hqb)))) (fun e W h=>absurd h e))<|oc (zD 86 (((ssv.getD ((zH (rds N js fs) y.2.1).getD q.1 (0,0)).1 0)==(ssv.getD y.2.1 0 - 1))&&(decide (((((zH (rds N js fs) y.2.1).getD q.1 (0,0)).1:Nat):Int)<(q.2:Int)))) kJ iiz (fun e=>zL [(94,fQS 1 [csv.getD ((zH (rds N js fs) y.2.1).getD q.1 (0,0)).1 0,((zH (rds N js fs) y.2.1).getD q.1 (0,0)).2])] ((fQN (csv.getD ((zH (rds N js fs) y.2.1).getD q.1 (0,0)).1 0+((zH (rds N js fs) y.2.1).getD q.1 (0,0)).2)).tS) (fmz ⟨fun v W h=>zI (c:=(((ssv.getD ((zH (rds N js fs) y.2.1).getD q.1 (0,0)).1 0)==(ssv.getD y.2.1 0 - 1))&&(decide (((((zH (rds N js fs) y.2.1).getD q.1 (0,0)).1:Nat):Int)<(q.2:Int))))=true) (f:=fQS 1 [csv.getD ((zH (rds N js fs) y.2.1).getD q.1 (0,0)).1 0,((zH (rds N js fs) y.2.1).getD q.1 (0,0)).2]) e h,fnz⟩) (fun _ _ h _=>h) kJ (zM zF zRz (fun u0 W hb (h0:(fQS 1 [csv.getD ((zH (rds N js fs) y.2.1).getD q.1 (0,0)).1 0,((zH (rds N js fs) y.2.1).getD q.1 (0,0)).2]).p u0 W)=>zKB (m:=1) (p:=csv.getD ((zH (rds N js fs) y.2.1).getD q.1 (0,0)).1 0) (q:=((zH (rds N js fs) y.2.1).getD q.1 (0,0)).2) h0 hqc hqb dC ((hT.below hFr).below (s.up hb))))) (fun e W h=>absurd h e))<|oc (zD 86 (((ssv.getD ((zH (rds N js fs) y.2.1).getD q.1 (0,0)).1 0)==(ssv.getD y.2.1 0 - 1))&&(decide (((((zH (rds N js fs) y.2.1).getD q.1 (0,0)).1:Nat):Int)<(q.2:Int)))) kJ iiz (fun e=>zL [] ((UF.eq (.slice (some ⟨gc,0,none⟩) N capc)).tS) fnz (fun _ _ h _=>h) kJ zA) (fun e W h=>absurd h e))<|oc (zD 86 (((ssv.getD ((zH (rds N js fs) y.2.1).getD q.1 (0,0)).1 0)==(ssv.getD y.2.1 0 - 1))&&(decide (((((zH (rds N js fs) y.2.1).getD q.1 (0,0)).1:Nat):Int)<(q.2:Int)))) kJ iiz (fun e=>zL [] ((uI (y.2.1:Int)).tS) fnz (fun _ _ h _=>h) kJ zA) (fun e W h=>absurd h e))<|oc (zD 86 (((ssv.getD ((zH (rds N js fs) y.2.1).getD q.1 (0,0)).1 0)==(ssv.getD y.2.1 0 - 1))&&(decide (((((zH (rds N js fs) y.2.1).getD q.1 (0,0)).1:Nat):Int)<(q.2:Int)))) kJ iiz (fun e=>zL [(96,(UF.eq (.slice (some ⟨gc,0,none⟩) N capc)).tS),(97,(uI (y.2.1:Int)).tS)] (wC (cg (fQN (csv.getD y.2.1 0)))) (fmz ⟨fun v W h=>zI (c:=(((ssv.getD ((zH (rds N js fs) y.2.1).getD q.1 (0,0)).1 0)==(ssv.getD y.2.1 0 - 1))&&(decide (((((zH (rds N js fs) y.2.1).getD q.1 (0,0)).1:Nat):Int)<(q.2:Int))))=true) (f:=(UF.eq (.slice (some ⟨gc,0,none⟩) N capc)).tS) e h,fmz ⟨fun v W h=>zI (c:=(((ssv.getD ((zH (rds N js fs) y.2.1).getD q.1 (0,0)).1 0)==(ssv.getD y.2.1 0 - 1))&&(decide (((((zH (rds N js fs) y.2.1).getD q.1 (0,0)).1:Nat):Int)<(q.2:Int))))=true) (f:=(uI (y.2.1:Int)).tS) e h,fnz⟩⟩) (fun _ _ h _=>h) kJ (zT (z:=3) (Cs:=qns csv) (i:=y.2.1) (C:=CU.agg (fQN (csv.getD y.2.1 0))) kJ (zBE hrsl.2.2.1) (fun v W hb h=>(by rw [show v=(Value.slice (some ⟨gc,0,none⟩) N capc) from h];exact (SF.row 3 (qns csv)).st _ _ _ hcr (s.up hb))) iiz)) (fun e W h=>absurd h e))<|oc (zD 86 (((ssv.getD ((zH (rds N js fs) y.2.1).getD q.1 (0,0)).1 0)==(ssv.getD y.2.1 0 - 1))&&(decide (((((zH (rds N js fs) y.2.1).getD q.1 (0,0)).1:Nat):Int)<(q.2:Int)))) kJ iiz (fun e=>zL [(98,wC (cg (fQN (csv.getD y.2.1 0))))] ((fQN (csv.getD y.2.1 0)).tS) (fmz ⟨fun v W h=>zI (c:=(((ssv.getD ((zH (rds N js fs) y.2.1).getD q.1 (0,0)).1 0)==(ssv.getD y.2.1 0 - 1))&&(decide (((((zH (rds N js fs) y.2.1).getD q.1 (0,0)).1:Nat):Int)<(q.2:Int))))=true) (f:=wC (cg (fQN (csv.getD y.2.1 0)))) e h,fnz⟩) (fun _ _ h _=>h) kJ (yP (f:=fQN (csv.getD y.2.1 0)) 3 kJ (hz:=jH _))) (fun e W h=>absurd h e))<|oc (zD 86 (((ssv.getD ((zH (rds N js fs) y.2.1).getD q.1 (0,0)).1 0)==(ssv.getD y.2.1 0 - 1))&&(decide (((((zH (rds N js fs) y.2.1).getD q.1 (0,0)).1:Nat):Int)<(q.2:Int)))) kJ iiz (fun e=>zL [(95,(fQN (csv.getD ((zH (rds N js fs) y.2.1).getD q.1 (0,0)).1 0+((zH (rds N js fs) y.2.1).getD q.1 (0,0)).2)).tS),(99,(fQN (csv.getD y.2.1 0)).tS)] ((uI (qsg (csv.getD ((zH (rds N js fs) y.2.1).getD q.1 (0,0)).1 0+((zH (rds N js fs) y.2.1).getD q.1 (0,0)).2) (csv.getD y.2.1 0))).tS) (fmz ⟨fun v W h=>zI (c:=(((ssv.getD ((zH (rds N js fs) y.2.1).getD q.1 (0,0)).1 0)==(ssv.getD y.2.1 0 - 1))&&(decide (((((zH (rds N js fs) y.2.1).getD q.1 (0,0)).1:Nat):Int)<(q.2:Int))))=true) (f:=(fQN (csv.getD ((zH (rds N js fs) y.2.1).getD q.1 (0,0)).1 0+((zH (rds N js fs) y.2.1).getD q.1 (0,0)).2)).tS) e h,fmz ⟨fun v W h=>zI (c:=(((ssv.getD ((zH (rds N js fs) y.2.1).getD q.1 (0,0)).1 0)==(ssv.getD y.2.1 0 - 1))&&(decide (((((zH (rds N js fs) y.2.1).getD q.1 (0,0)).1:Nat):Int)<(q.2:Int))))=true) (f:=(fQN (csv.getD y.2.1 0)).tS) e h,fnz⟩⟩) (fun _ _ h _=>h) kJ (yB zF zRA (fun u0 u1 W hb (h0:QNp (csv.getD ((zH (rds N js fs) y.2.1).getD q.1 (0,0)).1 0+((zH (rds N js fs) y.2.1).getD q.1 (0,0)).2) u0 W) (h1:QNp (csv.getD y.2.1 0) u1 W)=>zOp (m:=1) (wJ h0 hqx) (wJ h1 hqa) dC dC ((hT.below hFr).below (s.up hb))))) (fun e W h=>absurd h e))<|oc (zD 86 (((ssv.getD ((zH (rds N js fs) y.2.1).getD q.1 (0,0)).1 0)==(ssv.getD y.2.1 0 - 1))&&(decide (((((zH (rds N js fs) y.2.1).getD q.1 (0,0)).1:Nat):Int)<(q.2:Int)))) kJ iiz (fun e=>zL [(100,(uI (qsg (csv.getD ((zH (rds N js fs) y.2.1).getD q.1 (0,0)).1 0+((zH (rds N js fs) y.2.1).getD q.1 (0,0)).2) (csv.getD y.2.1 0))).tS)] ((uB ((qsg (csv.getD ((zH (rds N js fs) y.2.1).getD q.1 (0,0)).1 0+((zH (rds N js fs) y.2.1).getD q.1 (0,0)).2) (csv.getD y.2.1 0))==0)).tS) (fmz ⟨fun v W h=>zI (c:=(((ssv.getD ((zH (rds N js fs) y.2.1).getD q.1 (0,0)).1 0)==(ssv.getD y.2.1 0 - 1))&&(decide (((((zH (rds N js fs) y.2.1).getD q.1 (0,0)).1:Nat):Int)<(q.2:Int))))=true) (f:=(uI (qsg (csv.getD ((zH (rds N js fs) y.2.1).getD q.1 (0,0)).1 0+((zH (rds N js fs) y.2.1).getD q.1 (0,0)).2) (csv.getD y.2.1 0))).tS) e h,fnz⟩) (fun _ _ h _=>h) kJ (zP .i64 (qsg (csv.getD ((zH (rds N js fs) y.2.1).getD q.1 (0,0)).1 0+((zH (rds N js fs) y.2.1).getD q.1 (0,0)).2) (csv.getD y.2.1 0)) 0 ((qsg (csv.getD ((zH (rds N js fs) y.2.1).getD q.1 (0,0)).1 0+((zH (rds N js fs) y.2.1).getD q.1 (0,0)).2) (csv.getD y.2.1 0))==0) iiz iiz rfl rfl)) (fun e W h=>absurd h e))<|oc (yE (((ssv.getD ((zH (rds N js fs) y.2.1).getD q.1 (0,0)).1 0)==(ssv.getD y.2.1 0 - 1))&&(decide (((((zH (rds N js fs) y.2.1).getD q.1 (0,0)).1:Nat):Int)<(q.2:Int)))) iiz (fun e v W h=>zCs (zI e h) e) (fun e v W h=>zBK h e))<|zE) fun a w13 s=> ?_
        refine zB rfl ?_
        have hb:=s.below
        replace hFr:=hFr.trans (hb.mono hFr.size)
        replace h11:=h11.below hb
        replace hG:=hG.below hb
        replace hC:=hC.below hb
        replace hS:=hS.below hb
        replace hTd:=hTd.below hb
        replace s:=s.anewB rfl rfl
        refine StS.cond s ((((ssv.getD ((zH (rds N js fs) y.2.1).getD q.1 (0,0)).1 0)==(ssv.getD y.2.1 0 - 1))&&(decide (((((zH (rds N js fs) y.2.1).getD q.1 (0,0)).1:Nat):Int)<(q.2:Int))))&&((qsg (csv.getD ((zH (rds N js fs) y.2.1).getD q.1 (0,0)).1 0+((zH (rds N js fs) y.2.1).getD q.1 (0,0)).2) (csv.getD y.2.1 0))==0)) iiz (fun e=> ?_) (fun e=> ?_)
        . have hcond:ssv.getD ((zH (rds N js fs) y.2.1).getD q.1 (0,0)).1 0=ssv.getD y.2.1 0 - 1/\((zH (rds N js fs) y.2.1).getD q.1 (0,0)).1<q.2/\csv.getD ((zH (rds N js fs) y.2.1).getD q.1 (0,0)).1 0+((zH (rds N js fs) y.2.1).getD q.1 (0,0)).2=csv.getD y.2.1 0:=by simpa [zEy,and_assoc] using e
          replace s:=s.drop [17]
          refine zC 3 ((103, .X (fRo ((zH (rds N js fs) y.2.1).getD q.1 (0,0))) 0)::(104, .Z (uI ((((zH (rds N js fs) y.2.1).getD q.1 (0,0)).1:Nat):Int)))::(17, .u (uI ((((zH (rds N js fs) y.2.1).getD q.1 (0,0)).1:Nat):Int))):: []) hmix s kJ
            (oc (zW (C:=cg (fRo ((zH (rds N js fs) y.2.1).getD q.1 (0,0)))) 0 kJ)<|oc (yW (C:=cg (fRo ((zH (rds N js fs) y.2.1).getD q.1 (0,0)))) (k:=0) kJ (h:=zFH))<|oc zG<|zE) fun a w14 s=> ?_
          refine zB rfl ?_
          have hb:=s.below
          replace hFr:=hFr.trans (hb.mono hFr.size)
          replace h11:=h11.below hb
          replace hG:=hG.below hb
          replace hC:=hC.below hb
          replace hS:=hS.below hb
          replace hTd:=hTd.below hb
          replace s:=s.anewB rfl rfl
          refine yI 1 ((105, .u (uI ((q.1+1:Nat):Int))):: []) s kJ
            (oc (qX .i64 (q.1:Int) 1 ((q.1+1:Nat):Int) iiz iiz (wrap64 _ _ oQ oQ))<|zE) fun a w15 s=> ?_
          replace s:=s.drop [65]
          refine zCr (uI ((q.1+1:Nat):Int)) rfl s kJ zA kJ fun a w s=> ?_
          refine zB rfl ?_
          have hb:=s.below
          replace hFr:=hFr.trans (hb.mono hFr.size)
          replace h11:=h11.below hb
          replace hG:=hG.below hb
          replace hC:=hC.below hb
          replace hS:=hS.below hb
          replace hTd:=hTd.below hb
          replace s:=s.anewB rfl rfl
          replace s:=s.popB
          exact ⟨(q.1+1,((zH (rds N js fs) y.2.1).getD q.1 (0,0)).1),(by show (zH (rds N js fs) y.2.1).length - (q.1+1)<(zH (rds N js fs) y.2.1).length - q.1;omega),hkl,(by show _=((zH (rds N js fs) y.2.1).take (q.1+1)).foldl _ _;rw [zLA _ _ (0,0) _ hkl, <-hbq];unfold zDR;rw [if_pos hcond]),Nat.le_of_lt hrn,hFr,h11,hG,hC,hS,hTd,s.keepK _ (fmz ⟨mz6,fmz ⟨mz7,fmz ⟨mz8,fmz ⟨mz9,fmz ⟨zGo,fmz ⟨zF2,fmz ⟨zG1,fmz ⟨zK4,fmz ⟨mz2,fmz ⟨zQB,fmz ⟨zGn,fmz ⟨.head _,fnz⟩⟩⟩⟩⟩⟩⟩⟩⟩⟩⟩⟩)⟩
        . have hcond: ¬(ssv.getD ((zH (rds N js fs) y.2.1).getD q.1 (0,0)).1 0=ssv.getD y.2.1 0 - 1/\((zH (rds N js fs) y.2.1).getD q.1 (0,0)).1<q.2/\csv.getD ((zH (rds N js fs) y.2.1).getD q.1 (0,0)).1 0+((zH (rds N js fs) y.2.1).getD q.1 (0,0)).2=csv.getD y.2.1 0):=by
            intro hc
            have e2:=e
            rw [hc.1,hc.2.2] at e2
            have h3:=hc.2.1
            simp [zEy] at e2 h3
            omega
          refine zVf ?_
          refine yI 1 ((105, .u (uI ((q.1+1:Nat):Int))):: []) s kJ
            (oc (qX .i64 (q.1:Int) 1 ((q.1+1:Nat):Int) iiz iiz (wrap64 _ _ oQ oQ))<|zE) fun a w16 s=> ?_
          replace s:=s.drop [65]
          refine zCr (uI ((q.1+1:Nat):Int)) rfl s kJ zA kJ fun a w s=> ?_
          refine zB rfl ?_
          have hb:=s.below
          replace hFr:=hFr.trans (hb.mono hFr.size)
          replace h11:=h11.below hb
          replace hG:=hG.below hb
          replace hC:=hC.below hb
          replace hS:=hS.below hb
          replace hTd:=hTd.below hb
          replace s:=s.anewB rfl rfl
          replace s:=s.popB
          exact ⟨(q.1+1,q.2),(by show (zH (rds N js fs) y.2.1).length - (q.1+1)<(zH (rds N js fs) y.2.1).length - q.1;omega),hkl,(by show _=((zH (rds N js fs) y.2.1).take (q.1+1)).foldl _ _;rw [zLA _ _ (0,0) _ hkl, <-hbq];unfold zDR;rw [if_neg hcond]),hqN,hFr,h11,hG,hC,hS,hTd,s.keepK _ (fmz ⟨mz5,fmz ⟨mz6,fmz ⟨mz7,fmz ⟨mz8,fmz ⟨mz9,fmz ⟨zGo,fmz ⟨zF2,fmz ⟨zG1,fmz ⟨zK4,fmz ⟨zQB,fmz ⟨zGn,fmz ⟨.head _,fnz⟩⟩⟩⟩⟩⟩⟩⟩⟩⟩⟩⟩)⟩
      . have hqe:q.1=(zH (rds N js fs) y.2.1).length:=by have h7:=zVo e;simp only [zVd] at h7;omega
        have hq2:q.2=(nxF (grE N js fs) N csv ssv) y.2.1:=by rw [hbq,hqe,List.take_length];rfl
        rw [hq2] at s
        refine zVl ?_
        replace s:=s.drop [16]
        refine zC 2 ((106, .Z (uI (((nxF (grE N js fs) N csv ssv) y.2.1:Nat):Int)))::(16, .u (uI (((nxF (grE N js fs) N csv ssv) y.2.1:Nat):Int))):: []) hmix s kJ
          (oc zA<|oc zG<|zE) fun a w17 s=> ?_
        refine zB rfl ?_
        have hb:=s.below
        replace hFr:=hFr.trans (hb.mono hFr.size)
        replace h11:=h11.below hb
        replace hG:=hG.below hb
        replace hC:=hC.below hb
        replace hS:=hS.below hb
        replace hTd:=hTd.below hb
        replace s:=s.anewB rfl rfl
        refine zBn 3 ((54, .u (UF.eq (y.2.2.2)))::(55, .Z (uI (((nxF (grE N js fs) N csv ssv) y.2.1:Nat):Int)))::(56, .s (wE w17 3 1 [wB [.int .i64 (((nxF (grE N js fs) N csv ssv) y.2.1:Nat):Int)]])):: []) s kJ
          (oc zA<|oc zA<|oc (jU (fun u W hb (hu:u= .int .i64 (((nxF (grE N js fs) N csv ssv) y.2.1:Nat):Int))=>by subst hu;exact ⟨_,_,zQV _,(zKc _ _).toN hb.size rfl⟩))<|zE) fun a w18 s hr=> ?_
        have hb:=s.below
        replace hFr:=hFr.trans (hb.mono hFr.size)
        replace h11:=h11.below hb
        replace hG:=hG.below hb
        replace hC:=hC.below hb
        replace hS:=hS.below hb
        replace hTd:=hTd.below hb
        have hty: ∀q_,y.2.2.2.ownBlock=some q_->(∀q',zE5 gg vs q'->q'≠q_)/\gc≠q_/\b11≠q_:=fun q_ hh=>⟨fun q' hq'=>hG.no hq' (qO hTd hh).2.choose_spec.1 dC dC,z9 hC.at.choose_spec (qO hTd hh).2.choose_spec.1 dC,z9 h11.at.choose_spec (qO hTd hh).2.choose_spec.1 dC⟩
        refine zEi (base:=W.heap.size) (z:=1) (e:=3) (v:=y.2.2.2) (Cs:=ins (jO y.2.2.1)) [wB [.int .i64 (((nxF (grE N js fs) N csv ssv) y.2.1:Nat):Int)]] s hTd hFr.size rfl kJ kJ rfl rfl (s.fct (.tmp 54)) (y9.row (hr (_,_) mz2)) (fun C hC=>by obtain rfl:=zVm.1 hC;exact zLu rfl rfl) (by simp only [zVd,jO,zVj];omega) (fun q hq=>by cases hq) fun tv' a w hTd1 hF1 hk1 hor s=> ?_
        replace hFr:=yN hFr hF1 (fun q_ hq=>(hTd.lt q_ hq).1)
        replace hG:=hG.keep (fun q_ hq=>hF1.block q_ (hG.lt hq) (fun hh=>(hty _ hh).1 _ hq rfl)) hk1
        replace h11:=h11.keep (hF1.block _ h11.lt (fun hh=>(hty _ hh).2.2 rfl)) hk1
        replace hC:=hC.keep (hF1.block _ hC.lt (fun hh=>(hty _ hh).2.1 rfl)) hk1
        have hne0:=hne
        replace hne: ∀q_,tv'.ownBlock=some q_->q_≠gs:=fun q_ hq=>by
          rcases hor with e|e
          . exact hne q_ (e▸hq)
          . rw [e] at hq;cases hq;have:=hS.lt;omega
        replace hS:=hS.keep (hF1.block gs hS.lt (fun hh=>hne0 _ hh rfl)) hk1
        replace hTd:=hTd1
        rw [zQb] at hTd
        replace s:=s.drop [10]
        refine qN (UF.eq tv') rfl s kJ iiz fun a w s=> ?_
        refine zB rfl ?_
        have hb:=s.below
        replace hFr:=hFr.trans (hb.mono hFr.size)
        replace h11:=h11.below hb
        replace hG:=hG.below hb
        replace hC:=hC.below hb
        replace hS:=hS.below hb
        replace hTd:=hTd.below hb
        replace s:=s.anewB rfl rfl
        exact ⟨(t,(nxF (grE N js fs) N csv ssv) y.2.1,y.2.2.1++ [(nxF (grE N js fs) N csv ssv) y.2.1],tv'),(by show t<y.1;omega),⟨hn1,hn4,hn5,(by show (y.2.2.1++ [(nxF (grE N js fs) N csv ssv) y.2.1])++zHp (nxF (grE N js fs) N csv ssv) xn t ((nxF (grE N js fs) N csv ssv) y.2.1)=_;rw [<-hwy,et,zHp,if_neg hax,List.append_assoc];rfl),(by show (y.2.2.1++ [(nxF (grE N js fs) N csv ssv) y.2.1]).length+t=_;rw [List.length_append,zVj];omega)⟩,hFr,h11,hG,hC,hS,hTd,hne,s.keepK _ (fmz ⟨mz5,fmz ⟨mz6,fmz ⟨.head _,fmz ⟨mz7,fmz ⟨mz8,fmz ⟨mz9,fmz ⟨zGo,fmz ⟨mz3,fnz⟩⟩⟩⟩⟩⟩⟩⟩)⟩
    . have hax : y.2.1 = xn := by have e2:(y.2.1:Int)=(xn:Int):=by simpa using e
                                  omega
      refine zVl ?_
      refine zVc ?_
      refine zC 1 ((107, .u (UF.eq (y.2.2.2))):: []) hmix s kJ
        (oc zA<|zE) fun a w19 s=> ?_
      have hb:=s.below
      replace hFr:=hFr.trans (hb.mono hFr.size)
      replace h11:=h11.below hb
      replace hG:=hG.below hb
      replace hC:=hC.below hb
      replace hS:=hS.below hb
      replace hTd:=hTd.below hb
      obtain ⟨l0,hl0,hl0n,-⟩:=hway
      have hall:y.2.2.1=zn::zHp (nxF (grE N js fs) N csv ssv) xn s0 zn:=by rw [<-hwy];rcases hy:y.1 with _|t<;>simp [zHp,hax]
      have hlen:(jO y.2.2.1).length=s0+1:=by rw [hall,hl0];simp [jO,hl0n]
      obtain ⟨gt,cpt,ev,hgt,hRt⟩:=zDF hTd (by simp only [zVd];omega)
      rw [show (ins (jO y.2.2.1)).length=(jO y.2.2.1).length by simp] at ev
      rw [ev] at s
      have hty:(∀q',zE5 gg vs q'->q'≠gt)/\gc≠gt/\b11≠gt:=⟨fun q' hq'=>hG.no hq' hRt.at.choose_spec dC dC,z9 hC.at.choose_spec hRt.at.choose_spec dC,z9 h11.at.choose_spec hRt.at.choose_spec dC⟩
      refine zEh (T:=fun q=>q=gt) (args:=#[.slice (some ⟨gt,0,none⟩) (jO y.2.2.1).length cpt]) zF (enters_of func35 kJ rfl) s rfl kJ rfl rfl (fun q hq=>by rw [hq];exact hRt.plain) (fun q hq=>by cases hq) (by rw [List.map_toArray];simp [show a.eval (.tmp 107)=_ from s.fct (.tmp 107)]) (zQJ hRt oQ) fun a w hR1 hF1 hk1 s=> ?_
      replace hFr:=yN hFr hF1 (fun q hq=>by rw [hq];exact hgt)
      replace h11:=h11.keep (hF1.block _ h11.lt hty.2.2) hk1
      replace hC:=hC.keep (hF1.block _ hC.lt hty.2.1) hk1
      replace hTd:y9 w W.heap.size 3 1 (.slice (some ⟨gt,0,none⟩) (jO y.2.2.1).length cpt) (ins (jO y.2.2.1).reverse):=hR1.toN hgt (by simp)
      refine zB rfl ?_
      have hb:=s.below
      replace hFr:=hFr.trans (hb.mono hFr.size)
      replace h11:=h11.below hb
      replace hC:=hC.below hb
      replace hTd:=hTd.below hb
      replace s:=s.anewB rfl rfl
      refine zVc ?_
      have hzc:zn<csv.length:=by rw [hcl];exact hzN
      refine zBk (w:=w) (n:=f10.ntmps) (fun i v U=>match i with|0=>v= .slice (some ⟨gt,0,none⟩) (jO y.2.2.1).length cpt|1=>v=(.slice (some ⟨gc,0,none⟩) N capc)|2=>v= .int .i64 (zn:Int)|3=>v= .pointer (some ⟨gc,zn*3,none⟩)|4=>QNp (csv.getD zn 0) v U|5=>v= .slice (some ⟨gt,0,none⟩) (jO y.2.2.1).length cpt|_=>True) (fun _ U=>Below w.heap.size w U) (fun _ U V=>Below U.heap.size U V) 6 hmix s.size kJ (fun i l U V _ _ _ hC hR=>hC.trans (hR.mono hC.size)) (fun i j v U V _ hj hij hE hR=> ?_) (fun l U _ hb=>hb) (fun i o hi ho l a' U hf hnl hall_ Kk hK=> ?_) (fun Q' hQ a' w' hb hsz hnd hkp hv=> ?_)
      . have hj':j=0∨j=1∨j=2∨j=3∨j=4∨j=5:=by omega
        rcases hj' with rfl|rfl|rfl|rfl|rfl|rfl<;>first|exact hE|exact (fQN (csv.getD zn 0)).us _ _ _ hE (zK hR)
      . have hCU:=hC.below hf.cls
        have k10:a'.eval (.tmp 10)= .slice (some ⟨gt,0,none⟩) (jO y.2.2.1).length cpt:=by
          cases h5:l.getD 5 false with
          |true=>exact hf.vals 5 dC h5 10 rfl
          |false=>exact (hf.old 5 dC h5 10 rfl).trans (s.val mz5)
        have hi':i=0∨i=1∨i=2∨i=3∨i=4∨i=5:=by omega
        rcases hi' with rfl|rfl|rfl|rfl|rfl|rfl<;>obtain rfl:=Option.some.inj ho
        . exact yC ho (fun _ e=>by cases e) (fun _ e=>by cases e) (zEo k10) (hK _ U rfl (zVe _ _))
        . exact yC ho (fun _ e=>by cases e) (fun _ e=>by cases e) (zEo ((hf.keep 14 (fun j hj=>yH (k:=6) kJ j hj)).trans (s.val mz8))) (hK _ U rfl (zVe _ _))
        . exact yC ho (fun _ e=>by cases e) (fun _ e=>by cases e) (zEo ((hf.keep 4 (fun j hj=>yH (k:=6) kJ j hj)).trans (s.val mz4))) (hK _ U rfl (zVe _ _))
        . have e1:a'.eval (.tmp 110)=(.slice (some ⟨gc,0,none⟩) N capc):=hf.vals 1 dC (zU hall_ kJ) 110 rfl
          have e2:a'.eval (.tmp 111)= .int .i64 (zn:Int):=hf.vals 2 dC (zU hall_ kJ) 111 rfl
          exact yC ho (fun _ e=>by cases e) (fun _ e=>by cases e) (zEq (z:=3) kJ hzN e1 e2) (hK _ U rfl (zVe _ _))
        . have e3:a'.eval (.tmp 112)= .pointer (some ⟨gc,zn*3,none⟩):=hf.vals 3 dC (zU hall_ kJ) 112 rfl
          obtain ⟨cs,g1,g2,g3⟩:=zMM hCU (zBE hzc)
          exact yC ho (fun _ e=>by cases e) (fun _ e=>by cases e) (zFC (cs:=cs) (o:=zn*3) (k:=3) kJ e3 g1 g2) (hK _ U g3 (zVe _ _))
        . have e0:a'.eval (.tmp 109)= .slice (some ⟨gt,0,none⟩) (jO y.2.2.1).length cpt:=hf.vals 0 dC (zU hall_ kJ) 109 rfl
          exact yC ho (fun _ e=>by cases e) (fun _ e=>by cases e) (zQX e0) (hK _ U rfl (zVe _ _))
      have e0:a'.tmps.getD 10 undef= .slice (some ⟨gt,0,none⟩) (jO y.2.2.1).length cpt:=hv 5 dC 10 rfl
      have e4:QNp (csv.getD zn 0) (a'.tmps.getD 113 undef) w':=hv 4 dC 113 rfl
      have e11:=(hkp 11 (fun j hj=>yH (k:=6) kJ j hj)).trans (s.val mz6)
      replace hFr:=hFr.trans (hb.mono hFr.size)
      replace h11:=h11.below hb
      replace hTd:=hTd.below hb
      replace s:St w' [(10, .u (UF.eq (.slice (some ⟨gt,0,none⟩) (jO y.2.2.1).length cpt))),(113, .u (fQN (csv.getD zn 0))),(11, .u (UF.eq (pO b11 0)))] [] f10.ntmps [] a' w':=wV hsz (hnd.trans s.nd) (fmz ⟨⟨_,rfl,e0⟩,fmz ⟨⟨_,rfl,e4⟩,fmz ⟨⟨_,rfl,e11⟩,fnz⟩⟩⟩)
      have h11t: ∀q_,(Value.slice (some ⟨gt,0,none⟩) (jO y.2.2.1).length cpt).ownBlock=some q_->q_≠b11:=fun q_ hq=>(z9 h11.at.choose_spec (qO hTd hq).2.choose_spec.1 dC).symm
      refine zCC (g:=b11) (i:=0) (cap:=1) (z:=3) (e:=32) (CU.agg (fQN (csv.getD zn 0))) rfl s rfl rfl h11 (by simp) kJ (s.fct (.tmp 11)) (zKP (s.fct (.tmp 113))) (fun q hq=>by cases hq) fun w hF1 hk1 h11 s=> ?_
      replace hFr:=yN hFr hF1 (fun q hq=>by rw [hq];exact hb11)
      replace hTd:=hTd.keep (fun q hq=>hF1.block q (hTd.lt q hq).2 (h11t q hq)) hk1
      refine qN (uB true) rfl s kJ iiz fun a w s=> ?_
      have hb:=s.below
      replace hFr:=hFr.trans (hb.mono hFr.size)
      replace h11:=h11.below hb
      replace hTd:=hTd.below hb
      replace s:=s.anewB rfl rfl
      refine zB rfl (hQ _ _ ?_)
      refine zVk ?_
      obtain ⟨c11,g1,g2,g3⟩:=zON h11
      replace s:=s.home rfl rfl hFr
      exact vG s rfl kJ (s.fct (.tmp 11)) g1 g2 ⟨_,_,_,rfl,by rw [hres,show a.tmps.getD 10 undef=_ from s.fct (.tmp 10), <-hall,show jO y.2.2.1.reverse=(jO y.2.2.1).reverse by simp [jO]];exact hTd,by rw [hres];exact g3,by rw [hres];exact s.fct (.tmp 12)⟩
end Go.Proofs.Wd

namespace Go.Proofs.Wd
open Tryz
set_option maxRecDepth 100000
set_option maxHeartbeats 1000000
open Go.RowKit Lb
section
variable {F:Fence} {m:Nat} {w0:Wu} {ops:Array Oper} {G:Nat->SF} {d:Tmp} {ty:TypeId} {pos:String} {aft:Array Edge}
theorem zNg (a b:Int) (hd: ∀v W,(SF.row 1 (ins [a,b])).p v W->(G d).p v W:=by exact fun _ _ h=>h):qB F m prog w0 ops G ⟨some d, .buildSlice 24 2 #[(0, .const (.int .i64 a)),(1, .const (.int .i64 b))],ty,pos,aft,none⟩:=
 zBU fun bb W hb hh=>by
  have ev: ∀v:Wv,bb.eval (.const v)=v:=fun _=>rfl
  exact ⟨_,_,by simpa [ev] using zTJ a b,hd _ _ ((zEt [a,b] W (by show _<=1000;simp)).row rfl)⟩
theorem zIK (a b c:Int) (hd: ∀v W,(SF.row 1 (ins [a,b,c])).p v W->(G d).p v W:=by exact fun _ _ h=>h):qB F m prog w0 ops G ⟨some d, .buildSlice 24 3 #[(0, .const (.int .i64 a)),(1, .const (.int .i64 b)),(2, .const (.int .i64 c))],ty,pos,aft,none⟩:=
 zBU fun bb W hb hh=>by
  have ev: ∀v:Wv,bb.eval (.const v)=v:=fun _=>rfl
  exact ⟨_,_,by simpa [ev] using zTI a b c,hd _ _ ((zEt [a,b,c] W (by show _<=1000;simp)).row rfl)⟩
theorem zNf (a b c e:Int) (hd: ∀v W,(SF.row 1 (ins [a,b,c,e])).p v W->(G d).p v W:=by exact fun _ _ h=>h):qB F m prog w0 ops G ⟨some d, .buildSlice 24 4 #[(0, .const (.int .i64 a)),(1, .const (.int .i64 b)),(2, .const (.int .i64 c)),(3, .const (.int .i64 e))],ty,pos,aft,none⟩:=
 zBU fun bb W hb hh=>by
  have ev: ∀v:Wv,bb.eval (.const v)=v:=fun _=>rfl
  exact ⟨_,_,by simpa [ev] using zTH a b c e,hd _ _ ((zEt [a,b,c,e] W (by show _<=1000;simp)).row rfl)⟩
end
theorem zQR {a b c d e f:Int} {u v q:Wv} {W:Wu} (hu:u= .agg #[.int .i64 a, .int .i64 b]) (hv:v= .agg #[.int .i64 c, .int .i64 d]) (hq:q= .agg #[.int .i64 e, .int .i64 f]): ∃t cs,zS prog 22 3 [(0,u),(1,v),(2,q)]=some (t,cs)/\(SF.row 2 (jns [(a,b),(c,d),(e,f)])).p (.slice (some ⟨W.heap.size,0,none⟩) 3 3) (W.alloc (.cells cs t)):=by
 subst hu hv hq
 exact ⟨_,_,zSj a b c d e f,(zMN a b c d e f W).row rfl⟩
theorem zP4 {W W':Wu} {r:List Int×Rat×Bool} {v:Wv} {V:Wu} (hW:W.heap.size<=W'.heap.size) (h:(zLI W' r).p v V):(wM (wE W 3 1 (ins r.1)) (fQN r.2.1).tS (fB r.2.2).tS).p v V:=by
 obtain ⟨x,y,z,h1,h2,h3,h4⟩:=h
 exact ⟨x,y,z,h1,y9.mono h2 hW,h3,h4⟩
theorem zP5 {W':Wu} {r:List Int×Rat×Bool} {v:Wv} {V:Wu} (h:(zLI W' r).p v V):(wM SF.any (fQN r.2.1).tS (fB r.2.2).tS).p v V:=by
 obtain ⟨x,y,z,h1,h2,h3,h4⟩:=h
 exact ⟨x,y,z,h1,trivial,h3,h4⟩
theorem zQ5:qzs [1,1,2]= [1,1,2]:=by decide+kernel
theorem zKO {fs:List Rat} (hq: ∀q,q∈fs->QB q 1) {v:Wv} {W:Wu} (h:(SF.row 3 (qns fs)).p v W):(SF.row 3 (rvs 1 fs)).p v W:=
 zIr (by simp) (fun i C D hC hD cs W' hh=>by
  have hi:i<fs.length:=by have:=(List.getElem?_eq_some_iff.1 hC).1;simpa using this
  rw [List.getElem?_map,zVq hi] at hC hD
  cases hC;cases hD
  exact wJ hh (hq _ (zVr hi))) v W h
theorem zHt: ∀q,q∈([1,1,2]:List Rat)->q=1∨q=2:=fun q hq=>by
 simp only [zVu,zVv,or_false] at hq
 rcases hq with rfl|rfl|rfl
 ·exact .inl rfl
 ·exact .inl rfl
 ·exact .inr rfl
theorem zH7: ∀q,q∈([1,1,2]:List Rat)->QB q 1:=fun q hq=>by
 rcases zHt q hq with rfl|rfl<;>exact ⟨by unfold Bd BB;decide+kernel,by unfold BB;decide+kernel⟩
theorem zJV {W:Wu} (hT:Tab W):Calls prog 8 #[] W (Ret W (fB true).tS):=by
 have hFr:Below W.heap.size W W:=zVe _ _
 refine qH [] func8 rfl kJ trivial fun a s=> ?_
 refine zVc ?_
 refine zC 1 ((0, .u (uB false)):: []) hmix s kJ
  (oc zG<|zE) fun a w1 s=> ?_
 refine zB rfl ?_
 have hb:=s.below
 replace hFr:=hFr.trans (hb.mono hFr.size)
 replace hT:=hT.below hb
 replace s:=s.anewB rfl rfl
 refine zVc ?_
 refine qU 5 ((8, .Z (UF.eq (.agg #[.int .i64 0, .int .i64 1])))::(9, .Z (UF.eq (.agg #[.int .i64 1, .int .i64 2])))::(10, .Z (UF.eq (.agg #[.int .i64 0, .int .i64 2])))::(11, .s (SF.row 2 (jns wkJ)))::(1, .s (SF.row 2 (jns wkJ))):: []) hmix s kJ
  (oc (zAo (fun u v W (hu:u= .int .i64 0) (hv:v= .int .i64 1)=>by subst hu hv;exact ⟨_,zR4 _ _,rfl⟩))<|oc (zAo (fun u v W (hu:u= .int .i64 1) (hv:v= .int .i64 2)=>by subst hu hv;exact ⟨_,zR4 _ _,rfl⟩))<|oc (zAo (fun u v W (hu:u= .int .i64 0) (hv:v= .int .i64 2)=>by subst hu hv;exact ⟨_,zR4 _ _,rfl⟩))<|oc (zGX (fun u v q W (hu:u= .agg #[.int .i64 0, .int .i64 1]) (hv:v= .agg #[.int .i64 1, .int .i64 2]) (hq:q= .agg #[.int .i64 0, .int .i64 2])=>zQR hu hv hq))<|oc zG<|zE) fun a w2 s hr=> ?_
 refine zB rfl ?_
 obtain ⟨lj,e1⟩: ∃v,a.tmps.getD 1 undef=v:=⟨_,rfl⟩
 have hlj:=(hr (_,_) mz4)
 rw [show a.tmps.getD _ undef=lj from e1] at hlj
 replace s:=s.learn 1 _ e1
 have hb:=s.below
 replace hFr:=hFr.trans (hb.mono hFr.size)
 replace hT:=hT.below hb
 replace s:=s.anewB rfl rfl
 refine zVc ?_
 refine qU 8 ((13, .Z (UF.eq lj))::(14, .s (SF.row 1 (ins [1,1,2])))::(15, .s (SF.row 3 (rvs 1 [1,1,2])))::(16, .s (wM (wE w2 3 1 (ins [0,2])) ((fQN 2).tS) ((uB true).tS)))::(12, .s (wM (wE w2 3 1 (ins [0,2])) ((fQN 2).tS) ((uB true).tS)))::(17, .s (wE w2 3 1 (ins [0,2])))::(18, .u (fQN 2))::(19, .u (uB true)):: []) hmix s kJ
  (oc zA<|oc (zIK 1 1 2)<|oc (zM zF zRC (fun u0 W hb (h0:(SF.row 1 (ins [1,1,2])).p u0 W)=>(zLl h0 dC dC).mono (wG (fun v W h=>zKO zH7 (by have h7:=y9.row h;rw [zQ5] at h7;exact h7)))))<|oc (zIM zF zRI (fun u0 u1 u2 u3 u4 W hb (h0:u0= .int .i64 4) (h1:u1=lj) (h2:(SF.row 3 (rvs 1 [1,1,2])).p u2 W) (h3:u3= .int .i64 0) (h4:u4= .int .i64 2)=>(zIx (n:=4) (N:=4) (x:=0) (z:=2) (js:=wkJ) (fs:= [1,1,2]) h0 (yT hlj h1 (s.up hb)) h2 h3 h4 dC (zJU _ zHt) (hT.below (s.up hb))).mono (wG (fun v W h=>by have h7:=zP4 (s.up hb).size h;rw [zOW] at h7;exact h7))))<|oc zA<|oc (zD5 (A:=wE w2 3 1 (ins [0,2])) (B:=(fQN 2).tS) (C:=(uB true).tS) iiz)<|oc (zD4 (A:=wE w2 3 1 (ins [0,2])) (B:=(fQN 2).tS) (C:=(uB true).tS) iiz)<|oc (zD3 (A:=wE w2 3 1 (ins [0,2])) (B:=(fQN 2).tS) (C:=(uB true).tS) iiz)<|zE) fun a w3 s hr=> ?_
 obtain ⟨lv,e17⟩: ∃v,a.tmps.getD 17 undef=v:=⟨_,rfl⟩
 have hlv:=(hr (_,_) mz5)
 rw [show a.tmps.getD _ undef=lv from e17] at hlv
 replace hlv:=y9.row hlv
 replace s:=s.learn 17 _ e17
 have hb:=s.below
 replace hFr:=hFr.trans (hb.mono hFr.size)
 replace hT:=hT.below hb
 replace hlj:=(SF.row 2 (jns wkJ)).st _ _ _ hlj hb
 replace s:=s.anewB rfl rfl
 refine qJ (CU.len 3) (cs:=zR3) kJ rfl s kJ (fun W=>rfl) rfl fun b3 a w s=> ?_
 refine qN (UF.eq lv) rfl s kJ iiz fun a w s=> ?_
 refine yY (CU.agg (fQN 2)) ((fQN 2).tS) rfl s kJ rfl rfl rfl iiz iiz qP fun a w s=> ?_
 refine qN (uB true) rfl s kJ iiz fun a w s=> ?_
 refine zB rfl ?_
 replace s:StS _ _ _ [⟨3,32,CU.agg (fQN 2),b3,true⟩] _ _ _ _:=s.freeze
 have hb:=s.below
 replace hFr:=hFr.trans (hb.mono hFr.size)
 replace hT:=hT.below hb
 replace hlj:=(SF.row 2 (jns wkJ)).st _ _ _ hlj hb
 replace hlv:=(SF.row 1 (ins [0,2])).st _ _ _ hlv hb
 replace s:=s.anewB rfl rfl
 refine zVc ?_
 refine zC 8 ((21, .Z (UF.eq lj))::(22, .s (SF.row 1 (ins [1,1,2])))::(23, .s (SF.row 3 (rvs 1 [1,1,2])))::(24, .s (wM (SF.any) ((fQN ((jI (grE 4 wkJ [1,1,2]) 4 0 3).2.1)).tS) ((uB false).tS)))::(20, .s (wM (SF.any) ((fQN ((jI (grE 4 wkJ [1,1,2]) 4 0 3).2.1)).tS) ((uB false).tS)))::(26, .u (fQN ((jI (grE 4 wkJ [1,1,2]) 4 0 3).2.1)))::(27, .u (uB false)):: []) hmix s kJ
  (oc zA<|oc (zIK 1 1 2)<|oc (zM zF zRC (fun u0 W hb (h0:(SF.row 1 (ins [1,1,2])).p u0 W)=>(zLl h0 dC dC).mono (wG (fun v W h=>zKO zH7 (by have h7:=y9.row h;rw [zQ5] at h7;exact h7)))))<|oc (zIM zF zRI (fun u0 u1 u2 u3 u4 W hb (h0:u0= .int .i64 4) (h1:u1=lj) (h2:(SF.row 3 (rvs 1 [1,1,2])).p u2 W) (h3:u3= .int .i64 0) (h4:u4= .int .i64 3)=>(zIx (n:=4) (N:=4) (x:=0) (z:=3) (js:=wkJ) (fs:= [1,1,2]) h0 (yT hlj h1 (s.up hb)) h2 h3 h4 dC (zJU _ zHt) (hT.below (s.up hb))).mono (wG (fun v W h=>by have h7:=zP5 h;rw [zOV] at h7;exact h7))))<|oc zA<|oc (zD5 (A:=SF.any) (B:=(fQN ((jI (grE 4 wkJ [1,1,2]) 4 0 3).2.1)).tS) (C:=(uB false).tS) iiz)<|oc (zD4 (A:=SF.any) (B:=(fQN ((jI (grE 4 wkJ [1,1,2]) 4 0 3).2.1)).tS) (C:=(uB false).tS) iiz)<|oc (zD3 (A:=SF.any) (B:=(fQN ((jI (grE 4 wkJ [1,1,2]) 4 0 3).2.1)).tS) (C:=(uB false).tS) iiz)<|zE) fun a w4 s=> ?_
 refine qJ (CU.len 3) (cs:=zR3) kJ rfl s kJ (fun W=>rfl) rfl fun b6 a w s=> ?_
 refine qN UF.any rfl s kJ (fun _ _ _=>trivial) fun a w s=> ?_
 refine yY (CU.agg (fQN ((jI (grE 4 wkJ [1,1,2]) 4 0 3).2.1))) ((fQN ((jI (grE 4 wkJ [1,1,2]) 4 0 3).2.1)).tS) rfl s kJ rfl rfl rfl iiz iiz qP fun a w s=> ?_
 refine qN (uB false) rfl s kJ iiz fun a w s=> ?_
 refine zB rfl ?_
 replace s:StS _ _ _ [⟨6,32,CU.agg (fQN ((jI (grE 4 wkJ [1,1,2]) 4 0 3).2.1)),b6,true⟩,⟨3,32,CU.agg (fQN 2),b3,true⟩] _ _ _ _:=s.freeze
 have hb:=s.below
 replace hFr:=hFr.trans (hb.mono hFr.size)
 replace hT:=hT.below hb
 replace hlj:=(SF.row 2 (jns wkJ)).st _ _ _ hlj hb
 replace hlv:=(SF.row 1 (ins [0,2])).st _ _ _ hlv hb
 replace s:=s.anewB rfl rfl
 refine zVc ?_
 replace s:=s.drop [0]
 refine zC 22 ((28, .Z (uB true))::(29, .Z (uB true))::(30, .Z (UF.eq lv))::(31, .s (SF.row 1 (ins [0,2])))::(32, .Z (uB true))::(33, .Z (uB true))::(34, .Z (uB true))::(35, .Z (fQN 2))::(36, .Z (fQN ((2:Int):Rat)))::(37, .Z (uB true))::(38, .Z (uB true))::(39, .Z (uB true))::(40, .Z (uB false))::(41, .Z (uB true))::(42, .Z (uB true))::(43, .Z (uB true))::(44, .Z (UF.eq lj))::(45, .s (SF.row 1 (ins [0,0,0,3])))::(46, .s (SF.row 1 (ins [0,0,0,3])))::(47, .Z (uB true))::(48, .Z (uB true))::(0, .u (uB true)):: []) hmix s kJ
  (oc zA<|oc zA<|oc (zD 29 true kJ iiz (fun _=>zA) arf)<|oc (zD 29 true kJ iiz (fun _=>zNg 0 2) arf)<|oc (zD 29 true kJ iiz (fun _=>yB zF zNJ (fun u0 u1 W hb (h0:u0=lv) (h1:(SF.row 1 (ins [0,2])).p u1 W)=>(zC0 (la:= [0,2]) (lb:= [0,2]) (yT hlv h0 (s.up hb)) h1 dC).mono (wG (fun v W h=>h)))) arf)<|oc (yE true iiz (fun _ _ _ h=>h) (fun e=>by cases e))<|oc zA<|oc (zD 34 true kJ iiz (fun _=>yP (f:=fQN 2) 3 kJ (hz:=jH _)) arf)<|oc (zD 34 true kJ iiz (fun _=>zM zF zNI (fun u0 W hb (h0:u0= .int .i64 2)=>zIz _ h0 dC)) arf)<|oc (zD 34 true kJ iiz (fun _=>yB zF zRH (fun u0 u1 W hb (h0:QNp 2 u0 W) (h1:QNp ((2:Int):Rat) u1 W)=>(zIy (m:=1) (p:=2) (q:=((2:Int):Rat)) (wJ h0 ⟨by unfold Bd BB;decide+kernel,by unfold BB;decide+kernel⟩) (wJ h1 ⟨by unfold Bd BB;decide+kernel,by unfold BB;decide+kernel⟩) dC dC).mono (wG (fun v W h=>by rw [show (qsg (2:Rat) ((2:Int):Rat)==0)=true by decide+kernel] at h;exact h)))) arf)<|oc (yE true iiz (fun _ _ _ h=>h) (fun e=>by cases e))<|oc zA<|oc (zD 39 true kJ iiz (fun _=>zA) arf)<|oc (zD 39 true kJ iiz (fun _=>zAT false iiz (fun _=>rfl)) arf)<|oc (yE true iiz (fun _ _ _ h=>h) (fun e=>by cases e))<|oc zA<|oc (zD 43 true kJ iiz (fun _=>zA) arf)<|oc (zD 43 true kJ iiz (fun _=>yB zF zTd (fun u0 u1 W hb (h0:u0= .int .i64 4) (h1:u1=lj)=>(zKC (n:=4) (N:=4) (js:=wkJ) h0 (yT hlj h1 (s.up hb)) dC dC dC (hT.below (s.up hb))).mono (wG (fun v W ⟨lab,h,hr⟩=>by rw [zOU h] at hr;exact y9.row hr)))) arf)<|oc (zD 43 true kJ iiz (fun _=>zNf 0 0 0 3) arf)<|oc (zD 43 true kJ iiz (fun _=>yB zF zNJ (fun u0 u1 W hb (h0:(SF.row 1 (ins [0,0,0,3])).p u0 W) (h1:(SF.row 1 (ins [0,0,0,3])).p u1 W)=>(zC0 (la:= [0,0,0,3]) (lb:= [0,0,0,3]) h0 h1 dC).mono (wG (fun v W h=>h)))) arf)<|oc (yE true iiz (fun _ _ _ h=>h) (fun e=>by cases e))<|oc zG<|zE) fun a w5 s=> ?_
 refine zB rfl ?_
 replace s:StS _ _ _ [⟨6,32,CU.agg (fQN ((jI (grE 4 wkJ [1,1,2]) 4 0 3).2.1)),b6,true⟩,⟨3,32,CU.agg (fQN 2),b3,true⟩] _ _ _ _:=s.freeze
 have hb:=s.below
 replace hFr:=hFr.trans (hb.mono hFr.size)
 replace hT:=hT.below hb
 replace hlj:=(SF.row 2 (jns wkJ)).st _ _ _ hlj hb
 replace hlv:=(SF.row 1 (ins [0,2])).st _ _ _ hlv hb
 replace s:=s.anewB rfl rfl
 refine zVk ?_
 exact wZ s hFr rfl iiz
theorem zTg {N:Nat} {js:List (Int×Int)} {fs:List Rat} (hB:GrB N js fs) {a b:Nat} (ha:a<N) (hb:b<N):QB ((csR (grE N js fs) N (a:Int)).getD b 0) 1:=by
 have hCS:=zES (zGb N js fs) (zDy ha)
 rcases hCS.at_ b hb with ⟨s,h1,_,h3⟩|⟨_,h2,_⟩
 ·exact hB.qb h1.1 (by have:=hB.hN;omega)
 ·rw [h2];exact QB.zero dC
section
variable {F:Fence} {m:Nat} {P:Program} {w0:Wu} {ops:Array Oper} {G:Nat->SF} {d:Tmp} {ty:TypeId} {pos:String} {aft:Array Edge}
theorem zAn {op:Op} {j:Nat} {want:Bool} (g:Nat) (c:Prop) [Decidable c] (hj:zX ops j=some g) (hg: ∀v W,(G g).p v W->v=if c then .bool want else undef) (h1:c->qB F m P w0 ops G ⟨some d,op,ty,pos,aft,none⟩) (h2: ¬c-> ∀W,(G d).p undef W)
  (h3: ∀W ρ f,(⟨some d,op,ty,pos,aft,none⟩:Oper).about P W ρ=some f->F.fn f:=by first|exact fun _ _ _ h=>by cases h|exact fun _ _ _ _=>trivial):qB F m P w0 ops G ⟨some d,op,ty,pos,aft,some (j,want)⟩:=
 ⟨g,_,hj,hg,fun e=>h1 (Decidable.byContradiction fun hc=>by rw [if_neg hc] at e;cases e),fun e=>⟨fun d' hd W=>by cases hd;exact h2 (fun hc=>e (if_pos hc)) W,h3⟩⟩
end
theorem zM3 (q:Rat):(qsg q q==0)=true:=by rw [beq_iff_eq];exact zEy.2 rfl
theorem zPJ {p q:Rat} (h:p<=q):decide (qsg p q>0)=false:=by
 rw [decide_eq_false_iff_not]
 intro h2
 have h3:qsg p q=1:=by
  have:=zKN p q
  omega
 have:=zOv.1 h3
 grind
end Go.Proofs.Wd

namespace Go.Proofs.Wd
open Tryz
set_option maxRecDepth 100000
set_option maxHeartbeats 1000000
open Go.RowKit Lb
abbrev swJ (j:Int×Int):Int×Int:=(j.2,j.1)
abbrev twR (q:Rat):Rat:=q+q
theorem zLU {N:Nat} {js:List (Int×Int)} {fs:List Rat} (hB:GrB N js fs) (z:Int) {b:Nat} (hb:b<N):QB ((csR (grE N js fs) N z).getD b 0) 1:=by
 cases h:yS N z with
 |true=>
  obtain ⟨h1,h2⟩:=jX h
  rw [<-h2]
  exact zTg hB h1 hb
 |false=>
  unfold csR
  rw [if_neg (by rw [h];decide)]
  rw [zVi,zVw,if_pos hb]
  exact QB.zero dC
theorem zNk {N:Nat} {js:List (Int×Int)} {fs:List Rat} {x:Int×Int} {far:Rat} (hl:fs.length=js.length) (z:Int):
  csR (grE N (js.map swJ).reverse fs.reverse) N z=csR (grE N js fs) N z/\ssR (grE N (js.map swJ).reverse fs.reverse) N z=ssR (grE N js fs) N z/\ssR (grE N js (fs.map twR)) N z=ssR (grE N js fs) N z/\
  (csR (grE N js fs) N z).length=N/\(ssR (grE N js fs) N z).length=N/\(csR (grE N (js++ [x]) (fs++ [far])) N z).length=N/\(ssR (grE N (js++ [x]) (fs++ [far])) N z).length=N/\(csR (grE N js (fs.map twR)) N z).length=N/\
  ∀i,i<N->(0<=(ssR (grE N js fs) N z).getD i 0->0<=(ssR (grE N (js++ [x]) (fs++ [far])) N z).getD i 0/\(csR (grE N (js++ [x]) (fs++ [far])) N z).getD i 0<=(csR (grE N js fs) N z).getD i 0)/\(csR (grE N js (fs.map twR)) N z).getD i 0=(csR (grE N js fs) N z).getD i 0+(csR (grE N js fs) N z).getD i 0:=by
 cases h:yS N z with
 | true=>
  have h1:=zES (E:=grE N js fs) (zGb _ _ _) h
  have h2:=zES (E:=grE N (js++ [x]) (fs++ [far])) (zGb _ _ _) h
  have h3:=zES (E:=grE N (js.map swJ).reverse fs.reverse) (zGb _ _ _) h
  have h4:=zES (E:=grE N js (fs.map twR)) (zGb _ _ _) h
  obtain ⟨e1,e2⟩:=h3.uniq h1 (fun a b f=>zQg hl)
  have e3: ∀n,n<N->_:=fun n hn=>h1.twice h4 (fun a b f=>zIZ.1) (fun a b f=>zIZ.2) (n:=n) hn
  refine ⟨e1,e2, ?_,h1.cl,h1.sl,h2.cl,h2.sl,h4.cl,fun i hi=>⟨fun h0=> ?_,(e3 i hi).1⟩⟩
  ·refine List.ext_getElem (h4.sl.trans h1.sl.symm) fun n g1 g2=> ?_
   have:=(e3 n (by rw [<-h4.sl];exact g1)).2
   simpa [g1,g2] using this
  ·exact h1.more h2 (fun a b f=>zQh hl) hi h0
 | false=>
  have hc: ∀E,csR E N z=List.replicate N 0:=fun E=>by unfold csR;rw [if_neg (by rw [h];decide)]
  have hs: ∀E,ssR E N z=List.replicate N (-1):=fun E=>by unfold ssR;rw [if_neg (by rw [h];decide)]
  simp only [hc,hs]
  refine ⟨trivial,trivial,trivial,by simp,by simp,by simp,by simp,by simp,fun i hi=>⟨fun h0=> ?_, ?_⟩⟩
  ·rw [zVi,zVw,if_pos hi] at h0
   exact absurd h0 dC
  ·rw [zVi,zVw,if_pos hi]
   exact (Rat.add_zero (0:Rat)).symm
def TnQ (B:Nat) (fs:List Rat):Prop:= ∀q,q∈fs->0<=q-> ∃j:Nat,q*27720=(j:Rat)/\j<=B
theorem TnQ.gr {B N:Nat} {js:List (Int×Int)} {fs:List Rat} (h:TnQ B fs) (hN:N<=20) (hj:js.length<=61) (hB:B<=55384560):GrB N js fs:=by
 refine ⟨hN,hj,fun i=> ?_⟩
 unfold zDj
 split
 ·rename_i hp
  rcases Nat.lt_or_ge i fs.length with hi|hi
  ·have hm:fs.getD i 0∈fs:=by rw [zVi,zVq hi];exact zVr hi
   obtain ⟨j,h1,h2⟩:=h _ hm (Rat.le_of_lt hp)
   exact ⟨j,h1,by omega⟩
  ·rw [zVi,List.getElem?_eq_none hi]
   exact ⟨0,by simp,by omega⟩
 ·exact ⟨0,by simp,by omega⟩
theorem TnQ.app {B:Nat} {fs gs:List Rat} (h:TnQ B fs) (k:TnQ B gs):TnQ B (fs++gs):=fun q hq=>by
 rcases List.mem_append.1 hq with hq|hq
 ·exact h q hq
 ·exact k q hq
theorem TnQ.rev {B:Nat} {fs:List Rat} (h:TnQ B fs):TnQ B fs.reverse:=fun q hq=>h q (List.mem_reverse.1 hq)
theorem TnQ.dbl {B:Nat} {fs:List Rat} (h:TnQ B fs):TnQ (B+B) (fs.map twR):=fun q hq h0=>by
 obtain ⟨p,hp,rfl⟩:=zVs.1 hq
 have h0:0<=p+p:=h0
 obtain ⟨j,h1,h2⟩:=h p hp (by grind)
 exact ⟨j+j,by show (p+p)*27720=_;rw [Rat.natCast_add, <-h1,Rat.add_mul],by omega⟩
theorem zPI {p q:Rat} (h:p<=q):decide (qsg p q>0)=false:=zPJ h
theorem zJs {W:Wu} {l:List Rat} {la lb:Wv} (hla:(SF.row 3 (qns l)).p la W) (hlb:(SF.row 3 (qns l)).p lb W) (hll:l.length<=1000):Calls prog 18 #[la,lb] W (Ret W (fB true).tS):=by
 have hFr:Below W.heap.size W W:=zVe _ _
 refine qH [(UF.eq la).tS,(UF.eq lb).tS] func18 rfl kJ ⟨rfl,rfl,trivial⟩ fun a s=> ?_
 replace s:=s.renew [(0, .u (UF.eq la)),(1, .u (UF.eq lb))] (fmz ⟨.inr ⟨_,rfl, .head _⟩,fmz ⟨.inr ⟨_,rfl,mz1⟩,fnz⟩⟩)
 refine zVc ?_
 refine zC 1 ((4, .u (uB false)):: []) hmix s kJ
  (oc zG<|zE) fun a w1 s=> ?_
 refine zB rfl ?_
 have hb:=s.below
 replace hFr:=hFr.trans (hb.mono hFr.size)
 replace hla:=(SF.row 3 (qns l)).st _ _ _ hla hb
 replace hlb:=(SF.row 3 (qns l)).st _ _ _ hlb hb
 replace s:=s.anewB rfl rfl
 refine zVc ?_
 refine zVc ?_
 refine zC 5 ((6, .Z (UF.eq la))::(7, .Z (uI ((qns l).length:Int)))::(8, .Z (UF.eq lb))::(9, .Z (uI ((qns l).length:Int)))::(10, .u (uB false)):: []) hmix s kJ
  (oc zA<|oc (qK (z:=3) (Cs:=qns l) kJ (fun v W hb h=>(yT hla h (s.up hb))) (fun _=>rfl))<|oc zA<|oc (qK (z:=3) (Cs:=qns l) kJ (fun v W hb h=>(yT hlb h (s.up hb))) (fun _=>rfl))<|oc (zP .i64 ((qns l).length:Int) ((qns l).length:Int) false iiz iiz (by simp) rfl)<|zE) fun a w2 s=> ?_
 refine zB rfl ?_
 have hb:=s.below
 replace hFr:=hFr.trans (hb.mono hFr.size)
 replace hla:=(SF.row 3 (qns l)).st _ _ _ hla hb
 replace hlb:=(SF.row 3 (qns l)).st _ _ _ hlb hb
 replace s:=s.anewB rfl rfl
 refine StS.cond s false iiz (fun e=>by cases e) (fun e=> ?_)
 refine zVf ?_
 refine zVc ?_
 refine zVc ?_
 refine zC 1 ((5, .u (uI 0)):: []) hmix s kJ
  (oc zG<|zE) fun a w3 s=> ?_
 refine zB rfl ?_
 have hb:=s.below
 replace hFr:=hFr.trans (hb.mono hFr.size)
 replace hla:=(SF.row 3 (qns l)).st _ _ _ hla hb
 replace hlb:=(SF.row 3 (qns l)).st _ _ _ hlb hb
 replace s:=s.anewB rfl rfl
 refine zVg ?_
 refine yM (fun (y:Nat) a w=>y<=l.length/\Below W.heap.size W w/\(SF.row 3 (qns l)).p la w/\(SF.row 3 (qns l)).p lb w/\St w [(0, .u (UF.eq la)),(1, .u (UF.eq lb)),(5, .u (uI ((y:Nat):Int)))] [] f18.ntmps [] a w) (fun y=>l.length - y) (0:Nat) ⟨zVn _,hFr,hla,hlb,s.keepK _ (fmz ⟨mz3,fmz ⟨mz4,fmz ⟨.head _,fnz⟩⟩⟩)⟩ fun y a w hx=> ?_
 clear hFr hla hlb
 obtain ⟨hk,hFr,hla,hlb,s⟩:=hx
 refine zVc ?_
 refine zVc ?_
 refine zC 4 ((11, .Z (uI (y:Int)))::(12, .Z (UF.eq la))::(13, .Z (uI ((qns l).length:Int)))::(14, .u (uB (decide ((y:Int)<((qns l).length:Int))))):: []) hmix s kJ
  (oc zA<|oc zA<|oc (qK (z:=3) (Cs:=qns l) kJ (fun v W hb h=>(yT hla h (s.up hb))) (fun _=>rfl))<|oc (zP .i64 (y:Int) ((qns l).length:Int) (decide ((y:Int)<((qns l).length:Int))) iiz iiz rfl rfl)<|zE) fun a w4 s=> ?_
 refine zB rfl ?_
 have hb:=s.below
 replace hFr:=hFr.trans (hb.mono hFr.size)
 replace hla:=(SF.row 3 (qns l)).st _ _ _ hla hb
 replace hlb:=(SF.row 3 (qns l)).st _ _ _ hlb hb
 replace s:=s.anewB rfl rfl
 refine StS.cond s (decide ((y:Int)<((qns l).length:Int))) iiz (fun e=> ?_) (fun e=> ?_)
 ·have hyl:y<l.length:=by have h7:=zVh e;simp only [zVd] at h7;omega
  refine zVf ?_
  refine zVc ?_
  refine zVg ?_
  refine zVc ?_
  refine zC 10 ((17, .Z (UF.eq la))::(18, .Z (uI (y:Int)))::(19, .Y (fQN (l.getD y 0)))::(20, .Z (fQN (l.getD y 0)))::(21, .Z (UF.eq lb))::(22, .Z (uI (y:Int)))::(23, .Y (fQN (l.getD y 0)))::(24, .Z (fQN (l.getD y 0)))::(25, .Z (uB true))::(26, .u (uB false)):: []) hmix s kJ
   (oc zA<|oc zA<|oc (zT (z:=3) (Cs:=qns l) (i:=y) (C:=CU.agg (fQN (l.getD y 0))) kJ (zBE hyl) (fun v W hb h=>(yT hla h (s.up hb))) iiz)<|oc (yP (f:=fQN (l.getD y 0)) 3 kJ (hz:=jH _))<|oc zA<|oc zA<|oc (zT (z:=3) (Cs:=qns l) (i:=y) (C:=CU.agg (fQN (l.getD y 0))) kJ (zBE hyl) (fun v W hb h=>(yT hlb h (s.up hb))) iiz)<|oc (yP (f:=fQN (l.getD y 0)) 3 kJ (hz:=jH _))<|oc (yB zF zTb (fun u0 u1 W hb (h0:QNp (l.getD y 0) u0 W) (h1:QNp (l.getD y 0) u1 W)=>zMU h0 h1))<|oc (zAT true iiz (fun _=>rfl))<|zE) fun a w5 s=> ?_
  refine zB rfl ?_
  have hb:=s.below
  replace hFr:=hFr.trans (hb.mono hFr.size)
  replace hla:=(SF.row 3 (qns l)).st _ _ _ hla hb
  replace hlb:=(SF.row 3 (qns l)).st _ _ _ hlb hb
  replace s:=s.anewB rfl rfl
  refine StS.cond s false iiz (fun e=>by cases e) (fun e=> ?_)
  refine zVf ?_
  refine yI 2 ((15, .Z (uI (y:Int)))::(16, .u (uI ((y+1:Nat):Int))):: []) s kJ
   (oc zA<|oc (qX .i64 (y:Int) 1 ((y+1:Nat):Int) iiz iiz (wrap64 _ _ oQ oQ))<|zE) fun a w6 s=> ?_
  replace s:=s.drop [5]
  refine qN (uI ((y+1:Nat):Int)) rfl s kJ iiz fun a w s=> ?_
  refine zB rfl ?_
  have hb:=s.below
  replace hFr:=hFr.trans (hb.mono hFr.size)
  replace hla:=(SF.row 3 (qns l)).st _ _ _ hla hb
  replace hlb:=(SF.row 3 (qns l)).st _ _ _ hlb hb
  replace s:=s.anewB rfl rfl
  exact ⟨y+1,(by show l.length - (y+1)<l.length - y;omega),hyl,hFr,hla,hlb,s.keepK _ (fmz ⟨mz4,fmz ⟨mz5,fmz ⟨.head _,fnz⟩⟩⟩)⟩
 ·refine zVl ?_
  refine zVc ?_
  refine zC 1 ((4, .u (uB true)):: []) hmix s kJ
   (oc zG<|zE) fun a w7 s=> ?_
  refine zB rfl ?_
  have hb:=s.below
  replace hFr:=hFr.trans (hb.mono hFr.size)
  replace hla:=(SF.row 3 (qns l)).st _ _ _ hla hb
  replace hlb:=(SF.row 3 (qns l)).st _ _ _ hlb hb
  replace s:=s.anewB rfl rfl
  refine zVk ?_
  exact wZ s hFr rfl iiz
theorem zRn (j:Int×Int):CU.ok 2 (CU.agg (fJn j)):=fun cs W h=>by
 rw [zC9 h]
 exact ⟨rfl,rfl,fun u hu=>by
  simp only [zVu,zVv,or_false] at hu
  rcases hu with rfl|rfl<;>rfl⟩
theorem zKk (m:Nat) (q:Rat):CU.ok 3 (CU.agg (fRV m q)):=fun cs W h=>by
 obtain ⟨k,d,⟨b,s,t,e,⟨sg,A,n,c,l,e1,_⟩,A',n',c',l',e2,_⟩,_⟩:=h
 rw [zAq e]
 have:=congrArg Array.toList (zAk e1)
 simp at this
 rw [this.1,this.2,e2]
 exact ⟨rfl,rfl,fun u hu=>by
  simp only [zVu,zVv,or_false] at hu
  rcases hu with rfl|rfl|rfl<;>rfl⟩
theorem zLr (l:List (Int×Int)): ∀C,C∈jns l->CU.ok 2 C:=fun C hC=>by
 obtain ⟨j,_,rfl⟩:=zVs.1 hC
 exact zRn j
theorem zKj (m:Nat) (l:List Rat): ∀C,C∈rvs m l->CU.ok 3 C:=fun C hC=>by
 obtain ⟨q,_,rfl⟩:=zVs.1 hC
 exact zKk m q
def zJN (ops:Array Oper) (j k:Nat):Bool:=match ops[j]? with|some o=>o.after.any fun e=>Region.binds .any e&&e.on==k|none=>false
theorem zLT {ops:Array Oper} {j k:Nat} (h:zJN ops j k=true): ∃o e,ops[j]?=some o/\e∈o.after/\Region.binds .any e=true/\e.on=k:=by
 unfold zJN at h
 cases ho:ops[j]? with
 |none=>rw [ho] at h;cases h
 |some o=>
  rw [ho] at h
  obtain ⟨e,he,h1⟩:=Array.any_eq_true'.1 h
  rw [Bool.and_eq_true,beq_iff_eq] at h1
  exact ⟨o,e,rfl,he,h1.1,h1.2⟩
theorem zBA {ops:Array Oper} {l:Array Bool} {j k:Nat} (hc:zCG ops l) (hj:l.getD j false=true) (h:zJN ops j k=true):l.getD k false=true:=by
 obtain ⟨o,e,ho,he,hb,rfl⟩:=zLT h
 exact hc j o hj ho e he hb
theorem zOn {ops:Array Oper} {l:Array Bool} {i k:Nat} (hr: ∀o,ops[i]?=some o-> ∀e∈o.after,Region.binds .any e=true->l.getD e.on false=true) (h:zJN ops i k=true):l.getD k false=true:=by
 obtain ⟨o,e,ho,he,hb,rfl⟩:=zLT h
 exact hr o ho e he hb
def moD (ops:Array Oper):Bool:=zJN ops 6 3&&zJN ops 9 6&&zJN ops 12 9&&zJN ops 14 12&&zJN ops 15 14&&zJN ops 16 15&&zJN ops 17 15&&zJN ops 18 14
def moC (l:Array Bool) (j:Nat):Prop:=match j with
 |1=>l.getD 3 false=false
 |3=>l.getD 6 false=false
 |5=>l.getD 6 false=false
 |7=>l.getD 9 false=false
 |9=>l.getD 12 false=false
 |11=>l.getD 12 false=false
 |_=>True
def moF (w:Wu) (n z:Int) (lj lq:Wv) (js:List (Int×Int)) (fs:List Rat) (x:Int×Int) (q:Rat) (As:List Rat) (Ss:List Int) (j:Nat):SF:=match j with
 |0=>(uI n).tS
 |1=>wU w 47
 |2=>(UF.eq lj).tS
 |3=>wE w 47 2 (jns js)
 |4=>(fJn x).tS
 |5=>wE w 47 2 (jns [x])
 |6=>wE w 47 2 (jns (js++ [x]))
 |7=>wU w 32
 |8=>(UF.eq lq).tS
 |9=>wE w 32 3 (rvs 1 fs)
 |10=>(fRV 1 q).tS
 |11=>wE w 32 3 (rvs 1 [q])
 |12=>wE w 32 3 (rvs 1 (fs++ [q]))
 |13=>(uI z).tS
 |14=>wI (wE w 32 3 (qns As)) (wE w 3 1 (ins Ss))
 |15=>wI (wE w 32 3 (qns As)) (wE w 3 1 (ins Ss))
 |16=>wE w 32 3 (qns As)
 |17=>wE w 3 1 (ins Ss)
 |18=>wE w 32 3 (qns As)
 |_=>SF.any
def moT (w:Wu) (e:TypeId) (U:Wu) (q:Nat):Prop:=w.heap.size<=q/\ ∃c:Array Wv,U.heap[q]?=some (.cells c e (0,0))
def moR (w:Wu) (i:Nat) (U V:Wu):Prop:=if i=6 then BlS (moT w 47 U) U V/\yL U V else if i=12 then BlS (moT w 32 U) U V/\yL U V else Below U.heap.size U V
theorem zRg {w:Wu} {i:Nat} {U V:Wu} (h6:i≠6) (h12:i≠12) (h:Below U.heap.size U V):moR w i U V:=by unfold moR;rw [if_neg h6,if_neg h12];exact h
theorem zLa {w:Wu} {i:Nat} {U V:Wu} (hU:Below w.heap.size w U) (h:moR w i U V):Below w.heap.size w V:=by
 unfold moR at h
 split at h
 ·exact yN hU h.1 fun q hq=>hq.1
 ·split at h
  ·exact yN hU h.1 fun q hq=>hq.1
  ·exact hU.trans (h.mono hU.size)
theorem zOD {w:Wu} {e e':TypeId} {z:Nat} {Cs:List CU} (hne:e≠e') {v:Wv} {U V:Wu} (h:(wE w e z Cs).p v U) (hb:BlS (moT w e' U) U V) (hk:yL U V):(wE w e z Cs).p v V:=
 y9.keep h (fun k hq=>hb.block k (y9.lt h k hq).2 fun ⟨_,c,hc⟩=>by
  obtain ⟨_,c',hc',_⟩:=qO h hq
  rw [hc'] at hc
  injection hc with hc
  injection hc with _ hc
  exact hne hc) hk
theorem zRf {w:Wu} {e e':TypeId} (hne:e≠e') {v:Wv} {U V:Wu} (h:(wU w e).p v U) (hb:BlS (moT w e' U) U V):(wU w e).p v V:=by
 obtain ⟨g,h1,h2,h3⟩:=h
 refine ⟨g,h1,h2,(hb.block g (Array.getElem?_eq_some_iff.1 h3).1 fun ⟨_,c,hc⟩=> ?_).trans h3⟩
 rw [h3] at hc
 injection hc with hc
 injection hc with _ hc
 exact hne hc
section
variable {ops:Array Oper} {w:Wu} {n z:Int} {lj lq:Wv} {js:List (Int×Int)} {fs:List Rat} {x:Int×Int} {q:Rat} {As:List Rat} {Ss:List Int}
theorem zDt {l:Array Bool} {i j:Nat} (h:moC (l.setIfInBounds i true) j):moC l j:=by
 have key: ∀k,(l.setIfInBounds i true).getD k false=false->l.getD k false=false:=fun k hk=>by
  cases e:l.getD k false with
  |false=>rfl
  | true=>
   by_cases hi:i=k
   ·subst hi
    have hlt:i<l.size:=by
     rcases Nat.lt_or_ge i l.size with h|h
     ·exact h
     ·rw [Array.getD_eq_getD_getElem?,Array.getElem?_eq_none h] at e;cases e
    rw [zDV hlt] at hk
    cases hk
   ·rw [getD_set_ne false hi] at hk
    rw [hk] at e
    cases e
 unfold moC at h ⊢
 split at h<;>first|exact key _ h|exact h
theorem zSv (hd:moD ops=true) (i j:Nat) (l:Array Bool) (v:Wv) (U V:Wu) (hi:i<19) (hj:j<19) (hij:i≠j) (hs:l.size=ops.size) (hi0:l.getD i false=false) (hj1:l.getD j false=true) (hc:zCG ops l) (hr: ∀o,ops[i]?=some o-> ∀e∈o.after,Region.binds .any e=true->l.getD e.on false=true)
  (hz:19<=ops.size) (h:moC l j->(moF w n z lj lq js fs x q As Ss j).p v U) (hR:moR w i U V):moC (l.setIfInBounds i true) j->(moF w n z lj lq js fs x q As Ss j).p v V:=fun hC=>by
 have h:=h (zDt hC)
 unfold moD at hd
 simp only [Bool.and_eq_true] at hd
 obtain ⟨⟨⟨⟨⟨⟨⟨d63,d96⟩,d129⟩,d1412⟩,d1514⟩,d1615⟩,d1715⟩,d1814⟩:=hd
 unfold moR at hR
 have no: ∀{k:Nat},l.getD k false=true->l.getD k false=false->False:=fun h1 h2=>by rw [h1] at h2;cases h2
 have st: ∀(k:Nat),k<19->(l.setIfInBounds k true).getD k false=false->False:=fun k hk h1=>by rw [zDV oQ] at h1;cases h1
 split at hR
 ·rename_i e6
  subst e6
  have l3:l.getD 3 false=true:=zOn hr d63
  have c9:l.getD 9 false=true->False:=fun h9=>no (zBA hc h9 d96) hi0
  have c12:l.getD 12 false=true->False:=fun h9=>c9 (zBA hc h9 d129)
  have c14:l.getD 14 false=true->False:=fun h9=>c12 (zBA hc h9 d1412)
  have c15:l.getD 15 false=true->False:=fun h9=>c14 (zBA hc h9 d1514)
  have hu: ∀(f:UF),f.tS.p v U->f.tS.p v V:=fun f hf=>f.us _ _ _ hf hR.2
  have hj':j=0∨j=1∨j=2∨j=3∨j=4∨j=5∨j=6∨j=7∨j=8∨j=9∨j=10∨j=11∨j=12∨j=13∨j=14∨j=15∨j=16∨j=17∨j=18:=by omega
  rcases hj' with rfl|rfl|rfl|rfl|rfl|rfl|rfl|rfl|rfl|rfl|rfl|rfl|rfl|rfl|rfl|rfl|rfl|rfl|rfl
  ·exact hu _ h
  ·exact (no l3 (zDt hC)).elim
  ·exact hu _ h
  ·exact (st 6 dC hC).elim
  ·exact hu _ h
  ·exact (st 6 dC hC).elim
  ·exact absurd rfl hij
  ·exact zRf dC h hR.1
  ·exact hu _ h
  ·exact (c9 hj1).elim
  ·exact hu _ h
  ·exact zOD dC h hR.1 hR.2
  ·exact (c12 hj1).elim
  ·exact hu _ h
  ·exact (c14 hj1).elim
  ·exact (c15 hj1).elim
  ·exact (c15 (zBA hc hj1 d1615)).elim
  ·exact (c15 (zBA hc hj1 d1715)).elim
  ·exact (c14 (zBA hc hj1 d1814)).elim
 ·split at hR
  ·rename_i e12
   subst e12
   have l9:l.getD 9 false=true:=zOn hr d129
   have l6:l.getD 6 false=true:=zBA hc l9 d96
   have l3:l.getD 3 false=true:=zBA hc l6 d63
   have c14:l.getD 14 false=true->False:=fun h9=>no (zBA hc h9 d1412) hi0
   have c15:l.getD 15 false=true->False:=fun h9=>c14 (zBA hc h9 d1514)
   have hu: ∀(f:UF),f.tS.p v U->f.tS.p v V:=fun f hf=>f.us _ _ _ hf hR.2
   have hj':j=0∨j=1∨j=2∨j=3∨j=4∨j=5∨j=6∨j=7∨j=8∨j=9∨j=10∨j=11∨j=12∨j=13∨j=14∨j=15∨j=16∨j=17∨j=18:=by omega
   rcases hj' with rfl|rfl|rfl|rfl|rfl|rfl|rfl|rfl|rfl|rfl|rfl|rfl|rfl|rfl|rfl|rfl|rfl|rfl|rfl
   ·exact hu _ h
   ·exact (no l3 (zDt hC)).elim
   ·exact hu _ h
   ·exact (no l6 (zDt hC)).elim
   ·exact hu _ h
   ·exact (no l6 (zDt hC)).elim
   ·exact zOD dC h hR.1 hR.2
   ·exact (no l9 (zDt hC)).elim
   ·exact hu _ h
   ·exact (st 12 dC hC).elim
   ·exact hu _ h
   ·exact (st 12 dC hC).elim
   ·exact absurd rfl hij
   ·exact hu _ h
   ·exact (c14 hj1).elim
   ·exact (c15 hj1).elim
   ·exact (c15 (zBA hc hj1 d1615)).elim
   ·exact (c15 (zBA hc hj1 d1715)).elim
   ·exact (c14 (zBA hc hj1 d1814)).elim
  ·exact (moF w n z lj lq js fs x q As Ss j).st _ _ _ h hR
end
end Go.Proofs.Wd

namespace Go.Proofs.Wd
open Tryz
set_option maxRecDepth 100000
set_option maxHeartbeats 1000000
open Go.RowKit Lb
theorem zSk (a b:Int):zS prog 22 1 [(0, .agg #[.int .i64 a, .int .i64 b])]=some (47,#[.int .i64 a, .int .i64 b]):=by kernel_rfl
theorem zOg {j:Int×Int} {u:Wv} {W:Wu} (hu:(fJn j).p u W): ∃cs,zS prog 22 1 [(0,u)]=some (47,cs)/\jG (W.alloc (.cells cs 47)) W.heap.size 47 2 1 [CU.agg (fJn j)]:=by
 have e:u= .agg #[.int .i64 j.1, .int .i64 j.2]:=hu
 subst e
 refine ⟨_,zSk _ _,_,zVx W _,zVp _,by decide,rfl,rfl,fun i C hi=> ?_⟩
 cases i with
 |zero=>
  obtain rfl:CU.agg (fJn j)=C:=by simpa using hi
  rfl
 |succ i=>simp at hi
theorem zMI {m:Nat} {q:Rat} {u:Wv} {W:Wu} (h:RVp m q u W): ∃s A n c A' n' c',u= .agg #[.bool s, .slice A n c, .slice A' n' c']:=by
 obtain ⟨k,d,⟨b,s,t,rfl,⟨sg,A,n,c,l,e1,_⟩,A',n',c',l',rfl,_⟩,_⟩:=h
 have:=congrArg Array.toList (zAk e1)
 simp at this
 rw [this.1,this.2]
 exact ⟨_,_,_,_,_,_,_,rfl⟩
theorem zJ9 {m:Nat} {q:Rat} {u:Wv} {W:Wu} (hu:RVp m q u W): ∃cs,zS prog 23 1 [(0,u)]=some (32,cs)/\jG (W.alloc (.cells cs 32)) W.heap.size 32 3 1 [CU.agg (fRV m q)]:=by
 obtain ⟨s,A,n,c,A',n',c',rfl⟩:=zMI hu
 refine ⟨_,zSg _ _ _ _ _ _ _,_,zVx W _,zVp _,by decide,rfl,rfl,fun i C hi=> ?_⟩
 cases i with
 |zero=>
  obtain rfl:CU.agg (fRV m q)=C:=by simpa using hi
  exact (fRV m q).us _ _ _ hu (zK (jQ W _))
 |succ i=>simp at hi
theorem zQO {x:QX} {u:Wv} {W:Wu} (hu:QXp x.n x.n' x.k x.d u W): ∃e cs,zS prog 23 1 [(0,u)]=some (e,cs)/\(SF.row 3 (qxs [x])).p (.slice (some ⟨W.heap.size,0,none⟩) 1 1) (W.alloc (.cells cs e)):=by
 have h0:=hu
 obtain ⟨b,s,t,rfl,⟨sg,A,c,l,e1,_⟩,A',c',l',rfl,_⟩:=hu
 have:=congrArg Array.toList (zAk e1)
 simp at this
 rw [this.1,this.2] at h0 ⊢
 refine ⟨_,_,zSg _ _ _ _ _ _ _,jG.row (g:=W.heap.size) (cap:=1) ⟨_,zVx W _,zVp _,by decide,rfl,rfl,fun i C hi=> ?_⟩ rfl⟩
 cases i with
 |zero=>
  obtain rfl:wD x=C:=by simpa using hi
  exact (fQX x.n x.n' x.k x.d).us _ _ _ h0 (zK (jQ W _))
 |succ i=>simp at hi
structure TnL (fs:List Rat):Prop where
 tn:TnQ 27692280 fs
 qb: ∀q,q∈fs->QB q 1/\QB (q+q) 1
theorem zJ2 {x:QX} {v:Wv} {W:Wu} (hx:QXp x.n x.n' x.k x.d v W) (h:tnB x=true):(0<=mkRat x.k x.d-> ∃j:Nat,mkRat x.k x.d*27720=(j:Rat)/\j<=27692280)/\QB (mkRat x.k x.d) 1/\QB (mkRat x.k x.d+mkRat x.k x.d) 1:=by
 obtain ⟨h1,h2,h3,h4⟩:=zDU hx h
 refine ⟨zTw h3 h4,(zSl hx h1 h2).qb oQ, ?_⟩
 by_cases h0:x.d=0
 ·rw [h0,Rat.mkRat_zero,Rat.add_zero]
  exact QB.zero dC
 ·have hdr:(x.d:Rat)≠0:=fun h=>h0 (by exact_mod_cast h)
  refine vH (X:=x.k+x.k) (D:=(x.d:Int)) dC ?_ oQ ?_ ?_
  ·rw [Rat.mkRat_eq_div,Rat.intCast_natCast,Rat.intCast_add]
   grind
  ·unfold Bd BB;rw [Nat.pow_one];omega
  ·unfold Bd BB;rw [Nat.pow_one];omega
theorem zO5 {L:List QX} (h: ∀x,x∈L->tnB x=true) {v:Wv} {W:Wu} (hv:(SF.row 3 (qxs L)).p v W): ∃fs:List Rat,(SF.row 3 (rvs 1 fs)).p v W/\TnL fs/\fs.length=L.length:=by
 refine ⟨qvs L,(zOa h hv).1,⟨(zOa h hv).2,fun q hq=> ?_⟩,by simp⟩
 obtain ⟨x,hx,rfl⟩:=zVs.1 hq
 obtain ⟨u,hu⟩:=zOk hv hx
 exact (zJ2 hu (h x hx)).2
theorem zO6 {x:QX} (h:tnB x=true) {v:Wv} {W:Wu} (hx:QXp x.n x.n' x.k x.d v W): ∃q:Rat,(∀(cs:List Wv) (W:Wu),(wD x).p cs W->0+3<=cs.length/\(fRV 1 q).p (.agg ((cs.drop 0).take 3).toArray) W)/\TnL [q]:=by
 obtain ⟨h1,h2,_⟩:=zDU hx h
 refine ⟨mkRat x.k x.d,fun cs W hc=> ?_,fun q hq=> ?_,fun q hq=> ?_⟩
 ·have hl:=zKK _ _ _ _ cs W hc
  refine ⟨by omega, ?_⟩
  rw [List.drop_zero,zVy oQ]
  exact zSl hc h1 h2
 ·obtain rfl:=zVm.1 hq
  exact (zJ2 hx h).1
 ·obtain rfl:=zVm.1 hq
  exact (zJ2 hx h).2
theorem zNv {l:List (Int×Int)} {k:Nat} (hk:k<l.length):jns ((l.map swJ).reverse.take k)++ [CU.agg (fJn (swJ (l.getD (l.length - 1 - k) (0,0))))]=jns ((l.map swJ).reverse.take (k+1)):=by
 have hk':k<(l.map swJ).reverse.length:=by simpa using hk
 rw [zVz hk']
 unfold jns
 rw [zVA]
 congr 1
 have h2:l.length - 1 - k<l.length:=by omega
 simp [h2]
theorem zKh {l:List Rat} {k:Nat} (hk:k<l.length):rvs 1 (l.reverse.take k)++ [CU.agg (fRV 1 (l.getD (l.length - 1 - k) 0))]=rvs 1 (l.reverse.take (k+1)):=by
 have hk':k<l.reverse.length:=by simpa using hk
 rw [zVz hk']
 unfold rvs
 rw [zVA]
 congr 1
 have h2:l.length - 1 - k<l.length:=by omega
 simp [h2]
theorem zKi {l:List Rat} {k:Nat} (hk:k<l.length):rvs 1 ((l.map twR).take k)++ [CU.agg (fRV 1 (l.getD k 0+l.getD k 0))]=rvs 1 ((l.map twR).take (k+1)):=by
 have hk':k<(l.map twR).length:=by simpa using hk
 rw [zVz hk']
 unfold rvs
 rw [zVA]
 congr 1
 simp [hk]
theorem zLz {l:List Rat} {k:Nat} (h:k<l.length):l.getD k 0∈l:=by rw [zVi,zVq h];exact zVr h
def moG (w:Wu) (n z:Int) (lj lq:Wv) (js:List (Int×Int)) (fs:List Rat) (x:Int×Int) (q:Rat) (As:List Rat) (Ss:List Int) (b9 b10:Nat) (C:CU):Nat->SF:=upd (fun _=>SF.any) ([(0,(uI n).tS),(1,(UF.eq lj).tS),(2,(UF.eq lq).tS),(5,(uI z).tS),(9,wH b9 (cg (fJn x))),(10,wH b10 C.cf)]++ [(54,moF w n z lj lq js fs x q As Ss 0),(55,moF w n z lj lq js fs x q As Ss 1),(56,moF w n z lj lq js fs x q As Ss 2),(57,moF w n z lj lq js fs x q As Ss 3),(58,moF w n z lj lq js fs x q As Ss 4),(59,moF w n z lj lq js fs x q As Ss 5),(60,moF w n z lj lq js fs x q As Ss 6),(61,moF w n z lj lq js fs x q As Ss 7),(62,moF w n z lj lq js fs x q As Ss 8),(63,moF w n z lj lq js fs x q As Ss 9),(64,moF w n z lj lq js fs x q As Ss 10),(65,moF w n z lj lq js fs x q As Ss 11),(66,moF w n z lj lq js fs x q As Ss 12),(67,moF w n z lj lq js fs x q As Ss 13),(68,moF w n z lj lq js fs x q As Ss 14),(53,moF w n z lj lq js fs x q As Ss 15),(69,moF w n z lj lq js fs x q As Ss 16),(70,moF w n z lj lq js fs x q As Ss 17),(15,moF w n z lj lq js fs x q As Ss 18)])
theorem zCc {F:Fence} {m:Nat} {P:Program} {ops:Array Oper} {Q:Exit->Act->Wu->Prop} {w U:Wu} {a:Act} {l:Array Bool} {i d:Nat} {o:Oper} {Kk:Act->Wu->Prop} {n z:Int} {lj lq:Wv} {js:List (Int×Int)} {fs:List Rat} {x:Int×Int} {q:Rat} {As:List Rat} {Ss:List Int} (G:Nat->SF) (ho:ops[i]?=some o) (hg:o.guard=none) (hd:o.dst=some d) (hok:qB F m P w ops G o) (hU:Below w.heap.size w U) (hrd: ∀t,t∈zCL o->(G t).p (a.tmps.getD t undef) U)
  (hG: ∀v V,(G d).p v V->(moF w n z lj lq js fs x q As Ss i).p v V) (h6:i≠6) (h12:i≠12) (hK: ∀v w',(moC (l.setIfInBounds i true) i->(moF w n z lj lq js fs x q As Ss i).p v w')->moR w i U w'->Kk (a.put o.dst v) w'):wpOpIn F m P ops Q i Kk a U:=by
 refine opn ho hg ?_
 have hok':zMe F m P w G o:=by
  unfold qB at hok
  rw [hg] at hok
  exact hok
 exact hok' a U Kk Q hU hrd fun v W' hv hb=>hK v W' (fun _=>hG _ _ (hv d hd)) (zRg h6 h12 hb)
theorem zOE {F:Fence} {m:Nat} {P:Program} {ops:Array Oper} {Q:Exit->Act->Wu->Prop} {w U:Wu} {a:Act} {i d z:Nat} {x y:Operand} {t ty e:TypeId} {pos:String} {aft:Array Edge} {Kk:Act->Wu->Prop} {Cs Ds:List CU} (ho:ops[i]?=some ⟨some d, .call ⟨.builtin .append,#[x,y],#[t,t]⟩,ty,pos,aft,none⟩) (happ:zE7 P t=some (e,z,true)) (hr:(wE w e z Cs).p (a.eval x) U) (hy:(wE w e z Ds).p (a.eval y) U) (hD: ∀C,C∈Ds->CU.ok z C) (hsz:Cs.length+Ds.length<=140000000000) (hU:Below w.heap.size w U)
  (hK: ∀v V,(wE w e z (Cs++Ds)).p v V->BlS (moT w e U) U V->yL U V->Kk (a.put (some d) v) V):wpOpIn F m P ops Q i Kk a U:=
 opn ho rfl (zCZ happ hr rfl (y9.row hy) hD hsz hU.size fun v V h1 h2 h3 _=>hK v V h1 (h2.sub fun q hq=>by
  obtain ⟨g1,c,g2,_⟩:=qO hr hq
  exact ⟨g1,c,g2⟩) h3)
theorem zHH {W:Wu} {n z:Int} {js:List (Int×Int)} {L:List QX} {xj:Int×Int} {xf:QX} {u lj lq v t r:Wv} (hu:u= .int .i64 n) (hlj:(SF.row 2 (jns js)).p lj W) (hlq:(SF.row 3 (qxs L)).p lq W) (hxj:(fJn xj).p v W) (hxf:QXp xf.n xf.n' xf.k xf.d t W) (hr:r= .int .i64 z) (hT:Tab W):Calls prog 5 #[u,lj,lq,v,t,r] W (Ret W (fB true).tS):=by
 have hFr:Below W.heap.size W W:=zVe _ _
 obtain ⟨N,hNz⟩: ∃N:Nat,min (max n 0) 131072=(N:Int):=⟨(min (max n 0) 131072).toNat,by omega⟩
 refine qH [(uI n).tS,(UF.eq lj).tS,(UF.eq lq).tS,(fJn xj).tS,(fQX xf.n xf.n' xf.k xf.d).tS,(uI z).tS] func5 rfl kJ ⟨hu,rfl,rfl,hxj,hxf,hr,trivial⟩ fun a s=> ?_
 replace s:=s.renew [(0, .u (uI n)),(1, .u (UF.eq lj)),(2, .u (UF.eq lq)),(3, .u (fJn xj)),(4, .u (fQX xf.n xf.n' xf.k xf.d)),(5, .u (uI z))] (fmz ⟨.inr ⟨_,rfl, .head _⟩,fmz ⟨.inr ⟨_,rfl,mz1⟩,fmz ⟨.inr ⟨_,rfl,mz2⟩,fmz ⟨.inr ⟨_,rfl,mz3⟩,fmz ⟨.inr ⟨_,rfl,mz4⟩,fmz ⟨.inr ⟨_,rfl,mz5⟩,fnz⟩⟩⟩⟩⟩⟩)
 refine zVc ?_
 refine zC 0 [] hmix s kJ
  zE fun a w1 s=> ?_
 refine zA8 (CU.agg (fJn xj)) rfl s kJ (fun v W h=>by rw [show v=_ from h];exact ⟨rfl,rfl⟩) fun b9 a w s=> ?_
 refine zA8 (wD xf) rfl s kJ (fun v W h=>zOr h) fun b10 a w s=> ?_
 refine qN (uB false) rfl s kJ iiz fun a w s=> ?_
 refine zB rfl ?_
 replace s:StS _ _ _ [⟨10,32,wD xf,b10,true⟩,⟨9,47,CU.agg (fJn xj),b9,true⟩] _ _ _ _:=s.freeze
 have hb:=s.below
 replace hFr:=hFr.trans (hb.mono hFr.size)
 replace hT:=hT.below hb
 replace hlj:=(SF.row 2 (jns js)).st _ _ _ hlj hb
 replace hlq:=(SF.row 3 (qxs L)).st _ _ _ hlq hb
 replace s:=s.anewB rfl rfl
 refine zVc ?_
 refine zVc ?_
 refine zC 17 ((27, .Z (uI n))::(28, .Z (UF.eq lj))::(29, .Z (UF.eq lq))::(30, .Z (uB (g28 n js L)))::(31, .Z (uB (g28 n js L)))::(32, .s (SF.imp ((g28 n js L)=false) ((UF.eq lq).tS)))::(33, .s (SF.imp ((g28 n js L)=false) ((uI ((qxs L).length:Int)).tS)))::(34, .s (SF.imp ((g28 n js L)=false) ((UF.eq lj).tS)))::(35, .s (SF.imp ((g28 n js L)=false) ((uI ((jns js).length:Int)).tS)))::(36, .s (SF.imp ((g28 n js L)=false) ((uB (((qxs L).length:Int) !=((jns js).length:Int))).tS)))::(37, .Z (uB ((g28 n js L)||(((qxs L).length:Int) !=((jns js).length:Int)))))::(38, .Z (uB ((g28 n js L)||(((qxs L).length:Int) !=((jns js).length:Int)))))::(39, .s (SF.imp (((g28 n js L)||(((qxs L).length:Int) !=((jns js).length:Int)))=false) ((fQX xf.n xf.n' xf.k xf.d).tS)))::(40, .s (SF.imp (((g28 n js L)||(((qxs L).length:Int) !=((jns js).length:Int)))=false) (SF.row 3 (qxs [xf]))))::(41, .s (SF.imp (((g28 n js L)||(((qxs L).length:Int) !=((jns js).length:Int)))=false) ((uB ([xf].all tnB)).tS)))::(42, .s (SF.imp (((g28 n js L)||(((qxs L).length:Int) !=((jns js).length:Int)))=false) ((uB (!([xf].all tnB))).tS)))::(43, .u (uB (((g28 n js L)||(((qxs L).length:Int) !=((jns js).length:Int)))||(!([xf].all tnB))))):: []) hmix s kJ
  (oc zA<|oc zA<|oc zA<|oc (zD7 zF zTN (fun u0 u1 u2 W hb (h0:u0= .int .i64 n) (h1:u1=lj) (h2:u2=lq)=>zJr h0 (yT hlj h1 (s.up hb)) (yT hlq h2 (s.up hb))))<|oc zA<|oc (zD 31 (g28 n js L) kJ iiz (fun e=>zL [] ((UF.eq lq).tS) fnz (fun _ _ h _=>h) kJ zA) (fun e W h=>absurd h e))<|oc (zD 31 (g28 n js L) kJ iiz (fun e=>zL [(32,(UF.eq lq).tS)] ((uI ((qxs L).length:Int)).tS) (fmz ⟨fun v W h=>zI (c:=(g28 n js L)=false) (f:=(UF.eq lq).tS) e h,fnz⟩) (fun _ _ h _=>h) kJ (qK (z:=3) (Cs:=qxs L) kJ (fun v W hb h=>(yT hlq h (s.up hb))) (fun _=>rfl))) (fun e W h=>absurd h e))<|oc (zD 31 (g28 n js L) kJ iiz (fun e=>zL [] ((UF.eq lj).tS) fnz (fun _ _ h _=>h) kJ zA) (fun e W h=>absurd h e))<|oc (zD 31 (g28 n js L) kJ iiz (fun e=>zL [(34,(UF.eq lj).tS)] ((uI ((jns js).length:Int)).tS) (fmz ⟨fun v W h=>zI (c:=(g28 n js L)=false) (f:=(UF.eq lj).tS) e h,fnz⟩) (fun _ _ h _=>h) kJ (qK (z:=2) (Cs:=jns js) kJ (fun v W hb h=>(yT hlj h (s.up hb))) (fun _=>rfl))) (fun e W h=>absurd h e))<|oc (zD 31 (g28 n js L) kJ iiz (fun e=>zL [(33,(uI ((qxs L).length:Int)).tS),(35,(uI ((jns js).length:Int)).tS)] ((uB (((qxs L).length:Int) !=((jns js).length:Int))).tS) (fmz ⟨fun v W h=>zI (c:=(g28 n js L)=false) (f:=(uI ((qxs L).length:Int)).tS) e h,fmz ⟨fun v W h=>zI (c:=(g28 n js L)=false) (f:=(uI ((jns js).length:Int)).tS) e h,fnz⟩⟩) (fun _ _ h _=>h) kJ (zP .i64 ((qxs L).length:Int) ((jns js).length:Int) (((qxs L).length:Int) !=((jns js).length:Int)) iiz iiz rfl rfl)) (fun e W h=>absurd h e))<|oc (yE (g28 n js L) iiz (fun e v W h=>zAV h e) (fun e v W h=>zAe (zI e h) e))<|oc zA<|oc (zD 38 ((g28 n js L)||(((qxs L).length:Int) !=((jns js).length:Int))) kJ iiz (fun e=>zL [] ((fQX xf.n xf.n' xf.k xf.d).tS) fnz (fun _ _ h _=>h) kJ (yP (f:=fQX xf.n xf.n' xf.k xf.d) 3 kJ (hz:=zKK _ _ _ _))) (fun e W h=>absurd h e))<|oc (zD 38 ((g28 n js L)||(((qxs L).length:Int) !=((jns js).length:Int))) kJ iiz (fun e=>zL [(39,(fQX xf.n xf.n' xf.k xf.d).tS)] (SF.row 3 (qxs [xf])) (fmz ⟨fun v W h=>zI (c:=((g28 n js L)||(((qxs L).length:Int) !=((jns js).length:Int)))=false) (f:=(fQX xf.n xf.n' xf.k xf.d).tS) e h,fnz⟩) (fun _ _ h _=>h) kJ (zC3 (fun u W (hu:QXp xf.n xf.n' xf.k xf.d u W)=>zQO hu))) (fun e W h=>absurd h e))<|oc (zD 38 ((g28 n js L)||(((qxs L).length:Int) !=((jns js).length:Int))) kJ iiz (fun e=>zL [(40,SF.row 3 (qxs [xf]))] ((uB ([xf].all tnB)).tS) (fmz ⟨fun v W h=>zI (c:=((g28 n js L)||(((qxs L).length:Int) !=((jns js).length:Int)))=false) (f:=SF.row 3 (qxs [xf])) e h,fnz⟩) (fun _ _ h _=>h) kJ (zM zF zRD (fun u0 W hb (h0:(SF.row 3 (qxs [xf])).p u0 W)=>zGN (L:= [xf]) h0 (by simp)))) (fun e W h=>absurd h e))<|oc (zD 38 ((g28 n js L)||(((qxs L).length:Int) !=((jns js).length:Int))) kJ iiz (fun e=>zL [(41,(uB ([xf].all tnB)).tS)] ((uB (!([xf].all tnB))).tS) (fmz ⟨fun v W h=>zI (c:=((g28 n js L)||(((qxs L).length:Int) !=((jns js).length:Int)))=false) (f:=(uB ([xf].all tnB)).tS) e h,fnz⟩) (fun _ _ h _=>h) kJ (zAT ([xf].all tnB) iiz (fun _=>rfl))) (fun e W h=>absurd h e))<|oc (yE ((g28 n js L)||(((qxs L).length:Int) !=((jns js).length:Int))) iiz (fun e v W h=>zAV h e) (fun e v W h=>zAe (zI e h) e))<|zE) fun a w2 s=> ?_
 refine zB rfl ?_
 replace s:StS _ _ _ [⟨10,32,wD xf,b10,true⟩,⟨9,47,CU.agg (fJn xj),b9,true⟩] _ _ _ _:=s.freeze
 have hb:=s.below
 replace hFr:=hFr.trans (hb.mono hFr.size)
 replace hT:=hT.below hb
 replace hlj:=(SF.row 2 (jns js)).st _ _ _ hlj hb
 replace hlq:=(SF.row 3 (qxs L)).st _ _ _ hlq hb
 replace s:=s.anewB rfl rfl
 refine StS.cond s (((g28 n js L)||(((qxs L).length:Int) !=((jns js).length:Int)))||(!([xf].all tnB))) iiz (fun e=> ?_) (fun e=> ?_)
 ·refine zVc ?_
  replace s:=s.drop [12]
  refine zC 2 ((44, .Z (uB true))::(12, .u (uB true)):: []) hmix s kJ
   (oc (zIN zF zTA (fun W hb=>zJV (hT.below (s.up hb))))<|oc zG<|zE) fun a w3 s=> ?_
  refine zB rfl ?_
  replace s:StS _ _ _ [⟨10,32,wD xf,b10,true⟩,⟨9,47,CU.agg (fJn xj),b9,true⟩] _ _ _ _:=s.freeze
  have hb:=s.below
  replace hFr:=hFr.trans (hb.mono hFr.size)
  replace hT:=hT.below hb
  replace hlj:=(SF.row 2 (jns js)).st _ _ _ hlj hb
  replace hlq:=(SF.row 3 (qxs L)).st _ _ _ hlq hb
  replace s:=s.anewB rfl rfl
  refine zVk ?_
  exact wZ s hFr rfl iiz
 ·rw [zVt,zVt] at e
  obtain ⟨⟨hg,e1⟩,e2⟩:=e
  have hll:L.length=js.length:=by rw [zVd,zVd] at e1;have h7:=bne_eq_false_iff_eq.1 e1;omega
  have hxt:tnB xf=true:=by simpa using e2
  obtain ⟨hn20,hj60,hl60,hall⟩:=zSG hg
  have hN20:N<=20:=by omega
  obtain ⟨fs,hlf,hTf,hfl⟩:=zO5 hall hlq
  rw [hll] at hfl
  obtain ⟨qf,hwx,hTx⟩:=zO6 hxt hxf
  have hB:GrB N js fs:=hTf.tn.gr hN20 oQ dC
  have hB2:GrB N (js++ [xj]) (fs++ [qf]):=(hTf.tn.app hTx.tn).gr hN20 (by simp;omega) dC
  have hB3:GrB N (js.map swJ).reverse fs.reverse:=hTf.tn.rev.gr hN20 (by simp;omega) dC
  have hB4:GrB N js (fs.map twR):=hTf.tn.dbl.gr hN20 oQ dC
  have hlaw:=zNk (N:=N) (js:=js) (fs:=fs) (x:=xj) (far:=qf) hfl z
  obtain ⟨ca,h_ca⟩: ∃c,csR (grE N js fs) N z=c:=⟨_,rfl⟩
  obtain ⟨sa,h_sa⟩: ∃c,ssR (grE N js fs) N z=c:=⟨_,rfl⟩
  obtain ⟨cb,h_cb⟩: ∃c,csR (grE N (js++ [xj]) (fs++ [qf])) N z=c:=⟨_,rfl⟩
  obtain ⟨sb,h_sb⟩: ∃c,ssR (grE N (js++ [xj]) (fs++ [qf])) N z=c:=⟨_,rfl⟩
  obtain ⟨cd,h_cd⟩: ∃c,csR (grE N js (fs.map twR)) N z=c:=⟨_,rfl⟩
  rw [h_ca,h_sa,h_cb,h_sb,h_cd] at hlaw
  obtain ⟨l1,l2,l3,l4,l5,l6,l7,l8,hlw⟩:=hlaw
  have hqa: ∀i,i<N->QB (ca.getD i 0) 1:=fun i hi=>h_ca▸zLU hB z hi
  have hqb: ∀i,i<N->QB (cb.getD i 0) 1:=fun i hi=>h_cb▸zLU hB2 z hi
  have hqd: ∀i,i<N->QB (cd.getD i 0) 1:=fun i hi=>h_cd▸zLU hB4 z hi
  refine zVf ?_
  refine zVc ?_
  refine qU 10 ((46, .Z (uI n))::(47, .Z (UF.eq lj))::(48, .Z (UF.eq lq))::(49, .Z (uI z))::(50, .s (wI (wE w2 32 3 (qns ca)) (wE w2 3 1 (ins sa))))::(45, .s (wI (wE w2 32 3 (qns ca)) (wE w2 3 1 (ins sa))))::(51, .s (wE w2 32 3 (qns ca)))::(52, .s (wE w2 3 1 (ins sa)))::(13, .s (wE w2 32 3 (qns ca)))::(14, .s (wE w2 3 1 (ins sa))):: []) hmix s kJ
   (oc zA<|oc zA<|oc zA<|oc zA<|oc (zD6 zF zNK (fun u0 u1 u2 u3 W hb (h0:u0= .int .i64 n) (h1:u1=lj) (h2:u2=lq) (h3:u3= .int .i64 z)=>(zDZ (n:=n) (N:=N) (x:=z) (js:=js) (fs:=fs) h0 (yT hlj h1 (s.up hb)) (yT hlf h2 (s.up hb)) h3 hNz hB (hT.below (s.up hb))).mono (wG (fun v W h=>by have h7:=zDl (s.up hb).size h;rw [h_ca,h_sa] at h7;exact h7))))<|oc zA<|oc (zAK (A:=wE w2 32 3 (qns ca)) (B:=wE w2 3 1 (ins sa)) iiz)<|oc (zAJ (A:=wE w2 32 3 (qns ca)) (B:=wE w2 3 1 (ins sa)) iiz)<|oc zG<|oc zG<|zE) fun a w4 s hr=> ?_
  refine zB rfl ?_
  obtain ⟨lc,e13⟩: ∃v,a.tmps.getD 13 undef=v:=⟨_,rfl⟩
  have hlc:=(hr (_,_) mz8)
  rw [show a.tmps.getD _ undef=lc from e13] at hlc
  replace hlc:=y9.row hlc
  replace s:=s.learn 13 _ e13
  obtain ⟨ls,e14⟩: ∃v,a.tmps.getD 14 undef=v:=⟨_,rfl⟩
  have hls:=(hr (_,_) mz9)
  rw [show a.tmps.getD _ undef=ls from e14] at hls
  replace hls:=y9.row hls
  replace s:=s.learn 14 _ e14
  have hb:=s.below
  replace hFr:=hFr.trans (hb.mono hFr.size)
  replace hT:=hT.below hb
  replace hlj:=(SF.row 2 (jns js)).st _ _ _ hlj hb
  replace hlf:=(SF.row 3 (rvs 1 fs)).st _ _ _ hlf hb
  replace s:=s.anewB rfl rfl
  refine zVc ?_
  refine zFf (w:=w4) (n:=f5.ntmps) (fun l j v U=>moC l j->(moF w4 n z lj lq js fs xj qf cb sb j).p v U) (fun _ U=>Below w4.heap.size w4 U) (moR w4) 19 hmix s.size kJ (fun i l U V _ _ _ hC hR=>zLa hC hR) (fun i j l v U V hi hj hij hs_ hi0 hj1 hcl hrr hE hR=>zSv kJ i j l v U V hi hj hij hs_ hi0 hj1 hcl hrr (by show 19<=20;decide) hE hR) (fun l U _ hb=>hb) (fun i o hi ho l a' U hf hnl hall_ Kk hK=> ?_) (fun Q' hQ a' w' hb hsz hnd hkp hv=> ?_)
  ·have hU:=hf.cls
   have r0:((moG w4 n z lj lq js fs xj qf cb sb b9 b10 (wD xf)) 0).p (a'.tmps.getD 0 undef) U:=by rw [hf.keep 0 (fun j hj=>yH (k:=19) kJ j hj)];exact ((moG w4 n z lj lq js fs xj qf cb sb b9 b10 (wD xf)) 0).st _ _ _ (s.at.sl 0) hU
   have r1:((moG w4 n z lj lq js fs xj qf cb sb b9 b10 (wD xf)) 1).p (a'.tmps.getD 1 undef) U:=by rw [hf.keep 1 (fun j hj=>yH (k:=19) kJ j hj)];exact ((moG w4 n z lj lq js fs xj qf cb sb b9 b10 (wD xf)) 1).st _ _ _ (s.at.sl 1) hU
   have r2:((moG w4 n z lj lq js fs xj qf cb sb b9 b10 (wD xf)) 2).p (a'.tmps.getD 2 undef) U:=by rw [hf.keep 2 (fun j hj=>yH (k:=19) kJ j hj)];exact ((moG w4 n z lj lq js fs xj qf cb sb b9 b10 (wD xf)) 2).st _ _ _ (s.at.sl 2) hU
   have r5:((moG w4 n z lj lq js fs xj qf cb sb b9 b10 (wD xf)) 5).p (a'.tmps.getD 5 undef) U:=by rw [hf.keep 5 (fun j hj=>yH (k:=19) kJ j hj)];exact ((moG w4 n z lj lq js fs xj qf cb sb b9 b10 (wD xf)) 5).st _ _ _ (s.at.sl 5) hU
   have r9:((moG w4 n z lj lq js fs xj qf cb sb b9 b10 (wD xf)) 9).p (a'.tmps.getD 9 undef) U:=by rw [hf.keep 9 (fun j hj=>yH (k:=19) kJ j hj)];exact ((moG w4 n z lj lq js fs xj qf cb sb b9 b10 (wD xf)) 9).st _ _ _ (s.at.sl 9) hU
   have r10:((moG w4 n z lj lq js fs xj qf cb sb b9 b10 (wD xf)) 10).p (a'.tmps.getD 10 undef) U:=by rw [hf.keep 10 (fun j hj=>yH (k:=19) kJ j hj)];exact ((moG w4 n z lj lq js fs xj qf cb sb b9 b10 (wD xf)) 10).st _ _ _ (s.at.sl 10) hU
   have hi':i=0∨i=1∨i=2∨i=3∨i=4∨i=5∨i=6∨i=7∨i=8∨i=9∨i=10∨i=11∨i=12∨i=13∨i=14∨i=15∨i=16∨i=17∨i=18:=by omega
   rcases hi' with rfl|rfl|rfl|rfl|rfl|rfl|rfl|rfl|rfl|rfl|rfl|rfl|rfl|rfl|rfl|rfl|rfl|rfl|rfl<;>obtain rfl:=Option.some.inj ho
   ·exact zCc (d:=54) (moG w4 n z lj lq js fs xj qf cb sb b9 b10 (wD xf)) ho rfl rfl zA hU (fmz ⟨r0,fnz⟩) iiz dC dC hK
   ·exact zCc (d:=55) (moG w4 n z lj lq js fs xj qf cb sb b9 b10 (wD xf)) ho rfl rfl (zGY (z:=2) kJ) hU fnz iiz dC dC hK
   ·exact zCc (d:=56) (moG w4 n z lj lq js fs xj qf cb sb b9 b10 (wD xf)) ho rfl rfl zA hU (fmz ⟨r1,fnz⟩) iiz dC dC hK
   ·exact zCc (d:=57) (moG w4 n z lj lq js fs xj qf cb sb b9 b10 (wD xf)) ho rfl rfl (zK3 (jns js) kJ iiz (fun v W hb h=>(yT hlj h (s.up hb))) (zLr _) (by simp only [zVd];omega)) hU (fmz ⟨hf.vals 1 dC (zU hall_ kJ) 55 rfl hnl,fmz ⟨hf.vals 2 dC (zU hall_ kJ) 56 rfl trivial,fnz⟩⟩) iiz dC dC hK
   ·exact zCc (d:=58) (moG w4 n z lj lq js fs xj qf cb sb b9 b10 (wD xf)) ho rfl rfl (yP (f:=fJn xj) 2 kJ (hz:=zOG _)) hU (fmz ⟨r9,fnz⟩) iiz dC dC hK
   ·exact zCc (d:=59) (moG w4 n z lj lq js fs xj qf cb sb b9 b10 (wD xf)) ho rfl rfl (jU (fun u W hb (hu:(fJn xj).p u W)=>by obtain ⟨cs,g1,g2⟩:=zOg (j:=xj) hu;exact ⟨_,cs,g1,g2.toN hb.size rfl⟩)) hU (fmz ⟨hf.vals 4 dC (zU hall_ kJ) 58 rfl trivial,fnz⟩) iiz dC dC hK
   ·refine zOE (e:=47) (z:=2) (Cs:=jns js) (Ds:=jns [xj]) ho kJ (hf.vals 3 dC (zU hall_ kJ) 57 rfl hnl) (hf.vals 5 dC (zU hall_ kJ) 59 rfl hnl) (zLr _) (by simp only [zVd,zVj];omega) hU fun v V h1 h2 h3=>hK v V (fun _=> ?_) ?_
    ·rw [show jns js++jns [xj]=jns (js++ [xj]) by simp] at h1
     exact h1
    ·unfold moR
     rw [if_pos rfl]
     exact ⟨h2,h3⟩
   ·exact zCc (d:=61) (moG w4 n z lj lq js fs xj qf cb sb b9 b10 (wD xf)) ho rfl rfl (zGY (z:=3) kJ) hU fnz iiz dC dC hK
   ·exact zCc (d:=62) (moG w4 n z lj lq js fs xj qf cb sb b9 b10 (wD xf)) ho rfl rfl zA hU (fmz ⟨r2,fnz⟩) iiz dC dC hK
   ·exact zCc (d:=63) (moG w4 n z lj lq js fs xj qf cb sb b9 b10 (wD xf)) ho rfl rfl (zK3 (rvs 1 fs) kJ iiz (fun v W hb h=>(yT hlf h (s.up hb))) (zKj _ _) (by simp only [zVd];omega)) hU (fmz ⟨hf.vals 7 dC (zU hall_ kJ) 61 rfl hnl,fmz ⟨hf.vals 8 dC (zU hall_ kJ) 62 rfl trivial,fnz⟩⟩) iiz dC dC hK
   ·exact zCc (d:=64) (moG w4 n z lj lq js fs xj qf cb sb b9 b10 (wD xf)) ho rfl rfl (zFT (C:=(wD xf).cf) 3 kJ (fun _ _ h=>h.2) hwx) hU (fmz ⟨r10,fnz⟩) iiz dC dC hK
   ·exact zCc (d:=65) (moG w4 n z lj lq js fs xj qf cb sb b9 b10 (wD xf)) ho rfl rfl (jU (fun u W hb (hu:RVp 1 qf u W)=>by obtain ⟨cs,g1,g2⟩:=zJ9 hu;exact ⟨_,cs,g1,g2.toN hb.size rfl⟩)) hU (fmz ⟨hf.vals 10 dC (zU hall_ kJ) 64 rfl trivial,fnz⟩) iiz dC dC hK
   ·refine zOE (e:=32) (z:=3) (Cs:=rvs 1 fs) (Ds:=rvs 1 [qf]) ho kJ (hf.vals 9 dC (zU hall_ kJ) 63 rfl hnl) (hf.vals 11 dC (zU hall_ kJ) 65 rfl hnl) (zKj _ _) (by simp only [zVd,zVj];omega) hU fun v V h1 h2 h3=>hK v V (fun _=> ?_) ?_
    ·rw [show rvs 1 fs++rvs 1 [qf]=rvs 1 (fs++ [qf]) by simp] at h1
     exact h1
    ·unfold moR
     rw [if_neg dC,if_pos rfl]
     exact ⟨h2,h3⟩
   ·exact zCc (d:=67) (moG w4 n z lj lq js fs xj qf cb sb b9 b10 (wD xf)) ho rfl rfl zA hU (fmz ⟨r5,fnz⟩) iiz dC dC hK
   ·exact zCc (d:=68) (moG w4 n z lj lq js fs xj qf cb sb b9 b10 (wD xf)) ho rfl rfl (zD6 zF zNK (fun u0 u1 u2 u3 W hb (h0:u0= .int .i64 n) (h1:(wE w4 47 2 (jns (js++ [xj]))).p u1 W) (h2:(wE w4 32 3 (rvs 1 (fs++ [qf]))).p u2 W) (h3:u3= .int .i64 z)=>(zDZ (n:=n) (N:=N) (x:=z) (js:=(js++ [xj])) (fs:=(fs++ [qf])) h0 (y9.row h1) (y9.row h2) h3 hNz hB2 (hT.below (s.up hb))).mono (wG (fun v W h=>by have h7:=zDl (s.up hb).size h;rw [h_cb,h_sb] at h7;exact h7)))) hU (fmz ⟨hf.vals 0 dC (zU hall_ kJ) 54 rfl trivial,fmz ⟨hf.vals 6 dC (zU hall_ kJ) 60 rfl trivial,fmz ⟨hf.vals 12 dC (zU hall_ kJ) 66 rfl trivial,fmz ⟨hf.vals 13 dC (zU hall_ kJ) 67 rfl trivial,fnz⟩⟩⟩⟩) iiz dC dC hK
   ·exact zCc (d:=53) (moG w4 n z lj lq js fs xj qf cb sb b9 b10 (wD xf)) ho rfl rfl zA hU (fmz ⟨hf.vals 14 dC (zU hall_ kJ) 68 rfl trivial,fnz⟩) iiz dC dC hK
   ·exact zCc (d:=69) (moG w4 n z lj lq js fs xj qf cb sb b9 b10 (wD xf)) ho rfl rfl (zAK (A:=wE w4 32 3 (qns cb)) (B:=wE w4 3 1 (ins sb)) iiz) hU (fmz ⟨hf.vals 15 dC (zU hall_ kJ) 53 rfl trivial,fnz⟩) iiz dC dC hK
   ·exact zCc (d:=70) (moG w4 n z lj lq js fs xj qf cb sb b9 b10 (wD xf)) ho rfl rfl (zAJ (A:=wE w4 32 3 (qns cb)) (B:=wE w4 3 1 (ins sb)) iiz) hU (fmz ⟨hf.vals 15 dC (zU hall_ kJ) 53 rfl trivial,fnz⟩) iiz dC dC hK
   ·exact zCc (d:=15) (moG w4 n z lj lq js fs xj qf cb sb b9 b10 (wD xf)) ho rfl rfl zG hU (fmz ⟨hf.vals 16 dC (zU hall_ kJ) 69 rfl trivial,fnz⟩) iiz dC dC hK
  ·have hvb:=hv 18 dC 15 rfl trivial
   have hvt:=hv 17 dC 70 rfl trivial
   obtain ⟨lb,q69⟩: ∃v,a'.tmps.getD 15 undef=v:=⟨_,rfl⟩
   obtain ⟨lt,q70⟩: ∃v,a'.tmps.getD 70 undef=v:=⟨_,rfl⟩
   rw [q69] at hvb
   rw [q70] at hvt
   have hlb:=y9.row hvb
   have hlt:=y9.row hvt
   replace hFr:=hFr.trans (hb.mono hFr.size)
   replace hT:=hT.below hb
   replace hlj:=(SF.row 2 (jns js)).st _ _ _ hlj hb
   replace hlf:=(SF.row 3 (rvs 1 fs)).st _ _ _ hlf hb
   replace hlc:=(SF.row 3 (qns ca)).st _ _ _ hlc hb
   replace hls:=(SF.row 1 (ins sa)).st _ _ _ hls hb
   replace s:St w' [(15, .u (UF.eq lb)),(70, .u (UF.eq lt)),(0, .u (uI n)),(1, .u (UF.eq lj)),(2, .u (UF.eq lq)),(5, .u (uI z)),(13, .u (UF.eq lc)),(14, .u (UF.eq ls))] [] f5.ntmps [] a' w':=wV hsz (hnd.trans s.nd) (fmz ⟨⟨_,rfl,q69⟩,fmz ⟨⟨_,rfl,q70⟩,fmz ⟨⟨_,rfl,(hkp 0 (fun j hj=>yH (k:=19) kJ j hj)).trans (s.val mz4)⟩,fmz ⟨⟨_,rfl,(hkp 1 (fun j hj=>yH (k:=19) kJ j hj)).trans (s.val mz5)⟩,fmz ⟨⟨_,rfl,(hkp 2 (fun j hj=>yH (k:=19) kJ j hj)).trans (s.val mz6)⟩,fmz ⟨⟨_,rfl,(hkp 5 (fun j hj=>yH (k:=19) kJ j hj)).trans (s.val mz9)⟩,fmz ⟨⟨_,rfl,(hkp 13 (fun j hj=>yH (k:=19) kJ j hj)).trans (s.val mz1)⟩,fmz ⟨⟨_,rfl,(hkp 14 (fun j hj=>yH (k:=19) kJ j hj)).trans (s.val (.head _))⟩,fnz⟩⟩⟩⟩⟩⟩⟩⟩)
   refine qN (UF.eq lt) rfl s kJ iiz fun a w s=> ?_
   refine zB rfl (hQ _ _ ?_)
   have hb:=s.below
   replace hFr:=hFr.trans (hb.mono hFr.size)
   replace hT:=hT.below hb
   replace hlj:=(SF.row 2 (jns js)).st _ _ _ hlj hb
   replace hlf:=(SF.row 3 (rvs 1 fs)).st _ _ _ hlf hb
   replace hlc:=(SF.row 3 (qns ca)).st _ _ _ hlc hb
   replace hls:=(SF.row 1 (ins sa)).st _ _ _ hls hb
   replace hlb:=(SF.row 3 (qns cb)).st _ _ _ hlb hb
   replace hlt:=(SF.row 1 (ins sb)).st _ _ _ hlt hb
   replace s:=s.anewB rfl rfl
   refine zVc ?_
   refine zC 1 ((17, .u (UF.eq (.slice none 0 0))):: []) hmix s kJ
    (oc zG<|zE) fun a w5 s=> ?_
   refine zB rfl ?_
   have hb:=s.below
   replace hFr:=hFr.trans (hb.mono hFr.size)
   replace hT:=hT.below hb
   replace hlj:=(SF.row 2 (jns js)).st _ _ _ hlj hb
   replace hlf:=(SF.row 3 (rvs 1 fs)).st _ _ _ hlf hb
   replace hlc:=(SF.row 3 (qns ca)).st _ _ _ hlc hb
   replace hls:=(SF.row 1 (ins sa)).st _ _ _ hls hb
   replace hlb:=(SF.row 3 (qns cb)).st _ _ _ hlb hb
   replace hlt:=(SF.row 1 (ins sb)).st _ _ _ hlt hb
   replace s:=s.anewB rfl rfl
   refine zVc ?_
   refine zC 2 ((18, .u (UF.eq (.slice none 0 0)))::(19, .u (UF.eq (.slice none 0 0))):: []) hmix s kJ
    (oc zG<|oc zG<|zE) fun a w6 s=> ?_
   refine zB rfl ?_
   have hb:=s.below
   replace hFr:=hFr.trans (hb.mono hFr.size)
   replace hT:=hT.below hb
   replace hlj:=(SF.row 2 (jns js)).st _ _ _ hlj hb
   replace hlf:=(SF.row 3 (rvs 1 fs)).st _ _ _ hlf hb
   replace hlc:=(SF.row 3 (qns ca)).st _ _ _ hlc hb
   replace hls:=(SF.row 1 (ins sa)).st _ _ _ hls hb
   replace hlb:=(SF.row 3 (qns cb)).st _ _ _ hlb hb
   replace hlt:=(SF.row 1 (ins sb)).st _ _ _ hlt hb
   replace s:=s.anewB rfl rfl
   refine zVc ?_
   refine zVc ?_
   refine zC 4 ((71, .Z (UF.eq lj))::(72, .Z (uI ((jns js).length:Int)))::(73, .Z (uI ((js.length:Int) - 1)))::(20, .u (uI ((js.length:Int) - 1))):: []) hmix s kJ
    (oc zA<|oc (qK (z:=2) (Cs:=jns js) kJ (fun v W hb h=>(yT hlj h (s.up hb))) (fun _=>rfl))<|oc (zA9 .i64 ((jns js).length:Int) 1 ((js.length:Int) - 1) iiz iiz (by rw [zVd];exact zAE _ oQ oQ))<|oc zG<|zE) fun a w7 s=> ?_
   refine zB rfl ?_
   have hb:=s.below
   replace hFr:=hFr.trans (hb.mono hFr.size)
   replace hT:=hT.below hb
   replace hlj:=(SF.row 2 (jns js)).st _ _ _ hlj hb
   replace hlf:=(SF.row 3 (rvs 1 fs)).st _ _ _ hlf hb
   replace hlc:=(SF.row 3 (qns ca)).st _ _ _ hlc hb
   replace hls:=(SF.row 1 (ins sa)).st _ _ _ hls hb
   replace hlb:=(SF.row 3 (qns cb)).st _ _ _ hlb hb
   replace hlt:=(SF.row 1 (ins sb)).st _ _ _ hlt hb
   replace s:=s.anewB rfl rfl
   refine zVg ?_
   have ghFr:=hFr
   have ghT:=hT
   have ghlj:=hlj
   have ghlf:=hlf
   have ghlc:=hlc
   have ghls:=hls
   have ghlb:=hlb
   have ghlt:=hlt
   rw [show (js.length:Int) - 1=(js.length:Int) - 1 - ((0:Nat):Int) by omega] at s
   refine yM (fun (y:Nat×Wv×Wv) a w=>y.1<=js.length/\Below w7.heap.size w7 w/\y9 w w7.heap.size 47 2 y.2.1 (jns ((js.map swJ).reverse.take y.1))/\y9 w w7.heap.size 32 3 y.2.2 (rvs 1 (fs.reverse.take y.1))/\St w [(17, .u (UF.eq y.2.1)),(18, .u (UF.eq y.2.2)),(20, .u (uI ((js.length:Int) - 1 - (y.1:Int)))),(0, .u (uI n)),(1, .u (UF.eq lj)),(2, .u (UF.eq lq)),(5, .u (uI z)),(13, .u (UF.eq lc)),(14, .u (UF.eq ls)),(15, .u (UF.eq lb)),(16, .u (UF.eq lt)),(19, .u (UF.eq (.slice none 0 0)))] [] f5.ntmps [] a w) (fun y=>js.length - y.1) (0, .slice none 0 0, .slice none 0 0) ⟨zVn _,zVe _ _,y9.nil _ _ _ _,y9.nil _ _ _ _,s.keepK _ (fmz ⟨mz3,fmz ⟨mz1,fmz ⟨.head _,fmz ⟨mz7,fmz ⟨mz8,fmz ⟨mz9,fmz ⟨zGo,fmz ⟨zF2,fmz ⟨zG1,fmz ⟨mz5,fmz ⟨mz4,fmz ⟨mz2,fnz⟩⟩⟩⟩⟩⟩⟩⟩⟩⟩⟩⟩)⟩ fun y a w hx=> ?_
   obtain ⟨hk,hBw,hJ,hR,s⟩:=hx
   have hb:=hBw
   replace hFr:=ghFr.trans (hb.mono ghFr.size)
   replace hT:=ghT.below hb
   replace hlj:=(SF.row 2 (jns js)).st _ _ _ ghlj hb
   replace hlf:=(SF.row 3 (rvs 1 fs)).st _ _ _ ghlf hb
   replace hlc:=(SF.row 3 (qns ca)).st _ _ _ ghlc hb
   replace hls:=(SF.row 1 (ins sa)).st _ _ _ ghls hb
   replace hlb:=(SF.row 3 (qns cb)).st _ _ _ ghlb hb
   replace hlt:=(SF.row 1 (ins sb)).st _ _ _ ghlt hb
   refine zVc ?_
   refine zVc ?_
   refine zC 2 ((74, .Z (uI ((js.length:Int) - 1 - (y.1:Int))))::(75, .u (uB (decide (((js.length:Int) - 1 - (y.1:Int))≥0)))):: []) hmix s kJ
    (oc zA<|oc (zP .i64 ((js.length:Int) - 1 - (y.1:Int)) 0 (decide (((js.length:Int) - 1 - (y.1:Int))≥0)) iiz iiz rfl rfl)<|zE) fun a w8 s=> ?_
   refine zB rfl ?_
   have hb:=s.below
   replace hFr:=hFr.trans (hb.mono hFr.size)
   replace hT:=hT.below hb
   replace hlj:=(SF.row 2 (jns js)).st _ _ _ hlj hb
   replace hlf:=(SF.row 3 (rvs 1 fs)).st _ _ _ hlf hb
   replace hlc:=(SF.row 3 (qns ca)).st _ _ _ hlc hb
   replace hls:=(SF.row 1 (ins sa)).st _ _ _ hls hb
   replace hlb:=(SF.row 3 (qns cb)).st _ _ _ hlb hb
   replace hlt:=(SF.row 1 (ins sb)).st _ _ _ hlt hb
   replace hBw:=hBw.trans (hb.mono hBw.size)
   replace hJ:=hJ.below hb
   replace hR:=hR.below hb
   replace s:=s.anewB rfl rfl
   refine StS.cond s (decide (((js.length:Int) - 1 - (y.1:Int))≥0)) iiz (fun e=> ?_) (fun e=> ?_)
   ·have hyl:y.1<js.length:=by have h7:=zVh e;omega
    have hi0:(js.length:Int) - 1 - (y.1:Int)=((js.length - 1 - y.1:Nat):Int):=by omega
    rw [hi0] at s
    refine zVf ?_
    refine zVc ?_
    refine zVg ?_
    refine zVc ?_
    refine zB7 (K:= [(75, .u (uB (decide (((js.length - 1 - y.1:Nat):Int)≥0)))),(18, .u (UF.eq (y.2.2))),(20, .u (uI ((js.length - 1 - y.1:Nat):Int))),(0, .u (uI n)),(1, .u (UF.eq lj)),(2, .u (UF.eq lq)),(5, .u (uI z)),(13, .u (UF.eq lc)),(14, .u (UF.eq ls)),(15, .u (UF.eq lb)),(16, .u (UF.eq lt)),(19, .u (UF.eq (.slice none 0 0)))]) [(17, .u (UF.eq (y.2.1)))] [0,1,2,6,7] 13 ((78, .u (UF.eq (y.2.1)))::(79, .Z (UF.eq lj))::(80, .Z (uI ((js.length - 1 - y.1:Nat):Int)))::(81, .Y (fJn (js.getD (js.length - 1 - y.1) (0,0))))::(82, .X (fJn (js.getD (js.length - 1 - y.1) (0,0))) 1)::(83, .Z (uI ((js.getD (js.length - 1 - y.1) (0,0)).2)))::(84, .Z (UF.eq lj))::(85, .Z (uI ((js.length - 1 - y.1:Nat):Int)))::(86, .Y (fJn (js.getD (js.length - 1 - y.1) (0,0))))::(87, .X (fJn (js.getD (js.length - 1 - y.1) (0,0))) 0)::(88, .Z (uI ((js.getD (js.length - 1 - y.1) (0,0)).1)))::(89, .Z (fJn (swJ (js.getD (js.length - 1 - y.1) (0,0)))))::(90, .s (wE w8 47 2 (jns [(swJ (js.getD (js.length - 1 - y.1) (0,0)))]))):: []) hmix (s.keepK _ (fmz ⟨mz1,fmz ⟨.head _,fmz ⟨mz2,fmz ⟨mz3,fmz ⟨mz4,fmz ⟨mz5,fmz ⟨mz6,fmz ⟨mz7,fmz ⟨mz8,fmz ⟨mz9,fmz ⟨zGo,fmz ⟨zF2,fmz ⟨zG1,fnz⟩⟩⟩⟩⟩⟩⟩⟩⟩⟩⟩⟩⟩)) kJ
     (oc zA<|oc zA<|oc zA<|oc (zT (z:=2) (Cs:=jns js) (i:=(js.length - 1 - y.1)) (C:=CU.agg (fJn (js.getD (js.length - 1 - y.1) (0,0)))) kJ (zHV oQ) (fun v W hb h=>(yT hlj h (s.up hb))) iiz)<|oc (zW (C:=cg (fJn (js.getD (js.length - 1 - y.1) (0,0)))) 1 kJ)<|oc (yW (C:=cg (fJn (js.getD (js.length - 1 - y.1) (0,0)))) (k:=1) kJ (h:=zSB))<|oc zA<|oc zA<|oc (zT (z:=2) (Cs:=jns js) (i:=(js.length - 1 - y.1)) (C:=CU.agg (fJn (js.getD (js.length - 1 - y.1) (0,0)))) kJ (zHV oQ) (fun v W hb h=>(yT hlj h (s.up hb))) iiz)<|oc (zW (C:=cg (fJn (js.getD (js.length - 1 - y.1) (0,0)))) 0 kJ)<|oc (yW (C:=cg (fJn (js.getD (js.length - 1 - y.1) (0,0)))) (k:=0) kJ (h:=zSC))<|oc (zAo (fun u v W (hu:u= .int .i64 ((js.getD (js.length - 1 - y.1) (0,0)).2)) (hv:v= .int .i64 ((js.getD (js.length - 1 - y.1) (0,0)).1))=>by subst hu hv;exact ⟨_,zR4 _ _,rfl⟩))<|oc (jU (fun u W hb (hu:(fJn (swJ (js.getD (js.length - 1 - y.1) (0,0)))).p u W)=>by obtain ⟨cs,g1,g2⟩:=zOg (j:=(swJ (js.getD (js.length - 1 - y.1) (0,0)))) hu;exact ⟨_,cs,g1,g2.toN hb.size rfl⟩))<|zE) fun Q' hQ a w9 s hr=> ?_
    have hb:=s.below
    replace hFr:=hFr.trans (hb.mono hFr.size)
    replace hT:=hT.below hb
    replace hlj:=(SF.row 2 (jns js)).st _ _ _ hlj hb
    replace hlf:=(SF.row 3 (rvs 1 fs)).st _ _ _ hlf hb
    replace hlc:=(SF.row 3 (qns ca)).st _ _ _ hlc hb
    replace hls:=(SF.row 1 (ins sa)).st _ _ _ hls hb
    replace hlb:=(SF.row 3 (qns cb)).st _ _ _ hlb hb
    replace hlt:=(SF.row 1 (ins sb)).st _ _ _ hlt hb
    replace hBw:=hBw.trans (hb.mono hBw.size)
    replace hJ:=hJ.below hb
    replace hR:=hR.below hb
    refine zEi (base:=w7.heap.size) (z:=2) (e:=47) (v:=y.2.1) (Cs:=jns ((js.map swJ).reverse.take y.1)) [CU.agg (fJn (swJ (js.getD (js.length - 1 - y.1) (0,0))))] s hJ hBw.size rfl kJ kJ rfl rfl (s.fct (.tmp 78)) (y9.row (hr (_,_) zG1)) (fun C hC=>by obtain rfl:=zVm.1 hC;exact zRn _) (by simp only [zVd,zVB,zVj,zVC];omega) (fun q hq=>by cases hq) fun vj a w hN1 hF1 hk1 hor s=> ?_
    replace hR:=hR.keep (fun k hk=>hF1.block k (hR.lt k hk).2 (fun hh=>zFh hR hJ dC hk hh)) hk1
    replace hBw:=yN hBw hF1 (fun q hq=>(hJ.lt q hq).1)
    replace hJ:=hN1
    rw [zNv hyl] at hJ
    have hb:=hBw
    replace hFr:=ghFr.trans (hb.mono ghFr.size)
    replace hT:=ghT.below hb
    replace hlj:=(SF.row 2 (jns js)).st _ _ _ ghlj hb
    replace hlf:=(SF.row 3 (rvs 1 fs)).st _ _ _ ghlf hb
    replace hlc:=(SF.row 3 (qns ca)).st _ _ _ ghlc hb
    replace hls:=(SF.row 1 (ins sa)).st _ _ _ ghls hb
    replace hlb:=(SF.row 3 (qns cb)).st _ _ _ ghlb hb
    replace hlt:=(SF.row 1 (ins sb)).st _ _ _ ghlt hb
    refine qN (UF.eq vj) rfl s kJ iiz fun a w s=> ?_
    refine zB rfl (hQ _ _ ?_)
    have hb:=s.below
    replace hFr:=hFr.trans (hb.mono hFr.size)
    replace hT:=hT.below hb
    replace hlj:=(SF.row 2 (jns js)).st _ _ _ hlj hb
    replace hlf:=(SF.row 3 (rvs 1 fs)).st _ _ _ hlf hb
    replace hlc:=(SF.row 3 (qns ca)).st _ _ _ hlc hb
    replace hls:=(SF.row 1 (ins sa)).st _ _ _ hls hb
    replace hlb:=(SF.row 3 (qns cb)).st _ _ _ hlb hb
    replace hlt:=(SF.row 1 (ins sb)).st _ _ _ hlt hb
    replace hBw:=hBw.trans (hb.mono hBw.size)
    replace hJ:=hJ.below hb
    replace hR:=hR.below hb
    replace s:=s.anewB rfl rfl
    refine zBn 6 ((92, .u (UF.eq (y.2.2)))::(93, .Z (UF.eq lq))::(94, .Z (uI ((js.length - 1 - y.1:Nat):Int)))::(95, .Y (fRV 1 (fs.getD (js.length - 1 - y.1) 0)))::(96, .Z (fRV 1 (fs.getD (js.length - 1 - y.1) 0)))::(97, .s (wE w 32 3 (rvs 1 [(fs.getD (js.length - 1 - y.1) 0)]))):: []) s kJ
     (oc zA<|oc zA<|oc zA<|oc (zT (z:=3) (Cs:=rvs 1 fs) (i:=(js.length - 1 - y.1)) (C:=CU.agg (fRV 1 (fs.getD (js.length - 1 - y.1) 0))) kJ (zDo (k:=js.length - 1 - y.1) oQ) (fun v W hb h=>(yT hlf h (s.up hb))) iiz)<|oc (yP (f:=fRV 1 (fs.getD (js.length - 1 - y.1) 0)) 3 kJ (hz:=zBe _ _))<|oc (jU (fun u W hb (hu:RVp 1 (fs.getD (js.length - 1 - y.1) 0) u W)=>by obtain ⟨cs,g1,g2⟩:=zJ9 hu;exact ⟨_,cs,g1,g2.toN hb.size rfl⟩))<|zE) fun a w10 s hr=> ?_
    have hb:=s.below
    replace hFr:=hFr.trans (hb.mono hFr.size)
    replace hT:=hT.below hb
    replace hlj:=(SF.row 2 (jns js)).st _ _ _ hlj hb
    replace hlf:=(SF.row 3 (rvs 1 fs)).st _ _ _ hlf hb
    replace hlc:=(SF.row 3 (qns ca)).st _ _ _ hlc hb
    replace hls:=(SF.row 1 (ins sa)).st _ _ _ hls hb
    replace hlb:=(SF.row 3 (qns cb)).st _ _ _ hlb hb
    replace hlt:=(SF.row 1 (ins sb)).st _ _ _ hlt hb
    replace hBw:=hBw.trans (hb.mono hBw.size)
    replace hJ:=hJ.below hb
    replace hR:=hR.below hb
    refine zEi (base:=w7.heap.size) (z:=3) (e:=32) (v:=y.2.2) (Cs:=rvs 1 (fs.reverse.take y.1)) [CU.agg (fRV 1 (fs.getD (js.length - 1 - y.1) 0))] s hR hBw.size rfl kJ kJ rfl rfl (s.fct (.tmp 92)) (y9.row (hr (_,_) mz5)) (fun C hC=>by obtain rfl:=zVm.1 hC;exact zKk _ _) (by simp only [zVd,zVB,zVj,zVC];omega) (fun q hq=>by cases hq) fun vr a w hN1 hF1 hk1 hor s=> ?_
    replace hJ:=hJ.keep (fun k hk=>hF1.block k (hJ.lt k hk).2 (fun hh=>zFh hJ hR dC hk hh)) hk1
    replace hBw:=yN hBw hF1 (fun q hq=>(hR.lt q hq).1)
    replace hR:=hN1
    rw [show fs.getD (js.length - 1 - y.1) 0=fs.getD (fs.length - 1 - y.1) 0 by rw [hfl],zKh oQ] at hR
    have hb:=hBw
    replace hFr:=ghFr.trans (hb.mono ghFr.size)
    replace hT:=ghT.below hb
    replace hlj:=(SF.row 2 (jns js)).st _ _ _ ghlj hb
    replace hlf:=(SF.row 3 (rvs 1 fs)).st _ _ _ ghlf hb
    replace hlc:=(SF.row 3 (qns ca)).st _ _ _ ghlc hb
    replace hls:=(SF.row 1 (ins sa)).st _ _ _ ghls hb
    replace hlb:=(SF.row 3 (qns cb)).st _ _ _ ghlb hb
    replace hlt:=(SF.row 1 (ins sb)).st _ _ _ ghlt hb
    replace s:=s.drop [18]
    refine qN (UF.eq vr) rfl s kJ iiz fun a w s=> ?_
    refine zB rfl ?_
    have hb:=s.below
    replace hFr:=hFr.trans (hb.mono hFr.size)
    replace hT:=hT.below hb
    replace hlj:=(SF.row 2 (jns js)).st _ _ _ hlj hb
    replace hlf:=(SF.row 3 (rvs 1 fs)).st _ _ _ hlf hb
    replace hlc:=(SF.row 3 (qns ca)).st _ _ _ hlc hb
    replace hls:=(SF.row 1 (ins sa)).st _ _ _ hls hb
    replace hlb:=(SF.row 3 (qns cb)).st _ _ _ hlb hb
    replace hlt:=(SF.row 1 (ins sb)).st _ _ _ hlt hb
    replace hBw:=hBw.trans (hb.mono hBw.size)
    replace hJ:=hJ.below hb
    replace hR:=hR.below hb
    replace s:=s.anewB rfl rfl
    refine yI 2 ((76, .Z (uI ((js.length - 1 - y.1:Nat):Int)))::(77, .u (uI ((js.length:Int) - 1 - ((y.1+1:Nat):Int)))):: []) s kJ
     (oc zA<|oc (zA9 .i64 ((js.length - 1 - y.1:Nat):Int) 1 ((js.length:Int) - 1 - ((y.1+1:Nat):Int)) iiz iiz ((zAE _ oQ oQ).trans oQ))<|zE) fun a w11 s=> ?_
    replace s:=s.drop [20]
    refine qN (uI ((js.length:Int) - 1 - ((y.1+1:Nat):Int))) rfl s kJ iiz fun a w s=> ?_
    refine zB rfl ?_
    have hb:=s.below
    replace hFr:=hFr.trans (hb.mono hFr.size)
    replace hT:=hT.below hb
    replace hlj:=(SF.row 2 (jns js)).st _ _ _ hlj hb
    replace hlf:=(SF.row 3 (rvs 1 fs)).st _ _ _ hlf hb
    replace hlc:=(SF.row 3 (qns ca)).st _ _ _ hlc hb
    replace hls:=(SF.row 1 (ins sa)).st _ _ _ hls hb
    replace hlb:=(SF.row 3 (qns cb)).st _ _ _ hlb hb
    replace hlt:=(SF.row 1 (ins sb)).st _ _ _ hlt hb
    replace hBw:=hBw.trans (hb.mono hBw.size)
    replace hJ:=hJ.below hb
    replace hR:=hR.below hb
    replace s:=s.anewB rfl rfl
    exact ⟨(y.1+1,vj,vr),(by show js.length - (y.1+1)<js.length - y.1;omega),hyl,hBw,hJ,hR,s.keepK _ (fmz ⟨mz5,fmz ⟨mz2,fmz ⟨.head _,fmz ⟨mz9,fmz ⟨zGo,fmz ⟨zF2,fmz ⟨zG1,fmz ⟨zK4,fmz ⟨zQB,fmz ⟨zGn,fmz ⟨.tail _ zGn,fmz ⟨.tail _ (.tail _ zGn),fnz⟩⟩⟩⟩⟩⟩⟩⟩⟩⟩⟩⟩)⟩
   ·have hye:y.1=js.length:=by have h7:=zVo e;omega
    obtain ⟨k_,vj,vr⟩:=y
    dsimp only at hye hJ hR s
    have hvj:=y9.row hJ
    have hvr:=y9.row hR
    rw [zVy (by simp;omega)] at hvj hvr
    refine zVl ?_
    refine zVc ?_
    refine zVc ?_
    refine zC 1 ((21, .u (uI 0)):: []) hmix s kJ
     (oc zG<|zE) fun a w12 s=> ?_
    refine zB rfl ?_
    have hb:=s.below
    replace hFr:=hFr.trans (hb.mono hFr.size)
    replace hT:=hT.below hb
    replace hlj:=(SF.row 2 (jns js)).st _ _ _ hlj hb
    replace hlf:=(SF.row 3 (rvs 1 fs)).st _ _ _ hlf hb
    replace hlc:=(SF.row 3 (qns ca)).st _ _ _ hlc hb
    replace hls:=(SF.row 1 (ins sa)).st _ _ _ hls hb
    replace hlb:=(SF.row 3 (qns cb)).st _ _ _ hlb hb
    replace hlt:=(SF.row 1 (ins sb)).st _ _ _ hlt hb
    replace hvj:=(SF.row 2 (jns (js.map swJ).reverse)).st _ _ _ hvj hb
    replace hvr:=(SF.row 3 (rvs 1 fs.reverse)).st _ _ _ hvr hb
    replace s:=s.anewB rfl rfl
    refine zVg ?_
    have ghFr:=hFr
    have ghT:=hT
    have ghlj:=hlj
    have ghlf:=hlf
    have ghlc:=hlc
    have ghls:=hls
    have ghlb:=hlb
    have ghlt:=hlt
    have ghvj:=hvj
    have ghvr:=hvr
    refine yM (fun (y:Nat×Wv) a w=>y.1<=fs.length/\Below w12.heap.size w12 w/\y9 w w12.heap.size 32 3 y.2 (rvs 1 ((fs.map twR).take y.1))/\St w [(19, .u (UF.eq y.2)),(21, .u (uI (y.1:Int))),(0, .u (uI n)),(1, .u (UF.eq lj)),(2, .u (UF.eq lq)),(5, .u (uI z)),(13, .u (UF.eq lc)),(14, .u (UF.eq ls)),(15, .u (UF.eq lb)),(16, .u (UF.eq lt)),(17, .u (UF.eq vj)),(18, .u (UF.eq vr))] [] f5.ntmps [] a w) (fun y=>fs.length - y.1) (0, .slice none 0 0) ⟨zVn _,zVe _ _,y9.nil _ _ _ _,s.keepK _ (fmz ⟨zK4,fmz ⟨.head _,fmz ⟨mz5,fmz ⟨mz6,fmz ⟨mz7,fmz ⟨mz8,fmz ⟨mz9,fmz ⟨zGo,fmz ⟨zF2,fmz ⟨zG1,fmz ⟨mz2,fmz ⟨mz3,fnz⟩⟩⟩⟩⟩⟩⟩⟩⟩⟩⟩⟩)⟩ fun y a w hx=> ?_
    obtain ⟨hk,hBw,hR,s⟩:=hx
    have hb:=hBw
    replace hFr:=ghFr.trans (hb.mono ghFr.size)
    replace hT:=ghT.below hb
    replace hlj:=(SF.row 2 (jns js)).st _ _ _ ghlj hb
    replace hlf:=(SF.row 3 (rvs 1 fs)).st _ _ _ ghlf hb
    replace hlc:=(SF.row 3 (qns ca)).st _ _ _ ghlc hb
    replace hls:=(SF.row 1 (ins sa)).st _ _ _ ghls hb
    replace hlb:=(SF.row 3 (qns cb)).st _ _ _ ghlb hb
    replace hlt:=(SF.row 1 (ins sb)).st _ _ _ ghlt hb
    replace hvj:=(SF.row 2 (jns (js.map swJ).reverse)).st _ _ _ ghvj hb
    replace hvr:=(SF.row 3 (rvs 1 fs.reverse)).st _ _ _ ghvr hb
    refine zVc ?_
    refine zVc ?_
    refine zC 4 ((99, .Z (uI (y.1:Int)))::(100, .Z (UF.eq lq))::(101, .Z (uI ((rvs 1 fs).length:Int)))::(102, .u (uB (decide ((y.1:Int)<((rvs 1 fs).length:Int))))):: []) hmix s kJ
     (oc zA<|oc zA<|oc (qK (z:=3) (Cs:=rvs 1 fs) kJ (fun v W hb h=>(yT hlf h (s.up hb))) (fun _=>rfl))<|oc (zP .i64 (y.1:Int) ((rvs 1 fs).length:Int) (decide ((y.1:Int)<((rvs 1 fs).length:Int))) iiz iiz rfl rfl)<|zE) fun a w13 s=> ?_
    refine zB rfl ?_
    have hb:=s.below
    replace hFr:=hFr.trans (hb.mono hFr.size)
    replace hT:=hT.below hb
    replace hlj:=(SF.row 2 (jns js)).st _ _ _ hlj hb
    replace hlf:=(SF.row 3 (rvs 1 fs)).st _ _ _ hlf hb
    replace hlc:=(SF.row 3 (qns ca)).st _ _ _ hlc hb
    replace hls:=(SF.row 1 (ins sa)).st _ _ _ hls hb
    replace hlb:=(SF.row 3 (qns cb)).st _ _ _ hlb hb
    replace hlt:=(SF.row 1 (ins sb)).st _ _ _ hlt hb
    replace hvj:=(SF.row 2 (jns (js.map swJ).reverse)).st _ _ _ hvj hb
    replace hvr:=(SF.row 3 (rvs 1 fs.reverse)).st _ _ _ hvr hb
    replace hBw:=hBw.trans (hb.mono hBw.size)
    replace hR:=hR.below hb
    replace s:=s.anewB rfl rfl
    refine StS.cond s (decide ((y.1:Int)<((rvs 1 fs).length:Int))) iiz (fun e=> ?_) (fun e=> ?_)
    ·have hyl:y.1<fs.length:=by have h7:=zVh e;simp only [zVd] at h7;omega
     have hq2:=hTf.qb _ (zLz hyl)
     refine zVf ?_
     refine zVc ?_
     refine zVg ?_
     refine zB7 (K:= [(102, .u (uB (decide ((y.1:Int)<((rvs 1 fs).length:Int))))),(21, .u (uI (y.1:Int))),(0, .u (uI n)),(1, .u (UF.eq lj)),(2, .u (UF.eq lq)),(5, .u (uI z)),(13, .u (UF.eq lc)),(14, .u (UF.eq ls)),(15, .u (UF.eq lb)),(16, .u (UF.eq lt)),(17, .u (UF.eq vj)),(18, .u (UF.eq vr))]) [(19, .u (UF.eq (y.2)))] [0,1,2,5,6] 12 ((105, .u (UF.eq (y.2)))::(106, .Z (UF.eq lq))::(107, .Z (uI (y.1:Int)))::(108, .Y (fRV 1 (fs.getD y.1 0)))::(109, .Z (fRV 1 (fs.getD y.1 0)))::(110, .Z (UF.eq lq))::(111, .Z (uI (y.1:Int)))::(112, .Y (fRV 1 (fs.getD y.1 0)))::(113, .Z (fRV 1 (fs.getD y.1 0)))::(114, .s (SF.row 3 (rvs 1 [(fs.getD y.1 0),(fs.getD y.1 0)])))::(115, .Z (fQN ((fs.getD y.1 0)+(fs.getD y.1 0))))::(116, .s (wE w13 32 3 (rvs 1 [((fs.getD y.1 0)+(fs.getD y.1 0))]))):: []) hmix (s.keepK _ (fmz ⟨mz1,fmz ⟨.head _,fmz ⟨mz2,fmz ⟨mz3,fmz ⟨mz4,fmz ⟨mz5,fmz ⟨mz6,fmz ⟨mz7,fmz ⟨mz8,fmz ⟨mz9,fmz ⟨zGo,fmz ⟨zF2,fmz ⟨zG1,fnz⟩⟩⟩⟩⟩⟩⟩⟩⟩⟩⟩⟩⟩)) kJ
      (oc zA<|oc zA<|oc zA<|oc (zT (z:=3) (Cs:=rvs 1 fs) (i:=y.1) (C:=CU.agg (fRV 1 (fs.getD y.1 0))) kJ (zDo (k:=y.1) hyl) (fun v W hb h=>(yT hlf h (s.up hb))) iiz)<|oc (yP (f:=fRV 1 (fs.getD y.1 0)) 3 kJ (hz:=zBe _ _))<|oc zA<|oc zA<|oc (zT (z:=3) (Cs:=rvs 1 fs) (i:=y.1) (C:=CU.agg (fRV 1 (fs.getD y.1 0))) kJ (zDo (k:=y.1) hyl) (fun v W hb h=>(yT hlf h (s.up hb))) iiz)<|oc (yP (f:=fRV 1 (fs.getD y.1 0)) 3 kJ (hz:=zBe _ _))<|oc (qD (fun u v W (hu:RVp 1 (fs.getD y.1 0) u W) (hv:RVp 1 (fs.getD y.1 0) v W)=>zOd (m:=1) hu hv))<|oc (zM zF zRF (fun u0 W hb (h0:(SF.row 3 (rvs 1 [(fs.getD y.1 0),(fs.getD y.1 0)])).p u0 W)=>zIA (m:=1) (p:=(fs.getD y.1 0)) (q:=(fs.getD y.1 0)) h0 hq2.1 hq2.1 dC))<|oc (jU (fun u W hb (hu:QNp ((fs.getD y.1 0)+(fs.getD y.1 0)) u W)=>by obtain ⟨cs,g1,g2⟩:=zJ9 (wJ hu hq2.2);exact ⟨_,cs,g1,g2.toN hb.size rfl⟩))<|zE) fun Q' hQ a w14 s hr=> ?_
     have hb:=s.below
     replace hFr:=hFr.trans (hb.mono hFr.size)
     replace hT:=hT.below hb
     replace hlj:=(SF.row 2 (jns js)).st _ _ _ hlj hb
     replace hlf:=(SF.row 3 (rvs 1 fs)).st _ _ _ hlf hb
     replace hlc:=(SF.row 3 (qns ca)).st _ _ _ hlc hb
     replace hls:=(SF.row 1 (ins sa)).st _ _ _ hls hb
     replace hlb:=(SF.row 3 (qns cb)).st _ _ _ hlb hb
     replace hlt:=(SF.row 1 (ins sb)).st _ _ _ hlt hb
     replace hvj:=(SF.row 2 (jns (js.map swJ).reverse)).st _ _ _ hvj hb
     replace hvr:=(SF.row 3 (rvs 1 fs.reverse)).st _ _ _ hvr hb
     replace hBw:=hBw.trans (hb.mono hBw.size)
     replace hR:=hR.below hb
     refine zEi (base:=w12.heap.size) (z:=3) (e:=32) (v:=y.2) (Cs:=rvs 1 ((fs.map twR).take y.1)) [CU.agg (fRV 1 (fs.getD y.1 0+fs.getD y.1 0))] s hR hBw.size rfl kJ kJ rfl rfl (s.fct (.tmp 105)) (y9.row (hr (_,_) zF2)) (fun C hC=>by obtain rfl:=zVm.1 hC;exact zKk _ _) (by simp only [zVd,zVB,zVj,zVC];omega) (fun q hq=>by cases hq) fun vd a w hN1 hF1 hk1 hor s=> ?_
     replace hBw:=yN hBw hF1 (fun q hq=>(hR.lt q hq).1)
     replace hR:=hN1
     rw [zKi hyl] at hR
     have hb:=hBw
     replace hFr:=ghFr.trans (hb.mono ghFr.size)
     replace hT:=ghT.below hb
     replace hlj:=(SF.row 2 (jns js)).st _ _ _ ghlj hb
     replace hlf:=(SF.row 3 (rvs 1 fs)).st _ _ _ ghlf hb
     replace hlc:=(SF.row 3 (qns ca)).st _ _ _ ghlc hb
     replace hls:=(SF.row 1 (ins sa)).st _ _ _ ghls hb
     replace hlb:=(SF.row 3 (qns cb)).st _ _ _ ghlb hb
     replace hlt:=(SF.row 1 (ins sb)).st _ _ _ ghlt hb
     replace hvj:=(SF.row 2 (jns (js.map swJ).reverse)).st _ _ _ ghvj hb
     replace hvr:=(SF.row 3 (rvs 1 fs.reverse)).st _ _ _ ghvr hb
     refine qN (UF.eq vd) rfl s kJ iiz fun a w s=> ?_
     refine zB rfl (hQ _ _ ?_)
     have hb:=s.below
     replace hFr:=hFr.trans (hb.mono hFr.size)
     replace hT:=hT.below hb
     replace hlj:=(SF.row 2 (jns js)).st _ _ _ hlj hb
     replace hlf:=(SF.row 3 (rvs 1 fs)).st _ _ _ hlf hb
     replace hlc:=(SF.row 3 (qns ca)).st _ _ _ hlc hb
     replace hls:=(SF.row 1 (ins sa)).st _ _ _ hls hb
     replace hlb:=(SF.row 3 (qns cb)).st _ _ _ hlb hb
     replace hlt:=(SF.row 1 (ins sb)).st _ _ _ hlt hb
     replace hvj:=(SF.row 2 (jns (js.map swJ).reverse)).st _ _ _ hvj hb
     replace hvr:=(SF.row 3 (rvs 1 fs.reverse)).st _ _ _ hvr hb
     replace hBw:=hBw.trans (hb.mono hBw.size)
     replace hR:=hR.below hb
     replace s:=s.anewB rfl rfl
     refine yI 2 ((103, .Z (uI (y.1:Int)))::(104, .u (uI ((y.1+1:Nat):Int))):: []) s kJ
      (oc zA<|oc (qX .i64 (y.1:Int) 1 ((y.1+1:Nat):Int) iiz iiz (wrap64 _ _ oQ oQ))<|zE) fun a w15 s=> ?_
     replace s:=s.drop [21]
     refine qN (uI ((y.1+1:Nat):Int)) rfl s kJ iiz fun a w s=> ?_
     refine zB rfl ?_
     have hb:=s.below
     replace hFr:=hFr.trans (hb.mono hFr.size)
     replace hT:=hT.below hb
     replace hlj:=(SF.row 2 (jns js)).st _ _ _ hlj hb
     replace hlf:=(SF.row 3 (rvs 1 fs)).st _ _ _ hlf hb
     replace hlc:=(SF.row 3 (qns ca)).st _ _ _ hlc hb
     replace hls:=(SF.row 1 (ins sa)).st _ _ _ hls hb
     replace hlb:=(SF.row 3 (qns cb)).st _ _ _ hlb hb
     replace hlt:=(SF.row 1 (ins sb)).st _ _ _ hlt hb
     replace hvj:=(SF.row 2 (jns (js.map swJ).reverse)).st _ _ _ hvj hb
     replace hvr:=(SF.row 3 (rvs 1 fs.reverse)).st _ _ _ hvr hb
     replace hBw:=hBw.trans (hb.mono hBw.size)
     replace hR:=hR.below hb
     replace s:=s.anewB rfl rfl
     exact ⟨(y.1+1,vd),(by show fs.length - (y.1+1)<fs.length - y.1;omega),hyl,hBw,hR,s.keepK _ (fmz ⟨mz2,fmz ⟨.head _,fmz ⟨mz6,fmz ⟨mz7,fmz ⟨mz8,fmz ⟨mz9,fmz ⟨zGo,fmz ⟨zF2,fmz ⟨zG1,fmz ⟨zK4,fmz ⟨zQB,fmz ⟨zGn,fnz⟩⟩⟩⟩⟩⟩⟩⟩⟩⟩⟩⟩)⟩
    ·have hye:y.1=fs.length:=by have h7:=zVo e;simp only [zVd] at h7;omega
     obtain ⟨k_,vd⟩:=y
     dsimp only at hye hR s
     have hvd:=y9.row hR
     rw [zVy (by simp;omega)] at hvd
     refine zVl ?_
     refine zVc ?_
     refine qU 10 ((119, .Z (uI n))::(120, .Z (UF.eq vj))::(121, .Z (UF.eq vr))::(122, .Z (uI z))::(123, .s (wI (wE w13 32 3 (qns ca)) (wE w13 3 1 (ins sa))))::(118, .s (wI (wE w13 32 3 (qns ca)) (wE w13 3 1 (ins sa))))::(124, .s (wE w13 32 3 (qns ca)))::(125, .s (wE w13 3 1 (ins sa)))::(22, .s (wE w13 32 3 (qns ca)))::(23, .s (wE w13 3 1 (ins sa))):: []) hmix s kJ
      (oc zA<|oc zA<|oc zA<|oc zA<|oc (zD6 zF zNK (fun u0 u1 u2 u3 W hb (h0:u0= .int .i64 n) (h1:u1=vj) (h2:u2=vr) (h3:u3= .int .i64 z)=>(zDZ (n:=n) (N:=N) (x:=z) (js:=(js.map swJ).reverse) (fs:=fs.reverse) h0 (yT hvj h1 (s.up hb)) (yT hvr h2 (s.up hb)) h3 hNz hB3 (hT.below (s.up hb))).mono (wG (fun v W h=>by have h7:=zDl (s.up hb).size h;rw [l1,l2] at h7;exact h7))))<|oc zA<|oc (zAK (A:=wE w13 32 3 (qns ca)) (B:=wE w13 3 1 (ins sa)) iiz)<|oc (zAJ (A:=wE w13 32 3 (qns ca)) (B:=wE w13 3 1 (ins sa)) iiz)<|oc zG<|oc zG<|zE) fun a w16 s hr=> ?_
     refine zB rfl ?_
     obtain ⟨lc3,e22⟩: ∃v,a.tmps.getD 22 undef=v:=⟨_,rfl⟩
     have hlc3:=(hr (_,_) mz8)
     rw [show a.tmps.getD _ undef=lc3 from e22] at hlc3
     replace hlc3:=y9.row hlc3
     replace s:=s.learn 22 _ e22
     obtain ⟨ls3,e23⟩: ∃v,a.tmps.getD 23 undef=v:=⟨_,rfl⟩
     have hls3:=(hr (_,_) mz9)
     rw [show a.tmps.getD _ undef=ls3 from e23] at hls3
     replace hls3:=y9.row hls3
     replace s:=s.learn 23 _ e23
     have hb:=s.below
     replace hFr:=hFr.trans (hb.mono hFr.size)
     replace hT:=hT.below hb
     replace hlj:=(SF.row 2 (jns js)).st _ _ _ hlj hb
     replace hlf:=(SF.row 3 (rvs 1 fs)).st _ _ _ hlf hb
     replace hlc:=(SF.row 3 (qns ca)).st _ _ _ hlc hb
     replace hls:=(SF.row 1 (ins sa)).st _ _ _ hls hb
     replace hlb:=(SF.row 3 (qns cb)).st _ _ _ hlb hb
     replace hlt:=(SF.row 1 (ins sb)).st _ _ _ hlt hb
     replace hvj:=(SF.row 2 (jns (js.map swJ).reverse)).st _ _ _ hvj hb
     replace hvr:=(SF.row 3 (rvs 1 fs.reverse)).st _ _ _ hvr hb
     replace hvd:=(SF.row 3 (rvs 1 (fs.map twR))).st _ _ _ hvd hb
     replace s:=s.anewB rfl rfl
     refine zVc ?_
     refine qU 10 ((127, .Z (uI n))::(128, .Z (UF.eq lj))::(129, .Z (UF.eq vd))::(130, .Z (uI z))::(131, .s (wI (wE w16 32 3 (qns cd)) (wE w16 3 1 (ins sa))))::(126, .s (wI (wE w16 32 3 (qns cd)) (wE w16 3 1 (ins sa))))::(132, .s (wE w16 32 3 (qns cd)))::(133, .s (wE w16 3 1 (ins sa)))::(24, .s (wE w16 32 3 (qns cd)))::(25, .s (wE w16 3 1 (ins sa))):: []) hmix s kJ
      (oc zA<|oc zA<|oc zA<|oc zA<|oc (zD6 zF zNK (fun u0 u1 u2 u3 W hb (h0:u0= .int .i64 n) (h1:u1=lj) (h2:u2=vd) (h3:u3= .int .i64 z)=>(zDZ (n:=n) (N:=N) (x:=z) (js:=js) (fs:=(fs.map twR)) h0 (yT hlj h1 (s.up hb)) (yT hvd h2 (s.up hb)) h3 hNz hB4 (hT.below (s.up hb))).mono (wG (fun v W h=>by have h7:=zDl (s.up hb).size h;rw [h_cd,l3] at h7;exact h7))))<|oc zA<|oc (zAK (A:=wE w16 32 3 (qns cd)) (B:=wE w16 3 1 (ins sa)) iiz)<|oc (zAJ (A:=wE w16 32 3 (qns cd)) (B:=wE w16 3 1 (ins sa)) iiz)<|oc zG<|oc zG<|zE) fun a w17 s hr=> ?_
     refine zB rfl ?_
     obtain ⟨ld,e24⟩: ∃v,a.tmps.getD 24 undef=v:=⟨_,rfl⟩
     have hld:=(hr (_,_) mz8)
     rw [show a.tmps.getD _ undef=ld from e24] at hld
     replace hld:=y9.row hld
     replace s:=s.learn 24 _ e24
     obtain ⟨lsd,e25⟩: ∃v,a.tmps.getD 25 undef=v:=⟨_,rfl⟩
     have hlsd:=(hr (_,_) mz9)
     rw [show a.tmps.getD _ undef=lsd from e25] at hlsd
     replace hlsd:=y9.row hlsd
     replace s:=s.learn 25 _ e25
     have hb:=s.below
     replace hFr:=hFr.trans (hb.mono hFr.size)
     replace hT:=hT.below hb
     replace hlj:=(SF.row 2 (jns js)).st _ _ _ hlj hb
     replace hlf:=(SF.row 3 (rvs 1 fs)).st _ _ _ hlf hb
     replace hlc:=(SF.row 3 (qns ca)).st _ _ _ hlc hb
     replace hls:=(SF.row 1 (ins sa)).st _ _ _ hls hb
     replace hlb:=(SF.row 3 (qns cb)).st _ _ _ hlb hb
     replace hlt:=(SF.row 1 (ins sb)).st _ _ _ hlt hb
     replace hvj:=(SF.row 2 (jns (js.map swJ).reverse)).st _ _ _ hvj hb
     replace hvr:=(SF.row 3 (rvs 1 fs.reverse)).st _ _ _ hvr hb
     replace hvd:=(SF.row 3 (rvs 1 (fs.map twR))).st _ _ _ hvd hb
     replace hlc3:=(SF.row 3 (qns ca)).st _ _ _ hlc3 hb
     replace hls3:=(SF.row 1 (ins sa)).st _ _ _ hls3 hb
     replace s:=s.anewB rfl rfl
     refine zVc ?_
     refine zVc ?_
     refine zC 44 ((134, .Z (UF.eq lb))::(135, .Z (uI ((qns cb).length:Int)))::(136, .Z (UF.eq lc))::(137, .Z (uI ((qns ca).length:Int)))::(138, .Z (uB false))::(139, .Z (uB false))::(140, .Z (UF.eq ld))::(141, .Z (uI ((qns cd).length:Int)))::(142, .Z (UF.eq lc))::(143, .Z (uI ((qns ca).length:Int)))::(144, .Z (uB false))::(145, .Z (uB false))::(146, .Z (uB false))::(147, .Z (UF.eq ls))::(148, .Z (uI ((ins sa).length:Int)))::(149, .Z (UF.eq lc))::(150, .Z (uI ((qns ca).length:Int)))::(151, .Z (uB false))::(152, .Z (uB false))::(153, .Z (uB false))::(154, .Z (UF.eq lt))::(155, .Z (uI ((ins sb).length:Int)))::(156, .Z (UF.eq lc))::(157, .Z (uI ((qns ca).length:Int)))::(158, .Z (uB false))::(159, .Z (uB false))::(160, .Z (uB false))::(161, .Z (UF.eq lc3))::(162, .Z (UF.eq lc))::(163, .Z (uB true))::(164, .Z (uB false))::(165, .Z (uB false))::(166, .Z (uB false))::(167, .Z (UF.eq ls3))::(168, .Z (UF.eq ls))::(169, .Z (uB true))::(170, .Z (uB false))::(171, .Z (uB false))::(172, .Z (uB false))::(173, .Z (UF.eq lsd))::(174, .Z (UF.eq ls))::(175, .Z (uB true))::(176, .Z (uB false))::(177, .u (uB false)):: []) hmix s kJ
      (oc zA<|oc (qK (z:=3) (Cs:=qns cb) kJ (fun v W hb h=>(yT hlb h (s.up hb))) (fun _=>rfl))<|oc zA<|oc (qK (z:=3) (Cs:=qns ca) kJ (fun v W hb h=>(yT hlc h (s.up hb))) (fun _=>rfl))<|oc (zP .i64 ((qns cb).length:Int) ((qns ca).length:Int) false iiz iiz (by simp only [zVd,l4,l5,l6,l7,l8];simp) rfl)<|oc zA<|oc (zD 139 false kJ iiz (fun _=>zA) arf)<|oc (zD 139 false kJ iiz (fun _=>qK (z:=3) (Cs:=qns cd) kJ (fun v W hb h=>(yT hld h (s.up hb))) (fun _=>rfl)) arf)<|oc (zD 139 false kJ iiz (fun _=>zA) arf)<|oc (zD 139 false kJ iiz (fun _=>qK (z:=3) (Cs:=qns ca) kJ (fun v W hb h=>(yT hlc h (s.up hb))) (fun _=>rfl)) arf)<|oc (zD 139 false kJ iiz (fun _=>zP .i64 ((qns cd).length:Int) ((qns ca).length:Int) false iiz iiz (by simp only [zVd,l4,l5,l6,l7,l8];simp) rfl) arf)<|oc (yE false iiz (fun e=>by cases e) (fun _ _ _ h=>h))<|oc zA<|oc (zD 146 false kJ iiz (fun _=>zA) arf)<|oc (zD 146 false kJ iiz (fun _=>qK (z:=1) (Cs:=ins sa) kJ (fun v W hb h=>(yT hls h (s.up hb))) (fun _=>rfl)) arf)<|oc (zD 146 false kJ iiz (fun _=>zA) arf)<|oc (zD 146 false kJ iiz (fun _=>qK (z:=3) (Cs:=qns ca) kJ (fun v W hb h=>(yT hlc h (s.up hb))) (fun _=>rfl)) arf)<|oc (zD 146 false kJ iiz (fun _=>zP .i64 ((ins sa).length:Int) ((qns ca).length:Int) false iiz iiz (by simp only [zVd,l4,l5,l6,l7,l8];simp) rfl) arf)<|oc (yE false iiz (fun e=>by cases e) (fun _ _ _ h=>h))<|oc zA<|oc (zD 153 false kJ iiz (fun _=>zA) arf)<|oc (zD 153 false kJ iiz (fun _=>qK (z:=1) (Cs:=ins sb) kJ (fun v W hb h=>(yT hlt h (s.up hb))) (fun _=>rfl)) arf)<|oc (zD 153 false kJ iiz (fun _=>zA) arf)<|oc (zD 153 false kJ iiz (fun _=>qK (z:=3) (Cs:=qns ca) kJ (fun v W hb h=>(yT hlc h (s.up hb))) (fun _=>rfl)) arf)<|oc (zD 153 false kJ iiz (fun _=>zP .i64 ((ins sb).length:Int) ((qns ca).length:Int) false iiz iiz (by simp only [zVd,l4,l5,l6,l7,l8];simp) rfl) arf)<|oc (yE false iiz (fun e=>by cases e) (fun _ _ _ h=>h))<|oc zA<|oc (zD 160 false kJ iiz (fun _=>zA) arf)<|oc (zD 160 false kJ iiz (fun _=>zA) arf)<|oc (zD 160 false kJ iiz (fun _=>yB zF zTc (fun u0 u1 W hb (h0:u0=lc3) (h1:u1=lc)=>zJs (l:=ca) (yT hlc3 h0 (s.up hb)) (yT hlc h1 (s.up hb)) oQ)) arf)<|oc (zD 160 false kJ iiz (fun _=>zAT true iiz (fun _=>rfl)) arf)<|oc (yE false iiz (fun e=>by cases e) (fun _ _ _ h=>h))<|oc zA<|oc (zD 166 false kJ iiz (fun _=>zA) arf)<|oc (zD 166 false kJ iiz (fun _=>zA) arf)<|oc (zD 166 false kJ iiz (fun _=>yB zF zNJ (fun u0 u1 W hb (h0:u0=ls3) (h1:u1=ls)=>(zC0 (la:=sa) (lb:=sa) (yT hls3 h0 (s.up hb)) (yT hls h1 (s.up hb)) oQ).mono (wG (fun v W h=>by rw [beq_self_eq_true] at h;exact h)))) arf)<|oc (zD 166 false kJ iiz (fun _=>zAT true iiz (fun _=>rfl)) arf)<|oc (yE false iiz (fun e=>by cases e) (fun _ _ _ h=>h))<|oc zA<|oc (zD 172 false kJ iiz (fun _=>zA) arf)<|oc (zD 172 false kJ iiz (fun _=>zA) arf)<|oc (zD 172 false kJ iiz (fun _=>yB zF zNJ (fun u0 u1 W hb (h0:u0=lsd) (h1:u1=ls)=>(zC0 (la:=sa) (lb:=sa) (yT hlsd h0 (s.up hb)) (yT hls h1 (s.up hb)) oQ).mono (wG (fun v W h=>by rw [beq_self_eq_true] at h;exact h)))) arf)<|oc (zD 172 false kJ iiz (fun _=>zAT true iiz (fun _=>rfl)) arf)<|oc (yE false iiz (fun e=>by cases e) (fun _ _ _ h=>h))<|zE) fun a w18 s=> ?_
     refine zB rfl ?_
     have hb:=s.below
     replace hFr:=hFr.trans (hb.mono hFr.size)
     replace hT:=hT.below hb
     replace hlj:=(SF.row 2 (jns js)).st _ _ _ hlj hb
     replace hlf:=(SF.row 3 (rvs 1 fs)).st _ _ _ hlf hb
     replace hlc:=(SF.row 3 (qns ca)).st _ _ _ hlc hb
     replace hls:=(SF.row 1 (ins sa)).st _ _ _ hls hb
     replace hlb:=(SF.row 3 (qns cb)).st _ _ _ hlb hb
     replace hlt:=(SF.row 1 (ins sb)).st _ _ _ hlt hb
     replace hvj:=(SF.row 2 (jns (js.map swJ).reverse)).st _ _ _ hvj hb
     replace hvr:=(SF.row 3 (rvs 1 fs.reverse)).st _ _ _ hvr hb
     replace hvd:=(SF.row 3 (rvs 1 (fs.map twR))).st _ _ _ hvd hb
     replace hlc3:=(SF.row 3 (qns ca)).st _ _ _ hlc3 hb
     replace hls3:=(SF.row 1 (ins sa)).st _ _ _ hls3 hb
     replace hld:=(SF.row 3 (qns cd)).st _ _ _ hld hb
     replace hlsd:=(SF.row 1 (ins sa)).st _ _ _ hlsd hb
     replace s:=s.anewB rfl rfl
     refine StS.cond s false iiz (fun e=>by cases e) (fun e=> ?_)
     refine zVf ?_
     refine zVc ?_
     refine zVc ?_
     refine zC 1 ((26, .u (uI 0)):: []) hmix s kJ
      (oc zG<|zE) fun a w19 s=> ?_
     refine zB rfl ?_
     have hb:=s.below
     replace hFr:=hFr.trans (hb.mono hFr.size)
     replace hT:=hT.below hb
     replace hlj:=(SF.row 2 (jns js)).st _ _ _ hlj hb
     replace hlf:=(SF.row 3 (rvs 1 fs)).st _ _ _ hlf hb
     replace hlc:=(SF.row 3 (qns ca)).st _ _ _ hlc hb
     replace hls:=(SF.row 1 (ins sa)).st _ _ _ hls hb
     replace hlb:=(SF.row 3 (qns cb)).st _ _ _ hlb hb
     replace hlt:=(SF.row 1 (ins sb)).st _ _ _ hlt hb
     replace hvj:=(SF.row 2 (jns (js.map swJ).reverse)).st _ _ _ hvj hb
     replace hvr:=(SF.row 3 (rvs 1 fs.reverse)).st _ _ _ hvr hb
     replace hvd:=(SF.row 3 (rvs 1 (fs.map twR))).st _ _ _ hvd hb
     replace hlc3:=(SF.row 3 (qns ca)).st _ _ _ hlc3 hb
     replace hls3:=(SF.row 1 (ins sa)).st _ _ _ hls3 hb
     replace hld:=(SF.row 3 (qns cd)).st _ _ _ hld hb
     replace hlsd:=(SF.row 1 (ins sa)).st _ _ _ hlsd hb
     replace s:=s.anewB rfl rfl
     refine zVg ?_
     have ghFr:=hFr
     have ghT:=hT
     have ghlj:=hlj
     have ghlf:=hlf
     have ghlc:=hlc
     have ghls:=hls
     have ghlb:=hlb
     have ghlt:=hlt
     have ghvj:=hvj
     have ghvr:=hvr
     have ghvd:=hvd
     have ghlc3:=hlc3
     have ghls3:=hls3
     have ghld:=hld
     have ghlsd:=hlsd
     refine yM (fun (y:Nat) a w=>y<=N/\Below w19.heap.size w19 w/\St w [(26, .u (uI ((y:Nat):Int))),(13, .u (UF.eq lc)),(14, .u (UF.eq ls)),(15, .u (UF.eq lb)),(16, .u (UF.eq lt)),(24, .u (UF.eq ld))] [] f5.ntmps [] a w) (fun y=>N - y) (0:Nat) ⟨zVn _,zVe _ _,s.keepK _ (fmz ⟨.head _,fmz ⟨zK4,fmz ⟨zQB,fmz ⟨zGn,fmz ⟨.tail _ zGn,fmz ⟨mz3,fnz⟩⟩⟩⟩⟩⟩)⟩ fun y a w hx=> ?_
     obtain ⟨hk,hBw,s⟩:=hx
     have hb:=hBw
     replace hFr:=ghFr.trans (hb.mono ghFr.size)
     replace hT:=ghT.below hb
     replace hlj:=(SF.row 2 (jns js)).st _ _ _ ghlj hb
     replace hlf:=(SF.row 3 (rvs 1 fs)).st _ _ _ ghlf hb
     replace hlc:=(SF.row 3 (qns ca)).st _ _ _ ghlc hb
     replace hls:=(SF.row 1 (ins sa)).st _ _ _ ghls hb
     replace hlb:=(SF.row 3 (qns cb)).st _ _ _ ghlb hb
     replace hlt:=(SF.row 1 (ins sb)).st _ _ _ ghlt hb
     replace hvj:=(SF.row 2 (jns (js.map swJ).reverse)).st _ _ _ ghvj hb
     replace hvr:=(SF.row 3 (rvs 1 fs.reverse)).st _ _ _ ghvr hb
     replace hvd:=(SF.row 3 (rvs 1 (fs.map twR))).st _ _ _ ghvd hb
     replace hlc3:=(SF.row 3 (qns ca)).st _ _ _ ghlc3 hb
     replace hls3:=(SF.row 1 (ins sa)).st _ _ _ ghls3 hb
     replace hld:=(SF.row 3 (qns cd)).st _ _ _ ghld hb
     replace hlsd:=(SF.row 1 (ins sa)).st _ _ _ ghlsd hb
     refine zVc ?_
     refine zVc ?_
     refine zC 4 ((178, .Z (uI (y:Int)))::(179, .Z (UF.eq lc))::(180, .Z (uI ((qns ca).length:Int)))::(181, .u (uB (decide ((y:Int)<((qns ca).length:Int))))):: []) hmix s kJ
      (oc zA<|oc zA<|oc (qK (z:=3) (Cs:=qns ca) kJ (fun v W hb h=>(yT hlc h (s.up hb))) (fun _=>rfl))<|oc (zP .i64 (y:Int) ((qns ca).length:Int) (decide ((y:Int)<((qns ca).length:Int))) iiz iiz rfl rfl)<|zE) fun a w20 s=> ?_
     refine zB rfl ?_
     have hb:=s.below
     replace hFr:=hFr.trans (hb.mono hFr.size)
     replace hT:=hT.below hb
     replace hlj:=(SF.row 2 (jns js)).st _ _ _ hlj hb
     replace hlf:=(SF.row 3 (rvs 1 fs)).st _ _ _ hlf hb
     replace hlc:=(SF.row 3 (qns ca)).st _ _ _ hlc hb
     replace hls:=(SF.row 1 (ins sa)).st _ _ _ hls hb
     replace hlb:=(SF.row 3 (qns cb)).st _ _ _ hlb hb
     replace hlt:=(SF.row 1 (ins sb)).st _ _ _ hlt hb
     replace hvj:=(SF.row 2 (jns (js.map swJ).reverse)).st _ _ _ hvj hb
     replace hvr:=(SF.row 3 (rvs 1 fs.reverse)).st _ _ _ hvr hb
     replace hvd:=(SF.row 3 (rvs 1 (fs.map twR))).st _ _ _ hvd hb
     replace hlc3:=(SF.row 3 (qns ca)).st _ _ _ hlc3 hb
     replace hls3:=(SF.row 1 (ins sa)).st _ _ _ hls3 hb
     replace hld:=(SF.row 3 (qns cd)).st _ _ _ hld hb
     replace hlsd:=(SF.row 1 (ins sa)).st _ _ _ hlsd hb
     replace hBw:=hBw.trans (hb.mono hBw.size)
     replace s:=s.anewB rfl rfl
     refine StS.cond s (decide ((y:Int)<((qns ca).length:Int))) iiz (fun e=> ?_) (fun e=> ?_)
     ·have hyN:y<N:=by have h7:=zVh e;simp only [zVd,l4] at h7;omega
      have hyb:y<ca.length/\y<sa.length/\y<cb.length/\y<sb.length/\y<cd.length:=by rw [l4,l5,l6,l7,l8];exact ⟨hyN,hyN,hyN,hyN,hyN⟩
      have hlo:=(hlw y hyN).1
      have hld2:=(hlw y hyN).2
      have hqs:QB (ca.getD y 0+ca.getD y 0) 1:=by rw [<-hld2];exact hqd _ hyN
      refine zVf ?_
      refine zVc ?_
      refine zVg ?_
      refine zVc ?_
      refine zC 42 ((184, .Z (UF.eq ls))::(185, .Z (uI (y:Int)))::(186, .s (wC (wB [.int .i64 (sa.getD y 0)]).cf))::(187, .Z (uI (sa.getD y 0)))::(188, .Z (uB (decide ((sa.getD y 0)≥0))))::(189, .Z (uB (decide ((sa.getD y 0)≥0))))::(190, .s (SF.imp ((decide ((sa.getD y 0)≥0))=true) ((UF.eq lt).tS)))::(191, .s (SF.imp ((decide ((sa.getD y 0)≥0))=true) ((uI (y:Int)).tS)))::(192, .s (SF.imp ((decide ((sa.getD y 0)≥0))=true) (wC (wB [.int .i64 (sb.getD y 0)]).cf)))::(193, .s (SF.imp ((decide ((sa.getD y 0)≥0))=true) ((uI (sb.getD y 0)).tS)))::(194, .s (SF.imp ((decide ((sa.getD y 0)≥0))=true) ((uB false).tS)))::(195, .Z (UF.eq (if (decide ((sa.getD y 0)≥0))=true then .bool false else undef)))::(196, .s (SF.imp ((decide ((sa.getD y 0)≥0))=true) ((UF.eq lb).tS)))::(197, .s (SF.imp ((decide ((sa.getD y 0)≥0))=true) ((uI (y:Int)).tS)))::(198, .s (SF.imp ((decide ((sa.getD y 0)≥0))=true) (wC (cg (fQN (cb.getD y 0))))))::(199, .s (SF.imp ((decide ((sa.getD y 0)≥0))=true) ((fQN (cb.getD y 0)).tS)))::(200, .s (SF.imp ((decide ((sa.getD y 0)≥0))=true) ((UF.eq lc).tS)))::(201, .s (SF.imp ((decide ((sa.getD y 0)≥0))=true) ((uI (y:Int)).tS)))::(202, .s (SF.imp ((decide ((sa.getD y 0)≥0))=true) (wC (cg (fQN (ca.getD y 0))))))::(203, .s (SF.imp ((decide ((sa.getD y 0)≥0))=true) ((fQN (ca.getD y 0)).tS)))::(204, .s (SF.imp ((decide ((sa.getD y 0)≥0))=true) ((uI (qsg (cb.getD y 0) (ca.getD y 0))).tS)))::(205, .s (SF.imp ((decide ((sa.getD y 0)≥0))=true) ((uB false).tS)))::(206, .s (SF.imp ((decide ((sa.getD y 0)≥0))=true) ((uB false).tS)))::(207, .Z (uB false))::(208, .Z (uB false))::(209, .Z (UF.eq ld))::(210, .Z (uI (y:Int)))::(211, .Y (fQN (cd.getD y 0)))::(212, .Z (fQN (cd.getD y 0)))::(213, .Z (UF.eq lc))::(214, .Z (uI (y:Int)))::(215, .Y (fQN (ca.getD y 0)))::(216, .Z (fQN (ca.getD y 0)))::(217, .Z (UF.eq lc))::(218, .Z (uI (y:Int)))::(219, .Y (fQN (ca.getD y 0)))::(220, .Z (fQN (ca.getD y 0)))::(221, .s (SF.row 3 (rvs 1 [(ca.getD y 0),(ca.getD y 0)])))::(222, .Z (fQN ((ca.getD y 0)+(ca.getD y 0))))::(223, .Z (uB true))::(224, .Z (uB false))::(225, .u (uB false)):: []) hmix s kJ
       (oc zA<|oc zA<|oc (zT (z:=1) (Cs:=ins sa) (i:=y) (C:=wB [.int .i64 (sa.getD y 0)]) kJ (zAY hyb.2.1) (fun v W hb h=>(yT hls h (s.up hb))) iiz)<|oc (yR (C:=(wB [.int .i64 (sa.getD y 0)]).cf) kJ iiz jF)<|oc (zP .i64 (sa.getD y 0) 0 (decide ((sa.getD y 0)≥0)) iiz iiz rfl rfl)<|oc zA<|oc (zD 189 (decide ((sa.getD y 0)≥0)) kJ iiz (fun e=>zL [] ((UF.eq lt).tS) fnz (fun _ _ h _=>h) kJ zA) (fun e W h=>absurd h e))<|oc (zD 189 (decide ((sa.getD y 0)≥0)) kJ iiz (fun e=>zL [] ((uI (y:Int)).tS) fnz (fun _ _ h _=>h) kJ zA) (fun e W h=>absurd h e))<|oc (zD 189 (decide ((sa.getD y 0)≥0)) kJ iiz (fun e=>zL [(190,(UF.eq lt).tS),(191,(uI (y:Int)).tS)] (wC (wB [.int .i64 (sb.getD y 0)]).cf) (fmz ⟨fun v W h=>zI (c:=(decide ((sa.getD y 0)≥0))=true) (f:=(UF.eq lt).tS) e h,fmz ⟨fun v W h=>zI (c:=(decide ((sa.getD y 0)≥0))=true) (f:=(uI (y:Int)).tS) e h,fnz⟩⟩) (fun _ _ h _=>h) kJ (zT (z:=1) (Cs:=ins sb) (i:=y) (C:=wB [.int .i64 (sb.getD y 0)]) kJ (zAY hyb.2.2.2.1) (fun v W hb h=>(yT hlt h (s.up hb))) iiz)) (fun e W h=>absurd h e))<|oc (zD 189 (decide ((sa.getD y 0)≥0)) kJ iiz (fun e=>zL [(192,wC (wB [.int .i64 (sb.getD y 0)]).cf)] ((uI (sb.getD y 0)).tS) (fmz ⟨fun v W h=>zI (c:=(decide ((sa.getD y 0)≥0))=true) (f:=wC (wB [.int .i64 (sb.getD y 0)]).cf) e h,fnz⟩) (fun _ _ h _=>h) kJ (yR (C:=(wB [.int .i64 (sb.getD y 0)]).cf) kJ iiz jF)) (fun e W h=>absurd h e))<|oc (zD 189 (decide ((sa.getD y 0)≥0)) kJ iiz (fun e=>zL [(193,(uI (sb.getD y 0)).tS)] ((uB false).tS) (fmz ⟨fun v W h=>zI (c:=(decide ((sa.getD y 0)≥0))=true) (f:=(uI (sb.getD y 0)).tS) e h,fnz⟩) (fun _ _ h _=>h) kJ (zP .i64 (sb.getD y 0) 0 false iiz iiz (decide_eq_false (by have h7:=(hlo (zVh e)).1;omega)) rfl)) (fun e W h=>absurd h e))<|oc (zD 189 (decide ((sa.getD y 0)≥0)) kJ iiz (fun e=>zL [(194,(uB false).tS)] ((uB false).tS) (fmz ⟨fun v W h=>zI (c:=(decide ((sa.getD y 0)≥0))=true) (f:=(uB false).tS) e h,fnz⟩) (fun _ _ h=>h.trans (if_pos e).symm) kJ zA) (fun e W=>(if_neg e).symm))<|oc (zAn 195 ((decide ((sa.getD y 0)≥0))=true) kJ iiz (fun e=>zL [] ((UF.eq lb).tS) fnz (fun _ _ h _=>h) kJ zA) (fun e W h=>absurd h e))<|oc (zAn 195 ((decide ((sa.getD y 0)≥0))=true) kJ iiz (fun e=>zL [] ((uI (y:Int)).tS) fnz (fun _ _ h _=>h) kJ zA) (fun e W h=>absurd h e))<|oc (zAn 195 ((decide ((sa.getD y 0)≥0))=true) kJ iiz (fun e=>zL [(196,(UF.eq lb).tS),(197,(uI (y:Int)).tS)] (wC (cg (fQN (cb.getD y 0)))) (fmz ⟨fun v W h=>zI (c:=(decide ((sa.getD y 0)≥0))=true) (f:=(UF.eq lb).tS) e h,fmz ⟨fun v W h=>zI (c:=(decide ((sa.getD y 0)≥0))=true) (f:=(uI (y:Int)).tS) e h,fnz⟩⟩) (fun _ _ h _=>h) kJ (zT (z:=3) (Cs:=qns cb) (i:=y) (C:=CU.agg (fQN (cb.getD y 0))) kJ (zBE hyb.2.2.1) (fun v W hb h=>(yT hlb h (s.up hb))) iiz)) (fun e W h=>absurd h e))<|oc (zAn 195 ((decide ((sa.getD y 0)≥0))=true) kJ iiz (fun e=>zL [(198,wC (cg (fQN (cb.getD y 0))))] ((fQN (cb.getD y 0)).tS) (fmz ⟨fun v W h=>zI (c:=(decide ((sa.getD y 0)≥0))=true) (f:=wC (cg (fQN (cb.getD y 0)))) e h,fnz⟩) (fun _ _ h _=>h) kJ (yP (f:=fQN (cb.getD y 0)) 3 kJ (hz:=jH _))) (fun e W h=>absurd h e))<|oc (zAn 195 ((decide ((sa.getD y 0)≥0))=true) kJ iiz (fun e=>zL [] ((UF.eq lc).tS) fnz (fun _ _ h _=>h) kJ zA) (fun e W h=>absurd h e))<|oc (zAn 195 ((decide ((sa.getD y 0)≥0))=true) kJ iiz (fun e=>zL [] ((uI (y:Int)).tS) fnz (fun _ _ h _=>h) kJ zA) (fun e W h=>absurd h e))<|oc (zAn 195 ((decide ((sa.getD y 0)≥0))=true) kJ iiz (fun e=>zL [(200,(UF.eq lc).tS),(201,(uI (y:Int)).tS)] (wC (cg (fQN (ca.getD y 0)))) (fmz ⟨fun v W h=>zI (c:=(decide ((sa.getD y 0)≥0))=true) (f:=(UF.eq lc).tS) e h,fmz ⟨fun v W h=>zI (c:=(decide ((sa.getD y 0)≥0))=true) (f:=(uI (y:Int)).tS) e h,fnz⟩⟩) (fun _ _ h _=>h) kJ (zT (z:=3) (Cs:=qns ca) (i:=y) (C:=CU.agg (fQN (ca.getD y 0))) kJ (zBE hyb.1) (fun v W hb h=>(yT hlc h (s.up hb))) iiz)) (fun e W h=>absurd h e))<|oc (zAn 195 ((decide ((sa.getD y 0)≥0))=true) kJ iiz (fun e=>zL [(202,wC (cg (fQN (ca.getD y 0))))] ((fQN (ca.getD y 0)).tS) (fmz ⟨fun v W h=>zI (c:=(decide ((sa.getD y 0)≥0))=true) (f:=wC (cg (fQN (ca.getD y 0)))) e h,fnz⟩) (fun _ _ h _=>h) kJ (yP (f:=fQN (ca.getD y 0)) 3 kJ (hz:=jH _))) (fun e W h=>absurd h e))<|oc (zAn 195 ((decide ((sa.getD y 0)≥0))=true) kJ iiz (fun e=>zL [(199,(fQN (cb.getD y 0)).tS),(203,(fQN (ca.getD y 0)).tS)] ((uI (qsg (cb.getD y 0) (ca.getD y 0))).tS) (fmz ⟨fun v W h=>zI (c:=(decide ((sa.getD y 0)≥0))=true) (f:=(fQN (cb.getD y 0)).tS) e h,fmz ⟨fun v W h=>zI (c:=(decide ((sa.getD y 0)≥0))=true) (f:=(fQN (ca.getD y 0)).tS) e h,fnz⟩⟩) (fun _ _ h _=>h) kJ (yB zF zRG (fun u0 u1 W hb (h0:QNp (cb.getD y 0) u0 W) (h1:QNp (ca.getD y 0) u1 W)=>zKF (m:=1) (p:=(cb.getD y 0)) (q:=(ca.getD y 0)) (wJ h0 (hqb _ hyN)) (wJ h1 (hqa _ hyN)) dC dC))) (fun e W h=>absurd h e))<|oc (zAn 195 ((decide ((sa.getD y 0)≥0))=true) kJ iiz (fun e=>zL [(204,(uI (qsg (cb.getD y 0) (ca.getD y 0))).tS)] ((uB false).tS) (fmz ⟨fun v W h=>zI (c:=(decide ((sa.getD y 0)≥0))=true) (f:=(uI (qsg (cb.getD y 0) (ca.getD y 0))).tS) e h,fnz⟩) (fun _ _ h _=>h) kJ (zP .i64 (qsg (cb.getD y 0) (ca.getD y 0)) 0 false iiz iiz (zPI (hlo (zVh e)).2) rfl)) (fun e W h=>absurd h e))<|oc (zD 189 (decide ((sa.getD y 0)≥0)) kJ iiz (fun e=>zL [(195,(uB false).tS),(205,(uB false).tS)] ((uB false).tS) (fmz ⟨fun v W h=>h.trans (if_pos e),fmz ⟨fun v W h=>zI (c:=(decide ((sa.getD y 0)≥0))=true) (f:=(uB false).tS) e h,fnz⟩⟩) (fun _ _ h _=>h) kJ (yE false iiz (fun e=>by cases e) (fun _ _ _ h=>h))) (fun e W h=>absurd h e))<|oc (yE (decide ((sa.getD y 0)≥0)) iiz (fun e v W h=>zI e h) (fun e v W h=>h))<|oc zA<|oc (zD 208 false kJ iiz (fun _=>zA) arf)<|oc (zD 208 false kJ iiz (fun _=>zA) arf)<|oc (zD 208 false kJ iiz (fun _=>zT (z:=3) (Cs:=qns cd) (i:=y) (C:=CU.agg (fQN (cd.getD y 0))) kJ (zBE hyb.2.2.2.2) (fun v W hb h=>(yT hld h (s.up hb))) iiz) arf)<|oc (zD 208 false kJ iiz (fun _=>yP (f:=fQN (cd.getD y 0)) 3 kJ (hz:=jH _)) arf)<|oc (zD 208 false kJ iiz (fun _=>zA) arf)<|oc (zD 208 false kJ iiz (fun _=>zA) arf)<|oc (zD 208 false kJ iiz (fun _=>zT (z:=3) (Cs:=qns ca) (i:=y) (C:=CU.agg (fQN (ca.getD y 0))) kJ (zBE hyb.1) (fun v W hb h=>(yT hlc h (s.up hb))) iiz) arf)<|oc (zD 208 false kJ iiz (fun _=>yP (f:=fQN (ca.getD y 0)) 3 kJ (hz:=jH _)) arf)<|oc (zD 208 false kJ iiz (fun _=>zA) arf)<|oc (zD 208 false kJ iiz (fun _=>zA) arf)<|oc (zD 208 false kJ iiz (fun _=>zT (z:=3) (Cs:=qns ca) (i:=y) (C:=CU.agg (fQN (ca.getD y 0))) kJ (zBE hyb.1) (fun v W hb h=>(yT hlc h (s.up hb))) iiz) arf)<|oc (zD 208 false kJ iiz (fun _=>yP (f:=fQN (ca.getD y 0)) 3 kJ (hz:=jH _)) arf)<|oc (zD 208 false kJ iiz (fun _=>qD (fun u v W (hu:QNp (ca.getD y 0) u W) (hv:QNp (ca.getD y 0) v W)=>zOd (m:=1) (wJ hu (hqa _ hyN)) (wJ hv (hqa _ hyN)))) arf)<|oc (zD 208 false kJ iiz (fun _=>zM zF zRF (fun u0 W hb (h0:(SF.row 3 (rvs 1 [(ca.getD y 0),(ca.getD y 0)])).p u0 W)=>zIA (m:=1) (p:=(ca.getD y 0)) (q:=(ca.getD y 0)) h0 (hqa _ hyN) (hqa _ hyN) dC)) arf)<|oc (zD 208 false kJ iiz (fun _=>yB zF zRH (fun u0 u1 W hb (h0:QNp (cd.getD y 0) u0 W) (h1:QNp ((ca.getD y 0)+(ca.getD y 0)) u1 W)=>(zIy (m:=1) (p:=(cd.getD y 0)) (q:=((ca.getD y 0)+(ca.getD y 0))) (wJ h0 (hqd _ hyN)) (wJ h1 hqs) dC dC).mono (wG (fun v W h=>by rw [hld2,zM3] at h;exact h)))) arf)<|oc (zD 208 false kJ iiz (fun _=>zAT true iiz (fun _=>rfl)) arf)<|oc (yE false iiz (fun e=>by cases e) (fun _ _ _ h=>h))<|zE) fun a w21 s=> ?_
      refine zB rfl ?_
      have hb:=s.below
      replace hFr:=hFr.trans (hb.mono hFr.size)
      replace hT:=hT.below hb
      replace hlj:=(SF.row 2 (jns js)).st _ _ _ hlj hb
      replace hlf:=(SF.row 3 (rvs 1 fs)).st _ _ _ hlf hb
      replace hlc:=(SF.row 3 (qns ca)).st _ _ _ hlc hb
      replace hls:=(SF.row 1 (ins sa)).st _ _ _ hls hb
      replace hlb:=(SF.row 3 (qns cb)).st _ _ _ hlb hb
      replace hlt:=(SF.row 1 (ins sb)).st _ _ _ hlt hb
      replace hvj:=(SF.row 2 (jns (js.map swJ).reverse)).st _ _ _ hvj hb
      replace hvr:=(SF.row 3 (rvs 1 fs.reverse)).st _ _ _ hvr hb
      replace hvd:=(SF.row 3 (rvs 1 (fs.map twR))).st _ _ _ hvd hb
      replace hlc3:=(SF.row 3 (qns ca)).st _ _ _ hlc3 hb
      replace hls3:=(SF.row 1 (ins sa)).st _ _ _ hls3 hb
      replace hld:=(SF.row 3 (qns cd)).st _ _ _ hld hb
      replace hlsd:=(SF.row 1 (ins sa)).st _ _ _ hlsd hb
      replace hBw:=hBw.trans (hb.mono hBw.size)
      replace s:=s.anewB rfl rfl
      refine StS.cond s false iiz (fun e=>by cases e) (fun e=> ?_)
      refine zVf ?_
      refine yI 2 ((182, .Z (uI (y:Int)))::(183, .u (uI ((y+1:Nat):Int))):: []) s kJ
       (oc zA<|oc (qX .i64 (y:Int) 1 ((y+1:Nat):Int) iiz iiz (wrap64 _ _ oQ oQ))<|zE) fun a w22 s=> ?_
      replace s:=s.drop [26]
      refine qN (uI ((y+1:Nat):Int)) rfl s kJ iiz fun a w s=> ?_
      refine zB rfl ?_
      have hb:=s.below
      replace hFr:=hFr.trans (hb.mono hFr.size)
      replace hT:=hT.below hb
      replace hlj:=(SF.row 2 (jns js)).st _ _ _ hlj hb
      replace hlf:=(SF.row 3 (rvs 1 fs)).st _ _ _ hlf hb
      replace hlc:=(SF.row 3 (qns ca)).st _ _ _ hlc hb
      replace hls:=(SF.row 1 (ins sa)).st _ _ _ hls hb
      replace hlb:=(SF.row 3 (qns cb)).st _ _ _ hlb hb
      replace hlt:=(SF.row 1 (ins sb)).st _ _ _ hlt hb
      replace hvj:=(SF.row 2 (jns (js.map swJ).reverse)).st _ _ _ hvj hb
      replace hvr:=(SF.row 3 (rvs 1 fs.reverse)).st _ _ _ hvr hb
      replace hvd:=(SF.row 3 (rvs 1 (fs.map twR))).st _ _ _ hvd hb
      replace hlc3:=(SF.row 3 (qns ca)).st _ _ _ hlc3 hb
      replace hls3:=(SF.row 1 (ins sa)).st _ _ _ hls3 hb
      replace hld:=(SF.row 3 (qns cd)).st _ _ _ hld hb
      replace hlsd:=(SF.row 1 (ins sa)).st _ _ _ hlsd hb
      replace hBw:=hBw.trans (hb.mono hBw.size)
      replace s:=s.anewB rfl rfl
      exact ⟨y+1,(by show N - (y+1)<N - y;omega),hyN,hBw,s.keepK _ (fmz ⟨.head _,fmz ⟨mz4,fmz ⟨mz5,fmz ⟨mz6,fmz ⟨mz7,fmz ⟨mz8,fnz⟩⟩⟩⟩⟩⟩)⟩
     ·refine zVl ?_
      refine zVc ?_
      refine zC 2 ((226, .Z (uB true))::(12, .u (uB true)):: []) hmix s kJ
       (oc (zIN zF zTA (fun W hb=>zJV (hT.below (s.up hb))))<|oc zG<|zE) fun a w23 s=> ?_
      refine zB rfl ?_
      have hb:=s.below
      replace hFr:=hFr.trans (hb.mono hFr.size)
      replace hT:=hT.below hb
      replace hlj:=(SF.row 2 (jns js)).st _ _ _ hlj hb
      replace hlf:=(SF.row 3 (rvs 1 fs)).st _ _ _ hlf hb
      replace hlc:=(SF.row 3 (qns ca)).st _ _ _ hlc hb
      replace hls:=(SF.row 1 (ins sa)).st _ _ _ hls hb
      replace hlb:=(SF.row 3 (qns cb)).st _ _ _ hlb hb
      replace hlt:=(SF.row 1 (ins sb)).st _ _ _ hlt hb
      replace hvj:=(SF.row 2 (jns (js.map swJ).reverse)).st _ _ _ hvj hb
      replace hvr:=(SF.row 3 (rvs 1 fs.reverse)).st _ _ _ hvr hb
      replace hvd:=(SF.row 3 (rvs 1 (fs.map twR))).st _ _ _ hvd hb
      replace hlc3:=(SF.row 3 (qns ca)).st _ _ _ hlc3 hb
      replace hls3:=(SF.row 1 (ins sa)).st _ _ _ hls3 hb
      replace hld:=(SF.row 3 (qns cd)).st _ _ _ hld hb
      replace hlsd:=(SF.row 1 (ins sa)).st _ _ _ hlsd hb
      replace hBw:=hBw.trans (hb.mono hBw.size)
      replace s:=s.anewB rfl rfl
      refine zVk ?_
      exact wZ s hFr rfl iiz
end Go.Proofs.Wd
