/- Walks of package ears: Ear; Walks of straitref09: Side, Turns; of stra and what it needs. -/
import Derived.Test.YtihcepanbejfpaaGreatDoorMEU21
namespace Go.Proofs.Wd
open Tryz
variable {ps row row0:List V2}{b base c cap d f g i k m n n0 z:Nat}{W w w' w0:WB}{l u v v':WE}{L:List PX}{x:PX}{p:Nat->Bool}{t:V6}{e e' ty:WF}{pos:String}{aft:Array Edge}{acc:List V6}{Cs:List CU}{y:Operand}
set_option maxRecDepth 100000
set_option maxHeartbeats 4000000
open Go.RowKit Lb
def isK(ps:List V2)(i k:Nat):Bool:=(zBi (zAL ps i)==1)&&(List.range k).all (zR8 ps i)
theorem zXl(ps:List V2)(i:Nat):isK ps i 0=(zBi (zAL ps i)==1):=by unfold isK;simp
theorem zHM(ps:List V2)(i k:Nat):isK ps i (k+1)=(isK ps i k&&zR8 ps i k):=by
 unfold isK
 rw[cS,mA,Bool.and_assoc]
 simp
theorem zOi(ps:List V2)(i:Nat):isK ps i ps.length=zLq ps i:=rfl
theorem zVG(h:isK ps i k=false)(I:k<=ps.length):zLq ps i=false:=by
 rw[<-zOi]
 obtain⟨d,e⟩:∃d,ps.length=k+d:=⟨ps.length-k,by omega⟩
 rw[e]
 clear e I
 induction d with
 |zero=>exact h
 |succ d ih=>rw[show k+(d+1)=k+d+1 by omega,zHM,ih];rfl
theorem zEH(a b:Nat):((a:Int)==(b:Int))=decide (a=b):=by
 by_cases h:a=b
 .subst h;simp
 .have:(a:Int)≠(b:Int):=by omega
  rw[xY h]
  exact nJ.2 this
theorem zQM(e:((((k:Int)==(i:Int))||((k:Int)==((zCw ps i:Nat):Int)))||((k:Int)==((zDT ps i:Nat):Int)))=true):isK ps i (k+1)=isK ps i k:=by
 rw[zEH,zEH,zEH]at e
 rw[zHM]
 have:zR8 ps i k=true:=by unfold zR8;rw[e];rfl
 rw[this,Bool.and_true]
theorem zQN(h:(!(isK ps i k))=false)(e:((((k:Int)==(i:Int))||((k:Int)==((zCw ps i:Nat):Int)))||((k:Int)==((zDT ps i:Nat):Int)))=false):isK ps i (k+1)=decide (zMf (zAL ps i) (at_ ps k)<0):=by
 rw[zEH,zEH,zEH]at e
 rw[zHM]
 have I:isK ps i k=true:=by simpa using h
 rw[I,Bool.true_and]
 unfold zR8
 rw[e,cR]
theorem zR6(I:(SF.row 6 (pvs m ps)).p l W)(hu:u=.int .i64 (i:Int))(hi:i<ps.length)(h3:3<=ps.length)(hn:ps.length<=1000000)(hm:m<=159)(J:0<m)(hT:Tab W):Calls prog 33 #[l,u] W (Ret W (fB (zLq ps i)).tS):=by
 have ha:zCw ps i<ps.length:=vW _ oA
 have h4:zDT ps i<ps.length:=vW _ oA
 refine z5 [(UF.eq l).tS,(uI (i:Int)).tS] func33 rfl kA ⟨rfl,hu,trivial⟩ fun a s=>?_
 replace s:=s.renew [(0,.u (UF.eq l)),(1,.u (uI (i:Int)))] (fmz ⟨.inr ⟨_,rfl,.head _⟩,fmz ⟨.inr ⟨_,rfl,mz1⟩,fnz⟩⟩)
 refine rgQ ((4,.u (uB false))::[]) s
  (oc zE<|zB) fun a w1 s=>(bL (n:=0)).2 (wp_scope_straight ((bL (n:=0)).1 ?_))
 refine lQ<|rgQ ((11,.Z (UF.eq l))::(12,.Z (uI ((pvs m ps).length:Int)))::(13,.Z (uB false))::(14,.Z (uB false))::(15,.Z (uI (i:Int)))::(16,.Z (uB false))::(17,.Z (uB false))::(18,.Z (uB false))::(19,.Z (uI (i:Int)))::(20,.Z (UF.eq l))::(21,.Z (uI ((pvs m ps).length:Int)))::(22,.Z (uB false))::(23,.u (uB false))::[]) s
  (oc zA<|oc (zY (z:=6) (Cs:=pvs m ps) kA (fun v W hb h=>(zU I h (s.up hb))) (fun _=>rfl))<|oc (zM .i64 ((pvs m ps).length:Int) 3 false iiz iiz (xY (by simp only[bC];omega)) rfl)<|oc zA<|oc (zF 14 false kA iiz (fun _=>zA) arf)<|oc (zF 14 false kA iiz (fun _=>zM .i64 (i:Int) 0 false iiz iiz (xY oA) rfl) arf)<|oc (yS false iiz (fun e=>by cases e) fD)<|oc zA<|oc (zF 18 false kA iiz (fun _=>zA) arf)<|oc (zF 18 false kA iiz (fun _=>zA) arf)<|oc (zF 18 false kA iiz (fun _=>zY (z:=6) (Cs:=pvs m ps) kA (fun v W hb h=>(zU I h (s.up hb))) (fun _=>rfl)) arf)<|oc (zF 18 false kA iiz (fun _=>zM .i64 (i:Int) ((pvs m ps).length:Int) false iiz iiz (xY (by simp only[bC];omega)) rfl) arf)<|oc (yS false iiz (fun e=>by cases e) fD)<|zB) fun a w2 s=>StS.cond s false iiz (fun e=>by cases e) (fun e=>?_)
 refine pV<|rgQ ((24,.Z (uI (i:Int)))::(25,.Z (UF.eq l))::(26,.Z (uI ((pvs m ps).length:Int)))::(27,.Z (uI ((i+ps.length:Nat):Int)))::(28,.Z (uI ((i+ps.length-1:Nat):Int)))::(29,.Z (UF.eq l))::(30,.Z (uI ((pvs m ps).length:Int)))::(31,.Z (uI ((zCw ps i:Nat):Int)))::(32,.Z (uI (i:Int)))::(33,.Z (uI ((i+1:Nat):Int)))::(34,.Z (UF.eq l))::(35,.Z (uI ((pvs m ps).length:Int)))::(36,.Z (uI ((zDT ps i:Nat):Int)))::(5,.u (uI ((zCw ps i:Nat):Int)))::(6,.u (uI ((zDT ps i:Nat):Int)))::[]) s
  (oc zA<|oc zA<|oc (zY (z:=6) (Cs:=pvs m ps) kA (fun v W hb h=>(zU I h (s.up hb))) (fun _=>rfl))<|oc (yI .i64 (i:Int) ((pvs m ps).length:Int) ((i+ps.length:Nat):Int) iiz iiz (by simp only[bC];exact wrap64 _ _ oA oA))<|oc (zCF .i64 ((i+ps.length:Nat):Int) 1 ((i+ps.length-1:Nat):Int) iiz iiz (wrap64 _ _ oA oA))<|oc zA<|oc (zY (z:=6) (Cs:=pvs m ps) kA (fun v W hb h=>(zU I h (s.up hb))) (fun _=>rfl))<|oc (zBb .i64 ((i+ps.length-1:Nat):Int) ((pvs m ps).length:Int) ((zCw ps i:Nat):Int) iiz iiz (by simp only[bC];omega) (by simp only[bC];exact zBY _ _))<|oc zA<|oc (yI .i64 (i:Int) 1 ((i+1:Nat):Int) iiz iiz (wrap64 _ _ oA oA))<|oc zA<|oc (zY (z:=6) (Cs:=pvs m ps) kA (fun v W hb h=>(zU I h (s.up hb))) (fun _=>rfl))<|oc (zBb .i64 ((i+1:Nat):Int) ((pvs m ps).length:Int) ((zDT ps i:Nat):Int) iiz iiz (by simp only[bC];omega) (by simp only[bC];exact zBY _ _))<|oc zE<|oc zE<|zB) fun a w3 s=>lQ ?_
 have so:=s.old;have sg:=s.gr
 refine zBr (fun i=> [].contains i) [⟨13,7,38, [.bool false, sN, sN,.bool false, sN, sN,.bool false, sN, sN,.bool false, sN, sN,.bool false, sN, sN,.bool false, sN, sN],wK w3 38 (CU.len 18)⟩] 14 ((37,.Z (UF.eq l))::(38,.Z (uI ((zCw ps i:Nat):Int)))::(39,.Y (fPV m (at_ ps (zCw ps i))))::(40,.Z (fPV m (at_ ps (zCw ps i))))::(41,.Z (UF.eq l))::(42,.Z (uI ((i:Nat):Int)))::(43,.Y (fPV m (at_ ps i)))::(44,.Z (fPV m (at_ ps i)))::(45,.Z (UF.eq l))::(46,.Z (uI ((zDT ps i:Nat):Int)))::(47,.Y (fPV m (at_ ps (zDT ps i))))::(48,.Z (fPV m (at_ ps (zDT ps i))))::(49,.u (fTR m (zAL ps i)))::(7,.s (wK w3 38 (CU.len 18)))::[]) hmix s (fmz ⟨⟨by show 13<14;decide,zVx,⟨_,_,_,rfl⟩,by kernel_rfl,zBH (fun _=>rfl) rfl⟩,fnz⟩) kA
  (oc zA<|oc zA<|oc (zQ (z:=6) (Cs:=pvs m ps) (i:=(zCw ps i)) (C:=CU.agg (fPV m (at_ ps (zCw ps i)))) kA (qI ha) (fun v W hb h=>(zU I h (s.up hb))) iiz)<|oc (zH (f:=fPV m (at_ ps (zCw ps i))) 6 kA (hz:=zL _ _))<|oc zA<|oc zA<|oc (zQ (z:=6) (Cs:=pvs m ps) (i:=i) (C:=CU.agg (fPV m (at_ ps i))) kA (qI hi) (fun v W hb h=>(zU I h (s.up hb))) iiz)<|oc (zH (f:=fPV m (at_ ps i)) 6 kA (hz:=zL _ _))<|oc zA<|oc zA<|oc (zQ (z:=6) (Cs:=pvs m ps) (i:=(zDT ps i)) (C:=CU.agg (fPV m (at_ ps (zDT ps i)))) kA (qI h4) (fun v W hb h=>(zU I h (s.up hb))) iiz)<|oc (zH (f:=fPV m (at_ ps (zDT ps i))) 6 kA (hz:=zL _ _))<|oc (zAQ (fun u v q W (hu:(fPV m (at_ ps (zCw ps i))).p u W) (hv:(fPV m (at_ ps i)).p v W) (hq:(fPV m (at_ ps (zDT ps i))).p q W)=>zYV (t:=(zAL ps i)) hu hv hq))<|oc (zCH (cs:=[.bool false, sN, sN,.bool false, sN, sN,.bool false, sN, sN,.bool false, sN, sN,.bool false, sN, sN,.bool false, sN, sN]) kA (zBH (fun _=>rfl) rfl))<|zB) fun Q' hQ a w4 s hr hd=>?_
 obtain⟨b7,hB7,e7,s⟩:=s.adoptA false 7 (hr (_,_) zVx) sg (fun y hy=>.inl (so y hy))
 refine zR (CU.agg (fTR m (zAL ps i))) ((fTR m (zAL ps i)).tS) rfl s kA rfl rfl rfl iiz iiz zKh fun a w s=>zD rfl (hQ _ _ ?_)
 refine rgQ ((50,.Z (fTR m (zAL ps i)))::(51,.Z (uI (zBi (zAL ps i))))::(52,.Z (uB (isK ps i 0)))::(8,.u (uB (isK ps i 0)))::[]) s
  (oc (zH (f:=fTR m (zAL ps i)) 18 kA (hz:=zKk _ _))<|oc (zG zC zT9 (fun u0 W hb (h0:(fTR m (zAL ps i)).p u0 W)=>zHZ h0 hm J (hT.below (s.up hb))))<|oc (zM .i64 (zBi (zAL ps i)) 1 (isK ps i 0) iiz iiz (by rw[zXl]) rfl)<|oc zE<|zB) fun a w5 s=>lQ<|wpIn_label<|lQ<|rgQ ((53,.u (UF.eq l))::(54,.u (uI ((pvs m ps).length:Int)))::(55,.u (uI 0))::[]) s
  (oc zA<|oc (zY (z:=6) (Cs:=pvs m ps) kA (fun v W hb h=>(zU I h (s.up hb))) (fun _=>rfl))<|oc zA<|zB) fun a w6 s=>tQ<|zAg (fun k=>k<=ps.length) (fun k=> [(0,.u (UF.eq l)),(1,.u (uI (i:Int))),(5,.u (uI ((zCw ps i:Nat):Int))),(6,.u (uI ((zDT ps i:Nat):Int))),(53,.u (UF.eq l)),(54,.u (uI ((pvs m ps).length:Int))),(8,.u (uB (isK ps i k))),(55,.u (uI ((k:Nat):Int)))]) (fun k=>ps.length-k) (0:Nat) (vR _) (s.keepK _ (fmz ⟨mz9,fmz ⟨zMe,fmz ⟨mz5,fmz ⟨mz6,fmz ⟨.head _,fmz ⟨mz1,fmz ⟨mz3,fmz ⟨mz2,fnz⟩⟩⟩⟩⟩⟩⟩⟩)) fun k a w hx s=>?_
 have O:(pvs m ps).length=ps.length:=by simp
 refine rgQ ((56,.u (uB (ltz k ((pvs m ps).length))))::[]) s
  (oc (zM .i64 (k:Int) ((pvs m ps).length:Int) (ltz k ((pvs m ps).length)) iiz iiz rfl rfl)<|zB) fun a w7 s=>lQ<|StS.cond s (ltz k ((pvs m ps).length)) iiz (fun e=>?_) (fun e=>?_)
 .have hk:k<ps.length:=by have:=xW e;rw[O]at this;omega
  refine pV<|lQ<|tQ<|lQ<|rgK 3 ((57,.u (uI (k:Int)))::(58,.Y (fPV m (at_ ps k)))::(59,.u (fPV m (at_ ps k)))::[]) s
   (oc zA<|oc (zQ (z:=6) (Cs:=pvs m ps) (i:=k) (C:=CU.agg (fPV m (at_ ps k))) kA (qI hk) (fun v W hb h=>(zU I h (s.up hb))) iiz)<|oc (zH (f:=fPV m (at_ ps k)) 6 kA (hz:=zL _ _))<|zB) fun a w8 s=>z9 (CU.len 6) (cs:=zP6) kA rfl s kA (fun W=>rfl) rfl fun b10 a w s=>yO (uI (k:Int)) rfl s kA iiz fun a w s=>zR (CU.agg (fPV m (at_ ps k))) ((fPV m (at_ ps k)).tS) rfl s kA rfl rfl rfl iiz iiz y7 fun a w s=>zD rfl<|lQ<|tQ<|rgQ ((61,.Z (uB (isK ps i k)))::(62,.Z (uB (!(isK ps i k))))::(60,.u (uB (!(isK ps i k))))::[]) s
   (oc zA<|oc (zDB (isK ps i k) iiz (fun _=>rfl))<|oc zE<|zB) fun a w9 s=>StS.cond s (!(isK ps i k)) iiz (fun e=>?_) (fun e=>?_)
  .have eN:isK ps i k=false:=by simpa using e
   exact tR<|rgQ ((82,.Z (uB (isK ps i k)))::(4,.u (uB (isK ps i k)))::[]) s
    (oc zA<|oc zE<|zB) fun a w10 s=>pU<|wF s (t:=4) rfl (fun v W h=>by rw[zVG eN oA,<-eN];exact h)
  .have hc:=e
   refine rgQ ((64,.Z (uI (k:Int)))::(65,.Z (uI (i:Int)))::(66,.Z (uB ((k:Int)==(i:Int))))::(67,.Z (uB ((k:Int)==(i:Int))))::(68,.s (SF.imp (((k:Int)==(i:Int))=false) ((uI (k:Int)).tS)))::(69,.s (SF.imp (((k:Int)==(i:Int))=false) ((uI ((zCw ps i:Nat):Int)).tS)))::(70,.s (SF.imp (((k:Int)==(i:Int))=false) ((uB ((k:Int)==((zCw ps i:Nat):Int))).tS)))::(71,.Z (uB (((k:Int)==(i:Int))||((k:Int)==((zCw ps i:Nat):Int)))))::(72,.Z (uB (((k:Int)==(i:Int))||((k:Int)==((zCw ps i:Nat):Int)))))::(73,.s (SF.imp ((((k:Int)==(i:Int))||((k:Int)==((zCw ps i:Nat):Int)))=false) ((uI (k:Int)).tS)))::(74,.s (SF.imp ((((k:Int)==(i:Int))||((k:Int)==((zCw ps i:Nat):Int)))=false) ((uI ((zDT ps i:Nat):Int)).tS)))::(75,.s (SF.imp ((((k:Int)==(i:Int))||((k:Int)==((zCw ps i:Nat):Int)))=false) ((uB ((k:Int)==((zDT ps i:Nat):Int))).tS)))::(76,.Z (uB ((((k:Int)==(i:Int))||((k:Int)==((zCw ps i:Nat):Int)))||((k:Int)==((zDT ps i:Nat):Int)))))::(63,.u (uB ((((k:Int)==(i:Int))||((k:Int)==((zCw ps i:Nat):Int)))||((k:Int)==((zDT ps i:Nat):Int)))))::[]) s
    (oc zA<|oc zA<|oc (zM .i64 (k:Int) (i:Int) ((k:Int)==(i:Int)) iiz iiz rfl rfl)<|oc zA<|oc (zF 67 ((k:Int)==(i:Int)) kA iiz (fun e=>yU [] ((uI (k:Int)).tS) fnz fO kA zA) fN)<|oc (zF 67 ((k:Int)==(i:Int)) kA iiz (fun e=>yU [] ((uI ((zCw ps i:Nat):Int)).tS) fnz fO kA zA) fN)<|oc (zF 67 ((k:Int)==(i:Int)) kA iiz (fun e=>yU [(68,(uI (k:Int)).tS),(69,(uI ((zCw ps i:Nat):Int)).tS)] ((uB ((k:Int)==((zCw ps i:Nat):Int))).tS) (fmz ⟨fun v W h=>yE (c:=((k:Int)==(i:Int))=false) (f:=(uI (k:Int)).tS) e h,fmz ⟨fun v W h=>yE (c:=((k:Int)==(i:Int))=false) (f:=(uI ((zCw ps i:Nat):Int)).tS) e h,fnz⟩⟩) fO kA (zM .i64 (k:Int) ((zCw ps i:Nat):Int) ((k:Int)==((zCw ps i:Nat):Int)) iiz iiz rfl rfl)) fN)<|oc (yS ((k:Int)==(i:Int)) iiz (fun e v W h=>zHt h e) (fun e v W h=>zE7 (yE e h) e))<|oc zA<|oc (zF 72 (((k:Int)==(i:Int))||((k:Int)==((zCw ps i:Nat):Int))) kA iiz (fun e=>yU [] ((uI (k:Int)).tS) fnz fO kA zA) fN)<|oc (zF 72 (((k:Int)==(i:Int))||((k:Int)==((zCw ps i:Nat):Int))) kA iiz (fun e=>yU [] ((uI ((zDT ps i:Nat):Int)).tS) fnz fO kA zA) fN)<|oc (zF 72 (((k:Int)==(i:Int))||((k:Int)==((zCw ps i:Nat):Int))) kA iiz (fun e=>yU [(73,(uI (k:Int)).tS),(74,(uI ((zDT ps i:Nat):Int)).tS)] ((uB ((k:Int)==((zDT ps i:Nat):Int))).tS) (fmz ⟨fun v W h=>yE (c:=(((k:Int)==(i:Int))||((k:Int)==((zCw ps i:Nat):Int)))=false) (f:=(uI (k:Int)).tS) e h,fmz ⟨fun v W h=>yE (c:=(((k:Int)==(i:Int))||((k:Int)==((zCw ps i:Nat):Int)))=false) (f:=(uI ((zDT ps i:Nat):Int)).tS) e h,fnz⟩⟩) fO kA (zM .i64 (k:Int) ((zDT ps i:Nat):Int) ((k:Int)==((zDT ps i:Nat):Int)) iiz iiz rfl rfl)) fN)<|oc (yS (((k:Int)==(i:Int))||((k:Int)==((zCw ps i:Nat):Int))) iiz (fun e v W h=>zHt h e) (fun e v W h=>zE7 (yE e h) e))<|oc zE<|zB) fun a w11 s=>StS.cond s ((((k:Int)==(i:Int))||((k:Int)==((zCw ps i:Nat):Int)))||((k:Int)==((zDT ps i:Nat):Int))) iiz (fun e=>?_) (fun e=>?_)
   .rw[<-zQM e]at s
    refine tR<|zW 1 ((81,.u (uI ((k+1:Nat):Int)))::[]) s kA
     (oc (yI .i64 (k:Int) 1 ((k+1:Nat):Int) iiz iiz (wrap64 _ _ oA oA))<|zB) fun a w12 s=>?_
    replace s:=s.drop [55]
    refine zBF (uI ((k+1:Nat):Int)) rfl s kA zA kA fun a w s=>zD rfl ?_
    replace s:=s.popB
    exact⟨k+1,hk,(by show ps.length-(k+1)<ps.length-k;omega),s.keepK _ (fmz ⟨mz8,fmz ⟨mz9,fmz ⟨zMe,fmz ⟨zUz,fmz ⟨zWN,fmz ⟨zVx,fmz ⟨zXj,fmz ⟨.head _,fnz⟩⟩⟩⟩⟩⟩⟩⟩)⟩
   .have he:=e
    refine pV ?_
    replace s:=s.drop [8]
    refine rgE ((77,.Z (fTR m (zAL ps i)))::(78,.Z (fPV m (at_ ps k)))::(79,.Z (uI (zMf (zAL ps i) (at_ ps k))))::(80,.Z (uB (decide ((zMf (zAL ps i) (at_ ps k))<0))))::(8,.u (uB (isK ps i (k+1))))::[]) s
     (oc (zH (f:=fTR m (zAL ps i)) 18 kA (hz:=zKk _ _))<|oc (zH (f:=fPV m (at_ ps k)) 6 kA (hz:=zL _ _))<|oc (zI zC zV7 (fun u0 u1 W hb (h0:(fTR m (zAL ps i)).p u0 W) (h1:(fPV m (at_ ps k)).p u1 W)=>zR5 h0 h1 hm J (hT.below (s.up hb))))<|oc (zM .i64 (zMf (zAL ps i) (at_ ps k)) 0 (decide ((zMf (zAL ps i) (at_ ps k))<0)) iiz iiz rfl rfl)<|oc (zE (fun v W _ h=>by rw[zQN hc he];exact h))<|zB) fun a w13 s=>zW 1 ((81,.u (uI ((k+1:Nat):Int)))::[]) s kA
     (oc (yI .i64 (k:Int) 1 ((k+1:Nat):Int) iiz iiz (wrap64 _ _ oA oA))<|zB) fun a w14 s=>?_
    replace s:=s.drop [55]
    refine zBF (uI ((k+1:Nat):Int)) rfl s kA zA kA fun a w s=>zD rfl ?_
    replace s:=s.popB
    exact⟨k+1,hk,(by show ps.length-(k+1)<ps.length-k;omega),s.keepK _ (fmz ⟨mz9,fmz ⟨zMe,fmz ⟨zUz,fmz ⟨zWN,fmz ⟨zVx,fmz ⟨zXj,fmz ⟨mz2,fmz ⟨.head _,fnz⟩⟩⟩⟩⟩⟩⟩⟩)⟩
 .have U:k=ps.length:=by have h7:=nH e;rw[O]at h7;omega
  exact tR<|rgQ ((82,.Z (uB (isK ps i k)))::(4,.u (uB (isK ps i k)))::[]) s
   (oc zA<|oc zE<|zB) fun a w15 s=>pU<|wF s (t:=4) rfl (fun v W h=>by rw[<-zOi,<-U];exact h)
abbrev zns(L:List Int):List CU:=L.map fun z=>wC [.int .i64 z]
def pvx(ps:List V2)(k:Nat):Nat:=(k+ps.length-1)%ps.length
def zFs(ps:List V2)(k:Nat):Int:=zBX (at_ ps (pvx ps k)) (at_ ps k) (at_ ps ((k+1)%ps.length))
def zCl(ps:List V2)(k:Nat):List Int:=(List.range k).map (zFs ps)
def yT(ps:List V2):List Int:=if ps.length<3 then[]else zCl ps ps.length
theorem zJn(ps:List V2)(k:Nat):zns (zCl ps (k+1))=zns (zCl ps k)++ [wC [.int .i64 (zFs ps k)]]:=by simp[zCl,cS]
theorem zGn(ps:List V2)(k:Nat):(zCl ps k).length=k:=by simp[zCl]
theorem zLE(ps:List V2):(yT ps).length<=ps.length:=by unfold yT;split<;>simp[zCl]
theorem zSp{L:List Int}(h:k<L.length):(zns L)[k]?=some (wC [.int .i64 (L.getD k 0)]):=by
 rw[tJ,nG h,rH,nG h];rfl
theorem zPV{x:WE}{p q r:V2}(h1:(fPV m p).p u W)(h2:(fPV m q).p v W)(h3:(fPV m r).p x W)(hm:m<=246)(I:0<m):Calls prog 44 #[u,v,x] W (Ret W (fI (zBX p q r)).tS):=by
 have J:=zC1 I h1
 have hq:=zC1 I h2
 have hr:=zC1 I h3
 refine z5 [(fPV m p).tS,(fPV m q).tS,(fPV m r).tS] func44 rfl kA ⟨h1,h2,h3,trivial⟩ fun a s=>lQ<|rgK 0 [] s
  zB fun a w1 s=>yN (CU.agg (fPV m p)) rfl s kA (fun v W h=>yY h) fun b3 a w s=>yN (CU.agg (fPV m q)) rfl s kA (fun v W h=>yY h) fun b4 a w s=>yN (CU.agg (fPV m r)) rfl s kA (fun v W h=>yY h) fun b5 a w s=>yO (uI 0) rfl s kA iiz fun a w s=>zD rfl<|lQ ?_
 replace s:=s.drop [6]
 exact rgE ((7,.Z (fPV m q))::(8,.Z (fPV m p))::(9,.Z (fPN ((q).1-(p).1,(q).2-(p).2)))::(10,.Z (fPV m r))::(11,.Z (fPV m p))::(12,.Z (fPN ((r).1-(p).1,(r).2-(p).2)))::(13,.Z (fQN (crs p q r)))::(14,.Z (uI (zBX p q r)))::(6,.u (uI (zBX p q r)))::[]) s
  (oc (zH (f:=fPV m q) 6 kA (hz:=zL _ _))<|oc (zH (f:=fPV m p) 6 kA (hz:=zL _ _))<|oc (zI zC zGi (fun O u1 W hb (U:(fPV m q).p O W) (h1:(fPV m p).p u1 W)=>zCj (m:=m) (p:=q) (q:=p) U h1 oA I))<|oc (zH (f:=fPV m r) 6 kA (hz:=zL _ _))<|oc (zH (f:=fPV m p) 6 kA (hz:=zL _ _))<|oc (zI zC zGi (fun O u1 W hb (U:(fPV m r).p O W) (h1:(fPV m p).p u1 W)=>zCj (m:=m) (p:=r) (q:=p) U h1 oA I))<|oc (zI zC zQZ (fun O u1 W hb (U:(fPN ((q).1-(p).1,(q).2-(p).2)).p O W) (h1:(fPN ((r).1-(p).1,(r).2-(p).2)).p u1 W)=>zFI (m:=2*m+1) (p:=((q).1-(p).1,(q).2-(p).2)) (q:=((r).1-(p).1,(r).2-(p).2)) (zBz (p:=((q).1-(p).1,(q).2-(p).2)) (m:=(2*m+1)) ((zBm hq J).1.mono (by first|omega|decide)) ((zBm hq J).2.mono (by first|omega|decide)) U) (zBz (p:=((r).1-(p).1,(r).2-(p).2)) (m:=(2*m+1)) ((zBm hr J).1.mono (by first|omega|decide)) ((zBm hr J).2.mono (by first|omega|decide)) h1) (zBm hq J) (zBm hr J) oA oA))<|oc (zG zC zUb (fun O W hb (U:QNp (crs p q r) O W)=>zHm (m:=((2*m+1)+(2*m+1)+((2*m+1)+(2*m+1))+1)) (wL U (((zBm hq J).1.mul (zBm hr J).2).sub ((zBm hq J).2.mul (zBm hr J).1))) oA))<|oc zE<|zB) fun a w2 s=>pU<|wF s (t:=6) rfl iiz
theorem zM9(hl:(SF.row 6 (pvs m ps)).p l W)(hm:m<=246)(h9:0<m)(hn:ps.length<=1000000):Calls prog 50 #[l] W (Ret W (SF.row 1 (zns (yT ps)))):=by
 refine z5 [(UF.eq l).tS] func50 rfl kA ⟨rfl,trivial⟩ fun a s=>?_
 replace s:=s.renew [(0,.u (UF.eq l))] (fmz ⟨.inr ⟨_,rfl,.head _⟩,fnz⟩)
 refine rgQ ((2,.u (UF.eq (sN)))::[]) s
  (oc zE<|zB) fun a w1 s=>lQ<|rgQ ((5,.Z (UF.eq l))::(6,.Z (uI ((pvs m ps).length:Int)))::(7,.u (uB (decide (ps.length<3))))::[]) s
  (oc zA<|oc (zY (z:=6) (Cs:=pvs m ps) kA (fun v W hb h=>(zU hl h (s.up hb))) (fun _=>rfl))<|oc (zM .i64 ((pvs m ps).length:Int) 3 (decide (ps.length<3)) iiz iiz (by simp only[bC];rw[rS];omega) rfl)<|zB) fun a w2 s=>StS.cond s (decide (ps.length<3)) iiz (fun e=>?_) (fun e=>?_)
 .refine lQ ?_
  replace s:=s.drop [2]
  exact rgE ((2,.u (UF.eq (sN)))::[]) s
   (oc zE<|zB) fun a w3 s=>pU<|StS.resN s (xF _ _) rfl (by rw[s.val (.head _)];rw[show yT ps=[]from if_pos (xW e)];exact zSU 1 _)
 .refine pV ?_
  refine rgQ ((3,.u (UF.eq (sN)))::[]) s
   (oc zE<|zB) fun a w4 s=>lQ<|rgQ ((4,.u (uI 0))::[]) s
   (oc zE<|zB) fun a w5 s=>tQ ?_
  have h3:3<=ps.length:=by have:=nH e;simp at this;omega
  obtain⟨base,hbase⟩:∃b,b=w5.heap.size:=⟨_,rfl⟩
  have U:W.heap.size<=base:=by rw[hbase];exact s.gr.size
  have O:base<=w5.heap.size:=by rw[hbase];exact vP _
  refine zDE (fun(p:Nat×WE) w=>p.1<=ps.length/\base<=w.heap.size/\zAk w base 3 1 p.2 (zns (zCl ps p.1))) (fun p=> [(0,.u (UF.eq l)),(3,.u (UF.eq (p.2))),(4,.u (uI (p.1:Int)))]) (fun p=>ps.length-p.1) (0, sN) (⟨vR _,O,zAk.nil _ _ _ _⟩) (s.keepK _ (fmz ⟨mz4,fmz ⟨mz1,fmz ⟨.head _,fnz⟩⟩⟩)) fun p a w hI s=>?_
  have s0:=s
  have I:=(SF.row 6 (pvs m ps)).st _ _ _ hl s0.below
  replace s:=s.reb rfl [(0,.u (UF.eq l)),(3,.u (UF.eq (p.2))),(4,.u (uI (p.1:Int)))] (fmz ⟨.inl (.head _),fmz ⟨.inl mz1,fmz ⟨.inl mz2,fnz⟩⟩⟩)
  refine lQ<|rgQ ((8,.Z (uI (p.1:Int)))::(9,.Z (UF.eq l))::(10,.Z (uI ((pvs m ps).length:Int)))::(11,.u (uB (ltz p.1 ((pvs m ps).length))))::[]) s
   (oc zA<|oc zA<|oc (zY (z:=6) (Cs:=pvs m ps) kA (fun v W hb h=>(zU I h (s.up hb))) (fun _=>rfl))<|oc (zM .i64 (p.1:Int) ((pvs m ps).length:Int) (ltz p.1 ((pvs m ps).length)) iiz iiz rfl rfl)<|zB) fun a w6 s=>StS.cond s (ltz p.1 ((pvs m ps).length)) iiz (fun e=>?_) (fun e=>?_)
  .have hk:p.1<ps.length:=by have:=xW e;simp at this;omega
   have he:(pvx ps p.1)<ps.length:=vW _ oA
   have hd:((p.1+1)%ps.length)<ps.length:=vW _ oA
   have J:(pvs m ps).length=ps.length:=by simp
   refine pV<|lQ<|tQ<|zBy (K:=[(11,.u (uB (ltz p.1 ((pvs m ps).length)))),(0,.u (UF.eq l)),(4,.u (uI (p.1:Int)))]) [(3,.u (UF.eq (p.2)))] [0,1,2,3,7,12,13,16,17,19] 26 ((14,.u (UF.eq (p.2)))::(15,.Z (UF.eq l))::(16,.Z (uI (p.1:Int)))::(17,.Z (UF.eq l))::(18,.Z (uI ((pvs m ps).length:Int)))::(19,.Z (uI ((p.1+ps.length:Nat):Int)))::(20,.Z (uI ((p.1+ps.length-1:Nat):Int)))::(21,.Z (UF.eq l))::(22,.Z (uI ((pvs m ps).length:Int)))::(23,.Z (uI (((pvx ps p.1):Nat):Int)))::(24,.Y (fPV m (at_ ps (pvx ps p.1))))::(25,.Z (fPV m (at_ ps (pvx ps p.1))))::(26,.Z (UF.eq l))::(27,.Z (uI (p.1:Int)))::(28,.Y (fPV m (at_ ps p.1)))::(29,.Z (fPV m (at_ ps p.1)))::(30,.Z (UF.eq l))::(31,.Z (uI (p.1:Int)))::(32,.Z (uI ((p.1+1:Nat):Int)))::(33,.Z (UF.eq l))::(34,.Z (uI ((pvs m ps).length:Int)))::(35,.Z (uI ((((p.1+1)%ps.length):Nat):Int)))::(36,.Y (fPV m (tn ps p.1)))::(37,.Z (fPV m (tn ps p.1)))::(38,.Z (uI (zFs ps p.1)))::(39,.s (SF.row 1 [wC [.int .i64 (zFs ps p.1)]]))::[]) hmix (s.keepK _ (fmz ⟨mz2,fmz ⟨.head _,fmz ⟨mz1,fmz ⟨mz3,fnz⟩⟩⟩⟩)) kA
    (oc zA<|oc zA<|oc zA<|oc zA<|oc (zY (z:=6) (Cs:=pvs m ps) kA (fun v W hb h=>(zU I h (s.up hb))) (fun _=>rfl))<|oc (yI .i64 (p.1:Int) ((pvs m ps).length:Int) ((p.1+ps.length:Nat):Int) iiz iiz (by rw[J,sS];omega))<|oc (zCF .i64 ((p.1+ps.length:Nat):Int) 1 ((p.1+ps.length-1:Nat):Int) iiz iiz (by rw[sS];omega))<|oc zA<|oc (zY (z:=6) (Cs:=pvs m ps) kA (fun v W hb h=>(zU I h (s.up hb))) (fun _=>rfl))<|oc (zBb .i64 ((p.1+ps.length-1:Nat):Int) ((pvs m ps).length:Int) (((pvx ps p.1):Nat):Int) iiz iiz oA (by rw[J];exact zBY _ _))<|oc (zQ (z:=6) (Cs:=pvs m ps) (i:=(pvx ps p.1)) (C:=CU.agg (fPV m (at_ ps (pvx ps p.1)))) kA (qI he) (fun v W hb h=>(zU I h (s.up hb))) iiz)<|oc (zH (f:=fPV m (at_ ps (pvx ps p.1))) 6 kA (hz:=zL _ _))<|oc zA<|oc zA<|oc (zQ (z:=6) (Cs:=pvs m ps) (i:=p.1) (C:=CU.agg (fPV m (at_ ps p.1))) kA (qI hk) (fun v W hb h=>(zU I h (s.up hb))) iiz)<|oc (zH (f:=fPV m (at_ ps p.1)) 6 kA (hz:=zL _ _))<|oc zA<|oc zA<|oc (yI .i64 (p.1:Int) 1 ((p.1+1:Nat):Int) iiz iiz (by rw[sS];omega))<|oc zA<|oc (zY (z:=6) (Cs:=pvs m ps) kA (fun v W hb h=>(zU I h (s.up hb))) (fun _=>rfl))<|oc (zBb .i64 ((p.1+1:Nat):Int) ((pvs m ps).length:Int) ((((p.1+1)%ps.length):Nat):Int) iiz iiz oA (by rw[J];exact zBY _ _))<|oc (zQ (z:=6) (Cs:=pvs m ps) (i:=((p.1+1)%ps.length)) (C:=CU.agg (fPV m (tn ps p.1))) kA (qI hd) (fun v W hb h=>(zU I h (s.up hb))) iiz)<|oc (zH (f:=fPV m (tn ps p.1)) 6 kA (hz:=zL _ _))<|oc (zBc zC zXR (fun u0 u1 u2 W hb (h0:(fPV m (at_ ps (pvx ps p.1))).p u0 W) (h1:(fPV m (at_ ps p.1)).p u1 W) (h2:(fPV m (tn ps p.1)).p u2 W)=>zPV (m:=m) h0 h1 h2 oA h9))<|oc (jX (fun u W (hu:u=.int .i64 (zFs ps p.1))=>zMN hu))<|zB) fun Q' hQ a w7 s hr=>zLF ([wC [.int .i64 (zFs ps p.1)]]) s0 (s.keepK [(14,.u (UF.eq (p.2))),(11,.u (uB (ltz p.1 ((pvs m ps).length)))),(0,.u (UF.eq l)),(4,.u (uI (p.1:Int)))] (fmz ⟨.head _,fmz ⟨mz1,fmz ⟨mz2,fmz ⟨mz3,fnz⟩⟩⟩⟩)) U hI.2 rfl kA kA kA (s.fct (.tmp 14)) (hr (_,_) (.tail _ (.tail _ (.tail _ (.tail _ (.tail _ (.tail _ (.tail _ (.tail _ (.tail _ (.tail _ zXi))))))))))) (zRO _) (by simp[zGn];omega) (fun q hq=>by cases hq) fun v' a w h4 s=>?_
   have s1:=s
   replace s:=s.reb rfl [(40,.u (UF.eq v')),(14,.u (UF.eq (p.2))),(11,.u (uB (ltz p.1 ((pvs m ps).length)))),(0,.u (UF.eq l)),(4,.u (uI (p.1:Int)))] (fmz ⟨.inl (.head _),fmz ⟨.inl mz1,fmz ⟨.inl mz2,fmz ⟨.inl mz3,fmz ⟨.inl mz4,fnz⟩⟩⟩⟩⟩)
   refine yO (UF.eq v') rfl s kA iiz fun a w s=>zD rfl (hQ _ _ ?_)
   refine zW 2 ((12,.Z (uI (p.1:Int)))::(13,.u (uI ((p.1+1:Nat):Int)))::[]) s kA
    (oc zA<|oc (yI .i64 (p.1:Int) 1 ((p.1+1:Nat):Int) iiz iiz (wrap64 _ _ oA oA))<|zB) fun a w8 s=>?_
   replace s:=s.drop [4]
   refine yO (uI ((p.1+1:Nat):Int)) rfl s kA iiz fun a w s=>zD rfl ?_
   have h5:=s.below
   replace s:=s1.back (s.keepK [(4,.u (uI ((p.1+1:Nat):Int))),(13,.u (uI ((p.1+1:Nat):Int))),(3,.u (UF.eq v')),(40,.u (UF.eq v')),(14,.u (UF.eq (p.2))),(11,.u (uB (ltz p.1 ((pvs m ps).length)))),(0,.u (UF.eq l))] (fmz ⟨.head _,fmz ⟨mz1,fmz ⟨mz2,fmz ⟨mz3,fmz ⟨mz4,fmz ⟨mz5,fmz ⟨mz6,fnz⟩⟩⟩⟩⟩⟩⟩)) rfl
   exact⟨(p.1+1,v'),(by show ps.length-(p.1+1)<ps.length-p.1;omega),⟨hk,xQ h4.1 h5.size,by show zAk _ _ _ _ _ (zns (zCl ps (p.1+1)));rw[zJn];exact h4.2.below h5⟩,s.keepK _ (fmz ⟨mz6,fmz ⟨mz2,fmz ⟨.head _,fnz⟩⟩⟩)⟩
  .have hk:p.1=ps.length:=by have h7:=nH e;have h8:=hI.1;simp at h7;omega
   exact tR<|rgQ ((41,.Z (UF.eq (p.2)))::(2,.u (UF.eq (p.2)))::[]) s
    (oc zA<|oc zE<|zB) fun a w9 s=>pU<|StS.resN s s0.below rfl (by rw[s.val (.head _)];have:=((hI.2.2.below s.below).mono U).row;rw[hk]at this;rw[show yT ps=zCl ps ps.length from if_neg oA];exact this)
theorem zMA(hi:i<3)(cs:List WE)(W:WB)(h:(CU.agg (fTN t)).p cs W):6*i+6<=cs.length/\(fPN (cor t i)).p (.agg ((cs.drop (6*i)).take 6).toArray) W:=by
 match i,hi with
 |0,_=>exact zUL cs W h
 |1,_=>exact zUK cs W h
 |2,_=>exact zSH cs W h
theorem zMy(ts:List V6):(tns ts).length=ts.length:=by simp
theorem zDp{l':WE}{ts:List V6}(U:(SF.row 18 (tns ts)).p l W)(J:(SF.row 18 (tns ts)).p l' W)(hn:ts.length<=1000000):Calls prog 19 #[l,l'] W (Ret W (fB true).tS):=by
 refine z5 [(UF.eq l).tS,(UF.eq l').tS] func19 rfl kA ⟨rfl,rfl,trivial⟩ fun a s=>?_
 replace s:=s.renew [(0,.u (UF.eq l)),(1,.u (UF.eq l'))] (fmz ⟨.inr ⟨_,rfl,.head _⟩,fmz ⟨.inr ⟨_,rfl,mz1⟩,fnz⟩⟩)
 refine rgQ ((4,.u (uB false))::[]) s
  (oc zE<|zB) fun a w1 s=>lQ<|rgQ ((7,.Z (UF.eq l))::(8,.Z (uI ((tns ts).length:Int)))::(9,.Z (UF.eq l'))::(10,.Z (uI ((tns ts).length:Int)))::(11,.u (uB false))::[]) s
  (oc zA<|oc (zY (z:=18) (Cs:=tns ts) kA (fun v W hb h=>(zU U h (s.up hb))) (fun _=>rfl))<|oc zA<|oc (zY (z:=18) (Cs:=tns ts) kA (fun v W hb h=>(zU J h (s.up hb))) (fun _=>rfl))<|oc (zM .i64 ((tns ts).length:Int) ((tns ts).length:Int) false iiz iiz (by simp) rfl)<|zB) fun a w2 s=>StS.cond s false iiz (fun e=>by cases e) (fun e=>?_)
 refine pV<|lQ<|rgQ ((5,.u (uI 0))::[]) s
  (oc zE<|zB) fun a w3 s=>tQ<|zAg (fun i=>i<=ts.length) (fun i=> [(0,.u (UF.eq l)),(1,.u (UF.eq l')),(5,.u (uI ((i:Nat):Int)))]) (fun i=>ts.length-i) (0:Nat) (vR _) (s.keepK _ (fmz ⟨mz3,fmz ⟨mz4,fmz ⟨.head _,fnz⟩⟩⟩)) fun i a w hx s=>?_
 have O:=zMy ts
 refine lQ<|rgQ ((12,.Z (uI (i:Int)))::(13,.Z (UF.eq l))::(14,.Z (uI ((tns ts).length:Int)))::(15,.u (uB (ltz i ((tns ts).length))))::[]) s
  (oc zA<|oc zA<|oc (zY (z:=18) (Cs:=tns ts) kA (fun v W hb h=>(zU U h (s.up hb))) (fun _=>rfl))<|oc (zM .i64 (i:Int) ((tns ts).length:Int) (ltz i ((tns ts).length)) iiz iiz rfl rfl)<|zB) fun a w4 s=>StS.cond s (ltz i ((tns ts).length)) iiz (fun e=>?_) (fun e=>?_)
 .have hi:i<ts.length:=by have:=xW e;rw[O]at this;omega
  refine pV<|lQ<|tQ<|rgQ ((6,.u (uI 0))::[]) s
   (oc zE<|zB) fun a w5 s=>tQ<|zAg (fun k=>k<=3) (fun k=> [(0,.u (UF.eq l)),(1,.u (UF.eq l')),(5,.u (uI (i:Int))),(6,.u (uI ((k:Nat):Int)))]) (fun k=>3-k) (0:Nat) (vR _) (s.keepK _ (fmz ⟨mz2,fmz ⟨mz3,fmz ⟨mz4,fmz ⟨.head _,fnz⟩⟩⟩⟩)) fun k a w hx s=>lQ<|rgQ ((18,.Z (uI (k:Int)))::(19,.u (uB (decide ((k:Int)<3))))::[]) s
   (oc zA<|oc (zM .i64 (k:Int) 3 (decide ((k:Int)<3)) iiz iiz rfl rfl)<|zB) fun a w6 s=>StS.cond s (decide ((k:Int)<3)) iiz (fun e=>?_) (fun e=>?_)
  .have I:k<3:=by have:=xW e;omega
   refine pV<|lQ<|tQ<|rgQ ((22,.Z (UF.eq l))::(23,.Z (uI (i:Int)))::(24,.Z (uI (k:Int)))::(25,.Y (fTN (at3 ts i)))::(26,.X (fTN (at3 ts i)) (6*k))::(27,.Z (fPN (cor (at3 ts i) k)))::(28,.Z (UF.eq l'))::(29,.Z (uI (i:Int)))::(30,.Z (uI (k:Int)))::(31,.Y (fTN (at3 ts i)))::(32,.X (fTN (at3 ts i)) (6*k))::(33,.Z (fPN (cor (at3 ts i) k)))::(34,.Z (uB true))::(35,.u (uB false))::[]) s
    (oc zA<|oc zA<|oc zA<|oc (zQ (z:=18) (Cs:=tns ts) (i:=i) (C:=CU.agg (fTN (at3 ts i))) kA (zGW hi) (fun v W hb h=>(zU U h (s.up hb))) iiz)<|oc (zB0 (C:=cg (fTN (at3 ts i))) k (6*k) (zKj I) iiz iiz)<|oc (zV (C:=cg (fTN (at3 ts i))) (k:=6*k) 6 kA (h:=zMA I))<|oc zA<|oc zA<|oc zA<|oc (zQ (z:=18) (Cs:=tns ts) (i:=i) (C:=CU.agg (fTN (at3 ts i))) kA (zGW hi) (fun v W hb h=>(zU J h (s.up hb))) iiz)<|oc (zB0 (C:=cg (fTN (at3 ts i))) k (6*k) (zKj I) iiz iiz)<|oc (zV (C:=cg (fTN (at3 ts i))) (k:=6*k) 6 kA (h:=zMA I))<|oc (zI zC zXP (fun u0 u1 W hb (h0:(fPN (cor (at3 ts i) k)).p u0 W) (h1:(fPN (cor (at3 ts i) k)).p u1 W)=>zNc h0 h1))<|oc (zDB true iiz (fun _=>rfl))<|zB) fun a w7 s=>StS.cond s false iiz (fun e=>by cases e) (fun e=>?_)
   refine pV<|zW 2 ((20,.Z (uI (k:Int)))::(21,.u (uI ((k+1:Nat):Int)))::[]) s kA
    (oc zA<|oc (yI .i64 (k:Int) 1 ((k+1:Nat):Int) iiz iiz (wrap64 _ _ oA oA))<|zB) fun a w8 s=>?_
   replace s:=s.drop [6]
   exact yO (uI ((k+1:Nat):Int)) rfl s kA iiz fun a w s=>zD rfl<|⟨k+1,I,(by show 3-(k+1)<3-k;omega),s.keepK _ (fmz ⟨mz4,fmz ⟨mz5,fmz ⟨mz6,fmz ⟨.head _,fnz⟩⟩⟩⟩)⟩
  .refine tR ?_
   refine zW 2 ((16,.Z (uI (i:Int)))::(17,.u (uI ((i+1:Nat):Int)))::[]) s kA
    (oc zA<|oc (yI .i64 (i:Int) 1 ((i+1:Nat):Int) iiz iiz (wrap64 _ _ oA oA))<|zB) fun a w9 s=>?_
   replace s:=s.drop [5]
   exact yO (uI ((i+1:Nat):Int)) rfl s kA iiz fun a w s=>zD rfl<|⟨i+1,hi,(by show ts.length-(i+1)<ts.length-i;omega),s.keepK _ (fmz ⟨mz3,fmz ⟨mz4,fmz ⟨.head _,fnz⟩⟩⟩)⟩
 .refine tR ?_
  exact rgQ ((4,.u (uB true))::[]) s
   (oc zE<|zB) fun a w10 s=>pU<|wF s (t:=4) rfl iiz
theorem zFM{L:List Int}(hl:(SF.row 1 (zEh L)).p l W)(hL:zYs L)(hn:L.length<=1000000):Calls prog 31 #[l] W (Ret W (wG W 30 6 (pns (zDk L (L.length/2))))):=by
 refine z5 [(UF.eq l).tS] func31 rfl kA ⟨rfl,trivial⟩ fun a s=>?_
 replace s:=s.renew [(0,.u (UF.eq l))] (fmz ⟨.inr ⟨_,rfl,.head _⟩,fnz⟩)
 refine rgQ ((2,.u (UF.eq (sN)))::[]) s
  (oc zE<|zB) fun a w1 s=>rgQ ((3,.u (UF.eq (sN)))::[]) s
  (oc zE<|zB) fun a w2 s=>lQ<|rgQ ((4,.u (uI 0))::[]) s
  (oc zE<|zB) fun a w3 s=>tQ<|zDE (fun(p:Nat×WE) w=>2*p.1<=L.length/\W.heap.size<=w.heap.size/\zAk w W.heap.size 30 6 p.2 (pns (zDk L p.1))) (fun p=> [(0,.u (UF.eq l)),(3,.u (UF.eq (p.2))),(4,.u (uI ((2*p.1:Nat):Int)))]) (fun p=>L.length-2*p.1) (0, sN) (⟨vR _,s.gr.size,zAk.nil _ _ _ _⟩) (s.keepK _ (fmz ⟨mz3,fmz ⟨mz1,fmz ⟨.head _,fnz⟩⟩⟩)) fun p a w U s=>?_
 have s0:=s
 have I:=(SF.row 1 (zEh L)).st _ _ _ hl s0.below
 replace s:=s.reb rfl [(0,.u (UF.eq l)),(3,.u (UF.eq (p.2))),(4,.u (uI ((2*p.1:Nat):Int)))] (fmz ⟨.inl (.head _),fmz ⟨.inl mz1,fmz ⟨.inl mz2,fnz⟩⟩⟩)
 refine lQ<|rgQ ((5,.Z (uI ((2*p.1:Nat):Int)))::(6,.Z (uI ((2*p.1+1:Nat):Int)))::(7,.Z (UF.eq l))::(8,.Z (uI ((zEh L).length:Int)))::(9,.u (uB (ltz (2*p.1+1) ((zEh L).length))))::[]) s
  (oc zA<|oc (yI .i64 ((2*p.1:Nat):Int) 1 ((2*p.1+1:Nat):Int) iiz iiz (wrap64 _ _ oA oA))<|oc zA<|oc (zY (z:=1) (Cs:=zEh L) kA (fun v W hb h=>(zU I h (s.up hb))) (fun _=>rfl))<|oc (zM .i64 ((2*p.1+1:Nat):Int) ((zEh L).length:Int) (ltz (2*p.1+1) ((zEh L).length)) iiz iiz rfl rfl)<|zB) fun a w4 s=>StS.cond s (ltz (2*p.1+1) ((zEh L).length)) iiz (fun e=>?_) (fun e=>?_)
 .have hk:2*p.1+1<L.length:=by have:=xW e;simp at this;omega
  refine pV<|lQ<|tQ<|zBy (K:=[(9,.u (uB (ltz (2*p.1+1) ((zEh L).length)))),(0,.u (UF.eq l)),(4,.u (uI ((2*p.1:Nat):Int)))]) [(3,.u (UF.eq (p.2)))] [0,1,2,5,6] 12 ((12,.u (UF.eq (p.2)))::(13,.Z (UF.eq l))::(14,.Z (uI ((2*p.1:Nat):Int)))::(15,.s (wD (wC [.int .i64 (gI L (2*p.1))]).cf))::(16,.Z (uI (gI L (2*p.1))))::(17,.Z (UF.eq l))::(18,.Z (uI ((2*p.1:Nat):Int)))::(19,.Z (uI ((2*p.1+1:Nat):Int)))::(20,.s (wD (wC [.int .i64 (gI L (2*p.1+1))]).cf))::(21,.Z (uI (gI L (2*p.1+1))))::(22,.Z (fPN (((gI L (2*p.1):Int):Rat),((gI L (2*p.1+1):Int):Rat))))::(23,.s (SF.row 6 [CU.agg (fPN (((gI L (2*p.1):Int):Rat),((gI L (2*p.1+1):Int):Rat)))]))::[]) hmix (s.keepK _ (fmz ⟨mz2,fmz ⟨.head _,fmz ⟨mz1,fmz ⟨mz3,fnz⟩⟩⟩⟩)) kA
   (oc zA<|oc zA<|oc zA<|oc (zQ (z:=1) (Cs:=zEh L) (i:=(2*p.1)) (C:=wC [.int .i64 (gI L (2*p.1))]) kA (zHQ oA) (fun v W hb h=>(zU I h (s.up hb))) iiz)<|oc (qB (C:=(wC [.int .i64 (gI L (2*p.1))]).cf) kA iiz zAK)<|oc zA<|oc zA<|oc (yI .i64 ((2*p.1:Nat):Int) 1 ((2*p.1+1:Nat):Int) iiz iiz (wrap64 _ _ oA oA))<|oc (zQ (z:=1) (Cs:=zEh L) (i:=(2*p.1+1)) (C:=wC [.int .i64 (gI L (2*p.1+1))]) kA (zHQ oA) (fun v W hb h=>(zU I h (s.up hb))) iiz)<|oc (qB (C:=(wC [.int .i64 (gI L (2*p.1+1))]).cf) kA iiz zAK)<|oc (zI zC zOA (fun u0 u1 W hb (h0:u0=.int .i64 (gI L (2*p.1))) (h1:u1=.int .i64 (gI L (2*p.1+1)))=>zIw h0 h1 (hL _) (hL _)))<|oc (jX (fun u W (hu:(fPN (((gI L (2*p.1):Int):Rat),((gI L (2*p.1+1):Int):Rat))).p u W)=>zGp hu))<|zB) fun Q' hQ a w5 s hr=>zLF ([CU.agg (fPN (((gI L (2*p.1):Int):Rat),((gI L (2*p.1+1):Int):Rat)))]) s0 (s.keepK [(12,.u (UF.eq (p.2))),(9,.u (uB (ltz (2*p.1+1) ((zEh L).length)))),(0,.u (UF.eq l)),(4,.u (uI ((2*p.1:Nat):Int)))] (fmz ⟨.head _,fmz ⟨mz1,fmz ⟨mz2,fmz ⟨mz3,fnz⟩⟩⟩⟩)) lr U.2 rfl kA kA kA (s.fct (.tmp 12)) (hr (_,_) zUz) (zKT _ _) (by simp[zB7];omega) (fun q hq=>by cases hq) fun v' a w J s=>?_
  have s1:=s
  replace s:=s.reb rfl [(24,.u (UF.eq v')),(12,.u (UF.eq (p.2))),(9,.u (uB (ltz (2*p.1+1) ((zEh L).length)))),(0,.u (UF.eq l)),(4,.u (uI ((2*p.1:Nat):Int)))] (fmz ⟨.inl (.head _),fmz ⟨.inl mz1,fmz ⟨.inl mz2,fmz ⟨.inl mz3,fmz ⟨.inl mz4,fnz⟩⟩⟩⟩⟩)
  refine yO (UF.eq v') rfl s kA iiz fun a w s=>zD rfl (hQ _ _ ?_)
  refine zW 2 ((10,.Z (uI ((2*p.1:Nat):Int)))::(11,.u (uI ((2*(p.1+1):Nat):Int)))::[]) s kA
   (oc zA<|oc (yI .i64 ((2*p.1:Nat):Int) 2 ((2*(p.1+1):Nat):Int) iiz iiz (wrap64 _ _ oA oA))<|zB) fun a w6 s=>?_
  replace s:=s.drop [4]
  refine yO (uI ((2*(p.1+1):Nat):Int)) rfl s kA iiz fun a w s=>zD rfl ?_
  have O:=s.below
  replace s:=s1.back (s.keepK [(4,.u (uI ((2*(p.1+1):Nat):Int))),(11,.u (uI ((2*(p.1+1):Nat):Int))),(3,.u (UF.eq v')),(24,.u (UF.eq v')),(12,.u (UF.eq (p.2))),(9,.u (uB (ltz (2*p.1+1) ((zEh L).length)))),(0,.u (UF.eq l))] (fmz ⟨.head _,fmz ⟨mz1,fmz ⟨mz2,fmz ⟨mz3,fmz ⟨mz4,fmz ⟨mz5,fmz ⟨mz6,fnz⟩⟩⟩⟩⟩⟩⟩)) rfl
  exact⟨(p.1+1,v'),(by show L.length-2*(p.1+1)<L.length-2*p.1;omega),⟨by show 2*(p.1+1)<=_;omega,xQ J.1 O.size,by show zAk _ _ _ _ _ (pns (zDk L (p.1+1)));rw[zMw];exact J.2.below O⟩,s.keepK _ (fmz ⟨mz6,fmz ⟨mz2,fmz ⟨.head _,fnz⟩⟩⟩)⟩
 .have hk:p.1=L.length/2:=by have h7:=nH e;have h8:=U.1;simp at h7;omega
  exact tR<|rgQ ((25,.Z (UF.eq (p.2)))::(2,.u (UF.eq (p.2)))::[]) s
   (oc zA<|oc zE<|zB) fun a w7 s=>pU<|StS.resN s s0.below rfl (by rw[s.val (.head _)];have:=U.2.2.below s.below;rw[hk]at this;exact this)
def PX.b16(x:PX):Bool:=decide (1<max (max (max x.1.n x.1.n') x.2.n) x.2.n')
def g16(L:List PX):Bool:=(L.take 8).any PX.b16||decide (7<L.length)
theorem zVk(h:x.b16=false){v:WE}{W:WB}(J:x.u.p v W):(fPV 1 x.p).p v W:=by
 have h:=nH h
 exact zJG (fun v W I=>zYp I oA oA) (fun v W I=>zYp I oA oA) J
theorem zVI(h:g16 L=false):L.length<=7/\∀x,x∈L->x.b16=false:=by
 unfold g16 at h
 rw[fZ]at h
 have h2:=nH h.2
 refine⟨by omega,fun x J=>?_⟩
 have I:=cN.1 h.1 x (by rw[nK oA];exact J)
 simpa using I
theorem zQb(h:g16 L=false)(v:WE)(W:WB)(U:(SF.row 6 (pxs L)).p v W):(SF.row 6 (pvs 1 (pps L))).p v W:=
 zHf (by simp) (fun i C D I J cs W O=>by
  have hi:i<L.length:=by have:=(bE.1 I).1;simpa using this
  rw[tJ,nG hi]at I
  rw[tJ,tJ,nG hi]at J
  cases I;cases J
  exact zVk ((zVI h).2 _ (uY hi)) O) v W U
theorem zTZ(hk:k<=7)(I:L[k]?=some x)(h:x.b16=true):g16 L=true:=by
 unfold g16
 rw[cY]
 left
 refine bQ.2 ⟨x,?_,h⟩
 have hlt:=(bE.1 I).1
 exact mJ (i:=k) (by rw[uT,if_pos oA];exact I)
theorem zTY(h:∀j y,j<8->L[j]?=some y->PX.b16 y=false):g16 L=decide (((pxs L).length:Int)>7):=by
 unfold g16
 have:(L.take 8).any PX.b16=false:=by
  refine cN.2 fun x O=>?_
  obtain⟨j,I⟩:=mM O
  rw[uT]at I
  split at I
  .rename_i J
   rw[h j x J I];simp
  .cases I
 rw[this,cR,rS,bC]
 omega
theorem zLd(hl:(SF.row 6 (pxs L)).p l W):Calls prog 6 #[l] W (Ret W (fB (g16 L)).tS):=by
 refine z5 [SF.row 6 (pxs L)] func6 rfl kA ⟨hl,trivial⟩ fun a s=>rgQ ((2,.u (uB false))::[]) s
  (oc zE<|zB) fun a w1 s=>lQ<|rgQ ((3,.u (uI 0))::[]) s
  (oc zE<|zB) fun a w2 s=>tQ<|zAg (fun k=>k<=L.length/\k<=8/\∀j y,j<k->L[j]?=some y->PX.b16 y=false) (fun k=> [(0,.o (SF.row 6 (pxs L))),(3,.u (uI ((k:Nat):Int)))]) (fun k=>8-k) (0:Nat) (⟨vR _,by omega,fun j y hj=>absurd hj (rT _)⟩) (s.keepK _ (fmz ⟨mz2,fmz ⟨.head _,fnz⟩⟩)) fun k a w hx s=>lQ<|rgQ ((4,.Z (uI (k:Int)))::(5,.s (SF.row 6 (pxs L)))::(6,.Z (uI ((pxs L).length:Int)))::(7,.Z (uB (ltz k ((pxs L).length))))::(8,.Z (uB (ltz k ((pxs L).length))))::(9,.s (SF.imp ((ltz k ((pxs L).length))=true) ((uI (k:Int)).tS)))::(10,.s (SF.imp ((ltz k ((pxs L).length))=true) ((uB (decide ((k:Int)<=7))).tS)))::(11,.u (uB ((ltz k ((pxs L).length))&&(decide ((k:Int)<=7)))))::[]) s
  (oc zA<|oc zA<|oc (zEC (z:=6) (Cs:=pxs L) kA iiz (fun _=>rfl))<|oc (zM .i64 (k:Int) ((pxs L).length:Int) (ltz k ((pxs L).length)) iiz iiz rfl rfl)<|oc zA<|oc (zF 8 (ltz k ((pxs L).length)) kA iiz (fun e=>yU [] ((uI (k:Int)).tS) fnz fO kA zA) fN)<|oc (zF 8 (ltz k ((pxs L).length)) kA iiz (fun e=>yU [(9,(uI (k:Int)).tS)] ((uB (decide ((k:Int)<=7))).tS) (fmz ⟨fun v W h=>yE (c:=(ltz k ((pxs L).length))=true) (f:=(uI (k:Int)).tS) e h,fnz⟩) fO kA (zM .i64 (k:Int) 7 (decide ((k:Int)<=7)) iiz iiz rfl rfl)) fN)<|oc (yS (ltz k ((pxs L).length)) iiz (fun e v W h=>zCE (yE e h) e) (fun e v W h=>zBZ h e))<|zB) fun a w3 s=>StS.cond s ((ltz k ((pxs L).length))&&(decide ((k:Int)<=7))) iiz (fun e=>?_) (fun e=>?_)
 .rw[xV]at e
  have h5:k<L.length:=by have:=xW e.1;simp at this;omega
  have h6:k<=7:=by have:=xW e.2;omega
  obtain⟨x,hxl⟩:∃x,L[k]?=some x:=⟨_,nG h5⟩
  have I:(pxs L)[k]?=some (PX.cu x):=by rw[tJ,hxl];rfl
  refine pV<|lQ<|tQ<|rgQ ((14,.s (SF.row 6 (pxs L)))::(15,.Z (uI (k:Int)))::(16,.s (wD (PX.cu x).cf))::(17,.s (wD ((PX.cu x).cf.at 0)))::(18,.s (wD ((PX.cu x).cf.at 0)))::(19,.s (wD ((PX.cu x).cf.at 1)))::(20,.Z (fSl (x.1.n)))::(21,.Z (uI (x.1.n:Int)))::(22,.s (SF.row 6 (pxs L)))::(23,.Z (uI (k:Int)))::(24,.s (wD (PX.cu x).cf))::(25,.s (wD ((PX.cu x).cf.at 0)))::(26,.s (wD ((PX.cu x).cf.at 2)))::(27,.Z (fSl (x.1.n')))::(28,.Z (uI (x.1.n':Int)))::(29,.s (SF.row 6 (pxs L)))::(30,.Z (uI (k:Int)))::(31,.s (wD (PX.cu x).cf))::(32,.s (wD ((PX.cu x).cf.at 3)))::(33,.s (wD ((PX.cu x).cf.at 3)))::(34,.s (wD ((PX.cu x).cf.at 4)))::(35,.Z (fSl (x.2.n)))::(36,.Z (uI (x.2.n:Int)))::(37,.s (SF.row 6 (pxs L)))::(38,.Z (uI (k:Int)))::(39,.s (wD (PX.cu x).cf))::(40,.s (wD ((PX.cu x).cf.at 3)))::(41,.s (wD ((PX.cu x).cf.at 5)))::(42,.Z (fSl (x.2.n')))::(43,.Z (uI (x.2.n':Int)))::(44,.Z (uI ((max (max (max x.1.n x.1.n') x.2.n) x.2.n':Nat):Int)))::(45,.u (uB (PX.b16 x)))::[]) s
   (oc zA<|oc zA<|oc (zCe (z:=6) (Cs:=pxs L) (i:=k) (C:=PX.cu x) kA I iiz iiz)<|oc (zN (C:=(PX.cu x).cf) 0 kA)<|oc (qJ (C:=(PX.cu x).cf) 0 0 kA)<|oc (qJ (C:=(PX.cu x).cf) 0 1 kA)<|oc (jU (C:=(PX.cu x).cf) (k:=1) kA (h:=zYI))<|oc (zC3 kA (fun v W ⟨O,U,J⟩=>⟨O,x.1.n,U,J,rfl⟩))<|oc zA<|oc zA<|oc (zCe (z:=6) (Cs:=pxs L) (i:=k) (C:=PX.cu x) kA I iiz iiz)<|oc (zN (C:=(PX.cu x).cf) 0 kA)<|oc (qJ (C:=(PX.cu x).cf) 0 2 kA)<|oc (jU (C:=(PX.cu x).cf) (k:=2) kA (h:=zYH))<|oc (zC3 kA (fun v W ⟨O,U,J⟩=>⟨O,x.1.n',U,J,rfl⟩))<|oc zA<|oc zA<|oc (zCe (z:=6) (Cs:=pxs L) (i:=k) (C:=PX.cu x) kA I iiz iiz)<|oc (zN (C:=(PX.cu x).cf) 3 kA)<|oc (qJ (C:=(PX.cu x).cf) 3 0 kA)<|oc (qJ (C:=(PX.cu x).cf) 3 1 kA)<|oc (jU (C:=(PX.cu x).cf) (k:=4) kA (h:=zYG))<|oc (zC3 kA (fun v W ⟨O,U,J⟩=>⟨O,x.2.n,U,J,rfl⟩))<|oc zA<|oc zA<|oc (zCe (z:=6) (Cs:=pxs L) (i:=k) (C:=PX.cu x) kA I iiz iiz)<|oc (zN (C:=(PX.cu x).cf) 3 kA)<|oc (qJ (C:=(PX.cu x).cf) 3 2 kA)<|oc (jU (C:=(PX.cu x).cf) (k:=5) kA (h:=zYF))<|oc (zC3 kA (fun v W ⟨O,U,J⟩=>⟨O,x.2.n',U,J,rfl⟩))<|oc (zTH (x.1.n) (x.1.n') (x.2.n) (x.2.n') iiz iiz iiz iiz)<|oc (zM .i64 ((max (max (max x.1.n x.1.n') x.2.n) x.2.n':Nat):Int) 1 (PX.b16 x) iiz iiz (by unfold PX.b16;show decide (((max (max (max x.1.n x.1.n') x.2.n) x.2.n':Nat):Int)>1)=_;rw[rS];omega) rfl)<|zB) fun a w4 s=>StS.cond s (PX.b16 x) iiz (fun e=>?_) (fun e=>?_)
  .refine lQ ?_
   exact rgE ((2,.u (uB true))::[]) s
    (oc zE<|zB) fun a w5 s=>pU<|wF s (t:=2) rfl (fun v W h=>by rw[zTZ h6 hxl e];exact h)
  .have h1:=e
   refine pV<|zW 2 ((12,.Z (uI (k:Int)))::(13,.u (uI ((k+1:Nat):Int)))::[]) s kA
    (oc zA<|oc (yI .i64 (k:Int) 1 ((k+1:Nat):Int) iiz iiz (wrap64 _ _ oA oA))<|zB) fun a w6 s=>?_
   replace s:=s.drop [3]
   exact yO (uI ((k+1:Nat):Int)) rfl s kA iiz fun a w s=>zD rfl<|⟨k+1,⟨by omega,by omega,fun j y hj hy=>by rcases tU (tZ hj)with h|h;exact hx.2.2 j y h hy;rw[h,hxl]at hy;cases hy;exact h1⟩,(by show 8-(k+1)<8-k;omega),s.keepK _ (fmz ⟨mz4,fmz ⟨.head _,fnz⟩⟩)⟩
 .have hend:L.length<=k∨k=8:=by
   rw[tY]at e
   rcases e with e|e
   .have h7:=nH e;simp at h7;omega
   .have h7:=nH e;omega
  exact tR<|rgQ ((46,.s (SF.row 6 (pxs L)))::(47,.Z (uI ((pxs L).length:Int)))::(48,.Z (uB (decide (((pxs L).length:Int)>7))))::(2,.u (uB (decide (((pxs L).length:Int)>7))))::[]) s
   (oc zA<|oc (zEC (z:=6) (Cs:=pxs L) kA iiz (fun _=>rfl))<|oc (zM .i64 ((pxs L).length:Int) 7 (decide (((pxs L).length:Int)>7)) iiz iiz rfl rfl)<|oc zE<|zB) fun a w7 s=>pU<|wF s (t:=2) rfl (fun v W h=>by rw[zTY (fun j y hj hy=>hx.2.2 j y (by have:=(bE.1 hy).1;omega) hy)];exact h)
section
variable {S:Nat->Prop}{F:Fence}{m:Nat}{P:Program}{Q:Exit->Act->WB->Prop}{w0 w1:WB}{K:List (Nat×KF)}{B:List Bx}{n:Nat}{ds:List Deferred}{a:Act}{w:WB}{ops:Array Oper}
theorem StS.is2{t t':Nat}{C C':CU}{b':Nat}{r O:Bool}(h:StS S w0 K [⟨t,e,C,b,r⟩,⟨t',e',C',b',O⟩] n ds a w)(hv:w.heap[b]?=some (.cells #[v] e (0,0)))(J:w.heap[b']?=some (.cells #[v'] e' (0,0))):StS S w0 K [⟨t,e,wC [v],b,r⟩,⟨t',e',wC [v'],b',O⟩] n ds a w:=by
 refine⟨h.gr,h.size,h.nd,h.sl,?_,h.mks,h.so⟩
 obtain⟨⟨cs,h1,h2,h3,h4,h5,h6⟩,⟨cs',g1,g2,I,g4,g5,g6⟩,h7⟩:=h.bx
 rw[show w.heap[b]?=_ from hv]at h3
 rw[show w.heap[b']?=_ from J]at I
 injection h3 with h3;injection h3 with h3
 injection I with I;injection I with I
 have e1:cs=[v]:=by simpa using vQ Array.toList h3.symm
 have e2:cs'=[v']:=by simpa using vQ Array.toList I.symm
 exact⟨⟨cs,h1,h2,hv.trans (by rw[e1]),e1,h5,fun y U=>by obtain rfl:=tS.1 U;exact h6 ⟨t',e',C',b',O⟩ (.head _)⟩,⟨cs',g1,g2,J.trans (by rw[e2]),e2,g5,fun y U=>by cases U⟩,h7⟩
theorem zMC{f:FuncId}{xs:Array Operand}{args:Array WE}{ats:Array WF}{R:WB->Prop}(hF:zJh F m P)(he:Enters P f)(h:StS S w1 K B n [] a w)(hS:S g∨w1.heap.size<=g)(ho:ops[k]?=some ⟨some d,.call ⟨.value (.func f),xs,ats⟩,ty,pos,aft,none⟩)
  (hf:j9 K B n d=true)(hu:(K.all fun q=>zJg q.2)=true)(hk:∀w',w.grownBy w' (some g)->y9 w w')(hB:∀q,q∈B->q.b≠g)(I:xs.map a.eval=args)(hc:Calls P f args w fun e w'=>e=.returned v'/\R w'/\w.grownBy w' (some g))
  (fin:∀a' w',R w'->w.grownBy w' (some g)->StS S w1 ((d,.u (UF.eq v'))::K) B n [] a' w'->zAW F m P ops Q (k+1) a' w'):zAW F m P ops Q k a w:=by
 subst I
 refine zAl ho rfl ⟨fun g _=>hF.1 g,?_⟩
 rw[bI _ _ _ (fun _ e=>by cases e),execOp_call_go,he]
 simp only[mD]
 refine⟨hF.2.1,bG (hF.2.2 _ _ _ _ (by simpa using hc)) fun e W' hh=>?_⟩
 obtain⟨rfl,hR,U⟩:=hh
 have J:=hk _ U
 have s1:StS S w1 K B n [] a W':=by
  refine⟨h.gr.grown U hS.symm,h.size,h.nd,fun q O=>?_,?_,⟨[],Marks.nil _ _⟩,.inl (yX hu)⟩
  .obtain⟨f,ef⟩:=yX hu q O
   have h1:=h.sl q O
   rw[ef]at h1 ⊢
   exact f.us _ _ _ h1 J
  .refine wO J B (fun q O=>?_) h.bx
   obtain⟨_,_,_,h3,_⟩:=h.bx.mem q O
   exact U.block _ (xP.1 h3).1 (fun e=>hB q O (by injection e))
 exact fin _ W' hR U (s1.set hf (xF _ _) rfl)
end
theorem zEm(n:Nat)(l:List V2):zJ1 (n+1) l=if l.length<=3 then some (zEX l)else match zHX l with|some i=>zJ1 n (l.eraseIdx i)|none=>match zR9 l with|some i=>(zJ1 n (l.eraseIdx i)).map (zAL l i::·)|none=>none:=rfl
structure CutI(n0:Nat)(row0:List V2)(acc:List V6)(row:List V2)(f:Nat):Prop where
 len:row.length<=f
 few:row.length<=12
 sum:acc.length+row.length<=12
 eq:(zJ1 f row).map (acc++·)=zJ1 n0 row0
theorem CutI.start(h:row.length<=12):CutI row.length row [] row row.length:=⟨vP _,h,by simpa using h,by cases zJ1 row.length row<;>simp⟩
theorem CutI.flat(h:CutI n0 row0 acc row f)(h3:3<row.length)(hi:zHX row=some i):∃f',f=f'+1/\CutI n0 row0 acc (row.eraseIdx i) f':=by
 obtain⟨f',rfl⟩:∃f',f=f'+1:=⟨f-1,by have:=h.len;omega⟩
 have I:i<row.length:=xT.1 (tT hi)
 have e:=h.eq
 rw[zEm]at e
 rw[if_neg oA]at e
 rw[hi]at e
 refine⟨f',rfl,?_,?_,?_,e⟩
 .have:=h.len;rw[zHS I];omega
 .have:=h.few;rw[zHS I];omega
 .have:=h.sum;rw[zHS I];omega
theorem CutI.ear(h:CutI n0 row0 acc row f)(h3:3<row.length)(h0:zHX row=none)(hi:zR9 row=some i):∃f',f=f'+1/\CutI n0 row0 (acc++ [zAL row i]) (row.eraseIdx i) f':=by
 obtain⟨f',rfl⟩:∃f',f=f'+1:=⟨f-1,by have:=h.len;omega⟩
 have I:i<row.length:=xT.1 (tT hi)
 have e:=h.eq
 rw[zEm]at e
 rw[if_neg oA,h0]at e
 simp only[hi]at e
 refine⟨f',rfl,?_,?_,?_,?_⟩
 .have:=h.len;rw[zHS I];omega
 .have:=h.few;rw[zHS I];omega
 .have:=h.sum;rw[uF,List.length_singleton,zHS I];omega
 .rw[<-e]
  cases zJ1 f' (row.eraseIdx i)<;>simp
theorem CutI.none(h:CutI n0 row0 acc row f)(h3:3<row.length)(h0:zHX row=none)(h1:zR9 row=none):zJ1 n0 row0=none:=by
 obtain⟨f',rfl⟩:∃f',f=f'+1:=⟨f-1,by have:=h.len;omega⟩
 have e:=h.eq
 rw[zEm]at e
 rw[if_neg oA,h0]at e
 simp only[h1]at e
 exact e.symm
theorem CutI.done(h:CutI n0 row0 acc row f)(h0:0<f)(h3:row.length<=3):zJ1 n0 row0=some (acc++zEX row):=by
 obtain⟨f',rfl⟩:∃f',f=f'+1:=⟨f-1,by omega⟩
 have e:=h.eq
 rw[zEm]at e
 rw[if_pos h3]at e
 exact e.symm
theorem zHY(h:∀j,j<n->p j=false):(List.range n).find? p=none:=by
 rw[tX]
 intro j I
 rw[h j (xT.1 I)]
 decide
theorem zOs(hk:k<n)(h:∀j,j<k->p j=false)(e:p k=true):(List.range n).find? p=some k:=by
 obtain⟨d,rfl⟩:∃d,n=k+1+d:=⟨n-(k+1),by omega⟩
 rw[List.range_add,cS,List.find?_append,List.find?_append,zHY h]
 simp[e]
structure CutM(base b2 b3:Nat)(acc:List V6)(row:List V2)(vo:Value)(g cap:Nat)(w:World):Prop where
 sz:base<=w.heap.size
 h2:w.heap[b2]?=some (.cells #[vo] 33 (0,0))
 h3:w.heap[b3]?=some (.cells #[.slice (some ⟨g,0,none⟩) row.length cap] 22 (0,0))
 ro:zAk w base 38 18 vo (tns acc)
 gb:base<=g
 rr:zDU w g 30 6 cap (pns row)
theorem zDU.keepC(h:zDU w g e z cap Cs)(J:zDQ w w'):zDU w' g e z cap Cs:=by
 obtain⟨I,O,h2,h3,U,h5,h6⟩:=h
 exact⟨I,J.2 _ _ O rfl,h2,h3,U,h5,fun i C hi=>C.us _ _ _ (h6 i C hi) J.keepU⟩
theorem CutM.keepC{J O:Nat}{vo:WE}(h:CutM base J O acc row vo g cap w)(I:zDQ w w'):CutM base J O acc row vo g cap w':=
 ⟨xQ h.sz I.1,I.2 _ _ h.h2 rfl,I.2 _ _ h.h3 rfl,h.ro.keepC I,h.gb,h.rr.keepC I⟩
def fCM(base b2 b3:Nat)(acc:List V6)(row:List V2)(vo:WE)(g cap:Nat):SF:=⟨fun v w=>v=.slice (some ⟨g,0,none⟩) row.length cap/\CutM base b2 b3 acc row vo g cap w,fun _ _ _ h hb=>⟨h.1,h.2.keepC (zBu hb)⟩⟩
theorem zDU.keep(h:zDU w g e z cap Cs)(hb:w'.heap[g]?=w.heap[g]?)(O:y9 w w'):zDU w' g e z cap Cs:=by
 obtain⟨I,J,h2,h3,U,h5,h6⟩:=h
 exact⟨I,hb.trans J,h2,h3,U,h5,fun i C hi=>C.us _ _ _ (h6 i C hi) O⟩
theorem zDU.at(h:zDU w g e z cap Cs):∃cur:Array WE,w.heap[g]?=some (.cells cur e (0,0)):=⟨h.choose,h.choose_spec.1⟩
theorem zAM(ps:List V2):(pns ps).length=ps.length:=by simp[pns]
theorem zIF(ps:List V2)(i:Nat):(pns ps).eraseIdx i=pns (ps.eraseIdx i):=by
 unfold pns
 rw[zZa,zZa,rR,List.map_take,List.map_drop]
theorem jT{cs cs':Array WE}{z O:Nat×Nat}(h:w.heap[b]?=some (.cells cs e z))(I:w.heap[c]?=some (.cells cs' e' O))(J:e≠e'):b≠c:=fun k=>by
 subst k
 rw[h]at I
 injection I with I
 injection I with _ I
 exact J I
theorem qV(h:zAk w base e z v Cs){g:Nat}(I:v.ownBlock=some g):∃cur:Array WE,w.heap[g]?=some (.cells cur e (0,0)):=by
 rcases h with⟨rfl,_⟩|⟨g',cap,cur,rfl,hb,J,h2⟩
 .simp[Value.ownBlock]at I
 .simp[Value.ownBlock]at I
  subst I
  exact⟨cur,J⟩
theorem zOe{S':Nat->Prop}{w1:WB}(hb:BlS S' w w1)(h:∀q,S' q->∃(cs:Array WE) (t:WF) (z:Nat×Nat),w.heap[q]?=some (.cells cs t z)/\cs.toList.all zX=true):y9 w w1:=fun q u J=>by
 have I:=xJ w _ J
 by_cases e:S' q.block
 .exfalso
  obtain⟨cs,t,z,h3,O⟩:=h _ e
  have:=zCu h3 O rfl J
  cases this
 .exact(bR (hb.block _ I e)).trans J
section
variable {S:Nat->Prop}{P:Program}{Q:Exit->Act->WB->Prop}{w0:WB}{K:List (Nat×KF)}{B:List Bx}{n:Nat}{ds:List Deferred}{a:Act}{w:WB}{ops:Array Oper}{m:Nat}{F:Fence}
theorem zDX{kk o:Nat}{t:WF}{x:Operand}(C:CU)(f:SF)(ho:ops[k]?=some ⟨none,.store t x y,ty,pos,aft,none⟩)(h:StS S w0 K B n ds a w)(I:zLw P t=some kk){z:Bx}(hB:zF0 B c=some z)(O:z.r=false)
  (hp:∀v W,(Wd.fct (jM K B) x).p v W->v= pO z.b o)(hy:∀v W,(Wd.fct (jM K B) y).p v W->f.p v W)
  (hv:∀v W,f.p v W->v.cells.size=kk/\(∀u,u∈v.cells.toList->u.oneCell'=true)/\v.cells.toList.all zX=true/\∀cs,z.c.p cs W->o+kk<=cs.length/\C.p (jH cs o v.cells.toList) W)
  (fin:∀w',w.grownBy w' (some z.b)->y9 w w'->StS S w0 K (zE2 B c C) n ds a w'->zAW F m P ops Q (k+1) a w'):zAW F m P ops Q k a w:=by
 obtain⟨hz,hzc⟩:=zAq hB
 obtain⟨cs,h1,h2,h3,h4,h5⟩:=h.bx.mem z hz
 have e1:=hp _ _ (h.fct x)
 obtain⟨g1,g2,g3,g4⟩:=hv _ _ (hy _ _ (h.fct y))
 obtain⟨g5,g6⟩:=g4 cs h4
 have hk:y9 w (w.setRow z.b (jH cs o (a.eval y).cells.toList).toArray):=zB9 h3 (by simpa using h5)
 have J:(execOp a.eval ⟨none,.store t x y,ty,pos,aft,none⟩).run P w=.ok .skip (w.setRow z.b (jH cs o (a.eval y).cells.toList).toArray):=by
  unfold zLw at I
  cases hi:P.info? t with
  |none=>rw[hi]at I;cases I
  |some i=>
   rw[hi]at I
   simp only[mB,lY]at I
   have hr:=zAp (P:=P) (a.eval y).cells.toList o cs w h3 (by simp;omega) g2
   have hs:=zBw (b:=z.b) (a.eval y).cells.toList o 0
   rw[uM]at hs
   simp[execOp,Instr.storeAt,Instr.sureAddr,e1,storeVar,sizeOf,typeInfo,hi,I,g1,hs,hr]
 refine zAl ho rfl ⟨fun f hf=>(by cases hf),?_⟩
 rw[bI _ _ _ (fun _ e=>by cases e),J]
 refine fin _ (zBB w z.b _) hk (h.turn hB O (zBB w z.b _) (sZ w z.b cs.toArray _ z.e (0,0) h3) (C.us _ _ _ g6 hk) ?_)
 unfold jH
 simp only[mA,xV]
 refine⟨⟨xR.2 fun u U=>xR.1 h5 u (uV U),g3⟩,xR.2 fun u U=>xR.1 h5 u (uZ U)⟩
theorem zUR{x:Operand}{t:WF}(Ds:List CU)(h:StS S w0 K B n ds a w)(hr:zAk w w0.heap.size e z v Cs)
  (ho:ops[k]?=some ⟨some d,.call ⟨.builtin .append,#[x,y],#[t,t]⟩,ty,pos,aft,none⟩)(happ:zEO P t=some (e,z,true))(hf:j9 K B n d=true)(hu:(K.all fun q=>zJg q.2)=true)
  (hx:a.eval x=v)(hy:(SF.row z Ds).p (a.eval y) w)(hD:∀C,C∈Ds->CU.ok z C)(hsz:Cs.length+Ds.length<=140000000000)(hB:∀q,q∈B->v.ownBlock≠some q.b)
  (fin:∀v' a' w',zAk w' w0.heap.size e z v' (Cs++Ds)->(∀q,q∈B->v'.ownBlock≠some q.b)->StS S w0 ((d,.u (UF.eq v'))::K) B n ds a' w'->zAW F m P ops Q (k+1) a' w'):zAW F m P ops Q k a w:=by
 obtain⟨v',w',hrun,g1,g2,g3⟩:=zHd (P:=P) (ty:=ty) happ hr hy hD hsz h.gr.size
 have hrun2:(execOp a.eval ⟨some d,.call ⟨.builtin .append,#[x,y],#[t,t]⟩,ty,pos,aft,none⟩).run P w=.ok (.value v') w':=by
  simp only[execOp,resolve,invoke,builtin,cD,cF,cL,cP,xX,bV,hx,hrun]
 refine zAl ho rfl ⟨fun f hf=>(by
  unfold Oper.about at hf
  simp[resolve,go_sem]at hf),?_⟩
 rw[bI _ _ _ (fun _ e=>by cases e),hrun2]
 have hk:y9 w w':=hr.keepU g2
 have s1:StS S w0 K B n ds a w':=by
  refine⟨?_,h.size,h.nd,fun q hq=>?_,?_,?_,.inl (yX hu)⟩
  .cases hv:v.ownBlock with
   |none=>
    refine⟨g2.os.trans h.gr.os,g2.tape.trans h.gr.tape,g2.output.trans h.gr.output,xQ h.gr.size g2.size,fun k hk1 hk2=>?_⟩
    exact(g2.block k (vU hk1 h.gr.size) (by rw[hv];simp)).trans (h.gr.block k hk1 hk2)
   |some g=>exact h.gr.grown (by rw[hv]at g2;exact g2) (.inl (hr.lt g hv).1)
  .obtain⟨f,ef⟩:=yX hu q hq
   have h1:=h.sl q hq
   rw[ef]at h1 ⊢
   exact f.us _ _ _ h1 hk
  .refine wO hk B (fun q hq=>?_) h.bx
   obtain⟨_,_,hc,h3,_⟩:=h.bx.mem q hq
   exact g2.block _ (xP.1 h3).1 fun e=>hB q hq e.symm
  .refine h.mks.imp fun _ hm=>hm.keep fun q o hq ho=>(g2.block q (xP.1 hq).1 fun e=>?_).trans hq
   obtain⟨_,cs,_,_,h3,_⟩:=zDo hr e.symm
   rw[h3]at hq
   cases hq
   cases ho
 refine fin v' _ w' g1 (fun q hq e=>?_) (s1.set hf (xF _ _) rfl)
 rcases g3 with g3|g3
 .exact hB q hq (g3.symm.trans e)
 .obtain⟨_,_,_,h3,_⟩:=h.bx.mem q hq
  have h5:=(xP.1 h3).1
  have h6:=g3.symm.trans e
  injection h6 with h6
  omega
end
def fVR(base:Nat)(e:WF)(z:Nat)(v:WE)(Cs:List CU):SF:=⟨fun u w=>u=v/\zAk w base e z v Cs,fun _ _ _ h hb=>⟨h.1,h.2.keepC (zBu hb)⟩⟩
def fIR(base:Nat)(e:WF)(z:Nat)(i:Int)(v:WE)(Cs:List CU):SF:=⟨fun u w=>u=.int .i64 i/\zAk w base e z v Cs,fun _ _ _ h hb=>⟨h.1,h.2.keepC (zBu hb)⟩⟩
structure CutS where
 acc:List V6
 row:List V2
 vo:WE
 g:Nat
 cap:Nat
 f:Nat
theorem zHi{K:List (Nat×KF)}{B:List Bx}{ds:List Deferred}{a:Act}{P:Program}(h:St w0 K B n ds a w){fn:Func}(v:WE){t:Nat}{e:WF}{f:SF}(hr:fn.results=#[.cell t e])(J:zDM P e=true){y:Bx}(hB:zF0 B t=some y)(hv:w.heap[y.b]?=some (.cells #[v] y.e (0,0)))(O:∀w',Oth w0.heap.size w w'->f.p v w'):bodyPostM Fence.wide 0 P fn (Ret w0 f) .ret a w:=by
 obtain⟨hy,rfl⟩:=zAq hB
 obtain⟨cs,U,h2,h3,h4,h5⟩:=h.bx.mem y hy
 have h0:a.tmps[y.t]?.getD undef= (pO y.b 0):=by rw[<-xU];exact U
 refine h.resM (v:=v) (fun w' ho=>?_) O
 have I:w.heap[y.b]?=some (.cells [v].toArray y.e (0,0)):=hv
 have hm:=zBd (zNF ho I)
 have:=zBq J hm (u:=v) rfl
 simp[results,hr,asAddr,h0,this]
theorem zI6(hl:(SF.row 6 (pvs 1 ps)).p l W)(ul:0<ps.length)(hn:ps.length<=12)(hT:Tab W):Calls prog 9 #[l] W (Ret W (wG W 38 18 (tns (zEU ps)))):=by
  have t1:=zKN dA hl
  refine zMW [(UF.eq l).tS] func9 rfl kA ⟨rfl,trivial⟩ fun a s=>?_
  replace s:=s.renew [(0,.u (UF.eq l))] (fmz ⟨.inr ⟨_,rfl,.head _⟩,fnz⟩)
  refine lQ<|rgK 0 [] s
    zB fun a w1 s=>z9 (wC [sN]) (cs:=[sN]) kA rfl s kA (fun W=>rfl) rfl fun O a w s=>zD rfl<|(bL (n:=0)).2 (wp_scope_straight ((bL (n:=0)).1 ?_))
  refine lQ<|rgL 2 ((9,.s (UF.eq l).tS)::(10,.s (wG W 30 6 (pns (jV ps))))::[]) s
    (oc zA<|oc (zG zC zXU (fun u0 X hb (h0:u0=l)=>(zMz (by rw[show u0=l from h0];exact(SF.row 6 (pvs 1 ps)).st _ _ _ hl (s.up hb)) ul hn (hT.below (s.up hb))).mono (wH (jA (s.up hb).size))))<|zB) fun a w3 s hr=>?_
  obtain⟨v10,e10⟩:∃v,a.tmps.getD 10 undef=v:=⟨_,rfl⟩
  have ze:zAk w3 W.heap.size 30 6 v10 (pns (jV ps)):=e10▸hr (_,_) mz1
  obtain⟨g0,hS,ev,v3,yq⟩:=zU2 ze (by rw[zAM,zHC];exact ul)
  rw[zAM]at ev
  subst ev
  replace s:=s.learn 10 _ e10
  replace s:=s.keepK [(10,.u (UF.eq (.slice (some ⟨g0,0,none⟩) (jV ps).length hS)))] (fmz ⟨.head _,fnz⟩)
  have s3:=s
  obtain⟨t4,t2,xo,_⟩:=s.boxAt (c:=2) rfl
  obtain rfl:t4=[sN]:=xo
  replace s:=s.move (fun q=>q=O) (fun q ⟨x,hx,e,_⟩=>by obtain rfl:=tS.1 hx;exact e.symm) kA
  have sM:=s
  refine z9 (CU.len 1) (cs:=[sN]) kA rfl s kA (fun W=>rfl) rfl fun b3 a w s=>zAc (c:=3) (o:=0) (kk:=1) (wC [.slice (some ⟨g0,0,none⟩) (jV ps).length hS]) ((UF.eq (.slice (some ⟨g0,0,none⟩) (jV ps).length hS)).tS) rfl s kA rfl rfl (fun _ _ h=>h.1) iiz (zGd fun cs W h=>h) fun a w4 s=>zD rfl ?_
  have t6:y9 w3 w4:=qN (s.gr.sub (fun q I=>⟨_,.head _,I.symm,rfl⟩)) sM.bx
  have u5:g0≠O:=jT yq.at.choose_spec t2 (show(30:WF)≠33 by decide)
  have zj:=yq.keep (s.gr.block g0 (xP.1 yq.at.choose_spec).1 u5) t6
  obtain⟨uf,zk,xx,_⟩:=s.boxAt (c:=2) rfl
  obtain rfl:uf=[sN]:=xx
  obtain⟨vb,v9,t3,_⟩:=s.boxAt (c:=3) rfl
  obtain rfl:vb=[.slice (some ⟨g0,0,none⟩) (jV ps).length hS]:=t3
  have um:=s.gr.size
  have vv:=s3.gr.size
  replace s:=wN s3 s (fun q I=>.inr (by rw[I];exact s3.inB_new ⟨_,.head _,rfl,rfl⟩)) kA
  have v1:CutM W.heap.size O b3 [] (jV ps) (sN) g0 hS w4:=⟨xQ vv um,zk,v9,zAk.nil _ _ _ _,v3,zj⟩
  have vf:∀p,p∈jV ps->QB p.1 1/\QB p.2 1:=fun p hp=>t1 p ((zFd p).1 hp)
  have hNl:=zHC ps
  replace s:=s.keepK [] fnz
  replace s:StS noS W [] [⟨3,22,CU.len 1,b3,false⟩,⟨2,33,CU.len 1,O,false⟩] f9.ntmps [] a w4:=(s.weakB 3 (CU.len 1) rfl (qD kA) (fun cs W h=>by rw[show cs=_ from h];rfl)).weakB 2 (CU.len 1) rfl (qD kA) (fun cs W h=>by rw[show cs=_ from h];rfl)
  have few:(jV ps).length<=12:=by omega
  refine lQ<|wpIn_label<|lQ<|tQ<|zDu (fun(x:CutS) a w=>∃ds,CutI (jV ps).length (jV ps) x.acc x.row x.f/\0<x.f/\0<x.row.length/\(∀p,p∈x.row->QB p.1 1/\QB p.2 1)/\CutM W.heap.size O b3 x.acc x.row x.vo x.g x.cap w/\StS noS W [] [⟨3,22,CU.len 1,b3,false⟩,⟨2,33,CU.len 1,O,false⟩] f9.ntmps ds a w) (fun x=>x.f) ⟨[],jV ps, sN,g0,hS,(jV ps).length⟩ ⟨[],CutI.start few,by show 0<(jV ps).length;omega,by show 0<(jV ps).length;omega,vf,v1,s⟩ fun x a w hx=>?_
  obtain⟨ds,hI,vn,hr0,xb,hM,s⟩:=hx
  have hrow:(SF.row 6 (pns x.row)).p (.slice (some ⟨x.g,0,none⟩) x.row.length x.cap) w:=(hM.rr.toN lr (zAM _).symm).row
  have hTw:=hT.below s.below
  have v4:=s.is2 hM.h3 hM.h2
  refine lQ<|lQ<|rgL 3 ((11,.s (fCM W.heap.size O b3 x.acc x.row x.vo x.g x.cap))::(12,.s (uI (x.row.length:Int)).tS)::(13,.u (uB (decide ((x.row.length:Int)>3))))::[]) v4
    (oc (zCr (v:=(.slice (some ⟨x.g,0,none⟩) x.row.length x.cap)) (f:=fCM W.heap.size O b3 x.acc x.row x.vo x.g x.cap) kA (fun _ _ h=>h.2) ⟨rfl,hM⟩)<|oc (zC3 kA (fun v W h=>⟨_,_,_,h.1,rfl⟩))<|oc (zM .i64 (x.row.length:Int) 3 (decide ((x.row.length:Int)>3)) iiz iiz rfl rfl)<|zB) fun a w1 s hr=>?_
  have qp:=(hr (_,_) (.head _)).2
  refine zD rfl<|StS.cond s (decide ((x.row.length:Int)>3)) iiz (fun e=>?_) (fun e=>?_)
  . have h4:3<x.row.length:=by have:=xW e;omega
    refine pV<|tQ<|lQ<|lQ ?_
    replace s:=s.keepK [] fnz
    have u2:=hT.below s.below
    have hrow1:(SF.row 6 (pns x.row)).p (.slice (some ⟨x.g,0,none⟩) x.row.length x.cap) w1:=(qp.rr.toN lr (zAM _).symm).row
    have hbs1:=s.gr.size
    refine rgL 2 ((14,.s (fCM W.heap.size O b3 x.acc x.row x.vo x.g x.cap))::(15,.s (zOw w1 67 22 (wC [(.slice (some ⟨x.g,0,none⟩) x.row.length x.cap)])))::[]) s
      (oc (zCr (v:=(.slice (some ⟨x.g,0,none⟩) x.row.length x.cap)) (f:=fCM W.heap.size O b3 x.acc x.row x.vo x.g x.cap) kA (fun _ _ h=>h.2) ⟨rfl,qp⟩)<|oc (zG zC zV5 (fun u0 X hb (h0:(fCM W.heap.size O b3 x.acc x.row x.vo x.g x.cap).p u0 X)=>by rw[h0.1];exact(zGG ⟨rfl,rfl⟩).mono (wH (zI0 hb.size))))<|zB) fun a w2 s hr=>?_
    have hm:=(hr (_,_) (.head _)).2
    obtain⟨bc,t0,ec,hbc1,ua,u8,hbc4⟩:=hr (_,_) mz1
    refine zD rfl<|tQ ?_
    obtain rfl:t0=[(.slice (some ⟨x.g,0,none⟩) x.row.length x.cap)]:=u8
    replace s:=s.learn 15 (.func (.func 67) #[] #[pO bc 0]) ec
    replace s:=s.keepK [(15,.u (UF.eq (.func (.func 67) #[] #[pO bc 0])))] (fmz ⟨.head _,fnz⟩)
    replace s:StS noS W [(15,.u (UF.eq (.func (.func 67) #[] #[pO bc 0])))] [⟨3,22,CU.len 1,b3,false⟩,⟨2,33,CU.len 1,O,false⟩] f9.ntmps ds a w2:=(s.weakB 3 (CU.len 1) rfl (qD kA) (fun cs W h=>by rw[show cs=_ from h];rfl)).weakB 2 (CU.len 1) rfl (qD kA) (fun cs W h=>by rw[show cs=_ from h];rfl)
    have hb2l:O<w1.heap.size:=(xP.1 qp.h2).1
    have hb3l:b3<w1.heap.size:=(xP.1 qp.h3).1
    have hgl:x.g<w1.heap.size:=(xP.1 qp.rr.at.choose_spec).1
    have y4:∀q,inB ([⟨3,22,CU.len 1,b3,false⟩,⟨2,33,CU.len 1,O,false⟩]) q->q=b3∨q=O:=fun q ⟨y,hy,e,_⟩=>by
      rcases xS.1 hy with rfl|hy
      . exact .inl e.symm
      . obtain rfl:=tS.1 hy
        exact .inr e.symm
    have zd:=hT.below s.below
    have hN:(SF.row 6 (pns x.row)).p (.slice (some ⟨x.g,0,none⟩) x.row.length x.cap) w2:=(hm.rr.toN lr (zAM _).symm).row
    refine zFv (N:=x.row.length) (fun k=> [⟨3,22,CU.len 1,b3,false⟩,⟨2,33,CU.len 1,O,false⟩]) ([⟨3,22,CU.len 1,b3,false⟩,⟨2,33,CU.len 1,O,false⟩]) (.exit 1) (fun k=> [(16,.u (uI ((k:Nat):Int))),(17,.u (fTN (zAL x.row k)))]) s iiz (enters_of func67 kA rfl) (M:=fun q=>q=x.g) (fun q I=>by
        obtain⟨U,c1,c2,c3,c4,c5,c6⟩:=hm.rr
        rw[I]
        exact⟨hm.gb,(xP.1 c1).1,U,_,_,c1,c5⟩)
      (zGJ (b:=bc) (g:=x.g) (cap:=x.cap) (ps:=x.row) ua hN rfl (fun hc=>by rcases y4 _ hc with e|e<;>omega) (fun hc=>by have:bc=x.g:=hc;omega) (by have:=hI.few;omega))
      (X:=fun k R W'=>CutM W.heap.size O b3 x.acc x.row x.vo x.g x.cap W'/\∀j,j<k->(zBi (zAL x.row j)==0)=false)
      (XZ:=fun W'=>∃i,zHX x.row=some i/\CutM W.heap.size O b3 x.acc (x.row.eraseIdx i) x.vo x.g x.cap W')
      (fun k R A B hE h=>⟨h.1.keepC hE,h.2⟩) (fun A B hE ⟨i,h1,h2⟩=>⟨i,h1,h2.keepC hE⟩) ⟨hm,fun j hj=>absurd hj (rT _)⟩ (fun k=>rfl) ?_ rfl rfl rfl (fun k=>rfl) rfl (fun l_ k R xs WR hk yA yr vk v6 so s=>?_) (fun D WD R vr s=>?_) (fun D WD hz s=>?_)
    . intro k q I
      simp only[xS,rO,rN]at I
      rcases I with rfl|rfl
      . exact .inr ⟨0,_,rfl,rfl,rfl⟩
      . exact .inr ⟨1,_,rfl,rfl,rfl⟩
    . obtain⟨h9,xf⟩:=yA
      have vz:=hT.below so.below
      replace s:=s.is2 h9.h3 h9.h2
      generalize({ tmps:=_,defers:=[] }:Act)=a at s ⊢
      replace s:=s.move (fun q=>q=b3∨q=O) (fun q I=>by
        obtain⟨y,hy,e,_⟩:=I
        rcases xS.1 hy with rfl|hy
        . exact .inl e.symm
        . obtain rfl:=tS.1 hy
          exact .inr e.symm) kA
      have sR:=s
      refine rgQ ((4,.u (uI (k:Int)))::[]) s
        (oc zE<|zB) fun a w5 s=>rgK 0 [] s
        zB fun a w6 s=>?_
      have xk:=s.gr.size
      refine zG2 (CU.len 18) (cs:=[.bool false, sN, sN,.bool false, sN, sN,.bool false, sN, sN,.bool false, sN, sN,.bool false, sN, sN,.bool false, sN, sN]) kA rfl s kA (fun W=>rfl) rfl fun b5 a w hL s=>?_
      replace hL:=xQ xk hL
      refine zR (CU.agg (fTN (zAL x.row k))) ((fTN (zAL x.row k)).tS) rfl s kA rfl rfl rfl iiz iiz zGX fun a w7 s=>zD rfl ?_
      have xg:=s.gr.size
      have qc:y9 WR w7:=qN (s.gr.sub (fun q I=>by
        rcases I with I|I
        . exact⟨_,.head _,I.symm,rfl⟩
        . exact⟨_,mz1,I.symm,rfl⟩)) sR.bx
      obtain⟨ca,yl,yx,_⟩:=s.boxAt (c:=3) rfl
      obtain rfl:ca=[(.slice (some ⟨x.g,0,none⟩) x.row.length x.cap)]:=yx
      obtain⟨cb,yt,yd,_⟩:=s.boxAt (c:=2) rfl
      obtain rfl:cb=[x.vo]:=yd
      have x1:∀{g:Nat} {U:Array WE} {e:WF},WR.heap[g]?=some (.cells U e (0,0))->e≠22->e≠33-> ¬(g=b3∨g=O):=fun h1 h2 h3 I=>by
        rcases I with I|I
        . exact jT h1 h9.h3 h2 I
        . exact jT h1 h9.h2 h3 I
      obtain⟨cg,hR⟩:=h9.rr.at
      have xu:w7.heap[x.g]?=WR.heap[x.g]?:=s.gr.block x.g (xP.1 hR).1 (x1 hR dA dA)
      have yc:CutM W.heap.size O b3 x.acc x.row x.vo x.g x.cap w7:=⟨xQ h9.sz xg,yt,yl,h9.ro.keep (fun g hg=>by
        obtain⟨U,J⟩:=qV h9.ro hg
        exact s.gr.block g (xP.1 J).1 (x1 J dA dA)) qc,h9.gb,h9.rr.keep xu qc⟩
      have ui:W.heap.size<=b3:=so.inB_new ⟨_,.head _,rfl,rfl⟩
      have zu:W.heap.size<=O:=so.inB_new ⟨_,mz1,rfl,rfl⟩
      have x7:bW W w7:=⟨s.gr.os.trans so.gr.os,s.gr.tape.trans so.gr.tape,s.gr.output.trans so.gr.output,xQ so.gr.size s.gr.size,fun q I=>(s.gr.block q (vU I so.gr.size) (fun h=>by rcases h with h|h<;>omega)).trans (so.gr.block q I (fun h=>h))⟩
      have yh:=hT.below x7
      refine⟨s.gr.sub (fun q I=>.inl (by
        rcases I with I|I
        . exact⟨_,.head _,I.symm,rfl⟩
        . exact⟨_,mz1,I.symm,rfl⟩)),fun W2 hE qr ys=>?_⟩
      have h7:=yc.keepC hE
      have yV:Tab W2:=fun j hj=>(qr _).trans (yh j hj)
      have hA:WR.heap.size<=b5:=hL
      replace s:=ys _ _ (s.wider (fun q=>inB ([⟨3,22,CU.len 1,b3,false⟩,⟨2,33,CU.len 1,O,false⟩]) q∨WR.heap.size<=q∨R q∨q=x.g) (fun q I=>.inl (by
        rcases I with I|I
        . exact⟨_,.head _,I.symm,rfl⟩
        . exact⟨_,mz1,I.symm,rfl⟩)) kA)
      have sW:=s
      replace s:=s.move (fun q=>q=b3∨q=O∨q=b5) (fun q I=>by
        obtain⟨y,hy,e,_⟩:=I
        rcases xS.1 hy with rfl|hy
        . exact .inr (.inr e.symm)
        . rcases xS.1 hy with rfl|hy
          . exact .inl e.symm
          . obtain rfl:=tS.1 hy
            exact .inr (.inl e.symm)) kA
      have sN:=s
      refine tQ<|rgQ ((18,.s (fTN (zAL x.row k)).tS)::(19,.s (uI (zBi (zAL x.row k))).tS)::(20,.u (uB (zBi (zAL x.row k)==0)))::[]) s
        (oc (zH (f:=fTN (zAL x.row k)) 18 kA (hz:=zId _))<|oc (zG zDh zT9 (fun u0 X hb (h0:(fTN (zAL x.row k)).p u0 X)=>zHZ (m:=1) (zPj (zSE xb hk) h0) dA dA (yV.below hb)))<|oc (zM .i64 (zBi (zAL x.row k)) 0 (zBi (zAL x.row k)==0) iiz iiz rfl rfl)<|zB) fun a w9 s=>?_
      have qa:y9 W2 w9:=qN (s.gr.sub (fun q I=>by
        rcases I with I|I|I
        . exact⟨_,mz1,I.symm,rfl⟩
        . exact⟨_,mz2,I.symm,rfl⟩
        . exact⟨_,.head _,I.symm,rfl⟩)) sN.bx
      have ha:∀{g:Nat} {U:Array WE} {e:WF},W2.heap[g]?=some (.cells U e (0,0))->g<WR.heap.size->e≠22->e≠33-> ¬(g=b3∨g=O∨g=b5):=fun h1 h0 h2 h3 I=>by
        rcases I with I|I|I
        . exact jT h1 h7.h3 h2 I
        . exact jT h1 h7.h2 h3 I
        . omega
      obtain⟨vm,he⟩:=h7.rr.at
      have xe:x.g<WR.heap.size:=(xP.1 hR).1
      have xt:w9.heap[x.g]?=W2.heap[x.g]?:=s.gr.block x.g (xP.1 he).1 (ha he xe dA dA)
      have hV:∀g,x.vo.ownBlock=some g->g<WR.heap.size:=fun g hg=>by
        obtain⟨U,J⟩:=qV h9.ro hg
        exact(xP.1 J).1
      obtain⟨cc,z4,xo,_⟩:=s.boxAt (c:=3) rfl
      obtain rfl:cc=[(.slice (some ⟨x.g,0,none⟩) x.row.length x.cap)]:=xo
      obtain⟨cd,yu,z1,_⟩:=s.boxAt (c:=2) rfl
      obtain rfl:cd=[x.vo]:=z1
      have z3:CutM W.heap.size O b3 x.acc x.row x.vo x.g x.cap w9:=⟨xQ h7.sz s.gr.size,yu,z4,h7.ro.keep (fun g hg=>by
        obtain⟨U,J⟩:=qV h7.ro hg
        exact s.gr.block g (xP.1 J).1 (ha J (hV g hg) dA dA)) qa,h7.gb,h7.rr.keep xt qa⟩
      have qg:w9.heap[x.g]?=w2.heap[x.g]?:=xt.trans ((hE.2 _ _ (xu.trans hR) rfl).trans (hR.symm.trans (yr x.g rfl)))
      refine StS.cond s (zBi (zAL x.row k)==0) iiz (fun e=>?_) (fun e=>?_)
      . have yn:zHX x.row=some k:=zOs hk xf e
        have t5:k<12:=by have:=hI.few;omega
        replace s:=s.keepK [(4,.u (uI (k:Int)))] (fmz ⟨by repeat (first|exact List.Mem.head _|apply List.Mem.tail),fnz⟩)
        refine lQ<|rgK 4 ((21,.u (UF.eq (.slice (some ⟨x.g,0,none⟩) x.row.length x.cap)))::(22,.u (uI (k:Int)))::(23,.u (uI (k:Int)))::(24,.u (uI ((k+1:Nat):Int)))::[]) s
          (oc (qB (C:=(wC [.slice (some ⟨x.g,0,none⟩) x.row.length x.cap]).cf) kA (fun _ _ h=>h.2) zAK)<|oc zA<|oc zA<|oc (yI .i64 (k:Int) 1 ((k+1:Nat):Int) iiz iiz (wrap64 _ _ oA oA))<|zB) fun a qz s=>?_
        have hK:y9 W2 qz:=qN (s.gr.sub (fun q I=>by
          rcases I with I|I|I
          . exact⟨_,mz1,I.symm,rfl⟩
          . exact⟨_,mz2,I.symm,rfl⟩
          . exact⟨_,.head _,I.symm,rfl⟩)) sN.bx
        have u3:qz.heap[x.g]?=W2.heap[x.g]?:=s.gr.block x.g (xP.1 he).1 (ha he xe dA dA)
        have hh:=h7.rr.keep u3 hK
        have hf:=h7.ro.keep (fun g hg=>by
          obtain⟨U,J⟩:=qV h7.ro hg
          exact s.gr.block g (xP.1 J).1 (ha J (hV g hg) dA dA)) hK
        have xa:=s.gr.size
        obtain⟨cc',y3,xx,_⟩:=s.boxAt (c:=3) rfl
        obtain⟨cd',ya,hd4',_⟩:=s.boxAt (c:=2) rfl
        replace s:=wN sW s (fun q I=>by
          rcases I with rfl|rfl|rfl
          . exact .inl (.inl ⟨_,.head _,rfl,rfl⟩)
          . exact .inl (.inl ⟨_,mz1,rfl,rfl⟩)
          . exact .inl (.inr (.inl hA))) kA
        have u9:=s.val (.head _)
        have ud:=s.val mz1
        have zt:=s.val mz3
        have hc:=zRx (W:=qz) (g:=x.g) (cap:=x.cap) (i:=k) (v:=a.tmps.getD 21 undef) (u:=a.tmps.getD 22 undef) (x:=a.tmps.getD 24 undef) hh (zIE _) (by rw[zAM];exact hk) (by rw[zAM];have:=hI.few;omega) (by rw[zAM];exact u9) ud zt
        have qk:(#[.tmp 21,.tmp 22,.tmp 24]:Array Operand).map a.eval=#[a.tmps.getD 21 undef,a.tmps.getD 22 undef,a.tmps.getD 24 undef]:=by
          rw[cP]
          simp[Act.eval]
        obtain⟨zx,hP⟩:=hh.at
        have y1:b3≠x.g:=fun h=>jT hP y3 (show(30:WF)≠22 by decide) h.symm
        have y5:O≠x.g:=fun h=>jT hP ya (show(30:WF)≠33 by decide) h.symm
        have y2:b5≠x.g:=fun h=>by omega
        refine zMC (g:=x.g) zDh zV4 s (.inl (.inr (.inr (.inr rfl)))) rfl kA kA (fun w' hw=>hh.keepU hw) (fmz ⟨y2,fmz ⟨y1,fmz ⟨y5,fnz⟩⟩⟩) qk hc fun a xr hC qi s=>?_
        have ql:(x.row.eraseIdx k).length=x.row.length-1:=zHS hk
        rw[zIF]at hC
        rw[zAM,<-ql]at s
        have sA:=s
        replace s:=s.move (fun q=>q=b3∨q=O∨q=b5) (fun q I=>by
          obtain⟨y,hy,e,_⟩:=I
          rcases xS.1 hy with rfl|hy
          . exact .inr (.inr e.symm)
          . rcases xS.1 hy with rfl|hy
            . exact .inl e.symm
            . obtain rfl:=tS.1 hy
              exact .inr (.inl e.symm)) kA
        have yy:=s
        refine zAc (c:=3) (o:=0) (kk:=1) (wC [.slice (some ⟨x.g,0,none⟩) (x.row.eraseIdx k).length x.cap]) ((UF.eq (.slice (some ⟨x.g,0,none⟩) (x.row.eraseIdx k).length x.cap)).tS) rfl s kA rfl rfl (fun _ _ h=>h.1) iiz (zGd fun cs W h=>by rw[show cs=_ from h];rfl) fun a xv s=>zD rfl ?_
        have hJ:y9 xr xv:=qN (s.gr.sub (fun q I=>by
          rcases I with I|I|I
          . exact⟨_,mz1,I.symm,rfl⟩
          . exact⟨_,mz2,I.symm,rfl⟩
          . exact⟨_,.head _,I.symm,rfl⟩)) yy.bx
        obtain⟨zi,qm⟩:=hC.at
        have hZ:=hC.keep (s.gr.block x.g (xP.1 qm).1 (fun I=>by
          rcases I with I|I|I
          . exact y1 I.symm
          . exact y5 I.symm
          . exact y2 I.symm)) hJ
        have hF:=hf.keep (fun g hg=>by
          obtain⟨U,J⟩:=qV hf hg
          exact qi.block g (hf.lt g hg).2 (fun e=>jT J hP (show(38:WF)≠30 by decide) (by injection e))) (hh.keepU qi)
        have hX:=hF.keep (fun g hg=>by
          obtain⟨U,J⟩:=qV hf hg
          exact s.gr.block g (hF.lt g hg).2 (fun I=>by
            rcases I with I|I|I
            . exact jT J y3 (show(38:WF)≠22 by decide) I
            . exact jT J ya (show(38:WF)≠33 by decide) I
            . have:=hV g hg;omega)) hJ
        have yv:=s.gr.size
        have hsz11:=qi.size
        have y0:=h7.sz
        obtain⟨ce,ym,yj,_⟩:=s.boxAt (c:=3) rfl
        obtain rfl:ce=[.slice (some ⟨x.g,0,none⟩) (x.row.eraseIdx k).length x.cap]:=yj
        obtain⟨cf,yg,yi,_⟩:=s.boxAt (c:=2) rfl
        obtain rfl:cf=[x.vo]:=yi
        replace s:=wN sA s (fun q I=>by
          rcases I with rfl|rfl|rfl
          . exact .inl (.inl ⟨_,.head _,rfl,rfl⟩)
          . exact .inl (.inl ⟨_,mz1,rfl,rfl⟩)
          . exact .inl (.inr (.inl hA))) kA
        replace s:=s.popB
        exact tR<|⟨rfl,((s.keepK [] fnz).weakB 3 (CU.len 1) rfl (qD kA) (fun cs W h=>by rw[show cs=_ from h];rfl)).weakB 2 (CU.len 1) rfl (qD kA) (fun cs W h=>by rw[show cs=_ from h];rfl),k,yn,⟨by omega,yg,ym,hX,h7.gb,hZ⟩⟩
      . have xi:∀j,j<k+1->(zBi (zAL x.row j)==0)=false:=fun j hj=>by
          rcases lD.1 hj with h|rfl
          . exact xf j h
          . exact e
        replace s:=wN sW s (fun q I=>by
          rcases I with rfl|rfl|rfl
          . exact .inl (.inl ⟨_,.head _,rfl,rfl⟩)
          . exact .inl (.inl ⟨_,mz1,rfl,rfl⟩)
          . exact .inl (.inr (.inl hA))) kA
        replace s:=s.popB
        refine pV<|⟨((s.keepK [] fnz).weakB 3 (CU.len 1) rfl (qD kA) (fun cs W h=>by rw[show cs=_ from h];rfl)).weakB 2 (CU.len 1) rfl (qD kA) (fun cs W h=>by rw[show cs=_ from h];rfl),fun _=>False,fun q I=>I.elim,fun q I=>I.elim,⟨z3,xi⟩,fun q I=>?_⟩
        rw[I]
        exact qg
    . obtain⟨qn,uc⟩:=vr
      have ub:zHX x.row=none:=zHY uc
      replace s:=s.is2 qn.h3 qn.h2
      generalize({ a with defers:=mark D::a.defers }:Act)=a at s ⊢
      replace s:=s.keepK [] fnz
      refine lQ<|lQ ?_
      have hTd:=hT.below s.below
      have hbsd:=s.gr.size
      refine rgL 2 ((26,.s (fCM W.heap.size O b3 x.acc x.row x.vo x.g x.cap))::(27,.s (zOw WD 67 22 (wC [(.slice (some ⟨x.g,0,none⟩) x.row.length x.cap)])))::[]) s
        (oc (zCr (v:=(.slice (some ⟨x.g,0,none⟩) x.row.length x.cap)) (f:=(fCM W.heap.size O b3 x.acc x.row x.vo x.g x.cap)) kA (fun _ _ h=>h.2) ⟨rfl,qn⟩)<|oc (zG zC zV5 (fun u0 X hb (h0:(fCM W.heap.size O b3 x.acc x.row x.vo x.g x.cap).p u0 X)=>by rw[h0.1];exact(zGG ⟨rfl,rfl⟩).mono (wH (zI0 hb.size))))<|zB) fun a w3 s hr=>?_
      have hW:=(hr (_,_) (.head _)).2
      obtain⟨be,vw,ee,hbe1,zv,zq,hbe4⟩:=hr (_,_) mz1
      refine zD rfl<|tQ ?_
      obtain rfl:vw=[(.slice (some ⟨x.g,0,none⟩) x.row.length x.cap)]:=zq
      replace s:=s.learn 27 (.func (.func 67) #[] #[pO be 0]) ee
      replace s:=s.keepK [(27,.u (UF.eq (.func (.func 67) #[] #[pO be 0])))] (fmz ⟨.head _,fnz⟩)
      replace s:StS noS W [(27,.u (UF.eq (.func (.func 67) #[] #[pO be 0])))] [⟨3,22,CU.len 1,b3,false⟩,⟨2,33,CU.len 1,O,false⟩] f9.ntmps (mark D::ds) a w3:=(s.weakB 3 (CU.len 1) rfl (qD kA) (fun cs W h=>by rw[show cs=_ from h];rfl)).weakB 2 (CU.len 1) rfl (qD kA) (fun cs W h=>by rw[show cs=_ from h];rfl)
      have hb2d:O<WD.heap.size:=(xP.1 qn.h2).1
      have hb3d:b3<WD.heap.size:=(xP.1 qn.h3).1
      have hgd:x.g<WD.heap.size:=(xP.1 qn.rr.at.choose_spec).1
      have hTw3:=hT.below s.below
      have yp:(SF.row 6 (pns x.row)).p (.slice (some ⟨x.g,0,none⟩) x.row.length x.cap) w3:=(hW.rr.toN lr (zAM _).symm).row
      refine zFv (N:=x.row.length) (fun k=> [⟨3,22,CU.len 1,b3,false⟩,⟨2,33,CU.len 1,O,false⟩]) ([⟨3,22,CU.len 1,b3,false⟩,⟨2,33,CU.len 1,O,false⟩]) (.exit 1) (fun k=> [(28,.u (uI ((k:Nat):Int))),(29,.u (fTN (zAL x.row k)))]) s iiz (enters_of func67 kA rfl) (M:=fun q=>q=x.g∨x.vo.ownBlock=some q) (fun q I=>by
          rcases I with I|I
          . obtain⟨U,c1,c2,c3,c4,c5,c6⟩:=hW.rr
            rw[I]
            exact⟨hW.gb,(xP.1 c1).1,U,_,_,c1,c5⟩
          . obtain⟨c1,c2,c3,c4,c5,c6⟩:=zDo hW.ro I
            exact⟨(hW.ro.lt q I).1,c1,c2,c3,c4,c5,c6⟩)
        (zGJ (b:=be) (g:=x.g) (cap:=x.cap) (ps:=x.row) zv yp (.inl rfl) (fun hc=>by rcases y4 _ hc with e|e<;>omega) (fun hc=>by
          rcases hc with hc|hc
          . omega
          . have:=(qn.ro.lt be hc).2;omega) (by have:=hI.few;omega))
        (X:=fun k R W'=>CutM W.heap.size O b3 x.acc x.row x.vo x.g x.cap W'/\∀j,j<k->zLq x.row j=false)
        (XZ:=fun W'=>∃i xj,zR9 x.row=some i/\CutM W.heap.size O b3 (x.acc++ [zAL x.row i]) (x.row.eraseIdx i) xj x.g x.cap W')
        (fun k R A B hE h=>⟨h.1.keepC hE,h.2⟩) (fun A B hE ⟨i,xj,h1,h2⟩=>⟨i,xj,h1,h2.keepC hE⟩) ⟨hW,fun j hj=>absurd hj (rT _)⟩ (fun k=>rfl) ?_ rfl rfl rfl (fun k=>rfl) rfl (fun l_ k R xs WR hk yA yr vk v6 so s=>?_) (fun D2 v0 R2 uu s=>?_) (fun D2 v0 hz s=>?_)
      . intro k q I
        simp only[xS,rO,rN]at I
        rcases I with rfl|rfl
        . exact .inr ⟨0,_,rfl,rfl,rfl⟩
        . exact .inr ⟨1,_,rfl,rfl,rfl⟩
      . obtain⟨h9,xf⟩:=yA
        have vz:=hT.below so.below
        replace s:=s.is2 h9.h3 h9.h2
        generalize({ tmps:=_,defers:=[] }:Act)=a at s ⊢
        replace s:=s.move (fun q=>q=b3∨q=O) (fun q I=>by
          obtain⟨y,hy,e,_⟩:=I
          rcases xS.1 hy with rfl|hy
          . exact .inl e.symm
          . obtain rfl:=tS.1 hy
            exact .inr e.symm) kA
        have sR:=s
        refine rgQ ((6,.u (uI (k:Int)))::[]) s
          (oc zE<|zB) fun a w5 s=>rgK 0 [] s
          zB fun a w6 s=>?_
        have xk:=s.gr.size
        refine zG2 (CU.len 18) (cs:=[.bool false, sN, sN,.bool false, sN, sN,.bool false, sN, sN,.bool false, sN, sN,.bool false, sN, sN,.bool false, sN, sN]) kA rfl s kA (fun W=>rfl) rfl fun b5 a w hL s=>?_
        replace hL:=xQ xk hL
        refine zR (CU.agg (fTN (zAL x.row k))) ((fTN (zAL x.row k)).tS) rfl s kA rfl rfl rfl iiz iiz zGX fun a w7 s=>zD rfl ?_
        have xg:=s.gr.size
        have zz:=s.gr
        have qc:y9 WR w7:=qN (s.gr.sub (fun q I=>by
          rcases I with I|I
          . exact⟨_,.head _,I.symm,rfl⟩
          . exact⟨_,mz1,I.symm,rfl⟩)) sR.bx
        obtain⟨ca,yl,yx,_⟩:=s.boxAt (c:=3) rfl
        obtain rfl:ca=[(.slice (some ⟨x.g,0,none⟩) x.row.length x.cap)]:=yx
        obtain⟨cb,yt,yd,_⟩:=s.boxAt (c:=2) rfl
        obtain rfl:cb=[x.vo]:=yd
        have x1:∀{g:Nat} {U:Array WE} {e:WF},WR.heap[g]?=some (.cells U e (0,0))->e≠22->e≠33-> ¬(g=b3∨g=O):=fun h1 h2 h3 I=>by
          rcases I with I|I
          . exact jT h1 h9.h3 h2 I
          . exact jT h1 h9.h2 h3 I
        obtain⟨cg,hR⟩:=h9.rr.at
        have xu:w7.heap[x.g]?=WR.heap[x.g]?:=s.gr.block x.g (xP.1 hR).1 (x1 hR dA dA)
        have yc:CutM W.heap.size O b3 x.acc x.row x.vo x.g x.cap w7:=⟨xQ h9.sz xg,yt,yl,h9.ro.keep (fun g hg=>by
          obtain⟨U,J⟩:=qV h9.ro hg
          exact s.gr.block g (xP.1 J).1 (x1 J dA dA)) qc,h9.gb,h9.rr.keep xu qc⟩
        have ui:W.heap.size<=b3:=so.inB_new ⟨_,.head _,rfl,rfl⟩
        have zu:W.heap.size<=O:=so.inB_new ⟨_,mz1,rfl,rfl⟩
        have x7:bW W w7:=⟨s.gr.os.trans so.gr.os,s.gr.tape.trans so.gr.tape,s.gr.output.trans so.gr.output,xQ so.gr.size s.gr.size,fun q I=>(s.gr.block q (vU I so.gr.size) (fun h=>by rcases h with h|h<;>omega)).trans (so.gr.block q I (fun h=>h))⟩
        have yh:=hT.below x7
        refine⟨s.gr.sub (fun q I=>.inl (by
          rcases I with I|I
          . exact⟨_,.head _,I.symm,rfl⟩
          . exact⟨_,mz1,I.symm,rfl⟩)),fun W2 hE qr ys=>?_⟩
        have h7:=yc.keepC hE
        have yV:Tab W2:=fun j hj=>(qr _).trans (yh j hj)
        have hA:WR.heap.size<=b5:=hL
        replace s:=ys _ _ (s.wider (fun q=>inB ([⟨3,22,CU.len 1,b3,false⟩,⟨2,33,CU.len 1,O,false⟩]) q∨WR.heap.size<=q∨R q∨(q=x.g∨x.vo.ownBlock=some q)) (fun q I=>.inl (by
          rcases I with I|I
          . exact⟨_,.head _,I.symm,rfl⟩
          . exact⟨_,mz1,I.symm,rfl⟩)) kA)
        have sW:=s
        replace s:=s.move (fun q=>q=b3∨q=O∨q=b5) (fun q I=>by
          obtain⟨y,hy,e,_⟩:=I
          rcases xS.1 hy with rfl|hy
          . exact .inr (.inr e.symm)
          . rcases xS.1 hy with rfl|hy
            . exact .inl e.symm
            . obtain rfl:=tS.1 hy
              exact .inr (.inl e.symm)) kA
        have sN:=s
        refine tQ<|rgQ ((30,.s (fCM W.heap.size O b3 x.acc x.row x.vo x.g x.cap))::(31,.s (uI (k:Int)).tS)::(32,.u (uB (zLq x.row k)))::[]) s
          (oc (zCr (v:=(.slice (some ⟨x.g,0,none⟩) x.row.length x.cap)) (f:=(fCM W.heap.size O b3 x.acc x.row x.vo x.g x.cap)) kA (fun _ _ h=>h.2) ⟨rfl,h7⟩)<|oc zA<|oc (zI zDh zV6 (fun u0 u1 X hb (h0:(fCM W.heap.size O b3 x.acc x.row x.vo x.g x.cap).p u0 X) h1=>by rw[h0.1];exact zR6 (m:=1) (zNw xb _ _ (h0.2.rr.toN lr (zAM _).symm).row) h1 hk oA (by have:=hI.few;omega) dA dA (yV.below hb)))<|zB) fun a w9 s=>?_
        have qa:y9 W2 w9:=qN (s.gr.sub (fun q I=>by
          rcases I with I|I|I
          . exact⟨_,mz1,I.symm,rfl⟩
          . exact⟨_,mz2,I.symm,rfl⟩
          . exact⟨_,.head _,I.symm,rfl⟩)) sN.bx
        have ha:∀{g:Nat} {U:Array WE} {e:WF},W2.heap[g]?=some (.cells U e (0,0))->g<WR.heap.size->e≠22->e≠33-> ¬(g=b3∨g=O∨g=b5):=fun h1 h0 h2 h3 I=>by
          rcases I with I|I|I
          . exact jT h1 h7.h3 h2 I
          . exact jT h1 h7.h2 h3 I
          . omega
        obtain⟨vm,he⟩:=h7.rr.at
        have xe:x.g<WR.heap.size:=(xP.1 hR).1
        have xt:w9.heap[x.g]?=W2.heap[x.g]?:=s.gr.block x.g (xP.1 he).1 (ha he xe dA dA)
        have hV:∀g,x.vo.ownBlock=some g->g<WR.heap.size:=fun g hg=>by
          obtain⟨U,J⟩:=qV h9.ro hg
          exact(xP.1 J).1
        obtain⟨cc,z4,xo,_⟩:=s.boxAt (c:=3) rfl
        obtain rfl:cc=[(.slice (some ⟨x.g,0,none⟩) x.row.length x.cap)]:=xo
        obtain⟨cd,yu,z1,_⟩:=s.boxAt (c:=2) rfl
        obtain rfl:cd=[x.vo]:=z1
        have z3:CutM W.heap.size O b3 x.acc x.row x.vo x.g x.cap w9:=⟨xQ h7.sz s.gr.size,yu,z4,h7.ro.keep (fun g hg=>by
          obtain⟨U,J⟩:=qV h7.ro hg
          exact s.gr.block g (xP.1 J).1 (ha J (hV g hg) dA dA)) qa,h7.gb,h7.rr.keep xt qa⟩
        have qg:∀q,(q=x.g∨x.vo.ownBlock=some q)->w9.heap[q]?=w3.heap[q]?:=fun q I=>by
          obtain⟨U,e,h1,h2,h3⟩:∃(U:Array WE) (e:WF),WR.heap[q]?=some (.cells U e (0,0))/\e≠22/\e≠33:=by
            rcases I with I|I
            . rw[I]
              exact⟨_,_,hR,by decide,by decide⟩
            . obtain⟨U,J⟩:=qV h9.ro I
              exact⟨_,_,J,by decide,by decide⟩
          have zw:=(xP.1 h1).1
          have e7:w7.heap[q]?=WR.heap[q]?:=zz.block q zw (x1 h1 h2 h3)
          have e8:=hE.2 _ _ (e7.trans h1) rfl
          have e9:w9.heap[q]?=W2.heap[q]?:=s.gr.block q (xP.1 e8).1 (ha e8 zw h2 h3)
          exact e9.trans (e8.trans (h1.symm.trans (yr q I)))
        refine StS.cond s (zLq x.row k) iiz (fun e=>?_) (fun e=>?_)
        . have uk:zR9 x.row=some k:=zOs hk xf e
          have t5:k<12:=by have:=hI.few;omega
          have q7:∀g,x.vo.ownBlock=some g->g<W2.heap.size/\ ¬(g=b3∨g=O∨g=b5):=fun g hg=>by
            obtain⟨U,J⟩:=qV h7.ro hg
            exact⟨(h7.ro.lt g hg).2,ha J (hV g hg) dA dA⟩
          have vh:∀g,x.vo.ownBlock=some g->g≠x.g:=fun g hg=>by
            obtain⟨U,J⟩:=qV h7.ro hg
            exact jT J he (show(38:WF)≠30 by decide)
          have q1: ¬(x.g=b3∨x.g=O∨x.g=b5):=ha he xe dA dA
          replace s:=s.keepK [(6,.u (uI (k:Int)))] (fmz ⟨by repeat (first|exact List.Mem.head _|apply List.Mem.tail),fnz⟩)
          refine lQ<|rgL 3 ((33,.u (UF.eq x.vo))::(34,.Z (fTN (zAL x.row k)))::(35,.s (SF.row 18 (tns [zAL x.row k])))::[]) s
            (oc (qB (C:=(wC [x.vo]).cf) kA (fun _ _ h=>h.2) zAK)<|oc (zH (f:=fTN (zAL x.row k)) 18 kA (hz:=zId _))<|oc (jX (fun u W (hu:(fTN (zAL x.row k)).p u W)=>zML hu))<|zB) fun a qz s hr=>?_
          have hK:y9 W2 qz:=qN (s.gr.sub (fun q I=>by
          rcases I with I|I|I
          . exact⟨_,mz1,I.symm,rfl⟩
          . exact⟨_,mz2,I.symm,rfl⟩
          . exact⟨_,.head _,I.symm,rfl⟩)) sN.bx
          have hh:=h7.rr.keep (s.gr.block x.g (xP.1 he).1 q1) hK
          have hf:=h7.ro.keep (fun g hg=>s.gr.block g (q7 g hg).1 (q7 g hg).2) hK
          have xa:=s.gr.size
          replace s:=wN sW s (fun q I=>by
          rcases I with rfl|rfl|rfl
          . exact .inl (.inl ⟨_,.head _,rfl,rfl⟩)
          . exact .inl (.inl ⟨_,mz1,rfl,rfl⟩)
          . exact .inl (.inr (.inl hA))) kA
          have sH:=s
          replace s:=s.move (fun q=>(q=b3∨q=O∨q=b5)∨x.vo.ownBlock=some q) (fun q I=>.inl (by
            obtain⟨y,hy,e,_⟩:=I
            rcases xS.1 hy with rfl|hy
            . exact .inr (.inr e.symm)
            . rcases xS.1 hy with rfl|hy
              . exact .inl e.symm
              . obtain rfl:=tS.1 hy
                exact .inr (.inl e.symm))) kA
          have sA:=s
          have y0:=h7.sz
          refine zRu (tns [zAL x.row k]) s (xQ y0 xa) hf (fun g hg=>.inl (.inr hg)) rfl kA kA kA (s.val (.head _)) (hr (_,_) mz2) (zRq _) (by have:=hI.sum;simp[tns];omega) (fmz ⟨fun h=>(q7 _ h).2 (.inr (.inr rfl)),fmz ⟨fun h=>(q7 _ h).2 (.inl rfl),fmz ⟨fun h=>(q7 _ h).2 (.inr (.inl rfl)),fnz⟩⟩⟩) fun v' a xr hwz hF hobn xc s=>?_
          obtain⟨A8,n8,c8,rfl⟩:=zCY hF
          have yo:y9 qz xr:=zOe s.gr (fun q I=>by
            rcases I with(I|I|I)|I
            . obtain⟨cs,h1,_,h2⟩:=sA.boxAt (c:=3) rfl
              rw[I]
              exact⟨_,_,_,h1,by simpa using h2⟩
            . obtain⟨cs,h1,_,h2⟩:=sA.boxAt (c:=2) rfl
              rw[I]
              exact⟨_,_,_,h1,by simpa using h2⟩
            . obtain⟨cs,h1,_,h2⟩:=sA.boxAt (c:=7) rfl
              rw[I]
              exact⟨_,_,_,h1,by simpa using h2⟩
            . exact(zDo hf I).2)
          obtain⟨zx,hP⟩:=hh.at
          have hC:=hh.keep (s.gr.block x.g (xP.1 hP).1 (fun I=>by
            rcases I with I|I
            . exact q1 I
            . exact vh _ I rfl)) yo
          have vl:=s
          replace s:=s.move (fun q=>q=b3∨q=O∨q=b5) (fun q I=>by
          obtain⟨y,hy,e,_⟩:=I
          rcases xS.1 hy with rfl|hy
          . exact .inr (.inr e.symm)
          . rcases xS.1 hy with rfl|hy
            . exact .inl e.symm
            . obtain rfl:=tS.1 hy
              exact .inr (.inl e.symm)) kA
          have yy:=s
          have hO:∀g,Value.ownBlock (.slice A8 n8 c8)=some g-> ¬(g=b3∨g=O∨g=b5):=fun g hg I=>by
            rcases I with rfl|rfl|rfl
            . exact xc _ mz1 hg
            . exact xc _ mz2 hg
            . exact xc _ (.head _) hg
          refine zAc (c:=2) (o:=0) (kk:=1) (wC [.slice A8 n8 c8]) ((UF.eq (.slice A8 n8 c8)).tS) rfl s kA rfl rfl (fun _ _ h=>h.1) iiz (zGd fun cs W h=>by rw[show cs=_ from h];rfl) fun a xv s=>zD rfl ?_
          have hJ:y9 xr xv:=qN (s.gr.sub (fun q I=>by
          rcases I with I|I|I
          . exact⟨_,mz1,I.symm,rfl⟩
          . exact⟨_,mz2,I.symm,rfl⟩
          . exact⟨_,.head _,I.symm,rfl⟩)) yy.bx
          obtain⟨zi,qm⟩:=hC.at
          have hZ:=hC.keep (s.gr.block x.g (xP.1 qm).1 q1) hJ
          have hX:=hF.keep (fun g hg=>s.gr.block g (hF.lt g hg).2 (hO g hg)) hJ
          have yv:=s.gr.size
          replace s:=wN vl s (fun q I=>.inl (.inl I)) kA
          replace s:=wN sH s (fun q I=>by
            rcases I with(rfl|rfl|rfl)|I
            . exact .inl (.inl ⟨_,.head _,rfl,rfl⟩)
            . exact .inl (.inl ⟨_,mz1,rfl,rfl⟩)
            . exact .inl (.inr (.inl hA))
            . exact .inl (.inr (.inr (.inr (.inr I))))) kA
          replace s:=s.keepK [(6,.u (uI (k:Int)))] (fmz ⟨by repeat (first|exact List.Mem.head _|apply List.Mem.tail),fnz⟩)
          have va:=s
          replace s:=s.move (fun q=>q=b3∨q=O∨q=b5) (fun q I=>by
          obtain⟨y,hy,e,_⟩:=I
          rcases xS.1 hy with rfl|hy
          . exact .inr (.inr e.symm)
          . rcases xS.1 hy with rfl|hy
            . exact .inl e.symm
            . obtain rfl:=tS.1 hy
              exact .inr (.inl e.symm)) kA
          have vc:=s
          refine lQ<|rgK 4 ((37,.u (UF.eq (.slice (some ⟨x.g,0,none⟩) x.row.length x.cap)))::(38,.u (uI (k:Int)))::(39,.u (uI (k:Int)))::(40,.u (uI ((k+1:Nat):Int)))::[]) s
            (oc (qB (C:=(wC [(.slice (some ⟨x.g,0,none⟩) x.row.length x.cap)]).cf) kA (fun _ _ h=>h.2) zAK)<|oc zA<|oc zA<|oc (yI .i64 (k:Int) 1 ((k+1:Nat):Int) iiz iiz (wrap64 _ _ oA oA))<|zB) fun a uq s=>?_
          have xh:y9 xv uq:=qN (s.gr.sub (fun q I=>by
          rcases I with I|I|I
          . exact⟨_,mz1,I.symm,rfl⟩
          . exact⟨_,mz2,I.symm,rfl⟩
          . exact⟨_,.head _,I.symm,rfl⟩)) vc.bx
          obtain⟨cg12,yz⟩:=hZ.at
          have q0:=hZ.keep (s.gr.block x.g (xP.1 yz).1 q1) xh
          have qq:=hX.keep (fun g hg=>s.gr.block g (hX.lt g hg).2 (hO g hg)) xh
          have hsz13:=s.gr.size
          replace s:=wN va s (fun q I=>by
          rcases I with rfl|rfl|rfl
          . exact .inl (.inl ⟨_,.head _,rfl,rfl⟩)
          . exact .inl (.inl ⟨_,mz1,rfl,rfl⟩)
          . exact .inl (.inr (.inl hA))) kA
          have zh:=s.val (.head _)
          have zo:=s.val mz1
          have uh:=s.val mz3
          have hc:=zRx (W:=uq) (g:=x.g) (cap:=x.cap) (i:=k) (v:=a.tmps.getD 37 undef) (u:=a.tmps.getD 38 undef) (x:=a.tmps.getD 40 undef) q0 (zIE _) (by rw[zAM];exact hk) (by rw[zAM];have:=hI.few;omega) (by rw[zAM];exact zh) zo uh
          have qk:(#[.tmp 37,.tmp 38,.tmp 40]:Array Operand).map a.eval=#[a.tmps.getD 37 undef,a.tmps.getD 38 undef,a.tmps.getD 40 undef]:=by
            rw[cP]
            simp[Act.eval]
          obtain⟨cg13,yf⟩:=q0.at
          refine zMC (g:=x.g) zDh zV4 s (.inl (.inr (.inr (.inr (.inl rfl))))) rfl kA kA (fun w' hw=>q0.keepU hw) (fmz ⟨fun h=>q1 (.inr (.inr h.symm)),fmz ⟨fun h=>q1 (.inl h.symm),fmz ⟨fun h=>q1 (.inr (.inl h.symm)),fnz⟩⟩⟩) qk hc fun a vy qf qh s=>?_
          have ql:(x.row.eraseIdx k).length=x.row.length-1:=zHS hk
          rw[zIF]at qf
          rw[zAM,<-ql]at s
          have sB:=s
          replace s:=s.move (fun q=>q=b3∨q=O∨q=b5) (fun q I=>by
          obtain⟨y,hy,e,_⟩:=I
          rcases xS.1 hy with rfl|hy
          . exact .inr (.inr e.symm)
          . rcases xS.1 hy with rfl|hy
            . exact .inl e.symm
            . obtain rfl:=tS.1 hy
              exact .inr (.inl e.symm)) kA
          have vg:=s
          refine zAc (c:=3) (o:=0) (kk:=1) (wC [.slice (some ⟨x.g,0,none⟩) (x.row.eraseIdx k).length x.cap]) ((UF.eq (.slice (some ⟨x.g,0,none⟩) (x.row.eraseIdx k).length x.cap)).tS) rfl s kA rfl rfl (fun _ _ h=>h.1) iiz (zGd fun cs W h=>by rw[show cs=_ from h];rfl) fun a un s=>zD rfl ?_
          have x8:y9 vy un:=qN (s.gr.sub (fun q I=>by
          rcases I with I|I|I
          . exact⟨_,mz1,I.symm,rfl⟩
          . exact⟨_,mz2,I.symm,rfl⟩
          . exact⟨_,.head _,I.symm,rfl⟩)) vg.bx
          obtain⟨cg14,z0⟩:=qf.at
          have z6:=qf.keep (s.gr.block x.g (xP.1 z0).1 q1) x8
          have x5:=qq.keep (fun g hg=>by
            obtain⟨U,J⟩:=qV qq hg
            exact qh.block g (qq.lt g hg).2 (fun e=>jT J yf (show(38:WF)≠30 by decide) (by injection e))) (q0.keepU qh)
          have ye:=x5.keep (fun g hg=>s.gr.block g (x5.lt g hg).2 (hO g hg)) x8
          have hsz15:=s.gr.size
          have hsz14:=qh.size
          obtain⟨ce,ym,yj,_⟩:=s.boxAt (c:=3) rfl
          obtain rfl:ce=[.slice (some ⟨x.g,0,none⟩) (x.row.eraseIdx k).length x.cap]:=yj
          obtain⟨cf,yg,yi,_⟩:=s.boxAt (c:=2) rfl
          obtain rfl:cf=[.slice A8 n8 c8]:=yi
          replace s:=wN sB s (fun q I=>by
          rcases I with rfl|rfl|rfl
          . exact .inl (.inl ⟨_,.head _,rfl,rfl⟩)
          . exact .inl (.inl ⟨_,mz1,rfl,rfl⟩)
          . exact .inl (.inr (.inl hA))) kA
          replace s:=s.popB
          refine tR ?_
          have zr:zAk un W.heap.size 38 18 (.slice A8 n8 c8) (tns (x.acc++ [zAL x.row k])):=by
            rw[show tns (x.acc++ [zAL x.row k])=tns x.acc++tns [zAL x.row k] by simp[tns]]
            exact ye
          exact⟨rfl,(((s.keepK [] fnz).weakB 3 (CU.len 1) rfl (qD kA) (fun cs W h=>by rw[show cs=_ from h];rfl)).weakB 2 (CU.len 1) rfl (qD kA) (fun cs W h=>by rw[show cs=_ from h];rfl)),k,.slice A8 n8 c8,uk,⟨by omega,yg,ym,zr,h7.gb,z6⟩⟩
        . have xi:∀j,j<k+1->zLq x.row j=false:=fun j hj=>by
            rcases lD.1 hj with h|rfl
            . exact xf j h
            . exact e
          replace s:=wN sW s (fun q I=>by
          rcases I with rfl|rfl|rfl
          . exact .inl (.inl ⟨_,.head _,rfl,rfl⟩)
          . exact .inl (.inl ⟨_,mz1,rfl,rfl⟩)
          . exact .inl (.inr (.inl hA))) kA
          replace s:=s.popB
          exact pV<|⟨(((s.keepK [] fnz).weakB 3 (CU.len 1) rfl (qD kA) (fun cs W h=>by rw[show cs=_ from h];rfl)).weakB 2 (CU.len 1) rfl (qD kA) (fun cs W h=>by rw[show cs=_ from h];rfl)),fun _=>False,fun q I=>I.elim,fun q I=>I.elim,⟨z3,xi⟩,qg⟩
      . obtain⟨zy,u7⟩:=uu
        have ql:zR9 x.row=none:=zHY u7
        have vj:=hI.none h4 ub ql
        replace s:=s.is2 zy.h3 zy.h2
        generalize({ a with defers:=mark D2::a.defers }:Act)=a at s ⊢
        replace s:=s.keepK [] fnz
        refine lQ<|rgK 0 [] s
          zB fun a w4 s=>zAc (c:=2) (o:=0) (kk:=1) (wC [sN]) ((UF.eq (sN)).tS) rfl s kA rfl rfl (fun _ _ h=>h.1) iiz (zGd fun cs W h=>by rw[show cs=_ from h];rfl) fun a w5 s=>zD rfl<|pU ?_
        obtain⟨cz,qj,qo,_⟩:=s.boxAt (c:=2) rfl
        obtain rfl:cz=[sN]:=qo
        exact zHi s (sN) (t:=2) (e:=33) rfl kA rfl qj (fun w' ho=>by
          rw[show zEU ps=[] by unfold zEU;rw[vj];rfl]
          exact zAk.nil _ _ _ _)
      . obtain⟨i,xj,hi,yw⟩:=hz
        have z2:i<x.row.length:=xT.1 (tT hi)
        obtain⟨f',ef,xd⟩:=hI.ear h4 ub hi
        have ql:(x.row.eraseIdx i).length=x.row.length-1:=zHS z2
        have vB:=xd.len
        exact tR<|⟨⟨x.acc++ [zAL x.row i],x.row.eraseIdx i,xj,x.g,x.cap,f'⟩,by show f'<x.f;omega,mark D2::mark D::ds,xd,by show 0<f';omega,by show 0<(x.row.eraseIdx i).length;omega,fun p hp=>xb p (List.mem_of_mem_eraseIdx hp),yw,s.keepK [] fnz⟩
    . obtain⟨i,hi,yw⟩:=hz
      have z2:i<x.row.length:=xT.1 (tT hi)
      obtain⟨f',ef,xd⟩:=hI.flat h4 hi
      have ql:(x.row.eraseIdx i).length=x.row.length-1:=zHS z2
      have vB:=xd.len
      exact tR<|⟨⟨x.acc,x.row.eraseIdx i,x.vo,x.g,x.cap,f'⟩,by show f'<x.f;omega,mark D::ds,xd,by show 0<f';omega,by show 0<(x.row.eraseIdx i).length;omega,fun p hp=>xb p (List.mem_of_mem_eraseIdx hp),yw,s.keepK [] fnz⟩
  . have h3:x.row.length<=3:=by have:=nH e;omega
    refine tR<|lQ<|lQ ?_
    replace s:=s.keepK [] fnz
    have u2:=hT.below s.below
    have za:zEU ps=x.acc++zEX x.row:=by unfold zEU;rw[hI.done vn h3];rfl
    obtain⟨Ao,hG,co,eo⟩:=zCY qp.ro
    refine rgL 3 ((42,.s (fCM W.heap.size O b3 x.acc x.row x.vo x.g x.cap))::(43,.s (uI (x.row.length:Int)).tS)::(44,.u (uB ((x.row.length:Int)==3)))::[]) s
      (oc (zCr (v:=(.slice (some ⟨x.g,0,none⟩) x.row.length x.cap)) (f:=(fCM W.heap.size O b3 x.acc x.row x.vo x.g x.cap)) kA (fun _ _ h=>h.2) ⟨rfl,qp⟩)<|oc (zC3 kA (fun v W h=>⟨_,_,_,h.1,rfl⟩))<|oc (zM .i64 (x.row.length:Int) 3 ((x.row.length:Int)==3) iiz iiz rfl rfl)<|zB) fun a w2 s hr=>?_
    have hm:=(hr (_,_) (.head _)).2
    refine zD rfl<|StS.cond s ((x.row.length:Int)==3) iiz (fun e=>?_) (fun e=>?_)
    . have yk:x.row.length=3:=by have:=eq_of_beq e;omega
      have vq:∀p,p∈tl (at_ x.row 0,at_ x.row 1,at_ x.row 2)->QB p.1 1/\QB p.2 1:=fun p hp=>by
        have v5:∀{j:Nat},j<x.row.length->at_ x.row j∈x.row:=fun {j} hj=>by
          unfold at_
          rw[rH,nG hj]
          exact uY hj
        simp only[tl,xS,rO,rN]at hp
        rcases hp with rfl|rfl|rfl<;>exact xb _ (v5 oA)
      have hN:∀v W',(fCM W.heap.size O b3 x.acc x.row x.vo x.g x.cap).p v W'->(SF.row 6 (pns x.row)).p v W':=fun v W' h=>by
        rw[h.1]
        exact(h.2.rr.toN lr (zAM _).symm).row
      replace s:=s.keepK [] fnz
      refine lQ ?_
      have zd:=hT.below s.below
      have so:=s.old;have sg:=s.gr
      refine zBr (fun i=> [].contains i) [⟨10,8,38, [.bool false, sN, sN,.bool false, sN, sN,.bool false, sN, sN,.bool false, sN, sN,.bool false, sN, sN,.bool false, sN, sN],wK w2 38 (CU.len 18)⟩] 11 ((45,.s (fCM W.heap.size O b3 x.acc x.row x.vo x.g x.cap))::(46,.Y (fPN (at_ x.row 0)))::(47,.Z (fPN (at_ x.row 0)))::(48,.s (fCM W.heap.size O b3 x.acc x.row x.vo x.g x.cap))::(49,.Y (fPN (at_ x.row 1)))::(50,.Z (fPN (at_ x.row 1)))::(51,.s (fCM W.heap.size O b3 x.acc x.row x.vo x.g x.cap))::(52,.Y (fPN (at_ x.row 2)))::(53,.Z (fPN (at_ x.row 2)))::(54,.u (fTN (at_ x.row 0,at_ x.row 1,at_ x.row 2)))::(8,.s (wK w2 38 (CU.len 18)))::[]) hmix s (fmz ⟨⟨by show 10<11;decide,zMe,⟨_,_,_,rfl⟩,by kernel_rfl,zBH (fun _=>rfl) rfl⟩,fnz⟩) kA
        (oc (zCr (v:=(.slice (some ⟨x.g,0,none⟩) x.row.length x.cap)) (f:=(fCM W.heap.size O b3 x.acc x.row x.vo x.g x.cap)) kA (fun _ _ h=>h.2) ⟨rfl,hm⟩)<|oc (zQ (z:=6) (Cs:=pns x.row) (i:=0) (C:=CU.agg (fPN (at_ x.row 0))) kA (zBs oA) (fun v W' hb h=>hN v W' h) iiz)<|oc (zH (f:=fPN (at_ x.row 0)) 6 kA (hz:=zL _ _))<|oc (zCr (v:=(.slice (some ⟨x.g,0,none⟩) x.row.length x.cap)) (f:=(fCM W.heap.size O b3 x.acc x.row x.vo x.g x.cap)) kA (fun _ _ h=>h.2) ⟨rfl,hm⟩)<|oc (zQ (z:=6) (Cs:=pns x.row) (i:=1) (C:=CU.agg (fPN (at_ x.row 1))) kA (zBs oA) (fun v W' hb h=>hN v W' h) iiz)<|oc (zH (f:=fPN (at_ x.row 1)) 6 kA (hz:=zL _ _))<|oc (zCr (v:=(.slice (some ⟨x.g,0,none⟩) x.row.length x.cap)) (f:=(fCM W.heap.size O b3 x.acc x.row x.vo x.g x.cap)) kA (fun _ _ h=>h.2) ⟨rfl,hm⟩)<|oc (zQ (z:=6) (Cs:=pns x.row) (i:=2) (C:=CU.agg (fPN (at_ x.row 2))) kA (zBs oA) (fun v W' hb h=>hN v W' h) iiz)<|oc (zH (f:=fPN (at_ x.row 2)) 6 kA (hz:=zL _ _))<|oc (zAQ (fun u v q W' (hu:(fPN (at_ x.row 0)).p u W') (hv:(fPN (at_ x.row 1)).p v W') (I:(fPN (at_ x.row 2)).p q W')=>zWx (t:=(at_ x.row 0,at_ x.row 1,at_ x.row 2)) hu hv I))<|oc (zCH (cs:=[.bool false, sN, sN,.bool false, sN, sN,.bool false, sN, sN,.bool false, sN, sN,.bool false, sN, sN,.bool false, sN, sN]) kA (zBH (fun _=>rfl) rfl))<|zB) fun Q' hQ a w3 s hr hd=>?_
      have hW:=(hr (_,_) (.head _)).2
      obtain⟨b8,hB8,e8,s⟩:=s.adoptA false 8 (hr (_,_) zMe) sg (fun y hy=>.inl (so y hy))
      refine zDX (c:=8) (o:=0) (kk:=18) (CU.agg (fTN (at_ x.row 0,at_ x.row 1,at_ x.row 2))) ((fTN (at_ x.row 0,at_ x.row 1,at_ x.row 2)).tS) rfl s kA rfl rfl (fun _ _ h=>h.1) iiz zW1 fun w4 ve t9 s=>?_
      have zp:=hW.ro.keep (fun g hg=>ve.block g (hW.ro.lt g hg).2 (fun e=>by
        have h1:=(hm.ro.lt g hg).2
        injection e with e
        have e':g=b8:=e
        omega)) t9
      refine zD rfl (hQ _ _ ?_)
      replace s:=s.keepK [] fnz
      have uj:=hT.below s.below
      refine lQ<|rgL 3 ((55,.Z (fTN (at_ x.row 0,at_ x.row 1,at_ x.row 2)))::(56,.s (fIR W.heap.size 38 18 (zBi (at_ x.row 0,at_ x.row 1,at_ x.row 2)) x.vo (tns x.acc)))::(57,.u (uB (zBi (at_ x.row 0,at_ x.row 1,at_ x.row 2)==1)))::[]) s
        (oc (zH (f:=fTN (at_ x.row 0,at_ x.row 1,at_ x.row 2)) 18 kA (hz:=zId _))<|oc (zG zC zT9 (fun u0 X hb (h0:(fTN (at_ x.row 0,at_ x.row 1,at_ x.row 2)).p u0 X)=>(zHZ (m:=1) (zPj vq h0) dA dA (uj.below hb)).mono (fun e' W' ue=>by
          obtain⟨v,e1,e2,e3⟩:=ue
          exact⟨v,e1,⟨e2,(zp.below hb).below e3⟩,e3⟩)))<|oc (zM .i64 (zBi (at_ x.row 0,at_ x.row 1,at_ x.row 2)) 1 (zBi (at_ x.row 0,at_ x.row 1,at_ x.row 2)==1) (fun _ _ h=>h.1) iiz rfl rfl)<|zB) fun a w5 s hr=>?_
      have hU:=(hr (_,_) mz1).2
      refine zD rfl<|StS.cond s (zBi (at_ x.row 0,at_ x.row 1,at_ x.row 2)==1) iiz (fun e1=>?_) (fun e1=>?_)
      . have q2:tns x.acc++tns [(at_ x.row 0,at_ x.row 1,at_ x.row 2)]=tns (zEU ps):=by
          rw[za,show zEX x.row=[(at_ x.row 0,at_ x.row 1,at_ x.row 2)] by unfold zEX;rw[if_pos ⟨yk,eq_of_beq e1⟩]]
          simp[tns]
        refine rgL 3 ((58,.s (fVR W.heap.size 38 18 x.vo (tns x.acc)))::(59,.Z (fTN (at_ x.row 0,at_ x.row 1,at_ x.row 2)))::(60,.s (SF.row 18 (tns [(at_ x.row 0,at_ x.row 1,at_ x.row 2)])))::[]) s
          (oc (zCr (v:=x.vo) (f:=fVR W.heap.size 38 18 x.vo (tns x.acc)) kA (fun _ _ h=>h.2) ⟨rfl,hU⟩)<|oc (zH (f:=fTN (at_ x.row 0,at_ x.row 1,at_ x.row 2)) 18 kA (hz:=zId _))<|oc (jX (fun u W' (hu:(fTN (at_ x.row 0,at_ x.row 1,at_ x.row 2)).p u W')=>zML hu))<|zB) fun a w6 s hr=>?_
        have xA:=hr (_,_) (.head _)
        have ug:zAk w6 W.heap.size 38 18 x.vo (tns x.acc):=xA.2
        replace s:=s.keepK [] fnz
        refine zUR (tns [(at_ x.row 0,at_ x.row 1,at_ x.row 2)]) s ug rfl kA kA kA xA.1 (hr (_,_) mz2) (zRq _) (by have:=hI.sum;simp[tns];omega) (fmz ⟨fun h=>by
          have h1:=(hm.ro.lt b8 h).2
          omega,fmz ⟨fun h=>by
          obtain⟨U,J⟩:=qV hm.ro h
          exact jT J hm.h3 (show(38:WF)≠22 by decide) rfl,fmz ⟨fun h=>by
          obtain⟨U,J⟩:=qV hm.ro h
          exact jT J hm.h2 (show(38:WF)≠33 by decide) rfl,fnz⟩⟩⟩) fun v' a w7 qu xc s=>?_
        rw[q2]at qu
        obtain⟨A8,n8,c8,rfl⟩:=zCY qu
        refine zDX (c:=2) (o:=0) (kk:=1) (wC [.slice A8 n8 c8]) ((UF.eq (.slice A8 n8 c8)).tS) rfl s kA rfl rfl (fun _ _ h=>h.1) iiz (zGd fun cs W h=>by rw[show cs=_ from h];rfl) fun w8 v7 t7 s=>zD rfl ?_
        have zg:=qu.keep (fun g hg=>v7.block g (qu.lt g hg).2 (fun e=>xc _ mz2 (hg.trans e))) t7
        refine lQ ?_
        replace s:=s.keepK [] fnz
        refine rgL 1 ((62,.s (fVR W.heap.size 38 18 (.slice A8 n8 c8) (tns (zEU ps))))::[]) s
          (oc (zCr (v:=(.slice A8 n8 c8)) (f:=fVR W.heap.size 38 18 (.slice A8 n8 c8) (tns (zEU ps))) kA (fun _ _ h=>h.2) ⟨rfl,zg⟩)<|zB) fun a wy s hr=>?_
        have q4:=hr (_,_) (.head _)
        have hB:=q4.2
        replace s:=s.learn 62 (.slice A8 n8 c8) (q4.1.trans rfl)
        obtain⟨cv,x9,zm,_⟩:=s.boxAt (c:=2) rfl
        refine zDX (c:=2) (o:=0) (kk:=1) (wC [(.slice A8 n8 c8)]) ((UF.eq (.slice A8 n8 c8)).tS) rfl s kA rfl rfl (fun _ _ h=>h.1) iiz (zGd fun cs W h=>by rw[show cs=_ from h];rfl) fun wz xn x6 s=>zD rfl ?_
        have xl:=hB.keep (fun g hg=>xn.block g (hB.lt g hg).2 (fun e=>by
          obtain⟨U,J⟩:=qV hB hg
          exact jT J x9 (show(38:WF)≠33 by decide) (by injection e))) x6
        refine pU ?_
        obtain⟨cz,qj,qo,_⟩:=s.boxAt (c:=2) rfl
        obtain rfl:cz=[(.slice A8 n8 c8)]:=qo
        exact zHi s (.slice A8 n8 c8) (t:=2) (e:=33) rfl kA rfl qj (fun w' ho=>zAk.keepC xl (zEg ho))
      . have q2:tns x.acc=tns (zEU ps):=by
          rw[za,show zEX x.row=[] by unfold zEX;rw[if_neg (fun h=>by have:=h.2;simp[this]at e1)]]
          simp
        rw[q2]at hU
        refine pV<|lQ ?_
        replace s:=s.keepK [] fnz
        refine rgL 1 ((62,.s (fVR W.heap.size 38 18 x.vo (tns (zEU ps))))::[]) s
          (oc (zCr (v:=x.vo) (f:=fVR W.heap.size 38 18 x.vo (tns (zEU ps))) kA (fun _ _ h=>h.2) ⟨rfl,hU⟩)<|zB) fun a wy s hr=>?_
        have q4:=hr (_,_) (.head _)
        have hB:=q4.2
        replace s:=s.learn 62 (.slice Ao hG co) (q4.1.trans eo)
        rw[show x.vo=(.slice Ao hG co)from eo]at hB
        obtain⟨cv,x9,zm,_⟩:=s.boxAt (c:=2) rfl
        refine zDX (c:=2) (o:=0) (kk:=1) (wC [(.slice Ao hG co)]) ((UF.eq (.slice Ao hG co)).tS) rfl s kA rfl rfl (fun _ _ h=>h.1) iiz (zGd fun cs W h=>by rw[show cs=_ from h];rfl) fun wz xn x6 s=>zD rfl ?_
        have xl:=hB.keep (fun g hg=>xn.block g (hB.lt g hg).2 (fun e=>by
          obtain⟨U,J⟩:=qV hB hg
          exact jT J x9 (show(38:WF)≠33 by decide) (by injection e))) x6
        refine pU ?_
        obtain⟨cz,qj,qo,_⟩:=s.boxAt (c:=2) rfl
        obtain rfl:cz=[(.slice Ao hG co)]:=qo
        exact zHi s (.slice Ao hG co) (t:=2) (e:=33) rfl kA rfl qj (fun w' ho=>zAk.keepC xl (zEg ho))
    . have yk:x.row.length≠3:=fun h=>by rw[h]at e;exact absurd e dA
      have q2:tns x.acc=tns (zEU ps):=by
        rw[za,show zEX x.row=[] by unfold zEX;rw[if_neg (fun h=>yk h.1)]]
        simp
      have hU:=hm.ro
      rw[q2]at hU
      refine pV<|lQ ?_
      replace s:=s.keepK [] fnz
      refine rgL 1 ((62,.s (fVR W.heap.size 38 18 x.vo (tns (zEU ps))))::[]) s
        (oc (zCr (v:=x.vo) (f:=fVR W.heap.size 38 18 x.vo (tns (zEU ps))) kA (fun _ _ h=>h.2) ⟨rfl,hU⟩)<|zB) fun a wy s hr=>?_
      have q4:=hr (_,_) (.head _)
      have hB:=q4.2
      replace s:=s.learn 62 (.slice Ao hG co) (q4.1.trans eo)
      rw[show x.vo=(.slice Ao hG co)from eo]at hB
      obtain⟨cv,x9,zm,_⟩:=s.boxAt (c:=2) rfl
      refine zDX (c:=2) (o:=0) (kk:=1) (wC [(.slice Ao hG co)]) ((UF.eq (.slice Ao hG co)).tS) rfl s kA rfl rfl (fun _ _ h=>h.1) iiz (zGd fun cs W h=>by rw[show cs=_ from h];rfl) fun wz xn x6 s=>zD rfl ?_
      have xl:=hB.keep (fun g hg=>xn.block g (hB.lt g hg).2 (fun e=>by
        obtain⟨U,J⟩:=qV hB hg
        exact jT J x9 (show(38:WF)≠33 by decide) (by injection e))) x6
      refine pU ?_
      obtain⟨cz,qj,qo,_⟩:=s.boxAt (c:=2) rfl
      obtain rfl:cz=[(.slice Ao hG co)]:=qo
      exact zHi s (.slice Ao hG co) (t:=2) (e:=33) rfl kA rfl qj (fun w' ho=>zAk.keepC xl (zEg ho))
theorem zW4(a b c d e f g h:Int):yD prog 51 8 [(0,.int .i64 a),(1,.int .i64 b),(2,.int .i64 c),(3,.int .i64 d),(4,.int .i64 e),(5,.int .i64 f),(6,.int .i64 g),(7,.int .i64 h)]=some (3,#[.int .i64 a,.int .i64 b,.int .i64 c,.int .i64 d,.int .i64 e,.int .i64 f,.int .i64 g,.int .i64 h]):=by kernel_rfl
theorem zIL{F:Fence}{ops:Array Oper}{G:Nat->SF}{d:Tmp}(a b c e f g h i:Int)(I:∀v W,(SF.row 1 (zEh [a,b,c,e,f,g,h,i])).p v W->(G d).p v W):qO F m prog w0 ops G ⟨some d,.buildSlice 51 8 #[(0,.const (.int .i64 a)),(1,.const (.int .i64 b)),(2,.const (.int .i64 c)),(3,.const (.int .i64 e)),(4,.const (.int .i64 f)),(5,.const (.int .i64 g)),(6,.const (.int .i64 h)),(7,.const (.int .i64 i))],ty,pos,aft,none⟩:=
 zDs fun U W hb hh=>by
  have O:=zW4 a b c e f g h i
  have J:∀v:WE,U.eval (.const v)=v:=fun _=>rfl
  refine⟨3,#[.int .i64 a,.int .i64 b,.int .i64 c,.int .i64 e,.int .i64 f,.int .i64 g,.int .i64 h,.int .i64 i],by simpa[J]using O,I _ _ (zKA (L:=[a,b,c,e,f,g,h,i]) rfl rfl oA)⟩
abbrev zWS:List Int:=[0,0,2,0,2,2,0,2]
abbrev zWT:List Int:=[0,0,1,0,2,0,0,2]
abbrev zUB:List Int:=[0,2,0,0,2,0]
abbrev zUA:List Int:=[2,0,2,2,0,2]
abbrev zSn:List Int:=[0,0,2,0,0,2]
abbrev zUu:V6:=((((0:Int):Rat),((2:Int):Rat)),(((0:Int):Rat),((0:Int):Rat)),(((2:Int):Rat),((0:Int):Rat)))
abbrev zUt:V6:=((((2:Int):Rat),((0:Int):Rat)),(((2:Int):Rat),((2:Int):Rat)),(((0:Int):Rat),((2:Int):Rat)))
abbrev zLB:V6:=((((0:Int):Rat),((0:Int):Rat)),(((2:Int):Rat),((0:Int):Rat)),(((0:Int):Rat),((2:Int):Rat)))
abbrev zJ8:List V6:=[zUu,zUt]
abbrev zSj:List V6:=[zLB]
theorem ck1:zEU (zDk zWS 4)=zJ8:=by kernel_rfl
theorem ck2:zEU (zDk zWT 4)=zSj:=by kernel_rfl
theorem ck3:(qsg (arK zJ8 2) ((8:Int):Rat)==0)=true:=by kernel_rfl
theorem ck4:zMf zLB (((1:Int):Rat),((1:Int):Rat))=0:=by kernel_rfl
theorem ck5:zLq (zDk zSn 3) 0=true:=by kernel_rfl
theorem qpz{a b:Int}(h:a.natAbs<100)(k:b.natAbs<100):QB ((a:Int):Rat) 1/\QB ((b:Int):Rat) 1:=⟨qbz h,qbz k⟩
theorem zME:∀p,p∈tl zUu->QB p.1 1/\QB p.2 1:=fmz ⟨qpz dA dA,fmz ⟨qpz dA dA,fmz ⟨qpz dA dA,fnz⟩⟩⟩
theorem zMD:∀p,p∈tl zUt->QB p.1 1/\QB p.2 1:=fmz ⟨qpz dA dA,fmz ⟨qpz dA dA,fmz ⟨qpz dA dA,fnz⟩⟩⟩
theorem zSK:∀p,p∈tl zLB->QB p.1 1/\QB p.2 1:=fmz ⟨qpz dA dA,fmz ⟨qpz dA dA,fmz ⟨qpz dA dA,fnz⟩⟩⟩
theorem zWW:∀t,t∈zJ8->∀p,p∈tl t->QB p.1 1/\QB p.2 1:=fmz ⟨zME,fmz ⟨zMD,fnz⟩⟩
theorem zWX:∀i,i<zJ8.length->∀p,p∈tl (at3 zJ8 i)->QB p.1 1/\QB p.2 1:=fun i hi=>by
 match i,hi with
 |0,_=>exact zME
 |1,_=>exact zMD
theorem zHy{L:List Int}(I:L.all (fun z=>decide (z.natAbs<100))=true)(v:WE)(W:WB)(h:(SF.row 6 (pns (zDk L k))).p v W):(SF.row 6 (pvs 1 (zDk L k))).p v W:=zNw (zSD (zGF I) k) v W h
theorem zGS(hT:Tab W):Calls prog 8 #[] W (Ret W (fB true).tS):=by
 refine z5 [] func8 rfl kA trivial fun a s=>rgQ ((0,.u (uB false))::[]) s
  (oc zE<|zB) fun a w1 s=>lQ<|rgL 3 ((6,.s (SF.row 1 (zEh [0,0,2,0,2,2,0,2])))::(7,.s (wG w1 30 6 (pns (zDk zWS 4))))::(8,.s (wG w1 38 18 (tns zJ8)))::[]) s
  (oc (zIL _ _ _ _ _ _ _ _ iiz)<|oc (zG zC zOB (fun J W hb (I:(SF.row 1 (zEh [0,0,2,0,2,2,0,2])).p J W)=>(zFM (L:=zWS) I (zGF dA).ok dA).mono (wH (jA hb.size))))<|oc (zG zC zVR (fun J W hb I=>(zI6 (ps:=zDk zWS 4) (zHy dA _ _ (qY _ _ I)) (by rw[zB7];decide) (by rw[zB7];decide) (hT.below (s.up hb))).mono (wH (fun v W h=>jA hb.size v W (by rw[ck1]at h;exact h)))))<|zB) fun a w2 s hr=>?_
 obtain⟨v8,e8⟩:∃v,a.tmps.getD 8 undef=v:=⟨_,rfl⟩
 have U:(SF.row 18 (tns zJ8)).p v8 w2:=e8▸qY _ _ (hr (_,_) mz2)
 replace s:=s.learn 8 v8 e8
 have hd:=s.below
 replace hT:=hT.below hd
 replace s:=s.reb rfl [(8,.u (UF.eq v8)),(0,.u (uB false))] (fmz ⟨.inl (.head _),fmz ⟨.inl mz1,fnz⟩⟩)
 refine yO (UF.eq v8) rfl s kA iiz fun a w s=>zD rfl<|lQ<|rgL 3 ((9,.s (SF.row 1 (zEh [0,0,1,0,2,0,0,2])))::(10,.s (wG w 30 6 (pns (zDk zWT 4))))::(11,.s (wG w 38 18 (tns zSj)))::[]) s
  (oc (zIL _ _ _ _ _ _ _ _ iiz)<|oc (zG zC zOB (fun J W hb (I:(SF.row 1 (zEh [0,0,1,0,2,0,0,2])).p J W)=>(zFM (L:=zWT) I (zGF dA).ok dA).mono (wH (jA hb.size))))<|oc (zG zC zVR (fun J W hb I=>(zI6 (ps:=zDk zWT 4) (zHy dA _ _ (qY _ _ I)) (by rw[zB7];decide) (by rw[zB7];decide) (hT.below (s.up hb))).mono (wH (fun v W h=>jA hb.size v W (by rw[ck2]at h;exact h)))))<|zB) fun a w3 s hr=>?_
 obtain⟨v11,e11⟩:∃v,a.tmps.getD 11 undef=v:=⟨_,rfl⟩
 have O:(SF.row 18 (tns zSj)).p v11 w3:=e11▸qY _ _ (hr (_,_) mz2)
 replace s:=s.learn 11 v11 e11
 have hc:=s.below
 replace hT:=hT.below hc
 replace U:=(SF.row 18 _).st _ _ _ U hc
 replace s:=s.reb rfl [(11,.u (UF.eq v11)),(1,.u (UF.eq v8)),(8,.u (UF.eq v8)),(0,.u (uB false))] (fmz ⟨.inl (.head _),fmz ⟨.inl mz1,fmz ⟨.inl mz2,fmz ⟨.inl mz3,fnz⟩⟩⟩⟩)
 refine yO (UF.eq v11) rfl s kA iiz fun a w s=>zD rfl<|lQ<|rgQ ((12,.Z (UF.eq v8))::(13,.Z (uI ((tns zJ8).length:Int)))::(14,.Z (uB false))::(15,.Z (uB false))::(16,.Z (UF.eq v11))::(17,.Z (uI ((tns zSj).length:Int)))::(18,.Z (uB false))::(19,.u (uB false))::[]) s
  (oc zA<|oc (zY (z:=18) (Cs:=tns zJ8) kA (fun v W hb h=>(zU U h (s.up hb))) (fun _=>rfl))<|oc (zM .i64 ((tns zJ8).length:Int) 2 false iiz iiz (by rfl) rfl)<|oc zA<|oc (zF 15 false kA iiz (fun _=>zA) arf)<|oc (zF 15 false kA iiz (fun _=>zY (z:=18) (Cs:=tns zSj) kA (fun v W hb h=>(zU O h (s.up hb))) (fun _=>rfl)) arf)<|oc (zF 15 false kA iiz (fun _=>zM .i64 ((tns zSj).length:Int) 1 false iiz iiz (by rfl) rfl) arf)<|oc (yS false iiz (fun e=>by cases e) fD)<|zB) fun a w4 s=>StS.cond s false iiz (fun e=>by cases e) (fun e=>?_)
 refine pV<|lQ<|rgL 6 ((20,.s (SF.row 1 (zEh [0,2,0,0,2,0])))::(21,.s (wG w4 30 6 (pns (zDk zUB 3))))::(22,.s (SF.row 1 (zEh [2,0,2,2,0,2])))::(23,.s (wG w4 30 6 (pns (zDk zUA 3))))::(24,.s (SF.row 1 (zEh [0,0,2,0,0,2])))::(25,.s (wG w4 30 6 (pns (zDk zSn 3))))::[]) s
  (oc (zFT _ _ _ _ _ _ iiz)<|oc (zG zC zOB (fun J W hb (I:(SF.row 1 (zEh [0,2,0,0,2,0])).p J W)=>(zFM (L:=zUB) I (zGF dA).ok dA).mono (wH (jA hb.size))))<|oc (zFT _ _ _ _ _ _ iiz)<|oc (zG zC zOB (fun J W hb (I:(SF.row 1 (zEh [2,0,2,2,0,2])).p J W)=>(zFM (L:=zUA) I (zGF dA).ok dA).mono (wH (jA hb.size))))<|oc (zFT _ _ _ _ _ _ iiz)<|oc (zG zC zOB (fun J W hb (I:(SF.row 1 (zEh [0,0,2,0,0,2])).p J W)=>(zFM (L:=zSn) I (zGF dA).ok dA).mono (wH (jA hb.size))))<|zB) fun a w5 s hr=>?_
 obtain⟨v21,e21⟩:∃v,a.tmps.getD 21 undef=v:=⟨_,rfl⟩
 have h8:(SF.row 6 (pns (zDk zUB 3))).p v21 w5:=e21▸qY _ _ (hr (_,_) mz1)
 replace s:=s.learn 21 v21 e21
 obtain⟨v23,e23⟩:∃v,a.tmps.getD 23 undef=v:=⟨_,rfl⟩
 have h5:(SF.row 6 (pns (zDk zUA 3))).p v23 w5:=e23▸qY _ _ (hr (_,_) mz3)
 replace s:=s.learn 23 v23 e23
 obtain⟨v25,e25⟩:∃v,a.tmps.getD 25 undef=v:=⟨_,rfl⟩
 have h4:(SF.row 6 (pns (zDk zSn 3))).p v25 w5:=e25▸qY _ _ (hr (_,_) mz5)
 replace s:=s.learn 25 v25 e25
 have h9:=s.below
 replace hT:=hT.below h9
 replace U:=(SF.row 18 _).st _ _ _ U h9
 replace O:=(SF.row 18 _).st _ _ _ O h9
 replace s:=s.reb rfl [(25,.u (UF.eq v25)),(23,.u (UF.eq v23)),(21,.u (UF.eq v21)),(19,.u (uB false)),(2,.u (UF.eq v11)),(11,.u (UF.eq v11)),(1,.u (UF.eq v8)),(8,.u (UF.eq v8)),(0,.u (uB false))] (fmz ⟨.inl (.head _),fmz ⟨.inl mz1,fmz ⟨.inl mz2,fmz ⟨.inl mz3,fmz ⟨.inl mz4,fmz ⟨.inl mz5,fmz ⟨.inl mz6,fmz ⟨.inl mz7,fmz ⟨.inl mz8,fnz⟩⟩⟩⟩⟩⟩⟩⟩⟩)
 refine yO (UF.eq v21) rfl s kA iiz fun a w s=>yO (UF.eq v23) rfl s kA iiz fun a w s=>yO (UF.eq v25) rfl s kA iiz fun a w s=>zD rfl<|lQ ?_
 replace s:=s.drop [0]
 exact rgE ((26,.Z (UF.eq v8))::(27,.Z (UF.eq v21))::(28,.Y (fPN (((0:Int):Rat),((2:Int):Rat))))::(29,.Z (fPN (((0:Int):Rat),((2:Int):Rat))))::(30,.Z (UF.eq v21))::(31,.Y (fPN (((0:Int):Rat),((0:Int):Rat))))::(32,.Z (fPN (((0:Int):Rat),((0:Int):Rat))))::(33,.Z (UF.eq v21))::(34,.Y (fPN (((2:Int):Rat),((0:Int):Rat))))::(35,.Z (fPN (((2:Int):Rat),((0:Int):Rat))))::(36,.Z (fTN zUu))::(37,.Z (UF.eq v23))::(38,.Y (fPN (((2:Int):Rat),((0:Int):Rat))))::(39,.Z (fPN (((2:Int):Rat),((0:Int):Rat))))::(40,.Z (UF.eq v23))::(41,.Y (fPN (((2:Int):Rat),((2:Int):Rat))))::(42,.Z (fPN (((2:Int):Rat),((2:Int):Rat))))::(43,.Z (UF.eq v23))::(44,.Y (fPN (((0:Int):Rat),((2:Int):Rat))))::(45,.Z (fPN (((0:Int):Rat),((2:Int):Rat))))::(46,.Z (fTN zUt))::(47,.s (SF.row 18 (tns [zUu,zUt])))::(48,.Z (uB true))::(49,.Z (uB true))::(50,.Z (UF.eq v11))::(51,.Z (UF.eq v25))::(52,.Y (fPN (((0:Int):Rat),((0:Int):Rat))))::(53,.Z (fPN (((0:Int):Rat),((0:Int):Rat))))::(54,.Z (UF.eq v25))::(55,.Y (fPN (((2:Int):Rat),((0:Int):Rat))))::(56,.Z (fPN (((2:Int):Rat),((0:Int):Rat))))::(57,.Z (UF.eq v25))::(58,.Y (fPN (((0:Int):Rat),((2:Int):Rat))))::(59,.Z (fPN (((0:Int):Rat),((2:Int):Rat))))::(60,.Z (fTN zLB))::(61,.s (SF.row 18 (tns [zLB])))::(62,.Z (uB true))::(63,.Z (uB true))::(64,.Z (uB true))::(65,.Z (UF.eq v8))::(66,.Z (fQN (arK zJ8 2)))::(67,.Z (fQN ((8:Int):Rat)))::(68,.Z (uB true))::(69,.Z (uB true))::(70,.Z (uB true))::(71,.Z (UF.eq v11))::(72,.Y (fTN zLB))::(73,.Z (fTN zLB))::(74,.Z (fPN (((1:Int):Rat),((1:Int):Rat))))::(75,.Z (uI 0))::(76,.Z (uB true))::(77,.Z (uB true))::(78,.Z (uB true))::(79,.Z (UF.eq v25))::(80,.Z (uB true))::(81,.Z (uB true))::(0,.u (uB true))::[]) s
  (oc zA<|oc zA<|oc (zQ (z:=6) (Cs:=pns (zDk zUB 3)) (i:=0) (C:=CU.agg (fPN (((0:Int):Rat),((2:Int):Rat)))) kA rfl (fun v W hb h=>(zU h8 h (s.up hb))) iiz)<|oc (zH (f:=fPN (((0:Int):Rat),((2:Int):Rat))) 6 kA (hz:=zL _ _))<|oc zA<|oc (zQ (z:=6) (Cs:=pns (zDk zUB 3)) (i:=1) (C:=CU.agg (fPN (((0:Int):Rat),((0:Int):Rat)))) kA rfl (fun v W hb h=>(zU h8 h (s.up hb))) iiz)<|oc (zH (f:=fPN (((0:Int):Rat),((0:Int):Rat))) 6 kA (hz:=zL _ _))<|oc zA<|oc (zQ (z:=6) (Cs:=pns (zDk zUB 3)) (i:=2) (C:=CU.agg (fPN (((2:Int):Rat),((0:Int):Rat)))) kA rfl (fun v W hb h=>(zU h8 h (s.up hb))) iiz)<|oc (zH (f:=fPN (((2:Int):Rat),((0:Int):Rat))) 6 kA (hz:=zL _ _))<|oc (zAQ (fun u v q W (hu:(fPN (((0:Int):Rat),((2:Int):Rat))).p u W) (hv:(fPN (((0:Int):Rat),((0:Int):Rat))).p v W) (hq:(fPN (((2:Int):Rat),((0:Int):Rat))).p q W)=>zWx (t:=zUu) hu hv hq))<|oc zA<|oc (zQ (z:=6) (Cs:=pns (zDk zUA 3)) (i:=0) (C:=CU.agg (fPN (((2:Int):Rat),((0:Int):Rat)))) kA rfl (fun v W hb h=>(zU h5 h (s.up hb))) iiz)<|oc (zH (f:=fPN (((2:Int):Rat),((0:Int):Rat))) 6 kA (hz:=zL _ _))<|oc zA<|oc (zQ (z:=6) (Cs:=pns (zDk zUA 3)) (i:=1) (C:=CU.agg (fPN (((2:Int):Rat),((2:Int):Rat)))) kA rfl (fun v W hb h=>(zU h5 h (s.up hb))) iiz)<|oc (zH (f:=fPN (((2:Int):Rat),((2:Int):Rat))) 6 kA (hz:=zL _ _))<|oc zA<|oc (zQ (z:=6) (Cs:=pns (zDk zUA 3)) (i:=2) (C:=CU.agg (fPN (((0:Int):Rat),((2:Int):Rat)))) kA rfl (fun v W hb h=>(zU h5 h (s.up hb))) iiz)<|oc (zH (f:=fPN (((0:Int):Rat),((2:Int):Rat))) 6 kA (hz:=zL _ _))<|oc (zAQ (fun u v q W (hu:(fPN (((2:Int):Rat),((0:Int):Rat))).p u W) (hv:(fPN (((2:Int):Rat),((2:Int):Rat))).p v W) (hq:(fPN (((0:Int):Rat),((2:Int):Rat))).p q W)=>zWx (t:=zUt) hu hv hq))<|oc (yH (fun u v W (hu:(fTN zUu).p u W) (hv:(fTN zUt).p v W)=>zUV hu hv))<|oc (zI zC zQ0 (fun J u1 W hb (I:J=v8) (h1:(SF.row 18 (tns [zUu,zUt])).p u1 W)=>zDp (ts:=zJ8) (zU U I (s.up hb)) h1 dA))<|oc zA<|oc (zF 49 true kA iiz (fun _=>zA) arf)<|oc (zF 49 true kA iiz (fun _=>zA) arf)<|oc (zF 49 true kA iiz (fun _=>zQ (z:=6) (Cs:=pns (zDk zSn 3)) (i:=0) (C:=CU.agg (fPN (((0:Int):Rat),((0:Int):Rat)))) kA rfl (fun v W hb h=>(zU h4 h (s.up hb))) iiz) arf)<|oc (zF 49 true kA iiz (fun _=>zH (f:=fPN (((0:Int):Rat),((0:Int):Rat))) 6 kA (hz:=zL _ _)) arf)<|oc (zF 49 true kA iiz (fun _=>zA) arf)<|oc (zF 49 true kA iiz (fun _=>zQ (z:=6) (Cs:=pns (zDk zSn 3)) (i:=1) (C:=CU.agg (fPN (((2:Int):Rat),((0:Int):Rat)))) kA rfl (fun v W hb h=>(zU h4 h (s.up hb))) iiz) arf)<|oc (zF 49 true kA iiz (fun _=>zH (f:=fPN (((2:Int):Rat),((0:Int):Rat))) 6 kA (hz:=zL _ _)) arf)<|oc (zF 49 true kA iiz (fun _=>zA) arf)<|oc (zF 49 true kA iiz (fun _=>zQ (z:=6) (Cs:=pns (zDk zSn 3)) (i:=2) (C:=CU.agg (fPN (((0:Int):Rat),((2:Int):Rat)))) kA rfl (fun v W hb h=>(zU h4 h (s.up hb))) iiz) arf)<|oc (zF 49 true kA iiz (fun _=>zH (f:=fPN (((0:Int):Rat),((2:Int):Rat))) 6 kA (hz:=zL _ _)) arf)<|oc (zF 49 true kA iiz (fun _=>zAQ (fun u v q W (hu:(fPN (((0:Int):Rat),((0:Int):Rat))).p u W) (hv:(fPN (((2:Int):Rat),((0:Int):Rat))).p v W) (hq:(fPN (((0:Int):Rat),((2:Int):Rat))).p q W)=>zWx (t:=zLB) hu hv hq)) arf)<|oc (zF 49 true kA iiz (fun _=>jX (fun u W (hu:(fTN zLB).p u W)=>zML hu)) arf)<|oc (zF 49 true kA iiz (fun _=>zI zC zQ0 (fun J u1 W hb (I:J=v11) (h1:(SF.row 18 (tns [zLB])).p u1 W)=>zDp (ts:=zSj) (zU O I (s.up hb)) h1 dA)) arf)<|oc (yS true iiz fD (fun e=>by cases e))<|oc zA<|oc (zF 64 true kA iiz (fun _=>zA) arf)<|oc (zF 64 true kA iiz (fun _=>zG zC zXZ (fun J W hb (I:J=v8)=>zUc (ts:=zJ8) (zSG zWW _ _ (zU U I (s.up hb))) dA (hT.below (s.up hb)))) arf)<|oc (zF 64 true kA iiz (fun _=>zG zC zL6 (fun J W hb (I:J=.int .i64 8)=>zGx _ I dA)) arf)<|oc (zF 64 true kA iiz (fun _=>zI zC zX3 (fun J u1 W hb (I:QNp (arK zJ8 2) J W) (h1:QNp ((8:Int):Rat) u1 W)=>(zPZ (m:=200) (p:=arK zJ8 2) (q:=((8:Int):Rat)) (wL I ((zOU zWX 2 dA).mono dA)) (wL h1 ((qbz dA).mono dA)) dA dA).mono (wH (fun v W h=>by rw[ck3]at h;exact h)))) arf)<|oc (yS true iiz fD (fun e=>by cases e))<|oc zA<|oc (zF 70 true kA iiz (fun _=>zA) arf)<|oc (zF 70 true kA iiz (fun _=>zQ (z:=18) (Cs:=tns zSj) (i:=0) (C:=CU.agg (fTN zLB)) kA rfl (fun v W hb h=>(zU O h (s.up hb))) iiz) arf)<|oc (zF 70 true kA iiz (fun _=>zH (f:=fTN zLB) 18 kA (hz:=zId _)) arf)<|oc (zF 70 true kA iiz (fun _=>zI zC zOA (fun J u1 W hb (I:J=.int .i64 1) (h1:u1=.int .i64 1)=>zIw I h1 dA dA)) arf)<|oc (zF 70 true kA iiz (fun _=>zI zC zV7 (fun J u1 W hb (I:(fTN zLB).p J W) (h1:(fPN (((1:Int):Rat),((1:Int):Rat))).p u1 W)=>(zR5 (m:=1) (t:=zLB) (p:=(((1:Int):Rat),((1:Int):Rat))) (zPj zSK I) (zBz (qbz dA) (qbz dA) h1) dA dA (hT.below (s.up hb))).mono (wH (fun v W h=>by rw[ck4]at h;exact h)))) arf)<|oc (zF 70 true kA iiz (fun _=>zM .i64 0 0 true iiz iiz (by rfl) rfl) arf)<|oc (yS true iiz fD (fun e=>by cases e))<|oc zA<|oc (zF 78 true kA iiz (fun _=>zA) arf)<|oc (zF 78 true kA iiz (fun _=>zI zC zV6 (fun J u1 W hb (I:J=v25) (h1:u1=.int .i64 0)=>(zR6 (m:=1) (ps:=zDk zSn 3) (i:=0) (zHy dA _ _ (zU h4 I (s.up hb))) h1 (by rw[zB7];decide) (by rw[zB7];decide) (by rw[zB7];decide) dA dA (hT.below (s.up hb))).mono (wH (fun v W h=>by rw[ck5]at h;exact h)))) arf)<|oc (yS true iiz fD (fun e=>by cases e))<|oc zE<|zB) fun a w6 s=>pU<|vJ s (hd.trans ((hc.trans (h9.mono hc.size)).mono hd.size)) rfl iiz
def flK(ps:List V2)(k:Nat):List Nat:=(List.range k).filter fun i=>(yT ps).getD i 0==0
theorem zXp(h:((yT ps).getD k 0==0)=true):flK ps (k+1)=flK ps k++ [k]:=by
 unfold flK
 rw[cS,List.filter_append]
 simp only[List.filter_cons,List.filter_nil,h,cG]
theorem zXq(h:((yT ps).getD k 0==0)=false):flK ps (k+1)=flK ps k:=by
 unfold flK
 rw[cS,List.filter_append]
 simp only[List.filter_cons,List.filter_nil,h]
 simp
theorem zT0(ps:List V2)(k:Nat):(flK ps k).length<=k:=by
 have:=List.length_filter_le (fun i=>(yT ps).getD i 0==0) (List.range k)
 rwa [lE]at this
theorem zOr(h3:3<=ps.length):(flK ps (yT ps).length).length=((List.range ps.length).filter fun i=>zBi (zAL ps i)==0).length:=by
 have e:yT ps=zCl ps ps.length:=by unfold yT;rw[if_neg oA]
 unfold flK
 rw[e,zGn]
 congr 1
 refine List.filter_congr fun i hi=>?_
 have hi:=xT.1 hi
 have:(zCl ps ps.length).getD i 0=zFs ps i:=by
  unfold zCl
  rw[rH,tJ,zY9 hi]
  rfl
 rw[this]
 rfl
theorem zNj(hl:(SF.row 6 (pvs m ps)).p l W)(hm:m<=246)(ha:0<m)(hn:ps.length<=1000000):Calls prog 23 #[l] W (Ret W (wG W 3 1 (zK3 (flK ps (yT ps).length)))):=by
 refine z5 [(UF.eq l).tS] func23 rfl kA ⟨rfl,trivial⟩ fun a s=>?_
 replace s:=s.renew [(0,.u (UF.eq l))] (fmz ⟨.inr ⟨_,rfl,.head _⟩,fnz⟩)
 refine rgQ ((2,.u (UF.eq (sN)))::[]) s
  (oc zE<|zB) fun a w1 s=>rgQ ((3,.u (UF.eq (sN)))::[]) s
  (oc zE<|zB) fun a w2 s=>lQ<|rgL 2 ((6,.Z (UF.eq l))::(7,.s (SF.row 1 (zns (yT ps))))::[]) s
  (oc zA<|oc (zG zC zXO (fun u0 W hb (h0:u0=l)=>zM9 (zU hl h0 (s.up hb)) hm ha hn))<|zB) fun a w3 s hr=>?_
 obtain⟨v7,e7⟩:∃v,a.tmps.getD 7 undef=v:=⟨_,rfl⟩
 have he:(SF.row 1 (zns (yT ps))).p v7 w3:=e7▸(hr (_,_) mz1)
 replace s:=s.learn 7 v7 e7
 have O:=s.below
 replace s:=s.reb rfl [(7,.u (UF.eq v7)),(3,.u (UF.eq (sN))),(2,.u (UF.eq (sN))),(0,.u (UF.eq l))] (fmz ⟨.inl (.head _),fmz ⟨.inl mz1,fmz ⟨.inl mz2,fmz ⟨.inl mz3,fnz⟩⟩⟩⟩)
 refine yO (UF.eq v7) rfl s kA iiz fun a w s=>zD rfl<|lQ<|rgQ ((5,.u (uI 0))::[]) s
  (oc zE<|zB) fun a w4 s=>tQ ?_
 obtain⟨base,hbase⟩:∃b,b=w4.heap.size:=⟨_,rfl⟩
 have hc:=s.gr.size
 have J:_<=base:=hbase▸hc
 have U:base<=w4.heap.size:=by rw[hbase];exact vP _
 refine zDE (fun(p:Nat×WE) w=>p.1<=(yT ps).length/\base<=w.heap.size/\zAk w base 3 1 p.2 (zK3 (flK ps p.1))) (fun p=> [(4,.u (UF.eq v7)),(3,.u (UF.eq (p.2))),(5,.u (uI (p.1:Int)))]) (fun p=>(yT ps).length-p.1) (0, sN) (⟨vR _,U,zAk.nil _ _ _ _⟩) (s.keepK _ (fmz ⟨mz1,fmz ⟨mz3,fmz ⟨.head _,fnz⟩⟩⟩)) fun p a w hI s=>?_
 have s0:=s
 have h6:=(SF.row 1 _).st _ _ _ he s0.below
 have htz:=zLE ps
 replace s:=s.reb rfl [(4,.u (UF.eq v7)),(3,.u (UF.eq (p.2))),(5,.u (uI (p.1:Int)))] (fmz ⟨.inl (.head _),fmz ⟨.inl mz1,fmz ⟨.inl mz2,fnz⟩⟩⟩)
 refine lQ<|rgQ ((8,.Z (uI (p.1:Int)))::(9,.Z (UF.eq v7))::(10,.Z (uI ((zns (yT ps)).length:Int)))::(11,.u (uB (ltz p.1 ((zns (yT ps)).length))))::[]) s
  (oc zA<|oc zA<|oc (zY (z:=1) (Cs:=zns (yT ps)) kA (fun v W hb h=>(zU h6 h (s.up hb))) (fun _=>rfl))<|oc (zM .i64 (p.1:Int) ((zns (yT ps)).length:Int) (ltz p.1 ((zns (yT ps)).length)) iiz iiz rfl rfl)<|zB) fun a w5 s=>StS.cond s (ltz p.1 ((zns (yT ps)).length)) iiz (fun e=>?_) (fun e=>?_)
 .have hk:p.1<(yT ps).length:=by have:=xW e;simp at this;omega
  refine pV<|lQ<|tQ<|rgQ ((14,.Z (UF.eq v7))::(15,.Z (uI (p.1:Int)))::(16,.s (wD (wC [.int .i64 ((yT ps).getD p.1 0)]).cf))::(17,.Z (uI ((yT ps).getD p.1 0)))::(18,.u (uB ((yT ps).getD p.1 0==0)))::[]) s
   (oc zA<|oc zA<|oc (zQ (z:=1) (Cs:=zns (yT ps)) (i:=p.1) (C:=wC [.int .i64 ((yT ps).getD p.1 0)]) kA (zSp hk) (fun v W hb h=>(zU h6 h (s.up hb))) iiz)<|oc (qB (C:=(wC [.int .i64 ((yT ps).getD p.1 0)]).cf) kA iiz zAK)<|oc (zM .i64 ((yT ps).getD p.1 0) 0 ((yT ps).getD p.1 0==0) iiz iiz rfl rfl)<|zB) fun a w6 s=>StS.cond s ((yT ps).getD p.1 0==0) iiz (fun e=>?_) (fun e=>?_)
  .refine zCB 3 ((19,.u (UF.eq (p.2)))::(20,.Z (uI (p.1:Int)))::(21,.s (SF.row 1 [wC [.int .i64 (p.1:Int)]]))::[]) s kA
    (oc zA<|oc zA<|oc (jX (fun u W (hu:u=.int .i64 (p.1:Int))=>zMN hu))<|zB) fun a w7 s hr=>?_
   refine zLF ([wC [.int .i64 (p.1:Int)]]) s0 (s.keepK [(19,.u (UF.eq (p.2))),(18,.u (uB ((yT ps).getD p.1 0==0))),(11,.u (uB (ltz p.1 ((zns (yT ps)).length)))),(4,.u (UF.eq v7)),(3,.u (UF.eq (p.2))),(5,.u (uI (p.1:Int)))] (fmz ⟨.head _,fmz ⟨mz1,fmz ⟨mz2,fmz ⟨mz3,fmz ⟨mz4,fmz ⟨mz5,fnz⟩⟩⟩⟩⟩⟩)) J hI.2 rfl kA kA kA (s.fct (.tmp 19)) (hr (_,_) mz2) (zRO _) (by have:=zT0 ps p.1;simp;omega) (fun q hq=>by cases hq) fun v' a w h5 s=>?_
   have s1:=s
   replace s:=s.reb rfl [(22,.u (UF.eq v')),(19,.u (UF.eq (p.2))),(18,.u (uB ((yT ps).getD p.1 0==0))),(11,.u (uB (ltz p.1 ((zns (yT ps)).length)))),(4,.u (UF.eq v7)),(3,.u (UF.eq (p.2))),(5,.u (uI (p.1:Int)))] (fmz ⟨.inl (.head _),fmz ⟨.inl mz1,fmz ⟨.inl mz2,fmz ⟨.inl mz3,fmz ⟨.inl mz4,fmz ⟨.inl mz5,fmz ⟨.inl mz6,fnz⟩⟩⟩⟩⟩⟩⟩)
   replace s:=s.drop [3]
   refine yO (UF.eq v') rfl s kA iiz fun a w s=>zD rfl<|zW 2 ((12,.Z (uI (p.1:Int)))::(13,.u (uI ((p.1+1:Nat):Int)))::[]) s kA
    (oc zA<|oc (yI .i64 (p.1:Int) 1 ((p.1+1:Nat):Int) iiz iiz (wrap64 _ _ oA oA))<|zB) fun a w8 s=>?_
   replace s:=s.drop [5]
   refine yO (uI ((p.1+1:Nat):Int)) rfl s kA iiz fun a w s=>zD rfl ?_
   have I:=s.below
   replace s:=s1.back (s.keepK [(5,.u (uI ((p.1+1:Nat):Int))),(13,.u (uI ((p.1+1:Nat):Int))),(3,.u (UF.eq v')),(22,.u (UF.eq v')),(19,.u (UF.eq (p.2))),(18,.u (uB ((yT ps).getD p.1 0==0))),(11,.u (uB (ltz p.1 ((zns (yT ps)).length)))),(4,.u (UF.eq v7))] (fmz ⟨.head _,fmz ⟨mz1,fmz ⟨mz2,fmz ⟨mz3,fmz ⟨mz4,fmz ⟨mz5,fmz ⟨mz6,fmz ⟨mz7,fnz⟩⟩⟩⟩⟩⟩⟩⟩)) rfl
   exact⟨(p.1+1,v'),(by show(yT ps).length-(p.1+1)<(yT ps).length-p.1;omega),⟨hk,xQ h5.1 I.size,by show zAk _ _ _ _ _ (zK3 (flK _ (p.1+1)));rw[zXp e,zNQ];exact h5.2.below I⟩,s.keepK _ (fmz ⟨mz7,fmz ⟨mz2,fmz ⟨.head _,fnz⟩⟩⟩)⟩
  .refine pV ?_
   refine zW 2 ((12,.Z (uI (p.1:Int)))::(13,.u (uI ((p.1+1:Nat):Int)))::[]) s kA
    (oc zA<|oc (yI .i64 (p.1:Int) 1 ((p.1+1:Nat):Int) iiz iiz (wrap64 _ _ oA oA))<|zB) fun a w9 s=>?_
   replace s:=s.drop [5]
   refine yO (uI ((p.1+1:Nat):Int)) rfl s kA iiz fun a w s=>zD rfl ?_
   have I:=s.below
   replace s:=s0.back (s.keepK [(5,.u (uI ((p.1+1:Nat):Int))),(13,.u (uI ((p.1+1:Nat):Int))),(18,.u (uB ((yT ps).getD p.1 0==0))),(11,.u (uB (ltz p.1 ((zns (yT ps)).length)))),(4,.u (UF.eq v7)),(3,.u (UF.eq (p.2)))] (fmz ⟨.head _,fmz ⟨mz1,fmz ⟨mz2,fmz ⟨mz3,fmz ⟨mz4,fmz ⟨mz5,fnz⟩⟩⟩⟩⟩⟩)) rfl
   exact⟨(p.1+1,p.2),(by show(yT ps).length-(p.1+1)<(yT ps).length-p.1;omega),⟨hk,xQ hI.2.1 I.size,by show zAk _ _ _ _ _ (zK3 (flK _ (p.1+1)));rw[zXq e];exact hI.2.2.below I⟩,s.keepK _ (fmz ⟨mz4,fmz ⟨mz5,fmz ⟨.head _,fnz⟩⟩⟩)⟩
 .have hk:p.1=(yT ps).length:=by have h7:=nH e;have h8:=hI.1;simp at h7;omega
  exact tR<|rgQ ((23,.Z (UF.eq (p.2)))::(2,.u (UF.eq (p.2)))::[]) s
   (oc zA<|oc zE<|zB) fun a w10 s=>pU<|StS.resN s (O.trans (s0.below.mono O.size)) rfl (by rw[s.val (.head _)];have:=(hI.2.2.below s.below).mono (xQ O.size J);rw[hk]at this;exact this)
def anK(ps:List V2)(c:V2)(k:Nat):Bool:=(List.range k).any fun j=>jZ (at_ ps j) c==0
theorem zYa(ps:List V2)(c:V2):anK ps c 0=false:=by unfold anK;simp
theorem zRb(ps:List V2)(c:V2)(k:Nat):anK ps c (k+1)=(anK ps c k||(jZ (at_ ps k) c==0)):=by
 unfold anK
 rw[cS,List.any_append]
 simp
theorem zOO(p:V2):(jZ p p==0)=true:=by
 unfold jZ
 rw[bJ]
 have I:qsg p.1 p.1=0:=zCQ.2 rfl
 have h2:qsg p.2 p.2=0:=zCQ.2 rfl
 simp[I,h2]
theorem zUr{c:V2}(h:c∈ps):anK ps c ps.length=true:=by
 obtain⟨i,hi,e⟩:=zFX h
 unfold anK
 refine bQ.2 ⟨i,xT.2 hi,?_⟩
 rw[e]
 exact zOO c
theorem zQn(h:∀p,p∈ps->QB p.1 1/\QB p.2 1):∀i j,i<ps.length->j<ps.length->i≠j->zEY (at_ ps i) (at_ ps j):=fun i j hi I _=>⟨1,1,h _ (zA7 hi),h _ (zA7 I),by decide⟩
theorem zWr(I:k<3){ps:List V2}(h:t.1∈ps/\t.2.1∈ps/\t.2.2∈ps):cor t k∈ps:=by
 match k,I with
 |0,_=>exact h.1
 |1,_=>exact h.2.1
 |2,_=>exact h.2.2
theorem zWs(A:List PX):decide (((pxs A).length:Int)>7)=true∨(decide (((pxs A).length:Int)>7)=false/\g16 A=true)∨(decide (((pxs A).length:Int)>7)=false/\g16 A=false):=by
 cases decide (((pxs A).length:Int)>7)
 .cases g16 A
  .exact .inr (.inr ⟨rfl,rfl⟩)
  .exact .inr (.inl ⟨rfl,rfl⟩)
 .exact .inl rfl
theorem zL7{A:List PX}{k0:Int}{t:WE}(h4:(SF.row 6 (pxs A)).p l W)(ht:t=.int .i64 k0)(hT:Tab W):Calls prog 4 #[l,t] W (Ret W (fB true).tS):=by
 refine z5 [(UF.eq l).tS,(uI k0).tS] func4 rfl kA ⟨rfl,ht,trivial⟩ fun a s=>?_
 replace s:=s.renew [(0,.u (UF.eq l)),(1,.u (uI k0))] (fmz ⟨.inr ⟨_,rfl,.head _⟩,fmz ⟨.inr ⟨_,rfl,mz1⟩,fnz⟩⟩)
 refine rgQ ((4,.u (uB false))::[]) s
  (oc zE<|zB) fun a w1 s=>lQ<|lQ ?_
 rcases zWs A with eN|⟨eN,eG⟩|⟨eN,eG⟩
 .refine rgE ((10,.Z (UF.eq l))::(11,.Z (uI ((pxs A).length:Int)))::(12,.Z (uB true))::(13,.Z (uB true))::(16,.Z (uB true))::(17,.Z (uB true))::(21,.u (uB true))::[]) s
   (oc zA<|oc (zY (z:=6) (Cs:=pxs A) kA (fun v W hb h=>(zU h4 h (s.up hb))) (fun _=>rfl))<|oc (zM .i64 ((pxs A).length:Int) 7 true iiz iiz eN rfl)<|oc zA<|oc (zF 13 true kA iiz (fun e=>by cases e) (fun _ _=>trivial))<|oc (zF 13 true kA iiz (fun e=>by cases e) (fun _ _=>trivial))<|oc (yS true iiz fD (fun e=>by cases e))<|oc zA<|oc (zF 17 true kA iiz (fun e=>by cases e) (fun _ _=>trivial))<|oc (zF 17 true kA iiz (fun e=>by cases e) (fun _ _=>trivial))<|oc (zF 17 true kA iiz (fun e=>by cases e) (fun _ _=>trivial))<|oc (yS true iiz fD (fun e=>by cases e))<|zB) fun a w2 s=>?_
  refine StS.cond s true iiz (fun e=>?_) (fun e=>by cases e)
  refine lQ ?_
  replace s:=s.drop [4]
  exact rgE ((22,.Z (uB true))::(4,.u (uB true))::[]) s
   (oc (zFc zC zWO (fun W hb=>zGS (hT.below (s.up hb))))<|oc zE<|zB) fun a w3 s=>pU<|wF s (t:=4) rfl iiz
 .refine rgE ((10,.Z (UF.eq l))::(11,.Z (uI ((pxs A).length:Int)))::(12,.Z (uB false))::(13,.Z (uB false))::(14,.Z (UF.eq l))::(15,.Z (uB true))::(16,.Z (uB true))::(17,.Z (uB true))::(21,.u (uB true))::[]) s
   (oc zA<|oc (zY (z:=6) (Cs:=pxs A) kA (fun v W hb h=>(zU h4 h (s.up hb))) (fun _=>rfl))<|oc (zM .i64 ((pxs A).length:Int) 7 false iiz iiz eN rfl)<|oc zA<|oc (zF 13 false kA iiz (fun _=>zA) arf)<|oc (zF 13 false kA iiz (fun _=>zG zC zYv (fun J W hb (I:J=l)=>(zLd (L:=A) (zU h4 I (s.up hb))).mono (wH (fun v W h=>by rw[eG]at h;exact h)))) arf)<|oc (yS false iiz (fun e=>by cases e) fD)<|oc zA<|oc (zF 17 true kA iiz (fun e=>by cases e) (fun _ _=>trivial))<|oc (zF 17 true kA iiz (fun e=>by cases e) (fun _ _=>trivial))<|oc (zF 17 true kA iiz (fun e=>by cases e) (fun _ _=>trivial))<|oc (yS true iiz fD (fun e=>by cases e))<|zB) fun a w4 s=>?_
  refine StS.cond s true iiz (fun e=>?_) (fun e=>by cases e)
  refine lQ ?_
  replace s:=s.drop [4]
  exact rgE ((22,.Z (uB true))::(4,.u (uB true))::[]) s
   (oc (zFc zC zWO (fun W hb=>zGS (hT.below (s.up hb))))<|oc zE<|zB) fun a w5 s=>pU<|wF s (t:=4) rfl iiz
 .have hA:=zQb eG l W h4
  have hd:=zKN dA hA
  have hAl:(pps A).length=A.length:=by simp
  have hv:=(zVI eG).1
  refine rgE ((10,.Z (UF.eq l))::(11,.Z (uI ((pxs A).length:Int)))::(12,.Z (uB false))::(13,.Z (uB false))::(14,.Z (UF.eq l))::(15,.Z (uB false))::(16,.Z (uB false))::(17,.Z (uB false))::(18,.Z (UF.eq l))::(19,.Z (uB (zDz (pps A))))::(20,.Z (uB (!(zDz (pps A)))))::(21,.u (uB (!(zDz (pps A)))))::[]) s
   (oc zA<|oc (zY (z:=6) (Cs:=pxs A) kA (fun v W hb h=>(zU h4 h (s.up hb))) (fun _=>rfl))<|oc (zM .i64 ((pxs A).length:Int) 7 false iiz iiz eN rfl)<|oc zA<|oc (zF 13 false kA iiz (fun _=>zA) arf)<|oc (zF 13 false kA iiz (fun _=>zG zC zYv (fun J W hb (I:J=l)=>(zLd (L:=A) (zU h4 I (s.up hb))).mono (wH (fun v W h=>by rw[eG]at h;exact h)))) arf)<|oc (yS false iiz (fun e=>by cases e) fD)<|oc zA<|oc (zF 17 false kA iiz (fun _=>zA) arf)<|oc (zF 17 false kA iiz (fun _=>zG zC zYT (fun J W hb (I:J=l)=>zJC (ps:=(pps A)) (zQd (m:=1) dA _ _ (zU hA I (s.up hb))) oA (zQn hd))) arf)<|oc (zF 17 false kA iiz (fun _=>zDB (zDz (pps A)) iiz (fun _=>rfl)) arf)<|oc (yS false iiz (fun e=>by cases e) fD)<|zB) fun a w6 s=>StS.cond s (!(zDz (pps A))) iiz (fun e=>?_) (fun e=>?_)
  .refine lQ ?_
   replace s:=s.drop [4]
   exact rgE ((22,.Z (uB true))::(4,.u (uB true))::[]) s
    (oc (zFc zC zWO (fun W hb=>zGS (hT.below (s.up hb))))<|oc zE<|zB) fun a w7 s=>pU<|wF s (t:=4) rfl iiz
  .have hy:zDz (pps A)=true:=by simpa using e
   have U:=zPx hy
   have h3:=U.three
   obtain⟨ts,hts⟩:∃ts,ts=zEU (pps A):=⟨_,rfl⟩
   have h9:=zOq U
   have hf:=zJ2 U
   rw[<-hts]at h9 hf
   have htl:ts.length<=7:=by omega
   refine pV<|lQ<|rgL 2 ((23,.Z (UF.eq l))::(24,.s (SF.row 18 (tns ts)))::[]) s
    (oc zA<|oc (zG zC zVR (fun J W hb (I:J=l)=>(zI6 (ps:=(pps A)) (zU hA I (s.up hb)) oA oA (hT.below (s.up hb))).mono (wH (fun v W h=>by rw[<-hts]at h;exact qY _ _ h))))<|zB) fun a w8 s hr=>?_
   obtain⟨v24,e24⟩:∃v,a.tmps.getD 24 undef=v:=⟨_,rfl⟩
   have O:(SF.row 18 (tns ts)).p v24 w8:=e24▸(hr (_,_) mz1)
   replace s:=s.learn 24 v24 e24
   have hc:=s.below
   replace hT:=hT.below hc
   replace hA:=(SF.row 6 _).st _ _ _ hA hc
   replace s:=s.reb rfl [(24,.u (UF.eq v24)),(21,.u (uB (!(zDz (pps A))))),(4,.u (uB false)),(0,.u (UF.eq l)),(1,.u (uI k0))] (fmz ⟨.inl (.head _),fmz ⟨.inl mz1,fmz ⟨.inl mz2,fmz ⟨.inl mz3,fmz ⟨.inl mz4,fnz⟩⟩⟩⟩⟩)
   refine yO (UF.eq v24) rfl s kA iiz fun a w s=>zD rfl<|lQ<|rgQ ((25,.Z (uI k0))::(26,.Z (UF.eq l))::(27,.s (zXr 1 (pps A)))::(28,.s (SF.row 18 (tns ts)))::(29,.Z (UF.eq v24))::(30,.Z (uB true))::(31,.Z (uB false))::(32,.Z (uB false))::(33,.Z (UF.eq l))::(34,.s (SF.row 6 (pvs 1 (zAX (pps A)))))::(35,.s (SF.row 18 (tns ts)))::(36,.Z (UF.eq v24))::(37,.Z (uB true))::(38,.Z (uB false))::(39,.u (uB false))::[]) s
    (oc zA<|oc zA<|oc (zI zC zX2 (fun J u1 W hb (I:J=.int .i64 k0) (h1:u1=l)=>zLS (m:=1) (ps:=(pps A)) (z:=k0) I (zU hA h1 (s.up hb)) oA oA))<|oc (zG zC zVR (fun J W hb (I:(zXr 1 (pps A)).p J W)=>(by obtain⟨kk,hu,hr⟩:=I;exact(zI6 (ps:=zCa (pps A) kk) hr (by rw[zAv];omega) (by rw[zAv];omega) (hT.below (s.up hb))).mono (wH (fun v W h=>by rw[show zEU (zCa (pps A) kk)=ts by rw[hts];unfold zEU;rw[zL0 U hu]]at h;exact qY _ _ h)))))<|oc zA<|oc (zI zC zQ0 (fun J u1 W hb (I:(SF.row 18 (tns ts)).p J W) (h1:u1=v24)=>zDp (ts:=ts) I (zU O h1 (s.up hb)) oA))<|oc (zDB true iiz (fun _=>rfl))<|oc zA<|oc (zF 32 false kA iiz (fun _=>zA) arf)<|oc (zF 32 false kA iiz (fun _=>zG zC zX1 (fun J W hb (I:J=l)=>zP8 (m:=1) (ps:=(pps A)) (zU hA I (s.up hb)) oA)) arf)<|oc (zF 32 false kA iiz (fun _=>zG zC zVR (fun J W hb (I:(SF.row 6 (pvs 1 (zAX (pps A)))).p J W)=>(zI6 (ps:=zAX (pps A)) I (by rw[qX];omega) (by rw[qX];omega) (hT.below (s.up hb))).mono (wH (fun v W h=>by rw[show zEU (zAX (pps A))=ts by rw[hts];unfold zEU;rw[zQw U]]at h;exact qY _ _ h)))) arf)<|oc (zF 32 false kA iiz (fun _=>zA) arf)<|oc (zF 32 false kA iiz (fun _=>zI zC zQ0 (fun J u1 W hb (I:(SF.row 18 (tns ts)).p J W) (h1:u1=v24)=>zDp (ts:=ts) I (zU O h1 (s.up hb)) oA)) arf)<|oc (zF 32 false kA iiz (fun _=>zDB true iiz (fun _=>rfl)) arf)<|oc (yS false iiz (fun e=>by cases e) fD)<|zB) fun a w9 s=>StS.cond s false iiz (fun e=>by cases e) (fun e=>?_)
   refine pV<|lQ<|rgQ ((6,.u (uI 0))::[]) s
    (oc zE<|zB) fun a w10 s=>tQ<|zAg (fun i=>i<=ts.length) (fun i=> [(0,.u (UF.eq l)),(5,.u (UF.eq v24)),(6,.u (uI ((i:Nat):Int)))]) (fun i=>ts.length-i) (0:Nat) (vR _) (s.keepK _ (fmz ⟨mz6,fmz ⟨mz2,fmz ⟨.head _,fnz⟩⟩⟩)) fun i a w hx s=>?_
   have hs:=zMy ts
   refine lQ<|rgQ ((40,.Z (uI (i:Int)))::(41,.Z (UF.eq v24))::(42,.Z (uI ((tns ts).length:Int)))::(43,.u (uB (ltz i ((tns ts).length))))::[]) s
    (oc zA<|oc zA<|oc (zY (z:=18) (Cs:=tns ts) kA (fun v W hb h=>(zU O h (s.up hb))) (fun _=>rfl))<|oc (zM .i64 (i:Int) ((tns ts).length:Int) (ltz i ((tns ts).length)) iiz iiz rfl rfl)<|zB) fun a w11 s=>StS.cond s (ltz i ((tns ts).length)) iiz (fun e=>?_) (fun e=>?_)
   .have hi:i<ts.length:=by have:=xW e;rw[hs]at this;omega
    have hq:=hf _ (zUq hi)
    refine pV<|lQ<|tQ<|rgQ ((7,.u (uI 0))::[]) s
     (oc zE<|zB) fun a w12 s=>tQ<|zAg (fun k=>k<=3) (fun k=> [(0,.u (UF.eq l)),(5,.u (UF.eq v24)),(6,.u (uI (i:Int))),(7,.u (uI ((k:Nat):Int)))]) (fun k=>3-k) (0:Nat) (vR _) (s.keepK _ (fmz ⟨mz2,fmz ⟨mz3,fmz ⟨mz4,fmz ⟨.head _,fnz⟩⟩⟩⟩)) fun k a w hx s=>lQ<|rgQ ((46,.Z (uI (k:Int)))::(47,.u (uB (decide ((k:Int)<3))))::[]) s
     (oc zA<|oc (zM .i64 (k:Int) 3 (decide ((k:Int)<3)) iiz iiz rfl rfl)<|zB) fun a w13 s=>StS.cond s (decide ((k:Int)<3)) iiz (fun e=>?_) (fun e=>?_)
    .have hk:k<3:=by have:=xW e;omega
     have hn:(cor (at3 ts i) k)∈(pps A):=zWr hk hq
     have hg:=hd _ hn
     refine pV<|lQ<|tQ<|rgQ ((8,.u (uB (anK (pps A) (cor (at3 ts i) k) 0)))::[]) s
      (oc (zE (fun v W _ h=>by rw[zYa];exact h))<|zB) fun a w14 s=>lQ<|rgQ ((9,.u (uI 0))::[]) s
      (oc zE<|zB) fun a w15 s=>tQ<|zAg (fun j=>j<=(pps A).length) (fun j=> [(0,.u (UF.eq l)),(5,.u (UF.eq v24)),(6,.u (uI (i:Int))),(7,.u (uI (k:Int))),(8,.u (uB (anK (pps A) (cor (at3 ts i) k) j))),(9,.u (uI ((j:Nat):Int)))]) (fun j=>(pps A).length-j) (0:Nat) (vR _) (s.keepK _ (fmz ⟨mz3,fmz ⟨mz4,fmz ⟨mz5,fmz ⟨mz6,fmz ⟨mz1,fmz ⟨.head _,fnz⟩⟩⟩⟩⟩⟩)) fun j a w hx s=>?_
     have hm:(pvs 1 (pps A)).length=(pps A).length:=by simp
     refine lQ<|rgQ ((50,.Z (uI (j:Int)))::(51,.Z (UF.eq l))::(52,.Z (uI ((pvs 1 (pps A)).length:Int)))::(53,.u (uB (ltz j ((pvs 1 (pps A)).length))))::[]) s
      (oc zA<|oc zA<|oc (zY (z:=6) (Cs:=pvs 1 (pps A)) kA (fun v W hb h=>(zU hA h (s.up hb))) (fun _=>rfl))<|oc (zM .i64 (j:Int) ((pvs 1 (pps A)).length:Int) (ltz j ((pvs 1 (pps A)).length)) iiz iiz rfl rfl)<|zB) fun a w16 s=>StS.cond s (ltz j ((pvs 1 (pps A)).length)) iiz (fun e=>?_) (fun e=>?_)
     .have hj:j<(pps A).length:=by have:=xW e;rw[hm]at this;omega
      refine pV<|lQ<|tQ<|zFH (K:=[(53,.u (uB (ltz j ((pvs 1 (pps A)).length)))),(0,.u (UF.eq l)),(5,.u (UF.eq v24)),(6,.u (uI (i:Int))),(7,.u (uI (k:Int))),(9,.u (uI (j:Int)))]) [(8,.u (uB (anK (pps A) (cor (at3 ts i) k) j)))] [0] 14 ((56,.Z (uB (anK (pps A) (cor (at3 ts i) k) j)))::(57,.Z (uB (anK (pps A) (cor (at3 ts i) k) j)))::(58,.s (SF.imp ((anK (pps A) (cor (at3 ts i) k) j)=false) ((UF.eq l).tS)))::(59,.s (SF.imp ((anK (pps A) (cor (at3 ts i) k) j)=false) ((uI (j:Int)).tS)))::(60,.s (SF.imp ((anK (pps A) (cor (at3 ts i) k) j)=false) (wD (cg (fPV 1 (at_ (pps A) j))))))::(61,.s (SF.imp ((anK (pps A) (cor (at3 ts i) k) j)=false) ((fPV 1 (at_ (pps A) j)).tS)))::(62,.s (SF.imp ((anK (pps A) (cor (at3 ts i) k) j)=false) ((UF.eq v24).tS)))::(63,.s (SF.imp ((anK (pps A) (cor (at3 ts i) k) j)=false) ((uI (i:Int)).tS)))::(64,.s (SF.imp ((anK (pps A) (cor (at3 ts i) k) j)=false) ((uI (k:Int)).tS)))::(65,.s (SF.imp ((anK (pps A) (cor (at3 ts i) k) j)=false) (wD (cg (fTN (at3 ts i))))))::(66,.s (SF.imp ((anK (pps A) (cor (at3 ts i) k) j)=false) (wD ((CU.agg (fTN (at3 ts i))).cf.at (6*k)))))::(67,.s (SF.imp ((anK (pps A) (cor (at3 ts i) k) j)=false) ((fPN (cor (at3 ts i) k)).tS)))::(68,.s (SF.imp ((anK (pps A) (cor (at3 ts i) k) j)=false) ((uB (jZ (at_ (pps A) j) (cor (at3 ts i) k)==0)).tS)))::(69,.u (uB ((anK (pps A) (cor (at3 ts i) k) j)||(jZ (at_ (pps A) j) (cor (at3 ts i) k)==0))))::[]) hmix (s.keepK _ (fmz ⟨mz5,fmz ⟨.head _,fmz ⟨mz1,fmz ⟨mz2,fmz ⟨mz3,fmz ⟨mz4,fmz ⟨mz6,fnz⟩⟩⟩⟩⟩⟩⟩)) kA
       (oc zA<|oc zA<|oc (zF 57 (anK (pps A) (cor (at3 ts i) k) j) kA iiz (fun e=>yU [] ((UF.eq l).tS) fnz fO kA zA) fN)<|oc (zF 57 (anK (pps A) (cor (at3 ts i) k) j) kA iiz (fun e=>yU [] ((uI (j:Int)).tS) fnz fO kA zA) fN)<|oc (zF 57 (anK (pps A) (cor (at3 ts i) k) j) kA iiz (fun e=>yU [(58,(UF.eq l).tS),(59,(uI (j:Int)).tS)] (wD (cg (fPV 1 (at_ (pps A) j)))) (fmz ⟨fun v W h=>yE (c:=(anK (pps A) (cor (at3 ts i) k) j)=false) (f:=(UF.eq l).tS) e h,fmz ⟨fun v W h=>yE (c:=(anK (pps A) (cor (at3 ts i) k) j)=false) (f:=(uI (j:Int)).tS) e h,fnz⟩⟩) fO kA (zQ (z:=6) (Cs:=pvs 1 (pps A)) (i:=j) (C:=CU.agg (fPV 1 (at_ (pps A) j))) kA (qI hj) (fun v W hb h=>(zU hA h (s.up hb))) iiz)) fN)<|oc (zF 57 (anK (pps A) (cor (at3 ts i) k) j) kA iiz (fun e=>yU [(60,wD (cg (fPV 1 (at_ (pps A) j))))] ((fPV 1 (at_ (pps A) j)).tS) (fmz ⟨fun v W h=>yE (c:=(anK (pps A) (cor (at3 ts i) k) j)=false) (f:=wD (cg (fPV 1 (at_ (pps A) j)))) e h,fnz⟩) fO kA (zH (f:=fPV 1 (at_ (pps A) j)) 6 kA (hz:=zL _ _))) fN)<|oc (zF 57 (anK (pps A) (cor (at3 ts i) k) j) kA iiz (fun e=>yU [] ((UF.eq v24).tS) fnz fO kA zA) fN)<|oc (zF 57 (anK (pps A) (cor (at3 ts i) k) j) kA iiz (fun e=>yU [] ((uI (i:Int)).tS) fnz fO kA zA) fN)<|oc (zF 57 (anK (pps A) (cor (at3 ts i) k) j) kA iiz (fun e=>yU [] ((uI (k:Int)).tS) fnz fO kA zA) fN)<|oc (zF 57 (anK (pps A) (cor (at3 ts i) k) j) kA iiz (fun e=>yU [(62,(UF.eq v24).tS),(63,(uI (i:Int)).tS)] (wD (cg (fTN (at3 ts i)))) (fmz ⟨fun v W h=>yE (c:=(anK (pps A) (cor (at3 ts i) k) j)=false) (f:=(UF.eq v24).tS) e h,fmz ⟨fun v W h=>yE (c:=(anK (pps A) (cor (at3 ts i) k) j)=false) (f:=(uI (i:Int)).tS) e h,fnz⟩⟩) fO kA (zQ (z:=18) (Cs:=tns ts) (i:=i) (C:=CU.agg (fTN (at3 ts i))) kA (zGW hi) (fun v W hb h=>(zU O h (s.up hb))) iiz)) fN)<|oc (zF 57 (anK (pps A) (cor (at3 ts i) k) j) kA iiz (fun e=>yU [(64,(uI (k:Int)).tS),(65,wD (cg (fTN (at3 ts i))))] (wD ((CU.agg (fTN (at3 ts i))).cf.at (6*k))) (fmz ⟨fun v W h=>yE (c:=(anK (pps A) (cor (at3 ts i) k) j)=false) (f:=(uI (k:Int)).tS) e h,fmz ⟨fun v W h=>yE (c:=(anK (pps A) (cor (at3 ts i) k) j)=false) (f:=wD (cg (fTN (at3 ts i)))) e h,fnz⟩⟩) fO kA (zB0 (C:=cg (fTN (at3 ts i))) k (6*k) (zKj hk) iiz iiz)) fN)<|oc (zF 57 (anK (pps A) (cor (at3 ts i) k) j) kA iiz (fun e=>yU [(66,wD ((CU.agg (fTN (at3 ts i))).cf.at (6*k)))] ((fPN (cor (at3 ts i) k)).tS) (fmz ⟨fun v W h=>yE (c:=(anK (pps A) (cor (at3 ts i) k) j)=false) (f:=wD ((CU.agg (fTN (at3 ts i))).cf.at (6*k))) e h,fnz⟩) fO kA (zV (C:=cg (fTN (at3 ts i))) (k:=6*k) 6 kA (h:=zMA hk))) fN)<|oc (zF 57 (anK (pps A) (cor (at3 ts i) k) j) kA iiz (fun e=>yU [(61,(fPV 1 (at_ (pps A) j)).tS),(67,(fPN (cor (at3 ts i) k)).tS)] ((uB (jZ (at_ (pps A) j) (cor (at3 ts i) k)==0)).tS) (fmz ⟨fun v W h=>yE (c:=(anK (pps A) (cor (at3 ts i) k) j)=false) (f:=(fPV 1 (at_ (pps A) j)).tS) e h,fmz ⟨fun v W h=>yE (c:=(anK (pps A) (cor (at3 ts i) k) j)=false) (f:=(fPN (cor (at3 ts i) k)).tS) e h,fnz⟩⟩) fO kA (zI zC zUa (fun J u1 W hb (I:(fPV 1 (at_ (pps A) j)).p J W) (h1:(fPN (cor (at3 ts i) k)).p u1 W)=>zHk (m:=1) (p:=at_ (pps A) j) (q:=(cor (at3 ts i) k)) I (zBz hg.1 hg.2 h1) dA dA))) fN)<|oc (yS (anK (pps A) (cor (at3 ts i) k) j) iiz (fun e v W h=>zHt h e) (fun e v W h=>zE7 (yE e h) e))<|zB) fun Q' hQ a w17 s=>yO (uB (anK (pps A) (cor (at3 ts i) k) (j+1))) rfl s kA (fun v W h=>by rw[zRb];exact h) fun a w s=>zD rfl (hQ _ _ ?_)
      refine zW 2 ((54,.Z (uI (j:Int)))::(55,.u (uI ((j+1:Nat):Int)))::[]) s kA
       (oc zA<|oc (yI .i64 (j:Int) 1 ((j+1:Nat):Int) iiz iiz (wrap64 _ _ oA oA))<|zB) fun a w18 s=>?_
      replace s:=s.drop [9]
      exact yO (uI ((j+1:Nat):Int)) rfl s kA iiz fun a w s=>zD rfl<|⟨j+1,hj,(by show(pps A).length-(j+1)<(pps A).length-j;omega),s.keepK _ (fmz ⟨mz5,fmz ⟨mz6,fmz ⟨mz7,fmz ⟨mz8,fmz ⟨mz2,fmz ⟨.head _,fnz⟩⟩⟩⟩⟩⟩)⟩
     .have hj:j=(pps A).length:=by have h7:=nH e;rw[hm]at h7;omega
      have he:anK (pps A) (cor (at3 ts i) k) j=true:=by rw[hj];exact zUr hn
      rw[he]at s
      refine tR<|rgQ ((70,.Z (uB true))::(71,.u (uB false))::[]) s
       (oc zA<|oc (zDB true iiz (fun _=>rfl))<|zB) fun a w19 s=>StS.cond s false iiz (fun e=>by cases e) (fun e=>?_)
      refine pV<|zW 2 ((48,.Z (uI (k:Int)))::(49,.u (uI ((k+1:Nat):Int)))::[]) s kA
       (oc zA<|oc (yI .i64 (k:Int) 1 ((k+1:Nat):Int) iiz iiz (wrap64 _ _ oA oA))<|zB) fun a w20 s=>?_
      replace s:=s.drop [7]
      exact yO (uI ((k+1:Nat):Int)) rfl s kA iiz fun a w s=>zD rfl<|⟨k+1,hk,(by show 3-(k+1)<3-k;omega),s.keepK _ (fmz ⟨mz4,fmz ⟨mz5,fmz ⟨mz6,fmz ⟨.head _,fnz⟩⟩⟩⟩)⟩
    .refine tR ?_
     refine zW 2 ((44,.Z (uI (i:Int)))::(45,.u (uI ((i+1:Nat):Int)))::[]) s kA
      (oc zA<|oc (yI .i64 (i:Int) 1 ((i+1:Nat):Int) iiz iiz (wrap64 _ _ oA oA))<|zB) fun a w21 s=>?_
     replace s:=s.drop [6]
     exact yO (uI ((i+1:Nat):Int)) rfl s kA iiz fun a w s=>zD rfl<|⟨i+1,hi,(by show ts.length-(i+1)<ts.length-i;omega),s.keepK _ (fmz ⟨mz3,fmz ⟨mz4,fmz ⟨.head _,fnz⟩⟩⟩)⟩
   .refine tR ?_
    exact rgQ ((72,.Z (UF.eq v24))::(73,.Z (uI ((tns ts).length:Int)))::(74,.Z (UF.eq l))::(75,.Z (uI ((pvs 1 (pps A)).length:Int)))::(76,.Z (uI (((pvs 1 (pps A)).length:Int)-2)))::(77,.Z (UF.eq l))::(78,.s (SF.row 1 (zK3 (flK (pps A) (yT (pps A)).length))))::(79,.Z (uI (((zK3 (flK (pps A) (yT (pps A)).length)).length:Nat):Int)))::(80,.Z (uI ((((pvs 1 (pps A)).length:Int)-2)-(((zK3 (flK (pps A) (yT (pps A)).length)).length:Nat):Int))))::(81,.Z (uB true))::(82,.Z (uB true))::(83,.Z (UF.eq v24))::(84,.Z (uI ((tns ts).length:Int)))::(85,.Z (uB true))::(86,.Z (uB true))::(87,.Z (uB true))::(88,.Z (uB true))::(89,.Z (uB true))::(4,.u (uB true))::[]) s
     (oc zA<|oc (zY (z:=18) (Cs:=tns ts) kA (fun v W hb h=>(zU O h (s.up hb))) (fun _=>rfl))<|oc zA<|oc (zY (z:=6) (Cs:=pvs 1 (pps A)) kA (fun v W hb h=>(zU hA h (s.up hb))) (fun _=>rfl))<|oc (zCF .i64 ((pvs 1 (pps A)).length:Int) 2 (((pvs 1 (pps A)).length:Int)-2) iiz iiz (by have:=hv;simp only[bC];rw[sS];omega))<|oc zA<|oc (zG zC zX0 (fun J W hb (I:J=l)=>(zNj (m:=1) (ps:=(pps A)) (zU hA I (s.up hb)) dA dA oA).mono (wH qY)))<|oc (zEC (z:=1) (Cs:=zK3 (flK (pps A) (yT (pps A)).length)) kA iiz (fun _=>rfl))<|oc (zCF .i64 (((pvs 1 (pps A)).length:Int)-2) (((zK3 (flK (pps A) (yT (pps A)).length)).length:Nat):Int) ((((pvs 1 (pps A)).length:Int)-2)-(((zK3 (flK (pps A) (yT (pps A)).length)).length:Nat):Int)) iiz iiz (by have h1:=zOr h3;have h2:=h9.1;simp only[bC]at h1 h2 ⊢;rw[sS];omega))<|oc (zM .i64 ((tns ts).length:Int) ((((pvs 1 (pps A)).length:Int)-2)-(((zK3 (flK (pps A) (yT (pps A)).length)).length:Nat):Int)) true iiz iiz (lI (by have h1:=zOr h3;have h2:=h9.1;simp only[bC]at h1 h2 ⊢;omega)) rfl)<|oc zA<|oc (zF 82 true kA iiz (fun _=>zA) arf)<|oc (zF 82 true kA iiz (fun _=>zY (z:=18) (Cs:=tns ts) kA (fun v W hb h=>(zU O h (s.up hb))) (fun _=>rfl)) arf)<|oc (zF 82 true kA iiz (fun _=>zM .i64 ((tns ts).length:Int) 0 true iiz iiz (lI (by have h2:=h9.2;simp only[bC];omega)) rfl) arf)<|oc (yS true iiz fD (fun e=>by cases e))<|oc zA<|oc (zF 87 true kA iiz (fun _=>zFc zC zWO (fun W hb=>zGS (hT.below (s.up hb)))) arf)<|oc (yS true iiz fD (fun e=>by cases e))<|oc zE<|zB) fun a w22 s=>pU<|vJ s hc (t:=4) rfl iiz
end Go.Proofs.Wd
