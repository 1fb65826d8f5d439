/- Walks of package apart: Free, Which; Walks of package apart: Which; Wa and what it needs. -/
import Derived.Test.YthjkmdblifmkoaaGreatDoorMCQ20
import Derived.Test.YthjkmdblifmkoaaGreatDoorMCQ19
import Derived.Test.YthjkmdblifmkoaaGreatDoorMCQ13
theorem kI {P:Prop} (h:P:=by kernel_rfl):P:=h
theorem oP {P:Prop} (h:P:=by omega):P:=h
theorem dB {P:Prop} (h:P:=by decide):P:=h
theorem fN {c:Prop} {α:Sort _} {R:α->Prop} (e:¬c) (w:α) (h:c):R w:=absurd h e
theorem fO {β γ:Sort _} {p q:β->γ->Prop} (b:β) (c:γ) (h:p b c) (_:q b c):p b c:=h
theorem fP {P:Prop} (h:P:=by simp):P:=h
abbrev zVR:=@Go.wpIn_seq
abbrev zVS:=@Go.wpIn_ret
abbrev zVT:=@Go.wpIn_skip
abbrev zVU:=@List.mem_cons
abbrev zVV:=@Go.wpIn_block
abbrev zVW:=@of_decide_eq_true
abbrev zVX:=@List.getElem?_eq_some_iff
abbrev zVY:=@of_decide_eq_false
abbrev zVZ:=@Nat.le_trans
abbrev zV0:=@List.getElem?_eq_getElem
abbrev zV1:=@List.mem_singleton
abbrev zV2:=@Go.wpIn_exit
abbrev zV3:=@List.getElem?_map
abbrev zV4:=@List.getD_eq_getElem?_getD
abbrev zV5:=@Nat.zero_le
abbrev zV6:=@List.mem_map
abbrev zV7:=@Nat.lt_or_eq_of_le
abbrev zV8:=@Go.RowKit.Below.refl
abbrev zV9:=@List.mem_range
abbrev zWa:=@List.mem_append
abbrev zWb:=@Nat.le_of_lt_succ
abbrev zWc:=@List.any_eq_false
abbrev zWd:=@Nat.le_refl
abbrev zWe:=@Nat.not_lt_zero
abbrev zWf:=@List.take_of_length_le
abbrev zWg:=@List.length_map
abbrev zWh:=@List.all_eq_true
abbrev zWi:=@congrArg
abbrev zWj:=@List.any_eq_true
abbrev zWk:=@Bool.and_eq_true
abbrev zWl:=@Array.getElem?_eq_some_iff
abbrev zWm:=@List.append_assoc
abbrev zWn:=@Nat.add_assoc
abbrev zWo:=@Go.run_underlying
abbrev zWp:=@Go.Addr.add_lit
abbrev zWq:=@List.getElem_mem
abbrev zWr:=@Bool.or_eq_false_iff
abbrev zWs:=@Go.Sem.run_bind
abbrev zWt:=@Go.Sem.run_pure
abbrev zWu:=@List.getElem?_take
abbrev zWv:=@decide_eq_decide
abbrev zWw:=@Rat.not_lt
abbrev zWx:=@Rat.le_refl
abbrev zWy:=@Nat.mod_lt
abbrev zWz:=@Classical.byContradiction
abbrev zWA:=@decide_eq_true
abbrev zWB:=@List.not_mem_nil
abbrev zWC:=@List.getElem?_append_left
abbrev zWD:=@List.getElem?_append_right
abbrev zWE:=@List.range_succ
abbrev zWF:=@List.filter_append
abbrev zWG:=@Go.Result.andThen_ok
abbrev zWH:=@List.mem_of_getElem?
abbrev zWI:=@Int.lt_trichotomy
abbrev zWJ:=@Nat.lt_of_lt_of_le
abbrev zWK:=@beq_eq_false_iff_ne
abbrev zWL:=@Option.some.inj
abbrev zWM:=@Option.isSome_iff_exists
abbrev zWN:=@List.take_append_of_le_length
abbrev zWO:=@List.drop_append_of_le_length
abbrev zWP:=@Int.sign_eq_neg_one_of_neg
abbrev zWQ:=@Array.getD_eq_getD_getElem?
abbrev Wm:=Go.World
abbrev Wn:=Go.Value
abbrev Wp:=Go.TypeId
abbrev Wq:=Option
abbrev Wr:=Go.Operand
abbrev Ws:=Go.Program
namespace Go.Proofs.Wd
open Tryz
set_option maxRecDepth 100000
set_option maxHeartbeats 1000000
open Go.RowKit Lb
abbrev V6:=V2×V2×V2
abbrev tl (t:V6):List V2:= [t.1,t.2.1,t.2.2]
def at3 (l:List V6) (i:Nat):V6:=l.getD i ((0,0),(0,0),(0,0))
def TRp (m:Nat) (t:V6) (v:Wn) (w:Wm):Prop:= ∃a b c:List Wn,v= .agg (a++b++c).toArray/\(CU.agg (fPV m t.1)).p a w/\(CU.agg (fPV m t.2.1)).p b w/\(CU.agg (fPV m t.2.2)).p c w
def fTR (m:Nat) (t:V6):UF:= .mk' (TRp m t) fun _ _ _ ⟨a,b,c,e,h1,h2,h3⟩ k=>⟨a,b,c,e,(CU.agg _).us _ _ _ h1 k,(CU.agg _).us _ _ _ h2 k,(CU.agg _).us _ _ _ h3 k⟩
theorem zFI {m:Nat} {t:V6} {cs:List Wn} {W:Wm} (h:TRp m t (.agg cs.toArray) W): ∃a b c:List Wn,cs=a++b++c/\a.length=6/\b.length=6/\c.length=6/\(CU.agg (fPV m t.1)).p a W/\(CU.agg (fPV m t.2.1)).p b W/\(CU.agg (fPV m t.2.2)).p c W:=by
 obtain ⟨a,b,c,e,h1,h2,h3⟩:=h
 have:=zWi Array.toList (jJ e)
 simp only at this
 exact ⟨a,b,c,this,(zCM _ _ a W h1).1,(zCM _ _ b W h2).1,(zCM _ _ c W h3).1,h1,h2,h3⟩
theorem zM8 (m:Nat) (t:V6):CU.ok 18 (CU.agg (fTR m t)):=fun cs W h=>by
 obtain ⟨a,b,c,rfl,l1,l2,l3,h1,h2,h3⟩:=zFI h
 have o1:=zCM _ _ a W h1;have o2:=zCM _ _ b W h2;have o3:=zCM _ _ c W h3
 refine ⟨by simp [l1,l2,l3],zGu o1.2.1 o2.2.1 o3.2.1,fun u hu=> ?_⟩
 rcases zWa.1 hu with hu|hu
 ·rcases zWa.1 hu with hu|hu
  ·exact o1.2.2 u hu
  ·exact o2.2.2 u hu
 ·exact o3.2.2 u hu
theorem zC7 (m:Nat) (t:V6): ∀cs:List Wn, ∀W,(fTR m t).p (.agg cs.toArray) W->cs.length=18:=fun cs W h=>(zM8 m t cs W h).1
theorem zOU {m:Nat} {t:V6} {v:Wn} {W:Wm} (h:(fTR m t).p v W):(CU.agg (fTR m t)).p v.cells.toList W/\v.cells.toList.all zY=true:=by
 obtain ⟨a,b,c,rfl,h1⟩:=id h
 exact ⟨h,(zM8 m t _ W h).2.1⟩
theorem zIA {m:Nat} {t:V6} (v:Wn) (W:Wm) (h:(fTR m t).p v W): ∃vs:List Wn,v= .agg vs.toArray/\vs.length=18/\(∀u,u∈vs->u.oneCell'=true)/\vs.all zY=true/\(CU.agg (fTR m t)).p vs W:=by
 obtain ⟨a,b,c,rfl,h1⟩:=id h
 have:=zM8 m t _ W h
 exact ⟨_,rfl,this.1,this.2.2,this.2.1,h⟩
theorem zKu {m m':Nat} {t:V6} (hm:m<=m') {v:Wn} {W:Wm} (h:(fTR m t).p v W):(fTR m' t).p v W:=by
 obtain ⟨a,b,c,e,h1,h2,h3⟩:=h
 exact ⟨a,b,c,e,jB hm h1,jB hm h2,jB hm h3⟩
abbrev trs (m:Nat) (ts:List V6):List CU:=ts.map fun t=>CU.agg (fTR m t)
theorem zCe {m:Nat} {ts:List V6} {i:Nat} (h:i<ts.length):(trs m ts)[i]?=some (CU.agg (fTR m (at3 ts i))):=by
 unfold trs at3;rw [zV3,zV4,zV0 h];rfl
theorem zEc {m m':Nat} (hm:m<=m') {ts:List V6} (v:Wn) (W:Wm) (hv:(SF.row 18 (trs m ts)).p v W):(SF.row 18 (trs m' ts)).p v W:=
 zEM fP (fun i C D hC hD cs W h=>by
  have hi:i<ts.length:=by have:=(zVX.1 hC).1;simpa using this
  rw [zCe hi] at hC
  rw [zCe hi] at hD
  cases hC;cases hD
  exact zKu hm h) v W hv
theorem zBI {m m':Nat} (hm:m<=m') {ps:List V2} (v:Wn) (W:Wm) (hv:(SF.row 6 (pvs m ps)).p v W):(SF.row 6 (pvs m' ps)).p v W:=
 zEM fP (fun i C D hC hD cs W h=>by
  have hi:i<ps.length:=by have:=(zVX.1 hC).1;simpa using this
  rw [jA hi] at hC
  rw [jA hi] at hD
  cases hC;cases hD
  exact jB hm h) v W hv
theorem zOT {m:Nat} {t:V6} {b o:Nat} {cs:List Wn} {W:Wm} (h:(CU.agg (fTR m t)).p cs W) (hm:Mem W b o cs):(SF.row 6 (pvs m (tl t))).p (.slice (some ⟨b,o,none⟩) 3 3) W:=by
 obtain ⟨x,y,z,rfl,l1,l2,l3,h1,h2,h3⟩:=zFI h
 refine ⟨_,3,rfl,zWd _,by decide,fun e=>(by cases e),fun i C hi=> ?_⟩
 have hlt:=(zVX.1 hi).1
 simp at hlt
 rcases (by omega:i=0∨i=1∨i=2) with rfl|rfl|rfl
 ·obtain rfl:CU.agg (fPV m t.1)=C:=by simpa using hi
  exact ⟨b,o,x,rfl,fun j u hj=>by rw [Nat.zero_mul];exact hm j u (by rw [zWm,zWC (zVX.1 hj).1];exact hj),h1⟩
 ·obtain rfl:CU.agg (fPV m t.2.1)=C:=by simpa using hi
  refine ⟨b,o,y,rfl,fun j u hj=> ?_,h2⟩
  have hj':=(zVX.1 hj).1
  have:=hm (6+j) u (by rw [zWm,zWD oP,zWC oP];rw [show 6+j - x.length=j by omega];exact hj)
  rwa [<-zWn] at this
 ·obtain rfl:CU.agg (fPV m t.2.2)=C:=by simpa using hi
  refine ⟨b,o,z,rfl,fun j u hj=> ?_,h3⟩
  have:=hm (12+j) u (by rw [zWD (by simp;omega)];rw [show 12+j - (x++y).length=j by simp;omega];exact hj)
  rwa [<-zWn] at this
section
variable {F:Fence} {m:Nat} {P:Ws} {w0:Wm} {ops:Array Oper} {G:Nat->SF} {d:Tmp} {ty:Wp} {pos:String} {aft:Array Edge}
theorem zLs {x:Wr} {t:Wp} {C:CF} (n:Nat) (el:Wp) (ht:P.underlying t=some (.array n el)) (hi:(P.info? el).isSome=true) (hx: ∀v W,(fct G x).p v W->(wB C).p v W) (hd: ∀b o cs W,C.p cs W->Mem W b o cs->(G d).p (.slice (some ⟨b,o,none⟩) n n) W):qP F m P w0 ops G ⟨some d, .slice t x none none none,ty,pos,aft,none⟩:=
 qU (fun _ e=>by cases e) (fun _ e=>by cases e) fun b W hb hh=>by
  obtain ⟨a,q,cs,e,h2,h3⟩:=hx _ _ (hh x (by simp [Op.operands]))
  obtain ⟨ie,hie⟩:=zWM.1 hi
  refine ⟨.slice (some ⟨a,q,none⟩) n n, ?_,hd a q cs W h2 h3⟩
  simp [execOp,Instr.sliceAt,zWo ht,e,Instr.sureAddr,Instr.sliceBounds,sizeOf,typeInfo,hie,zWp]
end
def TBt (m:Nat) (g:V6->Bool) (xs:Array Wn) (W:Wm) (R:SF):Prop:= ∃u t,xs=#[u]/\(fTR m t).p u W/\Tab W/\R=(fB (g t)).tS
theorem zIa {l:List V6} {p:V6} (h:p∈l): ∃i,i<l.length/\at3 l i=p:=by
 obtain ⟨i,hi,e⟩:=List.getElem_of_mem h
 exact ⟨i,hi,by unfold at3;rw [zV4,zV0 hi];exact e⟩
theorem zME {l:List V6} {i:Nat} (h:i<l.length):at3 l i∈l:=by
 unfold at3;rw [zV4,zV0 h];exact zWq h
theorem zQK {g:V6->Bool} {l:List V6} {k:Nat} (hk:k<l.length) (h0: ∀j,j<k->g (at3 l j)=false) (h1:g (at3 l k)=true):zFd g l=(k:Int):=by
 have ha:l.any g=true:=zWj.2 ⟨_,zME hk,h1⟩
 unfold zFd
 rw [if_pos ha]
 congr 1
 refine (List.findIdx_eq hk).2 ⟨by have:=h1;unfold at3 at this;rwa [zV4,zV0 hk] at this,fun j hj=> ?_⟩
 have:=h0 j hj
 unfold at3 at this
 rwa [zV4,zV0 (Nat.lt_trans hj hk)] at this
theorem zL6 {g:V6->Bool} {l:List V6} (h0: ∀j,j<l.length->g (at3 l j)=false):zFd g l= -1:=by
 unfold zFd
 rw [if_neg]
 intro ha
 obtain ⟨p,hp,e⟩:=zWj.1 ha
 obtain ⟨j,hj,rfl⟩:=zIa hp
 rw [h0 j hj] at e
 cases e
theorem zTw {m:Nat} {g:V6->Bool} {W:Wm} {l f:Wn} {ts:List V6} (hl:(SF.row 18 (trs m ts)).p l W) (hf:(SF.fn prog (TBt m g)).p f W) (hn:ts.length<=1000000) (hT:Tab W):Calls prog 109 #[l,f] W (Ret W (fI (zFd g ts)).tS):=by
 refine z5 [SF.row 18 (trs m ts),SF.fn prog (TBt m g)] func109 rfl kI ⟨hl,hf,trivial⟩ fun a s=> ?_
 refine zVR ?_
 refine zB 1 ((4, .u (uI 0)):: []) hmix s kI
  (oc zG<|zD) fun a w1 s=> ?_
 refine zA rfl ?_
 refine zVR ?_
 refine zVR ?_
 refine zB 3 ((6, .s (SF.row 18 (trs m ts)))::(7, .u (uI ((trs m ts).length:Int)))::(8, .u (uI 0)):: []) hmix s kI
  (oc zC<|oc (zBk (z:=18) (Cs:=trs m ts) kI iiz (fun _=>rfl))<|oc zC<|zD) fun a w2 s=> ?_
 refine zA rfl ?_
 refine zVV ?_
 refine zAV (fun k=>k<=ts.length/\ ∀j,j<k->g (at3 ts j)=false) (fun k=> [(0, .o (SF.row 18 (trs m ts))),(1, .o (SF.fn prog (TBt m g))),(7, .u (uI ((trs m ts).length:Int))),(8, .u (uI ((k:Nat):Int)))]) (fun k=>ts.length - k) (0:Nat) (⟨zV5 _,fun j hj=>absurd hj (zWe _)⟩) (s.keepK _ (fmz ⟨mz3,fmz ⟨mz4,fmz ⟨.head _,fmz ⟨mz1,fnz⟩⟩⟩⟩)) fun k a w hx s=> ?_
 refine zVR ?_
 refine zB 1 ((9, .u (uB (decide ((k:Int)<((trs m ts).length:Int))))):: []) hmix s kI
  (oc (zR .i64 (k:Int) ((trs m ts).length:Int) (decide ((k:Int)<((trs m ts).length:Int))) iiz iiz rfl rfl)<|zD) fun a w3 s=> ?_
 refine zA rfl ?_
 refine zVR ?_
 refine StS.cond s (decide ((k:Int)<((trs m ts).length:Int))) iiz (fun e=> ?_) (fun e=> ?_)
 ·have hk:k<ts.length:=by have:=zVW e;simp at this;omega
  refine zVT ?_
  refine zVR ?_
  refine zVV ?_
  refine zVR ?_
  refine zB 2 ((10, .Z (uI (k:Int)))::(5, .u (uI (k:Int))):: []) hmix s kI
   (oc zC<|oc zG<|zD) fun a w4 s=> ?_
  refine zA rfl ?_
  refine zVR ?_
  refine zB 6 ((11, .s (SF.fn prog (TBt m g)))::(12, .s (SF.row 18 (trs m ts)))::(13, .Z (uI (k:Int)))::(14, .Y (fTR m (at3 ts k)))::(15, .Z (fTR m (at3 ts k)))::(16, .u (uB (g (at3 ts k)))):: []) hmix s kI
   (oc zC<|oc zC<|oc zC<|oc (zAZ (z:=18) (Cs:=trs m ts) (i:=k) (C:=CU.agg (fTR m (at3 ts k))) kI (zCe hk) iiz iiz)<|oc (zI (f:=fTR m (at3 ts k)) 18 kI (hz:=zC7 _ _))<|oc (zPc (TBt m g) zE iiz (fun u W hb (h:(fTR m (at3 ts k)).p u W)=>⟨u,_,rfl,h,(hT.below (s.up hb)),rfl⟩))<|zD) fun a w5 s=> ?_
  refine zA rfl ?_
  refine StS.cond s (g (at3 ts k)) iiz (fun e=> ?_) (fun e=> ?_)
  ·refine zVR ?_
   refine zB 2 ((17, .Z (uI (k:Int)))::(4, .u (uI (k:Int))):: []) hmix s kI
    (oc zC<|oc zG<|zD) fun a w6 s=> ?_
   refine zA rfl ?_
   refine zVS ?_
   exact wH s (t:=4) rfl (fun v W h=>by rw [zQK hk hx.2 e];exact h)
  ·refine zVT ?_
   refine zZ 1 ((18, .u (uI ((k+1:Nat):Int))):: []) s kI
    (oc (yR .i64 (k:Int) 1 ((k+1:Nat):Int) iiz iiz (wrap64 _ _ oP oP))<|zD) fun a w7 s=> ?_
   replace s:=s.drop [8]
   refine zCD (uI ((k+1:Nat):Int)) rfl s kI zC kI fun a w s=> ?_
   refine zA rfl ?_
   exact ⟨k+1,⟨hk,fun j hj=>by rcases zV7 (zWb hj) with h|h;exact hx.2 j h;rw [h];exact e⟩,(by show ts.length - (k+1)<ts.length - k;omega),s.keepK _ (fmz ⟨mz5,fmz ⟨mz6,fmz ⟨mz7,fmz ⟨.head _,fnz⟩⟩⟩⟩)⟩
 ·have hk:k=ts.length:=by have h7:=zVY e;have h8:=hx.1;simp at h7;omega
  refine zV2 ?_
  refine zVR ?_
  refine zB 1 ((4, .u (uI (-1))):: []) hmix s kI
   (oc zG<|zD) fun a w8 s=> ?_
  refine zA rfl ?_
  refine zVS ?_
  exact wH s (t:=4) rfl (fun v W h=>by rw [zL6 (fun j hj=>hx.2 j oP)];exact h)
theorem zUn {m:Nat} {g:V6->Bool} {W:Wm} {l f:Wn} {ts:List V6} (hl:(SF.row 18 (trs m ts)).p l W) (hf:(SF.fn prog (TBt m g)).p f W) (hn:ts.length<=1000000) (hT:Tab W):Calls prog 82 #[l,f] W (Ret W (fB (ts.any g)).tS):=by
 refine z5 [SF.row 18 (trs m ts),SF.fn prog (TBt m g)] func82 rfl kI ⟨hl,hf,trivial⟩ fun a s=> ?_
 refine zVR ?_
 refine zB 1 ((4, .u (uB false)):: []) hmix s kI
  (oc zG<|zD) fun a w1 s=> ?_
 refine zA rfl ?_
 refine zVR ?_
 replace s:=s.drop [4]
 refine zB 5 ((5, .s (SF.row 18 (trs m ts)))::(6, .s (SF.fn prog (TBt m g)))::(7, .Z (uI (zFd g ts)))::(8, .Z (uB (decide (zFd g ts≥0))))::(4, .u (uB (decide (zFd g ts≥0)))):: []) hmix s kI
  (oc zC<|oc zC<|oc (zJ zE zSO (fun u0 u1 W hb (h0:(SF.row 18 (trs m ts)).p u0 W) (h1:(SF.fn prog (TBt m g)).p u1 W)=>zTw h0 h1 hn (hT.below (s.up hb))))<|oc (zR .i64 (zFd g ts) 0 (decide (zFd g ts≥0)) iiz iiz rfl rfl)<|oc zG<|zD) fun a w2 s=> ?_
 refine zA rfl ?_
 refine zVS ?_
 exact wH s (t:=4) rfl (fun v W h=>by rw [<-zJd];exact h)
theorem zOJ {m:Nat} {W:Wm} {u v r:Wn} {t:V6} {rs:List V2} (h1:(fTR m t).p u W) (h2:(wB (wC [r]).cf).p v W) (hr_:(SF.row 6 (pvs m rs)).p r W) (hm:m<=60) (hm0:0<m) (hn:rs.length<=1000000) (hT:Tab W):Calls prog 83 #[u,v] W (Ret W (fB (!(yX rs (tl t)))).tS):=by
 refine z5 [(fTR m t).tS,wB (wC [r]).cf] func83 rfl kI ⟨h1,h2,trivial⟩ fun a s=> ?_
 refine zVR ?_
 refine zB 0 [] hmix s kI
  zD fun a w1 s=> ?_
 refine yN (CU.agg (fTR m t)) rfl s kI (fun v W h=>zOU h) fun b2 a w s=> ?_
 refine yV (uB false) rfl s kI iiz fun a w s=> ?_
 refine zA rfl ?_
 refine zVR ?_
 replace s:=s.drop [3]
 refine zB 5 ((4, .Z (UF.eq r))::(5, .s (SF.row 6 (pvs m (tl t))))::(6, .Z (uB (yX rs (tl t))))::(7, .Z (uB (!(yX rs (tl t)))))::(3, .u (uB (!(yX rs (tl t))))):: []) hmix s kI
  (oc (qY (C:=(wC [r]).cf) kI iiz zCR)<|oc (zLs (C:=cg (fTR m t)) 3 31 kI kI (fun _ _ h=>h.2) (fun b o cs W h hm=>zOT h hm))<|oc (zJ zE zTN (fun u0 u1 W hb (h0:u0=r) (h1:(SF.row 6 (pvs m (tl t))).p u1 W)=>zOG (yK hr_ h0 (s.up hb)) h1 hm hm0 hn fP (hT.below (s.up hb))))<|oc (zAy (yX rs (tl t)) iiz (fun _=>rfl))<|oc zG<|zD) fun a w2 s=> ?_
 refine zA rfl ?_
 refine zVS ?_
 exact wH s (t:=3) rfl iiz
theorem zBV {W W':Wm} {e:Wp} {z:Nat} {Cs:List CU} (h:W.heap.size<=W'.heap.size) (v:Wn) (w:Wm) (hv:(wL W' e z Cs).p v w):(wL W e z Cs).p v w:=zBS.mono hv h
theorem zNh {u:Wn} (h1:u.cells=#[u]) (h2:zY u=true) (h3:u.oneCell'=true) (v:Wn) (W:Wm) (h:(UF.eq u).p v W):v.cells.size=1/\(∀u,u∈v.cells.toList->u.oneCell'=true)/\v.cells.toList.all zY=true/\ ∀cs,(CU.len 1).p cs W->0+1<=cs.length/\(wC [u]).p (jW cs 0 v.cells.toList) W:=by
 obtain rfl:v=u:=h
 rw [h1]
 refine ⟨rfl,fun u hu=>by simp at hu;rw [hu];exact h3,by simp [h2],fun cs hc=> ?_⟩
 have hc':cs.length=1:=hc
 obtain ⟨c,rfl⟩:=List.length_eq_one_iff.1 hc'
 exact ⟨by simp,rfl⟩
theorem zCP {m:Nat} (hm0:0<m) {ps:List V2} {v:Wn} {W:Wm} (h:(SF.row 6 (pvs m ps)).p v W): ∀x,x∈ps->QB x.1 m/\QB x.2 m:=fun x hx=>by
 obtain ⟨i,hi,rfl⟩:=zFx hx
 obtain ⟨_,_,_,_,_,_,h5⟩:=h
 obtain ⟨b,o,cs,_,_,h6⟩:=h5 i _ (jA hi)
 exact zA7 hm0 (v:= .agg cs.toArray) h6
abbrev zKc (L:List Nat):List CU:=L.map fun z=>wC [.int .i64 ((z:Nat):Int)]
theorem zLG (L:List Nat) (k:Nat):zKc (L++ [k])=zKc L++ [wC [.int .i64 (k:Int)]]:=by simp [zKc]
def zA8 (at_:List V2) (ts:List V6) (k:Nat):List Nat:=(List.range k).filter fun i=> !(yX at_ (tl (at3 ts i)))
theorem zMZ {a:List V2} {ts:List V6} {k:Nat} (h:(!(yX a (tl (at3 ts k))))=true):zA8 a ts (k+1)=zA8 a ts k++ [k]:=by
 unfold zA8
 rw [zWE,zWF]
 simp [h]
theorem zM0 {a:List V2} {ts:List V6} {k:Nat} (h:(!(yX a (tl (at3 ts k))))=false):zA8 a ts (k+1)=zA8 a ts k:=by
 unfold zA8
 rw [zWE,zWF]
 simp [h]
theorem zJx (a:List V2) (ts:List V6) (k:Nat):(zA8 a ts k).length<=k:=by
 have:=List.length_filter_le (fun i=> !(yX a (tl (at3 ts i)))) (List.range k)
 rwa [List.length_range] at this
theorem zSa (z:Int): ∀C,C∈ [wC [.int .i64 z]]->CU.ok 1 C:=fun C hC cs W h=>by
 obtain rfl:C=_:=by simpa using hC
 obtain rfl:cs=_:=h
 exact ⟨rfl,rfl,fun u hu=>by obtain rfl:=zV1.1 hu;rfl⟩
theorem zTn (z:Int):yD prog 67 1 [(0, .int .i64 z)]=some (3,#[.int .i64 z]):=by kernel_rfl
theorem zPR {z:Int} {u:Wn} {W:Wm} (h:u= .int .i64 z): ∃e cs,yD prog 67 1 [(0,u)]=some (e,cs)/\(SF.row 1 [wC [.int .i64 z]]).p (.slice (some ⟨W.heap.size,0,none⟩) 1 1) (W.alloc (.cells cs e)):=by
 subst h
 refine ⟨_,_,zTn z,some ⟨W.heap.size,0,none⟩,1,rfl,zWd _,by decide,fun e=>(by cases e),fun i C hi=> ?_⟩
 have hm:=zBf W #[.int .i64 z] 3
 obtain rfl:i=0:=by have:=(zVX.1 hi).1;simp at this;omega
 obtain rfl:wC [.int .i64 z]=C:=by simpa using hi
 exact ⟨W.heap.size,0, [.int .i64 z],rfl,hm,rfl⟩
end Go.Proofs.Wd

namespace Go.Proofs.Wd
open Tryz
set_option maxRecDepth 100000
set_option maxHeartbeats 1000000
open Go.RowKit Lb
abbrev PX:=QX×QX
abbrev PX.p (x:PX):V2:=(x.1.q,x.2.q)
abbrev PX.u (x:PX):UF:=fPT (fQX x.1.n x.1.n' x.1.k x.1.d) (fQX x.2.n x.2.n' x.2.k x.2.d)
abbrev PX.cu (x:PX):CU:=CU.agg x.u
abbrev pxs (L:List PX):List CU:=L.map PX.cu
abbrev pps (L:List PX):List V2:=L.map PX.p
def PX.big (x:PX):Bool:=decide (2<max (max (max x.1.n x.1.n') x.2.n) x.2.n')
def gPt (L:List PX):Bool:=(L.take 9).any PX.big||decide (8<L.length)
theorem zHZ {x:PX} (h:x.big=false) {v:Wn} {W:Wm} (hv:x.u.p v W):(fPV 2 x.p).p v W:=by
 have h:=zVY h
 exact zH0 (fun v W h'=>zRg h' oP oP) (fun v W h'=>zRg h' oP oP) hv
theorem zMb {L:List PX} (h:gPt L=false):L.length<=8/\ ∀x,x∈L->x.big=false:=by
 unfold gPt at h
 rw [zWr] at h
 have h2:=zVY h.2
 refine ⟨by omega,fun x hx=> ?_⟩
 have h1:=zWc.1 h.1 x (by rw [zWf oP];exact hx)
 simpa using h1
theorem zQr {L:List PX} (h:gPt L=false) (v:Wn) (W:Wm) (hv:(SF.row 6 (pxs L)).p v W):(SF.row 6 (pvs 2 (pps L))).p v W:=
 zEM fP (fun i C D hC hD cs W hh=>by
  have hi:i<L.length:=by have:=(zVX.1 hC).1;simpa using this
  rw [zV3,zV0 hi] at hC
  rw [zV3,zV3,zV0 hi] at hD
  cases hC;cases hD
  exact zHZ ((zMb h).2 _ (zWq hi)) hh) v W hv
theorem zVb {x:PX} (cs:List Wn) (W:Wm) (h:(PX.cu x).p cs W): ∃u,cs[1]?=some u/\(fSl x.1.n).p u W:=by
 obtain ⟨s,A,n,c,A',n',c',s2,B,k,d,B',k',d',e,h1,h2⟩:=h
 rw [zDB e]
 have:=zLa _ W (show (QX.cu x.1).p [Value.bool s, .slice A n c, .slice A' n' c'] W from h1)
 exact this
theorem zVa {x:PX} (cs:List Wn) (W:Wm) (h:(PX.cu x).p cs W): ∃u,cs[2]?=some u/\(fSl x.1.n').p u W:=by
 obtain ⟨s,A,n,c,A',n',c',s2,B,k,d,B',k',d',e,h1,h2⟩:=h
 rw [zDB e]
 have:=zK9 _ W (show (QX.cu x.1).p [Value.bool s, .slice A n c, .slice A' n' c'] W from h1)
 exact this
theorem zU9 {x:PX} (cs:List Wn) (W:Wm) (h:(PX.cu x).p cs W): ∃u,cs[4]?=some u/\(fSl x.2.n).p u W:=by
 obtain ⟨s,A,n,c,A',n',c',s2,B,k,d,B',k',d',e,h1,h2⟩:=h
 rw [zDB e]
 have:=zLa _ W (show (QX.cu x.2).p [Value.bool s2, .slice B k d, .slice B' k' d'] W from h2)
 exact this
theorem zU8 {x:PX} (cs:List Wn) (W:Wm) (h:(PX.cu x).p cs W): ∃u,cs[5]?=some u/\(fSl x.2.n').p u W:=by
 obtain ⟨s,A,n,c,A',n',c',s2,B,k,d,B',k',d',e,h1,h2⟩:=h
 rw [zDB e]
 have:=zK9 _ W (show (QX.cu x.2).p [Value.bool s2, .slice B k d, .slice B' k' d'] W from h2)
 exact this
section
variable {F:Fence} {m:Nat} {P:Ws} {w0:Wm} {ops:Array Oper} {G:Nat->SF} {d:Tmp} {ty:Wp} {pos:String} {aft:Array Edge}
theorem zQw {x y z u:Wr} {ats:Array Wp} (a b c e:Nat) (hx: ∀q W,(fct G x).p q W->q= .int .i64 (a:Nat)) (hy: ∀q W,(fct G y).p q W->q= .int .i64 (b:Nat)) (hz: ∀q W,(fct G z).p q W->q= .int .i64 (c:Nat)) (hu: ∀q W,(fct G u).p q W->q= .int .i64 (e:Nat)) (hd: ∀W,(G d).p (.int .i64 ((max (max (max a b) c) e:Nat):Int)) W:=by exact fun _=>rfl):qP F m P w0 ops G ⟨some d, .call ⟨.builtin .max,#[x,y,z,u],ats⟩,ty,pos,aft,none⟩:=by
 intro bb W K Q hb hr hK
 have e1:=hx _ _ (qA hr (x:=x) (by simp [Op.operands,Call.operands]))
 have e2:=hy _ _ (qA hr (x:=y) (by simp [Op.operands,Call.operands]))
 have e3:=hz _ _ (qA hr (x:=z) (by simp [Op.operands,Call.operands]))
 have e4:=hu _ _ (qA hr (x:=u) (by simp [Op.operands,Call.operands]))
 refine ⟨fun f hf=>(by
  unfold Oper.about at hf
  simp [resolve,go_sem] at hf), ?_⟩
 rw [Oper.semAt_eq _ _ _ (fun _ e=>by cases e)]
 have:(execOp bb.eval ⟨some d, .call ⟨.builtin .max,#[x,y,z,u],ats⟩,ty,pos,aft,none⟩).run P W= .ok (.value (.int .i64 ((max (max (max a b) c) e:Nat):Int))) W:=by
  have m2: ∀p q:Nat,(if (p:Int)<(q:Int) then Value.int .i64 (q:Nat) else .int .i64 (p:Nat))= .int .i64 ((max p q:Nat):Int):=fun p q=>by
   split<;>(congr 1;omega)
  simp only [execOp,resolve,invoke,builtin,e1,e2,e3,e4,zWs,zWt,zWG,List.map_toArray,List.map_cons,List.map_nil]
  simp [Builtin.max_,Builtin.max2]
  have m3: ∀p q:Nat,(if (p:Int)<(q:Int) then (q:Int) else (p:Int))=((max p q:Nat):Int):=fun p q=>by split<;>omega
  try simp only [m3]
  try (congr 1;omega)
 rw [this]
 exact hK _ _ (fun d' e'=>by cases e';exact hd _) (zV8 _ _)
end
theorem zQP {L:List PX} {k:Nat} {x:PX} (hk:k<=8) (hx:L[k]?=some x) (h:x.big=true):gPt L=true:=by
 unfold gPt
 rw [Bool.or_eq_true]
 left
 refine zWj.2 ⟨x, ?_,h⟩
 have hlt:=(zVX.1 hx).1
 exact zWH (i:=k) (by rw [zWu,if_pos oP];exact hx)
theorem zQO {L:List PX} (h: ∀j y,j<9->L[j]?=some y->PX.big y=false):gPt L=decide (((pxs L).length:Int)>8):=by
 unfold gPt
 have:(L.take 9).any PX.big=false:=by
  refine zWc.2 fun x hx=> ?_
  obtain ⟨j,hj⟩:=List.getElem?_of_mem hx
  rw [zWu] at hj
  split at hj
  ·rename_i hlt
   rw [h j x hlt hj];simp
  ·cases hj
 rw [this,Bool.false_or,zWv,zWg]
 omega
theorem zDM {L:List PX} {W:Wm} {l:Wn} (hl:(SF.row 6 (pxs L)).p l W):Calls prog 22 #[l] W (Ret W (fB (gPt L)).tS):=by
 refine z5 [SF.row 6 (pxs L)] func22 rfl kI ⟨hl,trivial⟩ fun a s=> ?_
 refine zVR ?_
 refine zB 1 ((2, .u (uB false)):: []) hmix s kI
  (oc zG<|zD) fun a w1 s=> ?_
 refine zA rfl ?_
 refine zVR ?_
 refine zVR ?_
 refine zB 1 ((3, .u (uI 0)):: []) hmix s kI
  (oc zG<|zD) fun a w2 s=> ?_
 refine zA rfl ?_
 refine zVV ?_
 refine zAV (fun k=>k<=L.length/\k<=9/\ ∀j y,j<k->L[j]?=some y->PX.big y=false) (fun k=> [(0, .o (SF.row 6 (pxs L))),(3, .u (uI ((k:Nat):Int)))]) (fun k=>9 - k) (0:Nat) (⟨zV5 _,by omega,fun j y hj=>absurd hj (zWe _)⟩) (s.keepK _ (fmz ⟨mz2,fmz ⟨.head _,fnz⟩⟩)) fun k a w hx s=> ?_
 refine zVR ?_
 refine zVR ?_
 refine zB 8 ((4, .Z (uI (k:Int)))::(5, .s (SF.row 6 (pxs L)))::(6, .Z (uI ((pxs L).length:Int)))::(7, .Z (uB (decide ((k:Int)<((pxs L).length:Int)))))::(8, .Z (uB (decide ((k:Int)<((pxs L).length:Int)))))::(9, .s (SF.imp ((decide ((k:Int)<((pxs L).length:Int)))=true) ((uI (k:Int)).tS)))::(10, .s (SF.imp ((decide ((k:Int)<((pxs L).length:Int)))=true) ((uB (decide ((k:Int)<=8))).tS)))::(11, .u (uB ((decide ((k:Int)<((pxs L).length:Int)))&&(decide ((k:Int)<=8))))):: []) hmix s kI
  (oc zC<|oc zC<|oc (zBk (z:=6) (Cs:=pxs L) kI iiz (fun _=>rfl))<|oc (zR .i64 (k:Int) ((pxs L).length:Int) (decide ((k:Int)<((pxs L).length:Int))) iiz iiz rfl rfl)<|oc zC<|oc (zF 8 (decide ((k:Int)<((pxs L).length:Int))) kI iiz (fun e=>yG [] ((uI (k:Int)).tS) fnz fO kI zC) fN)<|oc (zF 8 (decide ((k:Int)<((pxs L).length:Int))) kI iiz (fun e=>yG [(9,(uI (k:Int)).tS)] ((uB (decide ((k:Int)<=8))).tS) (fmz ⟨fun v W h=>zT (c:=(decide ((k:Int)<((pxs L).length:Int)))=true) (f:=(uI (k:Int)).tS) e h,fnz⟩) fO kI (zR .i64 (k:Int) 8 (decide ((k:Int)<=8)) iiz iiz rfl rfl)) fN)<|oc (yM (decide ((k:Int)<((pxs L).length:Int))) iiz (fun e v W h=>zBJ (zT e h) e) (fun e v W h=>zBi h e))<|zD) fun a w3 s=> ?_
 refine zA rfl ?_
 refine StS.cond s ((decide ((k:Int)<((pxs L).length:Int)))&&(decide ((k:Int)<=8))) iiz (fun e=> ?_) (fun e=> ?_)
 ·rw [zWk] at e
  have hk1:k<L.length:=by have:=zVW e.1;simp at this;omega
  have hk2:k<=8:=by have:=zVW e.2;omega
  obtain ⟨x,hxl⟩: ∃x,L[k]?=some x:=⟨_,zV0 hk1⟩
  have hx_:(pxs L)[k]?=some (PX.cu x):=by rw [zV3,hxl];rfl
  refine zVT ?_
  refine zVR ?_
  refine zVV ?_
  refine zVR ?_
  refine zB 32 ((14, .s (SF.row 6 (pxs L)))::(15, .Z (uI (k:Int)))::(16, .s (wB (PX.cu x).cf))::(17, .s (wB ((PX.cu x).cf.at 0)))::(18, .s (wB ((PX.cu x).cf.at 0)))::(19, .s (wB ((PX.cu x).cf.at 1)))::(20, .Z (fSl (x.1.n)))::(21, .Z (uI (x.1.n:Int)))::(22, .s (SF.row 6 (pxs L)))::(23, .Z (uI (k:Int)))::(24, .s (wB (PX.cu x).cf))::(25, .s (wB ((PX.cu x).cf.at 0)))::(26, .s (wB ((PX.cu x).cf.at 2)))::(27, .Z (fSl (x.1.n')))::(28, .Z (uI (x.1.n':Int)))::(29, .s (SF.row 6 (pxs L)))::(30, .Z (uI (k:Int)))::(31, .s (wB (PX.cu x).cf))::(32, .s (wB ((PX.cu x).cf.at 3)))::(33, .s (wB ((PX.cu x).cf.at 3)))::(34, .s (wB ((PX.cu x).cf.at 4)))::(35, .Z (fSl (x.2.n)))::(36, .Z (uI (x.2.n:Int)))::(37, .s (SF.row 6 (pxs L)))::(38, .Z (uI (k:Int)))::(39, .s (wB (PX.cu x).cf))::(40, .s (wB ((PX.cu x).cf.at 3)))::(41, .s (wB ((PX.cu x).cf.at 5)))::(42, .Z (fSl (x.2.n')))::(43, .Z (uI (x.2.n':Int)))::(44, .Z (uI ((max (max (max x.1.n x.1.n') x.2.n) x.2.n':Nat):Int)))::(45, .u (uB (PX.big x))):: []) hmix s kI
   (oc zC<|oc zC<|oc (zAZ (z:=6) (Cs:=pxs L) (i:=k) (C:=PX.cu x) kI hx_ iiz iiz)<|oc (zO (C:=(PX.cu x).cf) 0 kI)<|oc (yZ (C:=(PX.cu x).cf) 0 0 kI)<|oc (yZ (C:=(PX.cu x).cf) 0 1 kI)<|oc (jD (C:=(PX.cu x).cf) (k:=1) kI (h:=zVb))<|oc (zDZ kI (fun v W ⟨A,c,e⟩=>⟨A,x.1.n,c,e,rfl⟩))<|oc zC<|oc zC<|oc (zAZ (z:=6) (Cs:=pxs L) (i:=k) (C:=PX.cu x) kI hx_ iiz iiz)<|oc (zO (C:=(PX.cu x).cf) 0 kI)<|oc (yZ (C:=(PX.cu x).cf) 0 2 kI)<|oc (jD (C:=(PX.cu x).cf) (k:=2) kI (h:=zVa))<|oc (zDZ kI (fun v W ⟨A,c,e⟩=>⟨A,x.1.n',c,e,rfl⟩))<|oc zC<|oc zC<|oc (zAZ (z:=6) (Cs:=pxs L) (i:=k) (C:=PX.cu x) kI hx_ iiz iiz)<|oc (zO (C:=(PX.cu x).cf) 3 kI)<|oc (yZ (C:=(PX.cu x).cf) 3 0 kI)<|oc (yZ (C:=(PX.cu x).cf) 3 1 kI)<|oc (jD (C:=(PX.cu x).cf) (k:=4) kI (h:=zU9))<|oc (zDZ kI (fun v W ⟨A,c,e⟩=>⟨A,x.2.n,c,e,rfl⟩))<|oc zC<|oc zC<|oc (zAZ (z:=6) (Cs:=pxs L) (i:=k) (C:=PX.cu x) kI hx_ iiz iiz)<|oc (zO (C:=(PX.cu x).cf) 3 kI)<|oc (yZ (C:=(PX.cu x).cf) 3 2 kI)<|oc (jD (C:=(PX.cu x).cf) (k:=5) kI (h:=zU8))<|oc (zDZ kI (fun v W ⟨A,c,e⟩=>⟨A,x.2.n',c,e,rfl⟩))<|oc (zQw (x.1.n) (x.1.n') (x.2.n) (x.2.n') iiz iiz iiz iiz)<|oc (zR .i64 ((max (max (max x.1.n x.1.n') x.2.n) x.2.n':Nat):Int) 2 (PX.big x) iiz iiz (by unfold PX.big;show decide (((max (max (max x.1.n x.1.n') x.2.n) x.2.n':Nat):Int)>2)=_;rw [zWv];omega) rfl)<|zD) fun a w4 s=> ?_
  refine zA rfl ?_
  refine StS.cond s (PX.big x) iiz (fun e=> ?_) (fun e=> ?_)
  ·refine zVR ?_
   refine zB 1 ((2, .u (uB true)):: []) hmix s kI
    (oc zG<|zD) fun a w5 s=> ?_
   refine zA rfl ?_
   refine zVS ?_
   exact wH s (t:=2) rfl (fun v W h=>by rw [zQP hk2 hxl e];exact h)
  ·have hbig:=e
   refine zVT ?_
   refine zZ 2 ((12, .Z (uI (k:Int)))::(13, .u (uI ((k+1:Nat):Int))):: []) s kI
    (oc zC<|oc (yR .i64 (k:Int) 1 ((k+1:Nat):Int) iiz iiz (wrap64 _ _ oP oP))<|zD) fun a w6 s=> ?_
   replace s:=s.drop [3]
   refine yV (uI ((k+1:Nat):Int)) rfl s kI iiz fun a w s=> ?_
   refine zA rfl ?_
   exact ⟨k+1,⟨by omega,by omega,fun j y hj hy=>by rcases zV7 (zWb hj) with h|h;exact hx.2.2 j y h hy;rw [h,hxl] at hy;cases hy;exact hbig⟩,(by show 9 - (k+1)<9 - k;omega),s.keepK _ (fmz ⟨mz4,fmz ⟨.head _,fnz⟩⟩)⟩
 ·have hend:L.length<=k∨k=9:=by
   rw [Bool.and_eq_false_iff] at e
   rcases e with e|e
   ·have h7:=zVY e;simp at h7;omega
   ·have h7:=zVY e;omega
  refine zV2 ?_
  refine zVR ?_
  refine zB 4 ((46, .s (SF.row 6 (pxs L)))::(47, .Z (uI ((pxs L).length:Int)))::(48, .Z (uB (decide (((pxs L).length:Int)>8))))::(2, .u (uB (decide (((pxs L).length:Int)>8)))):: []) hmix s kI
   (oc zC<|oc (zBk (z:=6) (Cs:=pxs L) kI iiz (fun _=>rfl))<|oc (zR .i64 ((pxs L).length:Int) 8 (decide (((pxs L).length:Int)>8)) iiz iiz rfl rfl)<|oc zG<|zD) fun a w7 s=> ?_
  refine zA rfl ?_
  refine zVS ?_
  exact wH s (t:=2) rfl (fun v W h=>by rw [zQO (fun j y hj hy=>hx.2.2 j y (by have:=(zVX.1 hy).1;omega) hy)];exact h)
def zE8 (p q:V2):Int:=if qsg p.1 q.1=0 then qsg p.2 q.2 else qsg p.1 q.1
theorem zSU {p q:V2} (h:(qsg p.1 q.1 !=0)=true):zE8 p q=qsg p.1 q.1:=by unfold zE8;rw [if_neg (by simpa using h)]
theorem zST {p q:V2} (h:(qsg p.1 q.1 !=0)=false):zE8 p q=qsg p.2 q.2:=by unfold zE8;rw [if_pos (by simpa using h)]
theorem zP7 (a n:Nat):(a:Int).tmod (n:Int)=((a % n:Nat):Int):=rfl
theorem zBP {m:Nat} {p q:V2} (hp:QB p.1 m/\QB p.2 m) (hq:QB q.1 m/\QB q.2 m):QB (p.1 - q.1) (2*m+1)/\QB (p.2 - q.2) (2*m+1):=⟨(hp.1.sub hq.1).mono oP,(hp.2.sub hq.2).mono oP⟩
end Go.Proofs.Wd

namespace Go.Proofs.Wd
open Tryz
set_option maxRecDepth 100000
set_option maxHeartbeats 1000000
open Go.RowKit Lb
theorem zJH {m:Nat} {W:Wm} {l v:Wn} {t:V2} {ps:List V2} (hl:(SF.row 6 (pvs m ps)).p l W) (h1:(fPV m t).p v W) (hm:m<=200) (hm0:0<m) (hps:ps.length<=1000000):Calls prog 57 #[l,v] W (Ret W (wL W 31 6 (pns (yS ps t)))):=by
 have hq:=zCP hm0 hl
 have ht:=zA7 hm0 h1
 refine z5 [(UF.eq l).tS,(fPV m t).tS] func57 rfl kI ⟨rfl,h1,trivial⟩ fun a s=> ?_
 replace s:=s.renew [(0, .u (UF.eq l)),(1, .u (fPV m t))] (fmz ⟨.inr ⟨_,rfl, .head _⟩,fmz ⟨.inr ⟨_,rfl,mz1⟩,fnz⟩⟩)
 refine zVR ?_
 refine zB 0 [] hmix s kI
  zD fun a w1 s=> ?_
 refine yN (CU.agg (fPV m t)) rfl s kI (fun v W h=>qC h) fun b3 a w s=> ?_
 refine yV (UF.eq (.slice none 0 0)) rfl s kI iiz fun a w s=> ?_
 refine zA rfl ?_
 refine zVR ?_
 refine zB 1 ((5, .u (UF.eq (.slice none 0 0))):: []) hmix s kI
  (oc zG<|zD) fun a w2 s=> ?_
 refine zA rfl ?_
 refine zVR ?_
 refine zVR ?_
 refine zB 1 ((6, .u (uI 0)):: []) hmix s kI
  (oc zG<|zD) fun a w3 s=> ?_
 refine zA rfl ?_
 refine zVV ?_
 replace s:StS _ _ _ [⟨3,31,CU.agg (fPV m t),b3,true⟩] _ _ _ _:=s.freeze
 obtain ⟨base,hbase⟩: ∃b,b=w3.heap.size:=⟨_,rfl⟩
 have hb3:b3<base:=by rw [hbase];exact s.old _ (.head _)
 have hb0:W.heap.size<=base:=by rw [hbase];exact s.gr.size
 have hsz0:base<=w3.heap.size:=by rw [hbase];exact zWd _
 refine zDH (fun (p:Nat×Wn) w=>p.1<=ps.length/\base<=w.heap.size/\zBS w base 31 6 p.2 (pns ((yS ps t).take p.1))) (fun p=> [(0, .u (UF.eq l)),(5, .u (UF.eq (p.2))),(6, .u (uI (p.1:Int)))]) (fun p=>ps.length - p.1) (0, .slice none 0 0) (⟨zV5 _,hsz0,zBS.nil _ _ _ _⟩) (s.keepK _ (fmz ⟨mz3,fmz ⟨mz1,fmz ⟨.head _,fnz⟩⟩⟩)) fun p a w hI s=> ?_
 have s0:=s
 have hlw:=(SF.row 6 (pvs m ps)).st _ _ _ hl s0.below
 replace s:=s.reb rfl [(0, .u (UF.eq l)),(5, .u (UF.eq (p.2))),(6, .u (uI (p.1:Int)))] (fmz ⟨.inl (.head _),fmz ⟨.inl mz1,fmz ⟨.inl mz2,fnz⟩⟩⟩)
 refine zVR ?_
 refine zVR ?_
 refine zB 4 ((7, .Z (uI (p.1:Int)))::(8, .Z (UF.eq l))::(9, .Z (uI ((pvs m ps).length:Int)))::(10, .u (uB (decide ((p.1:Int)<((pvs m ps).length:Int))))):: []) hmix s kI
  (oc zC<|oc zC<|oc (jC (z:=6) (Cs:=pvs m ps) kI (fun v W hb h=>(yK hlw h (s.up hb))) (fun _=>rfl))<|oc (zR .i64 (p.1:Int) ((pvs m ps).length:Int) (decide ((p.1:Int)<((pvs m ps).length:Int))) iiz iiz rfl rfl)<|zD) fun a w4 s=> ?_
 refine zA rfl ?_
 refine StS.cond s (decide ((p.1:Int)<((pvs m ps).length:Int))) iiz (fun e=> ?_) (fun e=> ?_)
 ·have hk:p.1<ps.length:=by have:=zVW e;simp at this;omega
  refine zVT ?_
  refine zVR ?_
  refine zVV ?_
  refine zDY (K:= [(10, .u (uB (decide ((p.1:Int)<((pvs m ps).length:Int))))),(0, .u (UF.eq l)),(6, .u (uI (p.1:Int)))]) [(5, .u (UF.eq (p.2)))] [0,1,2] 8 ((13, .u (UF.eq (p.2)))::(14, .Z (UF.eq l))::(15, .Z (uI (p.1:Int)))::(16, .Y (fPV m (at_ ps p.1)))::(17, .Z (fPV m (at_ ps p.1)))::(18, .Z (fPV m t))::(19, .Z (fPN ((at_ ps p.1).1+t.1,(at_ ps p.1).2+t.2)))::(20, .s (SF.row 6 [CU.agg (fPN ((at_ ps p.1).1+t.1,(at_ ps p.1).2+t.2))])):: []) hmix (s.keepK _ (fmz ⟨mz2,fmz ⟨.head _,fmz ⟨mz1,fmz ⟨mz3,fnz⟩⟩⟩⟩)) kI
   (oc zC<|oc zC<|oc zC<|oc (yP (z:=6) (Cs:=pvs m ps) (i:=p.1) (C:=CU.agg (fPV m (at_ ps p.1))) kI (jA hk) (fun v W hb h=>(yK hlw h (s.up hb))) iiz)<|oc (zI (f:=fPV m (at_ ps p.1)) 6 kI (hz:=zX _ _))<|oc (zI (f:=fPV m t) 6 kI (hz:=zX _ _))<|oc (zJ zE zSB (fun u0 u1 W hb (h0:(fPV m (at_ ps p.1)).p u0 W) (h1:(fPV m t).p u1 W)=>zK0 (m:=m) (p:=at_ ps p.1) (q:=t) h0 h1 (hq _ (qV hk)) ht oP))<|oc (zAe (fun u W (hu:(fPN ((at_ ps p.1).1+t.1,(at_ ps p.1).2+t.2)).p u W)=>zGL hu))<|zD) fun Q' hQ a w5 s hr=> ?_
  refine zJy ([CU.agg (fPN ((at_ ps p.1).1+t.1,(at_ ps p.1).2+t.2))]) s0 (s.keepK [(13, .u (UF.eq (p.2))),(10, .u (uB (decide ((p.1:Int)<((pvs m ps).length:Int))))),(0, .u (UF.eq l)),(6, .u (uI (p.1:Int)))] (fmz ⟨.head _,fmz ⟨mz1,fmz ⟨mz2,fmz ⟨mz3,fnz⟩⟩⟩⟩)) hb0 hI.2 rfl kI kI kI (s.fct (.tmp 13)) (hr (_,_) mz7) (zG5 _ _) (by simp [zAC];omega) (fun q hq hr=>by rcases zVU.1 hq with rfl|hq;exact hb3;cases hq) fun v' a w hI' s=> ?_
  have s1:=s
  replace s:StS _ _ _ [⟨3,31,CU.agg (fPV m t),b3,true⟩] _ _ _ _:=s.freeze
  replace s:=s.reb rfl [(21, .u (UF.eq v')),(13, .u (UF.eq (p.2))),(10, .u (uB (decide ((p.1:Int)<((pvs m ps).length:Int))))),(0, .u (UF.eq l)),(6, .u (uI (p.1:Int)))] (fmz ⟨.inl (.head _),fmz ⟨.inl mz1,fmz ⟨.inl mz2,fmz ⟨.inl mz3,fmz ⟨.inl mz4,fnz⟩⟩⟩⟩⟩)
  refine yV (UF.eq v') rfl s kI iiz fun a w s=> ?_
  refine zA rfl (hQ _ _ ?_)
  refine zZ 2 ((11, .Z (uI (p.1:Int)))::(12, .u (uI ((p.1+1:Nat):Int))):: []) s kI
   (oc zC<|oc (yR .i64 (p.1:Int) 1 ((p.1+1:Nat):Int) iiz iiz (wrap64 _ _ oP oP))<|zD) fun a w6 s=> ?_
  replace s:=s.drop [6]
  refine yV (uI ((p.1+1:Nat):Int)) rfl s kI iiz fun a w s=> ?_
  refine zA rfl ?_
  have hbw:=s.below
  replace s:=s1.back (s.keepK [(6, .u (uI ((p.1+1:Nat):Int))),(12, .u (uI ((p.1+1:Nat):Int))),(5, .u (UF.eq v')),(21, .u (UF.eq v')),(13, .u (UF.eq (p.2))),(10, .u (uB (decide ((p.1:Int)<((pvs m ps).length:Int))))),(0, .u (UF.eq l))] (fmz ⟨.head _,fmz ⟨mz1,fmz ⟨mz2,fmz ⟨mz3,fmz ⟨mz4,fmz ⟨mz5,fmz ⟨mz6,fnz⟩⟩⟩⟩⟩⟩⟩)) rfl
  exact ⟨(p.1+1,v'),(by show ps.length - (p.1+1)<ps.length - p.1;omega),⟨hk,zVZ hI'.1 hbw.size,by rw [zG0 hk];exact hI'.2.below hbw⟩,s.keepK _ (fmz ⟨mz6,fmz ⟨mz2,fmz ⟨.head _,fnz⟩⟩⟩)⟩
 ·have hk:p.1=ps.length:=by have h7:=zVY e;have h8:=hI.1;simp at h7;omega
  refine zV2 ?_
  refine zVR ?_
  refine zB 2 ((22, .Z (UF.eq (p.2)))::(4, .u (UF.eq (p.2))):: []) hmix s kI
   (oc zC<|oc zG<|zD) fun a w7 s=> ?_
  refine zA rfl ?_
  refine zVS ?_
  exact StS.resN s s0.below rfl (by rw [s.val (.head _)];have:=(hI.2.2.below s.below).mono hb0;rw [hk,zWf (by rw [zAC];exact zWd _)] at this;exact this)
abbrev zEq (L:List Int):List CU:=L.map fun z=>wC [.int .i64 z]
def gI (L:List Int) (i:Nat):Int:=L.getD i 0
theorem zGh {L:List Int} {i:Nat} (h:i<L.length):(zEq L)[i]?=some (wC [.int .i64 (gI L i)]):=by
 unfold zEq gI;rw [zV3,zV4,zV0 h];rfl
def zBr (L:List Int) (k:Nat):List V2:=(List.range k).map fun j=>(((gI L (2*j):Int):Rat),((gI L (2*j+1):Int):Rat))
theorem zKt (L:List Int) (k:Nat):pns (zBr L (k+1))=pns (zBr L k)++ [CU.agg (fPN (((gI L (2*k):Int):Rat),((gI L (2*k+1):Int):Rat)))]:=by
 unfold zBr pns
 rw [zWE,List.map_append,List.map_append]
 rfl
theorem zM7 (L:List Int) (k:Nat):(zBr L k).length=k:=by simp [zBr]
def zUN (L:List Int):Prop:= ∀i,-9223372036854775808<=gI L i/\gI L i<=9223372036854775807
theorem zTm (a b c d e f:Int):yD prog 67 6 [(0, .int .i64 a),(1, .int .i64 b),(2, .int .i64 c),(3, .int .i64 d),(4, .int .i64 e),(5, .int .i64 f)]=some (3,#[.int .i64 a, .int .i64 b, .int .i64 c, .int .i64 d, .int .i64 e, .int .i64 f]):=by kernel_rfl
theorem zNt {L:List Int} {n:Nat} {cs:Array Wn} {e:Wp} {W:Wm} (hn:L.length=n) (hc:cs.toList=L.map (.int .i64)):n<=1000->(SF.row 1 (zEq L)).p (.slice (some ⟨W.heap.size,0,none⟩) n n) (W.alloc (.cells cs e)):=by
 intro h
 refine ⟨some ⟨W.heap.size,0,none⟩,n,by simp [hn],by simp [hn],by omega,fun e=>(by cases e),fun i C hi=> ?_⟩
 have hlt:i<L.length:=by have:=(zVX.1 hi).1;simpa using this
 rw [zGh hlt] at hi
 cases hi
 refine ⟨W.heap.size,0, [.int .i64 (gI L i)],rfl,fun j u hj=> ?_,rfl⟩
 obtain rfl:j=0:=by have:=(zVX.1 hj).1;simp at this;omega
 obtain rfl:Value.int .i64 (gI L i)=u:=by simpa using hj
 have hm:=zBf W cs e
 have h8:cs.toList[i]?=some (Value.int .i64 (gI L i)):=by
  rw [hc,zV3]
  unfold gI
  rw [zV4,zV0 hlt];rfl
 have:=hm i _ h8
 simpa using this
section
variable {F:Fence} {m:Nat} {P:Ws} {w0:Wm} {ops:Array Oper} {G:Nat->SF} {d:Tmp} {ty:Wp} {pos:String} {aft:Array Edge}
theorem zLC {t:Wp} {i j k:Nat} {x y z:Wr} (h: ∀u v q W,(fct G x).p u W->(fct G y).p v W->(fct G z).p q W-> ∃cells,P.built t [(i,u),(j,v),(k,q)]=some cells/\(G d).p (.agg cells) W):qP F m P w0 ops G ⟨some d, .build t #[(i,x),(j,y),(k,z)],ty,pos,aft,none⟩:=
 zEm fun b W hb hh=>by
  obtain ⟨cells,h1,h2⟩:=h _ _ _ W (hh x fP) (hh y fP) (hh z fP)
  exact ⟨cells,by simpa using h1,h2⟩
end
theorem zEU {F:Fence} {m:Nat} {w0:Wm} {ops:Array Oper} {G:Nat->SF} {d:Tmp} {ty:Wp} {pos:String} {aft:Array Edge} (a b c e f g:Int) (hd: ∀v W,(SF.row 1 (zEq [a,b,c,e,f,g])).p v W->(G d).p v W):qP F m prog w0 ops G ⟨some d, .buildSlice 67 6 #[(0, .const (.int .i64 a)),(1, .const (.int .i64 b)),(2, .const (.int .i64 c)),(3, .const (.int .i64 e)),(4, .const (.int .i64 f)),(5, .const (.int .i64 g))],ty,pos,aft,none⟩:=
 zEl fun bb W hb hh=>by
  have h1:=zTm a b c e f g
  have ev: ∀v:Wn,bb.eval (.const v)=v:=fun _=>rfl
  refine ⟨3,#[.int .i64 a, .int .i64 b, .int .i64 c, .int .i64 e, .int .i64 f, .int .i64 g],by simpa [ev] using h1,hd _ _ (zNt (L:= [a,b,c,e,f,g]) rfl rfl oP)⟩
theorem trB (s:Bool) (A A':Wq Addr) (n n' c c':Nat) (s2:Bool) (B B':Wq Addr) (k k' d d':Nat) (t:Bool) (C C':Wq Addr) (i i' j j':Nat) (t2:Bool) (D D':Wq Addr) (x x' y y':Nat) (r:Bool) (E E':Wq Addr) (p p' q q':Nat) (r2:Bool) (F F':Wq Addr) (g g' h h':Nat):prog.built 42 [(0, .agg #[.bool s, .slice A n c, .slice A' n' c', .bool s2, .slice B k d, .slice B' k' d']),(1, .agg #[.bool t, .slice C i j, .slice C' i' j', .bool t2, .slice D x y, .slice D' x' y']),(2, .agg #[.bool r, .slice E p q, .slice E' p' q', .bool r2, .slice F g h, .slice F' g' h'])]=some #[.bool s, .slice A n c, .slice A' n' c', .bool s2, .slice B k d, .slice B' k' d', .bool t, .slice C i j, .slice C' i' j', .bool t2, .slice D x y, .slice D' x' y', .bool r, .slice E p q, .slice E' p' q', .bool r2, .slice F g h, .slice F' g' h']:=by kernel_rfl
theorem zVh {m:Nat} {t:V6} {u v q:Wn} {W:Wm} (hu:(fPV m t.1).p u W) (hv:(fPV m t.2.1).p v W) (hq:(fPV m t.2.2).p q W): ∃cells,prog.built 42 [(0,u),(1,v),(2,q)]=some cells/\(fTR m t).p (.agg cells) W:=by
 obtain ⟨s,A,n,c,A',n',c',s2,B,k,d,B',k',d',rfl,h1,h2⟩:=hu
 obtain ⟨s3,A3,n3,c3,A4,n4,c4,s4,B3,k3,d3,B4,k4,d4,rfl,h3,h4⟩:=hv
 obtain ⟨s5,A5,n5,c5,A6,n6,c6,s6,B5,k5,d5,B6,k6,d6,rfl,h5,h6⟩:=hq
 exact ⟨_,trB ..,_,_,_,rfl,⟨s,A,n,c,A',n',c',s2,B,k,d,B',k',d',rfl,h1,h2⟩,⟨s3,A3,n3,c3,A4,n4,c4,s4,B3,k3,d3,B4,k4,d4,rfl,h3,h4⟩,⟨s5,A5,n5,c5,A6,n6,c6,s6,B5,k5,d5,B6,k6,d6,rfl,h5,h6⟩⟩
theorem zU3 (u0 u1 u2 u3 u4 u5 u6 u7 u8 u9 u10 u11 u12 u13 u14 u15 u16 u17:Wn):yD prog 23 1 [(0, .agg #[u0,u1,u2,u3,u4,u5,u6,u7,u8,u9,u10,u11,u12,u13,u14,u15,u16,u17])]=some (42,#[u0,u1,u2,u3,u4,u5,u6,u7,u8,u9,u10,u11,u12,u13,u14,u15,u16,u17]):=by kernel_rfl
theorem zSf {cs:List Wn} (h:cs.length=18): ∃u0 u1 u2 u3 u4 u5 u6 u7 u8 u9 u10 u11 u12 u13 u14 u15 u16 u17,cs= [u0,u1,u2,u3,u4,u5,u6,u7,u8,u9,u10,u11,u12,u13,u14,u15,u16,u17]:=by
 match cs,h with
 | [u0,u1,u2,u3,u4,u5,u6,u7,u8,u9,u10,u11,u12,u13,u14,u15,u16,u17],_=>exact ⟨u0,u1,u2,u3,u4,u5,u6,u7,u8,u9,u10,u11,u12,u13,u14,u15,u16,u17,rfl⟩
theorem zPK {m:Nat} {t:V6} {v:Wn} {W:Wm} (h:(fTR m t).p v W): ∃cs:List Wn,v= .agg cs.toArray/\cs.length=18/\(CU.agg (fTR m t)).p cs W:=by
 obtain ⟨a,b,c,rfl,h1⟩:=id h
 exact ⟨_,rfl,(zM8 m t _ W h).1,h⟩
theorem zKA {m:Nat} {t:V6} {u:Wn} {W:Wm} (h:(fTR m t).p u W): ∃e cs,yD prog 23 1 [(0,u)]=some (e,cs)/\(SF.row 18 (trs m [t])).p (.slice (some ⟨W.heap.size,0,none⟩) 1 1) (W.alloc (.cells cs e)):=by
 obtain ⟨cs,rfl,l,hc⟩:=zPK h
 obtain ⟨u0,u1,u2,u3,u4,u5,u6,u7,u8,u9,u10,u11,u12,u13,u14,u15,u16,u17,rfl⟩:=zSf l
 refine ⟨_,_,zU3 ..,some ⟨W.heap.size,0,none⟩,1,rfl,zWd _,by decide,fun e=>(by cases e),fun i C hi=> ?_⟩
 have hb:=zB7 W (.cells #[u0,u1,u2,u3,u4,u5,u6,u7,u8,u9,u10,u11,u12,u13,u14,u15,u16,u17] 42)
 have hm:=zBf W #[u0,u1,u2,u3,u4,u5,u6,u7,u8,u9,u10,u11,u12,u13,u14,u15,u16,u17] 42
 obtain rfl:i=0:=by have:=(zVX.1 hi).1;simp at this;omega
 obtain rfl:CU.agg (fTR m t)=C:=by simpa using hi
 refine ⟨W.heap.size,0,_,rfl, ?_,(CU.agg (fTR m t)).us _ _ _ hc (zS hb)⟩
 rw [show 0+0*18=0 from rfl]
 exact hm
def okS (L:List Int):Prop:= ∀i,(gI L i).natAbs<100
theorem okS.ok {L:List Int} (h:okS L):zUN L:=fun i=>by have:=h i;omega
theorem zE3 {L:List Int} (h:L.all (fun z=>decide (z.natAbs<100))=true):okS L:=fun i=>by
 unfold gI
 rw [zV4]
 cases e:L[i]? with
 |none=>decide
 |some z=>
  have:=zWh.1 h z (zWH e)
  exact zVW this
theorem qbz {z:Int} (h:z.natAbs<100):QB ((z:Int):Rat) 1:=QB.int (Nat.lt_trans h dB) dB
theorem zFH {L:List Int} (h:okS L) (k:Nat): ∀p,p∈zBr L k->QB p.1 1/\QB p.2 1:=fun p hp=>by
 obtain ⟨j,_,rfl⟩:=zV6.1 hp
 exact ⟨qbz (h _),qbz (h _)⟩
end Go.Proofs.Wd

namespace Go.Proofs.Wd
open Tryz
set_option maxRecDepth 100000
set_option maxHeartbeats 1000000
open Go.RowKit Lb
def TGp (u v q:UF) (x:Wn) (w:Wm):Prop:= ∃a b c:List Wn,x= .agg (a++b++c).toArray/\(CU.agg u).p a w/\(CU.agg v).p b w/\(CU.agg q).p c w
def fTG (u v q:UF):UF:= .mk' (TGp u v q) fun _ _ _ ⟨a,b,c,e,h1,h2,h3⟩ k=>⟨a,b,c,e,(CU.agg u).us _ _ _ h1 k,(CU.agg v).us _ _ _ h2 k,(CU.agg q).us _ _ _ h3 k⟩
section
variable {f g f' g' f'' g'':UF}
theorem zEd {cs:List Wn} {W:Wm} (h:(CU.agg (fTG (fPT f g) (fPT f' g') (fPT f'' g''))).p cs W): ∃a b c:List Wn,cs=a++b++c/\a.length=6/\b.length=6/\c.length=6/\(CU.agg (fPT f g)).p a W/\(CU.agg (fPT f' g')).p b W/\(CU.agg (fPT f'' g'')).p c W:=by
 obtain ⟨a,b,c,e,h1,h2,h3⟩:=h
 have:=zWi Array.toList (jJ e)
 have this:cs=a++b++c:=this
 exact ⟨a,b,c,this,(zCM _ _ a W h1).1,(zCM _ _ b W h2).1,(zCM _ _ c W h3).1,h1,h2,h3⟩
theorem zRw:CU.ok 18 (CU.agg (fTG (fPT f g) (fPT f' g') (fPT f'' g''))):=fun cs W h=>by
 obtain ⟨a,b,c,rfl,l1,l2,l3,h1,h2,h3⟩:=zEd h
 have o1:=zCM _ _ a W h1;have o2:=zCM _ _ b W h2;have o3:=zCM _ _ c W h3
 refine ⟨by simp [l1,l2,l3],zGu o1.2.1 o2.2.1 o3.2.1,fun u hu=> ?_⟩
 rcases zWa.1 hu with hu|hu
 ·rcases zWa.1 hu with hu|hu
  ·exact o1.2.2 u hu
  ·exact o2.2.2 u hu
 ·exact o3.2.2 u hu
theorem zRx: ∀cs:List Wn, ∀W,(fTG (fPT f g) (fPT f' g') (fPT f'' g'')).p (.agg cs.toArray) W->cs.length=18:=fun cs W h=>(zRw cs W h).1
theorem zRy {v:Wn} {W:Wm} (h:(fTG (fPT f g) (fPT f' g') (fPT f'' g'')).p v W):(CU.agg (fTG (fPT f g) (fPT f' g') (fPT f'' g''))).p v.cells.toList W/\v.cells.toList.all zY=true:=by
 obtain ⟨a,b,c,rfl,h1⟩:=id h
 exact ⟨h,(zRw _ W h).2.1⟩
theorem zRv (cs:List Wn) (W:Wm) (h:(CU.agg (fTG (fPT f g) (fPT f' g') (fPT f'' g''))).p cs W):0+6<=cs.length/\(fPT f g).p (.agg ((cs.drop 0).take 6).toArray) W:=by
 obtain ⟨a,b,c,rfl,l1,l2,l3,h1,_⟩:=zEd h
 refine ⟨by simp [l1,l2,l3], ?_⟩
 rw [List.drop_zero,zWm,zWN oP,zWf oP]
 exact h1
theorem zRu (cs:List Wn) (W:Wm) (h:(CU.agg (fTG (fPT f g) (fPT f' g') (fPT f'' g''))).p cs W):6+6<=cs.length/\(fPT f' g').p (.agg ((cs.drop 6).take 6).toArray) W:=by
 obtain ⟨a,b,c,rfl,l1,l2,l3,_,h2,_⟩:=zEd h
 refine ⟨by simp [l1,l2,l3], ?_⟩
 rw [zWm,zWO oP,List.drop_of_length_le oP,List.nil_append,zWN oP,zWf oP]
 exact h2
theorem zPL (cs:List Wn) (W:Wm) (h:(CU.agg (fTG (fPT f g) (fPT f' g') (fPT f'' g''))).p cs W):12+6<=cs.length/\(fPT f'' g'').p (.agg ((cs.drop 12).take 6).toArray) W:=by
 obtain ⟨a,b,c,rfl,l1,l2,l3,_,_,h3⟩:=zEd h
 refine ⟨by simp [l1,l2,l3], ?_⟩
 rw [zWO (by simp;omega),List.drop_of_length_le (by simp;omega),List.nil_append,zWf oP]
 exact h3
theorem zKM {W:Wm} {e:Wp} {z:Nat} {Cs:List CU} {cs:List Wn} (hlen:Cs.length<=9223372036854775807) (h: ∀(i:Nat) (C:CU),Cs[i]?=some C-> ∃p:List Wn,(∀j u,p[j]?=some u->cs[i*z+j]?=some u)/\C.p p W):(SF.row z Cs).p (.slice (some ⟨W.heap.size,0,none⟩) Cs.length Cs.length) (W.alloc (.cells cs.toArray e)):=by
 refine ⟨some ⟨W.heap.size,0,none⟩,Cs.length,rfl,zWd _,hlen,fun e=>(by cases e),fun i C hi=> ?_⟩
 obtain ⟨p,h1,h2⟩:=h i C hi
 refine ⟨W.heap.size,0,p,rfl,fun j u hj=> ?_,C.us _ _ _ h2 (zS (zB7 W _))⟩
 have:=zBf W cs.toArray e (i*z+j) u (by simpa using h1 j u hj)
 rwa [<-zWn] at this
theorem zU4 (s:Bool) (A A':Wq Addr) (n n' c c':Nat) (s2:Bool) (B B':Wq Addr) (k k' d d':Nat) (t:Bool) (C C':Wq Addr) (i i' j j':Nat) (t2:Bool) (D D':Wq Addr) (x x' y y':Nat) (r:Bool) (E E':Wq Addr) (p p' q q':Nat) (r2:Bool) (F F':Wq Addr) (g g' h h':Nat):yD prog 22 3 [(0, .agg #[.bool s, .slice A n c, .slice A' n' c', .bool s2, .slice B k d, .slice B' k' d']),(1, .agg #[.bool t, .slice C i j, .slice C' i' j', .bool t2, .slice D x y, .slice D' x' y']),(2, .agg #[.bool r, .slice E p q, .slice E' p' q', .bool r2, .slice F g h, .slice F' g' h'])]=some (31,#[.bool s, .slice A n c, .slice A' n' c', .bool s2, .slice B k d, .slice B' k' d', .bool t, .slice C i j, .slice C' i' j', .bool t2, .slice D x y, .slice D' x' y', .bool r, .slice E p q, .slice E' p' q', .bool r2, .slice F g h, .slice F' g' h']):=by kernel_rfl
theorem zOW {u v q:Wn} {W:Wm} (hu:(fPT f g).p u W) (hv:(fPT f' g').p v W) (hq:(fPT f'' g'').p q W): ∃e cs,yD prog 22 3 [(0,u),(1,v),(2,q)]=some (e,cs)/\(SF.row 6 [CU.agg (fPT f g),CU.agg (fPT f' g'),CU.agg (fPT f'' g'')]).p (.slice (some ⟨W.heap.size,0,none⟩) 3 3) (W.alloc (.cells cs e)):=by
 obtain ⟨s,A,n,c,A',n',c',s2,B,k,d,B',k',d',rfl,h1,h2⟩:=hu
 obtain ⟨s3,A3,n3,c3,A4,n4,c4,s4,B3,k3,d3,B4,k4,d4,rfl,h3,h4⟩:=hv
 obtain ⟨s5,A5,n5,c5,A6,n6,c6,s6,B5,k5,d5,B6,k6,d6,rfl,h5,h6⟩:=hq
 refine ⟨_,_,zU4 ..,zKM (Cs:= [CU.agg (fPT f g),CU.agg (fPT f' g'),CU.agg (fPT f'' g'')]) (cs:=_) fP fun i C hi=> ?_⟩
 have hlt:=(zVX.1 hi).1
 simp at hlt
 rcases (by omega:i=0∨i=1∨i=2) with rfl|rfl|rfl
 ·obtain rfl:CU.agg (fPT f g)=C:=by simpa using hi
  exact ⟨[.bool s, .slice A n c, .slice A' n' c', .bool s2, .slice B k d, .slice B' k' d'],fun j u hj=>by
   have h9:=(zVX.1 hj).1
   simp at h9
   rcases (by omega:j=0∨j=1∨j=2∨j=3∨j=4∨j=5) with rfl|rfl|rfl|rfl|rfl|rfl<;>exact hj,s,A,n,c,A',n',c',s2,B,k,d,B',k',d',rfl,h1,h2⟩
 ·obtain rfl:CU.agg (fPT f' g')=C:=by simpa using hi
  exact ⟨[.bool s3, .slice A3 n3 c3, .slice A4 n4 c4, .bool s4, .slice B3 k3 d3, .slice B4 k4 d4],fun j u hj=>by
   have h9:=(zVX.1 hj).1
   simp at h9
   rcases (by omega:j=0∨j=1∨j=2∨j=3∨j=4∨j=5) with rfl|rfl|rfl|rfl|rfl|rfl<;>exact hj,s3,A3,n3,c3,A4,n4,c4,s4,B3,k3,d3,B4,k4,d4,rfl,h3,h4⟩
 ·obtain rfl:CU.agg (fPT f'' g'')=C:=by simpa using hi
  exact ⟨[.bool s5, .slice A5 n5 c5, .slice A6 n6 c6, .bool s6, .slice B5 k5 d5, .slice B6 k6 d6],fun j u hj=>by
   have h9:=(zVX.1 hj).1
   simp at h9
   rcases (by omega:j=0∨j=1∨j=2∨j=3∨j=4∨j=5) with rfl|rfl|rfl|rfl|rfl|rfl<;>exact hj,s5,A5,n5,c5,A6,n6,c6,s6,B5,k5,d5,B6,k6,d6,rfl,h5,h6⟩
end
abbrev TX:=PX×PX×PX
abbrev TX.t (x:TX):V6:=(x.1.p,x.2.1.p,x.2.2.p)
abbrev TX.u (x:TX):UF:=fTG x.1.u x.2.1.u x.2.2.u
abbrev TX.cu (x:TX):CU:=CU.agg x.u
abbrev TX.l (x:TX):List PX:= [x.1,x.2.1,x.2.2]
abbrev txs (L:List TX):List CU:=L.map TX.cu
abbrev tts (L:List TX):List V6:=L.map TX.t
def PX.b (x:PX):Nat:=x.1.n+x.1.n'+(x.2.n+x.2.n')
def TX.b (x:TX):Nat:=PX.b x.1+PX.b x.2.1+PX.b x.2.2
def gTr (L:List TX):Bool:=(L.take 9).any (fun x=>gPt x.l)||decide (8<L.length)
theorem zTz {L:List TX} (h:gTr L=false):L.length<=8/\ ∀x,x∈L->gPt x.l=false:=by
 unfold gTr at h
 rw [zWr] at h
 have h2:=zVY h.2
 refine ⟨by omega,fun x hx=> ?_⟩
 have h1:=zWc.1 h.1 x (by rw [zWf oP];exact hx)
 simpa using h1
theorem zQN {L:List TX} {k:Nat} {x:TX} (hk:k<=8) (hx:L[k]?=some x) (h:gPt x.l=true):gTr L=true:=by
 unfold gTr
 rw [Bool.or_eq_true]
 left
 exact zWj.2 ⟨x,zWH (i:=k) (by rw [zWu,if_pos oP];exact hx),h⟩
theorem zQM {L:List TX} (h: ∀(j:Nat) (y:TX),j<9->L[j]?=some y->gPt y.l=false):gTr L=decide (((txs L).length:Int)>8):=by
 unfold gTr
 have:(L.take 9).any (fun x=>gPt x.l)=false:=by
  refine zWc.2 fun x hx=> ?_
  obtain ⟨j,hj⟩:=List.getElem?_of_mem hx
  rw [zWu] at hj
  split at hj
  ·rename_i hlt
   rw [h j x hlt hj];simp
  ·cases hj
 rw [this,Bool.false_or,zWv,zWg]
 omega
theorem zTf {x:TX} (h:gPt x.l=false) {v:Wn} {W:Wm} (hv:x.u.p v W):(fTR 2 x.t).p v W:=by
 obtain ⟨a,b,c,e,h1,h2,h3⟩:=hv
 have hb:=(zMb h).2
 exact ⟨a,b,c,e,zHZ (hb _ fP) h1,zHZ (hb _ fP) h2,zHZ (hb _ fP) h3⟩
theorem zPI {L:List TX} (h: ∀x,x∈L->gPt x.l=false) (v:Wn) (W:Wm) (hv:(SF.row 18 (txs L)).p v W):(SF.row 18 (trs 2 (tts L))).p v W:=
 zEM fP (fun i C D hC hD cs W hh=>by
  have hi:i<L.length:=by have:=(zVX.1 hC).1;simpa using this
  rw [zV3,zV0 hi] at hC
  rw [zV3,zV3,zV0 hi] at hD
  cases hC;cases hD
  exact zTf (h _ (zWq hi)) hh) v W hv
theorem zHs {f g f' g' f'' g'':UF} {W:Wm} {x:Wn} (hx:(fTG (fPT f g) (fPT f' g') (fPT f'' g'')).p x W):Calls prog 48 #[x] W (Ret W (SF.row 6 [CU.agg (fPT f g),CU.agg (fPT f' g'),CU.agg (fPT f'' g'')])):=by
 refine z5 [(fTG (fPT f g) (fPT f' g') (fPT f'' g'')).tS] func48 rfl kI ⟨hx,trivial⟩ fun a s=> ?_
 replace s:=s.renew [(0, .u (fTG (fPT f g) (fPT f' g') (fPT f'' g'')))] (fmz ⟨.inr ⟨_,rfl, .head _⟩,fnz⟩)
 refine zVR ?_
 refine zB 0 [] hmix s kI
  zD fun a w1 s=> ?_
 refine yN (CU.agg (fTG (fPT f g) (fPT f' g') (fPT f'' g''))) rfl s kI (fun v W h=>zRy h) fun b1 a w s=> ?_
 refine yV (UF.eq (.slice none 0 0)) rfl s kI iiz fun a w s=> ?_
 refine zA rfl ?_
 refine zVR ?_
 replace s:=s.drop [2]
 refine jG 8 ((3, .X (fTG (fPT f g) (fPT f' g') (fPT f'' g'')) 0)::(4, .Z (fPT f g))::(5, .X (fTG (fPT f g) (fPT f' g') (fPT f'' g'')) 6)::(6, .Z (fPT f' g'))::(7, .X (fTG (fPT f g) (fPT f' g') (fPT f'' g'')) 12)::(8, .Z (fPT f'' g''))::(9, .s (SF.row 6 [CU.agg (fPT f g),CU.agg (fPT f' g'),CU.agg (fPT f'' g'')]))::(2, .s (SF.row 6 [CU.agg (fPT f g),CU.agg (fPT f' g'),CU.agg (fPT f'' g'')])):: []) hmix s kI
  (oc (zEW (C:=cg (fTG (fPT f g) (fPT f' g') (fPT f'' g''))) 0 0 kI (fun _ _ h=>h.2) iiz)<|oc (yH (C:=cg (fTG (fPT f g) (fPT f' g') (fPT f'' g''))) (k:=0) 6 kI (h:=zRv))<|oc (zEW (C:=cg (fTG (fPT f g) (fPT f' g') (fPT f'' g''))) 1 6 kI (fun _ _ h=>h.2) iiz)<|oc (yH (C:=cg (fTG (fPT f g) (fPT f' g') (fPT f'' g''))) (k:=6) 6 kI (h:=zRu))<|oc (zEW (C:=cg (fTG (fPT f g) (fPT f' g') (fPT f'' g''))) 2 12 kI (fun _ _ h=>h.2) iiz)<|oc (yH (C:=cg (fTG (fPT f g) (fPT f' g') (fPT f'' g''))) (k:=12) 6 kI (h:=zPL))<|oc (zEV (fun u v q W (hu:(fPT f g).p u W) (hv:(fPT f' g').p v W) (hq:(fPT f'' g'').p q W)=>zOW hu hv hq))<|oc zG<|zD) fun a w2 s hr=> ?_
 refine zA rfl ?_
 refine zVS ?_
 exact StS.resN s (zV8 _ _) (t:=2) rfl (hr (_,_) mz7)
theorem zJK {L:List TX} {W:Wm} {l:Wn} (hl:(SF.row 18 (txs L)).p l W):Calls prog 23 #[l] W (Ret W (fB (gTr L)).tS):=by
 refine z5 [SF.row 18 (txs L)] func23 rfl kI ⟨hl,trivial⟩ fun a s=> ?_
 refine zVR ?_
 refine zB 1 ((2, .u (uB false)):: []) hmix s kI
  (oc zG<|zD) fun a w1 s=> ?_
 refine zA rfl ?_
 refine zVR ?_
 refine zVR ?_
 refine zB 1 ((3, .u (uI 0)):: []) hmix s kI
  (oc zG<|zD) fun a w2 s=> ?_
 refine zA rfl ?_
 refine zVV ?_
 refine zAV (fun k=>k<=L.length/\k<=9/\ ∀(j:Nat) (y:TX),j<k->L[j]?=some y->gPt y.l=false) (fun k=> [(0, .o (SF.row 18 (txs L))),(3, .u (uI ((k:Nat):Int)))]) (fun k=>9 - k) (0:Nat) (⟨zV5 _,by omega,fun j y hj=>absurd hj (zWe _)⟩) (s.keepK _ (fmz ⟨mz2,fmz ⟨.head _,fnz⟩⟩)) fun k a w hx s=> ?_
 refine zVR ?_
 refine zVR ?_
 refine zB 8 ((4, .Z (uI (k:Int)))::(5, .s (SF.row 18 (txs L)))::(6, .Z (uI ((txs L).length:Int)))::(7, .Z (uB (decide ((k:Int)<((txs L).length:Int)))))::(8, .Z (uB (decide ((k:Int)<((txs L).length:Int)))))::(9, .s (SF.imp ((decide ((k:Int)<((txs L).length:Int)))=true) ((uI (k:Int)).tS)))::(10, .s (SF.imp ((decide ((k:Int)<((txs L).length:Int)))=true) ((uB (decide ((k:Int)<=8))).tS)))::(11, .u (uB ((decide ((k:Int)<((txs L).length:Int)))&&(decide ((k:Int)<=8))))):: []) hmix s kI
  (oc zC<|oc zC<|oc (zBk (z:=18) (Cs:=txs L) kI iiz (fun _=>rfl))<|oc (zR .i64 (k:Int) ((txs L).length:Int) (decide ((k:Int)<((txs L).length:Int))) iiz iiz rfl rfl)<|oc zC<|oc (zF 8 (decide ((k:Int)<((txs L).length:Int))) kI iiz (fun e=>yG [] ((uI (k:Int)).tS) fnz fO kI zC) fN)<|oc (zF 8 (decide ((k:Int)<((txs L).length:Int))) kI iiz (fun e=>yG [(9,(uI (k:Int)).tS)] ((uB (decide ((k:Int)<=8))).tS) (fmz ⟨fun v W h=>zT (c:=(decide ((k:Int)<((txs L).length:Int)))=true) (f:=(uI (k:Int)).tS) e h,fnz⟩) fO kI (zR .i64 (k:Int) 8 (decide ((k:Int)<=8)) iiz iiz rfl rfl)) fN)<|oc (yM (decide ((k:Int)<((txs L).length:Int))) iiz (fun e v W h=>zBJ (zT e h) e) (fun e v W h=>zBi h e))<|zD) fun a w3 s=> ?_
 refine zA rfl ?_
 refine StS.cond s ((decide ((k:Int)<((txs L).length:Int)))&&(decide ((k:Int)<=8))) iiz (fun e=> ?_) (fun e=> ?_)
 ·rw [zWk] at e
  have hk1:k<L.length:=by have:=zVW e.1;simp at this;omega
  have hk2:k<=8:=by have:=zVW e.2;omega
  obtain ⟨x,hxl⟩: ∃x,L[k]?=some x:=⟨_,zV0 hk1⟩
  have hx_:(txs L)[k]?=some (TX.cu x):=by rw [zV3,hxl];rfl
  refine zVT ?_
  refine zVR ?_
  refine zVV ?_
  refine zVR ?_
  refine zB 6 ((14, .s (SF.row 18 (txs L)))::(15, .Z (uI (k:Int)))::(16, .s (wB (TX.cu x).cf))::(17, .Z (TX.u x))::(18, .s (SF.row 6 (pxs (TX.l x))))::(19, .u (uB (gPt (TX.l x)))):: []) hmix s kI
   (oc zC<|oc zC<|oc (zAZ (z:=18) (Cs:=txs L) (i:=k) (C:=TX.cu x) kI hx_ iiz iiz)<|oc (zI (f:=TX.u x) 18 kI (hz:=zRx))<|oc (zH zE zSx (fun u0 W hb (h0:(TX.u x).p u0 W)=>zHs h0))<|oc (zH zE zQ4 (fun u0 W hb (h0:(SF.row 6 (pxs (TX.l x))).p u0 W)=>zDM (L:=TX.l x) h0))<|zD) fun a w4 s=> ?_
  refine zA rfl ?_
  refine StS.cond s (gPt (TX.l x)) iiz (fun e=> ?_) (fun e=> ?_)
  ·refine zVR ?_
   refine zB 1 ((2, .u (uB true)):: []) hmix s kI
    (oc zG<|zD) fun a w5 s=> ?_
   refine zA rfl ?_
   refine zVS ?_
   exact wH s (t:=2) rfl (fun v W h=>by rw [zQN hk2 hxl e];exact h)
  ·have hbig:=e
   refine zVT ?_
   refine zZ 2 ((12, .Z (uI (k:Int)))::(13, .u (uI ((k+1:Nat):Int))):: []) s kI
    (oc zC<|oc (yR .i64 (k:Int) 1 ((k+1:Nat):Int) iiz iiz (wrap64 _ _ oP oP))<|zD) fun a w6 s=> ?_
   replace s:=s.drop [3]
   refine yV (uI ((k+1:Nat):Int)) rfl s kI iiz fun a w s=> ?_
   refine zA rfl ?_
   exact ⟨k+1,⟨by omega,by omega,fun j y hj hy=>by rcases zV7 (zWb hj) with h|h;exact hx.2.2 j y h hy;rw [h,hxl] at hy;cases hy;exact hbig⟩,(by show 9 - (k+1)<9 - k;omega),s.keepK _ (fmz ⟨mz4,fmz ⟨.head _,fnz⟩⟩)⟩
 ·have hend:L.length<=k∨k=9:=by
   rw [Bool.and_eq_false_iff] at e
   rcases e with e|e
   ·have h7:=zVY e;simp at h7;omega
   ·have h7:=zVY e;omega
  refine zV2 ?_
  refine zVR ?_
  refine zB 4 ((20, .s (SF.row 18 (txs L)))::(21, .Z (uI ((txs L).length:Int)))::(22, .Z (uB (decide (((txs L).length:Int)>8))))::(2, .u (uB (decide (((txs L).length:Int)>8)))):: []) hmix s kI
   (oc zC<|oc (zBk (z:=18) (Cs:=txs L) kI iiz (fun _=>rfl))<|oc (zR .i64 ((txs L).length:Int) 8 (decide (((txs L).length:Int)>8)) iiz iiz rfl rfl)<|oc zG<|zD) fun a w7 s=> ?_
  refine zA rfl ?_
  refine zVS ?_
  exact wH s (t:=2) rfl (fun v W h=>by rw [zQM (fun j y hj hy=>hx.2.2 j y (by have:=(zVX.1 hy).1;omega) hy)];exact h)
section
variable {F:Fence} {m:Nat} {P:Ws} {w0:Wm} {ops:Array Oper} {G:Nat->SF} {d:Tmp} {ty:Wp} {pos:String} {aft:Array Edge}
end
section
variable {f g f' g':UF}
end
section
variable {F:Fence} {m:Nat} {P:Ws} {u w0:Wm} {ops:Array Oper} {G:Nat->SF} {d:Tmp} {ty:Wp} {pos:String} {aft:Array Edge}
variable {l:Wn} {x y:Wr} {t:Wp} {z:Nat} {Cs:List CU} {i:Nat} {C:CU}
end
section
variable {S:Nat->Prop} {w0:Wm} {K:List (Nat×KF)} {B:List Bx} {n:Nat} {ds:List Deferred} {a:Act} {w:Wm}
theorem StS.own (h:St w0 K B n ds a w) {c:Nat} {y:Bx} (hB:zDw B c=some y) (hro:y.r=false):w0.heap.size<=y.b:=by
 obtain ⟨hy,_⟩:=jE hB
 obtain ⟨_,_,h2,_⟩:=h.bx.mem y hy
 rcases h2 with e|e|e
 ·rw [hro] at e;cases e
 ·exact e
 ·exact e.elim
end
theorem zPW (m:Nat) (W:Wm):RVp m 0 (.agg #[.bool false, .slice none 0 0, .slice none 0 0]) W:=⟨iv false [],0,⟨_,_,_,rfl,⟨false,none,0,0, [],rfl,wK W,zBE,zV5 _,rfl⟩,⟨none,0,0, [],rfl,wK W,zBE,zV5 _,rfl⟩⟩,Rat.mkRat_zero _⟩
section
variable {S:Nat->Prop} {w0:Wm} {K:List (Nat×KF)} {B:List Bx} {n:Nat} {a:Act} {w:Wm} {P:Ws} {Q:Exit->Act->Wm->Prop}
end
section
variable {f g f' g' f'' g'':UF}
end
section
variable {F:Fence} {m:Nat} {P:Ws} {w0:Wm} {ops:Array Oper} {G:Nat->SF} {d:Tmp} {ty:Wp} {pos:String} {aft:Array Edge}
end
section
variable {F:Fence} {m:Nat} {P:Ws} {w0:Wm} {ops:Array Oper} {G:Nat->SF} {d:Tmp} {ty:Wp} {pos:String} {aft:Array Edge}
end
theorem zNL {x:PX} (h:x.big=false) (cs:List Wn) (W:Wm) (hc:(PX.cu x).p cs W):0+6<=cs.length/\(fPV 2 x.p).p (.agg ((cs.drop 0).take 6).toArray) W:=by
 obtain ⟨h1,h2⟩:=zNN cs W hc
 exact ⟨h1,zHZ h h2⟩
theorem zU5 (s:Bool) (A A':Wq Addr) (n n' c c':Nat) (s2:Bool) (B B':Wq Addr) (k k' d d':Nat) (t:Bool) (C C':Wq Addr) (i i' j j':Nat) (t2:Bool) (D D':Wq Addr) (x x' y y':Nat):yD prog 22 2 [(0, .agg #[.bool s, .slice A n c, .slice A' n' c', .bool s2, .slice B k d, .slice B' k' d']),(1, .agg #[.bool t, .slice C i j, .slice C' i' j', .bool t2, .slice D x y, .slice D' x' y'])]=some (31,#[.bool s, .slice A n c, .slice A' n' c', .bool s2, .slice B k d, .slice B' k' d', .bool t, .slice C i j, .slice C' i' j', .bool t2, .slice D x y, .slice D' x' y']):=by kernel_rfl
theorem zRE {f g f' g':UF} {u v:Wn} {W:Wm} (hu:(fPT f g).p u W) (hv:(fPT f' g').p v W): ∃e cs,yD prog 22 2 [(0,u),(1,v)]=some (e,cs)/\(SF.row 6 [CU.agg (fPT f g),CU.agg (fPT f' g')]).p (.slice (some ⟨W.heap.size,0,none⟩) 2 2) (W.alloc (.cells cs e)):=by
 obtain ⟨s,A,n,c,A',n',c',s2,B,k,d,B',k',d',rfl,h1,h2⟩:=hu
 obtain ⟨s3,A3,n3,c3,A4,n4,c4,s4,B3,k3,d3,B4,k4,d4,rfl,h3,h4⟩:=hv
 refine ⟨_,_,zU5 ..,zKM (Cs:= [CU.agg (fPT f g),CU.agg (fPT f' g')]) (cs:=_) fP fun i C hi=> ?_⟩
 have hlt:=(zVX.1 hi).1
 simp at hlt
 rcases (by omega:i=0∨i=1) with rfl|rfl
 ·obtain rfl:CU.agg (fPT f g)=C:=by simpa using hi
  exact ⟨[.bool s, .slice A n c, .slice A' n' c', .bool s2, .slice B k d, .slice B' k' d'],fun j u hj=>by
   have h9:=(zVX.1 hj).1
   simp at h9
   rcases (by omega:j=0∨j=1∨j=2∨j=3∨j=4∨j=5) with rfl|rfl|rfl|rfl|rfl|rfl<;>exact hj,s,A,n,c,A',n',c',s2,B,k,d,B',k',d',rfl,h1,h2⟩
 ·obtain rfl:CU.agg (fPT f' g')=C:=by simpa using hi
  exact ⟨[.bool s3, .slice A3 n3 c3, .slice A4 n4 c4, .bool s4, .slice B3 k3 d3, .slice B4 k4 d4],fun j u hj=>by
   have h9:=(zVX.1 hj).1
   simp at h9
   rcases (by omega:j=0∨j=1∨j=2∨j=3∨j=4∨j=5) with rfl|rfl|rfl|rfl|rfl|rfl<;>exact hj,s3,A3,n3,c3,A4,n4,c4,s4,B3,k3,d3,B4,k4,d4,rfl,h3,h4⟩
theorem zMu {m:Nat} {t:V6} {W:Wm} {x:Wn} (hx:(fTR m t).p x W):Calls prog 48 #[x] W (Ret W (SF.row 6 (pvs m (tl t)))):=zHs (f:=fRV m t.1.1) (g:=fRV m t.1.2) (f':=fRV m t.2.1.1) (g':=fRV m t.2.1.2) (f'':=fRV m t.2.2.1) (g'':=fRV m t.2.2.2) hx
theorem zHC (a:List V2) (ts:List V6) {i n:Nat} (h:i<n): ∃l,zA8 a ts n=zA8 a ts i++l/\(yX a (tl (at3 ts i))=false-> ∃r,l=i::r)/\(yX a (tl (at3 ts i))=true-> ∀x,x∈l->x≠i):=by
 obtain ⟨k,rfl⟩: ∃k,n=i+1+k:=⟨n - (i+1),by omega⟩
 unfold zA8
 rw [zWn,List.range_add,zWF]
 refine ⟨_,rfl,fun hf=> ?_,fun hf x hx=> ?_⟩
 ·rw [Nat.add_comm 1 k,List.range_succ_eq_map,List.map_cons,List.filter_cons,if_pos (by simp [hf])]
  exact ⟨_,rfl⟩
 ·obtain ⟨h1,h2⟩:=List.mem_filter.1 hx
  rintro rfl
  rw [hf] at h2
  cases h2
theorem zMY {a:List V2} {ts:List V6} {wl:List Nat} (hwl:wl=zA8 a ts ts.length):(((zKc wl).length:Int)==0)= !(ts.any fun t=> !(yX a (tl t))):=by
 subst hwl
 rw [zWg]
 cases h:ts.any fun t=> !(yX a (tl t)) with
 |true=>
  obtain ⟨t,ht,e⟩:=zWj.1 h
  obtain ⟨i,hi,rfl⟩:=zIa ht
  obtain ⟨l,e1,h1,_⟩:=zHC a ts hi
  obtain ⟨r,rfl⟩:=h1 (by simpa using e)
  rw [e1]
  simp
  omega
 | false=>
  have h0:zA8 a ts ts.length= []:=by
   unfold zA8
   rw [List.filter_eq_nil_iff]
   intro i hi
   have:=zWc.1 h (at3 ts i) (by
    unfold at3
    rw [zV4,zV0 (zV9.1 hi)]
    exact zWq _)
   exact this
  rw [h0]
  rfl
theorem zRs {m:Nat} (hm0:0<m) {ts:List V6} {v:Wn} {W:Wm} (h:(SF.row 18 (trs m ts)).p v W) {i:Nat} (hi:i<ts.length): ∀p,p∈tl (at3 ts i)->QB p.1 m/\QB p.2 m:=by
 obtain ⟨_,_,_,_,_,_,h5⟩:=h
 obtain ⟨b,o,cs,_,_,h6⟩:=h5 i _ (zCe hi)
 obtain ⟨a,b,c,rfl,_,_,_,h1,h2,h3⟩:=zFI h6
 intro p hp
 rcases zVU.1 hp with rfl|hp
 ·exact zA7 hm0 (v:= .agg a.toArray) h1
 ·rcases zVU.1 hp with rfl|hp
  ·exact zA7 hm0 (v:= .agg b.toArray) h2
  ·obtain rfl:=zV1.1 hp
   exact zA7 hm0 (v:= .agg c.toArray) h3
theorem zFQ {z:Rat}:z.num.sign<0↔z<0:=by
 have n0:z<0↔z.num<0:=by rw [Rat.lt_iff];simp
 rw [n0]
 rcases zWI z.num 0 with h|h|h
 ·rw [zWP h];exact ⟨fun _=>h,fun _=>by decide⟩
 ·rw [h];decide
 ·rw [Int.sign_eq_one_of_pos h];exact ⟨fun h'=>absurd h' dB,fun h'=>by omega⟩
theorem zFP {z:Rat}:0<z.num.sign↔0<z:=by
 have p0:0<z↔0<z.num:=by rw [Rat.lt_iff];simp
 rw [p0]
 rcases zWI z.num 0 with h|h|h
 ·rw [zWP h];exact ⟨fun h'=>absurd h' dB,fun h'=>by omega⟩
 ·rw [h];decide
 ·rw [Int.sign_eq_one_of_pos h];exact ⟨fun _=>h,fun _=>by decide⟩
theorem zIY (m:Nat) (ps:List V2) (x:V2):pvs m ps++ [CU.agg (fPV m x)]=pvs m (ps++ [x]):=by simp [pvs]
theorem QB.inv {q:Rat} {m:Nat} (h:QB q m):QB q⁻¹ m:=by
 by_cases e:q=0
 ·subst e
  rw [Rat.inv_zero];exact h
 ·have hn:q.num≠0:=fun h0=>e (Rat.num_eq_zero.1 h0)
  refine vJ h.pos (X:=(q.den:Int)) (D:=q.num) ?_ hn (jU h.2) h.1
  have h1:(q.num:Rat)=q*((q.den:Nat):Rat):=zG9 q
  rw [h1, <-Rat.mul_assoc,Rat.inv_mul_cancel q e,Rat.one_mul]
  rfl
theorem QB.div {p q:Rat} {m n:Nat} (h:QB p m) (h':QB q n):QB (p / q) (m+n):=by
 rw [Rat.div_def]
 exact h.mul h'.inv
section
variable {F:Fence} {m:Nat} {P:Ws} {w0:Wm} {ops:Array Oper} {G:Nat->SF} {d:Tmp} {ty:Wp} {pos:String} {aft:Array Edge}
end
section
variable {S:Nat->Prop} {F:Fence} {m:Nat} {P:Ws} {Q:Exit->Act->Wm->Prop} {w0:Wm} {K:List (Nat×KF)} {B:List Bx} {n:Nat} {ds:List Deferred} {a:Act} {w:Wm}
end
theorem zBK {F:Fence} {m:Nat} {P:Ws} {w0:Wm} {ops:Array Oper} {G:Nat->SF} {d:Tmp} {ty:Wp} {pos:String} {aft:Array Edge} {f:FuncId} {x y z q:Wr} {ats:Array Wp} (hF:zGz F m P) (he:Enters P f) (h: ∀u v r s W,Below w0.heap.size w0 W->(fct G x).p u W->(fct G y).p v W->(fct G z).p r W->(fct G q).p s W->Calls P f #[u,v,r,s] W (Ret W (G d))):qP F m P w0 ops G ⟨some d, .call ⟨.value (.func f),#[x,y,z,q],ats⟩,ty,pos,aft,none⟩:=
 zDn hF he fun b W hb hh=>by simpa using h _ _ _ _ W hb (hh x fP) (hh y fP) (hh z fP) (hh q fP)
section
variable {S:Nat->Prop} {w0 w1:Wm} {K K0:List (Nat×KF)} {n n0:Nat} {ds0:List Deferred} {a a0:Act} {w:Wm}
end
end Go.Proofs.Wd

namespace Go.Proofs.Wd
open Tryz
def nx (l:List V2) (k:Nat):Nat:=(k+1) % l.length
theorem qlt {p q:Rat}:qsg p q<0↔p<q:=by
 rcases zQp p q with e|e|e
 ·rw [e];exact ⟨fun _=>zO4.1 e,fun _=>by decide⟩
 ·rw [e];exact ⟨fun h=>absurd h dB,fun h=>by rw [zRZ.1 e] at h;exact absurd h (Rat.lt_irrefl)⟩
 ·rw [e];exact ⟨fun h=>absurd h dB,fun h=>absurd (zRX.1 e) (zWw.2 (Rat.le_of_lt h))⟩
theorem qgt {p q:Rat}:qsg p q>0↔q<p:=by
 have:=qlt (p:=q) (q:=p)
 rw [zLc p q] at this
 exact ⟨fun h=>this.1 oP,fun h=>by have:=this.2 h;omega⟩
def crz (v p:V2):Rat:=v.1*p.2 - v.2*p.1
theorem zMt (a b p:V2):crs a b p=crz (yU b a) p - crz (yU b a) a:=by unfold crs crz yU;grind
def lpt (a d:V2) (t:Rat):V2:=(a.1+d.1*t,a.2+d.2*t)
def jI (v:V2) (l:List V2):Nat->Rat
 |0=>0
 |k+1=>if (decide (k=0)||decide (qsg (crz v (at_ l k)) (jI v l k)>0))=true then crz v (at_ l k) else jI v l k
theorem zJg (v:V2) (l:List V2): ∀k,0<k->(∀j,j<k->crz v (at_ l j)<=jI v l k)/\ ∃j,j<k/\crz v (at_ l j)=jI v l k
 | k+1,_=>by
  by_cases h0:k=0
  ·subst h0
   have e:jI v l 1=crz v (at_ l 0):=by unfold jI;rw [if_pos fP]
   rw [e]
   exact ⟨fun j hj=>by rw [show j=0 by omega];exact zWx,0,by omega,rfl⟩
  ·obtain ⟨h1,j0,h2,h3⟩:=zJg v l k oP
   by_cases c:qsg (crz v (at_ l k)) (jI v l k)>0
   ·have e:jI v l (k+1)=crz v (at_ l k):=by
     show (if _ then _ else _)=_
     rw [if_pos (by simp [c])]
    have hc:=qgt.1 c
    rw [e]
    refine ⟨fun j hj=> ?_,k,by omega,rfl⟩
    rcases zV7 (zWb hj) with q|q
    ·exact Rat.le_trans (h1 j q) (Rat.le_of_lt hc)
    ·rw [q];exact zWx
   ·have e:jI v l (k+1)=jI v l k:=by
     show (if _ then _ else _)=_
     rw [if_neg (by simp [h0,c])]
    have hc: ¬jI v l k<crz v (at_ l k):=fun h=>c (qgt.2 h)
    rw [e]
    refine ⟨fun j hj=> ?_,j0,by omega,h3⟩
    rcases zV7 (zWb hj) with q|q
    ·exact h1 j q
    ·rw [q];exact zWw.1 hc
theorem zMf {v:V2} {l:List V2} (hl:0<l.length) (c:Rat):0<jI v l l.length+c↔ ∃p,p∈l/\0<crz v p+c:=by
 obtain ⟨h1,j,hj,h2⟩:=zJg v l l.length hl
 constructor
 ·exact fun h=>⟨_,qV hj,by rw [h2];exact h⟩
 ·rintro ⟨p,hp,h⟩
  obtain ⟨i,hi,rfl⟩:=zFx hp
  have:=h1 i hi
  grind
abbrev nxt (l:List V2) (i:Nat):V2:=at_ l ((i+1) % l.length)
def evA (T R:List V2) (a d:V2) (i:Nat):V2:=
 ((jI (yU (nxt T i) (at_ T i)) R R.length - crz (yU (nxt T i) (at_ T i)) (at_ T i))+crz (yU (nxt T i) (at_ T i)) a,crz (yU (nxt T i) (at_ T i)) d)
def evB (T R:List V2) (a d:V2) (i:Nat):V2:=
 ((jI (yU (nxt R i) (at_ R i)) T T.length - crz (yU (nxt R i) (at_ R i)) (at_ R i)) - crz (yU (nxt R i) (at_ R i)) a,-(crz (yU (nxt R i) (at_ R i)) d))
def ev (e:V2) (t:Rat):Rat:=e.1+e.2*t
theorem zMj {T R:List V2} (hR:0<R.length) (a d:V2) (i:Nat) (t:Rat):0<ev (evA T R a d i) t↔ ∃p,p∈yS R (lpt a d t)/\0<crs (at_ T i) (nxt T i) p:=by
 have e:ev (evA T R a d i) t=jI (yU (nxt T i) (at_ T i)) R R.length+(crz (yU (nxt T i) (at_ T i)) (lpt a d t) - crz (yU (nxt T i) (at_ T i)) (at_ T i)):=by
  unfold ev evA lpt
  generalize yU (nxt T i) (at_ T i)=v
  generalize jI v R R.length=f
  unfold crz
  simp only
  grind
 rw [e,zMf hR]
 constructor
 ·rintro ⟨p,hp,h⟩
  refine ⟨zMU p (lpt a d t),zV6.2 ⟨p,hp,rfl⟩, ?_⟩
  rw [zMt]
  unfold crz zMU at*
  simp only at*
  grind
 ·rintro ⟨q,hq,h⟩
  obtain ⟨p,hp,rfl⟩:=zV6.1 hq
  refine ⟨p,hp, ?_⟩
  rw [zMt] at h
  unfold crz zMU at*
  simp only at*
  grind
theorem zLE {R:List V2} (x:V2) {i:Nat} (hi:i<R.length):nxt (yS R x) i=zMU (nxt R i) x:=by
 unfold nxt
 rw [zAC]
 exact zGs (zWy _ oP)
theorem zMi {T R:List V2} (hT:0<T.length) (a d:V2) {i:Nat} (hi:i<R.length) (t:Rat):0<ev (evB T R a d i) t↔ ∃p,p∈T/\0<crs (at_ (yS R (lpt a d t)) i) (nxt (yS R (lpt a d t)) i) p:=by
 have e:ev (evB T R a d i) t=jI (yU (nxt R i) (at_ R i)) T T.length+(-(crz (yU (nxt R i) (at_ R i)) (lpt a d t)) - crz (yU (nxt R i) (at_ R i)) (at_ R i)):=by
  unfold ev evB lpt
  generalize yU (nxt R i) (at_ R i)=v
  generalize jI v T T.length=f
  unfold crz
  simp only
  grind
 rw [e,zMf hT,zGs hi,zLE _ hi]
 have k: ∀p,crs (zMU (at_ R i) (lpt a d t)) (zMU (nxt R i) (lpt a d t)) p=crz (yU (nxt R i) (at_ R i)) p+(-(crz (yU (nxt R i) (at_ R i)) (lpt a d t)) - crz (yU (nxt R i) (at_ R i)) (at_ R i)):=fun p=>by
  unfold crs crz yU zMU
  simp only
  grind
 simp only [k]
def evs (T R:List V2) (a d:V2):List V2:=if R.length=0 then [(((0:Int):Rat),((0:Int):Rat))] else (List.range T.length).map (evA T R a d)++(List.range R.length).map (evB T R a d)
theorem zE5 {T R:List V2} (hT:0<T.length) (a d:V2) (t:Rat):(∀e,e∈evs T R a d->0<ev e t)↔yX (yS R (lpt a d t)) T=false:=by
 unfold evs
 by_cases h0:R.length=0
 ·rw [if_pos h0]
  have hR:R= []:=List.eq_nil_of_length_eq_zero h0
  subst hR
  constructor
  ·intro h
   have:=h _ (zV1.2 rfl)
   have e0:ev (((0:Int):Rat),((0:Int):Rat)) t=0:=by unfold ev;show (0:Rat)+0*t=0;grind
   rw [e0] at this
   exact absurd this (by decide+kernel)
  ·intro h
   unfold yX at h
   rw [zWr] at h
   obtain ⟨k,hk,_⟩:=zLq h.2 0 hT
   simp [yS] at hk
 ·rw [if_neg h0]
  have hR:0<R.length:=by omega
  unfold yX
  rw [zWr]
  constructor
  ·intro h
   constructor
   ·unfold zDi
    rw [zWc]
    intro i hi
    rw [zAC] at hi
    have hi:=zV9.1 hi
    obtain ⟨p,hp,e⟩:=(zMi hT a d hi t).1 (h _ (zWa.2 (.inr (zV6.2 ⟨i,zV9.2 hi,rfl⟩))))
    intro hx
    have:=zIZ hx hp
    exact absurd e (zWw.2 this)
   ·unfold zDi
    rw [zWc]
    intro i hi
    have hi:=zV9.1 hi
    obtain ⟨p,hp,e⟩:=(zMj hR a d i t).1 (h _ (zWa.2 (.inl (zV6.2 ⟨i,zV9.2 hi,rfl⟩))))
    intro hx
    have:=zIZ hx hp
    exact absurd e (zWw.2 this)
  ·rintro ⟨h1,h2⟩ e he
   rcases zWa.1 he with he|he
   ·obtain ⟨i,hi,rfl⟩:=zV6.1 he
    obtain ⟨k,hk,h⟩:=zLq h2 i (zV9.1 hi)
    exact (zMj hR a d i t).2 ⟨_,qV hk,h⟩
   ·obtain ⟨i,hi,rfl⟩:=zV6.1 he
    have hi:=zV9.1 hi
    obtain ⟨k,hk,h⟩:=zLq h1 i (by rw [zAC];exact hi)
    exact (zMi hT a d hi t).2 ⟨_,qV hk,h⟩
def zDT (s e:V2):V2×Bool:=
 if e.2.num.sign=0 then (s,decide (e.1.num.sign>0))
 else if (decide (e.2.num.sign>0)&&decide (qsg (-e.1 / e.2) s.1>0))=true then ((-e.1 / e.2,s.2),decide (qsg (-e.1 / e.2) s.2<0))
 else if (decide (e.2.num.sign<0)&&decide (qsg (-e.1 / e.2) s.2<0))=true then ((s.1,-e.1 / e.2),decide (qsg s.1 (-e.1 / e.2)<0))
 else (s,decide (qsg s.1 s.2<0))
def zJu (s:V2) (P:Rat->Prop):Prop:=s.1<s.2/\0<=s.1/\s.2<=1/\ ∀t,(s.1<t/\t<s.2)↔(0<t/\t<1)/\P t
theorem zHm {e:V2} (h:0<e.2) (t:Rat):0<ev e t↔-e.1 / e.2<t:=by
 have k:(-e.1 / e.2)*e.2= -e.1:=Rat.div_mul_cancel (by grind)
 generalize -e.1 / e.2=x at*
 have:ev e t=(t - x)*e.2:=by unfold ev;grind
 rw [this]
 constructor
 ·intro h1
  apply zWz
  intro hx
  have:=Rat.mul_nonneg (show 0<=x - t by grind) (Rat.le_of_lt h)
  grind
 ·intro h1
  exact Rat.mul_pos (by grind) h
theorem zHn {e:V2} (h:e.2<0) (t:Rat):0<ev e t↔t< -e.1 / e.2:=by
 have k:(-e.1 / e.2)*e.2= -e.1:=Rat.div_mul_cancel (by grind)
 generalize -e.1 / e.2=x at*
 have:ev e t=(x - t)*(-e.2):=by unfold ev;grind
 rw [this]
 constructor
 ·intro h1
  apply zWz
  intro hx
  have:=Rat.mul_nonneg (show 0<=t - x by grind) (show 0<=-e.2 by grind)
  grind
 ·intro h1
  exact Rat.mul_pos (by grind) (by grind)
theorem zPg {a b:Rat} (h:a<b):a<(a+b) / 2/\(a+b) / 2<b:=by grind
theorem zSR {s e:V2} {P:Rat->Prop} (h:zJu s P):((zDT s e).2=true->zJu (zDT s e).1 fun t=>P t/\0<ev e t)/\((zDT s e).2=false-> ∀t, ¬((0<t/\t<1)/\P t/\0<ev e t)):=by
 obtain ⟨h1,h2,h3,h4⟩:=h
 unfold zDT
 by_cases c0:e.2.num.sign=0
 ·rw [if_pos c0]
  have z:e.2=0:=Rat.num_eq_zero.1 (Int.sign_eq_zero_iff_zero.1 c0)
  have ee: ∀t,ev e t=e.1:=fun t=>by unfold ev;rw [z];grind
  constructor
  ·intro hx
   have hp:0<e.1:=zFP.1 (zVW hx)
   refine ⟨h1,h2,h3,fun t=> ?_⟩
   rw [h4]
   simp only [ee]
   exact ⟨fun ⟨a,b⟩=>⟨a,b,hp⟩,fun ⟨a,b,_⟩=>⟨a,b⟩⟩
  ·intro hx t ⟨_,_,b⟩
   rw [ee] at b
   exact zVY hx (zFP.2 b)
 ·rw [if_neg c0]
  by_cases c1:(decide (e.2.num.sign>0)&&decide (qsg (-e.1 / e.2) s.1>0))=true
  ·rw [if_pos c1]
   rw [zWk] at c1
   have hp:=zFP.1 (zVW c1.1)
   have hq:=qgt.1 (zVW c1.2)
   constructor
   ·intro hx
    have hl:=qlt.1 (zVW hx)
    refine ⟨hl,by simp only;grind,h3,fun t=> ?_⟩
    show (-e.1 / e.2<t/\t<s.2)↔(0<t/\t<1)/\P t/\0<ev e t
    rw [zHm hp]
    constructor
    ·rintro ⟨a,b⟩
     have:=(h4 t).1 ⟨by grind,b⟩
     exact ⟨this.1,this.2,a⟩
    ·rintro ⟨a,b,c⟩
     exact ⟨c,((h4 t).2 ⟨a,b⟩).2⟩
   ·rintro hx t ⟨a,b,c⟩
    have:=zVY hx
    rw [zHm hp] at c
    exact this (qlt.2 (by have:=((h4 t).2 ⟨a,b⟩).2;grind))
  ·rw [if_neg c1]
   by_cases c2:(decide (e.2.num.sign<0)&&decide (qsg (-e.1 / e.2) s.2<0))=true
   ·rw [if_pos c2]
    rw [zWk] at c2
    have hp:=zFQ.1 (zVW c2.1)
    have hq:=qlt.1 (zVW c2.2)
    constructor
    ·intro hx
     have hl:=qlt.1 (zVW hx)
     refine ⟨hl,h2,by simp only;grind,fun t=> ?_⟩
     show (s.1<t/\t< -e.1 / e.2)↔(0<t/\t<1)/\P t/\0<ev e t
     rw [zHn hp]
     constructor
     ·rintro ⟨a,b⟩
      have:=(h4 t).1 ⟨a,by grind⟩
      exact ⟨this.1,this.2,b⟩
     ·rintro ⟨a,b,c⟩
      exact ⟨((h4 t).2 ⟨a,b⟩).1,c⟩
    ·rintro hx t ⟨a,b,c⟩
     have:=zVY hx
     rw [zHn hp] at c
     exact this (qlt.2 (by have:=((h4 t).2 ⟨a,b⟩).1;grind))
   ·rw [if_neg c2]
    have hS: ∀t,(s.1<t/\t<s.2)->0<ev e t:=fun t ht=>by
     rcases zWI e.2.num.sign 0 with q|q|q
     ·have hp:=zFQ.1 q
      rw [zHn hp]
      apply zWz
      intro hx
      exact c2 (by rw [zWA q,zWA (qlt.2 (by grind))];rfl)
     ·exact absurd q c0
     ·have hp:=zFP.1 q
      rw [zHm hp]
      apply zWz
      intro hx
      exact c1 (by rw [zWA q,zWA (qgt.2 (by grind))];rfl)
    constructor
    ·intro _
     refine ⟨h1,h2,h3,fun t=> ?_⟩
     constructor
     ·intro ht
      have:=(h4 t).1 ht
      exact ⟨this.1,this.2,hS t ht⟩
     ·rintro ⟨a,b,_⟩
      exact (h4 t).2 ⟨a,b⟩
    ·intro hx
     exact absurd (qlt.2 h1) (zVY hx)
def zAJ (es:List V2):Nat->V2×Bool
 |0=>((((0:Int):Rat),((1:Int):Rat)),true)
 |k+1=>if (zAJ es k).2=true then zDT (zAJ es k).1 (at_ es k) else zAJ es k
theorem zJj {es:List V2} {k:Nat} (h:(zAJ es k).2=true):zAJ es (k+1)=zDT (zAJ es k).1 (at_ es k):=by show (if _ then _ else _)=_;rw [if_pos h]
theorem zPq {es:List V2} {k:Nat} (h:(zAJ es k).2=false):zAJ es (k+1)=zAJ es k:=by show (if _ then _ else _)=_;rw [if_neg (by rw [h];decide)]
theorem zMs (es:List V2): ∀k,((zAJ es k).2=true->zJu (zAJ es k).1 fun t=> ∀j,j<k->0<ev (at_ es j) t)/\((zAJ es k).2=false-> ∀t, ¬((0<t/\t<1)/\ ∀j,j<k->0<ev (at_ es j) t))
 |0=>⟨fun _=>⟨by show (0:Rat)<1;decide+kernel,zWx,zWx,fun t=>⟨fun h=>⟨h,fun j hj=>absurd hj (zWe _)⟩,fun h=>h.1⟩⟩,fun h=>by cases h⟩
 | k+1=>by
  have ih:=zMs es k
  cases c:(zAJ es k).2 with
  | true=>
   rw [zJj c]
   obtain ⟨g1,g2⟩:=zSR (e:=at_ es k) (ih.1 c)
   have key: ∀t,(∀j,j<k+1->0<ev (at_ es j) t)↔((∀j,j<k->0<ev (at_ es j) t)/\0<ev (at_ es k) t):=fun t=>
    ⟨fun h=>⟨fun j hj=>h j oP,h k oP⟩,fun h j hj=>by
     rcases zV7 (zWb hj) with q|q
     ·exact h.1 j q
     ·rw [q];exact h.2⟩
   simp only [key]
   exact ⟨g1,g2⟩
  |false=>
   rw [zPq c,c]
   exact ⟨fun h=>(by cases h),fun _ t h=>ih.2 c t ⟨h.1,fun j hj=>h.2 j oP⟩⟩
theorem zHq {es:List V2} {k:Nat} (h:(zAJ es k).2=false): ∀n,k<=n->(zAJ es n).2=false
 |0,hn=>by rw [show k=0 by omega] at h;exact h
 | n+1,hn=>by
  rcases zV7 hn with q|q
  ·have:=zHq h n oP
   show (if _ then _ else _:V2×Bool).2=false
   rw [if_neg (by rw [this];decide)]
   exact this
  ·rw [<-q];exact h
def zAK (T R:List V2) (a d:V2):V2×Bool:=zAJ (evs T R a d) (evs T R a d).length
theorem zJq {T R:List V2} (hT:0<T.length) (a d:V2):((zAK T R a d).2=true->zJu (zAK T R a d).1 fun t=>yX (yS R (lpt a d t)) T=false)/\((zAK T R a d).2=false-> ∀t,(0<t/\t<1)->yX (yS R (lpt a d t)) T=true):=by
 obtain ⟨h1,h2⟩:=zMs (evs T R a d) (evs T R a d).length
 have key: ∀t,(∀j,j<(evs T R a d).length->0<ev (at_ (evs T R a d) j) t)↔yX (yS R (lpt a d t)) T=false:=fun t=>by
  rw [<-zE5 hT]
  constructor
  ·intro h e he
   obtain ⟨j,hj,rfl⟩:=zFx he
   exact h j hj
  ·exact fun h j hj=>h _ (qV hj)
 simp only [key] at h1 h2
 refine ⟨h1,fun h t ht=> ?_⟩
 have:=h2 h t
 cases c:yX (yS R (lpt a d t)) T with
 |true=>rfl
 |false=>exact absurd ⟨ht,c⟩ this
theorem zTv (es:List V2) (t0:Rat):(∀e,e∈es->0<ev e t0)-> ∃z:Rat,0<z/\ ∀t,t0 - z<t->t<t0+z-> ∀e,e∈es->0<ev e t:=by
 induction es with
 |nil=>exact fun _=>⟨1,by decide+kernel,fun t _ _ e he=>by cases he⟩
 | cons x es ih=>
  intro h
  obtain ⟨z,hz,h1⟩:=ih fun e he=>h e (List.mem_cons_of_mem _ he)
  have hx:=h x (List.mem_cons_self ..)
  -- the first one's own room
  obtain ⟨y,hy,h2⟩: ∃y:Rat,0<y/\ ∀t,t0 - y<t->t<t0+y->0<ev x t:=by
   by_cases c:x.2=0
   ·have e0: ∀t,ev x t=x.1:=fun t=>by unfold ev;rw [c];grind
    exact ⟨1,by decide+kernel,fun t _ _=>by rw [e0] at hx ⊢;exact hx⟩
   ·rcases (show x.2<0∨0<x.2 by grind) with q|q
    ·have k:=(zHn q t0).1 hx
     refine ⟨-x.1 / x.2 - t0,by grind,fun t _ h9=>(zHn q t).2 (by grind)⟩
    ·have k:=(zHm q t0).1 hx
     refine ⟨t0 - -x.1 / x.2,by grind,fun t h9 _=>(zHm q t).2 (by grind)⟩
  by_cases c:y<=z
  ·refine ⟨y,hy,fun t a b e he=> ?_⟩
   rcases zVU.1 he with rfl|he
   ·exact h2 t a b
   ·exact h1 t (by grind) (by grind) e he
  ·refine ⟨z,hz,fun t a b e he=> ?_⟩
   rcases zVU.1 he with rfl|he
   ·exact h2 t (by grind) (by grind)
   ·exact h1 t a b e he
theorem zGr {T R:List V2} (hT:0<T.length) (a d:V2):(zAK T R a d).2=false↔ ∀t,(0<=t/\t<=1)->yX (yS R (lpt a d t)) T=true:=by
 constructor
 ·intro h t ht
  cases c:yX (yS R (lpt a d t)) T with
  |true=>rfl
  | false=>
   obtain ⟨z,hz,hn⟩:=zTv _ t ((zE5 hT a d t).2 c)
   -- a point between the ends, zTv t
   obtain ⟨s,s1,s2,s3⟩: ∃s:Rat,(0<s/\s<1)/\t - z<s/\s<t+z:=by
    by_cases e0:t=0
    ·by_cases q:z<=1
     ·exact ⟨z / 2,by grind,by grind,by grind⟩
     ·exact ⟨1 / 2,by grind,by grind,by grind⟩
    ·by_cases e1:t=1
     ·by_cases q:z<=1
      ·exact ⟨1 - z / 2,by grind,by grind,by grind⟩
      ·exact ⟨1 / 2,by grind,by grind,by grind⟩
     ·exact ⟨t,by grind,by grind,by grind⟩
   have:=(zJq hT a d).2 h s s1
   rw [(zE5 hT a d s).1 (hn s s2 s3)] at this
   cases this
 ·intro h
  cases c:(zAK T R a d).2 with
  |false=>rfl
  |true=>
   obtain ⟨h1,h2,h3,h4⟩:=(zJq hT a d).1 c
   have hm:=zPg h1
   have:yX (yS R (lpt a d _)) T=false:=((h4 _).1 hm).2
   rw [h _ (by grind)] at this
   cases this
theorem zA5 {v p:V2} {m n:Nat} (h1:QB v.1 m/\QB v.2 m) (h2:QB p.1 n/\QB p.2 n):QB (crz v p) (m+n+(m+n)+1):=(h1.1.mul h2.2).sub (h1.2.mul h2.1)
theorem zE4 {v:V2} {l:List V2} {m n:Nat} (h1:QB v.1 m/\QB v.2 m) (h2: ∀p,p∈l->QB p.1 n/\QB p.2 n) (hm:0<m): ∀k,k<=l.length->QB (jI v l k) (m+n+(m+n)+1)
 |0,_=>QB.zero oP
 |k+1,hk=>by
  have ih:=zE4 h1 h2 hm k oP
  show QB (if _ then _ else _) _
  split
  ·exact zA5 h1 (h2 _ (qV oP))
  ·exact ih
theorem zR9 {l:List V2} {i:Nat} (h:i<l.length):(i+1) % l.length<l.length:=zWy _ oP
theorem zHJ {l:List V2} {n i:Nat} (hl: ∀p,p∈l->QB p.1 n/\QB p.2 n) (hi:i<l.length):QB (yU (nxt l i) (at_ l i)).1 (2*n+1)/\QB (yU (nxt l i) (at_ l i)).2 (2*n+1):=by
 have h1:=hl _ (qV (zR9 hi))
 have h2:=hl _ (qV hi)
 exact ⟨(h1.1.sub h2.1).mono oP,(h1.2.sub h2.2).mono oP⟩
section
variable {T R:List V2} {a d:V2} {n k j:Nat}
theorem zSr (hT: ∀p,p∈T->QB p.1 n/\QB p.2 n) (hR: ∀p,p∈R->QB p.1 n/\QB p.2 n) (ha:QB a.1 k/\QB a.2 k) (hd:QB d.1 j/\QB d.2 j) {i:Nat} (hi:i<T.length):QB (evA T R a d i).1 (16*n+2*k+11)/\QB (evA T R a d i).2 (4*n+2*j+3):=by
 have h:=zHJ hT hi
 have h1:=zE4 h hR oP R.length lr
 have h2:=zA5 h (hT _ (qV hi))
 have h3:=zA5 h ha
 exact ⟨((h1.sub h2).add h3).mono oP,(zA5 h hd).mono oP⟩
theorem zSq (hT: ∀p,p∈T->QB p.1 n/\QB p.2 n) (hR: ∀p,p∈R->QB p.1 n/\QB p.2 n) (ha:QB a.1 k/\QB a.2 k) (hd:QB d.1 j/\QB d.2 j) {i:Nat} (hi:i<R.length):QB (evB T R a d i).1 (16*n+2*k+11)/\QB (evB T R a d i).2 (4*n+2*j+3):=by
 have h:=zHJ hR hi
 have h1:=zE4 h hT oP T.length lr
 have h2:=zA5 h (hR _ (qV hi))
 have h3:=zA5 h ha
 exact ⟨((h1.sub h2).sub h3).mono oP,(zA5 h hd).neg.mono oP⟩
theorem zPm (hT: ∀p,p∈T->QB p.1 n/\QB p.2 n) (hR: ∀p,p∈R->QB p.1 n/\QB p.2 n) (ha:QB a.1 k/\QB a.2 k) (hd:QB d.1 j/\QB d.2 j): ∀e,e∈evs T R a d->QB e.1 (16*n+2*k+11)/\QB e.2 (4*n+2*j+3):=fun e he=>by
 unfold evs at he
 split at he
 ·obtain rfl:=zV1.1 he
  exact ⟨QB.zero oP,QB.zero oP⟩
 ·rcases zWa.1 he with he|he
  ·obtain ⟨i,hi,rfl⟩:=zV6.1 he
   exact zSr hT hR ha hd (zV9.1 hi)
  ·obtain ⟨i,hi,rfl⟩:=zV6.1 he
   exact zSq hT hR ha hd (zV9.1 hi)
theorem zGo (h:R.length=0):evs T R a d= [(((0:Int):Rat),((0:Int):Rat))]:=if_pos h
theorem zIl (h:R.length≠0):(evs T R a d).length=T.length+R.length:=by unfold evs;rw [if_neg h];simp
theorem zQU (h:R.length≠0) {i:Nat} (hi:i<T.length):at_ (evs T R a d) i=evA T R a d i:=by
 unfold evs at_;rw [if_neg h,zV4,zWC (by simpa using hi)];simp [hi]
theorem zQT (h:R.length≠0) {i:Nat} (hi:i<R.length):at_ (evs T R a d) (T.length+i)=evB T R a d i:=by
 unfold evs at_;rw [if_neg h,zV4,zWD fP];simp [hi]
end
theorem zRa {S0 z:V2} {m:Nat} (hS:QB S0.1 m/\QB S0.2 m) (hx:QB (-z.1 / z.2) m):QB (zDT S0 z).1.1 m/\QB (zDT S0 z).1.2 m:=by
 unfold zDT
 split
 ·exact hS
 ·split
  ·exact ⟨hx,hS.2⟩
  ·split
   ·exact ⟨hS.1,hx⟩
   ·exact hS
theorem zIn {es:List V2} {m n M:Nat} (h: ∀e,e∈es->QB e.1 m/\QB e.2 n) (hM:m+n<=M) (h0:0<M): ∀k,k<=es.length->QB (zAJ es k).1.1 M/\QB (zAJ es k).1.2 M
 |0,_=>⟨QB.zero h0,QB.one h0⟩
 | k+1,hk=>by
  have ih:=zIn h hM h0 k oP
  cases c:(zAJ es k).2 with
  |true=>
   rw [zJj c]
   have:=h _ (qV (show k<es.length by omega))
   exact zRa ih ((this.1.neg.div this.2).mono hM)
  |false=>rw [zPq c];exact ih
theorem zPs {T R:List V2} {a d:V2} {n k j M:Nat} (hT: ∀p,p∈T->QB p.1 n/\QB p.2 n) (hR: ∀p,p∈R->QB p.1 n/\QB p.2 n) (ha:QB a.1 k/\QB a.2 k) (hd:QB d.1 j/\QB d.2 j) (hM:20*n+2*k+2*j+14<=M):QB (zAK T R a d).1.1 M/\QB (zAK T R a d).1.2 M:=
 zIn (zPm hT hR ha hd) oP oP _ lr
end Go.Proofs.Wd

namespace Go.Proofs.Wd
open Tryz
set_option maxRecDepth 100000
set_option maxHeartbeats 1000000
open Go.RowKit Lb
section
variable {f g f' g':UF}
end
theorem zRn {m:Nat} {W:Wm} {u v:Wn} {p q:V2} (h1:(fPV m p).p u W) (h2:(fPV m q).p v W) (hm:m<=2000) (hm0:0<m) (hT:Tab W):Calls prog 85 #[u,v] W (Ret W (fI (zE8 p q)).tS):=by
 refine z5 [(fPV m p).tS,(fPV m q).tS] func85 rfl kI ⟨h1,h2,trivial⟩ fun a s=> ?_
 refine zVR ?_
 refine zB 0 [] hmix s kI
  zD fun a w1 s=> ?_
 refine yN (CU.agg (fPV m p)) rfl s kI (fun v W h=>qC h) fun b2 a w s=> ?_
 refine yN (CU.agg (fPV m q)) rfl s kI (fun v W h=>qC h) fun b3 a w s=> ?_
 refine yV (uI 0) rfl s kI iiz fun a w s=> ?_
 refine zA rfl ?_
 refine zVR ?_
 refine zVR ?_
 refine zB 6 ((6, .X (fPV m p) 0)::(7, .Z (fRV m ((p).1)))::(8, .X (fPV m q) 0)::(9, .Z (fRV m ((q).1)))::(10, .Z (uI (qsg (p).1 (q).1)))::(5, .u (uI (qsg (p).1 (q).1))):: []) hmix s kI
  (oc (zO (C:=cg (fPV m p)) 0 kI)<|oc (yH (C:=cg (fPV m p)) (k:=0) 3 kI (h:=zFg))<|oc (zO (C:=cg (fPV m q)) 0 kI)<|oc (yH (C:=cg (fPV m q)) (k:=0) 3 kI (h:=zFg))<|oc (zJ zE zGp (fun u0 u1 W hb (h0:RVp m ((p).1) u0 W) (h1:RVp m ((q).1) u1 W)=>zDe h0 h1 hm hm0 (hT.below (s.up hb))))<|oc zG<|zD) fun a w2 s=> ?_
 refine zA rfl ?_
 refine zVR ?_
 refine zB 2 ((11, .Z (uI (qsg (p).1 (q).1)))::(12, .u (uB (qsg (p).1 (q).1 !=0))):: []) hmix s kI
  (oc zC<|oc (zR .i64 (qsg (p).1 (q).1) 0 (qsg (p).1 (q).1 !=0) iiz iiz rfl rfl)<|zD) fun a w3 s=> ?_
 refine zA rfl ?_
 refine StS.cond s (qsg (p).1 (q).1 !=0) iiz (fun e=> ?_) (fun e=> ?_)
 ·refine zVR ?_
  replace s:=s.drop [4]
  refine zB 2 ((13, .Z (uI (qsg (p).1 (q).1)))::(4, .u (uI (qsg (p).1 (q).1))):: []) hmix s kI
   (oc zC<|oc zG<|zD) fun a w4 s=> ?_
  refine zA rfl ?_
  refine zVS ?_
  exact wH s (t:=4) rfl (fun v W h=>by rw [zSU e];exact h)
 ·refine zVT ?_
  refine zVR ?_
  replace s:=s.drop [4]
  refine zB 6 ((14, .X (fPV m p) 3)::(15, .Z (fRV m ((p).2)))::(16, .X (fPV m q) 3)::(17, .Z (fRV m ((q).2)))::(18, .Z (uI (qsg (p).2 (q).2)))::(4, .u (uI (qsg (p).2 (q).2))):: []) hmix s kI
   (oc (zO (C:=cg (fPV m p)) 3 kI)<|oc (yH (C:=cg (fPV m p)) (k:=3) 3 kI (h:=zFf))<|oc (zO (C:=cg (fPV m q)) 3 kI)<|oc (yH (C:=cg (fPV m q)) (k:=3) 3 kI (h:=zFf))<|oc (zJ zE zGp (fun u0 u1 W hb (h0:RVp m ((p).2) u0 W) (h1:RVp m ((q).2) u1 W)=>zDe h0 h1 hm hm0 (hT.below (s.up hb))))<|oc zG<|zD) fun a w5 s=> ?_
  refine zA rfl ?_
  refine zVS ?_
  exact wH s (t:=4) rfl (fun v W h=>by rw [zST e];exact h)
section
variable {F:Fence} {m:Nat} {P:Ws} {w0:Wm} {ops:Array Oper} {G:Nat->SF} {d:Tmp} {ty:Wp} {pos:String} {aft:Array Edge}
end
theorem zDD {S:Nat->Prop} {w0 w W:Wm} (h:BlS S w0 w) (hb:Below w.heap.size w W):BlS S w0 W:=⟨hb.os.trans h.os,hb.tape.trans h.tape,hb.output.trans h.output,zVZ h.size hb.size,fun k hk hs=>(hb.block k (zWJ hk h.size)).trans (h.block k hk hs)⟩
section
variable {f g f' g':UF} {m:Nat} {q:Rat}
end
end Go.Proofs.Wd

namespace Go.Proofs.Wd
open Tryz
set_option maxRecDepth 100000
set_option maxHeartbeats 1000000
open Go.RowKit Lb
theorem zUs (s:Bool) (A A':Wq Addr) (n n' c c':Nat) (s2:Bool) (B B':Wq Addr) (k k' d d':Nat):prog.built 79 [(0, .agg #[.bool s, .slice A n c, .slice A' n' c']),(1, .agg #[.bool s2, .slice B k d, .slice B' k' d'])]=some #[.bool s, .slice A n c, .slice A' n' c', .bool s2, .slice B k d, .slice B' k' d']:=by kernel_rfl
theorem zUt {f g:UF} {u v:Wn} {W:Wm} (hf:zPx f) (hg:zPx g) (hu:f.p u W) (hv:g.p v W): ∃cells,prog.built 79 [(0,u),(1,v)]=some cells/\(fPT f g).p (.agg cells) W:=by
 obtain ⟨s,A,n,c,A',n',c',rfl⟩:=hf _ _ hu
 obtain ⟨s2,B,k,d,B',k',d',rfl⟩:=hg _ _ hv
 exact ⟨_,zUs _ _ _ _ _ _ _ _ _ _ _ _ _ _,s,A,n,c,A',n',c',s2,B,k,d,B',k',d',rfl,hu,hv⟩
theorem zUq (s:Bool) (A A':Wq Addr) (n n' c c':Nat) (s2:Bool) (B B':Wq Addr) (k k' d d':Nat):prog.built 72 [(0, .agg #[.bool s, .slice A n c, .slice A' n' c']),(1, .agg #[.bool s2, .slice B k d, .slice B' k' d'])]=some #[.bool s, .slice A n c, .slice A' n' c', .bool s2, .slice B k d, .slice B' k' d']:=by kernel_rfl
theorem zVi {f g:UF} {u v:Wn} {W:Wm} (hf:zPx f) (hg:zPx g) (hu:f.p u W) (hv:g.p v W): ∃cells,prog.built 72 [(0,u),(1,v)]=some cells/\(fPT f g).p (.agg cells) W:=by
 obtain ⟨s,A,n,c,A',n',c',rfl⟩:=hf _ _ hu
 obtain ⟨s2,B,k,d,B',k',d',rfl⟩:=hg _ _ hv
 exact ⟨_,zUq _ _ _ _ _ _ _ _ _ _ _ _ _ _,s,A,n,c,A',n',c',s2,B,k,d,B',k',d',rfl,hu,hv⟩
theorem zSo {v:V2} {l:List V2} {k:Nat} (e:(decide (k=0)||decide (qsg (crz v (at_ l k)) (jI v l k)>0))=true):jI v l (k+1)=crz v (at_ l k):=if_pos e
theorem zSp {v:V2} {l:List V2} {k:Nat} (e:(decide (k=0)||decide (qsg (crz v (at_ l k)) (jI v l k)>0))=false):jI v l (k+1)=jI v l k:=if_neg (by rw [e];decide)
theorem zUi {S0 z:V2} (h:(z.2.num.sign==0)=true):zDT S0 z=(S0,decide (z.1.num.sign>0)):=if_pos (beq_iff_eq.1 h)
theorem zUl {S0 z:V2} (h0:(z.2.num.sign==0)=false) (h1:(decide (z.2.num.sign>0)&&decide (qsg (-z.1 / z.2) S0.1>0))=true):zDT S0 z=((-z.1 / z.2,S0.2),decide (qsg (-z.1 / z.2) S0.2<0)):=by
 unfold zDT;rw [if_neg (zWK.1 h0),if_pos h1]
theorem zUk {S0 z:V2} (h0:(z.2.num.sign==0)=false) (h1:(decide (z.2.num.sign>0)&&decide (qsg (-z.1 / z.2) S0.1>0))=false) (h2:(decide (z.2.num.sign<0)&&decide (qsg (-z.1 / z.2) S0.2<0))=true):zDT S0 z=((S0.1,-z.1 / z.2),decide (qsg S0.1 (-z.1 / z.2)<0)):=by
 unfold zDT;rw [if_neg (zWK.1 h0),if_neg (by rw [h1];decide),if_pos h2]
theorem zUj {S0 z:V2} (h0:(z.2.num.sign==0)=false) (h1:(decide (z.2.num.sign>0)&&decide (qsg (-z.1 / z.2) S0.1>0))=false) (h2:(decide (z.2.num.sign<0)&&decide (qsg (-z.1 / z.2) S0.2<0))=false):zDT S0 z=(S0,decide (qsg S0.1 S0.2<0)):=by
 unfold zDT;rw [if_neg (zWK.1 h0),if_neg (by rw [h1];decide),if_neg (by rw [h2];decide)]
section
variable {f g:UF}
theorem zKx {cs:List Wn} {W:Wm} (h:(CU.agg (fPT f g)).p cs W): ∃s A n c A' n' c' s2 B k d B' k' d',cs= [.bool s, .slice A n c, .slice A' n' c', .bool s2, .slice B k d, .slice B' k' d']/\f.p (.agg #[.bool s, .slice A n c, .slice A' n' c']) W/\g.p (.agg #[.bool s2, .slice B k d, .slice B' k' d']) W:=by
 obtain ⟨s,A,n,c,A',n',c',s2,B,k,d,B',k',d',e,g1,g2⟩:=h
 have r1:cs=_:=zWi Array.toList (jJ e)
 subst r1
 exact ⟨s,A,n,c,A',n',c',s2,B,k,d,B',k',d',rfl,g1,g2⟩
theorem zTj {q:Rat} (v:Wn) (W:Wm) (h:(fQN q).p v W):v.cells.size=3/\(∀u,u∈v.cells.toList->u.oneCell'=true)/\v.cells.toList.all zY=true/\ ∀cs,(CU.agg (fPT f g)).p cs W->0+3<=cs.length/\(CU.agg (fPT (fQN q) g)).p (jW cs 0 v.cells.toList) W:=by
 obtain ⟨sg,X,x1,x2,X',x3,x4,rfl⟩:=zAz q _ _ h
 refine ⟨rfl,fun u hu=>zCf u hu,rfl,fun cs hc=> ?_⟩
 obtain ⟨s,A,n,c,A',n',c',s2,B,k,d,B',k',d',rfl,g1,g2⟩:=zKx hc
 exact ⟨by simp,_,_,_,_,_,_,_,_,_,_,_,_,_,_,rfl,h,g2⟩
theorem zTi {q:Rat} (v:Wn) (W:Wm) (h:(fQN q).p v W):v.cells.size=3/\(∀u,u∈v.cells.toList->u.oneCell'=true)/\v.cells.toList.all zY=true/\ ∀cs,(CU.agg (fPT f g)).p cs W->3+3<=cs.length/\(CU.agg (fPT f (fQN q))).p (jW cs 3 v.cells.toList) W:=by
 obtain ⟨sg,X,x1,x2,X',x3,x4,rfl⟩:=zAz q _ _ h
 refine ⟨rfl,fun u hu=>zCf u hu,rfl,fun cs hc=> ?_⟩
 obtain ⟨s,A,n,c,A',n',c',s2,B,k,d,B',k',d',rfl,g1,g2⟩:=zKx hc
 exact ⟨by simp,_,_,_,_,_,_,_,_,_,_,_,_,_,_,rfl,g1,h⟩
theorem zM9 {W w:Wm} {b:Nat} {cs:List Wn} {te:Wp} {z:Nat×Nat} (hT:Tab W) (hh:W.heap[b]?=some (.cells cs.toArray te z)) (hc:(CU.agg (fPT f g)).p cs W) (h:BlS (fun q=>q=b) W w):Tab w:=fun j hj=>by
 have hne:0≠b:=fun e=>by
  have h0:=hT 0 dB
  obtain ⟨s,A,n,c,A',n',c',s2,B,k,d,B',k',d',rfl,_⟩:=zKx hc
  subst e
  unfold World.cell? at h0
  simp only [hh] at h0
  simp at h0
 have hlt:=z4 (hT j hj)
 exact (World.cell?_of_block (h.block _ hlt hne)).trans (hT j hj)
end
theorem zOy {W:Wm}:Calls prog 66 #[] W (Ret W (fPN (((0:Int):Rat),((0:Int):Rat))).tS):=by
 refine z5 [] func66 rfl kI trivial fun a s=> ?_
 refine zVR ?_
 refine zB 0 [] hmix s kI
  zD fun a w1 s=> ?_
 refine zU (CU.len 6) (cs:=zP6) kI rfl s kI (fun W=>rfl) rfl fun b0 a w s=> ?_
 refine zA rfl ?_
 refine zVR ?_
 refine zB 3 ((1, .Z (fQN ((0:Int):Rat)))::(2, .Z (fQN ((0:Int):Rat)))::(3, .u (fPN (((0:Int):Rat),((0:Int):Rat)))):: []) hmix s kI
  (oc (zH zE zHo (fun u0 W hb (h0:u0= .int .i64 0)=>zHN 0 h0 dB))<|oc (zH zE zHo (fun u0 W hb (h0:u0= .int .i64 0)=>zHN 0 h0 dB))<|oc (yY (fun u v W (hu:QNp ((0:Int):Rat) u W) (hv:QNp ((0:Int):Rat) v W)=>zUt (zAz _) (zAz _) hu hv))<|zD) fun a w2 s=> ?_
 refine zN (CU.agg (fPN (((0:Int):Rat),((0:Int):Rat)))) ((fPN (((0:Int):Rat),((0:Int):Rat))).tS) rfl s kI rfl rfl rfl iiz iiz qK fun a w s=> ?_
 refine zA rfl ?_
 refine zVS ?_
 exact wJ s (CU.agg (fPN (((0:Int):Rat),((0:Int):Rat)))) rfl kI rfl rfl (zX _ _) (fun cs W h=>h)
theorem zOv {W:Wm} {u l:Wn} {q:V2} {ps:List V2} (h1:(fPV 11 q).p u W) (hl:(SF.row 6 (pvs 5 ps)).p l W) (hn:ps.length<=1000000) (hT:Tab W):Calls prog 65 #[u,l] W (Ret W (zAu (fRV 33 (jI q ps ps.length)) (fB (decide (0<ps.length)))).tS):=by
 have hq:=zA7 dB h1
 have hps:=zCP dB hl
 refine z5 [(fPV 11 q).tS,(UF.eq l).tS] func65 rfl kI ⟨h1,rfl,trivial⟩ fun a s=> ?_
 replace s:=s.renew [(0, .u (fPV 11 q)),(1, .u (UF.eq l))] (fmz ⟨.inr ⟨_,rfl, .head _⟩,fmz ⟨.inr ⟨_,rfl,mz1⟩,fnz⟩⟩)
 refine zVR ?_
 refine zB 0 [] hmix s kI
  zD fun a w1 s=> ?_
 refine yN (CU.agg (fPV 11 q)) rfl s kI (fun v W h=>qC h) fun b2 a w s=> ?_
 refine zU (CU.agg (fRV 33 (jI q ps 0))) (cs:=zR3) kI rfl s kI (fun W=>zPW 33 W) rfl fun b4 a w s=> ?_
 refine yV (uB false) rfl s kI iiz fun a w s=> ?_
 refine zA rfl ?_
 refine zVR ?_
 refine zVR ?_
 refine zB 3 ((9, .u (UF.eq l))::(10, .u (uI ((pvs 5 ps).length:Int)))::(11, .u (uI 0)):: []) hmix s kI
  (oc zC<|oc (jC (z:=6) (Cs:=pvs 5 ps) kI (fun v W hb h=>(yK hl h (s.up hb))) (fun _=>rfl))<|oc zC<|zD) fun a w2 s=> ?_
 refine zA rfl ?_
 refine zVV ?_
 refine zDa 4 (fun k=>CU.agg (fRV 33 (jI q ps k))) (fun k=>k<=ps.length) (fun k=> [(1, .u (UF.eq l)),(9, .u (UF.eq l)),(10, .u (uI ((pvs 5 ps).length:Int))),(11, .u (uI ((k:Nat):Int)))]) (fun k=>ps.length - k) (0:Nat) (zV5 _) (s.keepK _ (fmz ⟨mz5,fmz ⟨.head _,fmz ⟨mz1,fmz ⟨mz2,fnz⟩⟩⟩⟩)) rfl fun k a w hx s=> ?_
 have hlz:(pvs 5 ps).length=ps.length:=by simp
 refine zVR ?_
 refine zB 1 ((12, .u (uB (decide ((k:Int)<((pvs 5 ps).length:Int))))):: []) hmix s kI
  (oc (zR .i64 (k:Int) ((pvs 5 ps).length:Int) (decide ((k:Int)<((pvs 5 ps).length:Int))) iiz iiz rfl rfl)<|zD) fun a w3 s=> ?_
 refine zA rfl ?_
 refine zVR ?_
 refine StS.cond s (decide ((k:Int)<((pvs 5 ps).length:Int))) iiz (fun e=> ?_) (fun e=> ?_)
 ·have hk:k<ps.length:=by have h7:=zVW e;rw [hlz] at h7;omega
  refine zVT ?_
  refine zVR ?_
  refine zVV ?_
  refine zVR ?_
  refine zB 3 ((13, .u (uI (k:Int)))::(14, .Y (fPV 5 (at_ ps k)))::(15, .u (fPV 5 (at_ ps k))):: []) hmix s kI
   (oc zC<|oc (yP (z:=6) (Cs:=pvs 5 ps) (i:=k) (C:=CU.agg (fPV 5 (at_ ps k))) kI (jA hk) (fun v W hb h=>(yK hl h (s.up hb))) iiz)<|oc (zI (f:=fPV 5 (at_ ps k)) 6 kI (hz:=zX _ _))<|zD) fun a w4 s=> ?_
  refine zU (CU.len 6) (cs:=zP6) kI rfl s kI (fun W=>rfl) rfl fun b7 a w s=> ?_
  refine yV (uI (k:Int)) rfl s kI iiz fun a w s=> ?_
  refine zN (CU.agg (fPV 5 (at_ ps k))) ((fPV 5 (at_ ps k)).tS) rfl s kI rfl rfl rfl iiz iiz qK fun a w s=> ?_
  refine zA rfl ?_
  refine zVR ?_
  refine zB 3 ((16, .Z (fPV 11 q))::(17, .Z (fPV 5 (at_ ps k)))::(18, .u (fRV 33 (crz q (at_ ps k)))):: []) hmix s kI
   (oc (zI (f:=fPV 11 q) 6 kI (hz:=zX _ _))<|oc (zI (f:=fPV 5 (at_ ps k)) 6 kI (hz:=zX _ _))<|oc (zJ zE zMk (fun u0 u1 W hb (h0:(fPV 11 q).p u0 W) (h1:(fPV 5 (at_ ps k)).p u1 W)=>(zC6 (m:=11) (p:=q) (q:=at_ ps k) h0 (jB (m':=11) dB h1) (zA7 dB h0) (zA7 dB (jB (m':=11) dB h1)) dB dB (hT.below (s.up hb))).mono (wI (fun v W h=>wD (q:=crz q (at_ ps k)) h ((zA5 hq (hps _ (qV hk))).mono dB)))))<|zD) fun a w5 s=> ?_
  refine zU (CU.len 3) (cs:=zR3) kI rfl s kI (fun W=>rfl) rfl fun b8 a w s=> ?_
  refine zN (CU.agg (fRV 33 (crz q (at_ ps k)))) ((fRV 33 (crz q (at_ ps k))).tS) rfl s kI rfl rfl rfl iiz iiz zBs fun a w s=> ?_
  refine zA rfl ?_
  refine zVR ?_
  refine zB 8 ((19, .Z (uI (k:Int)))::(20, .Z (uB (decide (k=0))))::(21, .Z (uB (decide (k=0))))::(22, .s (SF.imp ((decide (k=0))=false) ((fRV 33 (crz q (at_ ps k))).tS)))::(23, .s (SF.imp ((decide (k=0))=false) ((fRV 33 (jI q ps k)).tS)))::(24, .s (SF.imp ((decide (k=0))=false) ((uI (qsg (crz q (at_ ps k)) (jI q ps k))).tS)))::(25, .s (SF.imp ((decide (k=0))=false) ((uB (decide (qsg (crz q (at_ ps k)) (jI q ps k)>0))).tS)))::(26, .u (uB ((decide (k=0))||(decide (qsg (crz q (at_ ps k)) (jI q ps k)>0))))):: []) hmix s kI
   (oc zC<|oc (zR .i64 (k:Int) 0 (decide (k=0)) iiz iiz (by rw [Bool.eq_iff_iff,beq_iff_eq,decide_eq_true_iff];omega) rfl)<|oc zC<|oc (zF 21 (decide (k=0)) kI iiz (fun e=>yG [] ((fRV 33 (crz q (at_ ps k))).tS) fnz fO kI (zI (f:=fRV 33 (crz q (at_ ps k))) 3 kI (hz:=yW _ _))) fN)<|oc (zF 21 (decide (k=0)) kI iiz (fun e=>yG [] ((fRV 33 (jI q ps k)).tS) fnz fO kI (zI (f:=fRV 33 (jI q ps k)) 3 kI (hz:=yW _ _))) fN)<|oc (zF 21 (decide (k=0)) kI iiz (fun e=>yG [(22,(fRV 33 (crz q (at_ ps k))).tS),(23,(fRV 33 (jI q ps k)).tS)] ((uI (qsg (crz q (at_ ps k)) (jI q ps k))).tS) (fmz ⟨fun v W h=>zT (c:=(decide (k=0))=false) (f:=(fRV 33 (crz q (at_ ps k))).tS) e h,fmz ⟨fun v W h=>zT (c:=(decide (k=0))=false) (f:=(fRV 33 (jI q ps k)).tS) e h,fnz⟩⟩) fO kI (zJ zE zGp (fun u0 u1 W hb (h0:RVp 33 (crz q (at_ ps k)) u0 W) (h1:RVp 33 (jI q ps k) u1 W)=>zDe (m:=33) h0 h1 dB dB (hT.below (s.up hb))))) fN)<|oc (zF 21 (decide (k=0)) kI iiz (fun e=>yG [(24,(uI (qsg (crz q (at_ ps k)) (jI q ps k))).tS)] ((uB (decide (qsg (crz q (at_ ps k)) (jI q ps k)>0))).tS) (fmz ⟨fun v W h=>zT (c:=(decide (k=0))=false) (f:=(uI (qsg (crz q (at_ ps k)) (jI q ps k))).tS) e h,fnz⟩) fO kI (zR .i64 (qsg (crz q (at_ ps k)) (jI q ps k)) 0 (decide (qsg (crz q (at_ ps k)) (jI q ps k)>0)) iiz iiz rfl rfl)) fN)<|oc (yM (decide (k=0)) iiz (fun e v W h=>zBc h e) (fun e v W h=>zAs (zT e h) e))<|zD) fun a w6 s=> ?_
  refine zA rfl ?_
  refine StS.cond s ((decide (k=0))||(decide (qsg (crz q (at_ ps k)) (jI q ps k)>0))) iiz (fun e=> ?_) (fun e=> ?_)
  ·refine zB 1 ((27, .u (fRV 33 (crz q (at_ ps k)))):: []) hmix s kI
    (oc (zI (f:=fRV 33 (crz q (at_ ps k))) 3 kI (hz:=yW _ _))<|zD) fun a w7 s=> ?_
   refine zN (CU.agg (fRV 33 (crz q (at_ ps k)))) ((fRV 33 (crz q (at_ ps k))).tS) rfl s kI rfl rfl rfl (yW _ _) iiz zBs fun a w s=> ?_
   refine zA rfl ?_
   refine zZ 1 ((28, .u (uI ((k+1:Nat):Int))):: []) s kI
    (oc (yR .i64 (k:Int) 1 ((k+1:Nat):Int) iiz iiz (wrap64 _ _ oP oP))<|zD) fun a w8 s=> ?_
   replace s:=s.drop [11]
   refine zCD (uI ((k+1:Nat):Int)) rfl s kI zC kI fun a w s=> ?_
   refine zA rfl ?_
   rw [<-zSo e] at s
   replace s:=s.popB
   replace s:=s.popB
   exact ⟨k+1,hk,(by show ps.length - (k+1)<ps.length - k;omega),s.keepK _ (fmz ⟨mz9,fmz ⟨zD8,fmz ⟨zH8,fmz ⟨.head _,fnz⟩⟩⟩⟩)⟩
  ·refine zVT ?_
   refine zZ 1 ((28, .u (uI ((k+1:Nat):Int))):: []) s kI
    (oc (yR .i64 (k:Int) 1 ((k+1:Nat):Int) iiz iiz (wrap64 _ _ oP oP))<|zD) fun a w9 s=> ?_
   replace s:=s.drop [11]
   refine zCD (uI ((k+1:Nat):Int)) rfl s kI zC kI fun a w s=> ?_
   refine zA rfl ?_
   rw [<-zSp e] at s
   replace s:=s.popB
   replace s:=s.popB
   exact ⟨k+1,hk,(by show ps.length - (k+1)<ps.length - k;omega),s.keepK _ (fmz ⟨mz8,fmz ⟨mz9,fmz ⟨zD8,fmz ⟨.head _,fnz⟩⟩⟩⟩)⟩
 ·have hkN:k=ps.length:=by have h7:=zVY e;rw [hlz] at h7;omega
  subst hkN
  refine zV2 ?_
  refine zVR ?_
  refine zB 4 ((29, .u (fRV 33 (jI q ps (ps.length))))::(30, .Z (UF.eq l))::(31, .Z (uI ((pvs 5 ps).length:Int)))::(32, .u (uB (decide (0<ps.length)))):: []) hmix s kI
   (oc (zI (f:=fRV 33 (jI q ps (ps.length))) 3 kI (hz:=yW _ _))<|oc zC<|oc (jC (z:=6) (Cs:=pvs 5 ps) kI (fun v W hb h=>(yK hl h (s.up hb))) (fun _=>rfl))<|oc (zR .i64 ((pvs 5 ps).length:Int) 0 (decide (0<ps.length)) iiz iiz (by show decide (_>_)=_;rw [zWv,zWg];omega) rfl)<|zD) fun a w10 s=> ?_
  refine zN (CU.agg (fRV 33 (jI q ps (ps.length)))) ((fRV 33 (jI q ps (ps.length))).tS) rfl s kI rfl rfl rfl (yW _ _) iiz zBs fun a w s=> ?_
  refine yV (uB (decide (0<ps.length))) rfl s kI iiz fun a w s=> ?_
  refine zA rfl ?_
  refine zVS ?_
  exact wQ s (CU.agg (fRV 33 (jI q ps (ps.length)))) rfl kI rfl rfl (yW _ _) (fun cs v W h1 h2=>⟨_,_,rfl,h1,h2⟩)
theorem zSW {b:Nat} {W:Wm} {v:Wn} {S0 z:V2} {cs:List Wn} (hh:W.heap[b]?=some (.cells cs.toArray 72 (0,0))) (hc:(CU.agg (fPN S0)).p cs W) (hS:QB S0.1 430/\QB S0.2 430) (h1:(fPV 213 z).p v W) (hT:Tab W):Calls prog 42 #[pO b 0,v] W (zKb W b 72 (CU.agg (fPN (zDT S0 z).1)) (fB (zDT S0 z).2).tS):=by
 have hTb: ∀w,BlS (fun q=>q=b) W w->Tab w:=fun w h=>zM9 hT hh hc h
 have hz:=zA7 dB h1
 have hqx:QB (-z.1 / z.2) 430:=(hz.1.neg.div hz.2).mono dB
 refine zEJ b [(0,UF.eq (pO b 0)),(1,fPV 213 z)] [⟨0,72,CU.agg (fPN S0),b,false⟩] func42 rfl kI (fun x hx=>by simp at hx;rcases hx with rfl|rfl;exact ⟨by simp,rfl⟩;exact ⟨by simp,h1⟩) ⟨⟨cs,rfl, .inr (.inr rfl),hh,hc,(zCM _ _ cs W hc).2.1,fun y hy=>by cases hy⟩,trivial⟩ (fun x hx=>by simp at hx;subst hx;simp) fun a s=> ?_
 refine zVR ?_
 refine zB 0 [] hmix s kI
  zD fun a w1 s=> ?_
 refine yN (CU.agg (fPV 213 z)) rfl s kI (fun v W h=>qC h) fun b3 a w s=> ?_
 refine yV (uB false) rfl s kI iiz fun a w s=> ?_
 refine zA rfl ?_
 refine zVR ?_
 refine zB 4 ((8, .X (fPV 213 z) 3)::(9, .Z (fRV 213 ((z).2)))::(10, .Z (uI (z.2.num.sign)))::(5, .u (uI (z.2.num.sign))):: []) hmix s kI
  (oc (zO (C:=cg (fPV 213 z)) 3 kI)<|oc (yH (C:=cg (fPV 213 z)) (k:=3) 3 kI (h:=zFf))<|oc (zH zE zQW (fun u0 W hb (h0:RVp 213 ((z).2) u0 W)=>zHS (m:=213) h0 dB dB (hTb _ (zDD s.gr hb))))<|oc zG<|zD) fun a w2 s=> ?_
 refine zA rfl ?_
 refine zVR ?_
 refine zVR ?_
 refine zB 2 ((11, .Z (uI (z.2.num.sign)))::(12, .u (uB (z.2.num.sign==0))):: []) hmix s kI
  (oc zC<|oc (zR .i64 (z.2.num.sign) 0 (z.2.num.sign==0) iiz iiz rfl rfl)<|zD) fun a w3 s=> ?_
 refine zA rfl ?_
 refine StS.cond s (z.2.num.sign==0) iiz (fun e=> ?_) (fun e=> ?_)
 ·have e0:=e
  refine zVR ?_
  replace s:=s.drop [4]
  refine zB 5 ((13, .X (fPV 213 z) 0)::(14, .Z (fRV 213 ((z).1)))::(15, .Z (uI (z.1.num.sign)))::(16, .Z (uB (decide (z.1.num.sign>0))))::(4, .u (uB (decide (z.1.num.sign>0)))):: []) hmix s kI
   (oc (zO (C:=cg (fPV 213 z)) 0 kI)<|oc (yH (C:=cg (fPV 213 z)) (k:=0) 3 kI (h:=zFg))<|oc (zH zE zQW (fun u0 W hb (h0:RVp 213 ((z).1) u0 W)=>zHS (m:=213) h0 dB dB (hTb _ (zDD s.gr hb))))<|oc (zR .i64 (z.1.num.sign) 0 (decide (z.1.num.sign>0)) iiz iiz rfl rfl)<|oc zG<|zD) fun a w4 s=> ?_
  refine zA rfl ?_
  refine zVS ?_
  rw [zUi e0]
  exact wU s (c:=0) (t:=4) rfl rfl rfl rfl (fun v W h=>h)
 ·have e0:=e
  refine zVT ?_
  refine zVR ?_
  have so:=s.old;have sg:=s.gr
  refine jT (fun i=> [8].contains i) [⟨9,6,29, [.bool false, .slice none 0 0, .slice none 0 0],wF w3 29 (CU.len 3)⟩] 10 ((18, .X (fPV 213 z) 0)::(19, .Z (fRV 213 ((z).1)))::(20, .Z (fQN (-z.1)))::(21, .X (fPV 213 z) 3)::(22, .Z (fRV 213 ((z).2)))::(23, .Z (zAu (fQN (-z.1 / z.2)) (uI (if z.2=0 then 30 else 0))))::(17, .Z (zAu (fQN (-z.1 / z.2)) (uI (if z.2=0 then 30 else 0))))::(24, .u (fQN (-z.1 / z.2)))::(25, .u (uI (if z.2=0 then 30 else 0)))::(6, .s (wF w3 29 (CU.len 3))):: []) hmix s (fmz ⟨⟨by show 9<10;decide,mz9,⟨_,_,_,rfl⟩,by kernel_rfl,qT (fun _=>rfl) rfl⟩,fnz⟩) kI
   (oc (zO (C:=cg (fPV 213 z)) 0 kI)<|oc (yH (C:=cg (fPV 213 z)) (k:=0) 3 kI (h:=zFg))<|oc (zH zE zQX (fun u0 W hb (h0:RVp 213 ((z).1) u0 W)=>zKW (m:=213) h0 dB dB (hTb _ (zDD s.gr hb))))<|oc (zO (C:=cg (fPV 213 z)) 3 kI)<|oc (yH (C:=cg (fPV 213 z)) (k:=3) 3 kI (h:=zFf))<|oc (zJ zE zTU (fun u0 u1 W hb (h0:QNp (-z.1) u0 W) (h1:RVp 213 ((z).2) u1 W)=>zRO (m:=213) (wD h0 hz.1.neg) h1 dB dB (hTb _ (zDD s.gr hb))))<|oc zC<|oc (zA1 (A:=(fQN (-z.1 / z.2)).tS) (B:=(uI (if z.2=0 then 30 else 0)).tS) iiz)<|oc (zA0 (A:=(fQN (-z.1 / z.2)).tS) (B:=(uI (if z.2=0 then 30 else 0)).tS) iiz)<|oc (zAi (cs:=zR3) kI (qT (fun _=>rfl) rfl))<|zD) fun Q' hQ a w5 s hr hd=> ?_
  obtain ⟨b6,hB6,e6,s⟩:=s.adoptA false 6 (hr (_,_) mz9) sg (fun y hy=> .inl (so y hy))
  refine zN (CU.agg (fQN (-z.1 / z.2))) ((fQN (-z.1 / z.2)).tS) rfl s kI rfl rfl rfl iiz iiz zV fun a w s=> ?_
  refine yV (uI (if z.2=0 then 30 else 0)) rfl s kI iiz fun a w s=> ?_
  refine zA rfl (hQ _ _ ?_)
  refine zVR ?_
  refine zVV ?_
  refine zVR ?_
  refine zB 12 ((27, .Z (uI (z.2.num.sign)))::(28, .Z (uB (decide (z.2.num.sign>0))))::(29, .Z (uB (decide (z.2.num.sign>0))))::(30, .s (SF.imp ((decide (z.2.num.sign>0))=true) ((fQN (-z.1 / z.2)).tS)))::(31, .s (SF.imp ((decide (z.2.num.sign>0))=true) (wE b (cg (fPN S0)))))::(32, .s (SF.imp ((decide (z.2.num.sign>0))=true) (wB (cg (fPN S0)))))::(33, .s (SF.imp ((decide (z.2.num.sign>0))=true) (wB ((CU.agg (fPN S0)).cf.at 0))))::(34, .s (SF.imp ((decide (z.2.num.sign>0))=true) ((fQN (S0.1)).tS)))::(35, .s (SF.imp ((decide (z.2.num.sign>0))=true) ((uI (qsg (-z.1 / z.2) S0.1)).tS)))::(36, .s (SF.imp ((decide (z.2.num.sign>0))=true) ((uB (decide (qsg (-z.1 / z.2) S0.1>0))).tS)))::(37, .Z (uB ((decide (z.2.num.sign>0))&&(decide (qsg (-z.1 / z.2) S0.1>0)))))::(26, .u (uB ((decide (z.2.num.sign>0))&&(decide (qsg (-z.1 / z.2) S0.1>0))))):: []) hmix s kI
   (oc zC<|oc (zR .i64 (z.2.num.sign) 0 (decide (z.2.num.sign>0)) iiz iiz rfl rfl)<|oc zC<|oc (zF 29 (decide (z.2.num.sign>0)) kI iiz (fun e=>yG [] ((fQN (-z.1 / z.2)).tS) fnz fO kI (zI (f:=fQN (-z.1 / z.2)) 3 kI (hz:=yO _))) fN)<|oc (zF 29 (decide (z.2.num.sign>0)) kI iiz (fun e=>yG [] (wE b (cg (fPN S0))) fnz fO kI zC) fN)<|oc (zF 29 (decide (z.2.num.sign>0)) kI iiz (fun e=>yG [(31,wE b (cg (fPN S0)))] (wB (cg (fPN S0))) (fmz ⟨fun v W h=>zT (c:=(decide (z.2.num.sign>0))=true) (f:=wE b (cg (fPN S0))) e h,fnz⟩) fO kI (qN (C:=cg (fPN S0)))) fN)<|oc (zF 29 (decide (z.2.num.sign>0)) kI iiz (fun e=>yG [(32,wB (cg (fPN S0)))] (wB ((CU.agg (fPN S0)).cf.at 0)) (fmz ⟨fun v W h=>zT (c:=(decide (z.2.num.sign>0))=true) (f:=wB (cg (fPN S0))) e h,fnz⟩) fO kI (zO (C:=cg (fPN S0)) 0 kI)) fN)<|oc (zF 29 (decide (z.2.num.sign>0)) kI iiz (fun e=>yG [(33,wB ((CU.agg (fPN S0)).cf.at 0))] ((fQN (S0.1)).tS) (fmz ⟨fun v W h=>zT (c:=(decide (z.2.num.sign>0))=true) (f:=wB ((CU.agg (fPN S0)).cf.at 0)) e h,fnz⟩) fO kI (yH (C:=cg (fPN S0)) (k:=0) 3 kI (h:=zFg))) fN)<|oc (zF 29 (decide (z.2.num.sign>0)) kI iiz (fun e=>yG [(30,(fQN (-z.1 / z.2)).tS),(34,(fQN (S0.1)).tS)] ((uI (qsg (-z.1 / z.2) S0.1)).tS) (fmz ⟨fun v W h=>zT (c:=(decide (z.2.num.sign>0))=true) (f:=(fQN (-z.1 / z.2)).tS) e h,fmz ⟨fun v W h=>zT (c:=(decide (z.2.num.sign>0))=true) (f:=(fQN (S0.1)).tS) e h,fnz⟩⟩) fO kI (zJ zE zGp (fun u0 u1 W hb (h0:QNp (-z.1 / z.2) u0 W) (h1:QNp (S0.1) u1 W)=>zDe (m:=430) (wD h0 hqx) (wD h1 hS.1) dB dB (hTb _ (zDD s.gr hb))))) fN)<|oc (zF 29 (decide (z.2.num.sign>0)) kI iiz (fun e=>yG [(35,(uI (qsg (-z.1 / z.2) S0.1)).tS)] ((uB (decide (qsg (-z.1 / z.2) S0.1>0))).tS) (fmz ⟨fun v W h=>zT (c:=(decide (z.2.num.sign>0))=true) (f:=(uI (qsg (-z.1 / z.2) S0.1)).tS) e h,fnz⟩) fO kI (zR .i64 (qsg (-z.1 / z.2) S0.1) 0 (decide (qsg (-z.1 / z.2) S0.1>0)) iiz iiz rfl rfl)) fN)<|oc (yM (decide (z.2.num.sign>0)) iiz (fun e v W h=>zBJ (zT e h) e) (fun e v W h=>zBi h e))<|oc zG<|zD) fun a w6 s=> ?_
  refine zA rfl ?_
  refine StS.cond s ((decide (z.2.num.sign>0))&&(decide (qsg (-z.1 / z.2) S0.1>0))) iiz (fun e=> ?_) (fun e=> ?_)
  ·have e1:=e
   refine zB 4 ((38, .Z (UF.eq (pO b 0)))::(39, .u (fQN (-z.1 / z.2)))::(40, .Z (UF.eq (pO b 0)))::(41, .u (UF.eq (pO b 0))):: []) hmix s kI
    (oc (zC (fun _ _ _ h=>h.1))<|oc (zI (f:=fQN (-z.1 / z.2)) 3 kI (hz:=yO _))<|oc (zBd (a:=⟨b,0,none⟩) iiz)<|oc (jM (b:=b) (o:=0) 0 kI iiz)<|zD) fun a w7 s=> ?_
   refine q9 (c:=0) (o:=0) (kk:=3) (CU.agg (fPN (((-z.1 / z.2),S0.2):V2))) ((fQN (-z.1 / z.2)).tS) rfl s kI rfl rfl iiz iiz zTj fun a w s=> ?_
   refine zA rfl ?_
   refine zVR ?_
   replace s:=s.drop [4]
   refine zB 11 ((58, .s (wE b (cg (fPN (((-z.1 / z.2),S0.2):V2)))))::(59, .Y (fPN (((-z.1 / z.2),S0.2):V2)))::(60, .X (fPN (((-z.1 / z.2),S0.2):V2)) 0)::(61, .Z (fQN (-z.1 / z.2)))::(62, .s (wE b (cg (fPN (((-z.1 / z.2),S0.2):V2)))))::(63, .Y (fPN (((-z.1 / z.2),S0.2):V2)))::(64, .X (fPN (((-z.1 / z.2),S0.2):V2)) 3)::(65, .Z (fQN (S0.2)))::(66, .Z (uI (qsg (-z.1 / z.2) S0.2)))::(67, .Z (uB (decide (qsg (-z.1 / z.2) S0.2<0))))::(4, .u (uB (decide (qsg (-z.1 / z.2) S0.2<0)))):: []) hmix s kI
    (oc zC<|oc (qN (C:=cg (fPN (((-z.1 / z.2),S0.2):V2))))<|oc (zO (C:=cg (fPN (((-z.1 / z.2),S0.2):V2))) 0 kI)<|oc (yH (C:=cg (fPN (((-z.1 / z.2),S0.2):V2))) (k:=0) 3 kI (h:=zFg))<|oc zC<|oc (qN (C:=cg (fPN (((-z.1 / z.2),S0.2):V2))))<|oc (zO (C:=cg (fPN (((-z.1 / z.2),S0.2):V2))) 3 kI)<|oc (yH (C:=cg (fPN (((-z.1 / z.2),S0.2):V2))) (k:=3) 3 kI (h:=zFf))<|oc (zJ zE zGp (fun u0 u1 W hb (h0:QNp (-z.1 / z.2) u0 W) (h1:QNp (S0.2) u1 W)=>zDe (m:=430) (wD h0 hqx) (wD h1 hS.2) dB dB (hTb _ (zDD s.gr hb))))<|oc (zR .i64 (qsg (-z.1 / z.2) S0.2) 0 (decide (qsg (-z.1 / z.2) S0.2<0)) iiz iiz rfl rfl)<|oc zG<|zD) fun a w8 s=> ?_
   refine zA rfl ?_
   refine zVS ?_
   rw [zUl e0 e1]
   exact wU s (c:=0) (t:=4) rfl rfl rfl rfl (fun v W h=>h)
  ·have e1:=e
   refine zVR ?_
   refine zB 12 ((43, .Z (uI (z.2.num.sign)))::(44, .Z (uB (decide (z.2.num.sign<0))))::(45, .Z (uB (decide (z.2.num.sign<0))))::(46, .s (SF.imp ((decide (z.2.num.sign<0))=true) ((fQN (-z.1 / z.2)).tS)))::(47, .s (SF.imp ((decide (z.2.num.sign<0))=true) (wE b (cg (fPN S0)))))::(48, .s (SF.imp ((decide (z.2.num.sign<0))=true) (wB (cg (fPN S0)))))::(49, .s (SF.imp ((decide (z.2.num.sign<0))=true) (wB ((CU.agg (fPN S0)).cf.at 3))))::(50, .s (SF.imp ((decide (z.2.num.sign<0))=true) ((fQN (S0.2)).tS)))::(51, .s (SF.imp ((decide (z.2.num.sign<0))=true) ((uI (qsg (-z.1 / z.2) S0.2)).tS)))::(52, .s (SF.imp ((decide (z.2.num.sign<0))=true) ((uB (decide (qsg (-z.1 / z.2) S0.2<0))).tS)))::(53, .Z (uB ((decide (z.2.num.sign<0))&&(decide (qsg (-z.1 / z.2) S0.2<0)))))::(42, .u (uB ((decide (z.2.num.sign<0))&&(decide (qsg (-z.1 / z.2) S0.2<0))))):: []) hmix s kI
    (oc zC<|oc (zR .i64 (z.2.num.sign) 0 (decide (z.2.num.sign<0)) iiz iiz rfl rfl)<|oc zC<|oc (zF 45 (decide (z.2.num.sign<0)) kI iiz (fun e=>yG [] ((fQN (-z.1 / z.2)).tS) fnz fO kI (zI (f:=fQN (-z.1 / z.2)) 3 kI (hz:=yO _))) fN)<|oc (zF 45 (decide (z.2.num.sign<0)) kI iiz (fun e=>yG [] (wE b (cg (fPN S0))) fnz fO kI zC) fN)<|oc (zF 45 (decide (z.2.num.sign<0)) kI iiz (fun e=>yG [(47,wE b (cg (fPN S0)))] (wB (cg (fPN S0))) (fmz ⟨fun v W h=>zT (c:=(decide (z.2.num.sign<0))=true) (f:=wE b (cg (fPN S0))) e h,fnz⟩) fO kI (qN (C:=cg (fPN S0)))) fN)<|oc (zF 45 (decide (z.2.num.sign<0)) kI iiz (fun e=>yG [(48,wB (cg (fPN S0)))] (wB ((CU.agg (fPN S0)).cf.at 3)) (fmz ⟨fun v W h=>zT (c:=(decide (z.2.num.sign<0))=true) (f:=wB (cg (fPN S0))) e h,fnz⟩) fO kI (zO (C:=cg (fPN S0)) 3 kI)) fN)<|oc (zF 45 (decide (z.2.num.sign<0)) kI iiz (fun e=>yG [(49,wB ((CU.agg (fPN S0)).cf.at 3))] ((fQN (S0.2)).tS) (fmz ⟨fun v W h=>zT (c:=(decide (z.2.num.sign<0))=true) (f:=wB ((CU.agg (fPN S0)).cf.at 3)) e h,fnz⟩) fO kI (yH (C:=cg (fPN S0)) (k:=3) 3 kI (h:=zFf))) fN)<|oc (zF 45 (decide (z.2.num.sign<0)) kI iiz (fun e=>yG [(46,(fQN (-z.1 / z.2)).tS),(50,(fQN (S0.2)).tS)] ((uI (qsg (-z.1 / z.2) S0.2)).tS) (fmz ⟨fun v W h=>zT (c:=(decide (z.2.num.sign<0))=true) (f:=(fQN (-z.1 / z.2)).tS) e h,fmz ⟨fun v W h=>zT (c:=(decide (z.2.num.sign<0))=true) (f:=(fQN (S0.2)).tS) e h,fnz⟩⟩) fO kI (zJ zE zGp (fun u0 u1 W hb (h0:QNp (-z.1 / z.2) u0 W) (h1:QNp (S0.2) u1 W)=>zDe (m:=430) (wD h0 hqx) (wD h1 hS.2) dB dB (hTb _ (zDD s.gr hb))))) fN)<|oc (zF 45 (decide (z.2.num.sign<0)) kI iiz (fun e=>yG [(51,(uI (qsg (-z.1 / z.2) S0.2)).tS)] ((uB (decide (qsg (-z.1 / z.2) S0.2<0))).tS) (fmz ⟨fun v W h=>zT (c:=(decide (z.2.num.sign<0))=true) (f:=(uI (qsg (-z.1 / z.2) S0.2)).tS) e h,fnz⟩) fO kI (zR .i64 (qsg (-z.1 / z.2) S0.2) 0 (decide (qsg (-z.1 / z.2) S0.2<0)) iiz iiz rfl rfl)) fN)<|oc (yM (decide (z.2.num.sign<0)) iiz (fun e v W h=>zBJ (zT e h) e) (fun e v W h=>zBi h e))<|oc zG<|zD) fun a w9 s=> ?_
   refine zA rfl ?_
   refine StS.cond s ((decide (z.2.num.sign<0))&&(decide (qsg (-z.1 / z.2) S0.2<0))) iiz (fun e=> ?_) (fun e=> ?_)
   ·have e2:=e
    refine zB 4 ((54, .Z (UF.eq (pO b 0)))::(55, .u (fQN (-z.1 / z.2)))::(56, .Z (UF.eq (pO b 0)))::(57, .u (UF.eq (pO b 3))):: []) hmix s kI
     (oc (zC (fun _ _ _ h=>h.1))<|oc (zI (f:=fQN (-z.1 / z.2)) 3 kI (hz:=yO _))<|oc (zBd (a:=⟨b,0,none⟩) iiz)<|oc (jM (b:=b) (o:=0) 3 kI iiz)<|zD) fun a w10 s=> ?_
    refine q9 (c:=0) (o:=3) (kk:=3) (CU.agg (fPN ((S0.1,(-z.1 / z.2)):V2))) ((fQN (-z.1 / z.2)).tS) rfl s kI rfl rfl iiz iiz zTi fun a w s=> ?_
    refine zA rfl ?_
    refine zVR ?_
    replace s:=s.drop [4]
    refine zB 11 ((58, .s (wE b (cg (fPN ((S0.1,(-z.1 / z.2)):V2)))))::(59, .Y (fPN ((S0.1,(-z.1 / z.2)):V2)))::(60, .X (fPN ((S0.1,(-z.1 / z.2)):V2)) 0)::(61, .Z (fQN (S0.1)))::(62, .s (wE b (cg (fPN ((S0.1,(-z.1 / z.2)):V2)))))::(63, .Y (fPN ((S0.1,(-z.1 / z.2)):V2)))::(64, .X (fPN ((S0.1,(-z.1 / z.2)):V2)) 3)::(65, .Z (fQN (-z.1 / z.2)))::(66, .Z (uI (qsg S0.1 (-z.1 / z.2))))::(67, .Z (uB (decide (qsg S0.1 (-z.1 / z.2)<0))))::(4, .u (uB (decide (qsg S0.1 (-z.1 / z.2)<0)))):: []) hmix s kI
     (oc zC<|oc (qN (C:=cg (fPN ((S0.1,(-z.1 / z.2)):V2))))<|oc (zO (C:=cg (fPN ((S0.1,(-z.1 / z.2)):V2))) 0 kI)<|oc (yH (C:=cg (fPN ((S0.1,(-z.1 / z.2)):V2))) (k:=0) 3 kI (h:=zFg))<|oc zC<|oc (qN (C:=cg (fPN ((S0.1,(-z.1 / z.2)):V2))))<|oc (zO (C:=cg (fPN ((S0.1,(-z.1 / z.2)):V2))) 3 kI)<|oc (yH (C:=cg (fPN ((S0.1,(-z.1 / z.2)):V2))) (k:=3) 3 kI (h:=zFf))<|oc (zJ zE zGp (fun u0 u1 W hb (h0:QNp (S0.1) u0 W) (h1:QNp (-z.1 / z.2) u1 W)=>zDe (m:=430) (wD h0 hS.1) (wD h1 hqx) dB dB (hTb _ (zDD s.gr hb))))<|oc (zR .i64 (qsg S0.1 (-z.1 / z.2)) 0 (decide (qsg S0.1 (-z.1 / z.2)<0)) iiz iiz rfl rfl)<|oc zG<|zD) fun a w11 s=> ?_
    refine zA rfl ?_
    refine zVS ?_
    rw [zUk e0 e1 e2]
    exact wU s (c:=0) (t:=4) rfl rfl rfl rfl (fun v W h=>h)
   ·have e2:=e
    refine zVT ?_
    refine zVR ?_
    replace s:=s.drop [4]
    refine zB 11 ((58, .s (wE b (cg (fPN S0))))::(59, .Y (fPN S0))::(60, .X (fPN S0) 0)::(61, .Z (fQN (S0.1)))::(62, .s (wE b (cg (fPN S0))))::(63, .Y (fPN S0))::(64, .X (fPN S0) 3)::(65, .Z (fQN (S0.2)))::(66, .Z (uI (qsg S0.1 S0.2)))::(67, .Z (uB (decide (qsg S0.1 S0.2<0))))::(4, .u (uB (decide (qsg S0.1 S0.2<0)))):: []) hmix s kI
     (oc zC<|oc (qN (C:=cg (fPN S0)))<|oc (zO (C:=cg (fPN S0)) 0 kI)<|oc (yH (C:=cg (fPN S0)) (k:=0) 3 kI (h:=zFg))<|oc zC<|oc (qN (C:=cg (fPN S0)))<|oc (zO (C:=cg (fPN S0)) 3 kI)<|oc (yH (C:=cg (fPN S0)) (k:=3) 3 kI (h:=zFf))<|oc (zJ zE zGp (fun u0 u1 W hb (h0:QNp (S0.1) u0 W) (h1:QNp (S0.2) u1 W)=>zDe (m:=430) (wD h0 hS.1) (wD h1 hS.2) dB dB (hTb _ (zDD s.gr hb))))<|oc (zR .i64 (qsg S0.1 S0.2) 0 (decide (qsg S0.1 S0.2<0)) iiz iiz rfl rfl)<|oc zG<|zD) fun a w12 s=> ?_
    refine zA rfl ?_
    refine zVS ?_
    rw [zUj e0 e1 e2]
    exact wU s (c:=0) (t:=4) rfl rfl rfl rfl (fun v W h=>h)
end Go.Proofs.Wd

namespace Go.Proofs.Wd
open Tryz
set_option maxRecDepth 100000
set_option maxHeartbeats 1000000
open Go.RowKit Lb
def PSp (r t:Wn) (f g:UF) (x:Wn) (w:Wm):Prop:= ∃a b:List Wn,x= .agg (r::t::(a++b)).toArray/\(CU.agg f).p a w/\(CU.agg g).p b w/\(zY r=true/\zY t=true)
def fPS (r t:Wn) (f g:UF):UF:= .mk' (PSp r t f g) fun _ _ _ ⟨a,b,e,h1,h2,h3⟩ k=>⟨a,b,e,(CU.agg f).us _ _ _ h1 k,(CU.agg g).us _ _ _ h2 k,h3⟩
section
variable {r t:Wn} {f g f' g':UF}
theorem zEj {cs:List Wn} {W:Wm} (h:(CU.agg (fPS r t (fPT f g) (fPT f' g'))).p cs W): ∃a b:List Wn,cs=r::t::(a++b)/\a.length=6/\b.length=6/\(CU.agg (fPT f g)).p a W/\(CU.agg (fPT f' g')).p b W/\(zY r=true/\zY t=true):=by
 obtain ⟨a,b,e,h1,h2,h3⟩:=h
 have e':cs=r::t::(a++b):=by simpa using zWi Array.toList (jJ e)
 exact ⟨a,b,e',zX _ _ a W h1,zX _ _ b W h2,h1,h2,h3⟩
theorem zR5 {v:Wn} {W:Wm} (h:(fPS r t (fPT f g) (fPT f' g')).p v W):(CU.agg (fPS r t (fPT f g) (fPT f' g'))).p v.cells.toList W/\v.cells.toList.all zY=true:=by
 obtain ⟨a,b,rfl,h1,h2,h3,h4⟩:=h
 have e1:a.all zY=true:=(zCM _ _ a W h1).2.1
 have e2:b.all zY=true:=(zCM _ _ b W h2).2.1
 refine ⟨⟨a,b,rfl,h1,h2,h3,h4⟩, ?_⟩
 show (r::t::(a++b)).all zY=true
 simp [h3,h4,e1,e2]
theorem zUK (cs:List Wn) (W:Wm) (h:(CU.agg (fPS r t (fPT f g) (fPT f' g'))).p cs W): ∃x,cs[0]?=some x/\(UF.eq r).p x W:=by
 obtain ⟨a,b,rfl,_⟩:=zEj h
 exact ⟨r,rfl,rfl⟩
theorem zUJ (cs:List Wn) (W:Wm) (h:(CU.agg (fPS r t (fPT f g) (fPT f' g'))).p cs W): ∃x,cs[1]?=some x/\(UF.eq t).p x W:=by
 obtain ⟨a,b,rfl,_⟩:=zEj h
 exact ⟨t,rfl,rfl⟩
theorem zUM (cs:List Wn) (W:Wm) (h:(CU.agg (fPS r t (fPT f g) (fPT f' g'))).p cs W):2+6<=cs.length/\(fPT f g).p (.agg ((cs.drop 2).take 6).toArray) W:=by
 obtain ⟨a,b,rfl,ha,hb,h1,h2,_⟩:=zEj h
 refine ⟨by simp [ha,hb], ?_⟩
 have e:((r::t::(a++b)).drop 2).take 6=a:=by
  show (a++b).take 6=a
  rw [<-ha,List.take_left']
  rfl
 rw [e]
 exact h1
theorem zUL (cs:List Wn) (W:Wm) (h:(CU.agg (fPS r t (fPT f g) (fPT f' g'))).p cs W):8+6<=cs.length/\(fPT f' g').p (.agg ((cs.drop 8).take 6).toArray) W:=by
 obtain ⟨a,b,rfl,ha,hb,h1,h2,_⟩:=zEj h
 refine ⟨by simp [ha,hb], ?_⟩
 have e:((r::t::(a++b)).drop 8).take 6=b:=by
  show ((a++b).drop 6).take 6=b
  rw [<-ha,List.drop_left' rfl,ha, <-hb,List.take_length]
 rw [e]
 exact h2
end
theorem zUr (R T:Wq Addr) (n n' c c':Nat) (s:Bool) (A A':Wq Addr) (i i' j j':Nat) (s2:Bool) (B B':Wq Addr) (k k' d d':Nat) (u:Bool) (C C':Wq Addr) (o o' p p':Nat) (u2:Bool) (D D':Wq Addr) (q q' x x':Nat):prog.built 76 [(0, .slice R n c),(1, .slice T n' c'),(2, .agg #[.bool s, .slice A i j, .slice A' i' j', .bool s2, .slice B k d, .slice B' k' d']),(3, .agg #[.bool u, .slice C o p, .slice C' o' p', .bool u2, .slice D q x, .slice D' q' x'])]=some #[.slice R n c, .slice T n' c', .bool s, .slice A i j, .slice A' i' j', .bool s2, .slice B k d, .slice B' k' d', .bool u, .slice C o p, .slice C' o' p', .bool u2, .slice D q x, .slice D' q' x']:=by kernel_rfl
theorem zVj {R T:Wq Addr} {n n' c c':Nat} {f g f' g':UF} {u v:Wn} {W:Wm} (hu:(fPT f g).p u W) (hv:(fPT f' g').p v W): ∃cells,prog.built 76 [(0, .slice R n c),(1, .slice T n' c'),(2,u),(3,v)]=some cells/\(fPS (.slice R n c) (.slice T n' c') (fPT f g) (fPT f' g')).p (.agg cells) W:=by
 obtain ⟨s,A,i,j,A',i',j',s2,B,k,d,B',k',d',rfl,h1,h2⟩:=hu
 obtain ⟨z,C,o,p,C',o',p',z2,D,q,x,D',q',x',rfl,h3,h4⟩:=hv
 exact ⟨_,zUr _ _ _ _ _ _ _ _ _ _ _ _ _ _ _ _ _ _ _ _ _ _ _ _ _ _ _ _ _ _ _ _ _ _, [.bool s, .slice A i j, .slice A' i' j', .bool s2, .slice B k d, .slice B' k' d'], [.bool z, .slice C o p, .slice C' o' p', .bool z2, .slice D q x, .slice D' q' x'],rfl,⟨_,_,_,_,_,_,_,_,_,_,_,_,_,_,rfl,h1,h2⟩,⟨_,_,_,_,_,_,_,_,_,_,_,_,_,_,rfl,h3,h4⟩,rfl,rfl⟩
/-! ### Iterators: what holds at each of their worlds -/
def Okw (C:Nat->Prop) (w w':Wm):Prop:=BlS C w w'/\jS w w'
theorem zG6 {C:Nat->Prop} {w w1 w2:Wm} (h:Okw C w w1) (hb:Below w1.heap.size w1 w2):Okw C w w2:=⟨h.1.trans hb,fun _p _x hp=>zS hb _ _ (h.2 _ _ hp)⟩
theorem zH5 {C:Nat->Prop} {N:Nat} {w w1 w2:Wm} (h:Okw C w w1) (hi:Itr N w1 w2) (hN:w.heap.size<=N):Okw C w w2:=
 ⟨⟨hi.os.trans h.1.os,hi.tape.trans h.1.tape,hi.output.trans h.1.output,zVZ h.1.size hi.size,fun k hk hc=>(hi.low k (zWJ hk hN)).trans (h.1.block k hk hc)⟩,fun _p _x hp=>hi.keep _ _ (h.2 _ _ hp)⟩
theorem zQu {C:Nat->Prop} {w w1 w2:Wm} (h:Okw C w w1) (hr:Rnd w.heap.size C w1 w2):Okw C w w2:=
 ⟨⟨hr.os.trans h.1.os,hr.tape.trans h.1.tape,hr.output.trans h.1.output,zVZ h.1.size hr.size,fun k hk hc=>(hr.low k hk hc).trans (h.1.block k hk hc)⟩,fun _p _x hp=>hr.keep _ _ (h.2 _ _ hp)⟩
theorem zSj {P:Ws} {gf:Nat} {lb:Array Wn} {Ef:Nat->List UF} {N:Nat} {endless:Prop} {C:Nat->Prop} {w:Wm}
  (H: ∀(l:Nat) (J:Nat->Wm->Prop) (Z:Wm->Prop) (W:Wm),w.heap.size<=W.heap.size->Below w.heap.size w W->jS w W->
  (∀k W1 W2,J k W1->Itr W.heap.size W1 W2->J k W2)->(∀W1 W2,Z W1->Itr W.heap.size W1 W2->Z W2)->(endless-> ∀W, ¬J N W)->
  (∀k W1 xs,k<N->J k W1->Ev Ef k xs W1->YieldAt Fence.wide 0 P l xs W1 fun e W'=>((e= .returned (.bool true)/\J (k+1) W')∨(e= .returned (.bool false)/\Z W'))/\Rnd w.heap.size C W1 W')->
  (∀k W1,J k W1->Okw C w W1)->J 0 W->Calls P gf (#[.func (.yield l) #[] #[]]++lb) W fun e W'=>(∃v,e= .returned v)/\(J N W'∨Z W')):ItC P gf lb Ef N endless C w:=by
 intro l J Z W h1 h2 h3 hJ hZ hE hY hJ0
 have:=H l (fun k w1=>J k w1/\Okw C w w1) Z W h1 h2 h3 (fun k W1 W2 h hi=>⟨hJ _ _ _ h.1 hi,zH5 h.2 hi h1⟩) hZ (fun he w1 h=>hE he _ h.1)
  (fun k W1 xs hk h hev=>by
   obtain ⟨fn,tmps,assign,body,hrun,hR⟩:=hY k W1 xs hk h.1 hev
   refine ⟨fn,tmps,assign,body,hrun,RoundIn.mono hR fun e W' he=>⟨?_,he.2⟩⟩
   rcases he.1 with ⟨e1,hj⟩|hz
   ·exact .inl ⟨e1,hj,zQu h.2 he.2⟩
   ·exact .inr hz) (fun _ _ h=>h.2) ⟨hJ0,⟨⟨h2.os,h2.tape,h2.output,h2.size,fun k hk _=>h2.block k hk⟩,h3⟩⟩
 exact this.mono fun e W' h=>⟨h.1,h.2.imp (fun h=>h.1) (fun h=>h)⟩
theorem StS.boxN {w0 w1:Wm} {B1 B:List Bx} {K:List (Nat×KF)} {n N:Nat} {ds:List Deferred} {a:Act} (s:StS (inB B1) w0 K B n ds a w1) (hN: ∀x,x∈B1->x.r=false->N<=x.b) (hw:N<=w0.heap.size): ∀x,x∈B->x.r=false->N<=x.b:=fun x hx hr=>by
 obtain ⟨_,_,h,_⟩:=s.bx.mem x hx
 rcases h with h|h|⟨y,hy,e,hr'⟩
 ·rw [hr] at h;cases h
 ·exact zVZ hw h
 ·exact e▸hN y hy hr'
section
variable {F:Fence} {m:Nat} {P:Ws} {w0:Wm} {ops:Array Oper} {G:Nat->SF} {d:Tmp} {ty:Wp} {pos:String} {aft:Array Edge} {x y:Wr} {t:Wp} {b:Nat}
theorem zNr {i k:Nat} (hk:zHx P t i=some k) (W:Wm):(Instr.indexAt t (pO b 0) (.int .i64 (i:Int))).run P W= .ok (.pointer (some ⟨b,0+k,none⟩)) W:=by
 unfold zHx at hk
 split at hk<;>try cases hk
 rename_i n el hu
 split at hk<;>try cases hk
 rename_i ie hie
 split at hk<;>try cases hk
 rename_i hlt
 simp [Instr.indexAt,zWo hu,Instr.sureAddr,sizeOf,typeInfo,hie,zWp,asIntOf,hlt]
theorem zLw (i k:Nat) (hk:zHx P t i=some k) (hx: ∀v W,(fct G x).p v W->v= pO b 0) (hy: ∀v W,(fct G y).p v W->v= .int .i64 (i:Int)) (hd: ∀W,(G d).p (.pointer (some ⟨b,0+k,none⟩)) W:=by exact fun _=>rfl):qP F m P w0 ops G ⟨some d, .indexAddr t x y,ty,pos,aft,none⟩:=
 qU (fun _ e=>by cases e) (fun _ e=>by cases e) fun b W hb hh=>by
  have e1:=hx _ _ (hh x (by simp [Op.operands]))
  have e2:=hy _ _ (hh y (by simp [Op.operands]))
  exact ⟨_,by simp [execOp,e1,e2,zNr hk],hd _⟩
theorem zI2 {o:Nat} {cs:List Wn} (u:Wn) (ht:zB5 P t=true) (hm:Mem w0 b o cs) (hu:cs[0]?=some u) (hx: ∀v W,(fct G x).p v W->v= pO b o) (hd: ∀W,(G d).p u W:=by exact fun _=>rfl):qP F m P w0 ops G ⟨some d, .load t x,ty,pos,aft,none⟩:=
 qU (fun _ e=>by cases e) (fun _ e=>by cases e) fun b W hb hh=>by
  have e1:=hx _ _ (hh x (by simp [Op.operands]))
  exact ⟨_,by simp [execOp,Instr.loadAt,e1,Instr.sureAddr,jX ht (hm.below hb) hu],hd _⟩
end
theorem zMh (f:Wr->Wn) (x:Wr):(Array.map f #[x]).getD 0 undef=f x:=by simp
def zRi (T R:List V2) (i:Nat):Nat:=if i=0 then 0 else if i=1 then T.length else T.length+R.length
theorem zOz {W:Wm} {r t v:Wn} {f g f' g':UF} (h0:(fPS r t (fPT f g) (fPT f' g')).p v W):Calls prog 41 #[v] W (Ret W (zJZ W 64 76 (CU.agg (fPS r t (fPT f g) (fPT f' g'))))):=by
 refine z5 [(fPS r t (fPT f g) (fPT f' g')).tS] func41 rfl kI ⟨h0,trivial⟩ fun a s=> ?_
 refine zVR ?_
 refine zB 0 [] hmix s kI
  zD fun a w1 s=> ?_
 refine yN (CU.agg (fPS r t (fPT f g) (fPT f' g'))) rfl s kI (fun v W h=>zR5 h) fun b1 a w s=> ?_
 refine yV (UF.eq (.nilFunc)) rfl s kI iiz fun a w s=> ?_
 refine zA rfl ?_
 refine zVR ?_
 replace s:=s.drop [2]
 refine zB 2 ((3, .Z (UF.eq (.func (.func 64) #[] #[pO b1 0])))::(2, .u (UF.eq (.func (.func 64) #[] #[pO b1 0]))):: []) hmix s kI
  (oc (zDj (fun u W hb (h:(wE b1 (cg (fPS r t (fPT f g) (fPT f' g')))).p u W)=>by rw [h.1];rfl))<|oc zG<|zD) fun a w2 s=> ?_
 refine zA rfl ?_
 refine zVS ?_
 obtain ⟨cs,e1,e2,e3⟩:=s.boxAt (c:=1) rfl
 exact StS.resN s (zV8 _ _) rfl ⟨b1,cs,s.val (.head _),s.inB_new ⟨_, .head _,rfl,rfl⟩,e1,e2,e3⟩
theorem zJ0 {T R:List V2} (p d:V2) (hT0:0<T.length) {i off:Nat} {px py:List V2} (hc:(i=0/\px=T/\py=R/\off=0)∨(i=1/\px=R/\py=T/\off=T.length)):
  zRi T R i=off/\zRi T R (i+1)=off+px.length/\(py.length=0->R.length=0/\i=0)/\(R.length=0->i=0->0<px.length)/\(∀k,k<px.length->R.length≠0->off+k<(evs T R p d).length)/\
  (∀k v0,v0=yU (nxt px k) (at_ px k)->k<px.length->R.length≠0->i≠1->at_ (evs T R p d) (off+k)=((jI v0 py py.length - crz v0 (at_ px k))+crz v0 p,crz v0 d))/\
  (∀k v0,v0=yU (nxt px k) (at_ px k)->k<px.length->R.length≠0->i=1->at_ (evs T R p d) (off+k)=((jI v0 py py.length - crz v0 (at_ px k)) - crz v0 p,-(crz v0 d))):=by
 rcases hc with ⟨rfl,rfl,rfl,rfl⟩|⟨rfl,rfl,rfl,rfl⟩
 ·refine ⟨rfl,by simp [zRi],fun h=>⟨h,rfl⟩,fun _ _=>hT0,fun k hk h=>by rw [zIl h];omega,fun k v0 e hk h _=> ?_,fun k v0 e hk h h1=>by cases h1⟩
  rw [Nat.zero_add,zQU h hk,e]
  rfl
 ·refine ⟨rfl,by simp [zRi],fun h=>by omega,fun _ h=>(by cases h),fun k hk h=>by rw [zIl h];omega,fun k v0 e hk h h1=>absurd rfl h1,fun k v0 e hk h _=> ?_⟩
  rw [zQT h hk,e]
  rfl
theorem zMw {w_:Wm} {b:Nat} {r t:Wn} {cs:List Wn} {T R:List V2} {p d:V2} {C:Nat->Prop} (hh:w_.heap[b]?=some (.cells cs.toArray 76 (0,0))) (hc:(CU.agg (fPS r t (fPV 47 p) (fPV 95 d))).p cs w_) (hcn:cs.all zY=true)
  (hst: ∀w,Okw C w_ w->(SF.row 6 (pvs 5 R)).p r w/\(SF.row 6 (pvs 5 T)).p t w/\Tab w) (hCl: ∀k,C k->k<w_.heap.size) (hCb: ¬C b) (hnR:R.length<=1000000) (hnT:T.length<=1000000) (hT0:0<T.length):
  ItC prog 64 #[pO b 0] (fun k=> [fPV 213 (at_ (evs T R p d) k)]) (evs T R p d).length False C w_:=by
 refine zSj ?_
 intro l_ J Z W hwW hbW hkW hJs hZs hend hround hJok hJ0
 have hok0:Okw C w_ w_:=⟨BlS.refl _ _,fun _ _ h=>h⟩
 obtain ⟨A,c,rfl,_⟩:=(hst w_ hok0).1
 obtain ⟨A',c',rfl,_⟩:=(hst w_ hok0).2.1
 have hpq:=zA7 dB (zUM _ _ hc).2
 have hdq:=zA7 dB (zUL _ _ hc).2
 have hhW:W.heap[b]?=some (.cells cs.toArray 76 (0,0)):=(hbW.block b (zWl.1 hh).1).trans hh
 have hcW:=(CU.agg (fPS (.slice A (pvs 5 R).length c) (.slice A' (pvs 5 T).length c') (fPV 47 p) (fPV 95 d))).us _ _ _ hc hkW
 refine zJc func64 rfl ?_
 have s:=zIE (w:=W) (fn:=f64) (args:=#[.func (.yield l_) #[] #[]]++#[pO b 0]) noS [(0,UF.eq (.func (.yield l_) #[] #[]))] [⟨1,76,CU.agg (fPS (.slice A (pvs 5 R).length c) (.slice A' (pvs 5 T).length c') (fPV 47 p) (fPV 95 d)),b,true⟩] kI (fun q hq=>by obtain rfl:=zV1.1 hq;exact ⟨by simp,rfl⟩) ⟨⟨cs,rfl, .inl rfl,hhW,hcW,hcn,fun y hy=>by cases hy⟩,trivial⟩ (fun x hx=>by obtain rfl:=zV1.1 hx;show 1<2;decide)
 generalize ({ tmps:=#[.func (.yield l_) #[] #[]]++#[pO b 0]++Array.replicate (f64.ntmps - (#[.func (.yield l_) #[] #[]]++#[pO b 0]:Array Wn).size) undef,defers:= [] }:Act)=a at s ⊢
 refine zVR ?_
 refine zB 11 ((17, .X (fPS (.slice A (pvs 5 R).length c) (.slice A' (pvs 5 T).length c') (fPV 47 p) (fPV 95 d)) 1)::(18, .Z (UF.eq (.slice A' (pvs 5 T).length c')))::(19, .X (fPS (.slice A (pvs 5 R).length c) (.slice A' (pvs 5 T).length c') (fPV 47 p) (fPV 95 d)) 0)::(20, .Z (UF.eq (.slice A (pvs 5 R).length c)))::(21, .Z (UF.eq (.agg #[.slice A' (pvs 5 T).length c', .slice A (pvs 5 R).length c])))::(22, .X (fPS (.slice A (pvs 5 R).length c) (.slice A' (pvs 5 T).length c') (fPV 47 p) (fPV 95 d)) 0)::(23, .Z (UF.eq (.slice A (pvs 5 R).length c)))::(24, .X (fPS (.slice A (pvs 5 R).length c) (.slice A' (pvs 5 T).length c') (fPV 47 p) (fPV 95 d)) 1)::(25, .Z (UF.eq (.slice A' (pvs 5 T).length c')))::(26, .Z (UF.eq (.agg #[.slice A (pvs 5 R).length c, .slice A' (pvs 5 T).length c'])))::(27, .u (UF.eq (.agg #[.slice A' (pvs 5 T).length c', .slice A (pvs 5 R).length c, .slice A (pvs 5 R).length c, .slice A' (pvs 5 T).length c']))):: []) hmix s kI
  (oc (zO (C:=cg (fPS (.slice A (pvs 5 R).length c) (.slice A' (pvs 5 T).length c') (fPV 47 p) (fPV 95 d))) 1 kI)<|oc (jD (C:=cg (fPS (.slice A (pvs 5 R).length c) (.slice A' (pvs 5 T).length c') (fPV 47 p) (fPV 95 d))) (k:=1) kI (h:=zUJ))<|oc (zO (C:=cg (fPS (.slice A (pvs 5 R).length c) (.slice A' (pvs 5 T).length c') (fPV 47 p) (fPV 95 d))) 0 kI)<|oc (jD (C:=cg (fPS (.slice A (pvs 5 R).length c) (.slice A' (pvs 5 T).length c') (fPV 47 p) (fPV 95 d))) (k:=0) kI (h:=zUK))<|oc (yY (fun u v W (hu:u= .slice A' (pvs 5 T).length c') (hv:v= .slice A (pvs 5 R).length c)=>by subst hu hv;exact ⟨_,bA2 _ _ _ _ _ _,rfl⟩))<|oc (zO (C:=cg (fPS (.slice A (pvs 5 R).length c) (.slice A' (pvs 5 T).length c') (fPV 47 p) (fPV 95 d))) 0 kI)<|oc (jD (C:=cg (fPS (.slice A (pvs 5 R).length c) (.slice A' (pvs 5 T).length c') (fPV 47 p) (fPV 95 d))) (k:=0) kI (h:=zUK))<|oc (zO (C:=cg (fPS (.slice A (pvs 5 R).length c) (.slice A' (pvs 5 T).length c') (fPV 47 p) (fPV 95 d))) 1 kI)<|oc (jD (C:=cg (fPS (.slice A (pvs 5 R).length c) (.slice A' (pvs 5 T).length c') (fPV 47 p) (fPV 95 d))) (k:=1) kI (h:=zUJ))<|oc (yY (fun u v W (hu:u= .slice A (pvs 5 R).length c) (hv:v= .slice A' (pvs 5 T).length c')=>by subst hu hv;exact ⟨_,bA2 _ _ _ _ _ _,rfl⟩))<|oc (yY (fun u v W (hu:u= .agg #[.slice A' (pvs 5 T).length c', .slice A (pvs 5 R).length c]) (hv:v= .agg #[.slice A (pvs 5 R).length c, .slice A' (pvs 5 T).length c'])=>by subst hu hv;exact ⟨_,zUR _ _ _ _ _ _ _ _ _ _ _ _,rfl⟩))<|zD) fun a w1 s=> ?_
 refine zU (CU.len 4) (cs:= [.slice none 0 0, .slice none 0 0, .slice none 0 0, .slice none 0 0]) kI rfl s kI (fun W=>rfl) rfl fun b3 a w s=> ?_
 refine zN (CU.agg (UF.eq (.agg #[.slice A' (pvs 5 T).length c', .slice A (pvs 5 R).length c, .slice A (pvs 5 R).length c, .slice A' (pvs 5 T).length c']))) ((UF.eq (.agg #[.slice A' (pvs 5 T).length c', .slice A (pvs 5 R).length c, .slice A (pvs 5 R).length c, .slice A' (pvs 5 T).length c'])).tS) rfl s kI rfl rfl rfl iiz iiz (zDE (vs:= [.slice A' (pvs 5 T).length c', .slice A (pvs 5 R).length c, .slice A (pvs 5 R).length c, .slice A' (pvs 5 T).length c']) rfl (by intro u hu;simp at hu;rcases hu with rfl|rfl|rfl|rfl<;>rfl) rfl) fun a w s=> ?_
 refine zA rfl ?_
 refine zVR ?_
 refine zB 2 ((28, .u (UF.eq (.agg #[.slice A' (pvs 5 T).length c', .slice A (pvs 5 R).length c, .slice A (pvs 5 R).length c, .slice A' (pvs 5 T).length c'])))::(29, .u (uI 0)):: []) hmix s kI
  (oc (zI (f:=UF.eq (.agg #[.slice A' (pvs 5 T).length c', .slice A (pvs 5 R).length c, .slice A (pvs 5 R).length c, .slice A' (pvs 5 T).length c'])) 4 kI (hz:=zMH (vs:= [.slice A' (pvs 5 T).length c', .slice A (pvs 5 R).length c, .slice A (pvs 5 R).length c, .slice A' (pvs 5 T).length c']) rfl))<|oc zC<|zD) fun a w2 s=> ?_
 refine zA rfl ?_
 refine zVV ?_
 have hJw:J (zRi T R 0) w2:=hJs 0 _ _ hJ0 (zDu s.below lr)
 have hW0:=s.gr.size
 have hb3:W.heap.size<=b3:=s.inB_new ⟨_, .head _,rfl,rfl⟩
 have hN1: ∀x,x∈([⟨3,97,CU.agg (UF.eq (.agg #[.slice A' (pvs 5 T).length c', .slice A (pvs 5 R).length c, .slice A (pvs 5 R).length c, .slice A' (pvs 5 T).length c'])),b3,false⟩,⟨1,76,CU.agg (fPS (.slice A (pvs 5 R).length c) (.slice A' (pvs 5 T).length c') (fPV 47 p) (fPV 95 d)),b,true⟩]:List Bx)->x.r=false->W.heap.size<=x.b:=fun x hx hr1=>by rcases zVU.1 hx with rfl|hx;exact hb3;obtain rfl:=zV1.1 hx;cases hr1
 replace s:=(s.keepK [(0, .u (UF.eq (.func (.yield l_) #[] #[]))),(28, .u (UF.eq (.agg #[.slice A' (pvs 5 T).length c', .slice A (pvs 5 R).length c, .slice A (pvs 5 R).length c, .slice A' (pvs 5 T).length c']))),(29, .u (uI ((0:Nat):Int)))] (fmz ⟨mz3,fmz ⟨.head _,fmz ⟨mz1,fnz⟩⟩⟩)).self (q8 kI)
 refine zCK (fun i a w=>i<=2/\(R.length=0->i=0)/\J (zRi T R i) w/\W.heap.size<=w.heap.size/\StS (inB [⟨3,97,CU.agg (UF.eq (.agg #[.slice A' (pvs 5 T).length c', .slice A (pvs 5 R).length c, .slice A (pvs 5 R).length c, .slice A' (pvs 5 T).length c'])),b3,false⟩,⟨1,76,CU.agg (fPS (.slice A (pvs 5 R).length c) (.slice A' (pvs 5 T).length c') (fPV 47 p) (fPV 95 d)),b,true⟩]) w [(0, .u (UF.eq (.func (.yield l_) #[] #[]))),(28, .u (UF.eq (.agg #[.slice A' (pvs 5 T).length c', .slice A (pvs 5 R).length c, .slice A (pvs 5 R).length c, .slice A' (pvs 5 T).length c']))),(29, .u (uI ((i:Nat):Int)))] [⟨3,97,CU.agg (UF.eq (.agg #[.slice A' (pvs 5 T).length c', .slice A (pvs 5 R).length c, .slice A (pvs 5 R).length c, .slice A' (pvs 5 T).length c'])),b3,false⟩,⟨1,76,CU.agg (fPS (.slice A (pvs 5 R).length c) (.slice A' (pvs 5 T).length c') (fPV 47 p) (fPV 95 d)),b,true⟩] f64.ntmps [] a w) (fun i=>2 - i) 0 ⟨by omega,fun _=>rfl,hJw,hW0,s⟩ fun i a w ⟨hi,hi0,hJ,hWs,s⟩=> ?_
 have s0:=s
 have hup: ∀{w1 w2:Wm},BlS (inB ([⟨3,97,CU.agg (UF.eq (.agg #[.slice A' (pvs 5 T).length c', .slice A (pvs 5 R).length c, .slice A (pvs 5 R).length c, .slice A' (pvs 5 T).length c'])),b3,false⟩,⟨1,76,CU.agg (fPS (.slice A (pvs 5 R).length c) (.slice A' (pvs 5 T).length c') (fPV 47 p) (fPV 95 d)),b,true⟩]:List Bx)) w w1->Below w1.heap.size w1 w2->Okw C w_ w2:=fun h1 h2=>zG6 (zH5 (hJok _ _ hJ) (s0.itr_to (N:=W.heap.size) h1 hN1 hWs) hwW) h2
 refine zVR ?_
 refine zB 1 ((30, .u (uB (decide ((i:Int)<2)))):: []) hmix s kI
  (oc (zR .i64 (i:Int) 2 (decide ((i:Int)<2)) iiz iiz rfl rfl)<|zD) fun a w3 s=> ?_
 refine zA rfl ?_
 refine zVR ?_
 refine StS.cond s (decide ((i:Int)<2)) iiz (fun e=> ?_) (fun e=> ?_)
 ·have hi2:i<2:=by have:=zVW e;omega
  obtain ⟨x,y,px,py,off,hc⟩: ∃(x y:Wn) (px py:List V2) (off:Nat),(i=0/\x= .slice A' (pvs 5 T).length c'/\y= .slice A (pvs 5 R).length c/\px=T/\py=R/\off=0)∨(i=1/\x= .slice A (pvs 5 R).length c/\y= .slice A' (pvs 5 T).length c'/\px=R/\py=T/\off=T.length):=by
   rcases (by omega:i=0∨i=1) with h|h
   ·exact ⟨_,_,_,_,_, .inl ⟨h,rfl,rfl,rfl,rfl,rfl⟩⟩
   ·exact ⟨_,_,_,_,_, .inr ⟨h,rfl,rfl,rfl,rfl,rfl⟩⟩
  have hix: ∀W,(Instr.index 97 (.agg #[.slice A' (pvs 5 T).length c', .slice A (pvs 5 R).length c, .slice A (pvs 5 R).length c, .slice A' (pvs 5 T).length c']) (.int .i64 (i:Int))).run prog W= .ok (.agg #[x,y]) W:=by
   rcases hc with ⟨h,rfl,rfl,_⟩|⟨h,rfl,rfl,_⟩<;>rw [h]
   ·exact ix0 _ _ _ _ _ _ _ _ _ _ _ _
   ·exact ix1 _ _ _ _ _ _ _ _ _ _ _ _
  have hx: ∀w,Okw C w_ w->(SF.row 6 (pvs 5 px)).p x w:=fun w h=>by rcases hc with ⟨_,rfl,rfl,rfl,rfl,rfl⟩|⟨_,rfl,rfl,rfl,rfl,rfl⟩;exact (hst w h).2.1;exact (hst w h).1
  have hy: ∀w,Okw C w_ w->(SF.row 6 (pvs 5 py)).p y w:=fun w h=>by rcases hc with ⟨_,rfl,rfl,rfl,rfl,rfl⟩|⟨_,rfl,rfl,rfl,rfl,rfl⟩;exact (hst w h).1;exact (hst w h).2.1
  have hnx:px.length<=1000000:=by rcases hc with ⟨_,rfl,rfl,rfl,rfl,rfl⟩|⟨_,rfl,rfl,rfl,rfl,rfl⟩;exact hnT;exact hnR
  have hny:py.length<=1000000:=by rcases hc with ⟨_,rfl,rfl,rfl,rfl,rfl⟩|⟨_,rfl,rfl,rfl,rfl,rfl⟩;exact hnR;exact hnT
  have hxc:=zBA (hx _ (hJok _ _ hJ))
  have hyc:=zBA (hy _ (hJok _ _ hJ))
  have hx1:=zEL (hx _ (hJok _ _ hJ))
  have hy1:=zEL (hy _ (hJok _ _ hJ))
  have hpx:=zCP dB (hx _ (hJok _ _ hJ))
  have hpy:=zCP dB (hy _ (hJok _ _ hJ))
  obtain ⟨hoff,hoff2,hpyE,hpxN,hlt,hevA,hevB⟩:=zJ0 p d hT0 (hc.imp (fun h=>⟨h.1,h.2.2.2.1,h.2.2.2.2.1,h.2.2.2.2.2⟩) (fun h=>⟨h.1,h.2.2.2.1,h.2.2.2.2.1,h.2.2.2.2.2⟩))
  refine zVT ?_
  refine zVR ?_
  refine zVV ?_
  refine zVR ?_
  refine zB 2 ((31, .u (uI (i:Int)))::(32, .u (UF.eq (.agg #[x,y]))):: []) hmix s kI
   (oc zC<|oc (zLv (.agg #[.slice A' (pvs 5 T).length c', .slice A (pvs 5 R).length c, .slice A (pvs 5 R).length c, .slice A' (pvs 5 T).length c']) (.int .i64 (i:Int)) (.agg #[x,y]) iiz iiz hix)<|zD) fun a w4 s=> ?_
  refine zU (CU.len 2) (cs:= [.slice none 0 0, .slice none 0 0]) kI rfl s kI (fun W=>rfl) rfl fun b5 a w s=> ?_
  refine yV (uI (i:Int)) rfl s kI iiz fun a w s=> ?_
  refine zN (CU.agg (UF.eq (.agg #[x,y]))) ((UF.eq (.agg #[x,y])).tS) rfl s kI rfl rfl rfl iiz iiz (zDE (vs:= [x,y]) rfl (by simp [hx1,hy1]) (by simp [hxc.2,hyc.2])) fun a w s=> ?_
  refine zA rfl ?_
  refine zVR ?_
  obtain ⟨cs5,g5a,g5b,_⟩:=s.boxAt (c:=5) rfl
  have g5c:cs5= [x,y]:=by simpa using zWi Array.toList (jJ (show Value.agg cs5.toArray= .agg #[x,y] from g5b))
  subst g5c
  have hm0:=qO g5a
  have hm1:Mem _ b5 (0+1) [y]:=hm0.drop 1
  refine zB 6 ((33, .Z (UF.eq (.pointer (some ⟨b5,0+0,none⟩))))::(34, .Z (UF.eq x))::(35, .Z (UF.eq (.pointer (some ⟨b5,0+1,none⟩))))::(36, .Z (UF.eq y))::(6, .u (UF.eq x))::(7, .u (UF.eq y)):: []) hmix s kI
   (oc (zLw (b:=b5) 0 0 kI (fun _ _ h=>h.1) iiz)<|oc (zI2 (b:=b5) (o:=0+0) x kI hm0 rfl iiz)<|oc (zLw (b:=b5) 1 1 kI (fun _ _ h=>h.1) iiz)<|oc (zI2 (b:=b5) (o:=0+1) y kI hm1 rfl iiz)<|oc zG<|oc zG<|zD) fun a w5 s=> ?_
  refine zA rfl ?_
  refine zVR ?_
  refine zB 3 ((37, .u (UF.eq x))::(38, .u (uI ((pvs 5 px).length:Int)))::(39, .u (uI 0)):: []) hmix s kI
   (oc zC<|oc (jC (z:=6) (Cs:=pvs 5 px) kI (fun v W hb h=>(by rw [show _=x from h];exact hx _ (hup s.gr hb))) (fun _=>rfl))<|oc zC<|zD) fun a w6 s=> ?_
  refine zA rfl ?_
  refine zVV ?_
  have hit1:=s0.itr_to (N:=W.heap.size) s.gr hN1 hWs
  have hJ1:J (off+0) w6:=by have h9:=hJs _ _ _ hJ hit1;rw [hoff] at h9;exact h9
  have hN2:=s.boxN hN1 hWs
  have hW1:=zVZ hWs s.gr.size
  replace s:=(s.keepK [(0, .u (UF.eq (.func (.yield l_) #[] #[]))),(28, .u (UF.eq (.agg #[.slice A' (pvs 5 T).length c', .slice A (pvs 5 R).length c, .slice A (pvs 5 R).length c, .slice A' (pvs 5 T).length c']))),(29, .u (uI (i:Int))),(4, .u (uI (i:Int))),(6, .u (UF.eq x)),(7, .u (UF.eq y)),(37, .u (UF.eq x)),(38, .u (uI ((pvs 5 px).length:Int))),(39, .u (uI ((0:Nat):Int)))] (fmz ⟨mz9,fmz ⟨zD8,fmz ⟨zH8,fmz ⟨mz5,fmz ⟨mz3,fmz ⟨mz4,fmz ⟨.head _,fmz ⟨mz1,fmz ⟨mz2,fnz⟩⟩⟩⟩⟩⟩⟩⟩⟩)).self (q8 kI)
  refine zCK (fun k a w=>k<=px.length/\(R.length=0->k=0)/\J (off+k) w/\W.heap.size<=w.heap.size/\StS (inB [⟨5,96,CU.agg (UF.eq (.agg #[x,y])),b5,false⟩,⟨3,97,CU.agg (UF.eq (.agg #[.slice A' (pvs 5 T).length c', .slice A (pvs 5 R).length c, .slice A (pvs 5 R).length c, .slice A' (pvs 5 T).length c'])),b3,false⟩,⟨1,76,CU.agg (fPS (.slice A (pvs 5 R).length c) (.slice A' (pvs 5 T).length c') (fPV 47 p) (fPV 95 d)),b,true⟩]) w [(0, .u (UF.eq (.func (.yield l_) #[] #[]))),(28, .u (UF.eq (.agg #[.slice A' (pvs 5 T).length c', .slice A (pvs 5 R).length c, .slice A (pvs 5 R).length c, .slice A' (pvs 5 T).length c']))),(29, .u (uI (i:Int))),(4, .u (uI (i:Int))),(6, .u (UF.eq x)),(7, .u (UF.eq y)),(37, .u (UF.eq x)),(38, .u (uI ((pvs 5 px).length:Int))),(39, .u (uI ((k:Nat):Int)))] [⟨5,96,CU.agg (UF.eq (.agg #[x,y])),b5,false⟩,⟨3,97,CU.agg (UF.eq (.agg #[.slice A' (pvs 5 T).length c', .slice A (pvs 5 R).length c, .slice A (pvs 5 R).length c, .slice A' (pvs 5 T).length c'])),b3,false⟩,⟨1,76,CU.agg (fPS (.slice A (pvs 5 R).length c) (.slice A' (pvs 5 T).length c') (fPV 47 p) (fPV 95 d)),b,true⟩] f64.ntmps [] a w) (fun k=>px.length - k) 0 ⟨zV5 _,fun _=>rfl,hJ1,hW1,s⟩ fun k a w ⟨hk',hk0,hJ,hWs,s⟩=> ?_
  have s0:=s
  have hup: ∀{w1 w2:Wm},BlS (inB ([⟨5,96,CU.agg (UF.eq (.agg #[x,y])),b5,false⟩,⟨3,97,CU.agg (UF.eq (.agg #[.slice A' (pvs 5 T).length c', .slice A (pvs 5 R).length c, .slice A (pvs 5 R).length c, .slice A' (pvs 5 T).length c'])),b3,false⟩,⟨1,76,CU.agg (fPS (.slice A (pvs 5 R).length c) (.slice A' (pvs 5 T).length c') (fPV 47 p) (fPV 95 d)),b,true⟩]:List Bx)) w w1->Below w1.heap.size w1 w2->Okw C w_ w2:=fun h1 h2=>zG6 (zH5 (hJok _ _ hJ) (s0.itr_to (N:=W.heap.size) h1 hN2 hWs) hwW) h2
  refine zVR ?_
  refine zB 1 ((40, .u (uB (decide ((k:Int)<((pvs 5 px).length:Int))))):: []) hmix s kI
   (oc (zR .i64 (k:Int) ((pvs 5 px).length:Int) (decide ((k:Int)<((pvs 5 px).length:Int))) iiz iiz rfl rfl)<|zD) fun a w7 s=> ?_
  refine zA rfl ?_
  refine zVR ?_
  refine StS.cond s (decide ((k:Int)<((pvs 5 px).length:Int))) iiz (fun e=> ?_) (fun e=> ?_)
  ·have hk:k<px.length:=by have:=zVW e;simp at this;omega
   have hkm:(k+1) % px.length<px.length:=zWy _ oP
   have hlz:(pvs 5 px).length=px.length:=by simp
   obtain ⟨v0,hv0⟩: ∃v0,v0=yU (nxt px k) (at_ px k):=⟨_,rfl⟩
   have hv1:QB v0.1 11/\QB v0.2 11:=by rw [hv0];have h9:=zHJ hpx hk;exact ⟨h9.1.mono dB,h9.2.mono dB⟩
   refine zVT ?_
   refine zVR ?_
   refine zVV ?_
   refine zVR ?_
   refine zB 3 ((41, .u (uI (k:Int)))::(42, .Y (fPV 5 (at_ px k)))::(43, .u (fPV 5 (at_ px k))):: []) hmix s kI
    (oc zC<|oc (yP (z:=6) (Cs:=pvs 5 px) (i:=k) (C:=CU.agg (fPV 5 (at_ px k))) kI (jA hk) (fun v W hb h=>(by rw [show _=x from h];exact hx _ (hup s.gr hb))) iiz)<|oc (zI (f:=fPV 5 (at_ px k)) 6 kI (hz:=zX _ _))<|zD) fun a w8 s=> ?_
   refine zU (CU.len 6) (cs:=zP6) kI rfl s kI (fun W=>rfl) rfl fun b9 a w s=> ?_
   refine yV (uI (k:Int)) rfl s kI iiz fun a w s=> ?_
   refine zN (CU.agg (fPV 5 (at_ px k))) ((fPV 5 (at_ px k)).tS) rfl s kI rfl rfl rfl iiz iiz qK fun a w s=> ?_
   refine zA rfl ?_
   refine zVR ?_
   have so:=s.old;have sg:=s.gr
   refine jT (fun i=> [].contains i) [⟨10,10,31, [.bool false, .slice none 0 0, .slice none 0 0, .bool false, .slice none 0 0, .slice none 0 0],wF w 31 (CU.len 6)⟩] 11 ((44, .Z (UF.eq x))::(45, .Z (uI (k:Int)))::(46, .Z (uI ((k+1:Nat):Int)))::(47, .Z (UF.eq x))::(48, .Z (uI ((pvs 5 px).length:Int)))::(49, .Z (uI (((k+1) % px.length:Nat):Int)))::(50, .Y (fPV 5 (nxt px k)))::(51, .Z (fPV 5 (nxt px k)))::(52, .Z (fPV 5 (at_ px k)))::(53, .u (fPV 11 v0))::(10, .s (wF w 31 (CU.len 6))):: []) hmix s (fmz ⟨⟨by show 10<11;decide,zD8,⟨_,_,_,rfl⟩,by kernel_rfl,qT (fun _=>rfl) rfl⟩,fnz⟩) kI
    (oc zC<|oc zC<|oc (yR .i64 (k:Int) 1 ((k+1:Nat):Int) iiz iiz (wrap64 _ _ oP oP))<|oc zC<|oc (jC (z:=6) (Cs:=pvs 5 px) kI (fun v W hb h=>(by rw [show _=x from h];exact hx _ (hup s.gr hb))) (fun _=>rfl))<|oc (zH6 .i64 ((k+1:Nat):Int) ((pvs 5 px).length:Int) (((k+1) % px.length:Nat):Int) iiz iiz (by simp only [zWg];omega) (by simp only [zWg];rw [Int.tmod_eq_emod_of_nonneg oP];rfl))<|oc (yP (z:=6) (Cs:=pvs 5 px) (i:=((k+1) % px.length)) (C:=CU.agg (fPV 5 (nxt px k))) kI (jA hkm) (fun v W hb h=>(by rw [show _=x from h];exact hx _ (hup s.gr hb))) iiz)<|oc (zI (f:=fPV 5 (nxt px k)) 6 kI (hz:=zX _ _))<|oc (zI (f:=fPV 5 (at_ px k)) 6 kI (hz:=zX _ _))<|oc (zJ zE zOo (fun u0 u1 W hb (h0:(fPV 5 (nxt px k)).p u0 W) (h1:(fPV 5 (at_ px k)).p u1 W)=>(zIu (m:=5) (p:=nxt px k) (q:=at_ px k) h0 h1 dB dB (hst _ (hup s.gr hb)).2.2).mono (wI (fun v W h=>zCa (p:=v0) hv1.1 hv1.2 (by rw [hv0];exact h)))))<|oc (zAi (cs:=zP6) kI (qT (fun _=>rfl) rfl))<|zD) fun Q' hQ a w9 s hr hd=> ?_
   obtain ⟨b10,hB10,e10,s⟩:=s.adoptA false 10 (hr (_,_) zD8) sg (fun y hy=> .inl (so y hy))
   refine zN (CU.agg (fPV 11 v0)) ((fPV 11 v0).tS) rfl s kI rfl rfl rfl iiz iiz qK fun a w s=> ?_
   refine zA rfl (hQ _ _ ?_)
   refine zVR ?_
   refine zB 6 ((55, .Z (fPV 11 v0))::(56, .Z (UF.eq y))::(57, .Z (zAu (fRV 33 (jI v0 py py.length)) (uB (decide (0<py.length)))))::(54, .Z (zAu (fRV 33 (jI v0 py py.length)) (uB (decide (0<py.length)))))::(58, .u (fRV 33 (jI v0 py py.length)))::(59, .u (uB (decide (0<py.length)))):: []) hmix s kI
    (oc (zI (f:=fPV 11 v0) 6 kI (hz:=zX _ _))<|oc zC<|oc (zJ zE zTW (fun u0 u1 W hb (h0:(fPV 11 v0).p u0 W) (h1:u1=y)=>by rw [show u1=y from h1];exact zOv (q:=v0) h0 (hy _ (hup s.gr hb)) hny (hst _ (hup s.gr hb)).2.2))<|oc zC<|oc (zA1 (A:=(fRV 33 (jI v0 py py.length)).tS) (B:=(uB (decide (0<py.length))).tS) iiz)<|oc (zA0 (A:=(fRV 33 (jI v0 py py.length)).tS) (B:=(uB (decide (0<py.length))).tS) iiz)<|zD) fun a w10 s=> ?_
   refine zU (CU.len 3) (cs:=zR3) kI rfl s kI (fun W=>rfl) rfl fun b11 a w s=> ?_
   refine zN (CU.agg (fRV 33 (jI v0 py py.length))) ((fRV 33 (jI v0 py py.length)).tS) rfl s kI rfl rfl rfl iiz iiz zBs fun a w s=> ?_
   refine yV (uB (decide (0<py.length))) rfl s kI iiz fun a w s=> ?_
   refine zA rfl ?_
   refine zVR ?_
   refine zVR ?_
   refine zB 2 ((60, .Z (uB (decide (0<py.length))))::(61, .u (uB (!(decide (0<py.length))))):: []) hmix s kI
    (oc zC<|oc (zAy (decide (0<py.length)) iiz (fun _=>rfl))<|zD) fun a w11 s=> ?_
   refine zA rfl ?_
   refine StS.cond s (!(decide (0<py.length))) iiz (fun e=> ?_) (fun e=> ?_)
   ·have hpy0:py.length=0:=by simp at e;simpa using e
    obtain ⟨hR0,hi1⟩:=hpyE hpy0
    have hk1:=hk0 hR0
    have hoff0:off=0:=by rw [<-hoff,hi1];rfl
    refine zVR ?_
    refine zB 2 ((62, .u (UF.eq (.func (.yield l_) #[] #[])))::(63, .u (fPN (((0:Int):Rat),((0:Int):Rat)))):: []) hmix s kI
     (oc zC<|oc (zF7 zE zTV (fun W hb=>zOy))<|zD) fun a w12 s=> ?_
    have hJ1:J (off+k) w12:=hJs _ _ _ hJ (s0.itr_to (N:=W.heap.size) s.gr hN2 hWs)
    have hNy:=s.boxN hN2 hWs
    have hws:=zVZ hWs s.gr.size
    have hev:at_ (evs T R p d) (off+k)=(((0:Int):Rat),((0:Int):Rat)):=by rw [zGo hR0,hoff0,hk1];rfl
    have hlt1:off+k<(evs T R p d).length:=by rw [zGo hR0,hoff0,hk1];decide
    have hcx: ∀z9,z9∈([⟨11,29,CU.agg (fRV 33 (jI v0 py py.length)),b11,false⟩,⟨10,31,CU.agg (fPV 11 v0),b10,false⟩,⟨9,31,CU.agg (fPV 5 (at_ px k)),b9,false⟩,⟨5,96,CU.agg (UF.eq (.agg #[x,y])),b5,false⟩,⟨3,97,CU.agg (UF.eq (.agg #[.slice A' (pvs 5 T).length c', .slice A (pvs 5 R).length c, .slice A (pvs 5 R).length c, .slice A' (pvs 5 T).length c'])),b3,false⟩,⟨1,76,CU.agg (fPS (.slice A (pvs 5 R).length c) (.slice A' (pvs 5 T).length c') (fPV 47 p) (fPV 95 d)),b,true⟩]:List Bx)-> ¬C z9.b:=fun x hx hc=>by
     cases hr9:x.r with
     |false=>have h8:=hNy x hx hr9;have h9:=hCl _ hc;omega
     |true=>
      have:x.b=b:=by simp only [zVU,zWB,or_false] at hx;rcases hx with rfl|rfl|rfl|rfl|rfl|rfl<;>first|rfl|cases hr9
      rw [this] at hc;exact hCb hc
    refine zFL rfl s iiz kI (q8 kI) hcx (hround (off+k) _ _ hlt1 hJ1 ⟨by simp,fun j f hj=> ?_⟩) fun a w bv hr hbv s=> ?_
    ·match j,hj with
     |0,hj=>obtain rfl:=zWL hj;rw [zMh,hev];exact zCa (zLg dB) (zLg dB) (show (fPN (((0:Int):Rat),((0:Int):Rat))).p _ _ from s.at.sl 63)
    refine zA rfl ?_
    refine zVS ?_
    exact ⟨s.nd, .tuple #[],by simp [results,results64],⟨_,rfl⟩,hbv.elim (fun h=> .inl (by rw [zGo hR0];have h9:=h.2;rw [hoff0,hk1] at h9;exact h9)) (fun h=> .inr h.2)⟩
   ·have hR0:R.length≠0:=fun h=>by
     have h1:=hi0 h
     rcases hc with ⟨_,_,_,_,rfl,_⟩|⟨h2,_⟩
     ·simp [h] at e
     ·omega
    refine zVT ?_
    refine zVR ?_
    have so:=s.old;have sg:=s.gr
    refine jT (fun i=> [].contains i) [⟨13,13,29, [.bool false, .slice none 0 0, .slice none 0 0],wF w11 29 (CU.len 3)⟩,⟨14,14,29, [.bool false, .slice none 0 0, .slice none 0 0],wF w11 29 (CU.len 3)⟩,⟨15,15,29, [.bool false, .slice none 0 0, .slice none 0 0],wF w11 29 (CU.len 3)⟩] 16 ((65, .Z (fRV 33 (jI v0 py py.length)))::(66, .Z (fPV 11 v0))::(67, .Z (fPV 5 (at_ px k)))::(68, .Z (fRV 33 (crz v0 (at_ px k))))::(69, .u (fRV 117 ((jI v0 py py.length) - crz v0 (at_ px k))))::(70, .Z (fPV 11 v0))::(71, .X (fPS (.slice A (pvs 5 R).length c) (.slice A' (pvs 5 T).length c') (fPV 47 p) (fPV 95 d)) 2)::(72, .Z (fPV 47 p))::(73, .u (fRV 117 (crz v0 p)))::(74, .Z (fPV 11 v0))::(75, .X (fPS (.slice A (pvs 5 R).length c) (.slice A' (pvs 5 T).length c') (fPV 47 p) (fPV 95 d)) 8)::(76, .Z (fPV 95 d))::(77, .u (fRV 213 (crz v0 d)))::(13, .s (wF w11 29 (CU.len 3)))::(14, .s (wF w11 29 (CU.len 3)))::(15, .s (wF w11 29 (CU.len 3))):: []) hmix s (fmz ⟨⟨by show 13<16;decide,zMT,⟨_,_,_,rfl⟩,by kernel_rfl,qT (fun _=>rfl) rfl⟩,fmz ⟨⟨by show 14<16;decide,zSc,⟨_,_,_,rfl⟩,by kernel_rfl,qT (fun _=>rfl) rfl⟩,fmz ⟨⟨by show 15<16;decide,zCQ,⟨_,_,_,rfl⟩,by kernel_rfl,qT (fun _=>rfl) rfl⟩,fnz⟩⟩⟩) kI
     (oc (zI (f:=fRV 33 (jI v0 py py.length)) 3 kI (hz:=yW _ _))<|oc (zI (f:=fPV 11 v0) 6 kI (hz:=zX _ _))<|oc (zI (f:=fPV 5 (at_ px k)) 6 kI (hz:=zX _ _))<|oc (zJ zE zMk (fun u0 u1 W hb (h0:(fPV 11 v0).p u0 W) (h1:(fPV 5 (at_ px k)).p u1 W)=>(zC6 (m:=11) (p:=v0) (q:=(at_ px k)) h0 (jB (m':=11) dB h1) ⟨hv1.1.mono dB,hv1.2.mono dB⟩ ⟨((hpx _ (qV hk)).1.mono dB),((hpx _ (qV hk)).2.mono dB)⟩ dB dB (hst _ (hup s.gr hb)).2.2).mono (wI (fun v W h=>wD (q:=crz v0 (at_ px k)) h ((zA5 hv1 (hpx _ (qV hk))).mono dB)))))<|oc (zJ zE zMl (fun u0 u1 W hb (h0:RVp 33 (jI v0 py py.length) u0 W) (h1:RVp 33 (crz v0 (at_ px k)) u1 W)=>(zFq (m:=33) (q:=(jI v0 py py.length)) (q':=(crz v0 (at_ px k))) h0 h1 dB dB (hst _ (hup s.gr hb)).2.2).mono (wI (fun v W h=>wD h (((zE4 hv1 hpy dB _ lr).sub (zA5 hv1 (hpx _ (qV hk)))).mono dB)))))<|oc (zI (f:=fPV 11 v0) 6 kI (hz:=zX _ _))<|oc (zO (C:=cg (fPS (.slice A (pvs 5 R).length c) (.slice A' (pvs 5 T).length c') (fPV 47 p) (fPV 95 d))) 2 kI)<|oc (yH (C:=cg (fPS (.slice A (pvs 5 R).length c) (.slice A' (pvs 5 T).length c') (fPV 47 p) (fPV 95 d))) (k:=2) 6 kI (h:=zUM))<|oc (zJ zE zMk (fun u0 u1 W hb (h0:(fPV 11 v0).p u0 W) (h1:(fPV 47 p).p u1 W)=>(zC6 (m:=47) (p:=v0) (q:=p) (jB (m':=47) dB h0) h1 ⟨hv1.1.mono dB,hv1.2.mono dB⟩ ⟨hpq.1,hpq.2⟩ dB dB (hst _ (hup s.gr hb)).2.2).mono (wI (fun v W h=>wD (q:=crz v0 p) h ((zA5 hv1 hpq).mono dB)))))<|oc (zI (f:=fPV 11 v0) 6 kI (hz:=zX _ _))<|oc (zO (C:=cg (fPS (.slice A (pvs 5 R).length c) (.slice A' (pvs 5 T).length c') (fPV 47 p) (fPV 95 d))) 8 kI)<|oc (yH (C:=cg (fPS (.slice A (pvs 5 R).length c) (.slice A' (pvs 5 T).length c') (fPV 47 p) (fPV 95 d))) (k:=8) 6 kI (h:=zUL))<|oc (zJ zE zMk (fun u0 u1 W hb (h0:(fPV 11 v0).p u0 W) (h1:(fPV 95 d).p u1 W)=>(zC6 (m:=95) (p:=v0) (q:=d) (jB (m':=95) dB h0) h1 ⟨hv1.1.mono dB,hv1.2.mono dB⟩ ⟨hdq.1,hdq.2⟩ dB dB (hst _ (hup s.gr hb)).2.2).mono (wI (fun v W h=>wD (q:=crz v0 d) h ((zA5 hv1 hdq).mono dB)))))<|oc (zAi (cs:=zR3) kI (qT (fun _=>rfl) rfl))<|oc (zAi (cs:=zR3) kI (qT (fun _=>rfl) rfl))<|oc (zAi (cs:=zR3) kI (qT (fun _=>rfl) rfl))<|zD) fun Q' hQ a w13 s hr hd=> ?_
    obtain ⟨b13,hB13,e13,s⟩:=s.adoptA false 13 (hr (_,_) zMT) sg (fun y hy=> .inl (so y hy))
    obtain ⟨b14,hB14,e14,s⟩:=s.adoptA false 14 (hr (_,_) zSc) sg (fun y hy=>by rcases zVU.1 hy with rfl|hy;exact .inr (.inr fun b hb=>hd _ _ (.head _) mz1 (by show 13≠14;decide) _ _ e13 hb);exact .inl (so y hy))
    obtain ⟨b15,hB15,e15,s⟩:=s.adoptA false 15 (hr (_,_) zCQ) sg (fun y hy=>by rcases zVU.1 hy with rfl|hy;exact .inr (.inr fun b hb=>hd _ _ mz1 mz2 (by show 14≠15;decide) _ _ e14 hb);rcases zVU.1 hy with rfl|hy;exact .inr (.inr fun b hb=>hd _ _ (.head _) mz2 (by show 13≠15;decide) _ _ e13 hb);exact .inl (so y hy))
    refine zN (CU.agg (fRV 117 ((jI v0 py py.length) - crz v0 (at_ px k)))) ((fRV 117 ((jI v0 py py.length) - crz v0 (at_ px k))).tS) rfl s kI rfl rfl rfl iiz iiz zBs fun a w s=> ?_
    refine zN (CU.agg (fRV 117 (crz v0 p))) ((fRV 117 (crz v0 p)).tS) rfl s kI rfl rfl rfl iiz iiz zBs fun a w s=> ?_
    refine zN (CU.agg (fRV 213 (crz v0 d))) ((fRV 213 (crz v0 d)).tS) rfl s kI rfl rfl rfl iiz iiz zBs fun a w s=> ?_
    refine zA rfl (hQ _ _ ?_)
    refine zVR ?_
    have so:=s.old;have sg:=s.gr
    refine jT (fun i=> [].contains i) [⟨6,16,79, [.bool false, .slice none 0 0, .slice none 0 0, .bool false, .slice none 0 0, .slice none 0 0],wF w 79 (CU.len 6)⟩] 7 ((78, .Z (fRV 117 ((jI v0 py py.length) - crz v0 (at_ px k))))::(79, .Z (fRV 117 (crz v0 p)))::(80, .s (fQS 117 [((jI v0 py py.length) - crz v0 (at_ px k)),(crz v0 p)]))::(81, .Z (fRV 213 (((jI v0 py py.length) - crz v0 (at_ px k))+crz v0 p)))::(82, .Z (fRV 213 (crz v0 d)))::(83, .u (fPV 213 (((((jI v0 py py.length) - crz v0 (at_ px k))+crz v0 p),(crz v0 d)):V2)))::(16, .s (wF w 79 (CU.len 6))):: []) hmix s (fmz ⟨⟨by show 6<7;decide,mz6,⟨_,_,_,rfl⟩,by kernel_rfl,qT (fun _=>rfl) rfl⟩,fnz⟩) kI
     (oc (zI (f:=fRV 117 ((jI v0 py py.length) - crz v0 (at_ px k))) 3 kI (hz:=yW _ _))<|oc (zI (f:=fRV 117 (crz v0 p)) 3 kI (hz:=yW _ _))<|oc (yI (fun u v W (hu:RVp 117 ((jI v0 py py.length) - crz v0 (at_ px k)) u W) (hv:RVp 117 (crz v0 p) v W)=>zCU hu hv))<|oc (zH zE zOm (fun u0 W hb (h0:(fQS 117 [((jI v0 py py.length) - crz v0 (at_ px k)),(crz v0 p)]).p u0 W)=>(zEO (m:=117) (p:=((jI v0 py py.length) - crz v0 (at_ px k))) (q:=crz v0 p) h0 (((zE4 hv1 hpy dB _ lr).sub (zA5 hv1 (hpx _ (qV hk)))).mono dB) ((zA5 hv1 hpq).mono dB) dB (hst _ (hup s.gr hb)).2.2).mono (wI (fun v W h=>wD h ((((zE4 hv1 hpy dB _ lr).sub (zA5 hv1 (hpx _ (qV hk)))).add (zA5 hv1 hpq)).mono dB)))))<|oc (zI (f:=fRV 213 (crz v0 d)) 3 kI (hz:=yW _ _))<|oc (yY (fun u v W (hu:RVp 213 (((jI v0 py py.length) - crz v0 (at_ px k))+crz v0 p) u W) (hv:RVp 213 (crz v0 d) v W)=>zUt (zFW _ _) (zFW _ _) hu hv))<|oc (zAi (cs:=zP6) kI (qT (fun _=>rfl) rfl))<|zD) fun Q' hQ a w14 s hr hd=> ?_
    obtain ⟨b16,hB16,e16,s⟩:=s.adoptA false 16 (hr (_,_) mz6) sg (fun y hy=> .inl (so y hy))
    refine zN (CU.agg (fPV 213 (((((jI v0 py py.length) - crz v0 (at_ px k))+crz v0 p),(crz v0 d)):V2))) ((fPV 213 (((((jI v0 py py.length) - crz v0 (at_ px k))+crz v0 p),(crz v0 d)):V2)).tS) rfl s kI rfl rfl rfl iiz iiz qK fun a w s=> ?_
    refine zA rfl (hQ _ _ ?_)
    refine zVR ?_
    refine zVR ?_
    refine zB 2 ((84, .Z (uI (i:Int)))::(85, .u (uB (decide (i=1)))):: []) hmix s kI
     (oc zC<|oc (zR .i64 (i:Int) 1 (decide (i=1)) iiz iiz (by rw [Bool.eq_iff_iff,beq_iff_eq,decide_eq_true_iff];omega) rfl)<|zD) fun a w15 s=> ?_
    refine zA rfl ?_
    refine StS.cond s (decide (i=1)) iiz (fun e=> ?_) (fun e=> ?_)
    ·have hev:=hevB k v0 hv0 hk hR0 (zVW e)
     refine yL [] 6 ((86, .Z (fRV 117 ((jI v0 py py.length) - crz v0 (at_ px k))))::(87, .Z (fRV 117 (crz v0 p)))::(88, .Z (fRV 213 (((jI v0 py py.length) - crz v0 (at_ px k)) - crz v0 p)))::(89, .Z (fRV 213 (crz v0 d)))::(90, .Z (fRV 213 (-(crz v0 d))))::(91, .u (fPV 213 (((((jI v0 py py.length) - crz v0 (at_ px k)) - crz v0 p),(-(crz v0 d))):V2))):: []) hmix s kI
      (oc (zI (f:=fRV 117 ((jI v0 py py.length) - crz v0 (at_ px k))) 3 kI (hz:=yW _ _))<|oc (zI (f:=fRV 117 (crz v0 p)) 3 kI (hz:=yW _ _))<|oc (zJ zE zMl (fun u0 u1 W hb (h0:RVp 117 ((jI v0 py py.length) - crz v0 (at_ px k)) u0 W) (h1:RVp 117 (crz v0 p) u1 W)=>(zFq (m:=117) (q:=((jI v0 py py.length) - crz v0 (at_ px k))) (q':=(crz v0 p)) h0 h1 dB dB (hst _ (hup s.gr hb)).2.2).mono (wI (fun v W h=>wD h ((((zE4 hv1 hpy dB _ lr).sub (zA5 hv1 (hpx _ (qV hk)))).sub (zA5 hv1 hpq)).mono dB)))))<|oc (zI (f:=fRV 213 (crz v0 d)) 3 kI (hz:=yW _ _))<|oc (zH zE zQX (fun u0 W hb (h0:RVp 213 (crz v0 d) u0 W)=>(zKW (m:=213) (q:=crz v0 d) h0 dB dB (hst _ (hup s.gr hb)).2.2).mono (wI (fun v W h=>wD h ((zA5 hv1 hdq).neg.mono dB)))))<|oc (yY (fun u v W (hu:RVp 213 (((jI v0 py py.length) - crz v0 (at_ px k)) - crz v0 p) u W) (hv:RVp 213 (-(crz v0 d)) v W)=>zUt (zFW _ _) (zFW _ _) hu hv))<|zD) fun Q' hQ a w16 s=> ?_
     refine zN (CU.agg (fPV 213 (((((jI v0 py py.length) - crz v0 (at_ px k)) - crz v0 p),(-(crz v0 d))):V2))) ((fPV 213 (((((jI v0 py py.length) - crz v0 (at_ px k)) - crz v0 p),(-(crz v0 d))):V2)).tS) rfl s kI rfl rfl rfl (zX _ _) iiz qK fun a w s=> ?_
     refine zA rfl (hQ _ _ ?_)
     refine zVR ?_
     refine zB 2 ((92, .u (UF.eq (.func (.yield l_) #[] #[])))::(93, .u (fPV 213 (((((jI v0 py py.length) - crz v0 (at_ px k)) - crz v0 p),(-(crz v0 d))):V2))):: []) hmix s kI
      (oc zC<|oc (zI (f:=fPV 213 (((((jI v0 py py.length) - crz v0 (at_ px k)) - crz v0 p),(-(crz v0 d))):V2)) 6 kI (hz:=zX _ _))<|zD) fun a w17 s=> ?_
     have hJ1:J (off+k) w17:=hJs _ _ _ hJ (s0.itr_to (N:=W.heap.size) s.gr hN2 hWs)
     have hNy:=s.boxN hN2 hWs
     have hws:=zVZ hWs s.gr.size
     have hlt1:=hlt k hk hR0
     have hcx: ∀z9,z9∈([⟨16,79,CU.agg (fPV 213 (((((jI v0 py py.length) - crz v0 (at_ px k)) - crz v0 p),(-(crz v0 d))):V2)),b16,false⟩,⟨15,29,CU.agg (fRV 213 (crz v0 d)),b15,false⟩,⟨14,29,CU.agg (fRV 117 (crz v0 p)),b14,false⟩,⟨13,29,CU.agg (fRV 117 ((jI v0 py py.length) - crz v0 (at_ px k))),b13,false⟩,⟨11,29,CU.agg (fRV 33 (jI v0 py py.length)),b11,false⟩,⟨10,31,CU.agg (fPV 11 v0),b10,false⟩,⟨9,31,CU.agg (fPV 5 (at_ px k)),b9,false⟩,⟨5,96,CU.agg (UF.eq (.agg #[x,y])),b5,false⟩,⟨3,97,CU.agg (UF.eq (.agg #[.slice A' (pvs 5 T).length c', .slice A (pvs 5 R).length c, .slice A (pvs 5 R).length c, .slice A' (pvs 5 T).length c'])),b3,false⟩,⟨1,76,CU.agg (fPS (.slice A (pvs 5 R).length c) (.slice A' (pvs 5 T).length c') (fPV 47 p) (fPV 95 d)),b,true⟩]:List Bx)-> ¬C z9.b:=fun x hx hc=>by
      cases hr9:x.r with
      |false=>have h8:=hNy x hx hr9;have h9:=hCl _ hc;omega
      |true=>
       have:x.b=b:=by simp only [zVU,zWB,or_false] at hx;rcases hx with rfl|rfl|rfl|rfl|rfl|rfl|rfl|rfl|rfl|rfl<;>first|rfl|cases hr9
       rw [this] at hc;exact hCb hc
     refine zFL rfl s iiz kI (q8 kI) hcx (hround (off+k) _ _ hlt1 hJ1 ⟨by simp,fun j f hj=> ?_⟩) fun a w bv hr hbv s=> ?_
     ·match j,hj with
      |0,hj=>obtain rfl:=zWL hj;rw [zMh,hev];exact s.at.sl 93
     have sy:=s
     have hsz2:=hr.size
     refine zCD (uB (!bv)) rfl s kI (zAy bv iiz (fun _=>rfl)) kI fun a w s=> ?_
     refine zA rfl ?_
     have hitr:=sy.itr_to (N:=W.heap.size) s.gr hNy oP
     refine StS.cond s (!bv) iiz (fun e=> ?_) (fun e=> ?_)
     ·have hz:=hZs _ _ (by rcases hbv with ⟨e2,_⟩|⟨_,hz⟩;rw [e2] at e;cases e;exact hz) hitr
      refine zVS ?_
      exact ⟨s.nd, .tuple #[],by simp [results,results64],⟨_,rfl⟩, .inr hz⟩
     ·have hJ2:=hJs _ _ _ (by rcases hbv with ⟨_,hj⟩|⟨e2,_⟩;exact hj;rw [e2] at e;cases e) hitr
      have hW3:=zVZ hws (zVZ hsz2 s.gr.size)
      have sx:=s
      replace s:=s.self (q8 kI)
      refine zVT ?_
      refine zZ 1 ((96, .u (uI ((k+1:Nat):Int))):: []) s kI
       (oc (yR .i64 (k:Int) 1 ((k+1:Nat):Int) iiz iiz (wrap64 _ _ oP oP))<|zD) fun a w18 s=> ?_
      replace s:=s.drop [39]
      refine zCD (uI ((k+1:Nat):Int)) rfl s kI zC kI fun a w s=> ?_
      refine zA rfl ?_
      have hit2:=sx.itr_to (N:=W.heap.size) s.gr hNy hW3
      have hsz4:=zVZ hW3 s.gr.size
      exact ⟨k+1,by show px.length - (k+1)<px.length - k;omega,by omega,fun h=>absurd h hR0,hJs _ _ _ hJ2 hit2,hsz4,((s.keepK [(0, .u (UF.eq (.func (.yield l_) #[] #[]))),(28, .u (UF.eq (.agg #[.slice A' (pvs 5 T).length c', .slice A (pvs 5 R).length c, .slice A (pvs 5 R).length c, .slice A' (pvs 5 T).length c']))),(29, .u (uI (i:Int))),(4, .u (uI (i:Int))),(6, .u (UF.eq x)),(7, .u (UF.eq y)),(37, .u (UF.eq x)),(38, .u (uI ((pvs 5 px).length:Int))),(39, .u (uI (((k+1):Nat):Int)))] (fmz ⟨.tail _ (.tail _ (.tail _ (.tail _ (.tail _ (.tail _ zCQ))))),fmz ⟨.tail _ (.tail _ (.tail _ (.tail _ (.tail _ (.tail _ (.tail _ zCQ)))))),fmz ⟨.tail _ (.tail _ (.tail _ (.tail _ (.tail _ (.tail _ (.tail _ (.tail _ zCQ))))))),fmz ⟨.tail _ (.tail _ (.tail _ (.tail _ (.tail _ (.tail _ (.tail _ (.tail _ (.tail _ zCQ)))))))),fmz ⟨.tail _ (.tail _ (.tail _ (.tail _ (.tail _ (.tail _ (.tail _ (.tail _ (.tail _ (.tail _ zCQ))))))))),fmz ⟨.tail _ (.tail _ (.tail _ (.tail _ (.tail _ (.tail _ (.tail _ (.tail _ (.tail _ (.tail _ (.tail _ zCQ)))))))))),fmz ⟨.tail _ (.tail _ (.tail _ (.tail _ (.tail _ (.tail _ (.tail _ (.tail _ (.tail _ (.tail _ (.tail _ (.tail _ zCQ))))))))))),fmz ⟨.tail _ (.tail _ (.tail _ (.tail _ (.tail _ (.tail _ (.tail _ (.tail _ (.tail _ (.tail _ (.tail _ (.tail _ (.tail _ zCQ)))))))))))),fmz ⟨.head _,fnz⟩⟩⟩⟩⟩⟩⟩⟩⟩)).popB.popB.popB.popB.popB.popB.popB).self (q8 kI)⟩
    ·have hev:=hevA k v0 hv0 hk hR0 (zVY e)
     refine zVT ?_
     refine zVR ?_
     refine zB 2 ((92, .u (UF.eq (.func (.yield l_) #[] #[])))::(93, .u (fPV 213 (((((jI v0 py py.length) - crz v0 (at_ px k))+crz v0 p),(crz v0 d)):V2))):: []) hmix s kI
      (oc zC<|oc (zI (f:=fPV 213 (((((jI v0 py py.length) - crz v0 (at_ px k))+crz v0 p),(crz v0 d)):V2)) 6 kI (hz:=zX _ _))<|zD) fun a w19 s=> ?_
     have hJ1:J (off+k) w19:=hJs _ _ _ hJ (s0.itr_to (N:=W.heap.size) s.gr hN2 hWs)
     have hNy:=s.boxN hN2 hWs
     have hws:=zVZ hWs s.gr.size
     have hlt1:=hlt k hk hR0
     have hcx: ∀z9,z9∈([⟨16,79,CU.agg (fPV 213 (((((jI v0 py py.length) - crz v0 (at_ px k))+crz v0 p),(crz v0 d)):V2)),b16,false⟩,⟨15,29,CU.agg (fRV 213 (crz v0 d)),b15,false⟩,⟨14,29,CU.agg (fRV 117 (crz v0 p)),b14,false⟩,⟨13,29,CU.agg (fRV 117 ((jI v0 py py.length) - crz v0 (at_ px k))),b13,false⟩,⟨11,29,CU.agg (fRV 33 (jI v0 py py.length)),b11,false⟩,⟨10,31,CU.agg (fPV 11 v0),b10,false⟩,⟨9,31,CU.agg (fPV 5 (at_ px k)),b9,false⟩,⟨5,96,CU.agg (UF.eq (.agg #[x,y])),b5,false⟩,⟨3,97,CU.agg (UF.eq (.agg #[.slice A' (pvs 5 T).length c', .slice A (pvs 5 R).length c, .slice A (pvs 5 R).length c, .slice A' (pvs 5 T).length c'])),b3,false⟩,⟨1,76,CU.agg (fPS (.slice A (pvs 5 R).length c) (.slice A' (pvs 5 T).length c') (fPV 47 p) (fPV 95 d)),b,true⟩]:List Bx)-> ¬C z9.b:=fun x hx hc=>by
      cases hr9:x.r with
      |false=>have h8:=hNy x hx hr9;have h9:=hCl _ hc;omega
      |true=>
       have:x.b=b:=by simp only [zVU,zWB,or_false] at hx;rcases hx with rfl|rfl|rfl|rfl|rfl|rfl|rfl|rfl|rfl|rfl<;>first|rfl|cases hr9
       rw [this] at hc;exact hCb hc
     refine zFL rfl s iiz kI (q8 kI) hcx (hround (off+k) _ _ hlt1 hJ1 ⟨by simp,fun j f hj=> ?_⟩) fun a w bv hr hbv s=> ?_
     ·match j,hj with
      |0,hj=>obtain rfl:=zWL hj;rw [zMh,hev];exact s.at.sl 93
     have sy:=s
     have hsz2:=hr.size
     refine zCD (uB (!bv)) rfl s kI (zAy bv iiz (fun _=>rfl)) kI fun a w s=> ?_
     refine zA rfl ?_
     have hitr:=sy.itr_to (N:=W.heap.size) s.gr hNy oP
     refine StS.cond s (!bv) iiz (fun e=> ?_) (fun e=> ?_)
     ·have hz:=hZs _ _ (by rcases hbv with ⟨e2,_⟩|⟨_,hz⟩;rw [e2] at e;cases e;exact hz) hitr
      refine zVS ?_
      exact ⟨s.nd, .tuple #[],by simp [results,results64],⟨_,rfl⟩, .inr hz⟩
     ·have hJ2:=hJs _ _ _ (by rcases hbv with ⟨_,hj⟩|⟨e2,_⟩;exact hj;rw [e2] at e;cases e) hitr
      have hW3:=zVZ hws (zVZ hsz2 s.gr.size)
      have sx:=s
      replace s:=s.self (q8 kI)
      refine zVT ?_
      refine zZ 1 ((96, .u (uI ((k+1:Nat):Int))):: []) s kI
       (oc (yR .i64 (k:Int) 1 ((k+1:Nat):Int) iiz iiz (wrap64 _ _ oP oP))<|zD) fun a w20 s=> ?_
      replace s:=s.drop [39]
      refine zCD (uI ((k+1:Nat):Int)) rfl s kI zC kI fun a w s=> ?_
      refine zA rfl ?_
      have hit2:=sx.itr_to (N:=W.heap.size) s.gr hNy hW3
      have hsz4:=zVZ hW3 s.gr.size
      exact ⟨k+1,by show px.length - (k+1)<px.length - k;omega,by omega,fun h=>absurd h hR0,hJs _ _ _ hJ2 hit2,hsz4,((s.keepK [(0, .u (UF.eq (.func (.yield l_) #[] #[]))),(28, .u (UF.eq (.agg #[.slice A' (pvs 5 T).length c', .slice A (pvs 5 R).length c, .slice A (pvs 5 R).length c, .slice A' (pvs 5 T).length c']))),(29, .u (uI (i:Int))),(4, .u (uI (i:Int))),(6, .u (UF.eq x)),(7, .u (UF.eq y)),(37, .u (UF.eq x)),(38, .u (uI ((pvs 5 px).length:Int))),(39, .u (uI (((k+1):Nat):Int)))] (fmz ⟨.tail _ (.tail _ (.tail _ (.tail _ (.tail _ zCQ)))),fmz ⟨.tail _ (.tail _ (.tail _ (.tail _ (.tail _ (.tail _ zCQ))))),fmz ⟨.tail _ (.tail _ (.tail _ (.tail _ (.tail _ (.tail _ (.tail _ zCQ)))))),fmz ⟨.tail _ (.tail _ (.tail _ (.tail _ (.tail _ (.tail _ (.tail _ (.tail _ zCQ))))))),fmz ⟨.tail _ (.tail _ (.tail _ (.tail _ (.tail _ (.tail _ (.tail _ (.tail _ (.tail _ zCQ)))))))),fmz ⟨.tail _ (.tail _ (.tail _ (.tail _ (.tail _ (.tail _ (.tail _ (.tail _ (.tail _ (.tail _ zCQ))))))))),fmz ⟨.tail _ (.tail _ (.tail _ (.tail _ (.tail _ (.tail _ (.tail _ (.tail _ (.tail _ (.tail _ (.tail _ zCQ)))))))))),fmz ⟨.tail _ (.tail _ (.tail _ (.tail _ (.tail _ (.tail _ (.tail _ (.tail _ (.tail _ (.tail _ (.tail _ (.tail _ zCQ))))))))))),fmz ⟨.head _,fnz⟩⟩⟩⟩⟩⟩⟩⟩⟩)).popB.popB.popB.popB.popB.popB.popB).self (q8 kI)⟩
  ·have hk:k=px.length:=by have h7:=zVY e;simp at h7;omega
   have hR0:R.length≠0:=fun h=>by have:=hk0 h;have:=hpxN h (hi0 h);omega
   refine zV2 ?_
   refine zZ 1 ((97, .u (uI ((i+1:Nat):Int))):: []) s kI
    (oc (yR .i64 (i:Int) 1 ((i+1:Nat):Int) iiz iiz (wrap64 _ _ oP oP))<|zD) fun a w21 s=> ?_
   replace s:=s.drop [29]
   refine zCD (uI ((i+1:Nat):Int)) rfl s kI zC kI fun a w s=> ?_
   refine zA rfl ?_
   have hit2:=s0.itr_to (N:=W.heap.size) s.gr hN2 hWs
   have hsz4:=zVZ hWs s.gr.size
   exact ⟨i+1,by show 2 - (i+1)<2 - i;omega,by omega,fun h=>absurd h hR0,by have h9:=hJs _ _ _ hJ hit2;rw [hk, <-hoff2] at h9;exact h9,hsz4,((s.keepK [(0, .u (UF.eq (.func (.yield l_) #[] #[]))),(28, .u (UF.eq (.agg #[.slice A' (pvs 5 T).length c', .slice A (pvs 5 R).length c, .slice A (pvs 5 R).length c, .slice A' (pvs 5 T).length c']))),(29, .u (uI (((i+1):Nat):Int)))] (fmz ⟨mz3,fmz ⟨mz4,fmz ⟨.head _,fnz⟩⟩⟩)).popB).self (q8 kI)⟩
 ·have hi2:i=2:=by have h7:=zVY e;omega
  have hR0:R.length≠0:=fun h=>by have:=hi0 h;omega
  refine zV2 ?_
  exact ⟨s.nd, .tuple #[],by simp [results,results64],⟨_,rfl⟩, .inl (by rw [zIl hR0];have h9:=hJs _ _ _ hJ (s0.itr_to (N:=W.heap.size) s.gr hN1 hWs);rw [hi2] at h9;exact h9)⟩
theorem zRc {T R:List V2} (hT:0<T.length) {a d:V2} {t:Rat} (h0:0<=t/\t<=1) (h:(zAK T R a d).2=true) (ho:t<(zAK T R a d).1.1∨(zAK T R a d).1.2<t):yX (yS R (lpt a d t)) T=true:=by
 obtain ⟨g1,g2,g3,g4⟩:=(zJq hT a d).1 h
 generalize (zAK T R a d).1=s at*
 cases c:yX (yS R (lpt a d t)) T with
 |true=>rfl
 | false=>
  obtain ⟨z,hz,hn⟩:=zTv _ t ((zE5 hT a d t).2 c)
  have key: ∀r,t - z<r->r<t+z->0<r->r<1->(r<s.1∨s.2<r)->False:=fun r q1 q2 q3 q4 q5=>by
   have:=(g4 r).2 ⟨⟨q3,q4⟩,(zE5 hT a d r).1 (hn r q1 q2)⟩
   rcases q5 with q5|q5
   ·grind
   ·grind
  exfalso
  rcases ho with ho|ho
  ·by_cases q:z<=s.1 - t
   ·exact key (t+z / 2) (by grind) (by grind) (by grind) (by grind) (.inl (by grind))
   ·exact key ((t+s.1) / 2) (by grind) (by grind) (by grind) (by grind) (.inl (by grind))
  ·by_cases q:z<=t - s.2
   ·exact key (t - z / 2) (by grind) (by grind) (by grind) (by grind) (.inr (by grind))
   ·exact key ((t+s.2) / 2) (by grind) (by grind) (by grind) (by grind) (.inr (by grind))
def zD9 (R:List V2) (Ts:List V6) (a b:V2):Bool:= !(Ts.any fun t=>(zAK (tl t) R a (yU b a)).2)
def zBn (R:List V2) (Ts:List V6) (p:V2):Bool:= !(Ts.any fun t=> !(yX (yS R p) (tl t)))
theorem zFm (t:V6):0<(tl t).length:=by show 0<3;decide
theorem zOa {R:List V2} {Ts:List V6} {a b:V2}:zD9 R Ts a b=true↔ ∀s,(0<=s/\s<=1)->zBn R Ts (lpt a (yU b a) s)=true:=by
 unfold zD9 zBn
 simp only [Bool.not_eq_true',zWc]
 constructor
 ·intro h s hs t ht
  have h1:(zAK (tl t) R a (yU b a)).2=false:=by have:=h t ht;simpa using this
  rw [(zGr (zFm t) a _).1 h1 s hs]
  decide
 ·intro h t ht
  rw [(zGr (zFm t) a _).2 fun s hs=>by have:=h s hs t ht;simpa using this]
  decide
def zBz (x y:Rat):Rat:=if decide (qsg x y<0)=true then y - x else x - y
def zJY (p q:V2):Rat:=zBz p.1 q.1+zBz p.2 q.2
theorem zQt (R:List V2) (T:V6) (a b:V2) {t:Rat} (ht:0<=t/\t<=1):let S:=zAK (tl T) R a (yU b a)
  (S.2=false->zBn R [T] (lpt a (yU b a) t)=true/\zD9 R [T] a b=true)/\
  (S.2=true->zD9 R [T] a b=false/\0<=S.1.1/\S.1.2<=1/\S.1.1<S.1.2/\zBn R [T] (lpt a (yU b a) ((S.1.1+S.1.2) / 2))=false/\
   ((S.1.1<t/\t<S.1.2)->zBn R [T] (lpt a (yU b a) t)=false)/\((t<S.1.1∨S.1.2<t)->zBn R [T] (lpt a (yU b a) t)=true)):=by
 intro S
 have hf: ∀p,zBn R [T] p=yX (yS R p) (tl T):=fun p=>by
  unfold zBn
  simp
 have hl:zD9 R [T] a b= !S.2:=by
  unfold zD9
  simp [S]
 constructor
 ·intro h
  rw [hf,hl,h]
  exact ⟨(zGr (zFm T) a _).1 h t ht,rfl⟩
 ·intro h
  obtain ⟨g1,g2,g3,g4⟩:=(zJq (zFm T) a _).1 h
  rw [hl,h,hf,hf]
  refine ⟨rfl,g2,g3,g1,((g4 _).1 (zPg g1)).2,fun hi=>((g4 t).1 hi).2,fun ho=>zRc (zFm T) ht h ho⟩
theorem zN9 {R:List V2} {Ts:List V6} {a b:V2} {t:Rat} (ht:0<=t/\t<=1) (h:zD9 R Ts a b=true):zBn R Ts (lpt a (yU b a) t)=true:=zOa.1 h t ht
end Go.Proofs.Wd

namespace Go.Proofs.Wd
open Tryz
set_option maxRecDepth 100000
set_option maxHeartbeats 1000000
open Go.RowKit Lb
section
variable {S:Nat->Prop} {F:Fence} {m:Nat} {P:Ws} {Q:Exit->Act->Wm->Prop} {w0 w1:Wm} {K:List (Nat×KF)} {B:List Bx} {n:Nat} {ds:List Deferred} {a:Act} {w:Wm} {ops:Array Oper} {D:List Nat} {CW:Wm->Prop}
def zUP (ts:List Nat) (B:List Bx):List Bx:=B.map fun x=>⟨x.t,x.e,x.c,x.b,x.r||ts.contains x.t⟩
theorem yQ.freezeT (ts:List Nat): ∀(B:List Bx),yQ S w0 a w B->yQ S w0 a w (zUP ts B)
 | [],_=>trivial
 |x::B,⟨⟨cs,h1,h2,h3,h4,h5,h6⟩,h7⟩=>⟨⟨cs,h1,h2.imp (fun e=>by show (x.r||_)=true;rw [e];rfl) id,h3,h4,h5,fun y hy=>by
  obtain ⟨z,hz,rfl⟩:=zV6.1 hy
  refine (h6 z hz).imp id fun ⟨e1,e2⟩=>⟨?_, ?_⟩
  ·show (x.r||_)=true;rw [e1];rfl
  ·show (z.r||_)=true;rw [e2];rfl⟩,yQ.freezeT ts B h7⟩
theorem StS.freezeT (ts:List Nat) (h:StS S w0 K B n ds a w):StS S w0 K (zUP ts B) n ds a w:=⟨h.gr,h.size,h.nd,h.sl,yQ.freezeT ts B h.bx,h.mks,h.so⟩
theorem vF: ∀{B:List Bx},yQ S w0 a w B-> ∀x y,x∈B->y∈B->x.r=false->y.r=true->y.b≠x.b
 | [],_,_,_,hx,_,_,_=>by cases hx
 | z::B,⟨⟨cs,_,_,_,_,_,h6⟩,h7⟩,x,y,hx,hy,e1,e2=>by
  rcases zVU.1 hx with rfl|hx'<;>rcases zVU.1 hy with rfl|hy'
  ·rw [e1] at e2;cases e2
  ·rcases h6 y hy' with h|h
   ·exact h
   ·rw [h.1] at e1;cases e1
  ·rcases h6 x hx' with h|h
   ·exact fun e=>h e.symm
   ·rw [h.2] at e1;cases e1
  ·exact vF h7 x y hx' hy' e1 e2
theorem StS.notIn (h:StS S w0 K B n ds a w) {c:Nat} {z:Bx} (hB:zDw B c=some z) (hr:z.r=true): ¬inB B z.b:=fun ⟨x,hx,e,hx2⟩=>vF h.bx x z hx (jE hB).1 hx2 hr e.symm
theorem yQ.two: ∀{B:List Bx},yQ S w0 a w B-> ∀x y,x∈B->y∈B->x.t≠y.t->x.r=false->y.b≠x.b
 | [],_,_,_,hx,_,_,_=>by cases hx
 | z::B,⟨⟨cs,_,_,_,_,_,h6⟩,h7⟩,x,y,hx,hy,ht,e1=>by
  rcases zVU.1 hx with rfl|hx'<;>rcases zVU.1 hy with rfl|hy'
  ·exact absurd rfl ht
  ·rcases h6 y hy' with h|h
   ·exact h
   ·rw [h.1] at e1;cases e1
  ·rcases h6 x hx' with h|h
   ·exact fun e=>h e.symm
   ·rw [h.2] at e1;cases e1
  ·exact yQ.two h7 x y hx' hy' ht e1
theorem StS.twoB (h:StS S w0 K B n ds a w) (c c':Nat) {y z:Bx} (hc:zDw B c=some y) (hc':zDw B c'=some z) (hne:Nat.beq y.t z.t=false) (hr:y.r=false):z.b≠y.b:=yQ.two h.bx y z (jE hc).1 (jE hc').1 (Nat.ne_of_beq_eq_false hne) hr
theorem zPZ {z b o k c:Nat} {Cs:List CU} {W W':Wm} (h:(SF.row z Cs).p (.slice (some ⟨b,o,none⟩) k c) W) (hb:W'.heap[b]?=W.heap[b]?) (hk:jS W W'):(SF.row z Cs).p (.slice (some ⟨b,o,none⟩) k c) W':=by
 obtain ⟨A,c,e,h2,h3,h4,h5⟩:=h
 refine ⟨A,c,e,h2,h3,h4,fun i C hi=> ?_⟩
 obtain ⟨b',o',cs,g1,g2,g3⟩:=h5 i C hi
 refine ⟨b',o',cs,g1,fun j u hj=> ?_,C.us _ _ _ g3 hk⟩
 have:b'=b:=by
  rw [g1] at e
  injection e with e1
  injection e1 with e2
  injection e2 with e3
  exact e3.symm
 subst this
 exact (World.cell?_of_block hb).trans (g2 j u hj)
theorem StS.resM3 (h:St w0 K B n ds a w) {fn:Func} (f:UF) {t s r kk kk':Nat} {e e' e'':Wp} (C C':CU) (v:Wn) (hr:fn.results=#[.cell t e, .cell s e', .cell r e'']) (hsz:zAb P e=some kk) (hsz':zAb P e'=some kk') (hsz'':zB5 P e''=true)
  {y:Bx} (hB:zDw B t=some y) (hyC:y.c=C) (hyl: ∀cs W,C.p cs W->cs.length=kk) {y':Bx} (hB':zDw B s=some y') (hyC':y'.c=C') (hyl': ∀cs W,C'.p cs W->cs.length=kk') {y'':Bx} (hB'':zDw B r=some y'') (hyl'': ∀cs W,y''.c.p cs W->cs= [v])
  (hd: ∀cs cs' W,C.p cs W->C'.p cs' W->f.p (.tuple #[.agg cs.toArray, .agg cs'.toArray,v]) W):bodyPostM Fence.wide 0 P fn (Ret w0 f.tS) .ret a w:=by
 obtain ⟨cs,b,h0,h2,h1⟩:=h.cellM hsz hB hyC hyl (N:=w0.heap.size)
 obtain ⟨cs',b',h0',h2',h1'⟩:=h.cellM hsz' hB' hyC' hyl' (N:=w0.heap.size)
 obtain ⟨hy,rfl⟩:=jE hB''
 obtain ⟨cs'',g1,g2,g3,g4,g5⟩:=h.bx.mem y'' hy
 have e1:=hyl'' cs'' w g4
 have g0:a.tmps[y''.t]?.getD undef= (pO y''.b 0):=by rw [<-zWQ];exact g1
 refine h.resM (v:= .tuple #[.agg cs.toArray, .agg cs'.toArray,v]) (fun w' ho=> ?_) fun w' ho=>f.oth ho (hd _ _ _ h2 h2')
 have hm:=qO (zES ho g3)
 have:=jX hsz'' hm (u:=v) (by rw [e1];rfl)
 simp [results,hr,asAddr,h0,h1 w' ho,h0',h1' w' ho,g0,this]
def GBs (wb:Wm) (L:List (Nat×Obj)):Wm->Prop:=fun W=>Below wb.heap.size wb W/\ ∀q,q∈L->W.heap[q.1]?=some q.2
theorem zPk {wb:Wm} {L:List (Nat×Obj)} (h:Below wb.heap.size wb w) (ho: ∀q,q∈L->w.heap[q.1]?=some q.2):Gr (GBs wb L) w:=fun _ hb=>⟨h.trans (hb.mono h.size),fun q hq=>(hb.block q.1 (zWl.1 (ho q hq)).1).trans (ho q hq)⟩
theorem zIj {wb:Wm} {L:List (Nat×Obj)} (h:Below wb.heap.size wb w) (ho: ∀q,q∈L->w.heap[q.1]?=some q.2) {c:Nat} (hc:wb.heap.size<=c) (hne: ∀q,q∈L->q.1≠c) (vs:Array Wn):Gr (GBs wb L) (w.setRow c vs):=zPk (zJ8 h hc) fun q hq=>(setRow_other w c q.1 vs (hne q hq)).trans (ho q hq)
theorem zHQ {i c kk o:Nat} {t:Wp} {x y:Wr} {ty:Wp} {pos:String} {aft:Array Edge} (C:CU) (f:SF) (h:StS S w0 K B n ds a w) (ho:ops[i]?=some ⟨none, .store t x y,ty,pos,aft,none⟩) (hrd:Region.ready .any ops (lst ops.size D)= [i]) (hsz:zJo P t=some kk) {z:Bx} (hB:zDw B c=some z) (hro:z.r=false)
  (hp: ∀v W,(Wd.fct (jZ K B) x).p v W->v= pO z.b o) (hy: ∀v W,(Wd.fct (jZ K B) y).p v W->f.p v W)
  (hv: ∀v W,f.p v W->v.cells.size=kk/\(∀u,u∈v.cells.toList->u.oneCell'=true)/\v.cells.toList.all zY=true/\ ∀cs,z.c.p cs W->o+kk<=cs.length/\C.p (jW cs o v.cells.toList) W)
  (hcw: ∀vs:Array Wn,Gr CW (w.setRow z.b vs))
  (fin: ∀w',Gr CW w'->StS S w0 K (zD5 B c C) n ds a w'->zIr F m P ops CW Q (i::D) a w'):zIr F m P ops CW Q D a w:=by
 obtain ⟨hz,hzc⟩:=jE hB
 obtain ⟨cs,h1,h2,h3,h4,h5⟩:=h.bx.mem z hz
 have e1:=hp _ _ (h.fct x)
 obtain ⟨g1,g2,g3,g4⟩:=hv _ _ (hy _ _ (h.fct y))
 obtain ⟨g5,g6⟩:=g4 cs h4
 have hk:jS w (w.setRow z.b (jW cs o (a.eval y).cells.toList).toArray):=zBG h3 (by simpa using h5)
 have hrun:(execOp a.eval ⟨none, .store t x y,ty,pos,aft,none⟩).run P w= .ok .skip (w.setRow z.b (jW cs o (a.eval y).cells.toList).toArray):=by
  unfold zJo at hsz
  cases hi:P.info? t with
  |none=>rw [hi] at hsz;cases hsz
  |some i=>
   rw [hi] at hsz
   simp only [Option.map_some,Option.some.injEq] at hsz
   have hr:=zAX (P:=P) (a.eval y).cells.toList o cs w h3 (by simp;omega) g2
   have hs:=zBQ (b:=z.b) (a.eval y).cells.toList o 0
   rw [Nat.add_zero] at hs
   simp [execOp,Instr.storeAt,Instr.sureAddr,e1,storeVar,sizeOf,typeInfo,hi,hsz,g1,hs,hr]
 refine zIR hrd ho (zED rfl) ⟨fun f hf=>(by cases hf), ?_⟩
 rw [Oper.semAt_eq _ _ _ (fun _ e=>by cases e),hrun]
 have hg:=hcw (jW cs o (a.eval y).cells.toList).toArray
 refine ⟨hg _ (zV8 _ _),fin _ hg (h.turn hB hro (zCw w z.b _) (setRow_heap w z.b cs.toArray _ z.e (0,0) h3) (C.us _ _ _ g6 hk) ?_)⟩
 unfold jW
 simp only [List.all_append,zWk]
 exact ⟨⟨zWh.2 fun u hu=>zWh.1 h5 u (List.mem_of_mem_take hu),g3⟩,zWh.2 fun u hu=>zWh.1 h5 u (List.mem_of_mem_drop hu)⟩
end
section
variable {F:Fence} {m:Nat} {P:Ws} {w0:Wm} {ops:Array Oper} {G:Nat->SF} {d:Tmp} {ty:Wp} {pos:String} {aft:Array Edge} {CW:Wm->Prop} {x:Wr} {t:Wp}
theorem zEv {op:Op} (hc: ∀c,op≠ .call c) (h: ∀(b:Act) (W:Wm),(∀x,x∈op.operands.toList->(fct G x).p (b.eval x) W)-> ∃v, ∀W',CW W'->(execOp b.eval ⟨some d,op,ty,pos,aft,none⟩).run P W'= .ok (.value v) W'):FdC P CW w0 ops G ⟨some d,op,ty,pos,aft,none⟩:=by
 intro b W hb hr
 obtain ⟨v,hv⟩:=h b W fun x hx=>qA (fun t ht=>hr t (by unfold looks;simpa using ht)) hx
 refine ⟨v, .inl ⟨rfl,hv⟩,fun w=> ?_⟩
 unfold Oper.about
 split
 ·rename_i c hcc;exact absurd hcc (hc c)
 ·rfl
theorem zOh {a:Addr} (hx: ∀v W,(fct G x).p v W->v= .pointer (some a)):FdC P CW w0 ops G ⟨some d, .nilCheck x,ty,pos,aft,none⟩:=
 zEv (fun _ e=>by cases e) fun b W hh=>by
  have e:=hx _ _ (hh x (by simp [Op.operands]))
  exact ⟨.pointer (some a),fun W' _=>by simp [execOp,e]⟩
theorem zOi {s:Wp} {f:Nat} {b o:Nat} (k:Nat) (hk:zBM P s f=some k) (hx: ∀v W,(fct G x).p v W->v= pO b o):FdC P CW w0 ops G ⟨some d, .fieldAddr s x f,ty,pos,aft,none⟩:=
 zEv (fun _ e=>by cases e) fun c W hh=>by
  have e:=hx _ _ (hh x (by simp [Op.operands]))
  refine ⟨.pointer (some ⟨b,o+k,none⟩),fun W' _=> ?_⟩
  unfold zBM at hk
  split at hk<;>try cases hk
  rename_i fs hu
  split at hk<;>try cases hk
  rename_i f' hf
  split at hk<;>try cases hk
  rename_i i hi
  split at hk<;>try cases hk
  rename_i hz
  simp [execOp,Instr.fieldAt,zWo hu,hf,e,Instr.sureAddr,fieldPlace,sizeOf,typeInfo,hi,hz,zWp]
theorem zQR {wb:Wm} {L:List (Nat×Obj)} {b:Nat} {cs:List Wn} {te:Wp} (u:Wn) (ht:zB5 P t=true) (hL:(b,Obj.cells cs.toArray te (0,0))∈L) (hu:cs[0]?=some u) (hx: ∀v W,(fct G x).p v W->v= pO b 0):FdC P (GBs wb L) w0 ops G ⟨some d, .load t x,ty,pos,aft,none⟩:=
 zEv (fun _ e=>by cases e) fun c W hh=>by
  have e:=hx _ _ (hh x (by simp [Op.operands]))
  exact ⟨u,fun W' hW=>by simp [execOp,Instr.loadAt,e,Instr.sureAddr,jX ht (qO (hW.2 _ hL)) hu]⟩
theorem zQS {wb:Wm} {L:List (Nat×Obj)} {b o kk:Nat} {cs:List Wn} {te:Wp} (hk:zAb P t=some kk) (hL:(b,Obj.cells cs.toArray te (0,0))∈L) (hl:o+kk<=cs.length) (hx: ∀v W,(fct G x).p v W->v= .pointer (some ⟨b,0+o,none⟩)):FdC P (GBs wb L) w0 ops G ⟨some d, .load t x,ty,pos,aft,none⟩:=
 zEv (fun _ e=>by cases e) fun c W hh=>by
  have e:=hx _ _ (hh x (by simp [Op.operands]))
  exact ⟨.agg ((cs.drop o).take kk).toArray,fun W' hW=>by simp only [execOp,Instr.loadAt,e,Instr.sureAddr,zWs,zWt,zWG,zAY hk ((qO (hW.2 _ hL)).drop o) (show kk<=(cs.drop o).length by rw [List.length_drop];omega)]⟩
theorem zPa {b o kk:Nat} {cs:List Wn} (f:UF) (hm:Mem w0 b 0 cs) (hk:zAb P t=some kk) (hx: ∀v W,(fct G x).p v W->v= .pointer (some ⟨b,0+o,none⟩)) (hf:o+kk<=cs.length/\f.p (.agg ((cs.drop o).take kk).toArray) w0) (hd: ∀v W,f.p v W->(G d).p v W:=by exact fun _ _ h=>h):qP F m P w0 ops G ⟨some d, .load t x,ty,pos,aft,none⟩:=
 qU (fun _ e=>by cases e) (fun _ e=>by cases e) fun c W hb hh=>by
  have e:=hx _ _ (hh x (by simp [Op.operands]))
  exact ⟨.agg ((cs.drop o).take kk).toArray,by simp only [execOp,Instr.loadAt,e,Instr.sureAddr,zWs,zWt,zWG,zAY hk ((hm.below hb).drop o) (show kk<=(cs.drop o).length by rw [List.length_drop];omega)],hd _ _ (f.us _ _ _ hf.2 (zS hb))⟩
theorem zLr {b o:Nat} (n:Nat) (el:Wp) (ht:P.underlying t=some (.array n el)) (hi:(P.info? el).isSome=true) (hx: ∀v W,(fct G x).p v W->v= pO b o) (hd: ∀W,(G d).p (.slice (some ⟨b,o,none⟩) n n) W:=by exact fun _=>rfl):qP F m P w0 ops G ⟨some d, .slice t x none none none,ty,pos,aft,none⟩:=
 qU (fun _ e=>by cases e) (fun _ e=>by cases e) fun c W hb hh=>by
  have e:=hx _ _ (hh x (by simp [Op.operands]))
  obtain ⟨ie,hie⟩:=zWM.1 hi
  refine ⟨.slice (some ⟨b,o,none⟩) n n, ?_,hd W⟩
  simp [execOp,Instr.sliceAt,zWo ht,e,Instr.sureAddr,Instr.sliceBounds,sizeOf,typeInfo,hie,zWp]
theorem zLB {i j k l:Nat} {y z u:Wr} (h: ∀u1 u2 u3 u4 W,(fct G x).p u1 W->(fct G y).p u2 W->(fct G z).p u3 W->(fct G u).p u4 W-> ∃cells,P.built t [(i,u1),(j,u2),(k,u3),(l,u4)]=some cells/\(G d).p (.agg cells) W):qP F m P w0 ops G ⟨some d, .build t #[(i,x),(j,y),(k,z),(l,u)],ty,pos,aft,none⟩:=
 zEm fun b W hb hh=>by
  obtain ⟨cells,h1,h2⟩:=h _ _ _ _ W (hh x fP) (hh y fP) (hh z fP) (hh u fP)
  exact ⟨cells,by simpa using h1,h2⟩
end
theorem zTh {T:V6} {v:Wn} {W:Wm} (h:(fTR 5 T).p v W): ∀p,p∈tl T->QB p.1 5/\QB p.2 5:=by
 obtain ⟨a,b,c,rfl,h1,h2,h3⟩:=h
 intro p hp
 rcases zVU.1 hp with rfl|hp
 ·exact zA7 dB (v:= .agg a.toArray) h1
 ·rcases zVU.1 hp with rfl|hp
  ·exact zA7 dB (v:= .agg b.toArray) h2
  ·obtain rfl:=zV1.1 hp
   exact zA7 dB (v:= .agg c.toArray) h3
def yB (S:V2×Bool):V2:=if S.2=true then S.1 else (((0:Int):Rat),((0:Int):Rat))
theorem zMA {S:V2×Bool} (h:S.2=true):yB S=S.1:=if_pos h
theorem zPt {S:V2×Bool} (h:S.2=false):yB S=(((0:Int):Rat),((0:Int):Rat)):=if_neg (by rw [h];decide)
theorem zNe {p e:V2} (hp:QB p.1 47/\QB p.2 47) (he:QB e.1 47/\QB e.2 47):QB (yU e p).1 95/\QB (yU e p).2 95:=⟨(he.1.sub hp.1).mono dB,(he.2.sub hp.2).mono dB⟩
theorem zL4 {v u:Wn} {C:Prop} (hC:C) (h:v=u) (h1:u.cells=#[u]) (h2:zY u=true) (h3:u.oneCell'=true):v.cells.size=1/\(∀x,x∈v.cells.toList->x.oneCell'=true)/\v.cells.toList.all zY=true/\ ∀cs:List Wn,cs.length=1->0+1<=cs.length/\jW cs 0 v.cells.toList= [u]/\C:=by
 subst h
 refine ⟨by rw [h1];rfl,fun x hx=> ?_, ?_,fun cs hl=> ?_⟩
 ·rw [h1] at hx
  obtain rfl:x=v:=by simpa using hx
  exact h3
 ·rw [h1];simp [h2]
 ·obtain ⟨c,rfl⟩:=List.length_eq_one_iff.1 hl
  exact ⟨by simp,by rw [h1];rfl,hC⟩
theorem zPO {u:Wn} {C:CU} (hC: ∀cs W,C.p cs W->cs.length=1) (h1:u.cells=#[u]) (h2:zY u=true) (h3:u.oneCell'=true) (v:Wn) (W:Wm) (h:v=u):v.cells.size=1/\(∀x,x∈v.cells.toList->x.oneCell'=true)/\v.cells.toList.all zY=true/\ ∀cs,C.p cs W->0+1<=cs.length/\(wC [u]).p (jW cs 0 v.cells.toList) W:=by
 obtain ⟨g1,g2,g3,g4⟩:=zL4 trivial h h1 h2 h3
 exact ⟨g1,g2,g3,fun cs hc=>⟨(g4 cs (hC cs W hc)).1,(g4 cs (hC cs W hc)).2.1⟩⟩
theorem zMx {W:Wm} {u v x:Wn} {R:List V2} {T:V6} {p e_:V2} {A:Wq Addr} {c:Nat} (hr_:(SF.row 6 (pvs 5 R)).p (.slice A (pvs 5 R).length c) W) (hx:(fTR 5 T).p x W) (h1:(fPV 47 p).p u W) (h2:(fPV 47 e_).p v W) (hn:R.length<=1000000) (hT:Tab W):Calls prog 15 #[(.slice A (pvs 5 R).length c),x,u,v] W (Ret W (zC2 (fQN (yB (zAK (tl T) R p (yU e_ p))).1) (fQN (yB (zAK (tl T) R p (yU e_ p))).2) (fB (zAK (tl T) R p (yU e_ p)).2)).tS):=by
 have hd95:=zNe (zA7 dB h1) (zA7 dB h2)
 have hT5: ∀q,q∈tl T->QB q.1 5/\QB q.2 5:=zTh hx
 have hcq:=zIn (m:=185) (n:=213) (M:=430) (fun e he=>by have h9:=zPm hT5 (zCP dB hr_) (zA7 dB h1) hd95 e he;exact ⟨h9.1.mono dB,h9.2.mono dB⟩) dB dB
 refine zKI [(UF.eq (.slice A (pvs 5 R).length c)).tS,(fTR 5 T).tS,(fPV 47 p).tS,(fPV 47 e_).tS] func15 rfl kI ⟨rfl,hx,h1,h2,trivial⟩ fun a s=> ?_
 replace s:=s.renew [(0, .u (UF.eq (.slice A (pvs 5 R).length c))),(1, .u (fTR 5 T)),(2, .u (fPV 47 p)),(3, .u (fPV 47 e_))] (fmz ⟨.inr ⟨_,rfl, .head _⟩,fmz ⟨.inr ⟨_,rfl,mz1⟩,fmz ⟨.inr ⟨_,rfl,mz2⟩,fmz ⟨.inr ⟨_,rfl,mz3⟩,fnz⟩⟩⟩⟩)
 refine zVR ?_
 refine zB 0 [] hmix s kI
  zD fun a w1 s=> ?_
 refine yN (CU.agg (fTR 5 T)) rfl s kI (fun v W h=>zOU h) fun b5 a w s=> ?_
 refine yN (CU.agg (fPV 47 p)) rfl s kI (fun v W h=>qC h) fun b6 a w s=> ?_
 refine yN (CU.agg (fPV 47 e_)) rfl s kI (fun v W h=>qC h) fun b7 a w s=> ?_
 refine zU (CU.len 3) (cs:=zR3) kI rfl s kI (fun W=>rfl) rfl fun b8 a w s=> ?_
 refine zU (CU.len 3) (cs:=zR3) kI rfl s kI (fun W=>rfl) rfl fun b9 a w s=> ?_
 refine zU (wG (.bool false) True) (cs:= [.bool false]) kI rfl s kI (fun W=>⟨rfl,trivial⟩) rfl fun b10 a w s=> ?_
 refine zA rfl ?_
 refine (wpIn_wide (n:=0)).2 (wp_scope_straight ((wpIn_wide (n:=0)).1 ?_))
 refine zVR ?_
 refine zB 3 ((13, .Z (fQN ((0:Int):Rat)))::(14, .Z (fQN ((1:Int):Rat)))::(15, .u (fPN (((0:Int):Rat),((1:Int):Rat)))):: []) hmix s kI
  (oc (zH zE zHo (fun u0 W hb (h0:u0= .int .i64 0)=>zHN _ h0 dB))<|oc (zH zE zHo (fun u0 W hb (h0:u0= .int .i64 1)=>zHN _ h0 dB))<|oc (yY (fun u v W (hu:QNp ((0:Int):Rat) u W) (hv:QNp ((1:Int):Rat) v W)=>zVi (zAz _) (zAz _) hu hv))<|zD) fun a w2 s=> ?_
 refine yN (CU.agg (fPN (((0:Int):Rat),((1:Int):Rat)))) rfl s kI (fun v W h=>qC h) fun b16 a w s=> ?_
 refine zU (CU.len 1) (cs:= [.pointer none]) kI rfl s kI (fun W=>rfl) rfl fun b11 a w s=> ?_
 refine q9 (c:=11) (o:=0) (kk:=1) (wC [pO b16 0]) ((UF.eq (pO b16 0)).tS) rfl s kI rfl rfl (fun _ _ h=>h.1) (fun _ _ h=>h.1) (zPO iiz rfl rfl rfl) fun a w s=> ?_
 refine zA rfl ?_
 refine zVR ?_
 refine zB 0 [] hmix s kI
  zD fun a w3 s=> ?_
 refine q9 (c:=10) (o:=0) (kk:=1) (wG (.bool true) True) ((uB true).tS) rfl s kI rfl rfl (fun _ _ h=>h.1) iiz (zCT fun cs W h=>⟨(zGf cs W h).1,trivial⟩) fun a w s=> ?_
 refine zA rfl ?_
 refine zVR ?_
 refine wpIn_label ?_
 refine zVR ?_
 refine zVR ?_
 replace s:StS noS W _ [⟨11,70,wC [pO b16 0],b11,true⟩,⟨16,72,CU.agg (fPN (((0:Int):Rat),((1:Int):Rat))),b16,false⟩,⟨10,4,wG (.bool true) True,b10,false⟩,⟨9,29,CU.len 3,b9,false⟩,⟨8,29,CU.len 3,b8,false⟩,⟨7,31,CU.agg (fPV 47 e_),b7,true⟩,⟨6,31,CU.agg (fPV 47 p),b6,true⟩,⟨5,42,CU.agg (fTR 5 T),b5,true⟩] _ _ a _:=s.freezeT [5,6,7,11]
 have soc:=s.old
 have o11:b11<_:=soc _ (.head _)
 have o16:b16<_:=soc _ mz1
 have o10:b10<_:=soc _ mz2
 have o9:b9<_:=soc _ mz3
 have o8:b8<_:=soc _ mz4
 have o7:b7<_:=soc _ mz5
 have o6:b6<_:=soc _ mz6
 have o5:b5<_:=soc _ mz7
 refine jG 8 ((17, .Z (UF.eq (.slice A (pvs 5 R).length c)))::(18, .Z (UF.eq (.slice (some ⟨b5,0,none⟩) 3 3)))::(19, .Z (fPV 47 p))::(20, .Z (fPV 47 e_))::(21, .Z (fPV 47 p))::(22, .Z (fPN (yU e_ p)))::(23, .Z (fPS (.slice A (pvs 5 R).length c) (.slice (some ⟨b5,0,none⟩) 3 3) (fPV 47 p) (fPV 95 (yU e_ p))))::(24, .s (zJZ w 64 76 (CU.agg (fPS (.slice A (pvs 5 R).length c) (.slice (some ⟨b5,0,none⟩) 3 3) (fPV 47 p) (fPV 95 (yU e_ p)))))):: []) hmix s kI
  (oc zC<|oc (zLr (b:=b5) (o:=0) 3 31 kI kI (fun _ _ h=>h.1))<|oc (zI (f:=fPV 47 p) 6 kI (hz:=zX _ _))<|oc (zI (f:=fPV 47 e_) 6 kI (hz:=zX _ _))<|oc (zI (f:=fPV 47 p) 6 kI (hz:=zX _ _))<|oc (zJ zE zOo (fun u0 u1 W hb (h0:(fPV 47 e_).p u0 W) (h1:(fPV 47 p).p u1 W)=>zIu (m:=47) (p:=e_) (q:=p) h0 h1 dB dB (hT.below (s.up hb))))<|oc (zLB (fun u1 u2 u3 u4 W (h1':u1=(.slice A (pvs 5 R).length c)) (h2':u2=(.slice (some ⟨b5,0,none⟩) 3 3)) (h3':(fPV 47 p).p u3 W) (h4':(fPN (yU e_ p)).p u4 W)=>by subst h1' h2';exact zVj h3' (zCa (p:=yU e_ p) (m:=95) hd95.1 hd95.2 h4')))<|oc (zH zE zT7 (fun u0 W hb (h0:(fPS (.slice A (pvs 5 R).length c) (.slice (some ⟨b5,0,none⟩) 3 3) (fPV 47 p) (fPV 95 (yU e_ p))).p u0 W)=>(zOz h0).mono (wI (zHk hb.size))))<|zD) fun a w4 s hr=> ?_
 refine zA rfl ?_
 refine zVV ?_
 obtain ⟨bc,csc,ec,hbc,hhc,hcc,hnc⟩:=hr (_,_) mz7
 replace s:=(s.keepK [] fnz).learn 24 _ ec
 replace s:StS noS W _ [⟨11,70,wC [pO b16 0],b11,true⟩,⟨16,72,CU.agg (fPN (zAJ (evs (tl T) R p (yU e_ p)) 0).1),b16,false⟩,⟨10,4,wG (.bool true) ((zAJ (evs (tl T) R p (yU e_ p)) 0).2=true),b10,false⟩,⟨9,29,CU.len 3,b9,false⟩,⟨8,29,CU.len 3,b8,false⟩,⟨7,31,CU.agg (fPV 47 e_),b7,true⟩,⟨6,31,CU.agg (fPV 47 p),b6,true⟩,⟨5,42,CU.agg (fTR 5 T),b5,true⟩] f15.ntmps _ a w4:=s.weakB 10 (wG (.bool true) ((zAJ (evs (tl T) R p (yU e_ p)) 0).2=true)) rfl (jY kI) (fun cs W h=>⟨h.1,rfl⟩)
 have hCn: ∀q,inB ([⟨11,70,wC [pO b16 0],b11,true⟩,⟨16,72,CU.agg (fPN (zAJ (evs (tl T) R p (yU e_ p)) 0).1),b16,false⟩,⟨10,4,wG (.bool true) ((zAJ (evs (tl T) R p (yU e_ p)) 0).2=true),b10,false⟩,⟨9,29,CU.len 3,b9,false⟩,⟨8,29,CU.len 3,b8,false⟩,⟨7,31,CU.agg (fPV 47 e_),b7,true⟩,⟨6,31,CU.agg (fPV 47 p),b6,true⟩,⟨5,42,CU.agg (fTR 5 T),b5,true⟩]) q->W.heap.size<=q:=fun q hq=>s.inB_new hq
 have hCl: ∀q,inB ([⟨11,70,wC [pO b16 0],b11,true⟩,⟨16,72,CU.agg (fPN (zAJ (evs (tl T) R p (yU e_ p)) 0).1),b16,false⟩,⟨10,4,wG (.bool true) ((zAJ (evs (tl T) R p (yU e_ p)) 0).2=true),b10,false⟩,⟨9,29,CU.len 3,b9,false⟩,⟨8,29,CU.len 3,b8,false⟩,⟨7,31,CU.agg (fPV 47 e_),b7,true⟩,⟨6,31,CU.agg (fPV 47 p),b6,true⟩,⟨5,42,CU.agg (fTR 5 T),b5,true⟩]) q->q<w4.heap.size:=fun q ⟨z9,hz9,e9,_⟩=>e9▸s.old z9 hz9
 have hC5: ¬inB ([⟨11,70,wC [pO b16 0],b11,true⟩,⟨16,72,CU.agg (fPN (zAJ (evs (tl T) R p (yU e_ p)) 0).1),b16,false⟩,⟨10,4,wG (.bool true) ((zAJ (evs (tl T) R p (yU e_ p)) 0).2=true),b10,false⟩,⟨9,29,CU.len 3,b9,false⟩,⟨8,29,CU.len 3,b8,false⟩,⟨7,31,CU.agg (fPV 47 e_),b7,true⟩,⟨6,31,CU.agg (fPV 47 p),b6,true⟩,⟨5,42,CU.agg (fTR 5 T),b5,true⟩]) b5:=s.notIn (c:=5) rfl rfl
 have hCb: ¬inB ([⟨11,70,wC [pO b16 0],b11,true⟩,⟨16,72,CU.agg (fPN (zAJ (evs (tl T) R p (yU e_ p)) 0).1),b16,false⟩,⟨10,4,wG (.bool true) ((zAJ (evs (tl T) R p (yU e_ p)) 0).2=true),b10,false⟩,⟨9,29,CU.len 3,b9,false⟩,⟨8,29,CU.len 3,b8,false⟩,⟨7,31,CU.agg (fPV 47 e_),b7,true⟩,⟨6,31,CU.agg (fPV 47 p),b6,true⟩,⟨5,42,CU.agg (fTR 5 T),b5,true⟩]) bc:=fun ⟨z9,hz9,e9,_⟩=>by simp only [zVU,zWB,or_false] at hz9;rcases hz9 with rfl|rfl|rfl|rfl|rfl|rfl|rfl|rfl<;>(simp only at e9;omega)
 have hWc:=s.gr.size
 obtain ⟨cs5,hh5,hc5,_⟩:=s.boxAt (c:=5) rfl
 have hr5:=zOT hc5 (qO hh5)
 have hbw0:=s.below
 have hst: ∀w,Okw (inB ([⟨11,70,wC [pO b16 0],b11,true⟩,⟨16,72,CU.agg (fPN (zAJ (evs (tl T) R p (yU e_ p)) 0).1),b16,false⟩,⟨10,4,wG (.bool true) ((zAJ (evs (tl T) R p (yU e_ p)) 0).2=true),b10,false⟩,⟨9,29,CU.len 3,b9,false⟩,⟨8,29,CU.len 3,b8,false⟩,⟨7,31,CU.agg (fPV 47 e_),b7,true⟩,⟨6,31,CU.agg (fPV 47 p),b6,true⟩,⟨5,42,CU.agg (fTR 5 T),b5,true⟩])) w4 w->(SF.row 6 (pvs 5 R)).p (.slice A (pvs 5 R).length c) w/\(SF.row 6 (pvs 5 (tl T))).p (.slice (some ⟨b5,0,none⟩) 3 3) w/\Tab w:=fun w hw=>by
  have hlo:=zHh (zGc hbw0) hw.1 hWc hCn
  exact ⟨zO0 hr_ hlo,zPZ hr5 (hw.1.block b5 (zWl.1 hh5).1 hC5) hw.2,zKv hT hlo⟩
 have hit:=zMw hhc hcc hnc hst hCl hCb hn (by show 3<=1000000;decide) (zFm T)
 refine zIC (N:=(evs (tl T) R p (yU e_ p)).length) (endless:=False) (fun k=> [⟨11,70,wC [pO b16 0],b11,true⟩,⟨16,72,CU.agg (fPN (zAJ (evs (tl T) R p (yU e_ p)) k).1),b16,false⟩,⟨10,4,wG (.bool true) ((zAJ (evs (tl T) R p (yU e_ p)) k).2=true),b10,false⟩,⟨9,29,CU.len 3,b9,false⟩,⟨8,29,CU.len 3,b8,false⟩,⟨7,31,CU.agg (fPV 47 e_),b7,true⟩,⟨6,31,CU.agg (fPV 47 p),b6,true⟩,⟨5,42,CU.agg (fTR 5 T),b5,true⟩]) ([⟨11,70,wC [pO b16 0],b11,true⟩,⟨16,72,CU.len 6,b16,false⟩,⟨10,4,wG (.bool false) ((zAK (tl T) R p (yU e_ p)).2=false),b10,false⟩,⟨9,29,CU.len 3,b9,false⟩,⟨8,29,CU.len 3,b8,false⟩,⟨7,31,CU.agg (fPV 47 e_),b7,true⟩,⟨6,31,CU.agg (fPV 47 p),b6,true⟩,⟨5,42,CU.agg (fTR 5 T),b5,true⟩]) (.exit 0) (fun k=> [(25, .u (fPV 213 (at_ (evs (tl T) R p (yU e_ p)) k)))]) s iiz (enters_of func64 kI rfl) hit (fun k=>rfl) ?_ rfl rfl rfl (fun k=>rfl) rfl (fun h=>h.elim) (fun l_ k xs WR hk so s=> ?_) (fun _ D WD s=> ?_) (fun D WD s=> ?_)
 ·intro k q hq
  obtain rfl:=zV1.1 hq
  exact .inr ⟨0,_,rfl,rfl,rfl⟩
 ·have hLR:Lo W WR:=zGc so.below
  have hWR:=so.gr.size
  have hSq: ∀q,(inB ([⟨11,70,wC [pO b16 0],b11,true⟩,⟨16,72,CU.agg (fPN (zAJ (evs (tl T) R p (yU e_ p)) 0).1),b16,false⟩,⟨10,4,wG (.bool true) ((zAJ (evs (tl T) R p (yU e_ p)) 0).2=true),b10,false⟩,⟨9,29,CU.len 3,b9,false⟩,⟨8,29,CU.len 3,b8,false⟩,⟨7,31,CU.agg (fPV 47 e_),b7,true⟩,⟨6,31,CU.agg (fPV 47 p),b6,true⟩,⟨5,42,CU.agg (fTR 5 T),b5,true⟩]) q∨WR.heap.size<=q)->W.heap.size<=q:=fun q hq=>by rcases hq with hq|hq;exact hCn q hq;omega
  generalize ({ tmps:=_,defers:= [] }:Act)=a at s ⊢
  refine zB 0 [] hmix s kI
   zD fun a w5 s=> ?_
  refine zU (CU.len 6) (cs:=zP6) kI rfl s kI (fun W=>rfl) rfl fun b12 a w s=> ?_
  refine zN (CU.agg (fPV 213 (at_ (evs (tl T) R p (yU e_ p)) k))) ((fPV 213 (at_ (evs (tl T) R p (yU e_ p)) k)).tS) rfl s kI rfl rfl rfl iiz iiz qK fun a w s=> ?_
  refine zA rfl ?_
  refine ⟨s.gr,fun W2 hcell hW2=> ?_⟩
  have hL2:Lo W W2:=(zHh hLR s.gr hWR hSq).trans fun p _=>hcell p
  obtain ⟨_,_,h9c,_⟩:=s.bx.mem _ (.head _)
  have hb9:W.heap.size<=b12:=by rcases h9c with h|h|h;cases h;exact zVZ hWR h;exact hSq _ h
  replace s:=hW2 _ _ s
  have h9l:b12<W2.heap.size:=s.old _ (.head _)
  have hW2s:W.heap.size<=W2.heap.size:=by omega
  have hlo: ∀{w w':Wm},BlS (fun q=>inB ([⟨11,70,wC [pO b16 0],b11,true⟩,⟨16,72,CU.agg (fPN (zAJ (evs (tl T) R p (yU e_ p)) 0).1),b16,false⟩,⟨10,4,wG (.bool true) ((zAJ (evs (tl T) R p (yU e_ p)) 0).2=true),b10,false⟩,⟨9,29,CU.len 3,b9,false⟩,⟨8,29,CU.len 3,b8,false⟩,⟨7,31,CU.agg (fPV 47 e_),b7,true⟩,⟨6,31,CU.agg (fPV 47 p),b6,true⟩,⟨5,42,CU.agg (fTR 5 T),b5,true⟩]) q∨WR.heap.size<=q) W2 w->Below w.heap.size w w'->Lo W w':=fun h1 h2=>(zHh hL2 h1 hW2s hSq).trans fun p hp=>h2.cell (zWJ hp (zVZ hW2s h1.size))
  have hkt:(zAJ (evs (tl T) R p (yU e_ p)) k).2=true:=by obtain ⟨_,_,h9,_⟩:=s.boxAt (c:=10) rfl;exact h9.2
  refine zVV ?_
  refine zVR ?_
  refine zB 2 ((26, .u (UF.eq (pO b16 0)))::(27, .u (fPV 213 (at_ (evs (tl T) R p (yU e_ p)) k))):: []) hmix s kI
   (oc (qY (C:=(wC [pO b16 0]).cf) kI (fun _ _ h=>h.2) zCR)<|oc (zI (f:=fPV 213 (at_ (evs (tl T) R p (yU e_ p)) k)) 6 kI (hz:=zX _ _))<|zD) fun a w6 s=> ?_
  refine zNa (c:=16) (CU.agg (fPN (zDT (zAJ (evs (tl T) R p (yU e_ p)) k).1 (at_ (evs (tl T) R p (yU e_ p)) k)).1)) (fB (zDT (zAJ (evs (tl T) R p (yU e_ p)) k).1 (at_ (evs (tl T) R p (yU e_ p)) k)).2) rfl zE zT6 s kI rfl rfl iiz (fun cs v h1 h2 h3=> ?_) fun a w s=> ?_
  ·exact zSW h1 h2 (hcq k (Nat.le_of_lt hk)) h3 (zKv hT (hlo s.gr (zV8 _ _)))
  refine q9 (c:=10) (o:=0) (kk:=1) (wG (.bool ((zDT (zAJ (evs (tl T) R p (yU e_ p)) k).1 (at_ (evs (tl T) R p (yU e_ p)) k)).2)) ((zAJ (evs (tl T) R p (yU e_ p)) k).2=true)) ((uB ((zDT (zAJ (evs (tl T) R p (yU e_ p)) k).1 (at_ (evs (tl T) R p (yU e_ p)) k)).2)).tS) rfl s kI rfl rfl (fun _ _ h=>h.1) iiz (zCT fun cs W h=>⟨(zGf cs W h).1,h.2⟩) fun a w s=> ?_
  refine zA rfl ?_
  refine zVR ?_
  refine zB 2 ((29, .Z (uB ((zDT (zAJ (evs (tl T) R p (yU e_ p)) k).1 (at_ (evs (tl T) R p (yU e_ p)) k)).2)))::(30, .u (uB (!((zDT (zAJ (evs (tl T) R p (yU e_ p)) k).1 (at_ (evs (tl T) R p (yU e_ p)) k)).2)))):: []) hmix s kI
   (oc (qY (C:=(wG (.bool ((zDT (zAJ (evs (tl T) R p (yU e_ p)) k).1 (at_ (evs (tl T) R p (yU e_ p)) k)).2)) ((zAJ (evs (tl T) R p (yU e_ p)) k).2=true)).cf) kI (fun _ _ h=>h.2) zDQ)<|oc (zAy ((zDT (zAJ (evs (tl T) R p (yU e_ p)) k).1 (at_ (evs (tl T) R p (yU e_ p)) k)).2) iiz (fun _=>rfl))<|zD) fun a w7 s=> ?_
  refine zA rfl ?_
  refine StS.cond s (!((zDT (zAJ (evs (tl T) R p (yU e_ p)) k).1 (at_ (evs (tl T) R p (yU e_ p)) k)).2)) iiz (fun e=> ?_) (fun e=> ?_)
  ·refine zV2 ?_
   have hst2:(zAK (tl T) R p (yU e_ p)).2=false:=zHq (k:=k+1) (by rw [zJj hkt];simpa using e) _ hk
   replace s:=s.popB
   exact ⟨rfl,((s.keepK [] fnz).weakB 16 (CU.len 6) rfl (jY kI) (fun cs W h=>zX _ _ cs W h)).weakB 10 (wG (.bool false) ((zAK (tl T) R p (yU e_ p)).2=false)) rfl (jY kI) (fun cs W h=>⟨by have h0:=h.1;simp at e;rw [e] at h0;exact h0,hst2⟩)⟩
  ·refine zVT ?_
   have hk1:=zJj hkt
   have hk2:(zAJ (evs (tl T) R p (yU e_ p)) (k+1)).2=true:=by rw [hk1];simpa using e
   replace s:=s.popB
   exact ⟨((s.keepK [] fnz).weakB 16 (CU.agg (fPN (zAJ (evs (tl T) R p (yU e_ p)) (k+1)).1)) rfl (jY kI) (fun cs W h=>by rw [hk1];exact h)).weakB 10 (wG (.bool true) ((zAJ (evs (tl T) R p (yU e_ p)) (k+1)).2=true)) rfl (jY kI) (fun cs W h=>⟨by have h0:=h.1;simp at e;rw [e] at h0;exact h0,hk2⟩),fun h=>h.elim⟩
 ·have hans:(zAK (tl T) R p (yU e_ p)).2=true:=by obtain ⟨_,_,h9,_⟩:=s.boxAt (c:=10) rfl;exact h9.2
  generalize ({ a with defers:=mark D::a.defers }:Act)=a at s ⊢
  refine zVR ?_
  refine zVR ?_
  refine zB 2 ((31, .Z (uB true))::(32, .u (uB false)):: []) hmix s kI
   (oc (qY (C:=(wG (.bool true) ((zAJ (evs (tl T) R p (yU e_ p)) (evs (tl T) R p (yU e_ p)).length).2=true)).cf) kI (fun _ _ h=>h.2) zDQ)<|oc (zAy true iiz (fun _=>rfl))<|zD) fun a w8 s=> ?_
  refine zA rfl ?_
  refine StS.cond s false iiz (fun e=>by cases e) (fun e=> ?_)
  refine zVT ?_
  refine zVR ?_
  obtain ⟨cs16,hh16,hc16,_⟩:=s.boxAt (c:=16) rfl
  obtain ⟨cs11,hh11,hc11,_⟩:=s.boxAt (c:=11) rfl
  obtain rfl:cs11= [pO b16 0]:=hc11
  have n8:=s.twoB 8 16 rfl rfl rfl rfl;have n9:=s.twoB 9 16 rfl rfl rfl rfl;have n10:=s.twoB 10 16 rfl rfl rfl rfl
  have m8:=s.twoB 8 11 rfl rfl rfl rfl;have m9:=s.twoB 9 11 rfl rfl rfl rfl;have m10:=s.twoB 10 11 rfl rfl rfl rfl
  have ho8:=s.own (c:=8) rfl rfl;have ho9:=s.own (c:=9) rfl rfl;have ho10:=s.own (c:=10) rfl rfl
  have hl16:=zX _ _ cs16 _ hc16
  obtain ⟨LL,hLL⟩: ∃L:List (Nat×Obj),L= [(b16,Obj.cells cs16.toArray 72 (0,0)),(b11,Obj.cells #[pO b16 0] 70 (0,0))]:=⟨_,rfl⟩
  have hoL: ∀q,q∈LL->w8.heap[q.1]?=some q.2:=fun q hq=>by subst hLL;rcases zVU.1 hq with rfl|hq;exact hh16;obtain rfl:=zV1.1 hq;exact hh11
  have hL16:(b16,Obj.cells cs16.toArray 72 (0,0))∈LL:=by subst hLL;exact .head _
  have hL11:(b11,Obj.cells ([pO b16 0]:List Wn).toArray 70 (0,0))∈LL:=by subst hLL;exact mz1
  have hne8: ∀q,q∈LL->q.1≠b8:=fun q hq=>by subst hLL;rcases zVU.1 hq with rfl|hq;exact n8;obtain rfl:=zV1.1 hq;exact m8
  have hne9: ∀q,q∈LL->q.1≠b9:=fun q hq=>by subst hLL;rcases zVU.1 hq with rfl|hq;exact n9;obtain rfl:=zV1.1 hq;exact m9
  have hne10: ∀q,q∈LL->q.1≠b10:=fun q hq=>by subst hLL;rcases zVU.1 hq with rfl|hq;exact n10;obtain rfl:=zV1.1 hq;exact m10
  refine zP3 (GBs W LL) hmix s fun w9 hd s=> ?_
  have hwb:=s.below
  replace hoL: ∀q,q∈LL->w9.heap[q.1]?=some q.2:=fun q hq=>(hd.block q.1 (zWl.1 (hoL q hq)).1).trans (hoL q hq)
  replace hc16:=(CU.agg _).us _ _ _ hc16 (zS hd)
  refine zP4 [4,5,6,7] [0,1,2,3,4,5,6,7] ((35, .u (UF.eq (pO b16 0)))::(36, .u (UF.eq (pO b16 0)))::(37, .u (UF.eq (.pointer (some ⟨b16,0+0,none⟩))))::(38, .u (fQN ((zAJ (evs (tl T) R p (yU e_ p)) (evs (tl T) R p (yU e_ p)).length).1).1))::(39, .u (UF.eq (pO b16 0)))::(40, .u (UF.eq (pO b16 0)))::(41, .u (UF.eq (.pointer (some ⟨b16,0+3,none⟩))))::(42, .u (fQN ((zAJ (evs (tl T) R p (yU e_ p)) (evs (tl T) R p (yU e_ p)).length).1).2)):: []) (zPk hwb hoL) s kI
   (oc (zI2 (b:=b11) (o:=0) (pO b16 0) kI (qO (hoL _ hL11)) rfl (fun _ _ h=>h.1))<|oc (zBd (a:=⟨b16,0,none⟩) iiz)<|oc (jM (b:=b16) (o:=0) 0 kI iiz)<|oc (zPa (b:=b16) (o:=0) (kk:=3) (fQN ((zAJ (evs (tl T) R p (yU e_ p)) (evs (tl T) R p (yU e_ p)).length).1).1) (qO (hoL _ hL16)) kI iiz (zFg cs16 _ hc16))<|oc (zI2 (b:=b11) (o:=0) (pO b16 0) kI (qO (hoL _ hL11)) rfl (fun _ _ h=>h.1))<|oc (zBd (a:=⟨b16,0,none⟩) iiz)<|oc (jM (b:=b16) (o:=0) 3 kI iiz)<|oc (zPa (b:=b16) (o:=3) (kk:=3) (fQN ((zAJ (evs (tl T) R p (yU e_ p)) (evs (tl T) R p (yU e_ p)).length).1).2) (qO (hoL _ hL16)) kI iiz (zFf cs16 _ hc16))<|zD)
   (zEu rfl (zQR (x:= .tmp 11) (pO b16 0) kI hL11 rfl (fun _ _ h=>h.1)) (zEu rfl (zOh (x:= .tmp 39) (a:=⟨b16,0,none⟩) iiz) (zEu rfl (zOi (x:= .tmp 40) (b:=b16) (o:=0) 3 kI iiz) (zEu rfl (zQS (x:= .tmp 41) (b:=b16) (o:=3) (kk:=3) kI hL16 oP iiz) zQQ)))) fun a w10 hbw s hr=> ?_
  replace hwb:=hwb.trans (hbw.mono hwb.size)
  replace hoL: ∀q,q∈LL->w10.heap[q.1]?=some q.2:=fun q hq=>(hbw.block q.1 (zWl.1 (hoL q hq)).1).trans (hoL q hq)
  refine zFo (i:=8) (c:=8) (CU.agg (fQN ((zAJ (evs (tl T) R p (yU e_ p)) (evs (tl T) R p (yU e_ p)).length).1).1)) ((fQN ((zAJ (evs (tl T) R p (yU e_ p)) (evs (tl T) R p (yU e_ p)).length).1).1).tS) s rfl kI kI rfl rfl rfl iiz iiz zV (fun vs _=>zIj hwb hoL ho8 hne8 _) fun w11 hg _ s=> ?_
  replace hwb:=(hg _ (zV8 _ _)).1
  replace hoL:=(hg _ (zV8 _ _)).2
  refine zFo (i:=9) (c:=9) (CU.agg (fQN ((zAJ (evs (tl T) R p (yU e_ p)) (evs (tl T) R p (yU e_ p)).length).1).2)) ((fQN ((zAJ (evs (tl T) R p (yU e_ p)) (evs (tl T) R p (yU e_ p)).length).1).2).tS) s rfl kI kI rfl rfl rfl iiz iiz zV (fun vs _=>zIj hwb hoL ho9 hne9 _) fun w12 hg _ s=> ?_
  replace hwb:=(hg _ (zV8 _ _)).1
  replace hoL:=(hg _ (zV8 _ _)).2
  refine zHQ (i:=10) (c:=10) (o:=0) (kk:=1) (wG (.bool true) True) ((uB true).tS) s rfl kI kI rfl rfl (fun _ _ h=>h.1) iiz (zCT fun cs W h=>⟨(zGf cs W h).1,trivial⟩) (fun vs=>zIj hwb hoL ho10 hne10 _) fun w13 hg s=> ?_
  refine zNv kI ?_
  refine zVS ?_
  exact s.resM3 (zC2 (fQN (yB (zAK (tl T) R p (yU e_ p))).1) (fQN (yB (zAK (tl T) R p (yU e_ p))).2) (fB (zAK (tl T) R p (yU e_ p)).2)) (CU.agg (fQN ((zAJ (evs (tl T) R p (yU e_ p)) (evs (tl T) R p (yU e_ p)).length).1).1)) (CU.agg (fQN ((zAJ (evs (tl T) R p (yU e_ p)) (evs (tl T) R p (yU e_ p)).length).1).2)) (.bool true) rfl kI kI kI rfl rfl (yO _) rfl rfl (yO _) rfl (fun cs W h=>h.1) (fun cs cs' W h1 h2=>⟨_,_,_,rfl,by rw [zMA hans];exact h1,by rw [zMA hans];exact h2,by rw [hans];rfl⟩)
 ·have hans:(zAK (tl T) R p (yU e_ p)).2=false:=by obtain ⟨_,_,h9,_⟩:=s.boxAt (c:=10) rfl;exact h9.2
  generalize ({ a with defers:=mark D::a.defers }:Act)=a at s ⊢
  refine zV2 ?_
  refine zVR ?_
  refine zVR ?_
  refine zB 2 ((31, .Z (uB false))::(32, .u (uB true)):: []) hmix s kI
   (oc (qY (C:=(wG (.bool false) ((zAK (tl T) R p (yU e_ p)).2=false)).cf) kI (fun _ _ h=>h.2) zDQ)<|oc (zAy false iiz (fun _=>rfl))<|zD) fun a w14 s=> ?_
  refine zA rfl ?_
  refine StS.cond s true iiz (fun e=> ?_) (fun e=>by cases e)
  refine zVR ?_
  refine zB 2 ((33, .u (fQN ((0:Int):Rat)))::(34, .u (fQN ((0:Int):Rat))):: []) hmix s kI
   (oc (zH zE zHo (fun u0 W hb (h0:u0= .int .i64 0)=>zHN _ h0 dB))<|oc (zH zE zHo (fun u0 W hb (h0:u0= .int .i64 0)=>zHN _ h0 dB))<|zD) fun a w15 s=> ?_
  refine zN (CU.agg (fQN ((0:Int):Rat))) ((fQN ((0:Int):Rat)).tS) rfl s kI rfl rfl rfl iiz iiz zV fun a w s=> ?_
  refine zN (CU.agg (fQN ((0:Int):Rat))) ((fQN ((0:Int):Rat)).tS) rfl s kI rfl rfl rfl iiz iiz zV fun a w s=> ?_
  refine q9 (c:=10) (o:=0) (kk:=1) (wG (.bool false) True) ((uB false).tS) rfl s kI rfl rfl (fun _ _ h=>h.1) iiz (zCT fun cs W h=>⟨(zGf cs W h).1,trivial⟩) fun a w s=> ?_
  refine zA rfl ?_
  refine zVS ?_
  exact s.resM3 (zC2 (fQN (yB (zAK (tl T) R p (yU e_ p))).1) (fQN (yB (zAK (tl T) R p (yU e_ p))).2) (fB (zAK (tl T) R p (yU e_ p)).2)) (CU.agg (fQN ((0:Int):Rat))) (CU.agg (fQN ((0:Int):Rat))) (.bool false) rfl kI kI kI rfl rfl (yO _) rfl rfl (yO _) rfl (fun cs W h=>h.1) (fun cs cs' W h1 h2=>⟨_,_,_,rfl,by rw [zPt hans];exact h1,by rw [zPt hans];exact h2,by rw [hans];rfl⟩)
theorem zFa {W:Wm} {u v x:Wn} {R:List V2} {T:V6} {p e_:V2} {r:Wn} (hr_:(SF.row 6 (pvs 5 R)).p r W) (hx:(fTR 5 T).p x W) (h1:(fPV 47 p).p u W) (h2:(fPV 47 e_).p v W) (hn:R.length<=1000000) (hT:Tab W):Calls prog 15 #[r,x,u,v] W (Ret W (zC2 (fQN (yB (zAK (tl T) R p (yU e_ p))).1) (fQN (yB (zAK (tl T) R p (yU e_ p))).2) (fB (zAK (tl T) R p (yU e_ p)).2)).tS):=by
 obtain ⟨A,c,rfl,_⟩:=id hr_
 exact zMx hr_ hx h1 h2 hn hT
end Go.Proofs.Wd

namespace Go.Proofs.Wd
open Tryz
set_option maxRecDepth 100000
set_option maxHeartbeats 1000000
open Go.RowKit Lb
theorem zLm {y z:V2} {ps:List V2} (h: ∀j,j<ps.length-> ¬0<crs y z (at_ ps j)):jH y z ps=true:=by
 refine zWh.2 fun p hp=> ?_
 obtain ⟨j,hj,rfl⟩:=zFx hp
 simp [h j hj]
theorem zJO {y z:V2} {ps:List V2} {k:Nat} (hk:k<ps.length) (h:0<crs y z (at_ ps k)):jH y z ps=false:=by
 refine List.all_eq_false.2 ⟨_,qV hk, ?_⟩
 simp [h]
theorem zGM {ps:List V2} {t:V2} {m k M:Nat} (hq: ∀p,p∈ps->QB p.1 m/\QB p.2 m) (ht:QB t.1 k/\QB t.2 k) (hM:m+k+1<=M): ∀p,p∈yS ps t->QB p.1 M/\QB p.2 M:=fun p hp=>by
 obtain ⟨q,hq1,rfl⟩:=zV6.1 hp
 have h:=hq q hq1
 exact ⟨(h.1.add ht.1).mono oP,(h.2.add ht.2).mono oP⟩
theorem zJJ {m:Nat} {W:Wm} {u v l:Wn} {y z:V2} {ps:List V2} (h1:(fPV m y).p u W) (h2:(fPV m z).p v W) (hl:(SF.row 6 (pvs m ps)).p l W) (hm:m<=240) (hm0:0<m) (hn:ps.length<=1000000):Calls prog 112 #[u,v,l] W (Ret W (fB (jH y z ps)).tS):=by
 have hy:=zA7 hm0 h1
 have hz:=zA7 hm0 h2
 have hq:=zCP hm0 hl
 refine z5 [(fPV m y).tS,(fPV m z).tS,(UF.eq l).tS] func112 rfl kI ⟨h1,h2,rfl,trivial⟩ fun a s=> ?_
 replace s:=s.renew [(0, .u (fPV m y)),(1, .u (fPV m z)),(2, .u (UF.eq l))] (fmz ⟨.inr ⟨_,rfl, .head _⟩,fmz ⟨.inr ⟨_,rfl,mz1⟩,fmz ⟨.inr ⟨_,rfl,mz2⟩,fnz⟩⟩⟩)
 refine zVR ?_
 refine zB 0 [] hmix s kI
  zD fun a w1 s=> ?_
 refine yN (CU.agg (fPV m y)) rfl s kI (fun v W h=>qC h) fun b3 a w s=> ?_
 refine yN (CU.agg (fPV m z)) rfl s kI (fun v W h=>qC h) fun b4 a w s=> ?_
 refine yV (uB false) rfl s kI iiz fun a w s=> ?_
 refine zA rfl ?_
 refine zVR ?_
 refine zVR ?_
 refine zB 1 ((7, .u (uI 0)):: []) hmix s kI
  (oc zG<|zD) fun a w2 s=> ?_
 refine zA rfl ?_
 refine zVV ?_
 refine zAV (fun k=>k<=ps.length/\ ∀j,j<k-> ¬0<crs y z (at_ ps j)) (fun k=> [(2, .u (UF.eq l)),(7, .u (uI ((k:Nat):Int)))]) (fun k=>ps.length - k) (0:Nat) (⟨zV5 _,fun j hj=>absurd hj (zWe _)⟩) (s.keepK _ (fmz ⟨mz4,fmz ⟨.head _,fnz⟩⟩)) fun k a w hx s=> ?_
 refine zVR ?_
 refine zVR ?_
 refine zB 4 ((8, .Z (uI (k:Int)))::(9, .Z (UF.eq l))::(10, .Z (uI ((pvs m ps).length:Int)))::(11, .u (uB (decide ((k:Int)<((pvs m ps).length:Int))))):: []) hmix s kI
  (oc zC<|oc zC<|oc (jC (z:=6) (Cs:=pvs m ps) kI (fun v W hb h=>(yK hl h (s.up hb))) (fun _=>rfl))<|oc (zR .i64 (k:Int) ((pvs m ps).length:Int) (decide ((k:Int)<((pvs m ps).length:Int))) iiz iiz rfl rfl)<|zD) fun a w3 s=> ?_
 refine zA rfl ?_
 refine StS.cond s (decide ((k:Int)<((pvs m ps).length:Int))) iiz (fun e=> ?_) (fun e=> ?_)
 ·have hk:k<ps.length:=by have:=zVW e;simp at this;omega
  refine zVT ?_
  refine zVR ?_
  refine zVV ?_
  refine zVR ?_
  refine zB 12 ((14, .Z (fPV m z))::(15, .Z (fPV m y))::(16, .Z (fPN ((z).1 - (y).1,(z).2 - (y).2)))::(17, .Z (UF.eq l))::(18, .Z (uI (k:Int)))::(19, .Y (fPV m (at_ ps k)))::(20, .Z (fPV m (at_ ps k)))::(21, .Z (fPV m y))::(22, .Z (fPN ((at_ ps k).1 - (y).1,(at_ ps k).2 - (y).2)))::(23, .Z (fQN (crs y z (at_ ps k))))::(24, .Z (uI ((crs y z (at_ ps k)).num.sign)))::(25, .u (uB (decide ((crs y z (at_ ps k)).num.sign>0)))):: []) hmix s kI
   (oc (zI (f:=fPV m z) 6 kI (hz:=zX _ _))<|oc (zI (f:=fPV m y) 6 kI (hz:=zX _ _))<|oc (zJ zE zQ2 (fun u0 u1 W hb (h0:(fPV m z).p u0 W) (h1:(fPV m y).p u1 W)=>zHT (m:=m) (p:=z) (q:=y) h0 h1 oP hm0))<|oc zC<|oc zC<|oc (yP (z:=6) (Cs:=pvs m ps) (i:=k) (C:=CU.agg (fPV m (at_ ps k))) kI (jA hk) (fun v W hb h=>(yK hl h (s.up hb))) iiz)<|oc (zI (f:=fPV m (at_ ps k)) 6 kI (hz:=zX _ _))<|oc (zI (f:=fPV m y) 6 kI (hz:=zX _ _))<|oc (zJ zE zQ2 (fun u0 u1 W hb (h0:(fPV m (at_ ps k)).p u0 W) (h1:(fPV m y).p u1 W)=>zHT (m:=m) (p:=(at_ ps k)) (q:=y) h0 h1 oP hm0))<|oc (zJ zE zSD (fun u0 u1 W hb (h0:(fPN ((z).1 - (y).1,(z).2 - (y).2)).p u0 W) (h1:(fPN ((at_ ps k).1 - (y).1,(at_ ps k).2 - (y).2)).p u1 W)=>zKY (m:=2*m+1) (p:=((z).1 - (y).1,(z).2 - (y).2)) (q:=((at_ ps k).1 - (y).1,(at_ ps k).2 - (y).2)) (zCa (p:=((z).1 - (y).1,(z).2 - (y).2)) (m:=(2*m+1)) ((zBP hz hy).1.mono (by first|omega|decide)) ((zBP hz hy).2.mono (by first|omega|decide)) h0) (zCa (p:=((at_ ps k).1 - (y).1,(at_ ps k).2 - (y).2)) (m:=(2*m+1)) ((zBP (hq _ (qV hk)) hy).1.mono (by first|omega|decide)) ((zBP (hq _ (qV hk)) hy).2.mono (by first|omega|decide)) h1) (zBP hz hy) (zBP (hq _ (qV hk)) hy) oP oP))<|oc (zH zE zTQ (fun u0 W hb (h0:QNp (crs y z (at_ ps k)) u0 W)=>zFX (m:=((2*m+1)+(2*m+1)+((2*m+1)+(2*m+1))+1)) (wD h0 (((zBP hz hy).1.mul (zBP (hq _ (qV hk)) hy).2).sub ((zBP hz hy).2.mul (zBP (hq _ (qV hk)) hy).1))) oP))<|oc (zR .i64 ((crs y z (at_ ps k)).num.sign) 0 (decide ((crs y z (at_ ps k)).num.sign>0)) iiz iiz rfl rfl)<|zD) fun a w4 s=> ?_
  refine zA rfl ?_
  refine StS.cond s (decide ((crs y z (at_ ps k)).num.sign>0)) iiz (fun e=> ?_) (fun e=> ?_)
  ·refine zVR ?_
   refine zB 1 ((6, .u (uB false)):: []) hmix s kI
    (oc zG<|zD) fun a w5 s=> ?_
   refine zA rfl ?_
   refine zVS ?_
   exact wH s (t:=6) rfl (fun v W h=>by rw [zFO] at e;rw [zJO hk (zVW e)];exact h)
  ·refine zVT ?_
   refine zZ 2 ((12, .Z (uI (k:Int)))::(13, .u (uI ((k+1:Nat):Int))):: []) s kI
    (oc zC<|oc (yR .i64 (k:Int) 1 ((k+1:Nat):Int) iiz iiz (wrap64 _ _ oP oP))<|zD) fun a w6 s=> ?_
   replace s:=s.drop [7]
   refine yV (uI ((k+1:Nat):Int)) rfl s kI iiz fun a w s=> ?_
   refine zA rfl ?_
   exact ⟨k+1,⟨hk,fun j hj=>by rcases zV7 (zWb hj) with h|h;exact hx.2 j h;rw [h];rw [zFO] at e;exact zVY e⟩,(by show ps.length - (k+1)<ps.length - k;omega),s.keepK _ (fmz ⟨mz4,fmz ⟨.head _,fnz⟩⟩)⟩
 ·have hk:k=ps.length:=by have h7:=zVY e;have h8:=hx.1;simp at h7;omega
  refine zV2 ?_
  refine zVR ?_
  refine zB 1 ((6, .u (uB true)):: []) hmix s kI
   (oc zG<|zD) fun a w7 s=> ?_
  refine zA rfl ?_
  refine zVS ?_
  exact wH s (t:=6) rfl (fun v W h=>by rw [zLm (fun j hj=>hx.2 j oP)];exact h)
theorem zIU {m:Nat} {W:Wm} {l l2:Wn} {ps qs:List V2} (hl:(SF.row 6 (pvs m ps)).p l W) (hl2:(SF.row 6 (pvs m qs)).p l2 W) (hm:m<=240) (hm0:0<m) (hn:ps.length<=1000000) (hn2:qs.length<=1000000):Calls prog 86 #[l,l2] W (Ret W (fB (zDi ps qs)).tS):=by
 refine z5 [(UF.eq l).tS,(UF.eq l2).tS] func86 rfl kI ⟨rfl,rfl,trivial⟩ fun a s=> ?_
 replace s:=s.renew [(0, .u (UF.eq l)),(1, .u (UF.eq l2))] (fmz ⟨.inr ⟨_,rfl, .head _⟩,fmz ⟨.inr ⟨_,rfl,mz1⟩,fnz⟩⟩)
 refine zVR ?_
 refine zB 1 ((4, .u (uB false)):: []) hmix s kI
  (oc zG<|zD) fun a w1 s=> ?_
 refine zA rfl ?_
 refine zVR ?_
 refine zVR ?_
 refine zB 1 ((5, .u (uI 0)):: []) hmix s kI
  (oc zG<|zD) fun a w2 s=> ?_
 refine zA rfl ?_
 refine zVV ?_
 refine zAV (fun i=>i<=ps.length/\zA2 ps qs i) (fun i=> [(0, .u (UF.eq l)),(1, .u (UF.eq l2)),(5, .u (uI ((i:Nat):Int)))]) (fun i=>ps.length - i) (0:Nat) (⟨zV5 _,fun j hj=>absurd hj (zWe _)⟩) (s.keepK _ (fmz ⟨mz2,fmz ⟨mz3,fmz ⟨.head _,fnz⟩⟩⟩)) fun i a w hx s=> ?_
 have hlz:(pvs m ps).length=ps.length:=by simp
 refine zVR ?_
 refine zVR ?_
 refine zB 4 ((6, .Z (uI (i:Int)))::(7, .Z (UF.eq l))::(8, .Z (uI ((pvs m ps).length:Int)))::(9, .u (uB (decide ((i:Int)<((pvs m ps).length:Int))))):: []) hmix s kI
  (oc zC<|oc zC<|oc (jC (z:=6) (Cs:=pvs m ps) kI (fun v W hb h=>(yK hl h (s.up hb))) (fun _=>rfl))<|oc (zR .i64 (i:Int) ((pvs m ps).length:Int) (decide ((i:Int)<((pvs m ps).length:Int))) iiz iiz rfl rfl)<|zD) fun a w3 s=> ?_
 refine zA rfl ?_
 refine StS.cond s (decide ((i:Int)<((pvs m ps).length:Int))) iiz (fun e=> ?_) (fun e=> ?_)
 ·have hi:i<ps.length:=by have:=zVW e;simp at this;omega
  have hj:((i+1) % ps.length)<ps.length:=zWy _ oP
  refine zVT ?_
  refine zVR ?_
  refine zVV ?_
  refine zVR ?_
  refine zB 14 ((12, .Z (UF.eq l))::(13, .Z (uI (i:Int)))::(14, .Y (fPV m (at_ ps i)))::(15, .Z (fPV m (at_ ps i)))::(16, .Z (UF.eq l))::(17, .Z (uI (i:Int)))::(18, .Z (uI ((i+1:Nat):Int)))::(19, .Z (UF.eq l))::(20, .Z (uI ((pvs m ps).length:Int)))::(21, .Z (uI ((((i+1) % ps.length):Nat):Int)))::(22, .Y (fPV m (tn ps i)))::(23, .Z (fPV m (tn ps i)))::(24, .Z (UF.eq l2))::(25, .u (uB (jH (at_ ps i) (tn ps i) qs))):: []) hmix s kI
   (oc zC<|oc zC<|oc (yP (z:=6) (Cs:=pvs m ps) (i:=i) (C:=CU.agg (fPV m (at_ ps i))) kI (jA hi) (fun v W hb h=>(yK hl h (s.up hb))) iiz)<|oc (zI (f:=fPV m (at_ ps i)) 6 kI (hz:=zX _ _))<|oc zC<|oc zC<|oc (yR .i64 (i:Int) 1 ((i+1:Nat):Int) iiz iiz (wrap64 _ _ oP oP))<|oc zC<|oc (jC (z:=6) (Cs:=pvs m ps) kI (fun v W hb h=>(yK hl h (s.up hb))) (fun _=>rfl))<|oc (zH6 .i64 ((i+1:Nat):Int) ((pvs m ps).length:Int) ((((i+1) % ps.length):Nat):Int) iiz iiz oP (by rw [hlz];exact zP7 _ _))<|oc (yP (z:=6) (Cs:=pvs m ps) (i:=((i+1) % ps.length)) (C:=CU.agg (fPV m (tn ps i))) kI (jA hj) (fun v W hb h=>(yK hl h (s.up hb))) iiz)<|oc (zI (f:=fPV m (tn ps i)) 6 kI (hz:=zX _ _))<|oc zC<|oc (zAh zE zSK (fun u0 u1 u2 W hb (h0:(fPV m (at_ ps i)).p u0 W) (h1:(fPV m (tn ps i)).p u1 W) (h2:u2=l2)=>zJJ h0 h1 (yK hl2 h2 (s.up hb)) hm hm0 hn2))<|zD) fun a w4 s=> ?_
  refine zA rfl ?_
  refine StS.cond s (jH (at_ ps i) (tn ps i) qs) iiz (fun e=> ?_) (fun e=> ?_)
  ·refine zVR ?_
   refine zB 1 ((4, .u (uB true)):: []) hmix s kI
    (oc zG<|zD) fun a w5 s=> ?_
   refine zA rfl ?_
   refine zVS ?_
   exact wH s (t:=4) rfl (fun v W h=>by rw [zIF ⟨i,hi,e⟩];exact h)
  ·refine zVT ?_
   refine zZ 2 ((10, .Z (uI (i:Int)))::(11, .u (uI ((i+1:Nat):Int))):: []) s kI
    (oc zC<|oc (yR .i64 (i:Int) 1 ((i+1:Nat):Int) iiz iiz (wrap64 _ _ oP oP))<|zD) fun a w6 s=> ?_
   replace s:=s.drop [5]
   refine yV (uI ((i+1:Nat):Int)) rfl s kI iiz fun a w s=> ?_
   refine zA rfl ?_
   exact ⟨i+1,⟨hi,fun j hj=>by rcases zV7 (zWb hj) with h|h;exact hx.2 j h;rw [h];exact e⟩,(by show ps.length - (i+1)<ps.length - i;omega),s.keepK _ (fmz ⟨mz4,fmz ⟨mz5,fmz ⟨.head _,fnz⟩⟩⟩)⟩
 ·have hi:i=ps.length:=by have h7:=zVY e;have h8:=hx.1;simp at h7;omega
  refine zV2 ?_
  refine zVR ?_
  refine zB 1 ((4, .u (uB false)):: []) hmix s kI
   (oc zG<|zD) fun a w7 s=> ?_
  refine zA rfl ?_
  refine zVS ?_
  exact wH s (t:=4) rfl (fun v W h=>by rw [zEY (by rw [<-hi];exact hx.2)];exact h)
theorem zJI {m:Nat} {W:Wm} {l l2:Wn} {ps qs:List V2} (hl:(SF.row 6 (pvs m ps)).p l W) (hl2:(SF.row 6 (pvs m qs)).p l2 W) (hm:m<=240) (hm0:0<m) (hn:ps.length<=1000000) (hn2:qs.length<=1000000):Calls prog 58 #[l,l2] W (Ret W (fB (yX ps qs)).tS):=by
 refine z5 [(UF.eq l).tS,(UF.eq l2).tS] func58 rfl kI ⟨rfl,rfl,trivial⟩ fun a s=> ?_
 replace s:=s.renew [(0, .u (UF.eq l)),(1, .u (UF.eq l2))] (fmz ⟨.inr ⟨_,rfl, .head _⟩,fmz ⟨.inr ⟨_,rfl,mz1⟩,fnz⟩⟩)
 refine zVR ?_
 refine zB 1 ((4, .u (uB false)):: []) hmix s kI
  (oc zG<|zD) fun a w1 s=> ?_
 refine zA rfl ?_
 refine zVR ?_
 replace s:=s.drop [4]
 refine zB 9 ((5, .Z (UF.eq l))::(6, .Z (UF.eq l2))::(7, .Z (uB (zDi ps qs)))::(8, .Z (uB (zDi ps qs)))::(9, .s (SF.imp ((zDi ps qs)=false) ((UF.eq l2).tS)))::(10, .s (SF.imp ((zDi ps qs)=false) ((UF.eq l).tS)))::(11, .s (SF.imp ((zDi ps qs)=false) ((uB (zDi qs ps)).tS)))::(12, .Z (uB ((zDi ps qs)||(zDi qs ps))))::(4, .u (uB ((zDi ps qs)||(zDi qs ps)))):: []) hmix s kI
  (oc zC<|oc zC<|oc (zJ zE zSt (fun u0 u1 W hb (h0:u0=l) (h1:u1=l2)=>zIU (yK hl h0 (s.up hb)) (yK hl2 h1 (s.up hb)) hm hm0 hn hn2))<|oc zC<|oc (zF 8 (zDi ps qs) kI iiz (fun e=>yG [] ((UF.eq l2).tS) fnz fO kI zC) fN)<|oc (zF 8 (zDi ps qs) kI iiz (fun e=>yG [] ((UF.eq l).tS) fnz fO kI zC) fN)<|oc (zF 8 (zDi ps qs) kI iiz (fun e=>yG [(9,(UF.eq l2).tS),(10,(UF.eq l).tS)] ((uB (zDi qs ps)).tS) (fmz ⟨fun v W h=>zT (c:=(zDi ps qs)=false) (f:=(UF.eq l2).tS) e h,fmz ⟨fun v W h=>zT (c:=(zDi ps qs)=false) (f:=(UF.eq l).tS) e h,fnz⟩⟩) fO kI (zJ zE zSt (fun u0 u1 W hb (h0:u0=l2) (h1:u1=l)=>zIU (yK hl2 h0 (s.up hb)) (yK hl h1 (s.up hb)) hm hm0 hn2 hn))) fN)<|oc (yM (zDi ps qs) iiz (fun e v W h=>zBc h e) (fun e v W h=>zAs (zT e h) e))<|oc zG<|zD) fun a w2 s=> ?_
 refine zA rfl ?_
 refine zVS ?_
 exact wH s (t:=4) rfl (fun v W h=>h)
theorem zJG {m k M K:Nat} {W:Wm} {r l v:Wn} {rs:List V2} {ts:List V6} {p:V2} (hr_:(SF.row 6 (pvs m rs)).p r W) (ht:(SF.row 18 (trs m ts)).p l W) (h1:(fPV k p).p v W) (hm0:0<m) (hk0:0<k) (hmK:m<=K) (hkK:k<=K) (hK:K<=200) (hM:m+k+1<=M) (hM2:M<=240) (hn:rs.length<=1000000) (hnt:ts.length<=1000000):Calls prog 36 #[r,l,v] W (Ret W (wL W 3 1 (zKc (zA8 (yS rs p) ts ts.length)))):=by
 have hsh:=zGM (zCP hm0 hr_) (zA7 hk0 h1) hM
 refine z5 [(UF.eq r).tS,(UF.eq l).tS,(fPV k p).tS] func36 rfl kI ⟨rfl,rfl,h1,trivial⟩ fun a s=> ?_
 replace s:=s.renew [(0, .u (UF.eq r)),(1, .u (UF.eq l)),(2, .u (fPV k p))] (fmz ⟨.inr ⟨_,rfl, .head _⟩,fmz ⟨.inr ⟨_,rfl,mz1⟩,fmz ⟨.inr ⟨_,rfl,mz2⟩,fnz⟩⟩⟩)
 refine zVR ?_
 refine zB 0 [] hmix s kI
  zD fun a w1 s=> ?_
 refine yN (CU.agg (fPV k p)) rfl s kI (fun v W h=>qC h) fun b5 a w s=> ?_
 refine yV (UF.eq (.slice none 0 0)) rfl s kI iiz fun a w s=> ?_
 refine zA rfl ?_
 refine zVR ?_
 refine zB 1 ((7, .u (UF.eq (.slice none 0 0))):: []) hmix s kI
  (oc zG<|zD) fun a w2 s=> ?_
 refine zA rfl ?_
 refine zVR ?_
 refine jG 3 ((10, .Z (UF.eq r))::(11, .Z (fPV k p))::(12, .s (wL w2 31 6 (pns (yS rs p)))):: []) hmix s kI
  (oc zC<|oc (zI (f:=fPV k p) 6 kI (hz:=zX _ _))<|oc (zJ zE zTZ (fun u0 u1 W hb (h0:u0=r) (h1:(fPV k p).p u1 W)=>(zJH (m:=K) (zBI hmK _ _ (yK hr_ h0 (s.up hb))) (jB hkK h1) oP oP hn).mono (wI (zBV hb.size))))<|zD) fun a w3 s hr=> ?_
 obtain ⟨v12,e12⟩: ∃v,a.tmps.getD 12 undef=v:=⟨_,rfl⟩
 have hv12:(SF.row 6 (pvs M (yS rs p))).p v12 w3:=e12▸zF3 hsh _ _ (zBe _ _ (hr (_,_) mz2))
 replace s:=s.learn 12 v12 e12
 have hb0:=s.below
 have ht':=(SF.row 18 (trs m ts)).st _ _ _ ht hb0
 replace s:StS _ _ _ [⟨5,31,CU.agg (fPV k p),b5,true⟩] _ _ _ _:=s.freeze
 replace s:=s.reb rfl [(12, .u (UF.eq v12)),(7, .u (UF.eq (.slice none 0 0))),(6, .u (UF.eq (.slice none 0 0))),(0, .u (UF.eq r)),(1, .u (UF.eq l)),(2, .u (fPV k p))] (fmz ⟨.inl (.head _),fmz ⟨.inl mz1,fmz ⟨.inl mz2,fmz ⟨.inl mz3,fmz ⟨.inl mz4,fmz ⟨.inl mz5,fnz⟩⟩⟩⟩⟩⟩)
 refine yV (UF.eq v12) rfl s kI iiz fun a w s=> ?_
 refine zA rfl ?_
 refine zVR ?_
 refine zVR ?_
 refine zB 1 ((9, .u (uI 0)):: []) hmix s kI
  (oc zG<|zD) fun a w4 s=> ?_
 refine zA rfl ?_
 refine zVV ?_
 obtain ⟨base,hbase⟩: ∃b,b=w4.heap.size:=⟨_,rfl⟩
 have hb5:b5<base:=by rw [hbase];exact s.old _ (.head _)
 have hbb:=s.gr.size
 have hb0':_<=base:=hbase▸hbb
 have hsz0:base<=w4.heap.size:=by rw [hbase];exact zWd _
 refine zDH (fun (q:Nat×Wn) w=>q.1<=ts.length/\base<=w.heap.size/\zBS w base 3 1 q.2 (zKc (zA8 (yS rs p) ts q.1))) (fun q=> [(1, .u (UF.eq l)),(8, .u (UF.eq v12)),(7, .u (UF.eq (q.2))),(9, .u (uI (q.1:Int)))]) (fun q=>ts.length - q.1) (0, .slice none 0 0) (⟨zV5 _,hsz0,zBS.nil _ _ _ _⟩) (s.keepK _ (fmz ⟨mz6,fmz ⟨mz1,fmz ⟨mz3,fmz ⟨.head _,fnz⟩⟩⟩⟩)) fun q a w hI s=> ?_
 have s0:=s
 have hvw:=(SF.row 6 _).st _ _ _ hv12 s0.below
 have htw:=(SF.row 18 _).st _ _ _ ht' s0.below
 replace s:=s.reb rfl [(1, .u (UF.eq l)),(8, .u (UF.eq v12)),(7, .u (UF.eq (q.2))),(9, .u (uI (q.1:Int)))] (fmz ⟨.inl (.head _),fmz ⟨.inl mz1,fmz ⟨.inl mz2,fmz ⟨.inl mz3,fnz⟩⟩⟩⟩)
 refine zVR ?_
 refine zVR ?_
 refine zB 4 ((13, .Z (uI (q.1:Int)))::(14, .Z (UF.eq l))::(15, .Z (uI ((trs m ts).length:Int)))::(16, .u (uB (decide ((q.1:Int)<((trs m ts).length:Int))))):: []) hmix s kI
  (oc zC<|oc zC<|oc (jC (z:=18) (Cs:=trs m ts) kI (fun v W hb h=>(yK htw h (s.up hb))) (fun _=>rfl))<|oc (zR .i64 (q.1:Int) ((trs m ts).length:Int) (decide ((q.1:Int)<((trs m ts).length:Int))) iiz iiz rfl rfl)<|zD) fun a w5 s=> ?_
 refine zA rfl ?_
 refine StS.cond s (decide ((q.1:Int)<((trs m ts).length:Int))) iiz (fun e=> ?_) (fun e=> ?_)
 ·have hk:q.1<ts.length:=by have:=zVW e;simp at this;omega
  refine zVT ?_
  refine zVR ?_
  refine zVV ?_
  refine zVR ?_
  refine zB 8 ((19, .Z (UF.eq v12))::(20, .Z (UF.eq l))::(21, .Z (uI (q.1:Int)))::(22, .Y (fTR m (at3 ts q.1)))::(23, .Z (fTR m (at3 ts q.1)))::(24, .s (SF.row 6 (pvs m (tl (at3 ts q.1)))))::(25, .Z (uB (yX (yS rs p) (tl (at3 ts q.1)))))::(26, .u (uB (!(yX (yS rs p) (tl (at3 ts q.1)))))):: []) hmix s kI
   (oc zC<|oc zC<|oc zC<|oc (yP (z:=18) (Cs:=trs m ts) (i:=q.1) (C:=CU.agg (fTR m (at3 ts q.1))) kI (zCe hk) (fun v W hb h=>(yK htw h (s.up hb))) iiz)<|oc (zI (f:=fTR m (at3 ts q.1)) 18 kI (hz:=zC7 _ _))<|oc (zH zE zSx (fun u0 W hb (h0:(fTR m (at3 ts q.1)).p u0 W)=>zMu h0))<|oc (zJ zE zTY (fun u0 u1 W hb (h0:u0=v12) (h1:(SF.row 6 (pvs m (tl (at3 ts q.1)))).p u1 W)=>zJI (m:=M) (yK hvw h0 (s.up hb)) (zBI oP _ _ h1) hM2 oP (by rw [zAC];exact hn) fP))<|oc (zAy (yX (yS rs p) (tl (at3 ts q.1))) iiz (fun _=>rfl))<|zD) fun a w6 s=> ?_
  refine zA rfl ?_
  refine StS.cond s (!(yX (yS rs p) (tl (at3 ts q.1)))) iiz (fun e=> ?_) (fun e=> ?_)
  ·refine zBZ 3 ((27, .u (UF.eq (q.2)))::(28, .Z (uI (q.1:Int)))::(29, .s (SF.row 1 [wC [.int .i64 (q.1:Int)]])):: []) s kI
    (oc zC<|oc zC<|oc (zAe (fun u W (hu:u= .int .i64 (q.1:Int))=>zPR hu))<|zD) fun a w7 s hr=> ?_
   refine zJy ([wC [.int .i64 (q.1:Int)]]) s0 (s.keepK [(27, .u (UF.eq (q.2))),(26, .u (uB (!(yX (yS rs p) (tl (at3 ts q.1)))))),(16, .u (uB (decide ((q.1:Int)<((trs m ts).length:Int))))),(1, .u (UF.eq l)),(8, .u (UF.eq v12)),(7, .u (UF.eq (q.2))),(9, .u (uI (q.1:Int)))] (fmz ⟨.head _,fmz ⟨mz1,fmz ⟨mz2,fmz ⟨mz3,fmz ⟨mz4,fmz ⟨mz5,fmz ⟨mz6,fnz⟩⟩⟩⟩⟩⟩⟩)) hb0' hI.2 rfl kI kI kI (s.fct (.tmp 27)) (hr (_,_) mz2) (zSa _) (by have:=zJx (yS rs p) ts q.1;simp;omega) (fun x hx hr=>by rcases zVU.1 hx with rfl|hx;exact hb5;cases hx) fun v' a w hI' s=> ?_
   have s1:=s
   replace s:StS _ _ _ [⟨5,31,CU.agg (fPV k p),b5,true⟩] _ _ _ _:=s.freeze
   replace s:=s.reb rfl [(30, .u (UF.eq v')),(27, .u (UF.eq (q.2))),(26, .u (uB (!(yX (yS rs p) (tl (at3 ts q.1)))))),(16, .u (uB (decide ((q.1:Int)<((trs m ts).length:Int))))),(1, .u (UF.eq l)),(8, .u (UF.eq v12)),(7, .u (UF.eq (q.2))),(9, .u (uI (q.1:Int)))] (fmz ⟨.inl (.head _),fmz ⟨.inl mz1,fmz ⟨.inl mz2,fmz ⟨.inl mz3,fmz ⟨.inl mz4,fmz ⟨.inl mz5,fmz ⟨.inl mz6,fmz ⟨.inl mz7,fnz⟩⟩⟩⟩⟩⟩⟩⟩)
   replace s:=s.drop [7]
   refine yV (UF.eq v') rfl s kI iiz fun a w s=> ?_
   refine zA rfl ?_
   refine zZ 2 ((17, .Z (uI (q.1:Int)))::(18, .u (uI ((q.1+1:Nat):Int))):: []) s kI
    (oc zC<|oc (yR .i64 (q.1:Int) 1 ((q.1+1:Nat):Int) iiz iiz (wrap64 _ _ oP oP))<|zD) fun a w8 s=> ?_
   replace s:=s.drop [9]
   refine yV (uI ((q.1+1:Nat):Int)) rfl s kI iiz fun a w s=> ?_
   refine zA rfl ?_
   have hbw:=s.below
   replace s:=s1.back (s.keepK [(9, .u (uI ((q.1+1:Nat):Int))),(18, .u (uI ((q.1+1:Nat):Int))),(7, .u (UF.eq v')),(30, .u (UF.eq v')),(27, .u (UF.eq (q.2))),(26, .u (uB (!(yX (yS rs p) (tl (at3 ts q.1)))))),(16, .u (uB (decide ((q.1:Int)<((trs m ts).length:Int))))),(1, .u (UF.eq l)),(8, .u (UF.eq v12))] (fmz ⟨.head _,fmz ⟨mz1,fmz ⟨mz2,fmz ⟨mz3,fmz ⟨mz4,fmz ⟨mz5,fmz ⟨mz6,fmz ⟨mz7,fmz ⟨mz8,fnz⟩⟩⟩⟩⟩⟩⟩⟩⟩)) rfl
   exact ⟨(q.1+1,v'),(by show ts.length - (q.1+1)<ts.length - q.1;omega),⟨hk,zVZ hI'.1 hbw.size,by show zBS _ _ _ _ _ (zKc (zA8 _ _ (q.1+1)));rw [zMZ e,zLG];exact hI'.2.below hbw⟩,s.keepK _ (fmz ⟨mz7,fmz ⟨mz8,fmz ⟨mz2,fmz ⟨.head _,fnz⟩⟩⟩⟩)⟩
  ·refine zVT ?_
   refine zZ 2 ((17, .Z (uI (q.1:Int)))::(18, .u (uI ((q.1+1:Nat):Int))):: []) s kI
    (oc zC<|oc (yR .i64 (q.1:Int) 1 ((q.1+1:Nat):Int) iiz iiz (wrap64 _ _ oP oP))<|zD) fun a w9 s=> ?_
   replace s:=s.drop [9]
   refine yV (uI ((q.1+1:Nat):Int)) rfl s kI iiz fun a w s=> ?_
   refine zA rfl ?_
   have hbw:=s.below
   replace s:=s0.back (s.keepK [(9, .u (uI ((q.1+1:Nat):Int))),(18, .u (uI ((q.1+1:Nat):Int))),(26, .u (uB (!(yX (yS rs p) (tl (at3 ts q.1)))))),(16, .u (uB (decide ((q.1:Int)<((trs m ts).length:Int))))),(1, .u (UF.eq l)),(8, .u (UF.eq v12)),(7, .u (UF.eq (q.2)))] (fmz ⟨.head _,fmz ⟨mz1,fmz ⟨mz2,fmz ⟨mz3,fmz ⟨mz4,fmz ⟨mz5,fmz ⟨mz6,fnz⟩⟩⟩⟩⟩⟩⟩)) rfl
   exact ⟨(q.1+1,q.2),(by show ts.length - (q.1+1)<ts.length - q.1;omega),⟨hk,zVZ hI.2.1 hbw.size,by show zBS _ _ _ _ _ (zKc (zA8 _ _ (q.1+1)));rw [zM0 e];exact hI.2.2.below hbw⟩,s.keepK _ (fmz ⟨mz4,fmz ⟨mz5,fmz ⟨mz6,fmz ⟨.head _,fnz⟩⟩⟩⟩)⟩
 ·have hk:q.1=ts.length:=by have h7:=zVY e;have h8:=hI.1;simp at h7;omega
  refine zV2 ?_
  refine zVR ?_
  refine zB 2 ((31, .Z (UF.eq (q.2)))::(6, .u (UF.eq (q.2))):: []) hmix s kI
   (oc zC<|oc zG<|zD) fun a w10 s=> ?_
  refine zA rfl ?_
  refine zVS ?_
  exact StS.resN s (hb0.trans (s0.below.mono hb0.size)) rfl (by rw [s.val (.head _)];have:=(hI.2.2.below s.below).mono (zVZ hb0.size hb0');rw [hk] at this;exact this)
theorem zEP {m k M K:Nat} {W:Wm} {r l v:Wn} {rs:List V2} {ts:List V6} {p:V2} (hr_:(SF.row 6 (pvs m rs)).p r W) (ht:(SF.row 18 (trs m ts)).p l W) (h1:(fPV k p).p v W) (hm0:0<m) (hk0:0<k) (hmK:m<=K) (hkK:k<=K) (hK:K<=200) (hM:m+k+1<=M) (hM2:M<=240) (hn:rs.length<=1000000) (hnt:ts.length<=1000000):Calls prog 12 #[r,l,v] W (Ret W (fB (!(ts.any fun t=> !(yX (yS rs p) (tl t))))).tS):=by
 obtain ⟨wl,hwl⟩: ∃wl,wl=zA8 (yS rs p) ts ts.length:=⟨_,rfl⟩
 refine z5 [(UF.eq r).tS,(UF.eq l).tS,(fPV k p).tS] func12 rfl kI ⟨rfl,rfl,h1,trivial⟩ fun a s=> ?_
 replace s:=s.renew [(0, .u (UF.eq r)),(1, .u (UF.eq l)),(2, .u (fPV k p))] (fmz ⟨.inr ⟨_,rfl, .head _⟩,fmz ⟨.inr ⟨_,rfl,mz1⟩,fmz ⟨.inr ⟨_,rfl,mz2⟩,fnz⟩⟩⟩)
 refine zVR ?_
 refine zB 0 [] hmix s kI
  zD fun a w1 s=> ?_
 refine yN (CU.agg (fPV k p)) rfl s kI (fun v W h=>qC h) fun b5 a w s=> ?_
 refine yV (uB false) rfl s kI iiz fun a w s=> ?_
 refine zA rfl ?_
 refine zVR ?_
 replace s:=s.drop [6]
 refine zB 7 ((7, .Z (UF.eq r))::(8, .Z (UF.eq l))::(9, .Z (fPV k p))::(10, .s (SF.row 1 (zKc wl)))::(11, .Z (uI ((zKc wl).length:Int)))::(12, .Z (uB (!(ts.any fun t=> !(yX (yS rs p) (tl t))))))::(6, .u (uB (!(ts.any fun t=> !(yX (yS rs p) (tl t)))))):: []) hmix s kI
  (oc zC<|oc zC<|oc (zI (f:=fPV k p) 6 kI (hz:=zX _ _))<|oc (zAh zE zT9 (fun u0 u1 u2 W hb (h0:u0=r) (h1:u1=l) (h2:(fPV k p).p u2 W)=>(zJG (yK hr_ h0 (s.up hb)) (yK ht h1 (s.up hb)) h2 hm0 hk0 hmK hkK hK hM hM2 hn hnt).mono (wI (fun v W h=>by rw [<-hwl] at h;exact zBe _ _ h))))<|oc (zBk (z:=1) (Cs:=zKc wl) kI iiz (fun _=>rfl))<|oc (zR .i64 ((zKc wl).length:Int) 0 (!(ts.any fun t=> !(yX (yS rs p) (tl t)))) iiz iiz (zMY hwl) rfl)<|oc zG<|zD) fun a w2 s=> ?_
 refine zA rfl ?_
 refine zVS ?_
 exact wH s (t:=6) rfl (fun v W h=>h)
end Go.Proofs.Wd
