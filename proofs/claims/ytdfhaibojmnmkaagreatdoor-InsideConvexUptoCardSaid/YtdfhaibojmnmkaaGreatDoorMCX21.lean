/- Walks of straitref10: ends, Lines, Segs; Two points as a struct; walks and what it needs. -/
import Derived.Test.YtdfhaibojmnmkaaGreatDoorMCX20
import Derived.Test.YtdfhaibojmnmkaaGreatDoorMCX13
theorem kI {P:Prop} (h:P:=by kernel_rfl):P:=h
theorem oP {P:Prop} (h:P:=by omega):P:=h
theorem dB {P:Prop} (h:P:=by decide):P:=h
namespace Go.Proofs.Wd
set_option maxRecDepth 100000
set_option maxHeartbeats 1000000
open Go.RowKit Lb
theorem zRF (z:Nat) (W:World):(SF.row z []).p (.slice none 0 0) W:=⟨none,0,rfl,Nat.le_refl _,by decide,fun _=>rfl,fun i C hi=>by simp at hi⟩
theorem zF3 {F:Fence} {m:Nat} {P:Program} {w0:World} {ops:Array Oper} {G:Nat->SF} {d:Tmp} {ty:TypeId} {pos:String} {aft:Array Edge} {f:FuncId} {x y z q:Operand} {ats:Array TypeId} (hF:zIk F m P) (he:Enters P f) (h: ∀u v r s W,Below w0.heap.size w0 W->(fct G x).p u W->(fct G y).p v W->(fct G z).p r W->(fct G q).p s W->Calls P f #[u,v,r,s] W (Ret W (G d))):qK F m P w0 ops G ⟨some d, .call ⟨.value (.func f),#[x,y,z,q],ats⟩,ty,pos,aft,none⟩:=
 zDh hF he fun b W hb hh=>by simpa using h _ _ _ _ W hb (hh x (by simp)) (hh y (by simp)) (hh z (by simp)) (hh q (by simp))
def zD1 (p q:V2):Prop:= ∃m n,PB p m/\PB q n/\m+n<=81
theorem zD1.sub {p q:V2} (h:zD1 p q):QB (q.1 - p.1) 82/\QB (q.2 - p.2) 82:=by
 obtain ⟨m,n,h1,h2,h3⟩:=h
 exact ⟨(h2.1.sub h1.1).mono oP,(h2.2.sub h1.2).mono oP⟩
theorem zD1.one {p q:V2} (h:zD1 p q):QB p.1 80/\QB p.2 80:=by
 obtain ⟨m,n,h1,h2,h3⟩:=h
 exact ⟨h1.1.mono (by have:=h2.1.pos;omega),h1.2.mono (by have:=h2.1.pos;omega)⟩
theorem zD1.two {p q:V2} (h:zD1 p q):QB q.1 80/\QB q.2 80:=by
 obtain ⟨m,n,h1,h2,h3⟩:=h
 exact ⟨h2.1.mono (by have:=h1.1.pos;omega),h2.2.mono (by have:=h1.1.pos;omega)⟩
def dnm (a b c d:V2):Rat:=(b.1 - a.1)*(d.2 - c.2) - (b.2 - a.2)*(d.1 - c.1)
def tnm (a c d:V2):Rat:=(c.1 - a.1)*(d.2 - c.2) - (c.2 - a.2)*(d.1 - c.1)
def yW (a b c d:V2):V2:=if dnm a b c d=0 then (((0:Int):Rat),((0:Int):Rat)) else seg a b (tnm a c d / dnm a b c d)
theorem zO9 {a b:V2} {m:Nat} (h:zD1 a b) (hm:163<=m): ∃l:Ln,l.bd m/\ ∃s:Rat,s≠0/\ ∀p:V2,(l.A:Rat)*p.1+(l.B:Rat)*p.2+(l.C:Rat)=s*crs a b p:=by
 obtain ⟨k,n,ha,hb,hkn⟩:=h
 refine ⟨⟨-(b.2.num*a.2.den - a.2.num*b.2.den)*(a.1.den*b.1.den),(b.1.num*a.1.den - a.1.num*b.1.den)*(a.2.den*b.2.den),b.2.num*a.1.num*(b.1.den*a.2.den) - b.1.num*a.2.num*(a.1.den*b.2.den)⟩, ?_,(a.1.den:Rat)*b.1.den*(a.2.den*b.2.den), ?_,fun p=> ?_⟩
 ·have d1:=q6 ha.1.2;have d2:=q6 ha.2.2;have d3:=q6 hb.1.2;have d4:=q6 hb.2.2
  refine ⟨?_, ?_, ?_⟩
  ·exact ((((hb.2.1.mul d2).add ((ha.2.1.mul d4).neg.mono oP)).neg.mul (d1.mul d3)).mono oP)
  ·exact ((((hb.1.1.mul d1).add ((ha.1.1.mul d3).neg.mono oP)).mul (d2.mul d4)).mono oP)
  ·exact (((hb.2.1.mul ha.1.1).mul (d3.mul d2)).add ((((hb.1.1.mul ha.2.1).mul (d1.mul d4)).neg).mono oP)).mono oP
 ·have: ∀q:Rat,(q.den:Rat)≠0:=fun q h=>q.den_nz (by exact_mod_cast h)
  have h1:=this a.1;have h2:=this a.2;have h3:=this b.1;have h4:=this b.2
  intro h
  rcases Rat.mul_eq_zero.1 h with h|h<;>rcases Rat.mul_eq_zero.1 h with h|h<;>contradiction
 ·simp only [Rat.intCast_mul,Rat.intCast_sub,Rat.intCast_neg,Rat.intCast_natCast,zI3]
  unfold crs
  grind
theorem zN7 {a b c d:V2} (hab:zD1 a b) (hcd:zD1 c d):QB (yW a b c d).1 327/\QB (yW a b c d).2 327:=by
 unfold yW
 split
 ·exact ⟨QB.zero dB,QB.zero dB⟩
 ·rename_i hd
  obtain ⟨l,hl,s,hs,he⟩:=zO9 hab lr
  obtain ⟨l',hl',s',hs',he'⟩:=zO9 hcd lr
  have hne:a≠b:=fun e=>hd (by subst e;unfold dnm;grind)
  have h6:crs a b (seg a b (tnm a c d / dnm a b c d))=0:=by unfold crs seg;grind
  have h7:crs c d (seg a b (tnm a c d / dnm a b c d))=0:=by
   have e1:crs c d (seg a b (tnm a c d / dnm a b c d))=tnm a c d - tnm a c d / dnm a b c d*dnm a b c d:=by
    generalize tnm a c d / dnm a b c d=t
    unfold crs seg tnm dnm
    grind
   rw [e1,Rat.div_mul_cancel hd]
   grind
  have key: ∀q:V2,crs a b q=0->crs c d q≠0->PB (seg a b (tnm a c d / dnm a b c d)) 327:=fun q h1 h2=>
   zOt (l:=l) (l':=l') (q:=q) (m:=163) dB hl hl' (by unfold Ln.on;rw [he,h6];grind) (by unfold Ln.on;rw [he,h1];grind) (by unfold Ln.on;rw [he',h7];grind) (fun h=>by
    unfold Ln.on at h
    rw [he'] at h
    rcases Rat.mul_eq_zero.1 h with h|h
    ·exact hs' h
    ·exact h2 h) (zTa hne l s hs he)
  by_cases h8:crs c d a=0
  ·exact key b (by unfold crs;grind) fun h9=>hd (by unfold crs at h8 h9;unfold dnm;grind)
  ·exact key a (by unfold crs;grind) h8
theorem zPu {a b c d:V2} (hab:zD1 a b) (hcd:zD1 c d):QB (dnm a b c d) 329:=((hab.sub.1.mul hcd.sub.2).sub (hab.sub.2.mul hcd.sub.1)).mono dB
theorem zOL {a c d:V2} (hac:zD1 a c) (hcd:zD1 c d):QB (tnm a c d) 329:=((hac.sub.1.mul hcd.sub.2).sub (hac.sub.2.mul hcd.sub.1)).mono dB
def zBl (a b c d:V2):Int:=if ((((pns (yM a b c d 4)).length:Nat):Int)≥2) then 2 else if ((((pns (yM a b c d 4)).length:Nat):Int)==1)=true then 1 else if ((!(decide (dnm a b c d=0))&&onS a b (yW a b c d))&&onS c d (yW a b c d))=true then 1 else 0
section
variable {S:Nat->Prop} {w0 w1:World} {K K0:List (Nat×KF)} {n n0:Nat} {ds0:List Deferred} {a a0:Act} {w:World}
theorem yQ.thaw: ∀(B:List Bx),yQ S w0 a0 w1 B->yQ noS w1 a w (frz B)->yQ S w0 a w B
 | [],_,_=>trivial
 |x::B,⟨⟨_,_,h2,_,_,_,h6⟩,h7⟩,⟨⟨cs,g1,_,g3,g4,g5,_⟩,g7⟩=>⟨⟨cs,g1,h2,g3,g4,g5,h6⟩,yQ.thaw B h7 g7⟩
theorem StS.thaw {B:List Bx} (h0:StS S w0 K0 B n0 ds0 a0 w1) (h:St w1 K (frz B) n [] a w) (hu:(K.all fun q=>zSi q.2)=true):StS S w0 K B n [] a w:=
 ⟨h0.gr.trans h.below,h.size,h.nd,fun q hq=>by
  have h1:=h.sl q hq
  obtain ⟨f,e⟩:=zAw hu q hq
  rw [e] at h1 ⊢
  exact h1,yQ.thaw B h0.bx h.bx,⟨[],Marks.nil _ _⟩, .inl (zAw hu)⟩
end
def fMT (k:Int):UF:=⟨⟨fun v _=> ∃vs:List Value,v= .agg (Value.int .i8 k::vs).toArray/\vs.length=12/\(∀u,u∈vs->u.oneCell'=true)/\vs.all yG=true,fun _ _ _ h _=>h⟩,fun _ _ _ h _=>h⟩
theorem zI6 (k:Int) (cs:List Value) (W:World) (h:(CU.agg (fMT k)).p cs W):cs.length=13:=by
 obtain ⟨vs,e,h1,_⟩:=h
 obtain rfl:cs=Value.int .i8 k::vs:=by simpa using jM e
 simp [h1]
theorem zDl (k:Int) (v:Value) (W:World) (h:(fMT k).p v W): ∃vs:List Value,v= .agg vs.toArray/\vs.length=13/\(∀u,u∈vs->u.oneCell'=true)/\vs.all yG=true/\(CU.agg (fMT k)).p vs W:=by
 obtain ⟨vs,rfl,h1,h2,h3⟩:=h
 exact ⟨_,rfl,by simp [h1],fun u hu=>by rcases List.mem_cons.1 hu with rfl|hu;rfl;exact h2 u hu,by simpa [yG] using h3,vs,rfl,h1,h2,h3⟩
theorem zF8 (k:Int) (cs:List Value) (W:World) (h:(CU.agg (fMT k)).p cs W): ∃u,cs[0]?=some u/\(UF.eq (.int .i8 k)).p u W:=by
 obtain ⟨vs,e,_⟩:=h
 obtain rfl:cs=Value.int .i8 k::vs:=by simpa using jM e
 exact ⟨_,rfl,rfl⟩
theorem zUO (k:Int) (a1 a2 a3 a4 a5 a6 b1 b2 b3 b4 b5 b6:Value):Tryz.prog.built 148 [(0, .int .i8 k),(1, .agg #[a1,a2,a3,a4,a5,a6]),(2, .agg #[b1,b2,b3,b4,b5,b6])]=some #[.int .i8 k,a1,a2,a3,a4,a5,a6,b1,b2,b3,b4,b5,b6]:=by kernel_rfl
theorem zUP (a1 a2 a3 a4 a5 a6 b1 b2 b3 b4 b5 b6:Value):Tryz.prog.built 148 [(1, .agg #[a1,a2,a3,a4,a5,a6]),(2, .agg #[b1,b2,b3,b4,b5,b6])]=some #[.int .i8 0,a1,a2,a3,a4,a5,a6,b1,b2,b3,b4,b5,b6]:=by kernel_rfl
theorem zEl {f g:UF} {v:Value} {W:World} (h:(fPT f g).p v W): ∃u0 u1 u2 u3 u4 u5,v= .agg #[u0,u1,u2,u3,u4,u5]/\(∀u,u∈ [u0,u1,u2,u3,u4,u5]->u.oneCell'=true)/\ [u0,u1,u2,u3,u4,u5].all yG=true:=by
 obtain ⟨vs,rfl,hl,h1,h2,_⟩:=yR v W h
 obtain ⟨u0,u1,u2,u3,u4,u5,rfl⟩:=zSf hl
 exact ⟨u0,u1,u2,u3,u4,u5,rfl,h1,h2⟩
theorem zRf {f g f' g':UF} {k:Int} {u v:Value} {W:World} (hu:(fPT f g).p u W) (hv:(fPT f' g').p v W): ∃cells,Tryz.prog.built 148 [(0, .int .i8 k),(1,u),(2,v)]=some cells/\(fMT k).p (.agg cells) W:=by
 obtain ⟨a1,a2,a3,a4,a5,a6,rfl,h1,h2⟩:=zEl hu
 obtain ⟨b1,b2,b3,b4,b5,b6,rfl,h3,h4⟩:=zEl hv
 exact ⟨_,zUO .., [a1,a2,a3,a4,a5,a6]++ [b1,b2,b3,b4,b5,b6],rfl,rfl,fun u hu=>by rcases List.mem_append.1 hu with h|h;exact h1 u h;exact h3 u h,by rw [List.all_append,h2,h4];rfl⟩
theorem zUf {f g f' g':UF} {u v:Value} {W:World} (hu:(fPT f g).p u W) (hv:(fPT f' g').p v W): ∃cells,Tryz.prog.built 148 [(1,u),(2,v)]=some cells/\(fMT 0).p (.agg cells) W:=by
 obtain ⟨a1,a2,a3,a4,a5,a6,rfl,h1,h2⟩:=zEl hu
 obtain ⟨b1,b2,b3,b4,b5,b6,rfl,h3,h4⟩:=zEl hv
 exact ⟨_,zUP .., [a1,a2,a3,a4,a5,a6]++ [b1,b2,b3,b4,b5,b6],rfl,rfl,fun u hu=>by rcases List.mem_append.1 hu with h|h;exact h1 u h;exact h3 u h,by rw [List.all_append,h2,h4];rfl⟩
theorem zLj {W:World} {u v x y:Value} {ca cb cc cd:V2} (h1:(fPV 80 ca).p u W) (h2:(fPV 80 cb).p v W) (h3:(fPV 80 cc).p x W) (h4:(fPV 80 cd).p y W):Calls Tryz.prog 156 #[u,v,x,y] W (Ret W (SF.row 6 (pns (yM ca cb cc cd 4)))):=by
 have hq4: ∀p,p∈ [ca,cb,cc,cd]->QB p.1 80/\QB p.2 80:=fun p hp=>by
  simp only [List.mem_cons,List.not_mem_nil,or_false] at hp
  rcases hp with rfl|rfl|rfl|rfl
  ·exact zDd dB h1
  ·exact zDd dB h2
  ·exact zDd dB h3
  ·exact zDd dB h4
 refine yD [(fPV 80 ca).toSF,(fPV 80 cb).toSF,(fPV 80 cc).toSF,(fPV 80 cd).toSF] Tryz.func156 rfl kI ⟨h1,h2,h3,h4,trivial⟩ fun a s=> ?_
 replace s:=s.renew [(0, .u (fPV 80 ca)),(1, .u (fPV 80 cb)),(2, .u (fPV 80 cc)),(3, .u (fPV 80 cd))] (fmz ⟨.inr ⟨_,rfl, .head _⟩,fmz ⟨.inr ⟨_,rfl,mz1⟩,fmz ⟨.inr ⟨_,rfl,mz2⟩,fmz ⟨.inr ⟨_,rfl,mz3⟩,fnz⟩⟩⟩⟩)
 refine wpIn_seq ?_
 refine zB 0 [] hmix s kI
  zE fun a w1 s=> ?_
 refine yJ (CU.agg (fPV 80 ca)) rfl s kI (fun v W h=>yP h) fun b4 a w s=> ?_
 refine yJ (CU.agg (fPV 80 cb)) rfl s kI (fun v W h=>yP h) fun b5 a w s=> ?_
 refine yJ (CU.agg (fPV 80 cc)) rfl s kI (fun v W h=>yP h) fun b6 a w s=> ?_
 refine yJ (CU.agg (fPV 80 cd)) rfl s kI (fun v W h=>yP h) fun b7 a w s=> ?_
 refine yU (UF.eq (.slice none 0 0)) rfl s kI iiz fun a w s=> ?_
 refine zA rfl ?_
 refine wpIn_seq ?_
 refine zB 1 ((9, .u (UF.eq (.slice none 0 0))):: []) hmix s kI
  (oc zG<|zE) fun a w2 s=> ?_
 refine zA rfl ?_
 refine wpIn_seq ?_
 refine jJ 5 ((12, .s ((fPV 80 ca).toSF))::(13, .s ((fPV 80 cb).toSF))::(14, .s ((fPV 80 cc).toSF))::(15, .s ((fPV 80 cd).toSF))::(16, .s (SF.row 6 (pvs 80 [ca,cb,cc,cd]))):: []) hmix s kI
  (oc (zJ (f:=fPV 80 ca) 6 kI (hz:=zP _ _))<|oc (zJ (f:=fPV 80 cb) 6 kI (hz:=zP _ _))<|oc (zJ (f:=fPV 80 cc) 6 kI (hz:=zP _ _))<|oc (zJ (f:=fPV 80 cd) 6 kI (hz:=zP _ _))<|oc (zLz (fun u v r s W (hu:(fPV 80 ca).p u W) (hv:(fPV 80 cb).p v W) (hr:(fPV 80 cc).p r W) (hs:(fPV 80 cd).p s W)=>zRz hu hv hr hs))<|zE) fun a w3 s hr=> ?_
 obtain ⟨v16,e16⟩: ∃v,a.tmps.getD 16 undef=v:=⟨_,rfl⟩
 have hv16:(SF.row 6 (pvs 80 [ca,cb,cc,cd])).p v16 w3:=e16▸(hr (_,_) mz4)
 replace s:=s.learn 16 v16 e16
 have hbX:=s.below
 replace s:StS _ _ _ [⟨7,30,CU.agg (fPV 80 cd),b7,true⟩,⟨6,30,CU.agg (fPV 80 cc),b6,true⟩,⟨5,30,CU.agg (fPV 80 cb),b5,true⟩,⟨4,30,CU.agg (fPV 80 ca),b4,true⟩] _ _ _ _:=s.freeze
 replace s:=s.reb rfl [(16, .u (UF.eq v16)),(9, .u (UF.eq (.slice none 0 0))),(8, .u (UF.eq (.slice none 0 0))),(0, .u (fPV 80 ca)),(1, .u (fPV 80 cb)),(2, .u (fPV 80 cc)),(3, .u (fPV 80 cd))] (fmz ⟨.inl (.head _),fmz ⟨.inl mz1,fmz ⟨.inl mz2,fmz ⟨.inl mz3,fmz ⟨.inl mz4,fmz ⟨.inl mz5,fmz ⟨.inl mz6,fnz⟩⟩⟩⟩⟩⟩⟩)
 refine yU (UF.eq v16) rfl s kI iiz fun a w s=> ?_
 refine zA rfl ?_
 refine wpIn_seq ?_
 refine wpIn_seq ?_
 refine zB 1 ((11, .u (uI 0)):: []) hmix s kI
  (oc zG<|zE) fun a w4 s=> ?_
 refine zA rfl ?_
 refine wpIn_block ?_
 have hi0:(SF.row 6 (pns (yM ca cb cc cd 0))).p (.slice none 0 0) w4:=zRF 6 _
 refine zHI (fun (p:Nat×Value) w=>p.1<=4/\(SF.row 6 (pns (yM ca cb cc cd p.1))).p p.2 w) (fun p=> [(10, .u (UF.eq v16)),(9, .u (UF.eq p.2)),(11, .u (uI (p.1:Int)))]) (fun p=>4 - p.1) (0, .slice none 0 0) (⟨Nat.zero_le _,hi0⟩) (s.keepK _ (fmz ⟨mz1,fmz ⟨mz3,fmz ⟨.head _,fnz⟩⟩⟩)) fun p a w hI s=> ?_
 have s0:=s
 have hv16w:=(SF.row 6 (pvs 80 [ca,cb,cc,cd])).st _ _ _ hv16 s0.below
 replace s:=s.reb rfl [(10, .u (UF.eq v16)),(9, .u (UF.eq p.2)),(11, .u (uI (p.1:Int)))] (fmz ⟨.inl (.head _),fmz ⟨.inl mz1,fmz ⟨.inl mz2,fnz⟩⟩⟩)
 refine wpIn_seq ?_
 refine wpIn_seq ?_
 refine zB 2 ((17, .s ((uI (p.1:Int)).toSF))::(18, .u (uB (decide ((p.1:Int)<4)))):: []) hmix s kI
  (oc zC<|oc (zR .i64 (p.1:Int) 4 (decide ((p.1:Int)<4)) iiz iiz rfl rfl)<|zE) fun a w5 s=> ?_
 refine zA rfl ?_
 refine StS.cond s (decide ((p.1:Int)<4)) iiz (fun e=> ?_) (fun e=> ?_)
 ·have hk4:p.1<4:=by have:=of_decide_eq_true e;omega
  have hk:p.1<([ca,cb,cc,cd]:List V2).length:=hk4
  refine wpIn_skip ?_
  refine wpIn_seq ?_
  refine wpIn_block ?_
  refine wpIn_seq ?_
  refine zB 16 ((21, .s ((fPV 80 ca).toSF))::(22, .s ((fPV 80 cb).toSF))::(23, .s ((UF.eq v16).toSF))::(24, .s ((uI (p.1:Int)).toSF))::(25, .s (SF.ptr (CU.agg (fPV 80 (at_ [ca,cb,cc,cd] p.1))).cf))::(26, .s ((fPV 80 (at_ [ca,cb,cc,cd] p.1)).toSF))::(27, .s ((uB (onS ca cb (at_ [ca,cb,cc,cd] p.1))).toSF))::(28, .s ((uB (onS ca cb (at_ [ca,cb,cc,cd] p.1))).toSF))::(29, .s (SF.imp ((onS ca cb (at_ [ca,cb,cc,cd] p.1))=true) ((fPV 80 cc).toSF)))::(30, .s (SF.imp ((onS ca cb (at_ [ca,cb,cc,cd] p.1))=true) ((fPV 80 cd).toSF)))::(31, .s (SF.imp ((onS ca cb (at_ [ca,cb,cc,cd] p.1))=true) ((UF.eq v16).toSF)))::(32, .s (SF.imp ((onS ca cb (at_ [ca,cb,cc,cd] p.1))=true) ((uI (p.1:Int)).toSF)))::(33, .s (SF.imp ((onS ca cb (at_ [ca,cb,cc,cd] p.1))=true) (SF.ptr (CU.agg (fPV 80 (at_ [ca,cb,cc,cd] p.1))).cf)))::(34, .s (SF.imp ((onS ca cb (at_ [ca,cb,cc,cd] p.1))=true) ((fPV 80 (at_ [ca,cb,cc,cd] p.1)).toSF)))::(35, .s (SF.imp ((onS ca cb (at_ [ca,cb,cc,cd] p.1))=true) ((uB (onS cc cd (at_ [ca,cb,cc,cd] p.1))).toSF)))::(36, .u (uB ((onS ca cb (at_ [ca,cb,cc,cd] p.1))&&(onS cc cd (at_ [ca,cb,cc,cd] p.1))))):: []) hmix s kI
   (oc (zJ (f:=fPV 80 ca) 6 kI (hz:=zP _ _))<|oc (zJ (f:=fPV 80 cb) 6 kI (hz:=zP _ _))<|oc zC<|oc zC<|oc (qW (z:=6) (Cs:=pvs 80 ([ca,cb,cc,cd])) (i:=p.1) (C:=CU.agg (fPV 80 (at_ [ca,cb,cc,cd] p.1))) kI (jS hk) (fun v W hb h=>(y5 hv16w h (s.up hb))) iiz)<|oc (zJ (f:=fPV 80 (at_ [ca,cb,cc,cd] p.1)) 6 kI (hz:=zP _ _))<|oc (jU zD zJu (fun u0 u1 u2 W hb (h0:(fPV 80 ca).p u0 W) (h1:(fPV 80 cb).p u1 W) (h2:(fPV 80 (at_ [ca,cb,cc,cd] p.1)).p u2 W)=>zFU (m:=80) (M:=80) h0 h1 h2 dB dB dB dB))<|oc zC<|oc (zF 28 (onS ca cb (at_ [ca,cb,cc,cd] p.1)) kI iiz (fun e=>zU [] ((fPV 80 cc).toSF) fnz (fun _ _ h _=>h) kI (zJ (f:=fPV 80 cc) 6 kI (hz:=zP _ _))) (fun e W h=>absurd h e))<|oc (zF 28 (onS ca cb (at_ [ca,cb,cc,cd] p.1)) kI iiz (fun e=>zU [] ((fPV 80 cd).toSF) fnz (fun _ _ h _=>h) kI (zJ (f:=fPV 80 cd) 6 kI (hz:=zP _ _))) (fun e W h=>absurd h e))<|oc (zF 28 (onS ca cb (at_ [ca,cb,cc,cd] p.1)) kI iiz (fun e=>zU [] ((UF.eq v16).toSF) fnz (fun _ _ h _=>h) kI zC) (fun e W h=>absurd h e))<|oc (zF 28 (onS ca cb (at_ [ca,cb,cc,cd] p.1)) kI iiz (fun e=>zU [] ((uI (p.1:Int)).toSF) fnz (fun _ _ h _=>h) kI zC) (fun e W h=>absurd h e))<|oc (zF 28 (onS ca cb (at_ [ca,cb,cc,cd] p.1)) kI iiz (fun e=>zU [(31,(UF.eq v16).toSF),(32,(uI (p.1:Int)).toSF)] (SF.ptr (CU.agg (fPV 80 (at_ [ca,cb,cc,cd] p.1))).cf) (fmz ⟨fun v W h=>zL (c:=(onS ca cb (at_ [ca,cb,cc,cd] p.1))=true) (f:=(UF.eq v16).toSF) e h,fmz ⟨fun v W h=>zL (c:=(onS ca cb (at_ [ca,cb,cc,cd] p.1))=true) (f:=(uI (p.1:Int)).toSF) e h,fnz⟩⟩) (fun _ _ h _=>h) kI (qW (z:=6) (Cs:=pvs 80 ([ca,cb,cc,cd])) (i:=p.1) (C:=CU.agg (fPV 80 (at_ [ca,cb,cc,cd] p.1))) kI (jS hk) (fun v W hb h=>(y5 hv16w h (s.up hb))) iiz)) (fun e W h=>absurd h e))<|oc (zF 28 (onS ca cb (at_ [ca,cb,cc,cd] p.1)) kI iiz (fun e=>zU [(33,SF.ptr (CU.agg (fPV 80 (at_ [ca,cb,cc,cd] p.1))).cf)] ((fPV 80 (at_ [ca,cb,cc,cd] p.1)).toSF) (fmz ⟨fun v W h=>zL (c:=(onS ca cb (at_ [ca,cb,cc,cd] p.1))=true) (f:=SF.ptr (CU.agg (fPV 80 (at_ [ca,cb,cc,cd] p.1))).cf) e h,fnz⟩) (fun _ _ h _=>h) kI (zJ (f:=fPV 80 (at_ [ca,cb,cc,cd] p.1)) 6 kI (hz:=zP _ _))) (fun e W h=>absurd h e))<|oc (zF 28 (onS ca cb (at_ [ca,cb,cc,cd] p.1)) kI iiz (fun e=>zU [(29,(fPV 80 cc).toSF),(30,(fPV 80 cd).toSF),(34,(fPV 80 (at_ [ca,cb,cc,cd] p.1)).toSF)] ((uB (onS cc cd (at_ [ca,cb,cc,cd] p.1))).toSF) (fmz ⟨fun v W h=>zL (c:=(onS ca cb (at_ [ca,cb,cc,cd] p.1))=true) (f:=(fPV 80 cc).toSF) e h,fmz ⟨fun v W h=>zL (c:=(onS ca cb (at_ [ca,cb,cc,cd] p.1))=true) (f:=(fPV 80 cd).toSF) e h,fmz ⟨fun v W h=>zL (c:=(onS ca cb (at_ [ca,cb,cc,cd] p.1))=true) (f:=(fPV 80 (at_ [ca,cb,cc,cd] p.1)).toSF) e h,fnz⟩⟩⟩) (fun _ _ h _=>h) kI (jU zD zJu (fun u0 u1 u2 W hb (h0:(fPV 80 cc).p u0 W) (h1:(fPV 80 cd).p u1 W) (h2:(fPV 80 (at_ [ca,cb,cc,cd] p.1)).p u2 W)=>zFU (m:=80) (M:=80) h0 h1 h2 dB dB dB dB))) (fun e W h=>absurd h e))<|oc (yC (onS ca cb (at_ [ca,cb,cc,cd] p.1)) iiz (fun e v W h=>jT (zL e h) e) (fun e v W h=>qZ h e))<|zE) fun a w6 s=> ?_
  refine zA rfl ?_
  refine StS.cond s ((onS ca cb (at_ [ca,cb,cc,cd] p.1))&&(onS cc cd (at_ [ca,cb,cc,cd] p.1))) iiz (fun e=> ?_) (fun e=> ?_)
  ·refine zHP 6 ((37, .s ((UF.eq p.2).toSF))::(38, .s ((UF.eq v16).toSF))::(39, .s ((uI (p.1:Int)).toSF))::(40, .s (SF.ptr (CU.agg (fPV 80 (at_ [ca,cb,cc,cd] p.1))).cf))::(41, .s ((fPV 80 (at_ [ca,cb,cc,cd] p.1)).toSF))::(42, .s (SF.row 6 (pns (zFX (yM ca cb cc cd p.1) (at_ [ca,cb,cc,cd] p.1))))):: []) s kI
    (oc zC<|oc zC<|oc zC<|oc (qW (z:=6) (Cs:=pvs 80 ([ca,cb,cc,cd])) (i:=p.1) (C:=CU.agg (fPV 80 (at_ [ca,cb,cc,cd] p.1))) kI (jS hk) (fun v W hb h=>(y5 hv16w h (s.up hb))) iiz)<|oc (zJ (f:=fPV 80 (at_ [ca,cb,cc,cd] p.1)) 6 kI (hz:=zP _ _))<|oc (zH zD zSG (fun u0 u1 W hb (h0:u0=p.2) (h1:(fPV 80 (at_ [ca,cb,cc,cd] p.1)).p u1 W)=>zNG (m:=80) (L:=yM ca cb cc cd p.1) (p:=(at_ [ca,cb,cc,cd] p.1)) (y5 hI.2 h0 (s.up hb)) h1 (zJr hq4 p.1 oP) dB dB (by have:=zE7 ca cb cc cd p.1;omega)))<|zE) fun a w7 s hr=> ?_
   obtain ⟨v42,e42⟩: ∃v,a.tmps.getD 42 undef=v:=⟨_,rfl⟩
   have hv42:(SF.row 6 (pns (zFX (yM ca cb cc cd p.1) (at_ [ca,cb,cc,cd] p.1)))).p v42 w7:=e42▸(hr (_,_) mz5)
   replace s:=s.learn 42 v42 e42
   replace s:=s.keepK [(42, .u (UF.eq v42)),(36, .u (uB ((onS ca cb (at_ [ca,cb,cc,cd] p.1))&&(onS cc cd (at_ [ca,cb,cc,cd] p.1))))),(18, .u (uB (decide ((p.1:Int)<4)))),(10, .u (UF.eq v16)),(9, .u (UF.eq p.2)),(11, .u (uI (p.1:Int)))] (fmz ⟨.head _,fmz ⟨mz1,fmz ⟨mz2,fmz ⟨mz3,fmz ⟨mz4,fmz ⟨mz5,fnz⟩⟩⟩⟩⟩⟩)
   have s1:=s0.back s rfl
   replace s:StS _ _ _ [⟨7,30,CU.agg (fPV 80 cd),b7,true⟩,⟨6,30,CU.agg (fPV 80 cc),b6,true⟩,⟨5,30,CU.agg (fPV 80 cb),b5,true⟩,⟨4,30,CU.agg (fPV 80 ca),b4,true⟩] _ _ _ _:=s.freeze
   replace s:=s.reb rfl [(42, .u (UF.eq v42)),(36, .u (uB ((onS ca cb (at_ [ca,cb,cc,cd] p.1))&&(onS cc cd (at_ [ca,cb,cc,cd] p.1))))),(18, .u (uB (decide ((p.1:Int)<4)))),(10, .u (UF.eq v16)),(9, .u (UF.eq p.2)),(11, .u (uI (p.1:Int)))] (fmz ⟨.inl (.head _),fmz ⟨.inl mz1,fmz ⟨.inl mz2,fmz ⟨.inl mz3,fmz ⟨.inl mz4,fmz ⟨.inl mz5,fnz⟩⟩⟩⟩⟩⟩)
   replace s:=s.drop [9]
   refine yU (UF.eq v42) rfl s kI iiz fun a w s=> ?_
   refine zA rfl ?_
   refine y6 2 ((19, .s ((uI (p.1:Int)).toSF))::(20, .u (uI ((p.1+1:Nat):Int))):: []) s kI
    (oc zC<|oc (qF .i64 (p.1:Int) 1 ((p.1+1:Nat):Int) iiz iiz (wrap64 _ _ oP oP))<|zE) fun a w8 s=> ?_
   replace s:=s.drop [11]
   refine yU (uI ((p.1+1:Nat):Int)) rfl s kI iiz fun a w s=> ?_
   refine zA rfl ?_
   have hbw:=s.below
   replace s:=s1.back (s.keepK [(11, .u (uI ((p.1+1:Nat):Int))),(20, .u (uI ((p.1+1:Nat):Int))),(9, .u (UF.eq v42)),(42, .u (UF.eq v42)),(36, .u (uB ((onS ca cb (at_ [ca,cb,cc,cd] p.1))&&(onS cc cd (at_ [ca,cb,cc,cd] p.1))))),(18, .u (uB (decide ((p.1:Int)<4)))),(10, .u (UF.eq v16))] (fmz ⟨.head _,fmz ⟨mz1,fmz ⟨mz2,fmz ⟨mz3,fmz ⟨mz4,fmz ⟨mz5,fmz ⟨mz6,fnz⟩⟩⟩⟩⟩⟩⟩)) rfl
   exact ⟨(p.1+1,v42),(by show 4 - (p.1+1)<4 - p.1;omega),⟨hk4,by show (SF.row 6 (pns (yM ca cb cc cd (p.1+1)))).p v42 _;rw [zQ1 e];exact (SF.row 6 _).st _ _ _ hv42 hbw⟩,s.keepK _ (fmz ⟨mz6,fmz ⟨mz2,fmz ⟨.head _,fnz⟩⟩⟩)⟩
  ·refine wpIn_skip ?_
   refine y6 2 ((19, .s ((uI (p.1:Int)).toSF))::(20, .u (uI ((p.1+1:Nat):Int))):: []) s kI
    (oc zC<|oc (qF .i64 (p.1:Int) 1 ((p.1+1:Nat):Int) iiz iiz (wrap64 _ _ oP oP))<|zE) fun a w9 s=> ?_
   replace s:=s.drop [11]
   refine yU (uI ((p.1+1:Nat):Int)) rfl s kI iiz fun a w s=> ?_
   refine zA rfl ?_
   have hbw:=s.below
   replace s:=s0.back (s.keepK [(11, .u (uI ((p.1+1:Nat):Int))),(20, .u (uI ((p.1+1:Nat):Int))),(36, .u (uB ((onS ca cb (at_ [ca,cb,cc,cd] p.1))&&(onS cc cd (at_ [ca,cb,cc,cd] p.1))))),(18, .u (uB (decide ((p.1:Int)<4)))),(10, .u (UF.eq v16)),(9, .u (UF.eq p.2))] (fmz ⟨.head _,fmz ⟨mz1,fmz ⟨mz2,fmz ⟨mz3,fmz ⟨mz4,fmz ⟨mz5,fnz⟩⟩⟩⟩⟩⟩)) rfl
   exact ⟨(p.1+1,p.2),(by show 4 - (p.1+1)<4 - p.1;omega),⟨hk4,by show (SF.row 6 (pns (yM ca cb cc cd (p.1+1)))).p p.2 _;rw [zQ2 e];exact (SF.row 6 _).st _ _ _ hI.2 hbw⟩,s.keepK _ (fmz ⟨mz4,fmz ⟨mz5,fmz ⟨.head _,fnz⟩⟩⟩)⟩
 ·have hk:p.1=4:=by have h7:=of_decide_eq_false e;have h8:=hI.1;omega
  refine wpIn_exit ?_
  refine wpIn_seq ?_
  refine zB 2 ((43, .s ((UF.eq p.2).toSF))::(8, .u (UF.eq p.2)):: []) hmix s kI
   (oc zC<|oc zG<|zE) fun a w10 s=> ?_
  refine zA rfl ?_
  refine wpIn_ret ?_
  exact StS.resN s (hbX.trans (s0.below.mono hbX.size)) rfl (by rw [s.val (.head _)];have:=(SF.row 6 _).st _ _ _ hI.2 s.below;rw [hk] at this;exact this)
theorem zJ0 {W:World} {u v x y:Value} {ca cb cc cd:V2} (h1:(fPV 80 ca).p u W) (h2:(fPV 80 cb).p v W) (h3:(fPV 80 cc).p x W) (h4:(fPV 80 cd).p y W) (hab:zD1 ca cb) (hcd:zD1 cc cd) (hac:zD1 ca cc):Calls Tryz.prog 157 #[u,v,x,y] W (Ret W (zAR (fPV 327 (yW ca cb cc cd)) (fB (!(decide ((dnm ca cb cc cd)=0))))).toSF):=by
 have hql:QB (yW ca cb cc cd).1 327/\QB (yW ca cb cc cd).2 327:=zN7 hab hcd
 have hqt:QB ((tnm ca cc cd) / (dnm ca cb cc cd)) 658:=((zOL hac hcd).div (zPu hab hcd)).mono dB
 refine yD [(fPV 80 ca).toSF,(fPV 80 cb).toSF,(fPV 80 cc).toSF,(fPV 80 cd).toSF] Tryz.func157 rfl kI ⟨h1,h2,h3,h4,trivial⟩ fun a s=> ?_
 refine wpIn_seq ?_
 refine zB 0 [] hmix s kI
  zE fun a w1 s=> ?_
 refine yJ (CU.agg (fPV 80 ca)) rfl s kI (fun v W h=>yP h) fun b4 a w s=> ?_
 refine yJ (CU.agg (fPV 80 cb)) rfl s kI (fun v W h=>yP h) fun b5 a w s=> ?_
 refine yJ (CU.agg (fPV 80 cc)) rfl s kI (fun v W h=>yP h) fun b6 a w s=> ?_
 refine yJ (CU.agg (fPV 80 cd)) rfl s kI (fun v W h=>yP h) fun b7 a w s=> ?_
 refine zZ (CU.len 6) (cs:=zP6) kI rfl s kI (fun W=>rfl) rfl fun b8 a w s=> ?_
 refine yU (uB false) rfl s kI iiz fun a w s=> ?_
 refine zA rfl ?_
 refine wpIn_seq ?_
 have so:=s.old;have sg:=s.gr
 refine zBR (fun i=> [].contains i) [⟨6,10,30, [.bool false, .slice none 0 0, .slice none 0 0, .bool false, .slice none 0 0, .slice none 0 0],SF.newBox w 30 (CU.len 6)⟩,⟨7,11,30, [.bool false, .slice none 0 0, .slice none 0 0, .bool false, .slice none 0 0, .slice none 0 0],SF.newBox w 30 (CU.len 6)⟩] 8 ((15, .s ((fPV 80 cb).toSF))::(16, .s ((fPV 80 ca).toSF))::(17, .u (fPN ((cb).1 - (ca).1,(cb).2 - (ca).2)))::(18, .s ((fPV 80 cd).toSF))::(19, .s ((fPV 80 cc).toSF))::(20, .u (fPN ((cd).1 - (cc).1,(cd).2 - (cc).2)))::(10, .s (SF.newBox w 30 (CU.len 6)))::(11, .s (SF.newBox w 30 (CU.len 6))):: []) hmix s (fmz ⟨⟨by show 6<8;decide,mz6,⟨_,_,_,rfl⟩,by kernel_rfl,zCk (fun _=>rfl) rfl⟩,fmz ⟨⟨by show 7<8;decide,mz7,⟨_,_,_,rfl⟩,by kernel_rfl,zCk (fun _=>rfl) rfl⟩,fnz⟩⟩) kI
  (oc (zJ (f:=fPV 80 cb) 6 kI (hz:=zP _ _))<|oc (zJ (f:=fPV 80 ca) 6 kI (hz:=zP _ _))<|oc (zH zD zFm (fun u0 u1 W hb (h0:(fPV 80 cb).p u0 W) (h1:(fPV 80 ca).p u1 W)=>zBy (m:=80) (p:=cb) (q:=ca) h0 h1 dB dB))<|oc (zJ (f:=fPV 80 cd) 6 kI (hz:=zP _ _))<|oc (zJ (f:=fPV 80 cc) 6 kI (hz:=zP _ _))<|oc (zH zD zFm (fun u0 u1 W hb (h0:(fPV 80 cd).p u0 W) (h1:(fPV 80 cc).p u1 W)=>zBy (m:=80) (p:=cd) (q:=cc) h0 h1 dB dB))<|oc (zDj (cs:=zP6) kI (zCk (fun _=>rfl) rfl))<|oc (zDj (cs:=zP6) kI (zCk (fun _=>rfl) rfl))<|zE) fun Q' hQ a w2 s hr hd=> ?_
 obtain ⟨b10,hB10,e10,s⟩:=s.adoptA false 10 (hr (_,_) mz6) sg (fun y hy=> .inl (so y hy))
 obtain ⟨b11,hB11,e11,s⟩:=s.adoptA false 11 (hr (_,_) mz7) sg (fun y hy=>by rcases List.mem_cons.1 hy with rfl|hy;exact .inr (.inr fun b hb=>hd _ _ (.head _) mz1 (by show 6≠7;decide) _ _ e10 hb);exact .inl (so y hy))
 refine zV (CU.agg (fPN ((cb).1 - (ca).1,(cb).2 - (ca).2))) ((fPN ((cb).1 - (ca).1,(cb).2 - (ca).2)).toSF) rfl s kI rfl rfl rfl iiz iiz yR fun a w s=> ?_
 refine zV (CU.agg (fPN ((cd).1 - (cc).1,(cd).2 - (cc).2))) ((fPN ((cd).1 - (cc).1,(cd).2 - (cc).2)).toSF) rfl s kI rfl rfl rfl iiz iiz yR fun a w s=> ?_
 refine zA rfl (hQ _ _ ?_)
 refine wpIn_seq ?_
 refine zB 3 ((21, .s ((fPN ((cb).1 - (ca).1,(cb).2 - (ca).2)).toSF))::(22, .s ((fPN ((cd).1 - (cc).1,(cd).2 - (cc).2)).toSF))::(23, .u (fQN (dnm ca cb cc cd))):: []) hmix s kI
  (oc (zJ (f:=fPN ((cb).1 - (ca).1,(cb).2 - (ca).2)) 6 kI (hz:=zP _ _))<|oc (zJ (f:=fPN ((cd).1 - (cc).1,(cd).2 - (cc).2)) 6 kI (hz:=zP _ _))<|oc (zH zD zOp (fun u0 u1 W hb (h0:(fPN ((cb).1 - (ca).1,(cb).2 - (ca).2)).p u0 W) (h1:(fPN ((cd).1 - (cc).1,(cd).2 - (cc).2)).p u1 W)=>zER (m:=82) (p:=((cb).1 - (ca).1,(cb).2 - (ca).2)) (q:=((cd).1 - (cc).1,(cd).2 - (cc).2)) (zBa (p:=((cb).1 - (ca).1,(cb).2 - (ca).2)) (m:=82) (hab.sub.1.mono (by first|omega|decide)) (hab.sub.2.mono (by first|omega|decide)) h0) (zBa (p:=((cd).1 - (cc).1,(cd).2 - (cc).2)) (m:=82) (hcd.sub.1.mono (by first|omega|decide)) (hcd.sub.2.mono (by first|omega|decide)) h1) hab.sub hcd.sub dB dB))<|zE) fun a w3 s=> ?_
 refine zZ (CU.len 3) (cs:=zR3) kI rfl s kI (fun W=>rfl) rfl fun b12 a w s=> ?_
 refine zV (CU.agg (fQN (dnm ca cb cc cd))) ((fQN (dnm ca cb cc cd)).toSF) rfl s kI rfl rfl rfl iiz iiz yL fun a w s=> ?_
 refine zA rfl ?_
 refine wpIn_seq ?_
 have so:=s.old;have sg:=s.gr
 refine zBR (fun i=> [9].contains i) [⟨10,13,28, [.bool false, .slice none 0 0, .slice none 0 0],SF.newBox w 28 (CU.len 3)⟩] 11 ((25, .s ((fPV 80 cc).toSF))::(26, .s ((fPV 80 ca).toSF))::(27, .s ((fPN ((cc).1 - (ca).1,(cc).2 - (ca).2)).toSF))::(28, .s ((fPN ((cd).1 - (cc).1,(cd).2 - (cc).2)).toSF))::(29, .s ((fQN (tnm ca cc cd)).toSF))::(30, .s ((fQN (dnm ca cb cc cd)).toSF))::(31, .s ((zAR (fQN ((tnm ca cc cd) / (dnm ca cb cc cd))) (uI (if (dnm ca cb cc cd)=0 then 30 else 0))).toSF))::(24, .s ((zAR (fQN ((tnm ca cc cd) / (dnm ca cb cc cd))) (uI (if (dnm ca cb cc cd)=0 then 30 else 0))).toSF))::(32, .u (fQN ((tnm ca cc cd) / (dnm ca cb cc cd))))::(33, .u (uI (if (dnm ca cb cc cd)=0 then 30 else 0)))::(13, .s (SF.newBox w 28 (CU.len 3))):: []) hmix s (fmz ⟨⟨by show 10<11;decide,zTQ,⟨_,_,_,rfl⟩,by kernel_rfl,zCk (fun _=>rfl) rfl⟩,fnz⟩) kI
  (oc (zJ (f:=fPV 80 cc) 6 kI (hz:=zP _ _))<|oc (zJ (f:=fPV 80 ca) 6 kI (hz:=zP _ _))<|oc (zH zD zFm (fun u0 u1 W hb (h0:(fPV 80 cc).p u0 W) (h1:(fPV 80 ca).p u1 W)=>zBy (m:=80) (p:=cc) (q:=ca) h0 h1 dB dB))<|oc (zJ (f:=fPN ((cd).1 - (cc).1,(cd).2 - (cc).2)) 6 kI (hz:=zP _ _))<|oc (zH zD zOp (fun u0 u1 W hb (h0:(fPN ((cc).1 - (ca).1,(cc).2 - (ca).2)).p u0 W) (h1:(fPN ((cd).1 - (cc).1,(cd).2 - (cc).2)).p u1 W)=>zER (m:=82) (p:=((cc).1 - (ca).1,(cc).2 - (ca).2)) (q:=((cd).1 - (cc).1,(cd).2 - (cc).2)) (zBa (p:=((cc).1 - (ca).1,(cc).2 - (ca).2)) (m:=82) (hac.sub.1.mono (by first|omega|decide)) (hac.sub.2.mono (by first|omega|decide)) h0) (zBa (p:=((cd).1 - (cc).1,(cd).2 - (cc).2)) (m:=82) (hcd.sub.1.mono (by first|omega|decide)) (hcd.sub.2.mono (by first|omega|decide)) h1) hac.sub hcd.sub dB dB))<|oc (zJ (f:=fQN (dnm ca cb cc cd)) 3 kI (hz:=qY _))<|oc (zH zD zSy (fun u0 u1 W hb (h0:QNp (tnm ca cc cd) u0 W) (h1:QNp (dnm ca cb cc cd) u1 W)=>zLa (m:=329) (QNp.rv h0 (zOL hac hcd)) (QNp.rv h1 (zPu hab hcd)) dB dB))<|oc zC<|oc (zA0 (A:=(fQN ((tnm ca cc cd) / (dnm ca cb cc cd))).toSF) (B:=(uI (if (dnm ca cb cc cd)=0 then 30 else 0)).toSF) iiz)<|oc (zAZ (A:=(fQN ((tnm ca cc cd) / (dnm ca cb cc cd))).toSF) (B:=(uI (if (dnm ca cb cc cd)=0 then 30 else 0)).toSF) iiz)<|oc (zDj (cs:=zR3) kI (zCk (fun _=>rfl) rfl))<|zE) fun Q' hQ a w4 s hr hd=> ?_
 obtain ⟨b13,hB13,e13,s⟩:=s.adoptA false 13 (hr (_,_) zTQ) sg (fun y hy=> .inl (so y hy))
 refine zV (CU.agg (fQN ((tnm ca cc cd) / (dnm ca cb cc cd)))) ((fQN ((tnm ca cc cd) / (dnm ca cb cc cd))).toSF) rfl s kI rfl rfl rfl iiz iiz yL fun a w s=> ?_
 refine yU (uI (if (dnm ca cb cc cd)=0 then 30 else 0)) rfl s kI iiz fun a w s=> ?_
 refine zA rfl (hQ _ _ ?_)
 refine wpIn_seq ?_
 refine wpIn_seq ?_
 refine zB 2 ((34, .s ((uI (if (dnm ca cb cc cd)=0 then 30 else 0)).toSF))::(35, .u (uB (decide ((dnm ca cb cc cd)=0)))):: []) hmix s kI
  (oc zC<|oc (zR .i64 (if (dnm ca cb cc cd)=0 then 30 else 0) 0 (decide ((dnm ca cb cc cd)=0)) iiz iiz (by show ((if (dnm ca cb cc cd)=0 then (30:Int) else 0) !=0)=_;by_cases h:(dnm ca cb cc cd)=0;(rw [if_pos h,decide_eq_true h];rfl);(rw [if_neg h,decide_eq_false h];rfl)) rfl)<|zE) fun a w5 s=> ?_
 refine zA rfl ?_
 refine StS.cond s (decide ((dnm ca cb cc cd)=0)) iiz (fun e=> ?_) (fun e=> ?_)
 ·have h00:=of_decide_eq_true e
  refine wpIn_seq ?_
  replace s:=s.drop [9]
  refine zB 1 ((36, .u (fPV 327 (yW ca cb cc cd))):: []) hmix s kI
   (oc (zH zD zGn (fun u0 u1 W hb (h0:u0= .int .i64 0) (h1:u1= .int .i64 0)=>(zDb h0 h1 dB dB).mono (Ret.to (fun v W h=>zBa (p:=(yW ca cb cc cd)) (m:=327) hql.1 hql.2 (by unfold yW;rw [if_pos h00];exact h)))))<|zE) fun a w6 s=> ?_
  refine zV (CU.agg (fPV 327 (yW ca cb cc cd))) ((fPV 327 (yW ca cb cc cd)).toSF) rfl s kI rfl rfl rfl iiz iiz yR fun a w s=> ?_
  refine yU (uB false) rfl s kI iiz fun a w s=> ?_
  refine zA rfl ?_
  refine wpIn_ret ?_
  exact StS.resCT s (CU.agg (fPV 327 (yW ca cb cc cd))) rfl kI rfl rfl (zP _ _) (fun cs v W h1 h2=>⟨_,_,rfl,h1,by rw [e];exact h2⟩)
 ·have h00:=of_decide_eq_false e
  refine wpIn_skip ?_
  refine wpIn_seq ?_
  replace s:=s.drop [9]
  refine zB 4 ((37, .s ((fPV 80 ca).toSF))::(38, .s ((fPV 80 cb).toSF))::(39, .s ((fQN ((tnm ca cc cd) / (dnm ca cb cc cd))).toSF))::(40, .u (fPV 327 (yW ca cb cc cd))):: []) hmix s kI
   (oc (zJ (f:=fPV 80 ca) 6 kI (hz:=zP _ _))<|oc (zJ (f:=fPV 80 cb) 6 kI (hz:=zP _ _))<|oc (zJ (f:=fQN ((tnm ca cc cd) / (dnm ca cb cc cd))) 3 kI (hz:=qY _))<|oc (jU zD zT6 (fun u0 u1 u2 W hb (h0:(fPV 80 ca).p u0 W) (h1:(fPV 80 cb).p u1 W) (h2:QNp ((tnm ca cc cd) / (dnm ca cb cc cd)) u2 W)=>(zRK (m:=80) (k:=658) 821 (p:=ca) (q:=cb) (t:=(tnm ca cc cd) / (dnm ca cb cc cd)) h0 h1 (QNp.rv h2 hqt) hab.one hab.two hqt dB dB dB).mono (Ret.to (fun v W h=>zBa (p:=(yW ca cb cc cd)) (m:=327) hql.1 hql.2 (by unfold yW;rw [if_neg h00];exact h)))))<|zE) fun a w7 s=> ?_
  refine zV (CU.agg (fPV 327 (yW ca cb cc cd))) ((fPV 327 (yW ca cb cc cd)).toSF) rfl s kI rfl rfl rfl iiz iiz yR fun a w s=> ?_
  refine yU (uB true) rfl s kI iiz fun a w s=> ?_
  refine zA rfl ?_
  refine wpIn_ret ?_
  exact StS.resCT s (CU.agg (fPV 327 (yW ca cb cc cd))) rfl kI rfl rfl (zP _ _) (fun cs v W h1 h2=>⟨_,_,rfl,h1,by rw [e];exact h2⟩)
theorem zLi {W:World} {u v x y:Value} {ca cb cc cd:V2} (h1:(fPV 80 ca).p u W) (h2:(fPV 80 cb).p v W) (h3:(fPV 80 cc).p x W) (h4:(fPV 80 cd).p y W) (hab:zD1 ca cb) (hcd:zD1 cc cd) (hac:zD1 ca cc):Calls Tryz.prog 125 #[u,v,x,y] W (Ret W (fMT (zBl ca cb cc cd)).toSF):=by
 refine yD [(fPV 80 ca).toSF,(fPV 80 cb).toSF,(fPV 80 cc).toSF,(fPV 80 cd).toSF] Tryz.func125 rfl kI ⟨h1,h2,h3,h4,trivial⟩ fun a s=> ?_
 replace s:=s.renew [(0, .u (fPV 80 ca)),(1, .u (fPV 80 cb)),(2, .u (fPV 80 cc)),(3, .u (fPV 80 cd))] (fmz ⟨.inr ⟨_,rfl, .head _⟩,fmz ⟨.inr ⟨_,rfl,mz1⟩,fmz ⟨.inr ⟨_,rfl,mz2⟩,fmz ⟨.inr ⟨_,rfl,mz3⟩,fnz⟩⟩⟩⟩)
 refine wpIn_seq ?_
 refine zB 0 [] hmix s kI
  zE fun a w1 s=> ?_
 refine yJ (CU.agg (fPV 80 ca)) rfl s kI (fun v W h=>yP h) fun b4 a w s=> ?_
 refine yJ (CU.agg (fPV 80 cb)) rfl s kI (fun v W h=>yP h) fun b5 a w s=> ?_
 refine yJ (CU.agg (fPV 80 cc)) rfl s kI (fun v W h=>yP h) fun b6 a w s=> ?_
 refine yJ (CU.agg (fPV 80 cd)) rfl s kI (fun v W h=>yP h) fun b7 a w s=> ?_
 refine zZ (CU.len 13) (cs:= [.int .i8 0, .bool false, .slice none 0 0, .slice none 0 0, .bool false, .slice none 0 0, .slice none 0 0, .bool false, .slice none 0 0, .slice none 0 0, .bool false, .slice none 0 0, .slice none 0 0]) kI rfl s kI (fun W=>rfl) rfl fun b8 a w s=> ?_
 refine zA rfl ?_
 refine wpIn_seq ?_
 refine jJ 5 ((12, .s ((fPV 80 ca).toSF))::(13, .s ((fPV 80 cb).toSF))::(14, .s ((fPV 80 cc).toSF))::(15, .s ((fPV 80 cd).toSF))::(16, .s (SF.row 6 (pns (yM ca cb cc cd 4)))):: []) hmix s kI
  (oc (zJ (f:=fPV 80 ca) 6 kI (hz:=zP _ _))<|oc (zJ (f:=fPV 80 cb) 6 kI (hz:=zP _ _))<|oc (zJ (f:=fPV 80 cc) 6 kI (hz:=zP _ _))<|oc (zJ (f:=fPV 80 cd) 6 kI (hz:=zP _ _))<|oc (zF3 zD zSN (fun u0 u1 u2 u3 W hb (h0:(fPV 80 ca).p u0 W) (h1:(fPV 80 cb).p u1 W) (h2:(fPV 80 cc).p u2 W) (h3:(fPV 80 cd).p u3 W)=>zLj h0 h1 h2 h3))<|zE) fun a w2 s hr=> ?_
 obtain ⟨v16,e16⟩: ∃v,a.tmps.getD 16 undef=v:=⟨_,rfl⟩
 have hv16:(SF.row 6 (pns (yM ca cb cc cd 4))).p v16 w2:=e16▸(hr (_,_) mz4)
 replace s:=s.learn 16 v16 e16
 replace s:=s.keepK [(16, .u (UF.eq v16)),(0, .u (fPV 80 ca)),(1, .u (fPV 80 cb)),(2, .u (fPV 80 cc)),(3, .u (fPV 80 cd))] (fmz ⟨.head _,fmz ⟨mz1,fmz ⟨mz2,fmz ⟨mz3,fmz ⟨mz4,fnz⟩⟩⟩⟩⟩)
 have s1:=s
 replace s:StS _ _ _ [⟨8,148,CU.len 13,b8,true⟩,⟨7,30,CU.agg (fPV 80 cd),b7,true⟩,⟨6,30,CU.agg (fPV 80 cc),b6,true⟩,⟨5,30,CU.agg (fPV 80 cb),b5,true⟩,⟨4,30,CU.agg (fPV 80 ca),b4,true⟩] _ _ _ _:=s.freeze
 replace s:=s.reb rfl [(16, .u (UF.eq v16)),(0, .u (fPV 80 ca)),(1, .u (fPV 80 cb)),(2, .u (fPV 80 cc)),(3, .u (fPV 80 cd))] (fmz ⟨.inl (.head _),fmz ⟨.inl mz1,fmz ⟨.inl mz2,fmz ⟨.inl mz3,fmz ⟨.inl mz4,fnz⟩⟩⟩⟩⟩)
 refine zOO (UF.eq v16) rfl s kI iiz fun a s=> ?_
 refine zA rfl ?_
 refine wpIn_seq ?_
 refine wpIn_seq ?_
 refine zB 3 ((17, .s ((UF.eq v16).toSF))::(18, .s ((uI (((pns (yM ca cb cc cd 4)).length:Nat):Int)).toSF))::(19, .u (uB (decide ((((pns (yM ca cb cc cd 4)).length:Nat):Int)≥2)))):: []) hmix s kI
  (oc zC<|oc (qN (z:=6) (Cs:=pns (yM ca cb cc cd 4)) kI (fun v W hb h=>(y5 hv16 h (s.up hb))) (fun _=>rfl))<|oc (zR .i64 (((pns (yM ca cb cc cd 4)).length:Nat):Int) 2 (decide ((((pns (yM ca cb cc cd 4)).length:Nat):Int)≥2)) iiz iiz rfl rfl)<|zE) fun a w3 s=> ?_
 refine zA rfl ?_
 refine StS.cond s (decide ((((pns (yM ca cb cc cd 4)).length:Nat):Int)≥2)) iiz (fun e=> ?_) (fun e=> ?_)
 ·have hlen:0<(yM ca cb cc cd 4).length:=by have:=of_decide_eq_true e;simp at this;omega
  have hk:zBl ca cb cc cd=2:=if_pos (of_decide_eq_true e)
  refine wpIn_seq ?_
  refine yN [0,3,4] 10 ((20, .s ((UF.eq v16).toSF))::(21, .s (SF.ptr (CU.agg (fPN (at_ (yM ca cb cc cd 4) 0))).cf))::(22, .s ((fPN (at_ (yM ca cb cc cd 4) 0)).toSF))::(23, .s ((UF.eq v16).toSF))::(24, .s ((UF.eq v16).toSF))::(25, .s ((uI (((pns (yM ca cb cc cd 4)).length:Nat):Int)).toSF))::(26, .s ((uI (((yM ca cb cc cd 4).length - 1:Nat):Int)).toSF))::(27, .s (SF.ptr (CU.agg (fPN (at_ (yM ca cb cc cd 4) ((yM ca cb cc cd 4).length - 1)))).cf))::(28, .s ((fPN (at_ (yM ca cb cc cd 4) ((yM ca cb cc cd 4).length - 1))).toSF))::(29, .u (fMT 2)):: []) hmix s kI
   (oc zC<|oc (qW (z:=6) (Cs:=pns (yM ca cb cc cd 4)) (i:=0) (C:=CU.agg (fPN (at_ (yM ca cb cc cd 4) 0))) kI (zCT (show 0<(yM ca cb cc cd 4).length by have hx:=hlen;omega)) (fun v W hb h=>(y5 hv16 h (s.up hb))) iiz)<|oc (zJ (f:=fPN (at_ (yM ca cb cc cd 4) 0)) 6 kI (hz:=zP _ _))<|oc zC<|oc zC<|oc (qN (z:=6) (Cs:=pns (yM ca cb cc cd 4)) kI (fun v W hb h=>(y5 hv16 h (s.up hb))) (fun _=>rfl))<|oc (zEY .i64 (((pns (yM ca cb cc cd 4)).length:Nat):Int) 1 (((yM ca cb cc cd 4).length - 1:Nat):Int) iiz iiz (by have:=zE7 ca cb cc cd 4;simp only [List.length_map];rw [IntKind.wrap_i64];omega))<|oc (qW (z:=6) (Cs:=pns (yM ca cb cc cd 4)) (i:=((yM ca cb cc cd 4).length - 1)) (C:=CU.agg (fPN (at_ (yM ca cb cc cd 4) ((yM ca cb cc cd 4).length - 1)))) kI (zCT (show ((yM ca cb cc cd 4).length - 1)<(yM ca cb cc cd 4).length by have hx:=hlen;omega)) (fun v W hb h=>(y5 hv16 h (s.up hb))) iiz)<|oc (zJ (f:=fPN (at_ (yM ca cb cc cd 4) ((yM ca cb cc cd 4).length - 1))) 6 kI (hz:=zP _ _))<|oc (zDi (fun u v q W (hu:u= .int .i8 2) (hv:(fPN (at_ (yM ca cb cc cd 4) 0)).p v W) (hq:(fPN (at_ (yM ca cb cc cd 4) ((yM ca cb cc cd 4).length - 1))).p q W)=>by rw [show u=_ from hu];exact zRf hv hq))<|zE) fun Q' hQ a w4 s=> ?_
  replace s:=s.keepK [(29, .u (fMT 2)),(19, .u (uB (decide ((((pns (yM ca cb cc cd 4)).length:Nat):Int)≥2)))),(9, .u (UF.eq v16)),(16, .u (UF.eq v16)),(0, .u (fPV 80 ca)),(1, .u (fPV 80 cb)),(2, .u (fPV 80 cc)),(3, .u (fPV 80 cd))] (fmz ⟨.head _,fmz ⟨mz1,fmz ⟨mz2,fmz ⟨mz3,fmz ⟨mz4,fmz ⟨mz5,fmz ⟨mz6,fmz ⟨mz7,fnz⟩⟩⟩⟩⟩⟩⟩⟩)
  replace s:=s1.thaw s rfl
  refine zV (CU.agg (fMT 2)) ((fMT 2).toSF) rfl s kI rfl rfl rfl iiz iiz (zDl _) fun a w s=> ?_
  refine zA rfl (hQ _ _ ?_)
  refine wpIn_ret ?_
  exact StS.resC s (CU.agg (fMT 2)) rfl kI rfl rfl (zI6 _) (fun cs W h=>by rw [hk];exact h)
 ·have e2:=of_decide_eq_false e
  refine wpIn_skip ?_
  refine wpIn_seq ?_
  refine wpIn_seq ?_
  refine zB 3 ((30, .s ((UF.eq v16).toSF))::(31, .s ((uI (((pns (yM ca cb cc cd 4)).length:Nat):Int)).toSF))::(32, .u (uB ((((pns (yM ca cb cc cd 4)).length:Nat):Int)==1))):: []) hmix s kI
   (oc zC<|oc (qN (z:=6) (Cs:=pns (yM ca cb cc cd 4)) kI (fun v W hb h=>(y5 hv16 h (s.up hb))) (fun _=>rfl))<|oc (zR .i64 (((pns (yM ca cb cc cd 4)).length:Nat):Int) 1 ((((pns (yM ca cb cc cd 4)).length:Nat):Int)==1) iiz iiz rfl rfl)<|zE) fun a w5 s=> ?_
  refine zA rfl ?_
  refine StS.cond s ((((pns (yM ca cb cc cd 4)).length:Nat):Int)==1) iiz (fun e=> ?_) (fun e=> ?_)
  ·have hlen:0<(yM ca cb cc cd 4).length:=by have:=beq_iff_eq.1 e;simp at this;omega
   have hk:zBl ca cb cc cd=1:=by unfold zBl;rw [if_neg e2,if_pos e]
   refine wpIn_seq ?_
   refine yN [0,3] 7 ((33, .s ((UF.eq v16).toSF))::(34, .s (SF.ptr (CU.agg (fPN (at_ (yM ca cb cc cd 4) 0))).cf))::(35, .s ((fPN (at_ (yM ca cb cc cd 4) 0)).toSF))::(36, .s ((UF.eq v16).toSF))::(37, .s (SF.ptr (CU.agg (fPN (at_ (yM ca cb cc cd 4) 0))).cf))::(38, .s ((fPN (at_ (yM ca cb cc cd 4) 0)).toSF))::(39, .u (fMT 1)):: []) hmix s kI
    (oc zC<|oc (qW (z:=6) (Cs:=pns (yM ca cb cc cd 4)) (i:=0) (C:=CU.agg (fPN (at_ (yM ca cb cc cd 4) 0))) kI (zCT (show 0<(yM ca cb cc cd 4).length by have hx:=hlen;omega)) (fun v W hb h=>(y5 hv16 h (s.up hb))) iiz)<|oc (zJ (f:=fPN (at_ (yM ca cb cc cd 4) 0)) 6 kI (hz:=zP _ _))<|oc zC<|oc (qW (z:=6) (Cs:=pns (yM ca cb cc cd 4)) (i:=0) (C:=CU.agg (fPN (at_ (yM ca cb cc cd 4) 0))) kI (zCT (show 0<(yM ca cb cc cd 4).length by have hx:=hlen;omega)) (fun v W hb h=>(y5 hv16 h (s.up hb))) iiz)<|oc (zJ (f:=fPN (at_ (yM ca cb cc cd 4) 0)) 6 kI (hz:=zP _ _))<|oc (zDi (fun u v q W (hu:u= .int .i8 1) (hv:(fPN (at_ (yM ca cb cc cd 4) 0)).p v W) (hq:(fPN (at_ (yM ca cb cc cd 4) 0)).p q W)=>by rw [show u=_ from hu];exact zRf hv hq))<|zE) fun Q' hQ a w6 s=> ?_
   replace s:=s.keepK [(39, .u (fMT 1)),(32, .u (uB ((((pns (yM ca cb cc cd 4)).length:Nat):Int)==1))),(19, .u (uB (decide ((((pns (yM ca cb cc cd 4)).length:Nat):Int)≥2)))),(9, .u (UF.eq v16)),(16, .u (UF.eq v16)),(0, .u (fPV 80 ca)),(1, .u (fPV 80 cb)),(2, .u (fPV 80 cc)),(3, .u (fPV 80 cd))] (fmz ⟨.head _,fmz ⟨mz1,fmz ⟨mz2,fmz ⟨mz3,fmz ⟨mz4,fmz ⟨mz5,fmz ⟨mz6,fmz ⟨mz7,fmz ⟨mz8,fnz⟩⟩⟩⟩⟩⟩⟩⟩⟩)
   replace s:=s1.thaw s rfl
   refine zV (CU.agg (fMT 1)) ((fMT 1).toSF) rfl s kI rfl rfl rfl iiz iiz (zDl _) fun a w s=> ?_
   refine zA rfl (hQ _ _ ?_)
   refine wpIn_ret ?_
   exact StS.resC s (CU.agg (fMT 1)) rfl kI rfl rfl (zI6 _) (fun cs W h=>by rw [hk];exact h)
  ·have e3:=e
   replace s:=s.keepK [(32, .u (uB ((((pns (yM ca cb cc cd 4)).length:Nat):Int)==1))),(19, .u (uB (decide ((((pns (yM ca cb cc cd 4)).length:Nat):Int)≥2)))),(9, .u (UF.eq v16)),(16, .u (UF.eq v16)),(0, .u (fPV 80 ca)),(1, .u (fPV 80 cb)),(2, .u (fPV 80 cc)),(3, .u (fPV 80 cd))] (fmz ⟨.head _,fmz ⟨mz1,fmz ⟨mz2,fmz ⟨mz3,fmz ⟨mz4,fmz ⟨mz5,fmz ⟨mz6,fmz ⟨mz7,fnz⟩⟩⟩⟩⟩⟩⟩⟩)
   replace s:=s1.thaw s rfl
   refine wpIn_skip ?_
   refine wpIn_seq ?_
   refine zB 8 ((41, .s ((fPV 80 ca).toSF))::(42, .s ((fPV 80 cb).toSF))::(43, .s ((fPV 80 cc).toSF))::(44, .s ((fPV 80 cd).toSF))::(45, .s ((zAR (fPV 327 (yW ca cb cc cd)) (uB (!(decide ((dnm ca cb cc cd)=0))))).toSF))::(40, .s ((zAR (fPV 327 (yW ca cb cc cd)) (uB (!(decide ((dnm ca cb cc cd)=0))))).toSF))::(46, .u (fPV 327 (yW ca cb cc cd)))::(47, .u (uB (!(decide ((dnm ca cb cc cd)=0))))):: []) hmix s kI
    (oc (zJ (f:=fPV 80 ca) 6 kI (hz:=zP _ _))<|oc (zJ (f:=fPV 80 cb) 6 kI (hz:=zP _ _))<|oc (zJ (f:=fPV 80 cc) 6 kI (hz:=zP _ _))<|oc (zJ (f:=fPV 80 cd) 6 kI (hz:=zP _ _))<|oc (zF3 zD zSM (fun u0 u1 u2 u3 W hb (h0:(fPV 80 ca).p u0 W) (h1:(fPV 80 cb).p u1 W) (h2:(fPV 80 cc).p u2 W) (h3:(fPV 80 cd).p u3 W)=>zJ0 h0 h1 h2 h3 hab hcd hac))<|oc zC<|oc (zA0 (A:=(fPV 327 (yW ca cb cc cd)).toSF) (B:=(uB (!(decide ((dnm ca cb cc cd)=0)))).toSF) iiz)<|oc (zAZ (A:=(fPV 327 (yW ca cb cc cd)).toSF) (B:=(uB (!(decide ((dnm ca cb cc cd)=0)))).toSF) iiz)<|zE) fun a w7 s=> ?_
   refine zZ (CU.len 6) (cs:=zP6) kI rfl s kI (fun W=>rfl) rfl fun b10 a w s=> ?_
   refine zV (CU.agg (fPV 327 (yW ca cb cc cd))) ((fPV 327 (yW ca cb cc cd)).toSF) rfl s kI rfl rfl rfl iiz iiz yR fun a w s=> ?_
   refine yU (uB (!(decide ((dnm ca cb cc cd)=0)))) rfl s kI iiz fun a w s=> ?_
   refine zA rfl ?_
   refine wpIn_seq ?_
   refine wpIn_seq ?_
   refine zB 13 ((48, .s ((uB (!(decide ((dnm ca cb cc cd)=0)))).toSF))::(49, .s ((uB (!(decide ((dnm ca cb cc cd)=0)))).toSF))::(50, .s (SF.imp ((!(decide ((dnm ca cb cc cd)=0)))=true) ((fPV 80 ca).toSF)))::(51, .s (SF.imp ((!(decide ((dnm ca cb cc cd)=0)))=true) ((fPV 80 cb).toSF)))::(52, .s (SF.imp ((!(decide ((dnm ca cb cc cd)=0)))=true) ((fPV 327 (yW ca cb cc cd)).toSF)))::(53, .s (SF.imp ((!(decide ((dnm ca cb cc cd)=0)))=true) ((uB (onS ca cb (yW ca cb cc cd))).toSF)))::(54, .s ((uB ((!(decide ((dnm ca cb cc cd)=0)))&&(onS ca cb (yW ca cb cc cd)))).toSF))::(55, .s ((uB ((!(decide ((dnm ca cb cc cd)=0)))&&(onS ca cb (yW ca cb cc cd)))).toSF))::(56, .s (SF.imp (((!(decide ((dnm ca cb cc cd)=0)))&&(onS ca cb (yW ca cb cc cd)))=true) ((fPV 80 cc).toSF)))::(57, .s (SF.imp (((!(decide ((dnm ca cb cc cd)=0)))&&(onS ca cb (yW ca cb cc cd)))=true) ((fPV 80 cd).toSF)))::(58, .s (SF.imp (((!(decide ((dnm ca cb cc cd)=0)))&&(onS ca cb (yW ca cb cc cd)))=true) ((fPV 327 (yW ca cb cc cd)).toSF)))::(59, .s (SF.imp (((!(decide ((dnm ca cb cc cd)=0)))&&(onS ca cb (yW ca cb cc cd)))=true) ((uB (onS cc cd (yW ca cb cc cd))).toSF)))::(60, .u (uB (((!(decide ((dnm ca cb cc cd)=0)))&&(onS ca cb (yW ca cb cc cd)))&&(onS cc cd (yW ca cb cc cd))))):: []) hmix s kI
    (oc zC<|oc zC<|oc (zF 49 (!(decide ((dnm ca cb cc cd)=0))) kI iiz (fun e=>zU [] ((fPV 80 ca).toSF) fnz (fun _ _ h _=>h) kI (zJ (f:=fPV 80 ca) 6 kI (hz:=zP _ _))) (fun e W h=>absurd h e))<|oc (zF 49 (!(decide ((dnm ca cb cc cd)=0))) kI iiz (fun e=>zU [] ((fPV 80 cb).toSF) fnz (fun _ _ h _=>h) kI (zJ (f:=fPV 80 cb) 6 kI (hz:=zP _ _))) (fun e W h=>absurd h e))<|oc (zF 49 (!(decide ((dnm ca cb cc cd)=0))) kI iiz (fun e=>zU [] ((fPV 327 (yW ca cb cc cd)).toSF) fnz (fun _ _ h _=>h) kI (zJ (f:=fPV 327 (yW ca cb cc cd)) 6 kI (hz:=zP _ _))) (fun e W h=>absurd h e))<|oc (zF 49 (!(decide ((dnm ca cb cc cd)=0))) kI iiz (fun e=>zU [(50,(fPV 80 ca).toSF),(51,(fPV 80 cb).toSF),(52,(fPV 327 (yW ca cb cc cd)).toSF)] ((uB (onS ca cb (yW ca cb cc cd))).toSF) (fmz ⟨fun v W h=>zL (c:=(!(decide ((dnm ca cb cc cd)=0)))=true) (f:=(fPV 80 ca).toSF) e h,fmz ⟨fun v W h=>zL (c:=(!(decide ((dnm ca cb cc cd)=0)))=true) (f:=(fPV 80 cb).toSF) e h,fmz ⟨fun v W h=>zL (c:=(!(decide ((dnm ca cb cc cd)=0)))=true) (f:=(fPV 327 (yW ca cb cc cd)).toSF) e h,fnz⟩⟩⟩) (fun _ _ h _=>h) kI (jU zD zJu (fun u0 u1 u2 W hb (h0:(fPV 80 ca).p u0 W) (h1:(fPV 80 cb).p u1 W) (h2:(fPV 327 (yW ca cb cc cd)).p u2 W)=>zFU (m:=80) (M:=327) h0 h1 h2 dB dB dB dB))) (fun e W h=>absurd h e))<|oc (yC (!(decide ((dnm ca cb cc cd)=0))) iiz (fun e v W h=>jT (zL e h) e) (fun e v W h=>qZ h e))<|oc zC<|oc (zF 55 ((!(decide ((dnm ca cb cc cd)=0)))&&(onS ca cb (yW ca cb cc cd))) kI iiz (fun e=>zU [] ((fPV 80 cc).toSF) fnz (fun _ _ h _=>h) kI (zJ (f:=fPV 80 cc) 6 kI (hz:=zP _ _))) (fun e W h=>absurd h e))<|oc (zF 55 ((!(decide ((dnm ca cb cc cd)=0)))&&(onS ca cb (yW ca cb cc cd))) kI iiz (fun e=>zU [] ((fPV 80 cd).toSF) fnz (fun _ _ h _=>h) kI (zJ (f:=fPV 80 cd) 6 kI (hz:=zP _ _))) (fun e W h=>absurd h e))<|oc (zF 55 ((!(decide ((dnm ca cb cc cd)=0)))&&(onS ca cb (yW ca cb cc cd))) kI iiz (fun e=>zU [] ((fPV 327 (yW ca cb cc cd)).toSF) fnz (fun _ _ h _=>h) kI (zJ (f:=fPV 327 (yW ca cb cc cd)) 6 kI (hz:=zP _ _))) (fun e W h=>absurd h e))<|oc (zF 55 ((!(decide ((dnm ca cb cc cd)=0)))&&(onS ca cb (yW ca cb cc cd))) kI iiz (fun e=>zU [(56,(fPV 80 cc).toSF),(57,(fPV 80 cd).toSF),(58,(fPV 327 (yW ca cb cc cd)).toSF)] ((uB (onS cc cd (yW ca cb cc cd))).toSF) (fmz ⟨fun v W h=>zL (c:=((!(decide ((dnm ca cb cc cd)=0)))&&(onS ca cb (yW ca cb cc cd)))=true) (f:=(fPV 80 cc).toSF) e h,fmz ⟨fun v W h=>zL (c:=((!(decide ((dnm ca cb cc cd)=0)))&&(onS ca cb (yW ca cb cc cd)))=true) (f:=(fPV 80 cd).toSF) e h,fmz ⟨fun v W h=>zL (c:=((!(decide ((dnm ca cb cc cd)=0)))&&(onS ca cb (yW ca cb cc cd)))=true) (f:=(fPV 327 (yW ca cb cc cd)).toSF) e h,fnz⟩⟩⟩) (fun _ _ h _=>h) kI (jU zD zJu (fun u0 u1 u2 W hb (h0:(fPV 80 cc).p u0 W) (h1:(fPV 80 cd).p u1 W) (h2:(fPV 327 (yW ca cb cc cd)).p u2 W)=>zFU (m:=80) (M:=327) h0 h1 h2 dB dB dB dB))) (fun e W h=>absurd h e))<|oc (yC ((!(decide ((dnm ca cb cc cd)=0)))&&(onS ca cb (yW ca cb cc cd))) iiz (fun e v W h=>jT (zL e h) e) (fun e v W h=>qZ h e))<|zE) fun a w8 s=> ?_
   refine zA rfl ?_
   refine StS.cond s (((!(decide ((dnm ca cb cc cd)=0)))&&(onS ca cb (yW ca cb cc cd)))&&(onS cc cd (yW ca cb cc cd))) iiz (fun e=> ?_) (fun e=> ?_)
   ·have hk:zBl ca cb cc cd=1:=by unfold zBl;rw [if_neg e2,if_neg (by rw [e3];decide),if_pos e]
    refine wpIn_seq ?_
    refine zB 3 ((61, .s ((fPV 327 (yW ca cb cc cd)).toSF))::(62, .s ((fPV 327 (yW ca cb cc cd)).toSF))::(63, .u (fMT 1)):: []) hmix s kI
     (oc (zJ (f:=fPV 327 (yW ca cb cc cd)) 6 kI (hz:=zP _ _))<|oc (zJ (f:=fPV 327 (yW ca cb cc cd)) 6 kI (hz:=zP _ _))<|oc (zDi (fun u v q W (hu:u= .int .i8 1) (hv:(fPV 327 (yW ca cb cc cd)).p v W) (hq:(fPV 327 (yW ca cb cc cd)).p q W)=>by rw [show u=_ from hu];exact zRf hv hq))<|zE) fun a w9 s=> ?_
    refine zV (CU.agg (fMT 1)) ((fMT 1).toSF) rfl s kI rfl rfl rfl iiz iiz (zDl _) fun a w s=> ?_
    refine zA rfl ?_
    refine wpIn_ret ?_
    exact StS.resC s (CU.agg (fMT 1)) rfl kI rfl rfl (zI6 _) (fun cs W h=>by rw [hk];exact h)
   ·have hk:zBl ca cb cc cd=0:=by unfold zBl;rw [if_neg e2,if_neg (by rw [e3];decide),if_neg (by rw [e];decide)]
    refine wpIn_skip ?_
    refine wpIn_seq ?_
    refine zB 3 ((64, .s ((fPN (((0:Int):Rat),((0:Int):Rat))).toSF))::(65, .s ((fPN (((0:Int):Rat),((0:Int):Rat))).toSF))::(66, .u (fMT 0)):: []) hmix s kI
     (oc (zH zD zGn (fun u0 u1 W hb (h0:u0= .int .i64 0) (h1:u1= .int .i64 0)=>zDb h0 h1 dB dB))<|oc (zH zD zGn (fun u0 u1 W hb (h0:u0= .int .i64 0) (h1:u1= .int .i64 0)=>zDb h0 h1 dB dB))<|oc (qO (fun u v W (hu:(fPN (((0:Int):Rat),((0:Int):Rat))).p u W) (hv:(fPN (((0:Int):Rat),((0:Int):Rat))).p v W)=>zUf hu hv))<|zE) fun a w10 s=> ?_
    refine zV (CU.agg (fMT 0)) ((fMT 0).toSF) rfl s kI rfl rfl rfl iiz iiz (zDl _) fun a w s=> ?_
    refine zA rfl ?_
    refine wpIn_ret ?_
    exact StS.resC s (CU.agg (fMT 0)) rfl kI rfl rfl (zI6 _) (fun cs W h=>by rw [hk];exact h)
end Go.Proofs.Wd

namespace Go.Proofs.Wd
set_option maxRecDepth 100000
set_option maxHeartbeats 1000000
open Go.RowKit Lb
def PRp (u v:UF) (x:Value) (w:World):Prop:= ∃a b:List Value,x= .agg (a++b).toArray/\(CU.agg u).p a w/\(CU.agg v).p b w
def fPR (u v:UF):UF:= .mk' (PRp u v) fun _ _ _ ⟨a,b,e,h1,h2⟩ k=>⟨a,b,e,(CU.agg u).us _ _ _ h1 k,(CU.agg v).us _ _ _ h2 k⟩
section
variable {f g f' g':UF}
theorem zBT {cs:List Value} {W:World} (h:(CU.agg (fPR (fPT f g) (fPT f' g'))).p cs W): ∃a b:List Value,cs=a++b/\a.length=6/\b.length=6/\(CU.agg (fPT f g)).p a W/\(CU.agg (fPT f' g')).p b W:=by
 obtain ⟨a,b,e,h1,h2⟩:=h
 have:=congrArg Array.toList (jM e)
 have this:cs=a++b:=this
 exact ⟨a,b,this,(zDL _ _ a W h1).1,(zDL _ _ b W h2).1,h1,h2⟩
theorem zQA:CU.ok 12 (CU.agg (fPR (fPT f g) (fPT f' g'))):=fun cs W h=>by
 obtain ⟨a,b,rfl,l1,l2,h1,h2⟩:=zBT h
 have o1:=zDL _ _ a W h1;have o2:=zDL _ _ b W h2
 refine ⟨by simp [l1,l2],by rw [List.all_append,o1.2.1,o2.2.1];rfl,fun u hu=> ?_⟩
 rcases List.mem_append.1 hu with hu|hu
 ·exact o1.2.2 u hu
 ·exact o2.2.2 u hu
theorem zRZ: ∀cs:List Value, ∀W,(fPR (fPT f g) (fPT f' g')).p (.agg cs.toArray) W->cs.length=12:=fun cs W h=>(zQA cs W h).1
theorem zR0 {v:Value} {W:World} (h:(fPR (fPT f g) (fPT f' g')).p v W):(CU.agg (fPR (fPT f g) (fPT f' g'))).p v.cells.toList W/\v.cells.toList.all yG=true:=by
 obtain ⟨a,b,rfl,h1⟩:=id h
 exact ⟨h,(zQA _ W h).2.1⟩
theorem zIW (v:Value) (W:World) (h:(fPR (fPT f g) (fPT f' g')).p v W): ∃vs:List Value,v= .agg vs.toArray/\vs.length=12/\(∀u,u∈vs->u.oneCell'=true)/\vs.all yG=true/\(CU.agg (fPR (fPT f g) (fPT f' g'))).p vs W:=by
 obtain ⟨a,b,rfl,h1⟩:=id h
 have:=zQA _ W h
 exact ⟨_,rfl,this.1,this.2.2,this.2.1,h⟩
theorem zIY (cs:List Value) (W:World) (h:(CU.agg (fPR (fPT f g) (fPT f' g'))).p cs W):0+6<=cs.length/\(fPT f g).p (.agg ((cs.drop 0).take 6).toArray) W:=by
 obtain ⟨a,b,rfl,l1,l2,h1,_⟩:=zBT h
 refine ⟨by simp [l1,l2], ?_⟩
 rw [List.drop_zero,List.take_append_of_le_length oP,List.take_of_length_le oP]
 exact h1
theorem zIX (cs:List Value) (W:World) (h:(CU.agg (fPR (fPT f g) (fPT f' g'))).p cs W):6+6<=cs.length/\(fPT f' g').p (.agg ((cs.drop 6).take 6).toArray) W:=by
 obtain ⟨a,b,rfl,l1,l2,_,h2⟩:=zBT h
 refine ⟨by simp [l1,l2], ?_⟩
 rw [List.drop_append_of_le_length oP,List.drop_of_length_le oP,List.nil_append,List.take_of_length_le oP]
 exact h2
theorem zQz (cs:List Value) (W:World) (h:(CU.agg (fPR (fPT f g) (fPT f' g'))).p cs W):3+3<=cs.length/\g.p (.agg ((cs.drop 3).take 3).toArray) W:=by
 obtain ⟨a,b,rfl,l1,l2,h1,_⟩:=zBT h
 refine ⟨by simp [l1,l2], ?_⟩
 have:=(zDK a W h1).2
 rwa [List.drop_append_of_le_length oP,List.take_append_of_le_length (by simp;omega)]
theorem zQy (cs:List Value) (W:World) (h:(CU.agg (fPR (fPT f g) (fPT f' g'))).p cs W):9+3<=cs.length/\g'.p (.agg ((cs.drop 9).take 3).toArray) W:=by
 obtain ⟨a,b,rfl,l1,l2,_,h2⟩:=zBT h
 refine ⟨by simp [l1,l2], ?_⟩
 have:=(zDK b W h2).2
 rwa [show 9=a.length+3 by omega,List.drop_append,List.drop_of_length_le oP,List.nil_append,Nat.add_sub_cancel_left]
end
section
variable {F:Fence} {m:Nat} {P:Program} {u w0:World} {ops:Array Oper} {G:Nat->SF} {d:Tmp} {ty:TypeId} {pos:String} {aft:Array Edge}
variable {l:Value} {x y:Operand} {t:TypeId} {z:Nat} {Cs:List CU} {i:Nat} {C:CU}
theorem zDg (hz:jI P t=some z) (hi:Cs[i]?=some C) (hl:(SF.row z Cs).p l u) (hx: ∀v W,(fct G x).p v W->v=l) (hy: ∀v W,(fct G y).p v W->v= .int .i64 (i:Int)) (hd: ∀v W,(fOp u C).p v W->(G d).p v W:=by exact fun _ _ h=>h):qK F m P w0 ops G ⟨some d, .indexAddr t x y,ty,pos,aft,none⟩:=
 qR (fun _ e=>by cases e) (fun _ e=>by cases e) fun b W hb hh=>by
  have e1:=hx _ _ (hh x (by simp [Op.operands]))
  have e2:=hy _ _ (hh y (by simp [Op.operands]))
  obtain ⟨A,c,rfl,h2,h3,h4,h5⟩:=hl
  obtain ⟨b',o,cs,rfl,h6,h7⟩:=h5 i C hi
  refine ⟨.pointer (some ⟨b',o+i*z,none⟩), ?_,hd _ _ ⟨b',o+i*z,cs,rfl,h7,h6⟩⟩
  simp [execOp,e1,e2,zFr hz (List.getElem?_eq_some_iff.1 hi).1]
theorem zEp (hu:Below u.heap.size u w0) (f:UF) (k:Nat) (hk:jN P t=some k) (hx: ∀v W,(fct G x).p v W->(fOp u C).p v W) (h: ∀cs W,C.p cs W->0+k<=cs.length/\f.p (.agg ((cs.drop 0).take k).toArray) W) (hd: ∀v W,f.p v W->(G d).p v W:=by exact fun _ _ h=>h):qK F m P w0 ops G ⟨some d, .load t x,ty,pos,aft,none⟩:=
 qR (fun _ e=>by cases e) (fun _ e=>by cases e) fun b W hb hh=>by
  have hb:=hu.trans (hb.mono hu.size)
  obtain ⟨a,q,cs,e,h2,h3⟩:=hx _ _ (hh x (by simp [Op.operands]))
  obtain ⟨h4,h5⟩:=h cs W (C.us _ _ _ h2 (zT hb))
  rw [List.drop_zero] at h5
  exact ⟨_,by simp [execOp,Instr.loadAt,e,Instr.sureAddr,zAc hk (h3.below hb) oP],hd _ _ h5⟩
end
section
variable {S:Nat->Prop} {w0:World} {K:List (Nat×KF)} {B:List Bx} {n:Nat} {ds:List Deferred} {a:Act} {w:World}
theorem StS.own (h:St w0 K B n ds a w) {c:Nat} {y:Bx} (hB:zFg B c=some y) (hro:y.r=false):w0.heap.size<=y.b:=by
 obtain ⟨hy,_⟩:=zAl hB
 obtain ⟨_,_,h2,_⟩:=h.bx.mem y hy
 rcases h2 with e|e|e
 ·rw [hro] at e;cases e
 ·exact e
 ·exact e.elim
theorem zJj {wb:World} (h:Below wb.heap.size wb w) {b:Nat} (hb:wb.heap.size<=b) (vs:Array Value):Gr (GW wb) (w.setRow b vs):=zGi (zDZ h hb)
abbrev GB (wb:World) (b:Nat) (o:Obj):World->Prop:=fun W=>Below wb.heap.size wb W/\W.heap[b]?=some o
theorem zOl {wb:World} {b:Nat} {o:Obj} (h:Below wb.heap.size wb w) (ho:w.heap[b]?=some o):Gr (GB wb b o) w:=fun _ hb=>⟨h.trans (hb.mono h.size),(hb.block b (Array.getElem?_eq_some_iff.1 ho).1).trans ho⟩
theorem zSm {wb:World} {b:Nat} {o:Obj} (h:Below wb.heap.size wb w) (ho:w.heap[b]?=some o) {c:Nat} (hc:wb.heap.size<=c) (hne:b≠c) (vs:Array Value):Gr (GB wb b o) (w.setRow c vs):=zOl (zDZ h hc) ((setRow_other w c b vs hne).trans ho)
theorem zQ0 {P:Program} {wb:World} {b kk:Nat} {cs:List Value} {te t:TypeId} {ops:Array Oper} {G:Nat->SF} {d:Tmp} {ty:TypeId} {pos:String} {aft:Array Edge} {x:Operand} (hsz:jN P t=some kk) (hl:cs.length=kk) (hx: ∀v W,(fct G x).p v W->v= .pointer (some ⟨b,0,none⟩)):FdC P (GB wb b (.cells cs.toArray te (0,0))) w ops G ⟨some d, .load t x,ty,pos,aft,none⟩:=by
 intro bb W _ hr
 have e1:bb.eval x= .pointer (some ⟨b,0,none⟩):=hx _ _ (qB (fun t ht=>hr t (by unfold looks;simpa using ht)) (x:=x) (by simp [Op.operands]))
 refine ⟨.agg cs.toArray, .inl ⟨rfl,fun W' hW'=> ?_⟩,fun w=>rfl⟩
 simp [execOp,Instr.loadAt,e1,Instr.sureAddr,zEi hsz hl hW'.2]
end
theorem zKL (m:Nat) (W:World):RVp m 0 (.agg #[.bool false, .slice none 0 0, .slice none 0 0]) W:=⟨iv false [],0,⟨_,_,_,rfl,⟨false,none,0,0, [],rfl,Rd.nil_ W,zBp,Nat.zero_le _,rfl⟩,⟨none,0,0, [],rfl,Rd.nil_ W,zBp,Nat.zero_le _,rfl⟩⟩,Rat.mkRat_zero _⟩
abbrev ptZ:List Value:= [.bool false, .slice none 0 0, .slice none 0 0, .bool false, .slice none 0 0, .slice none 0 0]
theorem zIV (cs:List Value) (W:World) (h:(CU.is ptZ).p cs W):0+6<=cs.length/\(UF.eq (.agg (ptZ).toArray)).p (.agg ((cs.drop 0).take 6).toArray) W:=by
 obtain rfl:cs=ptZ:=h
 exact ⟨by decide,rfl⟩
theorem zDJ (m:Nat) (W:World):(CU.agg (fPV m (0,0))).p ptZ W:=⟨false,none,0,0,none,0,0,false,none,0,0,none,0,0,rfl,zKL m W,zKL m W⟩
def nE (ps:List V2):Nat:=if 2<=ps.length then ps.length else 0
theorem zS6 {m:Nat} {W:World} {l u:Value} {ps:List V2} {k:Nat} (hl:(SF.row 6 (pvs m ps)).p l W) (hu:u= .int .i64 (k:Int)) (hk:k<ps.length) (hn:ps.length<=1000000) (h2:2<=ps.length):Calls Tryz.prog 154 #[l,u] W (Ret W (zB8 (fPV m (at_ ps k)) (fPV m (at_ ps ((k+1) % ps.length))) (fB true)).toSF):=by
 have hk1:(k+1) % ps.length<ps.length:=Nat.mod_lt _ oP
 refine yD [(UF.eq l).toSF,(uI (k:Int)).toSF] Tryz.func154 rfl kI ⟨rfl,hu,trivial⟩ fun a s=> ?_
 replace s:=s.renew [(0, .u (UF.eq l)),(1, .u (uI (k:Int)))] (fmz ⟨.inr ⟨_,rfl, .head _⟩,fmz ⟨.inr ⟨_,rfl,mz1⟩,fnz⟩⟩)
 refine wpIn_seq ?_
 refine zB 0 [] hmix s kI
  zE fun a w1 s=> ?_
 refine zZ (CU.agg (fPV m (((0:Rat),(0:Rat)):V2))) (cs:=ptZ) kI rfl s kI (fun W=>zDJ m W) rfl fun b4 a w s=> ?_
 refine zZ (CU.agg (fPV m (((0:Rat),(0:Rat)):V2))) (cs:=ptZ) kI rfl s kI (fun W=>zDJ m W) rfl fun b5 a w s=> ?_
 refine yU (uB false) rfl s kI iiz fun a w s=> ?_
 refine zA rfl ?_
 refine wpIn_seq ?_
 refine wpIn_seq ?_
 refine zB 13 ((7, .s ((UF.eq l).toSF))::(8, .s ((uI (((pvs m ps).length:Nat):Int)).toSF))::(9, .s ((uB false).toSF))::(10, .s ((uB false).toSF))::(11, .s ((uI (k:Int)).toSF))::(12, .s ((uB false).toSF))::(13, .s ((uB false).toSF))::(14, .s ((uB false).toSF))::(15, .s ((uI (k:Int)).toSF))::(16, .s ((UF.eq l).toSF))::(17, .s ((uI (((pvs m ps).length:Nat):Int)).toSF))::(18, .s ((uB false).toSF))::(19, .u (uB false)):: []) hmix s kI
  (oc zC<|oc (qN (z:=6) (Cs:=pvs m ps) kI (fun v W hb h=>(y5 hl h (s.up hb))) (fun _=>rfl))<|oc (zR .i64 (((pvs m ps).length:Nat):Int) 2 false iiz iiz (by first|(simp;omega)|simp) rfl)<|oc zC<|oc (zF 10 false kI iiz (fun _=>zC) arf)<|oc (zF 10 false kI iiz (fun _=>zR .i64 (k:Int) 0 false iiz iiz (by first|(simp;omega)|simp) rfl) arf)<|oc (yC false iiz (fun e=>by cases e) (fun _ _ _ h=>h))<|oc zC<|oc (zF 14 false kI iiz (fun _=>zC) arf)<|oc (zF 14 false kI iiz (fun _=>zC) arf)<|oc (zF 14 false kI iiz (fun _=>qN (z:=6) (Cs:=pvs m ps) kI (fun v W hb h=>(y5 hl h (s.up hb))) (fun _=>rfl)) arf)<|oc (zF 14 false kI iiz (fun _=>zR .i64 (k:Int) (((pvs m ps).length:Nat):Int) false iiz iiz (by first|(simp;omega)|simp) rfl) arf)<|oc (yC false iiz (fun e=>by cases e) (fun _ _ _ h=>h))<|zE) fun a w2 s=> ?_
 refine zA rfl ?_
 refine StS.cond s false iiz (fun e=>by cases e) (fun e=> ?_)
 refine wpIn_skip ?_
 refine wpIn_seq ?_
 have hwb:=s.below
 replace s:=s.drop [6]
 refine zEP (GW W) hmix s fun w3 _ s=> ?_
 have hwb:=s.below
 refine zBx [4,5,6,7,8,9,10,11] [0,1,2,3,4,5,6,7,8,9,10,11] ((22, .u (UF.eq l))::(23, .u (uI (k:Int)))::(24, .u (fOp W (CU.agg (fPV m (at_ ps k)))))::(25, .u (fPV m (at_ ps k)))::(26, .u (UF.eq l))::(27, .u (uI (k:Int)))::(28, .u (uI ((k+1:Nat):Int)))::(29, .u (UF.eq l))::(30, .u (uI (((pvs m ps).length:Nat):Int)))::(31, .u (uI (((k+1) % ps.length:Nat):Int)))::(32, .u (fOp W (CU.agg (fPV m (at_ ps ((k+1) % ps.length))))))::(33, .u (fPV m (at_ ps ((k+1) % ps.length)))):: []) (zGi hwb) s kI
  (oc zC<|oc zC<|oc (zDg (z:=6) (Cs:=pvs m ps) (i:=k) (C:=CU.agg (fPV m (at_ ps k))) kI (jS hk) hl iiz iiz)<|oc (zEp hwb (fPV m (at_ ps k)) 6 kI iiz zBS)<|oc zC<|oc zC<|oc (qF .i64 (k:Int) 1 ((k+1:Nat):Int) iiz iiz (wrap64 _ _ oP oP))<|oc zC<|oc (qN (z:=6) (Cs:=pvs m ps) kI (fun v W hb h=>by rw [show _=l from h];exact (SF.row 6 (pvs m ps)).st _ _ _ hl (s.up hb)) (fun _=>rfl))<|oc (zF0 .i64 ((k+1:Nat):Int) (((pvs m ps).length:Nat):Int) (((k+1) % ps.length:Nat):Int) iiz iiz (by simp only [List.length_map];omega) (by simp only [List.length_map];rw [Int.tmod_eq_emod_of_nonneg oP];rfl))<|oc (zDg (z:=6) (Cs:=pvs m ps) (i:=((k+1) % ps.length)) (C:=CU.agg (fPV m (at_ ps ((k+1) % ps.length)))) kI (jS hk1) hl iiz iiz)<|oc (zEp hwb (fPV m (at_ ps ((k+1) % ps.length))) 6 kI iiz zBS)<|zE)
  (qQ rfl (zC3.c zCs hwb) (qQ rfl (zC3.c zCs hwb) (qQ rfl (zC3.c (zMi (x:= .tmp 27) (y:= .const (.int .i64 1)) .i64 (k:Int) 1 iiz iiz) hwb) (qQ rfl (zC3.c zCs hwb) (qQ rfl (zC3.c (zPe (x:= .tmp 29) (z:=6) (Cs:=pvs m ps) kI (fun v W hb h=>by rw [show _=l from h];exact (SF.row 6 (pvs m ps)).st _ _ _ hl hb)) hwb) (qQ rfl (zC3.c (zMh (x:= .tmp 28) (y:= .tmp 30) .i64 ((k+1:Nat):Int) (((pvs m ps).length:Nat):Int) iiz iiz (by simp only [List.length_map];omega)) hwb) (qQ rfl (zC3.c (zHk (x:= .tmp 26) (y:= .tmp 31) (z:=6) (Cs:=pvs m ps) (i:=((k+1) % ps.length)) (C:=CU.agg (fPV m (at_ ps ((k+1) % ps.length)))) kI (jS hk1) hl iiz iiz) hwb) (qQ rfl (zC3.c (zJp (x:= .tmp 32) (fPV m (at_ ps ((k+1) % ps.length))) 6 kI iiz zBS) hwb) zBC)))))))) fun a w4 hbw s hr=> ?_
 replace hwb:=hwb.trans (hbw.mono hwb.size)
 refine zBf (i:=12) (c:=4) (CU.agg (fPV m (at_ ps k))) ((fPV m (at_ ps k)).toSF) s rfl kI kI rfl rfl rfl (zP _ _) iiz yR (fun vs _=>zJj hwb (s.own (c:=4) rfl rfl) _) fun w5 hg _ s=> ?_
 replace hwb:=hg _ (Below.refl _ _)
 refine zBf (i:=13) (c:=5) (CU.agg (fPV m (at_ ps ((k+1) % ps.length)))) ((fPV m (at_ ps ((k+1) % ps.length))).toSF) s rfl kI kI rfl rfl rfl (zP _ _) iiz yR (fun vs _=>zJj hwb (s.own (c:=5) rfl rfl) _) fun w6 hg _ s=> ?_
 replace hwb:=hg _ (Below.refl _ _)
 refine zBx [] [14] ((6, .u (uB true)):: []) (zGi hwb) s kI (zEr zG<|zE) zBC fun a w7 hbw s hr=> ?_
 refine zDa kI ?_
 refine wpIn_ret ?_
 exact StS.resCCT s (CU.agg (fPV m (at_ ps k))) (CU.agg (fPV m (at_ ps ((k+1) % ps.length)))) rfl kI kI rfl rfl (zP _ _) rfl rfl (zP _ _) (fun cs cs' v W h1 h2 h3=>⟨_,_,_,rfl,h1,h2,h3⟩)
theorem zRa {m:Nat} {W:World} {l u:Value} {ps:List V2} {k:Nat} (hl:(SF.row 6 (pvs m ps)).p l W) (hu:u= .int .i64 (k:Int)) (hk:k<ps.length) (hn:ps.length<=1000000) (h2:ps.length<2):Calls Tryz.prog 154 #[l,u] W (Ret W (zB8 (fPV m (((0:Rat),(0:Rat)):V2)) (fPV m (((0:Rat),(0:Rat)):V2)) (fB false)).toSF):=by
 refine yD [(UF.eq l).toSF,(uI (k:Int)).toSF] Tryz.func154 rfl kI ⟨rfl,hu,trivial⟩ fun a s=> ?_
 replace s:=s.renew [(0, .u (UF.eq l)),(1, .u (uI (k:Int)))] (fmz ⟨.inr ⟨_,rfl, .head _⟩,fmz ⟨.inr ⟨_,rfl,mz1⟩,fnz⟩⟩)
 refine wpIn_seq ?_
 refine zB 0 [] hmix s kI
  zE fun a w1 s=> ?_
 refine zZ (CU.is ptZ) (cs:=ptZ) kI rfl s kI (fun W=>rfl) rfl fun b4 a w s=> ?_
 refine zZ (CU.is ptZ) (cs:=ptZ) kI rfl s kI (fun W=>rfl) rfl fun b5 a w s=> ?_
 refine yU (uB false) rfl s kI iiz fun a w s=> ?_
 refine zA rfl ?_
 refine wpIn_seq ?_
 refine wpIn_seq ?_
 refine zB 13 ((7, .s ((UF.eq l).toSF))::(8, .s ((uI (((pvs m ps).length:Nat):Int)).toSF))::(9, .s ((uB true).toSF))::(10, .s ((uB true).toSF))::(13, .s ((uB true).toSF))::(14, .s ((uB true).toSF))::(19, .u (uB true)):: []) hmix s kI
  (oc zC<|oc (qN (z:=6) (Cs:=pvs m ps) kI (fun v W hb h=>(y5 hl h (s.up hb))) (fun _=>rfl))<|oc (zR .i64 (((pvs m ps).length:Nat):Int) 2 true iiz iiz (by first|(simp;omega)|simp) rfl)<|oc zC<|oc (zF 10 true kI iiz (fun e=>by cases e) (fun _ _=>trivial))<|oc (zF 10 true kI iiz (fun e=>by cases e) (fun _ _=>trivial))<|oc (yC true iiz (fun _ _ _ h=>h) (fun e=>by cases e))<|oc zC<|oc (zF 14 true kI iiz (fun e=>by cases e) (fun _ _=>trivial))<|oc (zF 14 true kI iiz (fun e=>by cases e) (fun _ _=>trivial))<|oc (zF 14 true kI iiz (fun e=>by cases e) (fun _ _=>trivial))<|oc (zF 14 true kI iiz (fun e=>by cases e) (fun _ _=>trivial))<|oc (yC true iiz (fun _ _ _ h=>h) (fun e=>by cases e))<|zE) fun a w2 s=> ?_
 refine zA rfl ?_
 refine StS.cond s true iiz (fun e=> ?_) (fun e=>by cases e)
 refine wpIn_seq ?_
 replace s:=s.drop [6]
 have ho4:=s.own (c:=4) rfl rfl;have ho5:=s.own (c:=5) rfl rfl
 have hne:b5≠b4:=by obtain ⟨⟨_,_,_,_,_,_,g⟩,_⟩:=s.bx;rcases g _ (.head _) with g|⟨g,_⟩;exact Ne.symm g;cases g
 have h5:w2.heap[b5]?=some (.cells (ptZ).toArray 30 (0,0)):=by obtain ⟨⟨cs,_,_,g3,g4,_⟩,_⟩:=s.bx;obtain rfl:cs=ptZ:=g4;exact g3
 refine zEP (GB W b5 (.cells (ptZ).toArray 30 (0,0))) hmix s fun w3 hd s=> ?_
 have hwb:=s.below
 replace h5:=(hd.block b5 (Array.getElem?_eq_some_iff.1 h5).1).trans h5
 refine zBx [1] [0,1] ((20, .u (UF.eq (.agg (ptZ).toArray)))::(21, .u (UF.eq (.agg (ptZ).toArray))):: []) (zOl hwb h5) s kI
  (oc (zAY (C:=(CU.is ptZ).cf) 6 kI (fun _ _ h=>h.2) zIV)<|oc (zAY (C:=(CU.is ptZ).cf) 6 kI (fun _ _ h=>h.2) zIV)<|zE)
  (qQ rfl (zQ0 (x:= .tmp 5) (kk:=6) kI rfl (fun _ _ h=>h.1)) zBC) fun a w4 hbw s hr=> ?_
 replace hwb:=hwb.trans (hbw.mono hwb.size)
 replace h5:=(hbw.block b5 (Array.getElem?_eq_some_iff.1 h5).1).trans h5
 refine zBf (i:=2) (c:=4) (CU.is ptZ) ((UF.eq (.agg (ptZ).toArray)).toSF) s rfl kI kI rfl rfl rfl (fun cs W h=>by rw [show cs=ptZ from h]) iiz (fun v W h=>⟨ptZ,h,rfl,by decide,rfl,rfl⟩) (fun vs _=>zSm hwb h5 ho4 hne _) fun w5 hg hk9 s=> ?_
 replace hwb:=(hg _ (Below.refl _ _)).1
 replace h5:=(hg _ (Below.refl _ _)).2
 refine zBf (i:=3) (c:=5) (CU.is ptZ) ((UF.eq (.agg (ptZ).toArray)).toSF) s rfl kI kI rfl rfl rfl (fun cs W h=>by rw [show cs=ptZ from h]) iiz (fun v W h=>⟨ptZ,h,rfl,by decide,rfl,rfl⟩) (fun vs hv=>zOl (zDZ hwb ho5) (by rw [jM hv];exact setRow_heap _ b5 _ _ _ _ h5)) fun w6 hg hk9 s=> ?_
 replace hwb:=(hg _ (Below.refl _ _)).1
 replace h5:=(hg _ (Below.refl _ _)).2
 refine zBx [] [4] ((6, .u (uB false)):: []) (zOl hwb h5) s kI (zEr zG<|zE) zBC fun a w7 hbw s hr=> ?_
 refine zDa kI ?_
 refine wpIn_ret ?_
 exact StS.resCCT s (CU.is ptZ) (CU.is ptZ) rfl kI kI rfl rfl (fun cs W h=>by rw [show cs=ptZ from h]) rfl rfl (fun cs W h=>by rw [show cs=ptZ from h]) (fun cs cs' v W h1 h2 h3=>⟨_,_,_,rfl,by rw [show cs=ptZ from h1];exact zDJ m W,by rw [show cs'=ptZ from h2];exact zDJ m W,h3⟩)
end Go.Proofs.Wd

namespace Go.Proofs.Wd
set_option maxRecDepth 100000
set_option maxHeartbeats 1000000
open Go.RowKit Lb
def zAv (ps:List V2) (k i:Nat):Bool:=if i=k+1∨(k=0/\i=ps.length - 1) then zBl (at_ ps k) (at_ ps ((k+1) % ps.length)) (at_ ps i) (at_ ps ((i+1) % ps.length))==1 else zBl (at_ ps k) (at_ ps ((k+1) % ps.length)) (at_ ps i) (at_ ps ((i+1) % ps.length))==0
def zOj (ps:List V2) (i k:Nat):Bool:= !((zAP (at_ ps i) (at_ ps k)==0)|| !(zAv ps k i))
def zDE (ps:List V2):Bool:=decide (3<=ps.length)&&(List.range ps.length).all fun i=>(List.range i).all fun k=>zOj ps i k
theorem zIC {ps:List V2} (h:ps.length<3):zDE ps=false:=by
 unfold zDE
 rw [decide_eq_false oP,Bool.false_and]
theorem zPZ {ps:List V2} {i k:Nat} (hi:i<ps.length) (hk:k<i) (h:((zAP (at_ ps i) (at_ ps k)==0)|| !(zAv ps k i))=true):zDE ps=false:=by
 unfold zDE
 rw [Bool.and_eq_false_iff]
 right
 rw [List.all_eq_false]
 refine ⟨i,List.mem_range.2 hi, ?_⟩
 rw [Bool.not_eq_true,List.all_eq_false]
 refine ⟨k,List.mem_range.2 hk, ?_⟩
 unfold zOj
 rw [h]
 decide
theorem zNk {ps:List V2} (h3:3<=ps.length) (h: ∀i k,i<ps.length->k<i->((zAP (at_ ps i) (at_ ps k)==0)|| !(zAv ps k i))=false):zDE ps=true:=by
 unfold zDE
 rw [decide_eq_true h3,Bool.true_and,List.all_eq_true]
 intro i hi
 rw [List.all_eq_true]
 intro k hk
 unfold zOj
 rw [h i k (List.mem_range.1 hi) (List.mem_range.1 hk)]
 rfl
theorem zES {m:Nat} {W:World} {l u:Value} {ps:List V2} {k:Nat} (hl:(SF.row 6 (pvs m ps)).p l W) (hu:u= .int .i64 (k:Int)) (hk:k<ps.length) (hn:ps.length<=1000000) (h2:2<=ps.length):Calls Tryz.prog 32 #[l,u] W (Ret W (zB8 (fPV m (at_ ps k)) (fPV m (at_ ps ((k+1) % ps.length))) (fB true)).toSF):=by
 have hk1:(k+1) % ps.length<ps.length:=Nat.mod_lt _ oP
 refine yD [(UF.eq l).toSF,(uI (k:Int)).toSF] Tryz.func32 rfl kI ⟨rfl,hu,trivial⟩ fun a s=> ?_
 replace s:=s.renew [(0, .u (UF.eq l)),(1, .u (uI (k:Int)))] (fmz ⟨.inr ⟨_,rfl, .head _⟩,fmz ⟨.inr ⟨_,rfl,mz1⟩,fnz⟩⟩)
 refine wpIn_seq ?_
 refine zB 0 [] hmix s kI
  zE fun a w1 s=> ?_
 refine zZ (CU.agg (fPV m (((0:Rat),(0:Rat)):V2))) (cs:=ptZ) kI rfl s kI (fun W=>zDJ m W) rfl fun b4 a w s=> ?_
 refine zZ (CU.agg (fPV m (((0:Rat),(0:Rat)):V2))) (cs:=ptZ) kI rfl s kI (fun W=>zDJ m W) rfl fun b5 a w s=> ?_
 refine yU (uB false) rfl s kI iiz fun a w s=> ?_
 refine zA rfl ?_
 refine wpIn_seq ?_
 refine wpIn_seq ?_
 refine zB 13 ((7, .s ((UF.eq l).toSF))::(8, .s ((uI (((pvs m ps).length:Nat):Int)).toSF))::(9, .s ((uB false).toSF))::(10, .s ((uB false).toSF))::(11, .s ((uI (k:Int)).toSF))::(12, .s ((uB false).toSF))::(13, .s ((uB false).toSF))::(14, .s ((uB false).toSF))::(15, .s ((uI (k:Int)).toSF))::(16, .s ((UF.eq l).toSF))::(17, .s ((uI (((pvs m ps).length:Nat):Int)).toSF))::(18, .s ((uB false).toSF))::(19, .u (uB false)):: []) hmix s kI
  (oc zC<|oc (qN (z:=6) (Cs:=pvs m ps) kI (fun v W hb h=>(y5 hl h (s.up hb))) (fun _=>rfl))<|oc (zR .i64 (((pvs m ps).length:Nat):Int) 2 false iiz iiz (by first|(simp;omega)|simp) rfl)<|oc zC<|oc (zF 10 false kI iiz (fun _=>zC) arf)<|oc (zF 10 false kI iiz (fun _=>zR .i64 (k:Int) 0 false iiz iiz (by first|(simp;omega)|simp) rfl) arf)<|oc (yC false iiz (fun e=>by cases e) (fun _ _ _ h=>h))<|oc zC<|oc (zF 14 false kI iiz (fun _=>zC) arf)<|oc (zF 14 false kI iiz (fun _=>zC) arf)<|oc (zF 14 false kI iiz (fun _=>qN (z:=6) (Cs:=pvs m ps) kI (fun v W hb h=>(y5 hl h (s.up hb))) (fun _=>rfl)) arf)<|oc (zF 14 false kI iiz (fun _=>zR .i64 (k:Int) (((pvs m ps).length:Nat):Int) false iiz iiz (by first|(simp;omega)|simp) rfl) arf)<|oc (yC false iiz (fun e=>by cases e) (fun _ _ _ h=>h))<|zE) fun a w2 s=> ?_
 refine zA rfl ?_
 refine StS.cond s false iiz (fun e=>by cases e) (fun e=> ?_)
 refine wpIn_skip ?_
 refine wpIn_seq ?_
 have hwb:=s.below
 replace s:=s.drop [6]
 refine zEP (GW W) hmix s fun w3 _ s=> ?_
 have hwb:=s.below
 refine zBx [4,5,6,7,8,9,10,11] [0,1,2,3,4,5,6,7,8,9,10,11] ((22, .u (UF.eq l))::(23, .u (uI (k:Int)))::(24, .u (fOp W (CU.agg (fPV m (at_ ps k)))))::(25, .u (fPV m (at_ ps k)))::(26, .u (UF.eq l))::(27, .u (uI (k:Int)))::(28, .u (uI ((k+1:Nat):Int)))::(29, .u (UF.eq l))::(30, .u (uI (((pvs m ps).length:Nat):Int)))::(31, .u (uI (((k+1) % ps.length:Nat):Int)))::(32, .u (fOp W (CU.agg (fPV m (at_ ps ((k+1) % ps.length))))))::(33, .u (fPV m (at_ ps ((k+1) % ps.length)))):: []) (zGi hwb) s kI
  (oc zC<|oc zC<|oc (zDg (z:=6) (Cs:=pvs m ps) (i:=k) (C:=CU.agg (fPV m (at_ ps k))) kI (jS hk) hl iiz iiz)<|oc (zEp hwb (fPV m (at_ ps k)) 6 kI iiz zBS)<|oc zC<|oc zC<|oc (qF .i64 (k:Int) 1 ((k+1:Nat):Int) iiz iiz (wrap64 _ _ oP oP))<|oc zC<|oc (qN (z:=6) (Cs:=pvs m ps) kI (fun v W hb h=>by rw [show _=l from h];exact (SF.row 6 (pvs m ps)).st _ _ _ hl (s.up hb)) (fun _=>rfl))<|oc (zF0 .i64 ((k+1:Nat):Int) (((pvs m ps).length:Nat):Int) (((k+1) % ps.length:Nat):Int) iiz iiz (by simp only [List.length_map];omega) (by simp only [List.length_map];rw [Int.tmod_eq_emod_of_nonneg oP];rfl))<|oc (zDg (z:=6) (Cs:=pvs m ps) (i:=((k+1) % ps.length)) (C:=CU.agg (fPV m (at_ ps ((k+1) % ps.length)))) kI (jS hk1) hl iiz iiz)<|oc (zEp hwb (fPV m (at_ ps ((k+1) % ps.length))) 6 kI iiz zBS)<|zE)
  (qQ rfl (zC3.c zCs hwb) (qQ rfl (zC3.c zCs hwb) (qQ rfl (zC3.c (zMi (x:= .tmp 27) (y:= .const (.int .i64 1)) .i64 (k:Int) 1 iiz iiz) hwb) (qQ rfl (zC3.c zCs hwb) (qQ rfl (zC3.c (zPe (x:= .tmp 29) (z:=6) (Cs:=pvs m ps) kI (fun v W hb h=>by rw [show _=l from h];exact (SF.row 6 (pvs m ps)).st _ _ _ hl hb)) hwb) (qQ rfl (zC3.c (zMh (x:= .tmp 28) (y:= .tmp 30) .i64 ((k+1:Nat):Int) (((pvs m ps).length:Nat):Int) iiz iiz (by simp only [List.length_map];omega)) hwb) (qQ rfl (zC3.c (zHk (x:= .tmp 26) (y:= .tmp 31) (z:=6) (Cs:=pvs m ps) (i:=((k+1) % ps.length)) (C:=CU.agg (fPV m (at_ ps ((k+1) % ps.length)))) kI (jS hk1) hl iiz iiz) hwb) (qQ rfl (zC3.c (zJp (x:= .tmp 32) (fPV m (at_ ps ((k+1) % ps.length))) 6 kI iiz zBS) hwb) zBC)))))))) fun a w4 hbw s hr=> ?_
 replace hwb:=hwb.trans (hbw.mono hwb.size)
 refine zBf (i:=12) (c:=4) (CU.agg (fPV m (at_ ps k))) ((fPV m (at_ ps k)).toSF) s rfl kI kI rfl rfl rfl (zP _ _) iiz yR (fun vs _=>zJj hwb (s.own (c:=4) rfl rfl) _) fun w5 hg _ s=> ?_
 replace hwb:=hg _ (Below.refl _ _)
 refine zBf (i:=13) (c:=5) (CU.agg (fPV m (at_ ps ((k+1) % ps.length)))) ((fPV m (at_ ps ((k+1) % ps.length))).toSF) s rfl kI kI rfl rfl rfl (zP _ _) iiz yR (fun vs _=>zJj hwb (s.own (c:=5) rfl rfl) _) fun w6 hg _ s=> ?_
 replace hwb:=hg _ (Below.refl _ _)
 refine zBx [] [14] ((6, .u (uB true)):: []) (zGi hwb) s kI (zEr zG<|zE) zBC fun a w7 hbw s hr=> ?_
 refine zDa kI ?_
 refine wpIn_ret ?_
 exact StS.resCCT s (CU.agg (fPV m (at_ ps k))) (CU.agg (fPV m (at_ ps ((k+1) % ps.length)))) rfl kI kI rfl rfl (zP _ _) rfl rfl (zP _ _) (fun cs cs' v W h1 h2 h3=>⟨_,_,_,rfl,h1,h2,h3⟩)
theorem zJZ {W:World} {l u v:Value} {ps:List V2} {k i:Nat} (hl:(SF.row 6 (pvs 80 ps)).p l W) (hu:u= .int .i64 (k:Int)) (hv:v= .int .i64 (i:Int)) (hki:k<i) (hi:i<ps.length) (hn:ps.length<=1000000) (h3:3<=ps.length) (hpair: ∀i j,i<ps.length->j<ps.length->i≠j->zD1 (at_ ps i) (at_ ps j)):Calls Tryz.prog 84 #[l,u,v] W (Ret W (fB (zAv ps k i)).toSF):=by
 have hk:k<ps.length:=by omega
 have nx: ∀j,j<ps.length->(j+1) % ps.length<ps.length/\j≠(j+1) % ps.length:=fun j hj=>by
  rcases Nat.lt_or_eq_of_le (Nat.succ_le_of_lt hj) with h|h
  ·rw [Nat.mod_eq_of_lt h];omega
  ·rw [show j+1=ps.length from h,Nat.mod_self];omega
 have pkk:zD1 (at_ ps k) (at_ ps ((k+1) % ps.length)):=hpair _ _ hk (nx k hk).1 (nx k hk).2
 have pii:zD1 (at_ ps i) (at_ ps ((i+1) % ps.length)):=hpair _ _ hi (nx i hi).1 (nx i hi).2
 have pki:zD1 (at_ ps k) (at_ ps i):=hpair _ _ hk hi oP
 refine yD [(UF.eq l).toSF,(uI (k:Int)).toSF,(uI (i:Int)).toSF] Tryz.func84 rfl kI ⟨rfl,hu,hv,trivial⟩ fun a s=> ?_
 replace s:=s.renew [(0, .u (UF.eq l)),(1, .u (uI (k:Int))),(2, .u (uI (i:Int)))] (fmz ⟨.inr ⟨_,rfl, .head _⟩,fmz ⟨.inr ⟨_,rfl,mz1⟩,fmz ⟨.inr ⟨_,rfl,mz2⟩,fnz⟩⟩⟩)
 refine wpIn_seq ?_
 refine zB 1 ((6, .u (uB false)):: []) hmix s kI
  (oc zG<|zE) fun a w1 s=> ?_
 refine zA rfl ?_
 refine wpIn_seq ?_
 refine zB 7 ((15, .s ((UF.eq l).toSF))::(16, .s ((uI (k:Int)).toSF))::(17, .s ((zB8 (fPV 80 (at_ ps k)) (fPV 80 (at_ ps ((k+1) % ps.length))) (uB true)).toSF))::(14, .s ((zB8 (fPV 80 (at_ ps k)) (fPV 80 (at_ ps ((k+1) % ps.length))) (uB true)).toSF))::(18, .u (fPV 80 (at_ ps k)))::(19, .u (fPV 80 (at_ ps ((k+1) % ps.length))))::(20, .u (uB true)):: []) hmix s kI
  (oc zC<|oc zC<|oc (zH zD zQ8 (fun u0 u1 W hb (h0:u0=l) (h1:u1= .int .i64 (k:Int))=>zES (m:=80) (ps:=ps) (k:=k) (y5 hl h0 (s.up hb)) h1 hk hn oP))<|oc zC<|oc (zB0 (A:=(fPV 80 (at_ ps k)).toSF) (B:=(fPV 80 (at_ ps ((k+1) % ps.length))).toSF) (C:=(uB true).toSF) iiz)<|oc (zBZ (A:=(fPV 80 (at_ ps k)).toSF) (B:=(fPV 80 (at_ ps ((k+1) % ps.length))).toSF) (C:=(uB true).toSF) iiz)<|oc (zBY (A:=(fPV 80 (at_ ps k)).toSF) (B:=(fPV 80 (at_ ps ((k+1) % ps.length))).toSF) (C:=(uB true).toSF) iiz)<|zE) fun a w2 s=> ?_
 refine zZ (CU.len 6) (cs:=zP6) kI rfl s kI (fun W=>rfl) rfl fun b7 a w s=> ?_
 refine zZ (CU.len 6) (cs:=zP6) kI rfl s kI (fun W=>rfl) rfl fun b8 a w s=> ?_
 refine zV (CU.agg (fPV 80 (at_ ps k))) ((fPV 80 (at_ ps k)).toSF) rfl s kI rfl rfl rfl iiz iiz yR fun a w s=> ?_
 refine zV (CU.agg (fPV 80 (at_ ps ((k+1) % ps.length)))) ((fPV 80 (at_ ps ((k+1) % ps.length))).toSF) rfl s kI rfl rfl rfl iiz iiz yR fun a w s=> ?_
 refine yU (uB true) rfl s kI iiz fun a w s=> ?_
 refine zA rfl ?_
 refine wpIn_seq ?_
 refine zB 7 ((22, .s ((UF.eq l).toSF))::(23, .s ((uI (i:Int)).toSF))::(24, .s ((zB8 (fPV 80 (at_ ps i)) (fPV 80 (at_ ps ((i+1) % ps.length))) (uB true)).toSF))::(21, .s ((zB8 (fPV 80 (at_ ps i)) (fPV 80 (at_ ps ((i+1) % ps.length))) (uB true)).toSF))::(25, .u (fPV 80 (at_ ps i)))::(26, .u (fPV 80 (at_ ps ((i+1) % ps.length))))::(27, .u (uB true)):: []) hmix s kI
  (oc zC<|oc zC<|oc (zH zD zQ8 (fun u0 u1 W hb (h0:u0=l) (h1:u1= .int .i64 (i:Int))=>zES (m:=80) (ps:=ps) (k:=i) (y5 hl h0 (s.up hb)) h1 hi hn oP))<|oc zC<|oc (zB0 (A:=(fPV 80 (at_ ps i)).toSF) (B:=(fPV 80 (at_ ps ((i+1) % ps.length))).toSF) (C:=(uB true).toSF) iiz)<|oc (zBZ (A:=(fPV 80 (at_ ps i)).toSF) (B:=(fPV 80 (at_ ps ((i+1) % ps.length))).toSF) (C:=(uB true).toSF) iiz)<|oc (zBY (A:=(fPV 80 (at_ ps i)).toSF) (B:=(fPV 80 (at_ ps ((i+1) % ps.length))).toSF) (C:=(uB true).toSF) iiz)<|zE) fun a w3 s=> ?_
 refine zZ (CU.len 6) (cs:=zP6) kI rfl s kI (fun W=>rfl) rfl fun b10 a w s=> ?_
 refine zZ (CU.len 6) (cs:=zP6) kI rfl s kI (fun W=>rfl) rfl fun b11 a w s=> ?_
 refine zV (CU.agg (fPV 80 (at_ ps i))) ((fPV 80 (at_ ps i)).toSF) rfl s kI rfl rfl rfl iiz iiz yR fun a w s=> ?_
 refine zV (CU.agg (fPV 80 (at_ ps ((i+1) % ps.length)))) ((fPV 80 (at_ ps ((i+1) % ps.length))).toSF) rfl s kI rfl rfl rfl iiz iiz yR fun a w s=> ?_
 refine yU (uB true) rfl s kI iiz fun a w s=> ?_
 refine zA rfl ?_
 refine wpIn_seq ?_
 refine zB 5 ((28, .s ((fPV 80 (at_ ps k)).toSF))::(29, .s ((fPV 80 (at_ ps ((k+1) % ps.length))).toSF))::(30, .s ((fPV 80 (at_ ps i)).toSF))::(31, .s ((fPV 80 (at_ ps ((i+1) % ps.length))).toSF))::(32, .u (fMT (zBl (at_ ps k) (at_ ps ((k+1) % ps.length)) (at_ ps i) (at_ ps ((i+1) % ps.length))))):: []) hmix s kI
  (oc (zJ (f:=fPV 80 (at_ ps k)) 6 kI (hz:=zP _ _))<|oc (zJ (f:=fPV 80 (at_ ps ((k+1) % ps.length))) 6 kI (hz:=zP _ _))<|oc (zJ (f:=fPV 80 (at_ ps i)) 6 kI (hz:=zP _ _))<|oc (zJ (f:=fPV 80 (at_ ps ((i+1) % ps.length))) 6 kI (hz:=zP _ _))<|oc (zF3 zD zSV (fun u0 u1 u2 u3 W hb (h0:(fPV 80 (at_ ps k)).p u0 W) (h1:(fPV 80 (at_ ps ((k+1) % ps.length))).p u1 W) (h2:(fPV 80 (at_ ps i)).p u2 W) (h3:(fPV 80 (at_ ps ((i+1) % ps.length))).p u3 W)=>zLi h0 h1 h2 h3 pkk pii pki))<|zE) fun a w4 s=> ?_
 refine zZ (CU.len 13) (cs:= [.int .i8 0, .bool false, .slice none 0 0, .slice none 0 0, .bool false, .slice none 0 0, .slice none 0 0, .bool false, .slice none 0 0, .slice none 0 0, .bool false, .slice none 0 0, .slice none 0 0]) kI rfl s kI (fun W=>rfl) rfl fun b13 a w s=> ?_
 refine zV (CU.agg (fMT (zBl (at_ ps k) (at_ ps ((k+1) % ps.length)) (at_ ps i) (at_ ps ((i+1) % ps.length))))) ((fMT (zBl (at_ ps k) (at_ ps ((k+1) % ps.length)) (at_ ps i) (at_ ps ((i+1) % ps.length)))).toSF) rfl s kI rfl rfl rfl iiz iiz (zDl _) fun a w s=> ?_
 refine zA rfl ?_
 refine wpIn_seq ?_
 refine wpIn_seq ?_
 rcases (show i=k+1∨(i≠k+1/\k=0/\i=ps.length - 1)∨(i≠k+1/\k=0/\i≠ps.length - 1)∨(i≠k+1/\k≠0) by omega) with c1|⟨c1,c2,c3⟩|⟨c1,c2,c3⟩|⟨c1,c2⟩
 ·refine zB 0 [] hmix s kI
   zE fun a w5 s=> ?_
  refine zBE (uI (i:Int)) rfl s kI zC kI fun a w s=> ?_
  refine zBE (uI (k:Int)) rfl s kI zC kI fun a w s=> ?_
  refine zBE (uI ((k+1:Nat):Int)) rfl s kI (qF .i64 (k:Int) 1 ((k+1:Nat):Int) iiz iiz (wrap64 _ _ oP oP)) kI fun a w s=> ?_
  refine zBE (uB true) rfl s kI (zR .i64 (i:Int) ((k+1:Nat):Int) true iiz iiz (beq_iff_eq.2 oP) rfl) kI fun a w s=> ?_
  refine zBE (uB true) rfl s kI zC kI fun a w s=> ?_
  refine zBr (.bool true) rfl rfl s iiz kI kI (fun a w s=> ?_)
  refine zBr (.bool true) rfl rfl s iiz kI kI (fun a w s=> ?_)
  refine zBr (.bool true) rfl rfl s iiz kI kI (fun a w s=> ?_)
  refine zBr undef rfl rfl s iiz kI kI (fun a w s=> ?_)
  refine zBr undef rfl rfl s iiz kI kI (fun a w s=> ?_)
  refine zBr undef rfl rfl s iiz kI kI (fun a w s=> ?_)
  refine zBr undef rfl rfl s iiz kI kI (fun a w s=> ?_)
  refine zBr undef rfl rfl s iiz kI kI (fun a w s=> ?_)
  refine zBr (.bool true) rfl rfl s iiz kI kI (fun a w s=> ?_)
  refine zBE (uB true) rfl s kI (yC true iiz (fun _ _ _ h=>h) (fun e=>by cases e)) kI fun a w s=> ?_
  refine zA rfl ?_
  refine StS.cond s true iiz (fun e=> ?_) (fun e=>by cases e)
  refine wpIn_seq ?_
  replace s:=s.drop [6]
  refine zB 4 ((48, .s (SF.ptr ((CU.agg (fMT (zBl (at_ ps k) (at_ ps ((k+1) % ps.length)) (at_ ps i) (at_ ps ((i+1) % ps.length))))).cf.at 0)))::(49, .s ((UF.eq (.int .i8 (zBl (at_ ps k) (at_ ps ((k+1) % ps.length)) (at_ ps i) (at_ ps ((i+1) % ps.length))))).toSF))::(50, .s ((uB ((zBl (at_ ps k) (at_ ps ((k+1) % ps.length)) (at_ ps i) (at_ ps ((i+1) % ps.length)))==1)).toSF))::(6, .u (uB ((zBl (at_ ps k) (at_ ps ((k+1) % ps.length)) (at_ ps i) (at_ ps ((i+1) % ps.length)))==1))):: []) hmix s kI
   (oc (zN (C:=(CU.agg (fMT (zBl (at_ ps k) (at_ ps ((k+1) % ps.length)) (at_ ps i) (at_ ps ((i+1) % ps.length))))).cf) 0 kI)<|oc (jK (C:=(CU.agg (fMT (zBl (at_ ps k) (at_ ps ((k+1) % ps.length)) (at_ ps i) (at_ ps ((i+1) % ps.length))))).cf) (k:=0) kI (h:=zF8 _))<|oc (zR .i8 (zBl (at_ ps k) (at_ ps ((k+1) % ps.length)) (at_ ps i) (at_ ps ((i+1) % ps.length))) 1 ((zBl (at_ ps k) (at_ ps ((k+1) % ps.length)) (at_ ps i) (at_ ps ((i+1) % ps.length)))==1) iiz iiz rfl rfl)<|oc zG<|zE) fun a w6 s=> ?_
  refine zA rfl ?_
  refine wpIn_ret ?_
  exact StS.res1 s (t:=6) rfl (fun v W h=>by rw [show zAv ps k i=_ from if_pos (.inl c1)];exact h)
 ·refine zB 0 [] hmix s kI
   zE fun a w7 s=> ?_
  refine zBE (uI (i:Int)) rfl s kI zC kI fun a w s=> ?_
  refine zBE (uI (k:Int)) rfl s kI zC kI fun a w s=> ?_
  refine zBE (uI ((k+1:Nat):Int)) rfl s kI (qF .i64 (k:Int) 1 ((k+1:Nat):Int) iiz iiz (wrap64 _ _ oP oP)) kI fun a w s=> ?_
  refine zBE (uB false) rfl s kI (zR .i64 (i:Int) ((k+1:Nat):Int) false iiz iiz (beq_eq_false_iff_ne.2 oP) rfl) kI fun a w s=> ?_
  refine zBE (uB false) rfl s kI zC kI fun a w s=> ?_
  refine zBk (uI (k:Int)) rfl rfl s iiz kI zC kI fun a w s=> ?_
  refine zBk (uB true) rfl rfl s iiz kI (zR .i64 (k:Int) 0 true iiz iiz (beq_iff_eq.2 oP) rfl) kI fun a w s=> ?_
  refine zBk (uB true) rfl rfl s iiz kI zC kI fun a w s=> ?_
  refine zBk (uI (i:Int)) rfl rfl s iiz kI zC kI fun a w s=> ?_
  refine zBk (UF.eq l) rfl rfl s iiz kI zC kI fun a w s=> ?_
  refine zBk (uI (((pvs 80 ps).length:Nat):Int)) rfl rfl s iiz kI (qN (z:=6) (Cs:=pvs 80 ps) kI (fun v W hb h=>(y5 hl h (s.up hb))) (fun _=>rfl)) kI fun a w s=> ?_
  refine zBk (uI ((ps.length - 1:Nat):Int)) rfl rfl s iiz kI (zEY .i64 (((pvs 80 ps).length:Nat):Int) 1 ((ps.length - 1:Nat):Int) iiz iiz (by simp only [List.length_map];rw [IntKind.wrap_i64];omega)) kI fun a w s=> ?_
  refine zBk (uB true) rfl rfl s iiz kI (zR .i64 (i:Int) ((ps.length - 1:Nat):Int) true iiz iiz (beq_iff_eq.2 oP) rfl) kI fun a w s=> ?_
  refine zBk (uB true) rfl rfl s iiz kI (yC true iiz (fun _ _ _ h=>h) (fun e=>by cases e)) kI fun a w s=> ?_
  refine zBE (uB true) rfl s kI (yC false iiz (fun e=>by cases e) (fun _ _ _ h=>h)) kI fun a w s=> ?_
  refine zA rfl ?_
  refine StS.cond s true iiz (fun e=> ?_) (fun e=>by cases e)
  refine wpIn_seq ?_
  replace s:=s.drop [6]
  refine zB 4 ((48, .s (SF.ptr ((CU.agg (fMT (zBl (at_ ps k) (at_ ps ((k+1) % ps.length)) (at_ ps i) (at_ ps ((i+1) % ps.length))))).cf.at 0)))::(49, .s ((UF.eq (.int .i8 (zBl (at_ ps k) (at_ ps ((k+1) % ps.length)) (at_ ps i) (at_ ps ((i+1) % ps.length))))).toSF))::(50, .s ((uB ((zBl (at_ ps k) (at_ ps ((k+1) % ps.length)) (at_ ps i) (at_ ps ((i+1) % ps.length)))==1)).toSF))::(6, .u (uB ((zBl (at_ ps k) (at_ ps ((k+1) % ps.length)) (at_ ps i) (at_ ps ((i+1) % ps.length)))==1))):: []) hmix s kI
   (oc (zN (C:=(CU.agg (fMT (zBl (at_ ps k) (at_ ps ((k+1) % ps.length)) (at_ ps i) (at_ ps ((i+1) % ps.length))))).cf) 0 kI)<|oc (jK (C:=(CU.agg (fMT (zBl (at_ ps k) (at_ ps ((k+1) % ps.length)) (at_ ps i) (at_ ps ((i+1) % ps.length))))).cf) (k:=0) kI (h:=zF8 _))<|oc (zR .i8 (zBl (at_ ps k) (at_ ps ((k+1) % ps.length)) (at_ ps i) (at_ ps ((i+1) % ps.length))) 1 ((zBl (at_ ps k) (at_ ps ((k+1) % ps.length)) (at_ ps i) (at_ ps ((i+1) % ps.length)))==1) iiz iiz rfl rfl)<|oc zG<|zE) fun a w8 s=> ?_
  refine zA rfl ?_
  refine wpIn_ret ?_
  exact StS.res1 s (t:=6) rfl (fun v W h=>by rw [show zAv ps k i=_ from if_pos (.inr ⟨c2,c3⟩)];exact h)
 ·refine zB 0 [] hmix s kI
   zE fun a w9 s=> ?_
  refine zBE (uI (i:Int)) rfl s kI zC kI fun a w s=> ?_
  refine zBE (uI (k:Int)) rfl s kI zC kI fun a w s=> ?_
  refine zBE (uI ((k+1:Nat):Int)) rfl s kI (qF .i64 (k:Int) 1 ((k+1:Nat):Int) iiz iiz (wrap64 _ _ oP oP)) kI fun a w s=> ?_
  refine zBE (uB false) rfl s kI (zR .i64 (i:Int) ((k+1:Nat):Int) false iiz iiz (beq_eq_false_iff_ne.2 oP) rfl) kI fun a w s=> ?_
  refine zBE (uB false) rfl s kI zC kI fun a w s=> ?_
  refine zBk (uI (k:Int)) rfl rfl s iiz kI zC kI fun a w s=> ?_
  refine zBk (uB true) rfl rfl s iiz kI (zR .i64 (k:Int) 0 true iiz iiz (beq_iff_eq.2 oP) rfl) kI fun a w s=> ?_
  refine zBk (uB true) rfl rfl s iiz kI zC kI fun a w s=> ?_
  refine zBk (uI (i:Int)) rfl rfl s iiz kI zC kI fun a w s=> ?_
  refine zBk (UF.eq l) rfl rfl s iiz kI zC kI fun a w s=> ?_
  refine zBk (uI (((pvs 80 ps).length:Nat):Int)) rfl rfl s iiz kI (qN (z:=6) (Cs:=pvs 80 ps) kI (fun v W hb h=>(y5 hl h (s.up hb))) (fun _=>rfl)) kI fun a w s=> ?_
  refine zBk (uI ((ps.length - 1:Nat):Int)) rfl rfl s iiz kI (zEY .i64 (((pvs 80 ps).length:Nat):Int) 1 ((ps.length - 1:Nat):Int) iiz iiz (by simp only [List.length_map];rw [IntKind.wrap_i64];omega)) kI fun a w s=> ?_
  refine zBk (uB false) rfl rfl s iiz kI (zR .i64 (i:Int) ((ps.length - 1:Nat):Int) false iiz iiz (beq_eq_false_iff_ne.2 oP) rfl) kI fun a w s=> ?_
  refine zBk (uB false) rfl rfl s iiz kI (yC true iiz (fun _ _ _ h=>h) (fun e=>by cases e)) kI fun a w s=> ?_
  refine zBE (uB false) rfl s kI (yC false iiz (fun e=>by cases e) (fun _ _ _ h=>h)) kI fun a w s=> ?_
  refine zA rfl ?_
  refine StS.cond s false iiz (fun e=>by cases e) (fun e=> ?_)
  refine wpIn_skip ?_
  refine wpIn_seq ?_
  replace s:=s.drop [6]
  refine zB 4 ((51, .s (SF.ptr ((CU.agg (fMT (zBl (at_ ps k) (at_ ps ((k+1) % ps.length)) (at_ ps i) (at_ ps ((i+1) % ps.length))))).cf.at 0)))::(52, .s ((UF.eq (.int .i8 (zBl (at_ ps k) (at_ ps ((k+1) % ps.length)) (at_ ps i) (at_ ps ((i+1) % ps.length))))).toSF))::(53, .s ((uB ((zBl (at_ ps k) (at_ ps ((k+1) % ps.length)) (at_ ps i) (at_ ps ((i+1) % ps.length)))==0)).toSF))::(6, .u (uB ((zBl (at_ ps k) (at_ ps ((k+1) % ps.length)) (at_ ps i) (at_ ps ((i+1) % ps.length)))==0))):: []) hmix s kI
   (oc (zN (C:=(CU.agg (fMT (zBl (at_ ps k) (at_ ps ((k+1) % ps.length)) (at_ ps i) (at_ ps ((i+1) % ps.length))))).cf) 0 kI)<|oc (jK (C:=(CU.agg (fMT (zBl (at_ ps k) (at_ ps ((k+1) % ps.length)) (at_ ps i) (at_ ps ((i+1) % ps.length))))).cf) (k:=0) kI (h:=zF8 _))<|oc (zR .i8 (zBl (at_ ps k) (at_ ps ((k+1) % ps.length)) (at_ ps i) (at_ ps ((i+1) % ps.length))) 0 ((zBl (at_ ps k) (at_ ps ((k+1) % ps.length)) (at_ ps i) (at_ ps ((i+1) % ps.length)))==0) iiz iiz rfl rfl)<|oc zG<|zE) fun a w10 s=> ?_
  refine zA rfl ?_
  refine wpIn_ret ?_
  exact StS.res1 s (t:=6) rfl (fun v W h=>by rw [show zAv ps k i=_ from if_neg oP];exact h)
 ·refine zB 0 [] hmix s kI
   zE fun a w11 s=> ?_
  refine zBE (uI (i:Int)) rfl s kI zC kI fun a w s=> ?_
  refine zBE (uI (k:Int)) rfl s kI zC kI fun a w s=> ?_
  refine zBE (uI ((k+1:Nat):Int)) rfl s kI (qF .i64 (k:Int) 1 ((k+1:Nat):Int) iiz iiz (wrap64 _ _ oP oP)) kI fun a w s=> ?_
  refine zBE (uB false) rfl s kI (zR .i64 (i:Int) ((k+1:Nat):Int) false iiz iiz (beq_eq_false_iff_ne.2 oP) rfl) kI fun a w s=> ?_
  refine zBE (uB false) rfl s kI zC kI fun a w s=> ?_
  refine zBk (uI (k:Int)) rfl rfl s iiz kI zC kI fun a w s=> ?_
  refine zBk (uB false) rfl rfl s iiz kI (zR .i64 (k:Int) 0 false iiz iiz (beq_eq_false_iff_ne.2 oP) rfl) kI fun a w s=> ?_
  refine zBk (uB false) rfl rfl s iiz kI zC kI fun a w s=> ?_
  refine zBr (.bool false) rfl rfl s iiz kI kI (fun a w s=> ?_)
  refine zBr (.bool false) rfl rfl s iiz kI kI (fun a w s=> ?_)
  refine zBr (.bool false) rfl rfl s iiz kI kI (fun a w s=> ?_)
  refine zBr (.bool false) rfl rfl s iiz kI kI (fun a w s=> ?_)
  refine zBr (.bool false) rfl rfl s iiz kI kI (fun a w s=> ?_)
  refine zBk (uB false) rfl rfl s iiz kI (yC false iiz (fun e=>by cases e) (fun _ _ _ h=>h)) kI fun a w s=> ?_
  refine zBE (uB false) rfl s kI (yC false iiz (fun e=>by cases e) (fun _ _ _ h=>h)) kI fun a w s=> ?_
  refine zA rfl ?_
  refine StS.cond s false iiz (fun e=>by cases e) (fun e=> ?_)
  refine wpIn_skip ?_
  refine wpIn_seq ?_
  replace s:=s.drop [6]
  refine zB 4 ((51, .s (SF.ptr ((CU.agg (fMT (zBl (at_ ps k) (at_ ps ((k+1) % ps.length)) (at_ ps i) (at_ ps ((i+1) % ps.length))))).cf.at 0)))::(52, .s ((UF.eq (.int .i8 (zBl (at_ ps k) (at_ ps ((k+1) % ps.length)) (at_ ps i) (at_ ps ((i+1) % ps.length))))).toSF))::(53, .s ((uB ((zBl (at_ ps k) (at_ ps ((k+1) % ps.length)) (at_ ps i) (at_ ps ((i+1) % ps.length)))==0)).toSF))::(6, .u (uB ((zBl (at_ ps k) (at_ ps ((k+1) % ps.length)) (at_ ps i) (at_ ps ((i+1) % ps.length)))==0))):: []) hmix s kI
   (oc (zN (C:=(CU.agg (fMT (zBl (at_ ps k) (at_ ps ((k+1) % ps.length)) (at_ ps i) (at_ ps ((i+1) % ps.length))))).cf) 0 kI)<|oc (jK (C:=(CU.agg (fMT (zBl (at_ ps k) (at_ ps ((k+1) % ps.length)) (at_ ps i) (at_ ps ((i+1) % ps.length))))).cf) (k:=0) kI (h:=zF8 _))<|oc (zR .i8 (zBl (at_ ps k) (at_ ps ((k+1) % ps.length)) (at_ ps i) (at_ ps ((i+1) % ps.length))) 0 ((zBl (at_ ps k) (at_ ps ((k+1) % ps.length)) (at_ ps i) (at_ ps ((i+1) % ps.length)))==0) iiz iiz rfl rfl)<|oc zG<|zE) fun a w12 s=> ?_
  refine zA rfl ?_
  refine wpIn_ret ?_
  exact StS.res1 s (t:=6) rfl (fun v W h=>by rw [show zAv ps k i=_ from if_neg oP];exact h)
theorem zHS {W:World} {l:Value} {ps:List V2} (hl:(SF.row 6 (pvs 80 ps)).p l W) (hn:ps.length<=1000000) (hpair: ∀i j,i<ps.length->j<ps.length->i≠j->zD1 (at_ ps i) (at_ ps j)):Calls Tryz.prog 38 #[l] W (Ret W (fB (zDE ps)).toSF):=by
 refine yD [(UF.eq l).toSF] Tryz.func38 rfl kI ⟨rfl,trivial⟩ fun a s=> ?_
 replace s:=s.renew [(0, .u (UF.eq l))] (fmz ⟨.inr ⟨_,rfl, .head _⟩,fnz⟩)
 refine wpIn_seq ?_
 refine zB 1 ((2, .u (uB false)):: []) hmix s kI
  (oc zG<|zE) fun a w1 s=> ?_
 refine zA rfl ?_
 refine wpIn_seq ?_
 refine wpIn_seq ?_
 refine zB 3 ((5, .s ((UF.eq l).toSF))::(6, .s ((uI (((pvs 80 ps).length:Nat):Int)).toSF))::(7, .u (uB (decide (ps.length<3)))):: []) hmix s kI
  (oc zC<|oc (qN (z:=6) (Cs:=pvs 80 ps) kI (fun v W hb h=>(y5 hl h (s.up hb))) (fun _=>rfl))<|oc (zR .i64 (((pvs 80 ps).length:Nat):Int) 3 (decide (ps.length<3)) iiz iiz (by simp only [List.length_map];rw [decide_eq_decide];omega) rfl)<|zE) fun a w2 s=> ?_
 refine zA rfl ?_
 refine StS.cond s (decide (ps.length<3)) iiz (fun e=> ?_) (fun e=> ?_)
 ·refine wpIn_seq ?_
  replace s:=s.drop [2]
  refine zB 1 ((2, .u (uB false)):: []) hmix s kI
   (oc zG<|zE) fun a w3 s=> ?_
  refine zA rfl ?_
  refine wpIn_ret ?_
  exact StS.res1 s (t:=2) rfl (fun v W h=>by rw [zIC (of_decide_eq_true e)];exact h)
 ·have h3:3<=ps.length:=by have:=of_decide_eq_false e;omega
  refine wpIn_skip ?_
  refine wpIn_seq ?_
  refine wpIn_seq ?_
  refine zB 1 ((3, .u (uI 0)):: []) hmix s kI
   (oc zG<|zE) fun a w4 s=> ?_
  refine zA rfl ?_
  refine wpIn_block ?_
  refine zBF (fun i=>i<=ps.length/\ ∀i' k,i'<i->k<i'->((zAP (at_ ps i') (at_ ps k)==0)|| !(zAv ps k i'))=false) (fun i=> [(0, .u (UF.eq l)),(3, .u (uI (i:Int)))]) (fun i=>ps.length - i) (0:Nat) (⟨Nat.zero_le _,fun j k hj=>absurd hj (Nat.not_lt_zero _)⟩) (s.keepK _ (fmz ⟨mz3,fmz ⟨.head _,fnz⟩⟩)) fun i a w hx s=> ?_
  have hxi:=hx
  refine wpIn_seq ?_
  refine wpIn_seq ?_
  refine zB 4 ((8, .s ((uI (i:Int)).toSF))::(9, .s ((UF.eq l).toSF))::(10, .s ((uI (((pvs 80 ps).length:Nat):Int)).toSF))::(11, .u (uB (decide ((i:Int)<(((pvs 80 ps).length:Nat):Int))))):: []) hmix s kI
   (oc zC<|oc zC<|oc (qN (z:=6) (Cs:=pvs 80 ps) kI (fun v W hb h=>(y5 hl h (s.up hb))) (fun _=>rfl))<|oc (zR .i64 (i:Int) (((pvs 80 ps).length:Nat):Int) (decide ((i:Int)<(((pvs 80 ps).length:Nat):Int))) iiz iiz rfl rfl)<|zE) fun a w5 s=> ?_
  refine zA rfl ?_
  refine StS.cond s (decide ((i:Int)<(((pvs 80 ps).length:Nat):Int))) iiz (fun e=> ?_) (fun e=> ?_)
  ·have hi:i<ps.length:=by have:=of_decide_eq_true e;simp at this;omega
   refine wpIn_skip ?_
   refine wpIn_seq ?_
   refine wpIn_block ?_
   refine wpIn_seq ?_
   refine zB 1 ((4, .u (uI 0)):: []) hmix s kI
    (oc zG<|zE) fun a w6 s=> ?_
   refine zA rfl ?_
   refine wpIn_block ?_
   refine zBF (fun k=>k<=i/\ ∀k',k'<k->((zAP (at_ ps i) (at_ ps k')==0)|| !(zAv ps k' i))=false) (fun k=> [(0, .u (UF.eq l)),(3, .u (uI (i:Int))),(4, .u (uI (k:Int)))]) (fun k=>i - k) (0:Nat) (⟨Nat.zero_le _,fun j hj=>absurd hj (Nat.not_lt_zero _)⟩) (s.keepK _ (fmz ⟨mz2,fmz ⟨mz3,fmz ⟨.head _,fnz⟩⟩⟩)) fun k a w hx s=> ?_
   refine wpIn_seq ?_
   refine wpIn_seq ?_
   refine zB 3 ((14, .s ((uI (k:Int)).toSF))::(15, .s ((uI (i:Int)).toSF))::(16, .u (uB (decide ((k:Int)<(i:Int))))):: []) hmix s kI
    (oc zC<|oc zC<|oc (zR .i64 (k:Int) (i:Int) (decide ((k:Int)<(i:Int))) iiz iiz rfl rfl)<|zE) fun a w7 s=> ?_
   refine zA rfl ?_
   refine StS.cond s (decide ((k:Int)<(i:Int))) iiz (fun e=> ?_) (fun e=> ?_)
   ·have hk:k<i:=by have:=of_decide_eq_true e;omega
    have hkl:k<ps.length:=by omega
    refine wpIn_skip ?_
    refine wpIn_seq ?_
    refine wpIn_block ?_
    refine wpIn_seq ?_
    refine zB 16 ((19, .s ((UF.eq l).toSF))::(20, .s ((uI (i:Int)).toSF))::(21, .s (SF.ptr (CU.agg (fPV 80 (at_ ps i))).cf))::(22, .s ((fPV 80 (at_ ps i)).toSF))::(23, .s ((UF.eq l).toSF))::(24, .s ((uI (k:Int)).toSF))::(25, .s (SF.ptr (CU.agg (fPV 80 (at_ ps k))).cf))::(26, .s ((fPV 80 (at_ ps k)).toSF))::(27, .s ((uB (zAP (at_ ps i) (at_ ps k)==0)).toSF))::(28, .s ((uB (zAP (at_ ps i) (at_ ps k)==0)).toSF))::(29, .s (SF.imp ((zAP (at_ ps i) (at_ ps k)==0)=false) ((UF.eq l).toSF)))::(30, .s (SF.imp ((zAP (at_ ps i) (at_ ps k)==0)=false) ((uI (k:Int)).toSF)))::(31, .s (SF.imp ((zAP (at_ ps i) (at_ ps k)==0)=false) ((uI (i:Int)).toSF)))::(32, .s (SF.imp ((zAP (at_ ps i) (at_ ps k)==0)=false) ((uB (zAv ps k i)).toSF)))::(33, .s (SF.imp ((zAP (at_ ps i) (at_ ps k)==0)=false) ((uB (!(zAv ps k i))).toSF)))::(34, .u (uB ((zAP (at_ ps i) (at_ ps k)==0)||(!(zAv ps k i))))):: []) hmix s kI
     (oc zC<|oc zC<|oc (qW (z:=6) (Cs:=pvs 80 ps) (i:=i) (C:=CU.agg (fPV 80 (at_ ps i))) kI (jS hi) (fun v W hb h=>(y5 hl h (s.up hb))) iiz)<|oc (zJ (f:=fPV 80 (at_ ps i)) 6 kI (hz:=zP _ _))<|oc zC<|oc zC<|oc (qW (z:=6) (Cs:=pvs 80 ps) (i:=k) (C:=CU.agg (fPV 80 (at_ ps k))) kI (jS hkl) (fun v W hb h=>(y5 hl h (s.up hb))) iiz)<|oc (zJ (f:=fPV 80 (at_ ps k)) 6 kI (hz:=zP _ _))<|oc (zH zD zSu (fun u0 u1 W hb (h0:(fPV 80 (at_ ps i)).p u0 W) (h1:(fPV 80 (at_ ps k)).p u1 W)=>zIN (m:=80) h0 h1 dB dB))<|oc zC<|oc (zF 28 (zAP (at_ ps i) (at_ ps k)==0) kI iiz (fun e=>zU [] ((UF.eq l).toSF) fnz (fun _ _ h _=>h) kI zC) (fun e W h=>absurd h e))<|oc (zF 28 (zAP (at_ ps i) (at_ ps k)==0) kI iiz (fun e=>zU [] ((uI (k:Int)).toSF) fnz (fun _ _ h _=>h) kI zC) (fun e W h=>absurd h e))<|oc (zF 28 (zAP (at_ ps i) (at_ ps k)==0) kI iiz (fun e=>zU [] ((uI (i:Int)).toSF) fnz (fun _ _ h _=>h) kI zC) (fun e W h=>absurd h e))<|oc (zF 28 (zAP (at_ ps i) (at_ ps k)==0) kI iiz (fun e=>zU [(29,(UF.eq l).toSF),(30,(uI (k:Int)).toSF),(31,(uI (i:Int)).toSF)] ((uB (zAv ps k i)).toSF) (fmz ⟨fun v W h=>zL (c:=(zAP (at_ ps i) (at_ ps k)==0)=false) (f:=(UF.eq l).toSF) e h,fmz ⟨fun v W h=>zL (c:=(zAP (at_ ps i) (at_ ps k)==0)=false) (f:=(uI (k:Int)).toSF) e h,fmz ⟨fun v W h=>zL (c:=(zAP (at_ ps i) (at_ ps k)==0)=false) (f:=(uI (i:Int)).toSF) e h,fnz⟩⟩⟩) (fun _ _ h _=>h) kI (jU zD zT1 (fun u0 u1 u2 W hb (h0:u0=l) (h1:u1= .int .i64 (k:Int)) (h2:u2= .int .i64 (i:Int))=>zJZ (ps:=ps) (k:=k) (i:=i) (y5 hl h0 (s.up hb)) h1 h2 hk hi hn h3 hpair))) (fun e W h=>absurd h e))<|oc (zF 28 (zAP (at_ ps i) (at_ ps k)==0) kI iiz (fun e=>zU [(32,(uB (zAv ps k i)).toSF)] ((uB (!(zAv ps k i))).toSF) (fmz ⟨fun v W h=>zL (c:=(zAP (at_ ps i) (at_ ps k)==0)=false) (f:=(uB (zAv ps k i)).toSF) e h,fnz⟩) (fun _ _ h _=>h) kI (zB5 (zAv ps k i) iiz (fun _=>rfl))) (fun e W h=>absurd h e))<|oc (yC (zAP (at_ ps i) (at_ ps k)==0) iiz (fun e v W h=>zDN h e) (fun e v W h=>zCC (zL e h) e))<|zE) fun a w8 s=> ?_
    refine zA rfl ?_
    refine StS.cond s ((zAP (at_ ps i) (at_ ps k)==0)||(!(zAv ps k i))) iiz (fun e=> ?_) (fun e=> ?_)
    ·refine wpIn_seq ?_
     refine zB 1 ((2, .u (uB false)):: []) hmix s kI
      (oc zG<|zE) fun a w9 s=> ?_
     refine zA rfl ?_
     refine wpIn_ret ?_
     exact StS.res1 s (t:=2) rfl (fun v W h=>by rw [zPZ hi hk e];exact h)
    ·refine wpIn_skip ?_
     refine y6 2 ((17, .s ((uI (k:Int)).toSF))::(18, .u (uI ((k+1:Nat):Int))):: []) s kI
      (oc zC<|oc (qF .i64 (k:Int) 1 ((k+1:Nat):Int) iiz iiz (wrap64 _ _ oP oP))<|zE) fun a w10 s=> ?_
     replace s:=s.drop [4]
     refine yU (uI ((k+1:Nat):Int)) rfl s kI iiz fun a w s=> ?_
     refine zA rfl ?_
     exact ⟨k+1,⟨hk,fun j hj=>by rcases Nat.lt_or_eq_of_le (Nat.le_of_lt_succ hj) with h|h;exact hx.2 j h;rw [h];exact e⟩,(by show i - (k+1)<i - k;omega),s.keepK _ (fmz ⟨mz4,fmz ⟨mz5,fmz ⟨.head _,fnz⟩⟩⟩)⟩
   ·have hk:k=i:=by have h7:=of_decide_eq_false e;have h8:=hx.1;omega
    refine wpIn_exit ?_
    refine y6 2 ((12, .s ((uI (i:Int)).toSF))::(13, .u (uI ((i+1:Nat):Int))):: []) s kI
     (oc zC<|oc (qF .i64 (i:Int) 1 ((i+1:Nat):Int) iiz iiz (wrap64 _ _ oP oP))<|zE) fun a w11 s=> ?_
    replace s:=s.drop [3]
    refine yU (uI ((i+1:Nat):Int)) rfl s kI iiz fun a w s=> ?_
    refine zA rfl ?_
    exact ⟨i+1,⟨hi,fun j k hj hk=>by rcases Nat.lt_or_eq_of_le (Nat.le_of_lt_succ hj) with h|h;exact hxi.2 j k h hk;rw [h];exact hx.2 k oP⟩,(by show ps.length - (i+1)<ps.length - i;omega),s.keepK _ (fmz ⟨mz3,fmz ⟨.head _,fnz⟩⟩)⟩
  ·have hi:i=ps.length:=by have h7:=of_decide_eq_false e;have h8:=hx.1;simp at h7;omega
   refine wpIn_exit ?_
   refine wpIn_seq ?_
   refine zB 1 ((2, .u (uB true)):: []) hmix s kI
    (oc zG<|zE) fun a w12 s=> ?_
   refine zA rfl ?_
   refine wpIn_ret ?_
   exact StS.res1 s (t:=2) rfl (fun v W h=>by rw [zNk h3 (fun j k hj hk'=>hx.2 j k oP hk')];exact h)
end Go.Proofs.Wd

namespace Go.Proofs.Wd
set_option maxRecDepth 100000
set_option maxHeartbeats 1000000
open Go.RowKit Lb
section
variable {S:Nat->Prop} {w0:World} {K:List (Nat×KF)} {B:List Bx} {n:Nat} {a:Act} {w:World} {P:Program} {Q:Exit->Act->World->Prop}
theorem zM9 {ops:Array Oper} {k d l:Nat} {y:Operand} {xs:Array Operand} {ats:Array TypeId} {ty:TypeId} {pos:String} {aft:Array Edge} {gd:Option (Nat×Bool)} {Jn Z:World->Prop} {N:Nat} {C:Nat->Prop} (ho:ops[k]?=some ⟨some d, .call ⟨.value y,xs,ats⟩,ty,pos,aft,gd⟩) (hw:Region.wanted ⟨some d, .call ⟨.value y,xs,ats⟩,ty,pos,aft,gd⟩ (yielded ops a.tmps)=true)
  (h:StS S w0 K B n [] a w) (hy: ∀v W,(Wd.fct (jH K B) y).p v W->v= .func (.yield l) #[] #[]) (hf:zAt K B n d=true) (hu: ∀q,q∈K-> ∃f,q.2= .u f) (hC: ∀x,x∈B-> ¬C x.b)
  (Y:YieldAt Fence.wide 0 P l (xs.map a.eval) w fun e W'=>((e= .returned (.bool true)/\Jn W')∨(e= .returned (.bool false)/\Z W'))/\Rnd N C w W')
  (fin: ∀a' w' bv,Rnd N C w w'->((bv=true/\Jn w')∨(bv=false/\Z w'))->StS (inB B) w' ((d, .u (uB bv))::K) B n [] a' w'->zBj Fence.wide 0 P ops Q (k+1) a' w'):zBj Fence.wide 0 P ops Q k a w:=by
 have hyv:a.eval y= .func (.yield l) #[] #[]:=hy _ _ (h.fct y)
 obtain ⟨fn,tmps,assign,body,hrun,hR⟩:=Y
 have hex:(execOp a.eval ⟨some d, .call ⟨.value y,xs,ats⟩,ty,pos,aft,gd⟩).run P w=(execOp a.eval ⟨some d, .call ⟨.value y,xs,ats⟩,ty,pos,aft,none⟩).run P w:=rfl
 refine zIr ho hw ⟨fun g _=>trivial, ?_⟩
 rw [Oper.semAt_eq _ _ _ (fun _ e=>by cases e),hex,zHm hyv,hrun]
 rw [Oper.uponIn_round]
 refine ⟨fun hh=>absurd hh (by simp [Fence.wide]),RoundIn.mono hR fun e W' he=> ?_⟩
 obtain ⟨he,hr⟩:=he
 have s1:=h.yielded hr hu hC
 rcases he with ⟨rfl,hJ⟩|⟨rfl,hZ⟩
 ·exact fin _ _ true hr (.inl ⟨rfl,hJ⟩) (s1.set hf (Below.refl _ _) rfl)
 ·exact fin _ _ false hr (.inr ⟨rfl,hZ⟩) (s1.set hf (Below.refl _ _) rfl)
end
theorem peB (s:Bool) (A A':Option Addr) (n n' c c':Nat) (s2:Bool) (B B':Option Addr) (k k' d d':Nat) (t:Bool) (C C':Option Addr) (i i' j j':Nat) (t2:Bool) (D D':Option Addr) (x x' y y':Nat):Tryz.prog.built 143 [(0, .agg #[.bool s, .slice A n c, .slice A' n' c', .bool s2, .slice B k d, .slice B' k' d']),(1, .agg #[.bool t, .slice C i j, .slice C' i' j', .bool t2, .slice D x y, .slice D' x' y'])]=some #[.bool s, .slice A n c, .slice A' n' c', .bool s2, .slice B k d, .slice B' k' d', .bool t, .slice C i j, .slice C' i' j', .bool t2, .slice D x y, .slice D' x' y']:=by kernel_rfl
theorem zUT {f g f' g':UF} {u v:Value} {W:World} (hu:(fPT f g).p u W) (hv:(fPT f' g').p v W): ∃cells,Tryz.prog.built 143 [(0,u),(1,v)]=some cells/\(fPR (fPT f g) (fPT f' g')).p (.agg cells) W:=by
 obtain ⟨s,A,n,c,A',n',c',s2,B,k,d,B',k',d',rfl,h1,h2⟩:=hu
 obtain ⟨s3,A3,n3,c3,A4,n4,c4,s4,B3,k3,d3,B4,k4,d4,rfl,h3,h4⟩:=hv
 exact ⟨_,peB ..,_,_,rfl,⟨s,A,n,c,A',n',c',s2,B,k,d,B',k',d',rfl,h1,h2⟩,⟨s3,A3,n3,c3,A4,n4,c4,s4,B3,k3,d3,B4,k4,d4,rfl,h3,h4⟩⟩
abbrev eF (m:Nat) (ps:List V2) (k:Nat):List UF:= [uI (k:Int),fPR (fPV m (at_ ps k)) (fPV m (at_ ps ((k+1) % ps.length)))]
theorem zJh {W:World} {l:Value} (hlc:l.cells=#[l]/\yG l=true):Calls Tryz.prog 120 #[l] W (Ret W (zMk W 153 22 (CU.is [l]))):=by
 refine yD [(UF.eq l).toSF] Tryz.func120 rfl kI ⟨rfl,trivial⟩ fun a s=> ?_
 refine wpIn_seq ?_
 refine zB 0 [] hmix s kI
  zE fun a w1 s=> ?_
 refine yJ (CU.is [l]) rfl s kI (fun v W h=>zJg h hlc.1 hlc.2) fun b1 a w s=> ?_
 refine yU (UF.eq (.nilFunc)) rfl s kI iiz fun a w s=> ?_
 refine zA rfl ?_
 refine wpIn_seq ?_
 replace s:=s.drop [2]
 refine zB 2 ((3, .s ((UF.eq (.func (.func 153) #[] #[.pointer (some ⟨b1,0,none⟩)])).toSF))::(2, .u (UF.eq (.func (.func 153) #[] #[.pointer (some ⟨b1,0,none⟩)]))):: []) hmix s kI
  (oc (zEo (fun u W hb (h:(SF.pb b1 (CU.is [l]).cf).p u W)=>by rw [h.1];rfl))<|oc zG<|zE) fun a w2 s=> ?_
 refine zA rfl ?_
 refine wpIn_ret ?_
 obtain ⟨cs,e1,e2,e3⟩:=s.boxAt (c:=1) rfl
 exact StS.resN s (Below.refl _ _) rfl ⟨b1,cs,s.val (.head _),s.inB_new ⟨_, .head _,rfl,rfl⟩,e1,e2,e3⟩
theorem zOf {w0 w_:World} {m b:Nat} {l:Value} {ps:List V2} {C:Nat->Prop} (hh:w_.heap[b]?=some (.cells #[l] 22 (0,0))) (hl:(SF.row 6 (pvs m ps)).p l w0) (hb0:Below w0.heap.size w0 w_) (hCl: ∀k,C k->k<w_.heap.size) (hC0: ∀k,C k->w0.heap.size<=k) (hCb: ¬C b) (hn:ps.length<=1000000) (h2:2<=ps.length):
  ItC Tryz.prog 153 #[.pointer (some ⟨b,0,none⟩)] (eF m ps) (nE ps) False C w_:=by
 intro l_ J Z W hwW hbW hkW hJs hZs hend hround hJ0
 have hlc:=zBI hl
 have hw0:w0.heap.size<=w_.heap.size:=hb0.size
 have hbW0:Below w0.heap.size w0 W:=hb0.trans (hbW.mono hb0.size)
 have hlW:=(SF.row 6 (pvs m ps)).st _ _ _ hl hbW0
 have hhW:W.heap[b]?=some (.cells #[l] 22 (0,0)):=(hbW.block b (Array.getElem?_eq_some_iff.1 hh).1).trans hh
 refine zJf Tryz.func153 rfl ?_
 have s:=zIw (w:=W) (fn:=Tryz.f153) (args:=#[.func (.yield l_) #[] #[]]++#[.pointer (some ⟨b,0,none⟩)]) noS [(0,UF.eq (.func (.yield l_) #[] #[]))] [⟨1,22,CU.is [l],b,true⟩] kI (fun q hq=>by obtain rfl:=List.mem_singleton.1 hq;exact ⟨by simp,rfl⟩) ⟨⟨[l],rfl, .inl rfl,hhW,rfl,by simp [hlc.2],fun y hy=>by cases hy⟩,trivial⟩ (fun x hx=>by obtain rfl:=List.mem_singleton.1 hx;show 1<2;decide)
 generalize ({ tmps:=#[.func (.yield l_) #[] #[]]++#[.pointer (some ⟨b,0,none⟩)]++Array.replicate (Tryz.f153.ntmps - (#[.func (.yield l_) #[] #[]]++#[.pointer (some ⟨b,0,none⟩)]:Array Value).size) undef,defers:= [] }:Act)=a at s ⊢
 refine wpIn_seq ?_
 refine zB 3 ((7, .s ((UF.eq l).toSF))::(8, .u (uI (((pvs m ps).length:Nat):Int)))::(9, .u (uI 0)):: []) hmix s kI
  (oc (jE (C:=(CU.is [l]).cf) kI (fun _ _ h=>h.2) zEa)<|oc (qN (z:=6) (Cs:=pvs m ps) kI (fun v W hb h=>(y5 hlW h (s.up hb))) (fun _=>rfl))<|oc zC<|zE) fun a w1 s=> ?_
 refine zA rfl ?_
 refine wpIn_block ?_
 have hJw:J 0 w1:=hJs 0 _ _ hJ0 (zBK s.below lr)
 have hBw0:Below w0.heap.size w0 w1:=hbW0.trans (s.below.mono hbW0.size)
 have hW0:=s.gr.size
 replace s:=(s.keepK [(0, .u (UF.eq (.func (.yield l_) #[] #[]))),(8, .u (uI (((pvs m ps).length:Nat):Int))),(9, .u (uI ((0:Nat):Int)))] (fmz ⟨mz2,fmz ⟨.head _,fmz ⟨mz1,fnz⟩⟩⟩)).self (zAw kI)
 refine zDT (fun k a w=>k<=ps.length/\J k w/\Below w0.heap.size w0 w/\W.heap.size<=w.heap.size/\StS (inB [⟨1,22,CU.is [l],b,true⟩]) w [(0, .u (UF.eq (.func (.yield l_) #[] #[]))),(8, .u (uI (((pvs m ps).length:Nat):Int))),(9, .u (uI (k:Int)))] [⟨1,22,CU.is [l],b,true⟩] Tryz.f153.ntmps [] a w) (fun k=>ps.length - k) 0 ⟨Nat.zero_le _,hJw,hBw0,hW0,s⟩ fun k a w ⟨hk,hJ,hBw,hWs,s⟩=> ?_
 have s0:=s
 replace s:=s.toSt (fun q ⟨x,hx,_,hr⟩=>by obtain rfl:=List.mem_singleton.1 hx;cases hr) rfl
 have hlw:=(SF.row 6 (pvs m ps)).st _ _ _ hl hBw
 refine wpIn_seq ?_
 refine zB 1 ((10, .u (uB (decide ((k:Int)<(((pvs m ps).length:Nat):Int))))):: []) hmix s kI
  (oc (zR .i64 (k:Int) (((pvs m ps).length:Nat):Int) (decide ((k:Int)<(((pvs m ps).length:Nat):Int))) iiz iiz rfl rfl)<|zE) fun a w2 s=> ?_
 refine zA rfl ?_
 refine wpIn_seq ?_
 refine StS.cond s (decide ((k:Int)<(((pvs m ps).length:Nat):Int))) iiz (fun e=> ?_) (fun e=> ?_)
 ·have hkn:k<ps.length:=by have:=of_decide_eq_true e;simp at this;omega
  refine wpIn_skip ?_
  refine wpIn_seq ?_
  refine wpIn_block ?_
  refine wpIn_seq ?_
  refine zB 2 ((11, .s ((uI (k:Int)).toSF))::(3, .u (uI (k:Int))):: []) hmix s kI
   (oc zC<|oc zG<|zE) fun a w3 s=> ?_
  refine zA rfl ?_
  refine wpIn_seq ?_
  refine zB 7 ((13, .s ((UF.eq l).toSF))::(14, .s ((uI (k:Int)).toSF))::(15, .s ((zB8 (fPV m (at_ ps k)) (fPV m (at_ ps ((k+1) % ps.length))) (uB true)).toSF))::(12, .s ((zB8 (fPV m (at_ ps k)) (fPV m (at_ ps ((k+1) % ps.length))) (uB true)).toSF))::(16, .u (fPV m (at_ ps k)))::(17, .u (fPV m (at_ ps ((k+1) % ps.length))))::(18, .u (uB true)):: []) hmix s kI
   (oc (jE (C:=(CU.is [l]).cf) kI (fun _ _ h=>h.2) zEa)<|oc zC<|oc (zH zD zPm (fun u0 u1 W hb (h0:u0=l) (h1:u1= .int .i64 (k:Int))=>by rw [show u0=l from h0];exact zS6 ((SF.row 6 (pvs m ps)).st _ _ _ hlw (s.up hb)) h1 hkn hn h2))<|oc zC<|oc (zB0 (A:=(fPV m (at_ ps k)).toSF) (B:=(fPV m (at_ ps ((k+1) % ps.length))).toSF) (C:=(uB true).toSF) iiz)<|oc (zBZ (A:=(fPV m (at_ ps k)).toSF) (B:=(fPV m (at_ ps ((k+1) % ps.length))).toSF) (C:=(uB true).toSF) iiz)<|oc (zBY (A:=(fPV m (at_ ps k)).toSF) (B:=(fPV m (at_ ps ((k+1) % ps.length))).toSF) (C:=(uB true).toSF) iiz)<|zE) fun a w4 s=> ?_
  refine zZ (CU.len 6) (cs:=zP6) kI rfl s kI (fun W=>rfl) rfl fun b4 a w s=> ?_
  refine zZ (CU.len 6) (cs:=zP6) kI rfl s kI (fun W=>rfl) rfl fun b5 a w s=> ?_
  refine zV (CU.agg (fPV m (at_ ps k))) ((fPV m (at_ ps k)).toSF) rfl s kI rfl rfl rfl iiz iiz yR fun a w s=> ?_
  refine zV (CU.agg (fPV m (at_ ps ((k+1) % ps.length)))) ((fPV m (at_ ps ((k+1) % ps.length))).toSF) rfl s kI rfl rfl rfl iiz iiz yR fun a w s=> ?_
  refine yU (uB true) rfl s kI iiz fun a w s=> ?_
  refine zA rfl ?_
  refine wpIn_seq ?_
  refine zB 7 ((19, .s ((uB true).toSF))::(20, .u (uB true))::(21, .u (UF.eq (.func (.yield l_) #[] #[])))::(22, .u (uI (k:Int)))::(23, .s ((fPV m (at_ ps k)).toSF))::(24, .s ((fPV m (at_ ps ((k+1) % ps.length))).toSF))::(25, .u (fPR (fPV m (at_ ps k)) (fPV m (at_ ps ((k+1) % ps.length))))):: []) hmix s kI
   (oc zC<|oc zC<|oc (zF 20 true kI iiz (fun _=>zC) arf)<|oc (zF 20 true kI iiz (fun _=>zC) arf)<|oc (zF 20 true kI iiz (fun _=>zJ (f:=fPV m (at_ ps k)) 6 kI (hz:=zP _ _)) arf)<|oc (zF 20 true kI iiz (fun _=>zJ (f:=fPV m (at_ ps ((k+1) % ps.length))) 6 kI (hz:=zP _ _)) arf)<|oc (zF 20 true kI iiz (fun _=>qO (fun u v W (hu:(fPV m (at_ ps k)).p u W) (hv:(fPV m (at_ ps ((k+1) % ps.length))).p v W)=>zUT hu hv)) arf)<|zE) fun a w5 s=> ?_
  have hJ1:J k w5:=hJs _ _ _ hJ (zBK s.below hWs)
  have hB1:Below w0.heap.size w0 w5:=hBw.trans (s.below.mono hBw.size)
  have hb4:=s.inB_new (q:=b4) ⟨_,mz1,rfl,rfl⟩
  have hb5:=s.inB_new (q:=b5) ⟨_, .head _,rfl,rfl⟩
  have hws:=s.gr.size
  have hcx: ∀x,x∈([⟨5,30,CU.agg (fPV m (at_ ps ((k+1) % ps.length))),b5,false⟩,⟨4,30,CU.agg (fPV m (at_ ps k)),b4,false⟩,⟨1,22,CU.is [l],b,true⟩]:List Bx)-> ¬C x.b:=fun x hx hc=>by
   have h9:=fun q hq=>hCl q hq
   rcases List.mem_cons.1 hx with rfl|hx
   ·have:=hCl _ hc;show False;have h9:b5<w_.heap.size:=this;omega
   rcases List.mem_cons.1 hx with rfl|hx
   ·have:=hCl _ hc;show False;have h9:b4<w_.heap.size:=this;omega
   ·obtain rfl:=List.mem_singleton.1 hx;exact hCb hc
  refine zM9 rfl (zGx (k:=7) (j:=1) (want:=true) rfl (s.val (.head _))) s iiz kI (zAw kI) hcx (hround k _ _ (by unfold nE;rw [if_pos h2];exact hkn) hJ1 ⟨by simp,fun j f hj=> ?_⟩) fun a w bv hr hbv s=> ?_
  ·match j,hj with
   |0,hj=>obtain rfl:=Option.some.inj hj;rw [zTX];exact s.at.sl 22
   |1,hj=>obtain rfl:=Option.some.inj hj;rw [zTW];exact s.at.sl 25
  have hB2:=zKW hB1 hr hw0 hC0
  have sy:=s
  refine zBk (uB (!bv)) rfl rfl s iiz kI (zB5 bv iiz (fun _=>rfl)) kI fun a w s=> ?_
  refine zBE (uB (!bv)) rfl s kI (yC true iiz (fun _ _ _ h=>h) (fun e=>by cases e)) kI fun a w s=> ?_
  refine zA rfl ?_
  have hsz2:=hr.size
  have hitr:=sy.itr_to (N:=W.heap.size) s.gr (fun x hx hr1=>by rcases List.mem_cons.1 hx with rfl|hx;show W.heap.size<=b5;omega;rcases List.mem_cons.1 hx with rfl|hx;show W.heap.size<=b4;omega;obtain rfl:=List.mem_singleton.1 hx;cases hr1) oP
  refine StS.cond s (!bv) iiz (fun e=> ?_) (fun e=> ?_)
  ·have hz:=hZs _ _ (by rcases hbv with ⟨e2,_⟩|⟨_,hz⟩;rw [e2] at e;cases e;exact hz) hitr
   refine wpIn_ret ?_
   exact ⟨s.nd, .tuple #[],by simp [results,Tryz.results153],⟨_,rfl⟩, .inr hz⟩
  ·have hJ2:=hJs _ _ _ (by rcases hbv with ⟨_,hj⟩|⟨e2,_⟩;exact hj;rw [e2] at e;cases e) hitr
   have hB3:=(Below.refl w0.heap.size w0).trans (zHs hB2 s.gr (fun q ⟨x,hx,e1,hr1⟩=>by rcases List.mem_cons.1 hx with rfl|hx;have e1:b5=q:=e1;omega;rcases List.mem_cons.1 hx with rfl|hx;have e1:b4=q:=e1;omega;obtain rfl:=List.mem_singleton.1 hx;cases hr1))
   have hW3:=s.gr.size
   have sx:=s
   replace s:=s.self (zAw kI)
   refine wpIn_skip ?_
   refine y6 1 ((29, .u (uI ((k+1:Nat):Int))):: []) s kI
    (oc (qF .i64 (k:Int) 1 ((k+1:Nat):Int) iiz iiz (wrap64 _ _ oP oP))<|zE) fun a w6 s=> ?_
   replace s:=s.drop [9]
   refine zBE (uI ((k+1:Nat):Int)) rfl s kI zC kI fun a w s=> ?_
   refine zA rfl ?_
   have hsz4:=s.gr.size
   have hit2:=sx.itr_to (N:=W.heap.size) s.gr (fun x hx hr1=>by rcases List.mem_cons.1 hx with rfl|hx;show W.heap.size<=b5;omega;rcases List.mem_cons.1 hx with rfl|hx;show W.heap.size<=b4;omega;obtain rfl:=List.mem_singleton.1 hx;cases hr1) oP
   have hB4:=zHs hB3 s.gr (fun q ⟨x,hx,e1,hr1⟩=>by rcases List.mem_cons.1 hx with rfl|hx;have e1:b5=q:=e1;omega;rcases List.mem_cons.1 hx with rfl|hx;have e1:b4=q:=e1;omega;obtain rfl:=List.mem_singleton.1 hx;cases hr1)
   exact ⟨k+1,by show ps.length - (k+1)<ps.length - k;omega,hkn,hJs _ _ _ hJ2 hit2,hB4,by omega,(((s.keepK _ (fmz ⟨zSb,fmz ⟨.tail _ zSb,fmz ⟨.head _,fnz⟩⟩⟩)).popB).popB).self (zAw kI)⟩
 ·have hkn:k=ps.length:=by have h7:=of_decide_eq_false e;simp at h7;omega
  refine wpIn_exit ?_
  exact ⟨s.nd, .tuple #[],by simp [results,Tryz.results153],⟨_,rfl⟩, .inl (by unfold nE;rw [if_pos h2, <-hkn];exact hJs _ _ _ hJ (zBK s.below hWs))⟩
theorem zOg {w0 w_:World} {m b:Nat} {l:Value} {ps:List V2} {C:Nat->Prop} (hh:w_.heap[b]?=some (.cells #[l] 22 (0,0))) (hl:(SF.row 6 (pvs m ps)).p l w0) (hb0:Below w0.heap.size w0 w_) (hCl: ∀k,C k->k<w_.heap.size) (hC0: ∀k,C k->w0.heap.size<=k) (hCb: ¬C b) (hn:ps.length<=1000000) (h2:ps.length<2):
  ItC Tryz.prog 153 #[.pointer (some ⟨b,0,none⟩)] (eF m ps) (nE ps) False C w_:=by
 intro l_ J Z W hwW hbW hkW hJs hZs hend hround hJ0
 have hlc:=zBI hl
 have hw0:w0.heap.size<=w_.heap.size:=hb0.size
 have hbW0:Below w0.heap.size w0 W:=hb0.trans (hbW.mono hb0.size)
 have hlW:=(SF.row 6 (pvs m ps)).st _ _ _ hl hbW0
 have hhW:W.heap[b]?=some (.cells #[l] 22 (0,0)):=(hbW.block b (Array.getElem?_eq_some_iff.1 hh).1).trans hh
 refine zJf Tryz.func153 rfl ?_
 have s:=zIw (w:=W) (fn:=Tryz.f153) (args:=#[.func (.yield l_) #[] #[]]++#[.pointer (some ⟨b,0,none⟩)]) noS [(0,UF.eq (.func (.yield l_) #[] #[]))] [⟨1,22,CU.is [l],b,true⟩] kI (fun q hq=>by obtain rfl:=List.mem_singleton.1 hq;exact ⟨by simp,rfl⟩) ⟨⟨[l],rfl, .inl rfl,hhW,rfl,by simp [hlc.2],fun y hy=>by cases hy⟩,trivial⟩ (fun x hx=>by obtain rfl:=List.mem_singleton.1 hx;show 1<2;decide)
 generalize ({ tmps:=#[.func (.yield l_) #[] #[]]++#[.pointer (some ⟨b,0,none⟩)]++Array.replicate (Tryz.f153.ntmps - (#[.func (.yield l_) #[] #[]]++#[.pointer (some ⟨b,0,none⟩)]:Array Value).size) undef,defers:= [] }:Act)=a at s ⊢
 refine wpIn_seq ?_
 refine zB 3 ((7, .s ((UF.eq l).toSF))::(8, .u (uI (((pvs m ps).length:Nat):Int)))::(9, .u (uI 0)):: []) hmix s kI
  (oc (jE (C:=(CU.is [l]).cf) kI (fun _ _ h=>h.2) zEa)<|oc (qN (z:=6) (Cs:=pvs m ps) kI (fun v W hb h=>(y5 hlW h (s.up hb))) (fun _=>rfl))<|oc zC<|zE) fun a w1 s=> ?_
 refine zA rfl ?_
 refine wpIn_block ?_
 have hJw:J 0 w1:=hJs 0 _ _ hJ0 (zBK s.below lr)
 have hBw0:Below w0.heap.size w0 w1:=hbW0.trans (s.below.mono hbW0.size)
 have hW0:=s.gr.size
 replace s:=(s.keepK [(0, .u (UF.eq (.func (.yield l_) #[] #[]))),(8, .u (uI (((pvs m ps).length:Nat):Int))),(9, .u (uI ((0:Nat):Int)))] (fmz ⟨mz2,fmz ⟨.head _,fmz ⟨mz1,fnz⟩⟩⟩)).self (zAw kI)
 refine zDT (fun k a w=>k<=ps.length/\J 0 w/\Below w0.heap.size w0 w/\W.heap.size<=w.heap.size/\StS (inB [⟨1,22,CU.is [l],b,true⟩]) w [(0, .u (UF.eq (.func (.yield l_) #[] #[]))),(8, .u (uI (((pvs m ps).length:Nat):Int))),(9, .u (uI (k:Int)))] [⟨1,22,CU.is [l],b,true⟩] Tryz.f153.ntmps [] a w) (fun k=>ps.length - k) 0 ⟨Nat.zero_le _,hJw,hBw0,hW0,s⟩ fun k a w ⟨hk,hJ,hBw,hWs,s⟩=> ?_
 have s0:=s
 replace s:=s.toSt (fun q ⟨x,hx,_,hr⟩=>by obtain rfl:=List.mem_singleton.1 hx;cases hr) rfl
 have hlw:=(SF.row 6 (pvs m ps)).st _ _ _ hl hBw
 refine wpIn_seq ?_
 refine zB 1 ((10, .u (uB (decide ((k:Int)<(((pvs m ps).length:Nat):Int))))):: []) hmix s kI
  (oc (zR .i64 (k:Int) (((pvs m ps).length:Nat):Int) (decide ((k:Int)<(((pvs m ps).length:Nat):Int))) iiz iiz rfl rfl)<|zE) fun a w2 s=> ?_
 refine zA rfl ?_
 refine wpIn_seq ?_
 refine StS.cond s (decide ((k:Int)<(((pvs m ps).length:Nat):Int))) iiz (fun e=> ?_) (fun e=> ?_)
 ·have hkn:k<ps.length:=by have:=of_decide_eq_true e;simp at this;omega
  refine wpIn_skip ?_
  refine wpIn_seq ?_
  refine wpIn_block ?_
  refine wpIn_seq ?_
  refine zB 2 ((11, .s ((uI (k:Int)).toSF))::(3, .u (uI (k:Int))):: []) hmix s kI
   (oc zC<|oc zG<|zE) fun a w3 s=> ?_
  refine zA rfl ?_
  refine wpIn_seq ?_
  refine zB 7 ((13, .s ((UF.eq l).toSF))::(14, .s ((uI (k:Int)).toSF))::(15, .s ((zB8 (fPV m (((0:Rat),(0:Rat)):V2)) (fPV m (((0:Rat),(0:Rat)):V2)) (uB false)).toSF))::(12, .s ((zB8 (fPV m (((0:Rat),(0:Rat)):V2)) (fPV m (((0:Rat),(0:Rat)):V2)) (uB false)).toSF))::(16, .u (fPV m (((0:Rat),(0:Rat)):V2)))::(17, .u (fPV m (((0:Rat),(0:Rat)):V2)))::(18, .u (uB false)):: []) hmix s kI
   (oc (jE (C:=(CU.is [l]).cf) kI (fun _ _ h=>h.2) zEa)<|oc zC<|oc (zH zD zPm (fun u0 u1 W hb (h0:u0=l) (h1:u1= .int .i64 (k:Int))=>by rw [show u0=l from h0];exact zRa ((SF.row 6 (pvs m ps)).st _ _ _ hlw (s.up hb)) h1 hkn hn h2))<|oc zC<|oc (zB0 (A:=(fPV m (((0:Rat),(0:Rat)):V2)).toSF) (B:=(fPV m (((0:Rat),(0:Rat)):V2)).toSF) (C:=(uB false).toSF) iiz)<|oc (zBZ (A:=(fPV m (((0:Rat),(0:Rat)):V2)).toSF) (B:=(fPV m (((0:Rat),(0:Rat)):V2)).toSF) (C:=(uB false).toSF) iiz)<|oc (zBY (A:=(fPV m (((0:Rat),(0:Rat)):V2)).toSF) (B:=(fPV m (((0:Rat),(0:Rat)):V2)).toSF) (C:=(uB false).toSF) iiz)<|zE) fun a w4 s=> ?_
  refine zZ (CU.len 6) (cs:=zP6) kI rfl s kI (fun W=>rfl) rfl fun b4 a w s=> ?_
  refine zZ (CU.len 6) (cs:=zP6) kI rfl s kI (fun W=>rfl) rfl fun b5 a w s=> ?_
  refine zV (CU.agg (fPV m (((0:Rat),(0:Rat)):V2))) ((fPV m (((0:Rat),(0:Rat)):V2)).toSF) rfl s kI rfl rfl rfl iiz iiz yR fun a w s=> ?_
  refine zV (CU.agg (fPV m (((0:Rat),(0:Rat)):V2))) ((fPV m (((0:Rat),(0:Rat)):V2)).toSF) rfl s kI rfl rfl rfl iiz iiz yR fun a w s=> ?_
  refine yU (uB false) rfl s kI iiz fun a w s=> ?_
  refine zA rfl ?_
  refine wpIn_seq ?_
  refine zB 10 ((19, .s ((uB false).toSF))::(20, .s ((uB false).toSF))::(28, .u (uB false)):: []) hmix s kI
   (oc zC<|oc zC<|oc (zF 20 false kI iiz (fun e=>by cases e) (fun _ _=>trivial))<|oc (zF 20 false kI iiz (fun e=>by cases e) (fun _ _=>trivial))<|oc (zF 20 false kI iiz (fun e=>by cases e) (fun _ _=>trivial))<|oc (zF 20 false kI iiz (fun e=>by cases e) (fun _ _=>trivial))<|oc (zF 20 false kI iiz (fun e=>by cases e) (fun _ _=>trivial))<|oc (zF 20 false kI iiz (fun e=>by cases e) (fun _ _=>trivial))<|oc (zF 20 false kI iiz (fun e=>by cases e) (fun _ _=>trivial))<|oc (yC false iiz (fun e=>by cases e) (fun _ _ _ h=>h))<|zE) fun a w5 s=> ?_
  refine zA rfl ?_
  refine StS.cond s false iiz (fun e=>by cases e) (fun e=> ?_)
  refine wpIn_skip ?_
  refine y6 1 ((29, .u (uI ((k+1:Nat):Int))):: []) s kI
   (oc (qF .i64 (k:Int) 1 ((k+1:Nat):Int) iiz iiz (wrap64 _ _ oP oP))<|zE) fun a w6 s=> ?_
  replace s:=s.drop [9]
  refine zBE (uI ((k+1:Nat):Int)) rfl s kI zC kI fun a w s=> ?_
  refine zA rfl ?_
  have hsz4:=s.gr.size
  exact ⟨k+1,by show ps.length - (k+1)<ps.length - k;omega,hkn,hJs _ _ _ hJ (zBK s.below hWs),hBw.trans (s.below.mono hBw.size),by omega,(((s.keepK _ (fmz ⟨mz9,fmz ⟨zTQ,fmz ⟨.head _,fnz⟩⟩⟩)).popB).popB).self (zAw kI)⟩
 ·have hkn:k=ps.length:=by have h7:=of_decide_eq_false e;simp at h7;omega
  refine wpIn_exit ?_
  exact ⟨s.nd, .tuple #[],by simp [results,Tryz.results153],⟨_,rfl⟩, .inl (by unfold nE;rw [if_neg oP];exact hJs _ _ _ hJ (zBK s.below hWs))⟩
theorem zHj {w0 w_:World} {m b:Nat} {l:Value} {ps:List V2} {C:Nat->Prop} (hh:w_.heap[b]?=some (.cells #[l] 22 (0,0))) (hl:(SF.row 6 (pvs m ps)).p l w0) (hb0:Below w0.heap.size w0 w_) (hCl: ∀k,C k->k<w_.heap.size) (hC0: ∀k,C k->w0.heap.size<=k) (hCb: ¬C b) (hn:ps.length<=1000000):ItC Tryz.prog 153 #[.pointer (some ⟨b,0,none⟩)] (eF m ps) (nE ps) False C w_:=by
 rcases Nat.lt_or_ge ps.length 2 with h2|h2
 ·exact zOg hh hl hb0 hCl hC0 hCb hn h2
 ·exact zOf hh hl hb0 hCl hC0 hCb hn h2
end Go.Proofs.Wd

namespace Go.Proofs.Wd
set_option maxRecDepth 100000
set_option maxHeartbeats 1000000
open Go.RowKit Lb
def zRn (a b p:V2):Bool:=(decide (qsg a.2 p.2<=0)&&decide (qsg p.2 b.2<0))&&(z5 a b p==1)
def zCP (a b p:V2):Bool:=if qsg a.2 b.2>0 then zRn b a p else zRn a b p
theorem zOu {a b p:V2} (h:decide (qsg a.2 b.2>0)=true):zCP a b p=zRn b a p:=if_pos (of_decide_eq_true h)
theorem zOv {a b p:V2} (h:decide (qsg a.2 b.2>0)=false):zCP a b p=zRn a b p:=if_neg (of_decide_eq_false h)
def zEb (f:Nat->Bool) (N:Nat):Int:=match (List.range N).find? f with|some k=>(k:Int)|none=> -1
def zDS (f:Nat->Bool) (k:Nat):Prop:= ∀j,j<k->f j=false
theorem zIa {f:Nat->Bool} {N:Nat} (h:zDS f N):zEb f N= -1:=by
 unfold zEb
 rw [List.find?_eq_none.2 (fun x hx=>by rw [h x (List.mem_range.1 hx)];simp)]
theorem zMg {f:Nat->Bool} {N k:Nat} (hk:k<N) (h:zDS f k) (e:f k=true):zEb f N=(k:Int):=by
 unfold zEb
 have:(List.range N).find? f=some k:=by
  rw [List.find?_range_eq_some]
  exact ⟨e,List.mem_range.2 hk,fun j hj=>by rw [h j hj];rfl⟩
 rw [this]
theorem zJ7 {f:Nat->Bool} {k:Nat} (h:zDS f k) (e:f k=false):zDS f (k+1):=fun j hj=>by
 rcases Nat.lt_or_eq_of_le (Nat.le_of_lt_succ hj) with h'|h'
 ·exact h j h'
 ·rw [h'];exact e
def zCJ (f:Nat->Bool):Nat->Nat
 |0=>0
 |k+1=>zCJ f k+(if f k=true then 1 else 0)
theorem zIe (f:Nat->Bool): ∀k,zCJ f k<=k
 |0=>Nat.le_refl _
 |k+1=>by
  have:=zIe f k
  show zCJ f k+_<=_
  split<;>omega
theorem zPw {f:Nat->Bool} {k:Nat} (h:f k=true):zCJ f (k+1)=zCJ f k+1:=by show _+(if f k=true then 1 else 0)=_;rw [if_pos h]
theorem zMD {f:Nat->Bool} {k:Nat} (h:f k=false):zCJ f (k+1)=zCJ f k:=by show _+(if f k=true then 1 else 0)=_;rw [if_neg (by simp [h])];rfl
def onK (ps:List V2) (p:V2) (k:Nat):Bool:=onB (at_ ps k) (at_ ps ((k+1) % ps.length)) p
def crK (ps:List V2) (p:V2) (k:Nat):Bool:=zCP (at_ ps k) (at_ ps ((k+1) % ps.length)) p
def onI (ps:List V2) (p:V2):Int:=zEb (onK ps p) (nE ps)
def crN (ps:List V2) (p:V2):Nat:=zCJ (crK ps p) (nE ps)
theorem zSa (ps:List V2):nE ps<=ps.length:=by unfold nE;split<;>omega
def zY (ps:List V2) (p:V2):Int:=if onI ps p≥0 then 0 else 2*((crN ps p % 2:Nat):Int) - 1
theorem zIy {z:Int} {C:CU} {Q:Prop} (hC: ∀cs W,C.p cs W->cs.length=1/\Q) (v:Value) (W:World) (h:(uI z).p v W):v.cells.size=1/\(∀u,u∈v.cells.toList->u.oneCell'=true)/\v.cells.toList.all yG=true/\ ∀cs,C.p cs W->0+1<=cs.length/\(CU.isP (.int .i64 z) Q).p (zAb cs 0 v.cells.toList) W:=by
 obtain rfl:v=_:=h
 refine ⟨rfl,fun u hu=>by simp [Value.cells] at hu;rw [hu];rfl,rfl,fun cs hc=> ?_⟩
 obtain ⟨hc',hq⟩:=hC cs W hc
 obtain ⟨c,rfl⟩:=List.length_eq_one_iff.1 hc'
 exact ⟨by simp,rfl,hq⟩
section
variable {f g f' g' f'' g'':UF}
theorem zRw (v:Value) (W:World) (h:(fPT f'' g'').p v W):v.cells.size=6/\(∀u,u∈v.cells.toList->u.oneCell'=true)/\v.cells.toList.all yG=true/\ ∀cs,(CU.agg (fPR (fPT f g) (fPT f' g'))).p cs W->0+6<=cs.length/\(CU.agg (fPR (fPT f'' g'') (fPT f' g'))).p (zAb cs 0 v.cells.toList) W:=by
 obtain ⟨vs,rfl,hl,h1,h2,h3⟩:=yR v W h
 refine ⟨by simpa [Value.cells] using hl,by simpa [Value.cells] using h1,by simpa [Value.cells] using h2,fun cs hc=> ?_⟩
 obtain ⟨a,b,rfl,l1,l2,g1,g2⟩:=zBT hc
 refine ⟨by simp [l1,l2],vs,b, ?_,h3,g2⟩
 have e:zAb (a++b) 0 (Value.agg vs.toArray).cells.toList=vs++b:=by
  unfold zAb
  have:(Value.agg vs.toArray).cells.toList=vs:=rfl
  rw [this,List.take_zero,List.nil_append,Nat.zero_add,hl,List.drop_append_of_le_length oP,List.drop_of_length_le oP,List.nil_append]
 rw [e]
theorem zRv (v:Value) (W:World) (h:(fPT f'' g'').p v W):v.cells.size=6/\(∀u,u∈v.cells.toList->u.oneCell'=true)/\v.cells.toList.all yG=true/\ ∀cs,(CU.agg (fPR (fPT f g) (fPT f' g'))).p cs W->6+6<=cs.length/\(CU.agg (fPR (fPT f g) (fPT f'' g''))).p (zAb cs 6 v.cells.toList) W:=by
 obtain ⟨vs,rfl,hl,h1,h2,h3⟩:=yR v W h
 refine ⟨by simpa [Value.cells] using hl,by simpa [Value.cells] using h1,by simpa [Value.cells] using h2,fun cs hc=> ?_⟩
 obtain ⟨a,b,rfl,l1,l2,g1,g2⟩:=zBT hc
 refine ⟨by simp [l1,l2],a,vs, ?_,g1,h3⟩
 have e:zAb (a++b) 6 (Value.agg vs.toArray).cells.toList=a++vs:=by
  unfold zAb
  have:(Value.agg vs.toArray).cells.toList=vs:=rfl
  rw [this,hl,List.take_append_of_le_length oP,List.take_of_length_le oP,List.drop_of_length_le (by simp;omega),List.append_nil]
 rw [e]
end
theorem zMH (n:Nat) (hn:n<9223372036854775808):bits .and .i64 (n:Int) 1=((n % 2:Nat):Int):=by
 have h1:(BitVec.ofInt 64 (n:Int)).toNat=n:=by
  rw [BitVec.ofInt_natCast,BitVec.toNat_ofNat];exact Nat.mod_eq_of_lt oP
 show IntKind.i64.wrap ((BitVec.ofInt 64 (n:Int)&&& BitVec.ofInt 64 (1:Int)).toNat:Int)=_
 rw [BitVec.toNat_and,h1,show (BitVec.ofInt 64 (1:Int)).toNat=1 by decide,Nat.and_one_is_mod,IntKind.wrap_i64]
 omega
section
variable {F:Fence} {m:Nat} {P:Program} {w0:World} {ops:Array Oper} {G:Nat->SF} {d:Tmp} {ty:TypeId} {pos:String} {aft:Array Edge}
theorem zQK {t:TypeId} {x y:Operand} {t':TypeId} (n:Nat) (hn:n<9223372036854775808) (hx: ∀q W,(fct G x).p q W->q= .int .i64 (n:Int)) (hy: ∀q W,(fct G y).p q W->q= .int .i64 1) (hd: ∀W,(G d).p (.int .i64 ((n % 2:Nat):Int)) W:=by exact fun _=>rfl):qK F m P w0 ops G ⟨some d, .binOp .and t x y t',ty,pos,aft,none⟩:=
 zB6 (.int .i64 (n:Int)) (.int .i64 1) (.int .i64 ((n % 2:Nat):Int)) hx hy (fun W=>by simp [eqGuard]) (fun W=>by
  have h:=zMH n hn
  simp [go_sem,h]) hd
end
theorem zRb {m:Nat} {W:World} {x y p:V2} {u v:Value} (h1:(fPR (fPV m x) (fPV m y)).p u W) (h2:(fPV m p).p v W) (hm:m<=159) (hm0:0<m) (hT:Tab W):Calls Tryz.prog 123 #[u,v] W (Ret W (fB (zCP x y p)).toSF):=by
 refine yD [(fPR (fPV m x) (fPV m y)).toSF,(fPV m p).toSF] Tryz.func123 rfl kI ⟨h1,h2,trivial⟩ fun a s=> ?_
 replace s:=s.renew [(0, .u (fPR (fPV m x) (fPV m y))),(1, .u (fPV m p))] (fmz ⟨.inr ⟨_,rfl, .head _⟩,fmz ⟨.inr ⟨_,rfl,mz1⟩,fnz⟩⟩)
 refine wpIn_seq ?_
 refine zB 0 [] hmix s kI
  zE fun a w1 s=> ?_
 refine yJ (CU.agg (fPR (fPV m x) (fPV m y))) rfl s kI (fun v W h=>zR0 h) fun b2 a w s=> ?_
 refine yJ (CU.agg (fPV m p)) rfl s kI (fun v W h=>yP h) fun b3 a w s=> ?_
 refine yU (uB false) rfl s kI iiz fun a w s=> ?_
 refine zA rfl ?_
 refine wpIn_seq ?_
 refine wpIn_seq ?_
 refine zB 8 ((5, .s (SF.ptr ((CU.agg (fPR (fPV m x) (fPV m y))).cf.at 0)))::(6, .s (SF.ptr ((CU.agg (fPR (fPV m x) (fPV m y))).cf.at 3)))::(7, .s ((fRV m ((x).2)).toSF))::(8, .s (SF.ptr ((CU.agg (fPR (fPV m x) (fPV m y))).cf.at 6)))::(9, .s (SF.ptr ((CU.agg (fPR (fPV m x) (fPV m y))).cf.at 9)))::(10, .s ((fRV m ((y).2)).toSF))::(11, .s ((uI (qsg ((x).2) ((y).2))).toSF))::(12, .u (uB (decide (qsg ((x).2) ((y).2)>0)))):: []) hmix s kI
  (oc (zN (C:=(CU.agg (fPR (fPV m x) (fPV m y))).cf) 0 kI)<|oc (yT (C:=(CU.agg (fPR (fPV m x) (fPV m y))).cf) 0 3 kI)<|oc (zX (C:=(CU.agg (fPR (fPV m x) (fPV m y))).cf) (k:=3) 3 kI (h:=zQz))<|oc (zN (C:=(CU.agg (fPR (fPV m x) (fPV m y))).cf) 6 kI)<|oc (yT (C:=(CU.agg (fPR (fPV m x) (fPV m y))).cf) 6 3 kI)<|oc (zX (C:=(CU.agg (fPR (fPV m x) (fPV m y))).cf) (k:=9) 3 kI (h:=zQy))<|oc (zH zD zEc (fun u0 u1 W hb (h0:RVp m ((x).2) u0 W) (h1:RVp m ((y).2) u1 W)=>zD4 h0 h1 oP hm0 (hT.below (s.up hb))))<|oc (zR .i64 (qsg ((x).2) ((y).2)) 0 (decide (qsg ((x).2) ((y).2)>0)) iiz iiz rfl rfl)<|zE) fun a w2 s=> ?_
 refine zA rfl ?_
 refine StS.cond s (decide (qsg ((x).2) ((y).2)>0)) iiz (fun e=> ?_) (fun e=> ?_)
 ·refine zB 5 ((13, .s (SF.ptr ((CU.agg (fPR (fPV m x) (fPV m y))).cf.at 6)))::(14, .u (fPV m y))::(15, .s (SF.ptr ((CU.agg (fPR (fPV m x) (fPV m y))).cf.at 0)))::(16, .u (fPV m x))::(17, .u (UF.eq (.pointer (some ⟨b2,0,none⟩)))):: []) hmix s kI
   (oc (zN (C:=(CU.agg (fPR (fPV m x) (fPV m y))).cf) 6 kI)<|oc (zX (C:=(CU.agg (fPR (fPV m x) (fPV m y))).cf) (k:=6) 6 kI (h:=zIX))<|oc (zN (C:=(CU.agg (fPR (fPV m x) (fPV m y))).cf) 0 kI)<|oc (zX (C:=(CU.agg (fPR (fPV m x) (fPV m y))).cf) (k:=0) 6 kI (h:=zIY))<|oc (jL (b:=b2) (o:=0) 0 kI (fun _ _ h=>h.1))<|zE) fun a w3 s=> ?_
  refine jR (c:=2) (o:=0) (kk:=6) (CU.agg (fPR (fPV m y) (fPV m y))) ((fPV m y).toSF) rfl s kI rfl rfl iiz iiz zRw fun a w s=> ?_
  refine zBE (UF.eq (.pointer (some ⟨b2,6,none⟩))) rfl s kI (jL (b:=b2) (o:=0) 6 kI (fun _ _ h=>h.1)) kI fun a w s=> ?_
  refine jR (c:=2) (o:=6) (kk:=6) (CU.agg (fPR (fPV m y) (fPV m x))) ((fPV m x).toSF) rfl s kI rfl rfl iiz iiz zRv fun a w s=> ?_
  refine zA rfl ?_
  refine wpIn_seq ?_
  replace s:=s.drop [4]
  refine zB 26 ((19, .s (SF.ptr ((CU.agg (fPR (fPV m y) (fPV m x))).cf.at 0)))::(20, .s (SF.ptr ((CU.agg (fPR (fPV m y) (fPV m x))).cf.at 3)))::(21, .s ((fRV m ((y).2)).toSF))::(22, .s (SF.ptr ((CU.agg (fPV m p)).cf.at 3)))::(23, .s ((fRV m ((p).2)).toSF))::(24, .s ((uI (qsg ((y).2) ((p).2))).toSF))::(25, .s ((uB (decide (qsg ((y).2) ((p).2)<=0))).toSF))::(26, .s ((uB (decide (qsg ((y).2) ((p).2)<=0))).toSF))::(27, .s (SF.imp ((decide (qsg ((y).2) ((p).2)<=0))=true) (SF.ptr ((CU.agg (fPV m p)).cf.at 3))))::(28, .s (SF.imp ((decide (qsg ((y).2) ((p).2)<=0))=true) ((fRV m ((p).2)).toSF)))::(29, .s (SF.imp ((decide (qsg ((y).2) ((p).2)<=0))=true) (SF.ptr ((CU.agg (fPR (fPV m y) (fPV m x))).cf.at 6))))::(30, .s (SF.imp ((decide (qsg ((y).2) ((p).2)<=0))=true) (SF.ptr ((CU.agg (fPR (fPV m y) (fPV m x))).cf.at 9))))::(31, .s (SF.imp ((decide (qsg ((y).2) ((p).2)<=0))=true) ((fRV m ((x).2)).toSF)))::(32, .s (SF.imp ((decide (qsg ((y).2) ((p).2)<=0))=true) ((uI (qsg ((p).2) ((x).2))).toSF)))::(33, .s (SF.imp ((decide (qsg ((y).2) ((p).2)<=0))=true) ((uB (decide (qsg ((p).2) ((x).2)<0))).toSF)))::(34, .s ((uB ((decide (qsg ((y).2) ((p).2)<=0))&&(decide (qsg ((p).2) ((x).2)<0)))).toSF))::(35, .s ((uB ((decide (qsg ((y).2) ((p).2)<=0))&&(decide (qsg ((p).2) ((x).2)<0)))).toSF))::(36, .s (SF.imp (((decide (qsg ((y).2) ((p).2)<=0))&&(decide (qsg ((p).2) ((x).2)<0)))=true) (SF.ptr ((CU.agg (fPR (fPV m y) (fPV m x))).cf.at 0))))::(37, .s (SF.imp (((decide (qsg ((y).2) ((p).2)<=0))&&(decide (qsg ((p).2) ((x).2)<0)))=true) ((fPV m y).toSF)))::(38, .s (SF.imp (((decide (qsg ((y).2) ((p).2)<=0))&&(decide (qsg ((p).2) ((x).2)<0)))=true) (SF.ptr ((CU.agg (fPR (fPV m y) (fPV m x))).cf.at 6))))::(39, .s (SF.imp (((decide (qsg ((y).2) ((p).2)<=0))&&(decide (qsg ((p).2) ((x).2)<0)))=true) ((fPV m x).toSF)))::(40, .s (SF.imp (((decide (qsg ((y).2) ((p).2)<=0))&&(decide (qsg ((p).2) ((x).2)<0)))=true) ((fPV m p).toSF)))::(41, .s (SF.imp (((decide (qsg ((y).2) ((p).2)<=0))&&(decide (qsg ((p).2) ((x).2)<0)))=true) ((uI (z5 y x p)).toSF)))::(42, .s (SF.imp (((decide (qsg ((y).2) ((p).2)<=0))&&(decide (qsg ((p).2) ((x).2)<0)))=true) ((uB (z5 y x p==1)).toSF)))::(43, .s ((uB (((decide (qsg ((y).2) ((p).2)<=0))&&(decide (qsg ((p).2) ((x).2)<0)))&&(z5 y x p==1))).toSF))::(4, .u (uB (((decide (qsg ((y).2) ((p).2)<=0))&&(decide (qsg ((p).2) ((x).2)<0)))&&(z5 y x p==1)))):: []) hmix s kI
   (oc (zN (C:=(CU.agg (fPR (fPV m y) (fPV m x))).cf) 0 kI)<|oc (yT (C:=(CU.agg (fPR (fPV m y) (fPV m x))).cf) 0 3 kI)<|oc (zX (C:=(CU.agg (fPR (fPV m y) (fPV m x))).cf) (k:=3) 3 kI (h:=zQz))<|oc (zN (C:=(CU.agg (fPV m p)).cf) 3 kI)<|oc (zX (C:=(CU.agg (fPV m p)).cf) (k:=3) 3 kI (h:=zDK))<|oc (zH zD zEc (fun u0 u1 W hb (h0:RVp m ((y).2) u0 W) (h1:RVp m ((p).2) u1 W)=>zD4 h0 h1 oP hm0 (hT.below (s.up hb))))<|oc (zR .i64 (qsg ((y).2) ((p).2)) 0 (decide (qsg ((y).2) ((p).2)<=0)) iiz iiz rfl rfl)<|oc zC<|oc (zF 26 (decide (qsg ((y).2) ((p).2)<=0)) kI iiz (fun e=>zU [] (SF.ptr ((CU.agg (fPV m p)).cf.at 3)) fnz (fun _ _ h _=>h) kI (zN (C:=(CU.agg (fPV m p)).cf) 3 kI)) (fun e W h=>absurd h e))<|oc (zF 26 (decide (qsg ((y).2) ((p).2)<=0)) kI iiz (fun e=>zU [(27,SF.ptr ((CU.agg (fPV m p)).cf.at 3))] ((fRV m ((p).2)).toSF) (fmz ⟨fun v W h=>zL (c:=(decide (qsg ((y).2) ((p).2)<=0))=true) (f:=SF.ptr ((CU.agg (fPV m p)).cf.at 3)) e h,fnz⟩) (fun _ _ h _=>h) kI (zX (C:=(CU.agg (fPV m p)).cf) (k:=3) 3 kI (h:=zDK))) (fun e W h=>absurd h e))<|oc (zF 26 (decide (qsg ((y).2) ((p).2)<=0)) kI iiz (fun e=>zU [] (SF.ptr ((CU.agg (fPR (fPV m y) (fPV m x))).cf.at 6)) fnz (fun _ _ h _=>h) kI (zN (C:=(CU.agg (fPR (fPV m y) (fPV m x))).cf) 6 kI)) (fun e W h=>absurd h e))<|oc (zF 26 (decide (qsg ((y).2) ((p).2)<=0)) kI iiz (fun e=>zU [(29,SF.ptr ((CU.agg (fPR (fPV m y) (fPV m x))).cf.at 6))] (SF.ptr ((CU.agg (fPR (fPV m y) (fPV m x))).cf.at 9)) (fmz ⟨fun v W h=>zL (c:=(decide (qsg ((y).2) ((p).2)<=0))=true) (f:=SF.ptr ((CU.agg (fPR (fPV m y) (fPV m x))).cf.at 6)) e h,fnz⟩) (fun _ _ h _=>h) kI (yT (C:=(CU.agg (fPR (fPV m y) (fPV m x))).cf) 6 3 kI)) (fun e W h=>absurd h e))<|oc (zF 26 (decide (qsg ((y).2) ((p).2)<=0)) kI iiz (fun e=>zU [(30,SF.ptr ((CU.agg (fPR (fPV m y) (fPV m x))).cf.at 9))] ((fRV m ((x).2)).toSF) (fmz ⟨fun v W h=>zL (c:=(decide (qsg ((y).2) ((p).2)<=0))=true) (f:=SF.ptr ((CU.agg (fPR (fPV m y) (fPV m x))).cf.at 9)) e h,fnz⟩) (fun _ _ h _=>h) kI (zX (C:=(CU.agg (fPR (fPV m y) (fPV m x))).cf) (k:=9) 3 kI (h:=zQy))) (fun e W h=>absurd h e))<|oc (zF 26 (decide (qsg ((y).2) ((p).2)<=0)) kI iiz (fun e=>zU [(28,(fRV m ((p).2)).toSF),(31,(fRV m ((x).2)).toSF)] ((uI (qsg ((p).2) ((x).2))).toSF) (fmz ⟨fun v W h=>zL (c:=(decide (qsg ((y).2) ((p).2)<=0))=true) (f:=(fRV m ((p).2)).toSF) e h,fmz ⟨fun v W h=>zL (c:=(decide (qsg ((y).2) ((p).2)<=0))=true) (f:=(fRV m ((x).2)).toSF) e h,fnz⟩⟩) (fun _ _ h _=>h) kI (zH zD zEc (fun u0 u1 W hb (h0:RVp m ((p).2) u0 W) (h1:RVp m ((x).2) u1 W)=>zD4 h0 h1 oP hm0 (hT.below (s.up hb))))) (fun e W h=>absurd h e))<|oc (zF 26 (decide (qsg ((y).2) ((p).2)<=0)) kI iiz (fun e=>zU [(32,(uI (qsg ((p).2) ((x).2))).toSF)] ((uB (decide (qsg ((p).2) ((x).2)<0))).toSF) (fmz ⟨fun v W h=>zL (c:=(decide (qsg ((y).2) ((p).2)<=0))=true) (f:=(uI (qsg ((p).2) ((x).2))).toSF) e h,fnz⟩) (fun _ _ h _=>h) kI (zR .i64 (qsg ((p).2) ((x).2)) 0 (decide (qsg ((p).2) ((x).2)<0)) iiz iiz rfl rfl)) (fun e W h=>absurd h e))<|oc (yC (decide (qsg ((y).2) ((p).2)<=0)) iiz (fun e v W h=>jT (zL e h) e) (fun e v W h=>qZ h e))<|oc zC<|oc (zF 35 ((decide (qsg ((y).2) ((p).2)<=0))&&(decide (qsg ((p).2) ((x).2)<0))) kI iiz (fun e=>zU [] (SF.ptr ((CU.agg (fPR (fPV m y) (fPV m x))).cf.at 0)) fnz (fun _ _ h _=>h) kI (zN (C:=(CU.agg (fPR (fPV m y) (fPV m x))).cf) 0 kI)) (fun e W h=>absurd h e))<|oc (zF 35 ((decide (qsg ((y).2) ((p).2)<=0))&&(decide (qsg ((p).2) ((x).2)<0))) kI iiz (fun e=>zU [(36,SF.ptr ((CU.agg (fPR (fPV m y) (fPV m x))).cf.at 0))] ((fPV m y).toSF) (fmz ⟨fun v W h=>zL (c:=((decide (qsg ((y).2) ((p).2)<=0))&&(decide (qsg ((p).2) ((x).2)<0)))=true) (f:=SF.ptr ((CU.agg (fPR (fPV m y) (fPV m x))).cf.at 0)) e h,fnz⟩) (fun _ _ h _=>h) kI (zX (C:=(CU.agg (fPR (fPV m y) (fPV m x))).cf) (k:=0) 6 kI (h:=zIY))) (fun e W h=>absurd h e))<|oc (zF 35 ((decide (qsg ((y).2) ((p).2)<=0))&&(decide (qsg ((p).2) ((x).2)<0))) kI iiz (fun e=>zU [] (SF.ptr ((CU.agg (fPR (fPV m y) (fPV m x))).cf.at 6)) fnz (fun _ _ h _=>h) kI (zN (C:=(CU.agg (fPR (fPV m y) (fPV m x))).cf) 6 kI)) (fun e W h=>absurd h e))<|oc (zF 35 ((decide (qsg ((y).2) ((p).2)<=0))&&(decide (qsg ((p).2) ((x).2)<0))) kI iiz (fun e=>zU [(38,SF.ptr ((CU.agg (fPR (fPV m y) (fPV m x))).cf.at 6))] ((fPV m x).toSF) (fmz ⟨fun v W h=>zL (c:=((decide (qsg ((y).2) ((p).2)<=0))&&(decide (qsg ((p).2) ((x).2)<0)))=true) (f:=SF.ptr ((CU.agg (fPR (fPV m y) (fPV m x))).cf.at 6)) e h,fnz⟩) (fun _ _ h _=>h) kI (zX (C:=(CU.agg (fPR (fPV m y) (fPV m x))).cf) (k:=6) 6 kI (h:=zIX))) (fun e W h=>absurd h e))<|oc (zF 35 ((decide (qsg ((y).2) ((p).2)<=0))&&(decide (qsg ((p).2) ((x).2)<0))) kI iiz (fun e=>zU [] ((fPV m p).toSF) fnz (fun _ _ h _=>h) kI (zJ (f:=fPV m p) 6 kI (hz:=zP _ _))) (fun e W h=>absurd h e))<|oc (zF 35 ((decide (qsg ((y).2) ((p).2)<=0))&&(decide (qsg ((p).2) ((x).2)<0))) kI iiz (fun e=>zU [(37,(fPV m y).toSF),(39,(fPV m x).toSF),(40,(fPV m p).toSF)] ((uI (z5 y x p)).toSF) (fmz ⟨fun v W h=>zL (c:=((decide (qsg ((y).2) ((p).2)<=0))&&(decide (qsg ((p).2) ((x).2)<0)))=true) (f:=(fPV m y).toSF) e h,fmz ⟨fun v W h=>zL (c:=((decide (qsg ((y).2) ((p).2)<=0))&&(decide (qsg ((p).2) ((x).2)<0)))=true) (f:=(fPV m x).toSF) e h,fmz ⟨fun v W h=>zL (c:=((decide (qsg ((y).2) ((p).2)<=0))&&(decide (qsg ((p).2) ((x).2)<0)))=true) (f:=(fPV m p).toSF) e h,fnz⟩⟩⟩) (fun _ _ h _=>h) kI (jU zD zQ3 (fun u0 u1 u2 W hb (h0:(fPV m y).p u0 W) (h1:(fPV m x).p u1 W) (h2:(fPV m p).p u2 W)=>zHJ h0 h1 h2 hm hm0 (hT.below (s.up hb))))) (fun e W h=>absurd h e))<|oc (zF 35 ((decide (qsg ((y).2) ((p).2)<=0))&&(decide (qsg ((p).2) ((x).2)<0))) kI iiz (fun e=>zU [(41,(uI (z5 y x p)).toSF)] ((uB (z5 y x p==1)).toSF) (fmz ⟨fun v W h=>zL (c:=((decide (qsg ((y).2) ((p).2)<=0))&&(decide (qsg ((p).2) ((x).2)<0)))=true) (f:=(uI (z5 y x p)).toSF) e h,fnz⟩) (fun _ _ h _=>h) kI (zR .i64 (z5 y x p) 1 (z5 y x p==1) iiz iiz rfl rfl)) (fun e W h=>absurd h e))<|oc (yC ((decide (qsg ((y).2) ((p).2)<=0))&&(decide (qsg ((p).2) ((x).2)<0))) iiz (fun e v W h=>jT (zL e h) e) (fun e v W h=>qZ h e))<|oc zG<|zE) fun a w4 s=> ?_
  refine zA rfl ?_
  refine wpIn_ret ?_
  exact StS.res1 s (t:=4) rfl (fun v W h=>by rw [zOu e];exact h)
 ·refine wpIn_skip ?_
  refine wpIn_seq ?_
  replace s:=s.drop [4]
  refine zB 26 ((19, .s (SF.ptr ((CU.agg (fPR (fPV m x) (fPV m y))).cf.at 0)))::(20, .s (SF.ptr ((CU.agg (fPR (fPV m x) (fPV m y))).cf.at 3)))::(21, .s ((fRV m ((x).2)).toSF))::(22, .s (SF.ptr ((CU.agg (fPV m p)).cf.at 3)))::(23, .s ((fRV m ((p).2)).toSF))::(24, .s ((uI (qsg ((x).2) ((p).2))).toSF))::(25, .s ((uB (decide (qsg ((x).2) ((p).2)<=0))).toSF))::(26, .s ((uB (decide (qsg ((x).2) ((p).2)<=0))).toSF))::(27, .s (SF.imp ((decide (qsg ((x).2) ((p).2)<=0))=true) (SF.ptr ((CU.agg (fPV m p)).cf.at 3))))::(28, .s (SF.imp ((decide (qsg ((x).2) ((p).2)<=0))=true) ((fRV m ((p).2)).toSF)))::(29, .s (SF.imp ((decide (qsg ((x).2) ((p).2)<=0))=true) (SF.ptr ((CU.agg (fPR (fPV m x) (fPV m y))).cf.at 6))))::(30, .s (SF.imp ((decide (qsg ((x).2) ((p).2)<=0))=true) (SF.ptr ((CU.agg (fPR (fPV m x) (fPV m y))).cf.at 9))))::(31, .s (SF.imp ((decide (qsg ((x).2) ((p).2)<=0))=true) ((fRV m ((y).2)).toSF)))::(32, .s (SF.imp ((decide (qsg ((x).2) ((p).2)<=0))=true) ((uI (qsg ((p).2) ((y).2))).toSF)))::(33, .s (SF.imp ((decide (qsg ((x).2) ((p).2)<=0))=true) ((uB (decide (qsg ((p).2) ((y).2)<0))).toSF)))::(34, .s ((uB ((decide (qsg ((x).2) ((p).2)<=0))&&(decide (qsg ((p).2) ((y).2)<0)))).toSF))::(35, .s ((uB ((decide (qsg ((x).2) ((p).2)<=0))&&(decide (qsg ((p).2) ((y).2)<0)))).toSF))::(36, .s (SF.imp (((decide (qsg ((x).2) ((p).2)<=0))&&(decide (qsg ((p).2) ((y).2)<0)))=true) (SF.ptr ((CU.agg (fPR (fPV m x) (fPV m y))).cf.at 0))))::(37, .s (SF.imp (((decide (qsg ((x).2) ((p).2)<=0))&&(decide (qsg ((p).2) ((y).2)<0)))=true) ((fPV m x).toSF)))::(38, .s (SF.imp (((decide (qsg ((x).2) ((p).2)<=0))&&(decide (qsg ((p).2) ((y).2)<0)))=true) (SF.ptr ((CU.agg (fPR (fPV m x) (fPV m y))).cf.at 6))))::(39, .s (SF.imp (((decide (qsg ((x).2) ((p).2)<=0))&&(decide (qsg ((p).2) ((y).2)<0)))=true) ((fPV m y).toSF)))::(40, .s (SF.imp (((decide (qsg ((x).2) ((p).2)<=0))&&(decide (qsg ((p).2) ((y).2)<0)))=true) ((fPV m p).toSF)))::(41, .s (SF.imp (((decide (qsg ((x).2) ((p).2)<=0))&&(decide (qsg ((p).2) ((y).2)<0)))=true) ((uI (z5 x y p)).toSF)))::(42, .s (SF.imp (((decide (qsg ((x).2) ((p).2)<=0))&&(decide (qsg ((p).2) ((y).2)<0)))=true) ((uB (z5 x y p==1)).toSF)))::(43, .s ((uB (((decide (qsg ((x).2) ((p).2)<=0))&&(decide (qsg ((p).2) ((y).2)<0)))&&(z5 x y p==1))).toSF))::(4, .u (uB (((decide (qsg ((x).2) ((p).2)<=0))&&(decide (qsg ((p).2) ((y).2)<0)))&&(z5 x y p==1)))):: []) hmix s kI
   (oc (zN (C:=(CU.agg (fPR (fPV m x) (fPV m y))).cf) 0 kI)<|oc (yT (C:=(CU.agg (fPR (fPV m x) (fPV m y))).cf) 0 3 kI)<|oc (zX (C:=(CU.agg (fPR (fPV m x) (fPV m y))).cf) (k:=3) 3 kI (h:=zQz))<|oc (zN (C:=(CU.agg (fPV m p)).cf) 3 kI)<|oc (zX (C:=(CU.agg (fPV m p)).cf) (k:=3) 3 kI (h:=zDK))<|oc (zH zD zEc (fun u0 u1 W hb (h0:RVp m ((x).2) u0 W) (h1:RVp m ((p).2) u1 W)=>zD4 h0 h1 oP hm0 (hT.below (s.up hb))))<|oc (zR .i64 (qsg ((x).2) ((p).2)) 0 (decide (qsg ((x).2) ((p).2)<=0)) iiz iiz rfl rfl)<|oc zC<|oc (zF 26 (decide (qsg ((x).2) ((p).2)<=0)) kI iiz (fun e=>zU [] (SF.ptr ((CU.agg (fPV m p)).cf.at 3)) fnz (fun _ _ h _=>h) kI (zN (C:=(CU.agg (fPV m p)).cf) 3 kI)) (fun e W h=>absurd h e))<|oc (zF 26 (decide (qsg ((x).2) ((p).2)<=0)) kI iiz (fun e=>zU [(27,SF.ptr ((CU.agg (fPV m p)).cf.at 3))] ((fRV m ((p).2)).toSF) (fmz ⟨fun v W h=>zL (c:=(decide (qsg ((x).2) ((p).2)<=0))=true) (f:=SF.ptr ((CU.agg (fPV m p)).cf.at 3)) e h,fnz⟩) (fun _ _ h _=>h) kI (zX (C:=(CU.agg (fPV m p)).cf) (k:=3) 3 kI (h:=zDK))) (fun e W h=>absurd h e))<|oc (zF 26 (decide (qsg ((x).2) ((p).2)<=0)) kI iiz (fun e=>zU [] (SF.ptr ((CU.agg (fPR (fPV m x) (fPV m y))).cf.at 6)) fnz (fun _ _ h _=>h) kI (zN (C:=(CU.agg (fPR (fPV m x) (fPV m y))).cf) 6 kI)) (fun e W h=>absurd h e))<|oc (zF 26 (decide (qsg ((x).2) ((p).2)<=0)) kI iiz (fun e=>zU [(29,SF.ptr ((CU.agg (fPR (fPV m x) (fPV m y))).cf.at 6))] (SF.ptr ((CU.agg (fPR (fPV m x) (fPV m y))).cf.at 9)) (fmz ⟨fun v W h=>zL (c:=(decide (qsg ((x).2) ((p).2)<=0))=true) (f:=SF.ptr ((CU.agg (fPR (fPV m x) (fPV m y))).cf.at 6)) e h,fnz⟩) (fun _ _ h _=>h) kI (yT (C:=(CU.agg (fPR (fPV m x) (fPV m y))).cf) 6 3 kI)) (fun e W h=>absurd h e))<|oc (zF 26 (decide (qsg ((x).2) ((p).2)<=0)) kI iiz (fun e=>zU [(30,SF.ptr ((CU.agg (fPR (fPV m x) (fPV m y))).cf.at 9))] ((fRV m ((y).2)).toSF) (fmz ⟨fun v W h=>zL (c:=(decide (qsg ((x).2) ((p).2)<=0))=true) (f:=SF.ptr ((CU.agg (fPR (fPV m x) (fPV m y))).cf.at 9)) e h,fnz⟩) (fun _ _ h _=>h) kI (zX (C:=(CU.agg (fPR (fPV m x) (fPV m y))).cf) (k:=9) 3 kI (h:=zQy))) (fun e W h=>absurd h e))<|oc (zF 26 (decide (qsg ((x).2) ((p).2)<=0)) kI iiz (fun e=>zU [(28,(fRV m ((p).2)).toSF),(31,(fRV m ((y).2)).toSF)] ((uI (qsg ((p).2) ((y).2))).toSF) (fmz ⟨fun v W h=>zL (c:=(decide (qsg ((x).2) ((p).2)<=0))=true) (f:=(fRV m ((p).2)).toSF) e h,fmz ⟨fun v W h=>zL (c:=(decide (qsg ((x).2) ((p).2)<=0))=true) (f:=(fRV m ((y).2)).toSF) e h,fnz⟩⟩) (fun _ _ h _=>h) kI (zH zD zEc (fun u0 u1 W hb (h0:RVp m ((p).2) u0 W) (h1:RVp m ((y).2) u1 W)=>zD4 h0 h1 oP hm0 (hT.below (s.up hb))))) (fun e W h=>absurd h e))<|oc (zF 26 (decide (qsg ((x).2) ((p).2)<=0)) kI iiz (fun e=>zU [(32,(uI (qsg ((p).2) ((y).2))).toSF)] ((uB (decide (qsg ((p).2) ((y).2)<0))).toSF) (fmz ⟨fun v W h=>zL (c:=(decide (qsg ((x).2) ((p).2)<=0))=true) (f:=(uI (qsg ((p).2) ((y).2))).toSF) e h,fnz⟩) (fun _ _ h _=>h) kI (zR .i64 (qsg ((p).2) ((y).2)) 0 (decide (qsg ((p).2) ((y).2)<0)) iiz iiz rfl rfl)) (fun e W h=>absurd h e))<|oc (yC (decide (qsg ((x).2) ((p).2)<=0)) iiz (fun e v W h=>jT (zL e h) e) (fun e v W h=>qZ h e))<|oc zC<|oc (zF 35 ((decide (qsg ((x).2) ((p).2)<=0))&&(decide (qsg ((p).2) ((y).2)<0))) kI iiz (fun e=>zU [] (SF.ptr ((CU.agg (fPR (fPV m x) (fPV m y))).cf.at 0)) fnz (fun _ _ h _=>h) kI (zN (C:=(CU.agg (fPR (fPV m x) (fPV m y))).cf) 0 kI)) (fun e W h=>absurd h e))<|oc (zF 35 ((decide (qsg ((x).2) ((p).2)<=0))&&(decide (qsg ((p).2) ((y).2)<0))) kI iiz (fun e=>zU [(36,SF.ptr ((CU.agg (fPR (fPV m x) (fPV m y))).cf.at 0))] ((fPV m x).toSF) (fmz ⟨fun v W h=>zL (c:=((decide (qsg ((x).2) ((p).2)<=0))&&(decide (qsg ((p).2) ((y).2)<0)))=true) (f:=SF.ptr ((CU.agg (fPR (fPV m x) (fPV m y))).cf.at 0)) e h,fnz⟩) (fun _ _ h _=>h) kI (zX (C:=(CU.agg (fPR (fPV m x) (fPV m y))).cf) (k:=0) 6 kI (h:=zIY))) (fun e W h=>absurd h e))<|oc (zF 35 ((decide (qsg ((x).2) ((p).2)<=0))&&(decide (qsg ((p).2) ((y).2)<0))) kI iiz (fun e=>zU [] (SF.ptr ((CU.agg (fPR (fPV m x) (fPV m y))).cf.at 6)) fnz (fun _ _ h _=>h) kI (zN (C:=(CU.agg (fPR (fPV m x) (fPV m y))).cf) 6 kI)) (fun e W h=>absurd h e))<|oc (zF 35 ((decide (qsg ((x).2) ((p).2)<=0))&&(decide (qsg ((p).2) ((y).2)<0))) kI iiz (fun e=>zU [(38,SF.ptr ((CU.agg (fPR (fPV m x) (fPV m y))).cf.at 6))] ((fPV m y).toSF) (fmz ⟨fun v W h=>zL (c:=((decide (qsg ((x).2) ((p).2)<=0))&&(decide (qsg ((p).2) ((y).2)<0)))=true) (f:=SF.ptr ((CU.agg (fPR (fPV m x) (fPV m y))).cf.at 6)) e h,fnz⟩) (fun _ _ h _=>h) kI (zX (C:=(CU.agg (fPR (fPV m x) (fPV m y))).cf) (k:=6) 6 kI (h:=zIX))) (fun e W h=>absurd h e))<|oc (zF 35 ((decide (qsg ((x).2) ((p).2)<=0))&&(decide (qsg ((p).2) ((y).2)<0))) kI iiz (fun e=>zU [] ((fPV m p).toSF) fnz (fun _ _ h _=>h) kI (zJ (f:=fPV m p) 6 kI (hz:=zP _ _))) (fun e W h=>absurd h e))<|oc (zF 35 ((decide (qsg ((x).2) ((p).2)<=0))&&(decide (qsg ((p).2) ((y).2)<0))) kI iiz (fun e=>zU [(37,(fPV m x).toSF),(39,(fPV m y).toSF),(40,(fPV m p).toSF)] ((uI (z5 x y p)).toSF) (fmz ⟨fun v W h=>zL (c:=((decide (qsg ((x).2) ((p).2)<=0))&&(decide (qsg ((p).2) ((y).2)<0)))=true) (f:=(fPV m x).toSF) e h,fmz ⟨fun v W h=>zL (c:=((decide (qsg ((x).2) ((p).2)<=0))&&(decide (qsg ((p).2) ((y).2)<0)))=true) (f:=(fPV m y).toSF) e h,fmz ⟨fun v W h=>zL (c:=((decide (qsg ((x).2) ((p).2)<=0))&&(decide (qsg ((p).2) ((y).2)<0)))=true) (f:=(fPV m p).toSF) e h,fnz⟩⟩⟩) (fun _ _ h _=>h) kI (jU zD zQ3 (fun u0 u1 u2 W hb (h0:(fPV m x).p u0 W) (h1:(fPV m y).p u1 W) (h2:(fPV m p).p u2 W)=>zHJ h0 h1 h2 hm hm0 (hT.below (s.up hb))))) (fun e W h=>absurd h e))<|oc (zF 35 ((decide (qsg ((x).2) ((p).2)<=0))&&(decide (qsg ((p).2) ((y).2)<0))) kI iiz (fun e=>zU [(41,(uI (z5 x y p)).toSF)] ((uB (z5 x y p==1)).toSF) (fmz ⟨fun v W h=>zL (c:=((decide (qsg ((x).2) ((p).2)<=0))&&(decide (qsg ((p).2) ((y).2)<0)))=true) (f:=(uI (z5 x y p)).toSF) e h,fnz⟩) (fun _ _ h _=>h) kI (zR .i64 (z5 x y p) 1 (z5 x y p==1) iiz iiz rfl rfl)) (fun e W h=>absurd h e))<|oc (yC ((decide (qsg ((x).2) ((p).2)<=0))&&(decide (qsg ((p).2) ((y).2)<0))) iiz (fun e v W h=>jT (zL e h) e) (fun e v W h=>qZ h e))<|oc zG<|zE) fun a w5 s=> ?_
  refine zA rfl ?_
  refine wpIn_ret ?_
  exact StS.res1 s (t:=4) rfl (fun v W h=>by rw [zOv e];exact h)
theorem zSl {m:Nat} {W:World} {u l:Value} {p:V2} {ps:List V2} (h1:(fPV m p).p u W) (hl:(SF.row 6 (pvs m ps)).p l W) (hm:m<=159) (hm0:0<m) (hn:ps.length<=1000000) (hT:Tab W):Calls Tryz.prog 78 #[u,l] W (Ret W (fI (onI ps p)).toSF):=by
 refine zKN [(fPV m p).toSF,(UF.eq l).toSF] Tryz.func78 rfl kI ⟨h1,rfl,trivial⟩ fun a s=> ?_
 replace s:=s.renew [(0, .u (fPV m p)),(1, .u (UF.eq l))] (fmz ⟨.inr ⟨_,rfl, .head _⟩,fmz ⟨.inr ⟨_,rfl,mz1⟩,fnz⟩⟩)
 refine wpIn_seq ?_
 refine zB 0 [] hmix s kI
  zE fun a w1 s=> ?_
 refine yJ (CU.agg (fPV m p)) rfl s kI (fun v W h=>yP h) fun b2 a w s=> ?_
 refine yU (uI 0) rfl s kI iiz fun a w s=> ?_
 refine zA rfl ?_
 refine (wpIn_wide (n:=0)).2 (wp_scope_straight ((wpIn_wide (n:=0)).1 ?_))
 refine wpIn_seq ?_
 refine zB 0 [] hmix s kI
  zE fun a w2 s=> ?_
 refine zZ (CU.len 1) (cs:= [.int .i64 0]) kI rfl s kI (fun W=>rfl) rfl fun b5 a w s=> ?_
 refine jR (c:=5) (o:=0) (kk:=1) (CU.isP (.int .i64 (-1)) True) ((uI (-1)).toSF) rfl s kI rfl rfl (fun _ _ h=>h.1) iiz (zIy fun cs W h=>⟨h,trivial⟩) fun a w s=> ?_
 refine zA rfl ?_
 refine wpIn_seq ?_
 refine wpIn_label ?_
 refine wpIn_seq ?_
 refine wpIn_seq ?_
 have soc:=s.old
 have o5:b5<_:=soc _ (.head _)
 have o2:b2<_:=soc _ mz1
 refine jJ 2 ((8, .s ((UF.eq l).toSF))::(9, .s (zMk w 153 22 (CU.is [l]))):: []) hmix s kI
  (oc zC<|oc (zI zD zPp (fun u0 W hb (h0:u0=l)=>by rw [show u0=l from h0];exact (zJh (zBI hl)).mono (Ret.to (zHl hb.size))))<|zE) fun a w3 s hr=> ?_
 refine zA rfl ?_
 refine wpIn_block ?_
 obtain ⟨bc,csc,ec,hbc,hhc,hcc,hnc⟩:=hr (_,_) mz1
 obtain rfl:csc= [l]:=hcc
 replace s:=(s.keepK [(1, .u (UF.eq l))] (fmz ⟨mz2,fnz⟩)).learn 9 _ ec
 replace s:StS noS W _ [⟨5,3,CU.isP (.int .i64 (-1)) (zDS (onK ps p) 0),b5,false⟩,⟨2,30,CU.agg (fPV m p),b2,false⟩] Tryz.f78.ntmps _ a w3:=s.weakB 5 (CU.isP (.int .i64 (-1)) (zDS (onK ps p) 0)) rfl (zAE kI) (fun cs W h=>⟨h.1,fun j hj=>absurd hj (Nat.not_lt_zero _)⟩)
 have hCn: ∀q,inB ([⟨5,3,CU.isP (.int .i64 (-1)) (zDS (onK ps p) 0),b5,false⟩,⟨2,30,CU.agg (fPV m p),b2,false⟩]) q->W.heap.size<=q:=fun q hq=>s.inB_new hq
 have hCl: ∀q,inB ([⟨5,3,CU.isP (.int .i64 (-1)) (zDS (onK ps p) 0),b5,false⟩,⟨2,30,CU.agg (fPV m p),b2,false⟩]) q->q<w3.heap.size:=fun q ⟨z9,hz9,e9,_⟩=>e9▸s.old z9 hz9
 refine zIu (N:=nE ps) (endless:=False) (fun k=> [⟨5,3,CU.isP (.int .i64 (-1)) (zDS (onK ps p) k),b5,false⟩,⟨2,30,CU.agg (fPV m p),b2,false⟩]) ([⟨5,3,CU.isP (.int .i64 (onI ps p)) True,b5,false⟩,⟨2,30,CU.agg (fPV m p),b2,false⟩]) (.exit 0) (fun k=> [(10, .u (uI (k:Int))),(11, .u (fPR (fPV m (at_ ps k)) (fPV m (at_ ps ((k+1) % ps.length)))))]) s iiz (enters_of Tryz.func153 kI rfl) (zHj (w0:=W) hhc hl s.below hCl hCn (fun ⟨z9,hz9,e9,_⟩=>by simp only [List.mem_cons,List.not_mem_nil,or_false] at hz9;rcases hz9 with rfl|rfl<;>(simp only at e9;omega)) hn) (fun k=>rfl) ?_ rfl rfl rfl (fun k=>rfl) rfl (fun h=>h.elim) (fun l_ k xs WR hk so s=> ?_) (fun _ D WD s=> ?_) (fun D WD s=> ?_)
 ·intro k q hq
  rcases List.mem_cons.1 hq with rfl|hq
  ·exact .inr ⟨0,_,rfl,rfl,rfl⟩
  obtain rfl:=List.mem_singleton.1 hq
  exact .inr ⟨1,_,rfl,rfl,rfl⟩
 ·have hLR:Lo W WR:=zJb so.below
  have hWR:=so.gr.size
  have hSq: ∀q,(inB ([⟨5,3,CU.isP (.int .i64 (-1)) (zDS (onK ps p) 0),b5,false⟩,⟨2,30,CU.agg (fPV m p),b2,false⟩]) q∨WR.heap.size<=q)->W.heap.size<=q:=fun q hq=>by rcases hq with hq|hq;exact hCn q hq;omega
  generalize ({ tmps:=_,defers:= [] }:Act)=a at s ⊢
  refine wpIn_seq ?_
  refine zB 1 ((6, .u (uI (k:Int))):: []) hmix s kI
   (oc zG<|zE) fun a w4 s=> ?_
  refine zA rfl ?_
  refine zB 0 [] hmix s kI
   zE fun a w5 s=> ?_
  refine zZ (CU.len 12) (cs:= [.bool false, .slice none 0 0, .slice none 0 0, .bool false, .slice none 0 0, .slice none 0 0, .bool false, .slice none 0 0, .slice none 0 0, .bool false, .slice none 0 0, .slice none 0 0]) kI rfl s kI (fun W=>rfl) rfl fun b7 a w s=> ?_
  refine zV (CU.agg (fPR (fPV m (at_ ps k)) (fPV m (at_ ps ((k+1) % ps.length))))) ((fPR (fPV m (at_ ps k)) (fPV m (at_ ps ((k+1) % ps.length)))).toSF) rfl s kI rfl rfl rfl iiz iiz zIW fun a w s=> ?_
  refine zA rfl ?_
  refine ⟨s.gr,fun W2 hcell hW2=> ?_⟩
  have hL2:Lo W W2:=(zJa hLR s.gr hWR hSq).trans fun p _=>hcell p
  obtain ⟨_,_,h9c,_⟩:=s.bx.mem _ (.head _)
  have hb9:W.heap.size<=b7:=by rcases h9c with h|h|h;cases h;exact Nat.le_trans hWR h;exact hSq _ h
  replace s:=hW2 _ _ s
  have h9l:b7<W2.heap.size:=s.old _ (.head _)
  have hW2s:W.heap.size<=W2.heap.size:=by omega
  have hlo: ∀{w w':World},BlS (fun q=>inB ([⟨5,3,CU.isP (.int .i64 (-1)) (zDS (onK ps p) 0),b5,false⟩,⟨2,30,CU.agg (fPV m p),b2,false⟩]) q∨WR.heap.size<=q) W2 w->Below w.heap.size w w'->Lo W w':=fun h1 h2=>(zJa hL2 h1 hW2s hSq).trans fun p hp=>h2.cell (Nat.lt_of_lt_of_le hp (Nat.le_trans hW2s h1.size))
  refine wpIn_block ?_
  refine wpIn_seq ?_
  refine zB 6 ((12, .s (SF.ptr ((CU.agg (fPR (fPV m (at_ ps k)) (fPV m (at_ ps ((k+1) % ps.length))))).cf.at 0)))::(13, .s ((fPV m (at_ ps k)).toSF))::(14, .s (SF.ptr ((CU.agg (fPR (fPV m (at_ ps k)) (fPV m (at_ ps ((k+1) % ps.length))))).cf.at 6)))::(15, .s ((fPV m (at_ ps ((k+1) % ps.length))).toSF))::(16, .s ((fPV m p).toSF))::(17, .u (uB (onK ps p k))):: []) hmix s kI
   (oc (zN (C:=(CU.agg (fPR (fPV m (at_ ps k)) (fPV m (at_ ps ((k+1) % ps.length))))).cf) 0 kI)<|oc (zX (C:=(CU.agg (fPR (fPV m (at_ ps k)) (fPV m (at_ ps ((k+1) % ps.length))))).cf) (k:=0) 6 kI (h:=zIY))<|oc (zN (C:=(CU.agg (fPR (fPV m (at_ ps k)) (fPV m (at_ ps ((k+1) % ps.length))))).cf) 6 kI)<|oc (zX (C:=(CU.agg (fPR (fPV m (at_ ps k)) (fPV m (at_ ps ((k+1) % ps.length))))).cf) (k:=6) 6 kI (h:=zIX))<|oc (zJ (f:=fPV m p) 6 kI (hz:=zP _ _))<|oc (jU zD zSY (fun u0 u1 u2 W hb (h0:(fPV m (at_ ps k)).p u0 W) (h1:(fPV m (at_ ps ((k+1) % ps.length))).p u1 W) (h2:(fPV m p).p u2 W)=>zTB h0 h1 h2 hm hm0 (zON hT (hlo s.gr hb))))<|zE) fun a w6 s=> ?_
  refine zA rfl ?_
  refine StS.cond s (onK ps p k) iiz (fun e=> ?_) (fun e=> ?_)
  ·refine wpIn_seq ?_
   refine zB 1 ((18, .u (uI (k:Int))):: []) hmix s kI
    (oc zC<|zE) fun a w7 s=> ?_
   refine jR (c:=5) (o:=0) (kk:=1) (CU.isP (.int .i64 (k:Int)) (onI ps p=(k:Int))) ((uI (k:Int)).toSF) rfl s kI rfl rfl (fun _ _ h=>h.1) iiz (zIy fun cs W h=>⟨by rw [h.1];rfl,zMg hk h.2 e⟩) fun a w s=> ?_
   refine zA rfl ?_
   refine wpIn_exit ?_
   replace s:=s.popB
   exact ⟨rfl,(s.keepK [] fnz).weakB 5 (CU.isP (.int .i64 (onI ps p)) True) rfl (zAE kI) (fun cs W h=>⟨by rw [h.1,h.2],trivial⟩)⟩
  ·refine wpIn_skip ?_
   replace s:=s.popB
   exact ⟨(s.keepK [] fnz).weakB 5 (CU.isP (.int .i64 (-1)) (zDS (onK ps p) (k+1))) rfl (zAE kI) (fun cs W h=>⟨h.1,zJ7 h.2 e⟩),fun h=>h.elim⟩
 ·have hans:onI ps p= -1:=by obtain ⟨_,_,h9,_⟩:=s.boxAt (c:=5) rfl;exact zIa h9.2
  generalize ({ a with defers:=mark D::a.defers }:Act)=a at s ⊢
  refine wpIn_seq ?_
  refine zB 2 ((19, .s ((uI (-1)).toSF))::(4, .u (uI (-1))):: []) hmix s kI
   (oc (jE (C:=(CU.isP (.int .i64 (-1)) (zDS (onK ps p) (nE ps))).cf) kI (fun _ _ h=>h.2) zGd)<|oc zG<|zE) fun a w8 s=> ?_
  refine zA rfl ?_
  refine wpIn_ret ?_
  exact s.resM1 (fI (onI ps p)) (t:=4) rfl (fun v W h=>by rw [hans];exact h)
 ·generalize ({ a with defers:=mark D::a.defers }:Act)=a at s ⊢
  refine wpIn_exit ?_
  refine wpIn_seq ?_
  refine zB 2 ((19, .s ((uI (onI ps p)).toSF))::(4, .u (uI (onI ps p))):: []) hmix s kI
   (oc (jE (C:=(CU.isP (.int .i64 (onI ps p)) True).cf) kI (fun _ _ h=>h.2) zGd)<|oc zG<|zE) fun a w9 s=> ?_
  refine zA rfl ?_
  refine wpIn_ret ?_
  exact s.resM1 (fI (onI ps p)) (t:=4) rfl (fun v W h=>h)
theorem zFx {m:Nat} {W:World} {u l:Value} {p:V2} {ps:List V2} (h1:(fPV m p).p u W) (hl:(SF.row 6 (pvs m ps)).p l W) (hm:m<=159) (hm0:0<m) (hn:ps.length<=1000000) (hT:Tab W):Calls Tryz.prog 80 #[u,l] W (Ret W (fI ((crN ps p:Nat):Int)).toSF):=by
 refine zKN [(fPV m p).toSF,(UF.eq l).toSF] Tryz.func80 rfl kI ⟨h1,rfl,trivial⟩ fun a s=> ?_
 replace s:=s.renew [(0, .u (fPV m p)),(1, .u (UF.eq l))] (fmz ⟨.inr ⟨_,rfl, .head _⟩,fmz ⟨.inr ⟨_,rfl,mz1⟩,fnz⟩⟩)
 refine wpIn_seq ?_
 refine zB 0 [] hmix s kI
  zE fun a w1 s=> ?_
 refine yJ (CU.agg (fPV m p)) rfl s kI (fun v W h=>yP h) fun b2 a w s=> ?_
 refine zZ (CU.isP (.int .i64 0) True) (cs:= [.int .i64 0]) kI rfl s kI (fun W=>⟨rfl,trivial⟩) rfl fun b4 a w s=> ?_
 refine zA rfl ?_
 refine wpIn_seq ?_
 refine wpIn_seq ?_
 have soc:=s.old
 have o4:b4<_:=soc _ (.head _)
 have o2:b2<_:=soc _ mz1
 refine jJ 2 ((7, .s ((UF.eq l).toSF))::(8, .s (zMk w 153 22 (CU.is [l]))):: []) hmix s kI
  (oc zC<|oc (zI zD zPp (fun u0 W hb (h0:u0=l)=>by rw [show u0=l from h0];exact (zJh (zBI hl)).mono (Ret.to (zHl hb.size))))<|zE) fun a w2 s hr=> ?_
 refine zA rfl ?_
 refine wpIn_block ?_
 obtain ⟨bc,csc,ec,hbc,hhc,hcc,hnc⟩:=hr (_,_) mz1
 obtain rfl:csc= [l]:=hcc
 replace s:=(s.keepK [(1, .u (UF.eq l))] (fmz ⟨mz1,fnz⟩)).learn 8 _ ec
 replace s:StS noS W _ [⟨4,3,CU.isP (.int .i64 ((zCJ (crK ps p) 0:Nat):Int)) True,b4,false⟩,⟨2,30,CU.agg (fPV m p),b2,false⟩] Tryz.f80.ntmps _ a w2:=s.weakB 4 (CU.isP (.int .i64 ((zCJ (crK ps p) 0:Nat):Int)) True) rfl (zAE kI) (fun cs W h=>h)
 have hCn: ∀q,inB ([⟨4,3,CU.isP (.int .i64 ((zCJ (crK ps p) 0:Nat):Int)) True,b4,false⟩,⟨2,30,CU.agg (fPV m p),b2,false⟩]) q->W.heap.size<=q:=fun q hq=>s.inB_new hq
 have hCl: ∀q,inB ([⟨4,3,CU.isP (.int .i64 ((zCJ (crK ps p) 0:Nat):Int)) True,b4,false⟩,⟨2,30,CU.agg (fPV m p),b2,false⟩]) q->q<w2.heap.size:=fun q ⟨z9,hz9,e9,_⟩=>e9▸s.old z9 hz9
 refine zIu (N:=nE ps) (endless:=False) (fun k=> [⟨4,3,CU.isP (.int .i64 ((zCJ (crK ps p) k:Nat):Int)) True,b4,false⟩,⟨2,30,CU.agg (fPV m p),b2,false⟩]) ([⟨4,3,CU.isP (.int .i64 0) False,b4,false⟩,⟨2,30,CU.agg (fPV m p),b2,false⟩]) (.exit 0) (fun k=> [(10, .u (fPR (fPV m (at_ ps k)) (fPV m (at_ ps ((k+1) % ps.length)))))]) s iiz (enters_of Tryz.func153 kI rfl) (zHj (w0:=W) hhc hl s.below hCl hCn (fun ⟨z9,hz9,e9,_⟩=>by simp only [List.mem_cons,List.not_mem_nil,or_false] at hz9;rcases hz9 with rfl|rfl<;>(simp only at e9;omega)) hn) (fun k=>rfl) ?_ rfl rfl rfl (fun k=>rfl) rfl (fun h=>h.elim) (fun l_ k xs WR hk so s=> ?_) (fun _ D WD s=> ?_) (fun D WD s=> ?_)
 ·intro k q hq
  obtain rfl:=List.mem_singleton.1 hq
  exact .inr ⟨1,_,rfl,rfl,rfl⟩
 ·have hLR:Lo W WR:=zJb so.below
  have hWR:=so.gr.size
  have hSq: ∀q,(inB ([⟨4,3,CU.isP (.int .i64 ((zCJ (crK ps p) 0:Nat):Int)) True,b4,false⟩,⟨2,30,CU.agg (fPV m p),b2,false⟩]) q∨WR.heap.size<=q)->W.heap.size<=q:=fun q hq=>by rcases hq with hq|hq;exact hCn q hq;omega
  generalize ({ tmps:=_,defers:= [] }:Act)=a at s ⊢
  refine zB 0 [] hmix s kI
   zE fun a w3 s=> ?_
  refine zZ (CU.len 12) (cs:= [.bool false, .slice none 0 0, .slice none 0 0, .bool false, .slice none 0 0, .slice none 0 0, .bool false, .slice none 0 0, .slice none 0 0, .bool false, .slice none 0 0, .slice none 0 0]) kI rfl s kI (fun W=>rfl) rfl fun b6 a w s=> ?_
  refine zV (CU.agg (fPR (fPV m (at_ ps k)) (fPV m (at_ ps ((k+1) % ps.length))))) ((fPR (fPV m (at_ ps k)) (fPV m (at_ ps ((k+1) % ps.length)))).toSF) rfl s kI rfl rfl rfl iiz iiz zIW fun a w s=> ?_
  refine zA rfl ?_
  refine ⟨s.gr,fun W2 hcell hW2=> ?_⟩
  have hL2:Lo W W2:=(zJa hLR s.gr hWR hSq).trans fun p _=>hcell p
  obtain ⟨_,_,h9c,_⟩:=s.bx.mem _ (.head _)
  have hb9:W.heap.size<=b6:=by rcases h9c with h|h|h;cases h;exact Nat.le_trans hWR h;exact hSq _ h
  replace s:=hW2 _ _ s
  have h9l:b6<W2.heap.size:=s.old _ (.head _)
  have hW2s:W.heap.size<=W2.heap.size:=by omega
  have hlo: ∀{w w':World},BlS (fun q=>inB ([⟨4,3,CU.isP (.int .i64 ((zCJ (crK ps p) 0:Nat):Int)) True,b4,false⟩,⟨2,30,CU.agg (fPV m p),b2,false⟩]) q∨WR.heap.size<=q) W2 w->Below w.heap.size w w'->Lo W w':=fun h1 h2=>(zJa hL2 h1 hW2s hSq).trans fun p hp=>h2.cell (Nat.lt_of_lt_of_le hp (Nat.le_trans hW2s h1.size))
  refine wpIn_block ?_
  refine wpIn_seq ?_
  refine zB 3 ((11, .s ((fPR (fPV m (at_ ps k)) (fPV m (at_ ps ((k+1) % ps.length)))).toSF))::(12, .s ((fPV m p).toSF))::(13, .u (uB (crK ps p k))):: []) hmix s kI
   (oc (zJ (f:=fPR (fPV m (at_ ps k)) (fPV m (at_ ps ((k+1) % ps.length)))) 12 kI (hz:=zRZ))<|oc (zJ (f:=fPV m p) 6 kI (hz:=zP _ _))<|oc (zH zD zSX (fun u0 u1 W hb (h0:(fPR (fPV m (at_ ps k)) (fPV m (at_ ps ((k+1) % ps.length)))).p u0 W) (h1:(fPV m p).p u1 W)=>zRb h0 h1 hm hm0 (zON hT (hlo s.gr hb))))<|zE) fun a w4 s=> ?_
  refine zA rfl ?_
  refine StS.cond s (crK ps p k) iiz (fun e=> ?_) (fun e=> ?_)
  ·refine zB 2 ((14, .s ((uI ((zCJ (crK ps p) k:Nat):Int)).toSF))::(15, .u (uI ((zCJ (crK ps p) (k+1):Nat):Int))):: []) hmix s kI
    (oc (jE (C:=(CU.isP (.int .i64 ((zCJ (crK ps p) k:Nat):Int)) True).cf) kI (fun _ _ h=>h.2) zGd)<|oc (qF .i64 ((zCJ (crK ps p) k:Nat):Int) 1 ((zCJ (crK ps p) (k+1):Nat):Int) iiz iiz (by rw [zPw e];exact wrap64 _ _ oP (by have:=zIe (crK ps p) k;have:=zSa ps;omega)))<|zE) fun a w5 s=> ?_
   refine jR (c:=4) (o:=0) (kk:=1) (CU.isP (.int .i64 ((zCJ (crK ps p) (k+1):Nat):Int)) True) ((uI ((zCJ (crK ps p) (k+1):Nat):Int)).toSF) rfl s kI rfl rfl (fun _ _ h=>h.1) iiz (zIy fun cs W h=>⟨by rw [h.1];rfl,trivial⟩) fun a w s=> ?_
   refine zA rfl ?_
   replace s:=s.popB
   exact ⟨(s.keepK [] fnz).weakB 4 (CU.isP (.int .i64 ((zCJ (crK ps p) (k+1):Nat):Int)) True) rfl (zAE kI) (fun cs W h=>h),fun h=>h.elim⟩
  ·refine wpIn_skip ?_
   replace s:=s.popB
   exact ⟨(s.keepK [] fnz).weakB 4 (CU.isP (.int .i64 ((zCJ (crK ps p) (k+1):Nat):Int)) True) rfl (zAE kI) (fun cs W h=>by rw [zMD e];exact h),fun h=>h.elim⟩
 ·generalize ({ a with defers:=mark D::a.defers }:Act)=a at s ⊢
  refine wpIn_seq ?_
  refine zB 1 ((16, .u (uI ((zCJ (crK ps p) (nE ps):Nat):Int))):: []) hmix s kI
   (oc (jE (C:=(CU.isP (.int .i64 ((zCJ (crK ps p) (nE ps):Nat):Int)) True).cf) kI (fun _ _ h=>h.2) zGd)<|zE) fun a w6 s=> ?_
  refine jR (c:=4) (o:=0) (kk:=1) (CU.isP (.int .i64 ((crN ps p:Nat):Int)) True) ((uI ((crN ps p:Nat):Int)).toSF) rfl s kI rfl rfl (fun _ _ h=>h.1) iiz (zIy fun cs W h=>⟨by rw [h.1];rfl,trivial⟩) fun a w s=> ?_
  refine zA rfl ?_
  refine wpIn_ret ?_
  exact s.resMP (.int .i64 ((crN ps p:Nat):Int)) rfl kI rfl rfl (fun cs W h=>h.1)
 ·obtain ⟨_,_,h9,_⟩:=s.boxAt (c:=4) rfl
  exact h9.2.elim
end Go.Proofs.Wd

namespace Go.Proofs.Wd
set_option maxRecDepth 100000
set_option maxHeartbeats 1000000
open Go.RowKit Lb
theorem zKs {ps:List V2} {p:V2} (h:decide (onI ps p≥0)=true):zY ps p=0:=if_pos (of_decide_eq_true h)
theorem zJL {ps:List V2} {p:V2} (h:decide (onI ps p≥0)=false):zY ps p=2*((crN ps p % 2:Nat):Int) - 1:=if_neg (of_decide_eq_false h)
theorem zP3 (z:Nat) (W:World):(SF.row z []).p (.slice none 0 0) W:=⟨none,0,rfl,Nat.le_refl _,by decide,fun _=>rfl,fun i C hi=>by simp at hi⟩
theorem zCE {m:Nat} {W:World} {u l:Value} {p:V2} {ps:List V2} (h1:(fPV m p).p u W) (hl:(SF.row 6 (pvs m ps)).p l W) (hm:m<=159) (hm0:0<m) (hn:ps.length<=1000000) (hT:Tab W):Calls Tryz.prog 34 #[u,l] W (Ret W (fI (zY ps p)).toSF):=by
 refine yD [(fPV m p).toSF,(UF.eq l).toSF] Tryz.func34 rfl kI ⟨h1,rfl,trivial⟩ fun a s=> ?_
 replace s:=s.renew [(0, .u (fPV m p)),(1, .u (UF.eq l))] (fmz ⟨.inr ⟨_,rfl, .head _⟩,fmz ⟨.inr ⟨_,rfl,mz1⟩,fnz⟩⟩)
 refine wpIn_seq ?_
 refine zB 0 [] hmix s kI
  zE fun a w1 s=> ?_
 refine yJ (CU.agg (fPV m p)) rfl s kI (fun v W h=>yP h) fun b2 a w s=> ?_
 refine yU (uI 0) rfl s kI iiz fun a w s=> ?_
 refine zA rfl ?_
 refine wpIn_seq ?_
 refine wpIn_seq ?_
 refine zB 4 ((5, .s ((fPV m p).toSF))::(6, .s ((UF.eq l).toSF))::(7, .s ((uI (onI ps p)).toSF))::(8, .u (uB (decide (onI ps p≥0)))):: []) hmix s kI
  (oc (zJ (f:=fPV m p) 6 kI (hz:=zP _ _))<|oc zC<|oc (zH zD zSt (fun u0 u1 W hb (h0:(fPV m p).p u0 W) (h1:u1=l)=>by rw [show u1=l from h1];exact zSl h0 ((SF.row 6 (pvs m ps)).st _ _ _ hl (s.up hb)) hm hm0 hn (hT.below (s.up hb))))<|oc (zR .i64 (onI ps p) 0 (decide (onI ps p≥0)) iiz iiz rfl rfl)<|zE) fun a w2 s=> ?_
 refine zA rfl ?_
 refine StS.cond s (decide (onI ps p≥0)) iiz (fun e=> ?_) (fun e=> ?_)
 ·refine wpIn_seq ?_
  replace s:=s.drop [4]
  refine zB 1 ((4, .u (uI 0)):: []) hmix s kI
   (oc zG<|zE) fun a w3 s=> ?_
  refine zA rfl ?_
  refine wpIn_ret ?_
  exact StS.res1 s (t:=4) rfl (fun v W h=>by rw [zKs e];exact h)
 ·refine wpIn_skip ?_
  refine wpIn_seq ?_
  replace s:=s.drop [4]
  refine zB 7 ((9, .s ((fPV m p).toSF))::(10, .s ((UF.eq l).toSF))::(11, .s ((uI ((crN ps p:Nat):Int)).toSF))::(12, .s ((uI ((crN ps p % 2:Nat):Int)).toSF))::(13, .s ((uI (2*((crN ps p % 2:Nat):Int))).toSF))::(14, .s ((uI (2*((crN ps p % 2:Nat):Int) - 1)).toSF))::(4, .u (uI (2*((crN ps p % 2:Nat):Int) - 1))):: []) hmix s kI
   (oc (zJ (f:=fPV m p) 6 kI (hz:=zP _ _))<|oc zC<|oc (zH zD zSr (fun u0 u1 W hb (h0:(fPV m p).p u0 W) (h1:u1=l)=>by rw [show u1=l from h1];exact zFx h0 ((SF.row 6 (pvs m ps)).st _ _ _ hl (s.up hb)) hm hm0 hn (hT.below (s.up hb))))<|oc (zQK (crN ps p) (by have:=zIe (crK ps p) (nE ps);have:=zSa ps;unfold crN;omega) iiz iiz)<|oc (zLC .i64 2 ((crN ps p % 2:Nat):Int) (2*((crN ps p % 2:Nat):Int)) iiz iiz (by rw [IntKind.wrap_i64];omega))<|oc (zEY .i64 (2*((crN ps p % 2:Nat):Int)) 1 (2*((crN ps p % 2:Nat):Int) - 1) iiz iiz (by rw [IntKind.wrap_i64];omega))<|oc zG<|zE) fun a w4 s=> ?_
  refine zA rfl ?_
  refine wpIn_ret ?_
  exact StS.res1 s (t:=4) rfl (fun v W h=>by rw [zJL e];exact h)
theorem zL8 {m:Nat} {W:World} {u v l:Value} {p:V2} {ps:List V2} (h1:(fPV m p).p u W) (h2:(SF.ptr (CU.is [l]).cf).p v W) (hl:(SF.row 6 (pvs m ps)).p l W) (hm:m<=159) (hm0:0<m) (hn:ps.length<=1000000) (hT:Tab W):Calls Tryz.prog 83 #[u,v] W (Ret W (fB (decide (zY ps p<0))).toSF):=by
 refine yD [(fPV m p).toSF,SF.ptr (CU.is [l]).cf] Tryz.func83 rfl kI ⟨h1,h2,trivial⟩ fun a s=> ?_
 refine wpIn_seq ?_
 refine zB 0 [] hmix s kI
  zE fun a w1 s=> ?_
 refine yJ (CU.agg (fPV m p)) rfl s kI (fun v W h=>yP h) fun b2 a w s=> ?_
 refine yU (uB false) rfl s kI iiz fun a w s=> ?_
 refine zA rfl ?_
 refine wpIn_seq ?_
 replace s:=s.drop [3]
 refine zB 5 ((4, .s ((fPV m p).toSF))::(5, .s ((UF.eq l).toSF))::(6, .s ((uI (zY ps p)).toSF))::(7, .s ((uB (decide (zY ps p<0))).toSF))::(3, .u (uB (decide (zY ps p<0)))):: []) hmix s kI
  (oc (zJ (f:=fPV m p) 6 kI (hz:=zP _ _))<|oc (jE (C:=(CU.is [l]).cf) kI iiz zEa)<|oc (zH zD zKg (fun u0 u1 W hb (h0:(fPV m p).p u0 W) (h1:u1=l)=>by rw [show u1=l from h1];exact zCE h0 ((SF.row 6 (pvs m ps)).st _ _ _ hl (s.up hb)) hm hm0 hn (hT.below (s.up hb))))<|oc (zR .i64 (zY ps p) 0 (decide (zY ps p<0)) iiz iiz rfl rfl)<|oc zG<|zE) fun a w2 s=> ?_
 refine zA rfl ?_
 refine wpIn_ret ?_
 exact StS.res1 s (t:=3) rfl iiz
theorem zGg {m:Nat} {W:World} {l q:Value} {ps qs:List V2} (hl:(SF.row 6 (pvs m ps)).p l W) (hq:(SF.row 6 (pvs m qs)).p q W) (hm:m<=159) (hm0:0<m) (hn:ps.length<=1000000) (hnq:qs.length<=1000000) (hT:Tab W):Calls Tryz.prog 36 #[l,q] W (Ret W (fB (!(qs.any (fun p=>decide (zY ps p<0))))).toSF):=by
 have hlc:=zBI hl
 refine yD [(UF.eq l).toSF,SF.row 6 (pvs m qs)] Tryz.func36 rfl kI ⟨rfl,hq,trivial⟩ fun a s=> ?_
 refine wpIn_seq ?_
 refine zB 0 [] hmix s kI
  zE fun a w1 s=> ?_
 refine yJ (CU.is [l]) rfl s kI (fun v W h=>zJg h hlc.1 hlc.2) fun b2 a w s=> ?_
 refine yU (uB false) rfl s kI iiz fun a w s=> ?_
 refine zA rfl ?_
 refine wpIn_seq ?_
 replace s:=s.drop [4]
 refine zB 5 ((5, .s (SF.row 6 (pvs m qs)))::(6, .s (SF.fn Tryz.prog (TB m (fun p=>decide (zY ps p<0)))))::(7, .s ((uB (qs.any (fun p=>decide (zY ps p<0)))).toSF))::(8, .s ((uB (!(qs.any (fun p=>decide (zY ps p<0))))).toSF))::(4, .u (uB (!(qs.any (fun p=>decide (zY ps p<0)))))):: []) hmix s kI
  (oc zC<|oc (zEo (fun u W hb (h:(SF.pb b2 (CU.is [l]).cf).p u W)=>zJo (enters_of Tryz.func83 kI rfl) (fun W' hb' args R ⟨u1,p,e,h1,hR⟩=>by subst e hR;simpa using zL8 h1 ((SF.ptr _).st _ _ _ h.2 hb') ((SF.row 6 _).st _ _ _ ((SF.row 6 _).st _ _ _ hl (s.up hb)) hb') hm hm0 hn ((hT.below (s.up hb)).below hb'))))<|oc (zH zD zSq (fun u0 u1 W hb (h0:(SF.row 6 (pvs m qs)).p u0 W) (h1:(SF.fn Tryz.prog (TB m (fun p=>decide (zY ps p<0)))).p u1 W)=>zUx h0 h1 hnq))<|oc (zB5 (qs.any (fun p=>decide (zY ps p<0))) iiz (fun _=>rfl))<|oc zG<|zE) fun a w2 s=> ?_
 refine zA rfl ?_
 refine wpIn_ret ?_
 exact StS.res1 s (t:=4) rfl iiz
theorem zHh {m:Nat} {W:World} {u v l:Value} {p:V2} {ps:List V2} (h1:(fPV m p).p u W) (h2:(SF.ptr (CU.is [l]).cf).p v W) (hl:(SF.row 6 (pvs m ps)).p l W) (hm:m<=159) (hm0:0<m) (hn:ps.length<=1000000) (hT:Tab W):Calls Tryz.prog 82 #[u,v] W (Ret W (fB (zY ps p !=1)).toSF):=by
 refine yD [(fPV m p).toSF,SF.ptr (CU.is [l]).cf] Tryz.func82 rfl kI ⟨h1,h2,trivial⟩ fun a s=> ?_
 refine wpIn_seq ?_
 refine zB 0 [] hmix s kI
  zE fun a w1 s=> ?_
 refine yJ (CU.agg (fPV m p)) rfl s kI (fun v W h=>yP h) fun b2 a w s=> ?_
 refine yU (uB false) rfl s kI iiz fun a w s=> ?_
 refine zA rfl ?_
 refine wpIn_seq ?_
 replace s:=s.drop [3]
 refine zB 5 ((4, .s ((fPV m p).toSF))::(5, .s ((UF.eq l).toSF))::(6, .s ((uI (zY ps p)).toSF))::(7, .s ((uB (zY ps p !=1)).toSF))::(3, .u (uB (zY ps p !=1))):: []) hmix s kI
  (oc (zJ (f:=fPV m p) 6 kI (hz:=zP _ _))<|oc (jE (C:=(CU.is [l]).cf) kI iiz zEa)<|oc (zH zD zKg (fun u0 u1 W hb (h0:(fPV m p).p u0 W) (h1:u1=l)=>by rw [show u1=l from h1];exact zCE h0 ((SF.row 6 (pvs m ps)).st _ _ _ hl (s.up hb)) hm hm0 hn (hT.below (s.up hb))))<|oc (zR .i64 (zY ps p) 1 (zY ps p !=1) iiz iiz rfl rfl)<|oc zG<|zE) fun a w2 s=> ?_
 refine zA rfl ?_
 refine wpIn_ret ?_
 exact StS.res1 s (t:=3) rfl iiz
theorem zCY {m:Nat} {W:World} {l q:Value} {ps qs:List V2} (hl:(SF.row 6 (pvs m ps)).p l W) (hq:(SF.row 6 (pvs m qs)).p q W) (hm:m<=159) (hm0:0<m) (hn:ps.length<=1000000) (hnq:qs.length<=1000000) (hT:Tab W):Calls Tryz.prog 35 #[l,q] W (Ret W (fB (!(qs.any (fun p=>zY ps p !=1)))).toSF):=by
 have hlc:=zBI hl
 refine yD [(UF.eq l).toSF,SF.row 6 (pvs m qs)] Tryz.func35 rfl kI ⟨rfl,hq,trivial⟩ fun a s=> ?_
 refine wpIn_seq ?_
 refine zB 0 [] hmix s kI
  zE fun a w1 s=> ?_
 refine yJ (CU.is [l]) rfl s kI (fun v W h=>zJg h hlc.1 hlc.2) fun b2 a w s=> ?_
 refine yU (uB false) rfl s kI iiz fun a w s=> ?_
 refine zA rfl ?_
 refine wpIn_seq ?_
 replace s:=s.drop [4]
 refine zB 5 ((5, .s (SF.row 6 (pvs m qs)))::(6, .s (SF.fn Tryz.prog (TB m (fun p=>zY ps p !=1))))::(7, .s ((uB (qs.any (fun p=>zY ps p !=1))).toSF))::(8, .s ((uB (!(qs.any (fun p=>zY ps p !=1)))).toSF))::(4, .u (uB (!(qs.any (fun p=>zY ps p !=1))))):: []) hmix s kI
  (oc zC<|oc (zEo (fun u W hb (h:(SF.pb b2 (CU.is [l]).cf).p u W)=>zJo (enters_of Tryz.func82 kI rfl) (fun W' hb' args R ⟨u1,p,e,h1,hR⟩=>by subst e hR;simpa using zHh h1 ((SF.ptr _).st _ _ _ h.2 hb') ((SF.row 6 _).st _ _ _ ((SF.row 6 _).st _ _ _ hl (s.up hb)) hb') hm hm0 hn ((hT.below (s.up hb)).below hb'))))<|oc (zH zD zSq (fun u0 u1 W hb (h0:(SF.row 6 (pvs m qs)).p u0 W) (h1:(SF.fn Tryz.prog (TB m (fun p=>zY ps p !=1))).p u1 W)=>zUx h0 h1 hnq))<|oc (zB5 (qs.any (fun p=>zY ps p !=1)) iiz (fun _=>rfl))<|oc zG<|zE) fun a w2 s=> ?_
 refine zA rfl ?_
 refine wpIn_ret ?_
 exact StS.res1 s (t:=4) rfl iiz
theorem zKd (f:Nat->Bool) (N:Nat):decide (zEb f N≥0)=(List.range N).any f:=by
 unfold zEb
 cases h:(List.range N).find? f with
 |none=>
  have:=List.find?_eq_none.1 h
  rw [show (List.range N).any f=false from List.any_eq_false.2 this]
  rfl
 |some k=>
  have h1:=List.find?_some h
  have h2:=List.mem_of_find?_eq_some h
  rw [List.any_eq_true.2 ⟨k,h2,h1⟩]
  exact decide_eq_true (show (k:Int)≥0 by omega)
theorem zED (ps:List V2) (p:V2):zY ps p=if ((List.range (nE ps)).any (onK ps p))=true then 0 else 2*((zCJ (crK ps p) (nE ps) % 2:Nat):Int) - 1:=by
 unfold zY
 have h:=zKd (onK ps p) (nE ps)
 by_cases e:onI ps p≥0
 ·rw [if_pos e,if_pos (by rw [<-h];exact decide_eq_true e)]
 ·rw [if_neg e,if_neg (by rw [<-h,decide_eq_false (show ¬zEb (onK ps p) (nE ps)≥0 from e)];decide)]
  rfl
theorem zMy {a b r:Rat} (h:(a<=r/\r<=b)∨(b<=r/\r<=a)):zB7 a b r=true:=by
 have le_q: ∀{x y:Rat},x<=y->qsg x y<=0:=fun {x y} h=>by
  rcases zEU x y with e|e|e
  ·omega
  ·omega
  ·exact absurd (zGU.1 e) (Rat.not_lt.2 h)
 have ge_q: ∀{x y:Rat},x<=y->0<=qsg y x:=fun {x y} h=>by rw [zHU x y];have:=le_q h;omega
 unfold zB7
 rw [Bool.and_eq_true]
 constructor
 ·refine decide_eq_true ?_
  rcases h with ⟨h1,h2⟩|⟨h1,h2⟩
  ·have:=Int.mul_nonneg_of_nonpos_of_nonpos (le_q h1) (le_q h2);omega
  ·have:=Int.mul_nonneg (ge_q h2) (ge_q h1);omega
 ·unfold zO1
  by_cases e:a=b
  ·subst e
   have:a=r:=by rcases h with ⟨h1,h2⟩|⟨h1,h2⟩<;>grind
   rw [this,zD6.2 rfl];rfl
  ·rw [beq_eq_false_iff_ne.2 (fun h=>e (zD6.1 h))];rfl
theorem zEL {a b t:Rat} (h0:0<=t) (h1:t<=1):(a<=a+(b - a)*t/\a+(b - a)*t<=b)∨(b<=a+(b - a)*t/\a+(b - a)*t<=a):=by
 rcases (Rat.le_total:a<=b∨b<=a) with h|h
 ·have k1:=Rat.mul_nonneg (show 0<=b - a by grind) h0
  have k2:=Rat.mul_nonneg (show 0<=b - a by grind) (show 0<=1 - t by grind)
  exact .inl ⟨by grind,by grind⟩
 ·have k1:=Rat.mul_nonneg (show 0<=a - b by grind) h0
  have k2:=Rat.mul_nonneg (show 0<=a - b by grind) (show 0<=1 - t by grind)
  exact .inr ⟨by grind,by grind⟩
theorem zR1 {a b:V2} {t:Rat} (h0:0<=t) (h1:t<=1):onB a b (seg a b t)=true:=by
 unfold onB
 have h2:z5 a b (seg a b t)=0:=by
  unfold z5
  rw [show crs a b (seg a b t)=0 by unfold crs seg;grind]
  rfl
 rw [h2]
 unfold seg
 rw [zMy (zEL h0 h1),zMy (zEL h0 h1)]
 rfl
theorem zM1 {ps:List V2} {p:V2} {i:Nat} (h2:2<=ps.length) (hi:i<ps.length) (h:onB (at_ ps i) (at_ ps ((i+1) % ps.length)) p=true):zY ps p=0:=by
 rw [zED]
 refine if_pos (List.any_eq_true.2 ⟨i,List.mem_range.2 ?_,h⟩)
 unfold nE
 rw [if_pos h2]
 exact hi
theorem zEC (ps:List V2) (p:V2):zY ps p= -1∨zY ps p=0∨zY ps p=1:=by
 rw [zED]
 split
 ·exact .inr (.inl rfl)
 ·rcases Nat.mod_two_eq_zero_or_one (zCJ (crK ps p) (nE ps)) with h|h<;>rw [h]
  ·exact .inl rfl
  ·exact .inr (.inr rfl)
end Go.Proofs.Wd

namespace Go.Proofs.Wd
set_option maxRecDepth 100000
set_option maxHeartbeats 1000000
open Go.RowKit Lb
def zCF (L:List PX) (k:Nat):Nat:=((L.take k).map fun x=>min (PX.b x) 1000).sum
theorem zBM {L:List PX} {k:Nat} {x:PX} (h:L[k]?=some x):zCF L (k+1)=zCF L k+min (PX.b x) 1000:=by
 unfold zCF
 rw [List.take_add_one,h]
 simp
theorem zQW (L:List PX) (k:Nat):zCF L k<=1000*k:=by
 induction k with
 |zero=>simp [zCF]
 | succ k ih=>
  cases h:L[k]? with
  |none=>
   have:zCF L (k+1)=zCF L k:=by unfold zCF;rw [List.take_add_one,h];simp
   omega
  |some x=>
   rw [zBM h]
   omega
theorem zJl {L:List PX} {k i:Nat} {x:PX} (h:L[i]?=some x) (hi:i<k):min (PX.b x) 1000<=zCF L k:=by
 induction k with
 |zero=>omega
 | succ k ih=>
  by_cases e:i=k
  ·subst e;rw [zBM h];omega
  ·have h1:=ih oP
   cases h2:L[k]? with
   |none=>
    have:zCF L (k+1)=zCF L k:=by unfold zCF;rw [List.take_add_one,h2];simp
    omega
   |some y=>rw [zBM h2];omega
def g13 (L:List PX):Bool:=decide ((((pxs L).length:Nat):Int)>20)||decide (((zCF L (min (pxs L).length 21):Nat):Int)>80)
theorem zQZ {L:List PX} (h:g13 L=false):L.length<=20/\ ∀x,x∈L->PX.b x<=80:=by
 unfold g13 at h
 rw [Bool.or_eq_false_iff] at h
 have h1:=of_decide_eq_false h.1
 have h2:=of_decide_eq_false h.2
 rw [List.length_map] at h1 h2
 refine ⟨by omega,fun x hx=> ?_⟩
 obtain ⟨i,hi⟩:=List.getElem?_of_mem hx
 have hlt:=(List.getElem?_eq_some_iff.1 hi).1
 have h3:=zJl hi (k:=min L.length 21) oP
 omega
theorem zLp {x:PX} (h:PX.b x<=80) {v:Value} {W:World} (hv:x.u.p v W):(fPV 80 x.p).p v W:=by
 unfold PX.b at h
 exact zFY (fun v W h'=>zTp h' oP oP) (fun v W h'=>zTp h' oP oP) hv
theorem zLo {L:List PX} (h: ∀x,x∈L->PX.b x<=80) (v:Value) (W:World) (hv:(SF.row 6 (pxs L)).p v W):(SF.row 6 (pvs 80 (pps L))).p v W:=
 zKU (by simp) (fun i C D hC hD cs W hh=>by
  have hi:i<L.length:=by have:=(List.getElem?_eq_some_iff.1 hC).1;simpa using this
  rw [List.getElem?_map,List.getElem?_eq_getElem hi] at hC
  rw [List.getElem?_map,List.getElem?_map,List.getElem?_eq_getElem hi] at hD
  cases hC;cases hD
  exact zLp (h _ (List.getElem_mem hi)) hh) v W hv
theorem zJY {L:List PX} {W:World} {v:Value} (hl:(SF.row 6 (pxs L)).p v W) (hL: ∀x,x∈L->PX.b x<=1048576):Calls Tryz.prog 29 #[v] W (Ret W (fB (g13 L)).toSF):=by
 refine yD [SF.row 6 (pxs L)] Tryz.func29 rfl kI ⟨hl,trivial⟩ fun a s=> ?_
 refine wpIn_seq ?_
 refine zB 1 ((2, .u (uB false)):: []) hmix s kI
  (oc zG<|zE) fun a w1 s=> ?_
 refine zA rfl ?_
 refine wpIn_seq ?_
 refine zB 1 ((3, .u (uI 0)):: []) hmix s kI
  (oc zG<|zE) fun a w2 s=> ?_
 refine zA rfl ?_
 refine wpIn_seq ?_
 refine wpIn_seq ?_
 refine zB 1 ((4, .u (uI 0)):: []) hmix s kI
  (oc zG<|zE) fun a w3 s=> ?_
 refine zA rfl ?_
 refine wpIn_block ?_
 refine zPV (min (pxs L).length 21) 4 (fun k=> [(0, .o (SF.row 6 (pxs L))),(4, .u (uI (k:Int))),(3, .u (uI ((zCF L k:Nat):Int)))]) (fun k=>mz1) (s.keepK _ (fmz ⟨mz3,fmz ⟨.head _,fmz ⟨mz1,fnz⟩⟩⟩)) fun k a w hk s=> ?_
 refine wpIn_seq ?_
 refine wpIn_seq ?_
 refine zB 8 ((5, .s ((uI (k:Int)).toSF))::(6, .s (SF.row 6 (pxs L)))::(7, .s ((uI (((pxs L).length:Nat):Int)).toSF))::(8, .s ((uB (decide ((k:Int)<(((pxs L).length:Nat):Int)))).toSF))::(9, .s ((uB (decide ((k:Int)<(((pxs L).length:Nat):Int)))).toSF))::(10, .s (SF.imp ((decide ((k:Int)<(((pxs L).length:Nat):Int)))=true) ((uI (k:Int)).toSF)))::(11, .s (SF.imp ((decide ((k:Int)<(((pxs L).length:Nat):Int)))=true) ((uB (decide ((k:Int)<=20))).toSF)))::(12, .u (uB ((decide ((k:Int)<(((pxs L).length:Nat):Int)))&&(decide ((k:Int)<=20))))):: []) hmix s kI
  (oc zC<|oc zC<|oc (zDP (z:=6) (Cs:=pxs L) kI iiz (fun _=>rfl))<|oc (zR .i64 (k:Int) (((pxs L).length:Nat):Int) (decide ((k:Int)<(((pxs L).length:Nat):Int))) iiz iiz rfl rfl)<|oc zC<|oc (zF 9 (decide ((k:Int)<(((pxs L).length:Nat):Int))) kI iiz (fun e=>zU [] ((uI (k:Int)).toSF) fnz (fun _ _ h _=>h) kI zC) (fun e W h=>absurd h e))<|oc (zF 9 (decide ((k:Int)<(((pxs L).length:Nat):Int))) kI iiz (fun e=>zU [(10,(uI (k:Int)).toSF)] ((uB (decide ((k:Int)<=20))).toSF) (fmz ⟨fun v W h=>zL (c:=(decide ((k:Int)<(((pxs L).length:Nat):Int)))=true) (f:=(uI (k:Int)).toSF) e h,fnz⟩) (fun _ _ h _=>h) kI (zR .i64 (k:Int) 20 (decide ((k:Int)<=20)) iiz iiz rfl rfl)) (fun e W h=>absurd h e))<|oc (yC (decide ((k:Int)<(((pxs L).length:Nat):Int))) iiz (fun e v W h=>jT (zL e h) e) (fun e v W h=>qZ h e))<|zE) fun a w4 s=> ?_
 refine zA rfl ?_
 refine StS.cond s ((decide ((k:Int)<(((pxs L).length:Nat):Int)))&&(decide ((k:Int)<=20))) iiz (fun e=> ?_) (fun e=> ?_)
 ·rw [Bool.and_eq_true] at e
  have hk1:=of_decide_eq_true e.1
  have hk2:=of_decide_eq_true e.2
  have hk3:k<L.length:=by rw [List.length_map] at hk1;omega
  obtain ⟨x,hxl⟩: ∃x,L[k]?=some x:=⟨_,List.getElem?_eq_getElem hk3⟩
  have hx:(pxs L)[k]?=some (PX.cu x):=by rw [List.getElem?_map,hxl];rfl
  have hxm:=hL x (List.mem_of_getElem? hxl)
  have hgs:=zBM hxl
  have hgl:=zQW L k
  unfold PX.b at hxm hgs
  refine wpIn_skip ?_
  refine wpIn_seq ?_
  refine wpIn_block ?_
  refine zHQ (K:= [(12, .u (uB ((decide ((k:Int)<(((pxs L).length:Nat):Int)))&&(decide ((k:Int)<=20))))),(0, .o (SF.row 6 (pxs L))),(4, .u (uI (k:Int)))]) [(3, .u (uI ((zCF L k:Nat):Int)))] [0,1,2,9,10,17,18,26,27] 36 ((15, .s ((uI ((zCF L k:Nat):Int)).toSF))::(16, .s (SF.row 6 (pxs L)))::(17, .s ((uI (k:Int)).toSF))::(18, .s (SF.ptr (PX.cu x).cf))::(19, .s (SF.ptr ((PX.cu x).cf.at 0)))::(20, .s (SF.ptr ((PX.cu x).cf.at 0)))::(21, .s (SF.ptr ((PX.cu x).cf.at 1)))::(22, .s ((fSl (x.1.n)).toSF))::(23, .s ((uI (x.1.n:Int)).toSF))::(24, .s (SF.row 6 (pxs L)))::(25, .s ((uI (k:Int)).toSF))::(26, .s (SF.ptr (PX.cu x).cf))::(27, .s (SF.ptr ((PX.cu x).cf.at 0)))::(28, .s (SF.ptr ((PX.cu x).cf.at 2)))::(29, .s ((fSl (x.1.n')).toSF))::(30, .s ((uI (x.1.n':Int)).toSF))::(31, .s ((uI ((x.1.n+x.1.n':Nat):Int)).toSF))::(32, .s (SF.row 6 (pxs L)))::(33, .s ((uI (k:Int)).toSF))::(34, .s (SF.ptr (PX.cu x).cf))::(35, .s (SF.ptr ((PX.cu x).cf.at 3)))::(36, .s (SF.ptr ((PX.cu x).cf.at 3)))::(37, .s (SF.ptr ((PX.cu x).cf.at 4)))::(38, .s ((fSl (x.2.n)).toSF))::(39, .s ((uI (x.2.n:Int)).toSF))::(40, .s ((uI ((x.1.n+x.1.n'+x.2.n:Nat):Int)).toSF))::(41, .s (SF.row 6 (pxs L)))::(42, .s ((uI (k:Int)).toSF))::(43, .s (SF.ptr (PX.cu x).cf))::(44, .s (SF.ptr ((PX.cu x).cf.at 3)))::(45, .s (SF.ptr ((PX.cu x).cf.at 5)))::(46, .s ((fSl (x.2.n')).toSF))::(47, .s ((uI (x.2.n':Int)).toSF))::(48, .s ((uI ((x.1.n+x.1.n'+x.2.n+x.2.n':Nat):Int)).toSF))::(49, .s ((uI (min ((x.1.n+x.1.n'+x.2.n+x.2.n':Nat):Int) 1000)).toSF))::(50, .u (uI ((zCF L (k+1):Nat):Int))):: []) hmix (s.keepK _ (fmz ⟨mz3,fmz ⟨.head _,fmz ⟨mz1,fmz ⟨mz2,fnz⟩⟩⟩⟩)) kI
   (oc zC<|oc zC<|oc zC<|oc (zBb (z:=6) (Cs:=pxs L) (i:=k) (C:=PX.cu x) kI hx iiz iiz)<|oc (zN (C:=(PX.cu x).cf) 0 kI)<|oc (yT (C:=(PX.cu x).cf) 0 0 kI)<|oc (yT (C:=(PX.cu x).cf) 0 1 kI)<|oc (jK (C:=(PX.cu x).cf) (k:=1) kI (h:=zUJ))<|oc (zFv kI (fun v W ⟨A,c,e⟩=>⟨A,x.1.n,c,e,rfl⟩))<|oc zC<|oc zC<|oc (zBb (z:=6) (Cs:=pxs L) (i:=k) (C:=PX.cu x) kI hx iiz iiz)<|oc (zN (C:=(PX.cu x).cf) 0 kI)<|oc (yT (C:=(PX.cu x).cf) 0 2 kI)<|oc (jK (C:=(PX.cu x).cf) (k:=2) kI (h:=zUI))<|oc (zFv kI (fun v W ⟨A,c,e⟩=>⟨A,x.1.n',c,e,rfl⟩))<|oc (qF .i64 (x.1.n:Int) (x.1.n':Int) ((x.1.n+x.1.n':Nat):Int) iiz iiz (wrap64 _ _ oP oP))<|oc zC<|oc zC<|oc (zBb (z:=6) (Cs:=pxs L) (i:=k) (C:=PX.cu x) kI hx iiz iiz)<|oc (zN (C:=(PX.cu x).cf) 3 kI)<|oc (yT (C:=(PX.cu x).cf) 3 0 kI)<|oc (yT (C:=(PX.cu x).cf) 3 1 kI)<|oc (jK (C:=(PX.cu x).cf) (k:=4) kI (h:=zUH))<|oc (zFv kI (fun v W ⟨A,c,e⟩=>⟨A,x.2.n,c,e,rfl⟩))<|oc (qF .i64 ((x.1.n+x.1.n':Nat):Int) (x.2.n:Int) ((x.1.n+x.1.n'+x.2.n:Nat):Int) iiz iiz (wrap64 _ _ oP oP))<|oc zC<|oc zC<|oc (zBb (z:=6) (Cs:=pxs L) (i:=k) (C:=PX.cu x) kI hx iiz iiz)<|oc (zN (C:=(PX.cu x).cf) 3 kI)<|oc (yT (C:=(PX.cu x).cf) 3 2 kI)<|oc (jK (C:=(PX.cu x).cf) (k:=5) kI (h:=zUG))<|oc (zFv kI (fun v W ⟨A,c,e⟩=>⟨A,x.2.n',c,e,rfl⟩))<|oc (qF .i64 ((x.1.n+x.1.n'+x.2.n:Nat):Int) (x.2.n':Int) ((x.1.n+x.1.n'+x.2.n+x.2.n':Nat):Int) iiz iiz (wrap64 _ _ oP oP))<|oc (zQI ((x.1.n+x.1.n'+x.2.n+x.2.n':Nat):Int) 1000 iiz iiz)<|oc (qF .i64 ((zCF L k:Nat):Int) (min ((x.1.n+x.1.n'+x.2.n+x.2.n':Nat):Int) 1000) ((zCF L (k+1):Nat):Int) iiz iiz (wrap64 _ _ oP oP))<|zE) fun Q' hQ a w5 s=> ?_
  refine yU (uI ((zCF L (k+1):Nat):Int)) rfl s kI iiz fun a w s=> ?_
  refine zA rfl (hQ _ _ ?_)
  refine y6 2 ((13, .s ((uI (k:Int)).toSF))::(14, .u (uI ((k+1:Nat):Int))):: []) s kI
   (oc zC<|oc (qF .i64 (k:Int) 1 ((k+1:Nat):Int) iiz iiz (wrap64 _ _ oP oP))<|zE) fun a w6 s=> ?_
  replace s:=s.drop [4]
  refine yU (uI ((k+1:Nat):Int)) rfl s kI iiz fun a w s=> ?_
  refine zA rfl ?_
  exact ⟨by omega,s.keepK _ (fmz ⟨mz5,fmz ⟨.head _,fmz ⟨mz2,fnz⟩⟩⟩)⟩
 ·rw [Bool.and_eq_false_iff] at e
  have hkN:k=min (pxs L).length 21:=by
   rcases e with e|e
   ·have:=of_decide_eq_false e;omega
   ·have:=of_decide_eq_false e;omega
  refine wpIn_exit ?_
  refine wpIn_seq ?_
  refine zB 8 ((51, .s (SF.row 6 (pxs L)))::(52, .s ((uI (((pxs L).length:Nat):Int)).toSF))::(53, .s ((uB (decide ((((pxs L).length:Nat):Int)>20))).toSF))::(54, .s ((uB (decide ((((pxs L).length:Nat):Int)>20))).toSF))::(55, .s (SF.imp ((decide ((((pxs L).length:Nat):Int)>20))=false) ((uI ((zCF L k:Nat):Int)).toSF)))::(56, .s (SF.imp ((decide ((((pxs L).length:Nat):Int)>20))=false) ((uB (decide (((zCF L k:Nat):Int)>80))).toSF)))::(57, .s ((uB ((decide ((((pxs L).length:Nat):Int)>20))||(decide (((zCF L k:Nat):Int)>80)))).toSF))::(2, .u (uB ((decide ((((pxs L).length:Nat):Int)>20))||(decide (((zCF L k:Nat):Int)>80))))):: []) hmix s kI
   (oc zC<|oc (zDP (z:=6) (Cs:=pxs L) kI iiz (fun _=>rfl))<|oc (zR .i64 (((pxs L).length:Nat):Int) 20 (decide ((((pxs L).length:Nat):Int)>20)) iiz iiz rfl rfl)<|oc zC<|oc (zF 54 (decide ((((pxs L).length:Nat):Int)>20)) kI iiz (fun e=>zU [] ((uI ((zCF L k:Nat):Int)).toSF) fnz (fun _ _ h _=>h) kI zC) (fun e W h=>absurd h e))<|oc (zF 54 (decide ((((pxs L).length:Nat):Int)>20)) kI iiz (fun e=>zU [(55,(uI ((zCF L k:Nat):Int)).toSF)] ((uB (decide (((zCF L k:Nat):Int)>80))).toSF) (fmz ⟨fun v W h=>zL (c:=(decide ((((pxs L).length:Nat):Int)>20))=false) (f:=(uI ((zCF L k:Nat):Int)).toSF) e h,fnz⟩) (fun _ _ h _=>h) kI (zR .i64 ((zCF L k:Nat):Int) 80 (decide (((zCF L k:Nat):Int)>80)) iiz iiz rfl rfl)) (fun e W h=>absurd h e))<|oc (yC (decide ((((pxs L).length:Nat):Int)>20)) iiz (fun e v W h=>zDN h e) (fun e v W h=>zCC (zL e h) e))<|oc zG<|zE) fun a w7 s=> ?_
  refine zA rfl ?_
  refine wpIn_ret ?_
  exact StS.res1 s (t:=2) rfl (fun _ _ h=>by rw [hkN] at h;exact h)
end Go.Proofs.Wd

namespace Go.Proofs.Wd
set_option maxRecDepth 100000
set_option maxHeartbeats 1000000
open Go.RowKit Lb
abbrev T3L:List V2:= [(((0:Int):Rat),((0:Int):Rat)),(((2:Int):Rat),((0:Int):Rat)),(((0:Int):Rat),((2:Int):Rat))]
abbrev hlf (x:Int):Rat:=((x:Rat)+((0:Int):Rat)) / 2
theorem zIS:QB (hlf 1) 1:=⟨by unfold Bd BB;decide+kernel,by unfold BB;decide+kernel⟩
theorem zTA: ∀p,p∈T3L->QB p.1 1/\QB p.2 1:=fun p hp=>by
 have h0:=qbz (z:=0) dB
 have h2:=qbz (z:=2) dB
 simp only [List.mem_cons,List.not_mem_nil,or_false] at hp
 rcases hp with rfl|rfl|rfl
 ·exact ⟨h0,h0⟩
 ·exact ⟨h2,h0⟩
 ·exact ⟨h0,h2⟩
theorem tw1:zY T3L (((1:Int):Rat),((0:Int):Rat))=0:=by kernel_rfl
theorem tw2:onI T3L (((1:Int):Rat),((0:Int):Rat))=0:=by kernel_rfl
theorem tw3:zY T3L (hlf 1,hlf 1)=1:=by kernel_rfl
theorem tw4:zY T3L (((2:Int):Rat),((2:Int):Rat))= -1:=by kernel_rfl
theorem tw5:(!(T3L.any (fun p=>decide (zY T3L p<0))))=true:=by kernel_rfl
theorem tw6:(!([at_ T3L 0].any (fun p=>zY T3L p !=1)))=false:=by kernel_rfl
theorem tw7:crN T3L (hlf 1,hlf 1)=1:=by kernel_rfl
theorem zPS {W:World}:Calls Tryz.prog 77 #[] W (Ret W (SF.row 6 (pns T3L))):=by
 refine yD [] Tryz.func77 rfl kI trivial fun a s=> ?_
 refine wpIn_seq ?_
 refine zB 1 ((0, .u (UF.eq (.slice none 0 0))):: []) hmix s kI
  (oc zG<|zE) fun a w1 s=> ?_
 refine zA rfl ?_
 refine wpIn_seq ?_
 replace s:=s.drop [0]
 refine jJ 5 ((1, .s ((fPN (((0:Int):Rat),((0:Int):Rat))).toSF))::(2, .s ((fPN (((2:Int):Rat),((0:Int):Rat))).toSF))::(3, .s ((fPN (((0:Int):Rat),((2:Int):Rat))).toSF))::(4, .s (SF.row 6 [CU.agg (fPN (((0:Int):Rat),((0:Int):Rat))),CU.agg (fPN (((2:Int):Rat),((0:Int):Rat))),CU.agg (fPN (((0:Int):Rat),((2:Int):Rat)))]))::(0, .s (SF.row 6 [CU.agg (fPN (((0:Int):Rat),((0:Int):Rat))),CU.agg (fPN (((2:Int):Rat),((0:Int):Rat))),CU.agg (fPN (((0:Int):Rat),((2:Int):Rat)))])):: []) hmix s kI
  (oc (zH zD zGn (fun u0 u1 W hb (h0:u0= .int .i64 0) (h1:u1= .int .i64 0)=>zDb h0 h1 dB dB))<|oc (zH zD zGn (fun u0 u1 W hb (h0:u0= .int .i64 2) (h1:u1= .int .i64 0)=>zDb h0 h1 dB dB))<|oc (zH zD zGn (fun u0 u1 W hb (h0:u0= .int .i64 0) (h1:u1= .int .i64 2)=>zDb h0 h1 dB dB))<|oc (zG3 (fun u v q W (hu:(fPN (((0:Int):Rat),((0:Int):Rat))).p u W) (hv:(fPN (((2:Int):Rat),((0:Int):Rat))).p v W) (hq:(fPN (((0:Int):Rat),((2:Int):Rat))).p q W)=>zRA hu hv hq))<|oc zG<|zE) fun a w2 s hr=> ?_
 refine zA rfl ?_
 refine wpIn_ret ?_
 exact StS.resN s (Below.refl _ _) (t:=0) rfl (hr (_,_) mz4)
theorem zJi {W:World} {u:Value} {x:Int} (hu:u= .int .i64 x) (hx1:x.natAbs<100):Calls Tryz.prog 122 #[u] W (Ret W (fQN (hlf x)).toSF):=by
 have hx: -9223372036854775808<=x/\x<=9223372036854775807:=by omega
 have hqx:=qbz hx1
 refine yD [(uI x).toSF] Tryz.func122 rfl kI ⟨hu,trivial⟩ fun a s=> ?_
 refine wpIn_seq ?_
 refine zB 0 [] hmix s kI
  zE fun a w1 s=> ?_
 refine zZ (CU.len 3) (cs:=zR3) kI rfl s kI (fun W=>rfl) rfl fun b2 a w s=> ?_
 refine zA rfl ?_
 refine wpIn_seq ?_
 refine zB 4 ((3, .s ((uI x).toSF))::(4, .s ((fQN ((x:Int):Rat)).toSF))::(5, .s ((fQN ((0:Int):Rat)).toSF))::(6, .u (fQN (hlf x))):: []) hmix s kI
  (oc zC<|oc (zI zD zHo (fun u0 W hb (h0:u0= .int .i64 x)=>zD5 x h0 hx))<|oc (zI zD zHo (fun u0 W hb (h0:u0= .int .i64 0)=>zD5 0 h0 dB))<|oc (zH zD zT5 (fun u0 u1 W hb (h0:QNp ((x:Int):Rat) u0 W) (h1:QNp ((0:Int):Rat) u1 W)=>zQm (m:=1) (QNp.rv h0 hqx) (QNp.rv h1 (qbz dB)) dB dB))<|zE) fun a w2 s=> ?_
 refine zV (CU.agg (fQN (hlf x))) ((fQN (hlf x)).toSF) rfl s kI rfl rfl rfl iiz iiz yL fun a w s=> ?_
 refine zA rfl ?_
 refine wpIn_ret ?_
 exact StS.resC s (CU.agg (fQN (hlf x))) rfl kI rfl rfl (qY _) (fun cs W h=>h)
theorem zPc {W:World} {u v:Value} {x y:Int} (hu:u= .int .i64 x) (hv:v= .int .i64 y) (hx:x.natAbs<100) (hy:y.natAbs<100):Calls Tryz.prog 79 #[u,v] W (Ret W (fPN (hlf x,hlf y)).toSF):=by
 refine yD [(uI x).toSF,(uI y).toSF] Tryz.func79 rfl kI ⟨hu,hv,trivial⟩ fun a s=> ?_
 refine wpIn_seq ?_
 refine zB 0 [] hmix s kI
  zE fun a w1 s=> ?_
 refine zZ (CU.len 6) (cs:=zP6) kI rfl s kI (fun W=>rfl) rfl fun b4 a w s=> ?_
 refine zA rfl ?_
 refine wpIn_seq ?_
 refine zB 5 ((5, .s ((uI x).toSF))::(6, .s ((fQN (hlf x)).toSF))::(7, .s ((uI y).toSF))::(8, .s ((fQN (hlf y)).toSF))::(9, .u (fPN (hlf x,hlf y))):: []) hmix s kI
  (oc zC<|oc (zI zD zPo (fun u0 W hb (h0:u0= .int .i64 x)=>zJi h0 hx))<|oc zC<|oc (zI zD zPo (fun u0 W hb (h0:u0= .int .i64 y)=>zJi h0 hy))<|oc (qO (fun u v W (hu:QNp (hlf x) u W) (hv:QNp (hlf y) v W)=>zRe (zAL _) (zAL _) hu hv))<|zE) fun a w2 s=> ?_
 refine zV (CU.agg (fPN (hlf x,hlf y))) ((fPN (hlf x,hlf y)).toSF) rfl s kI rfl rfl rfl iiz iiz yR fun a w s=> ?_
 refine zA rfl ?_
 refine wpIn_ret ?_
 exact StS.resC s (CU.agg (fPN (hlf x,hlf y))) rfl kI rfl rfl (zP _ _) (fun cs W h=>h)
theorem zHB {W:World} (hT:Tab W):Calls Tryz.prog 31 #[] W (Ret W (fB true).toSF):=by
 refine yD [] Tryz.func31 rfl kI trivial fun a s=> ?_
 refine wpIn_seq ?_
 refine zB 1 ((0, .u (uB false)):: []) hmix s kI
  (oc zG<|zE) fun a w1 s=> ?_
 refine zA rfl ?_
 refine wpIn_seq ?_
 refine jJ 1 ((2, .s (SF.row 6 (pns T3L))):: []) hmix s kI
  (oc (zEq zD zT2 (fun W hb=>zPS))<|zE) fun a w2 s hr=> ?_
 obtain ⟨v5,e5⟩: ∃v,a.tmps.getD 2 undef=v:=⟨_,rfl⟩
 have hv5:(SF.row 6 (pvs 1 T3L)).p v5 w2:=e5▸zQC zTA _ _ (hr (_,_) (.head _))
 replace s:=s.learn 2 v5 e5
 have hb0:=s.below
 replace hT:=hT.below hb0
 replace s:=s.reb rfl [(2, .u (UF.eq v5)),(0, .u (uB false))] (fmz ⟨.inl (.head _),fmz ⟨.inl mz1,fnz⟩⟩)
 refine yU (UF.eq v5) rfl s kI iiz fun a w s=> ?_
 refine zA rfl ?_
 refine wpIn_seq ?_
 replace s:=s.drop [0]
 refine zB 43 ((3, .s ((fPN (((1:Int):Rat),((0:Int):Rat))).toSF))::(4, .s ((UF.eq v5).toSF))::(5, .s ((uI 0).toSF))::(6, .s ((uB true).toSF))::(7, .s ((uB true).toSF))::(8, .s ((fPN (((1:Int):Rat),((0:Int):Rat))).toSF))::(9, .s ((UF.eq v5).toSF))::(10, .s ((uI 0).toSF))::(11, .s ((uB true).toSF))::(12, .s ((uB true).toSF))::(13, .s ((uB true).toSF))::(14, .s ((fPN (hlf 1,hlf 1)).toSF))::(15, .s ((UF.eq v5).toSF))::(16, .s ((uI 1).toSF))::(17, .s ((uB true).toSF))::(18, .s ((uB true).toSF))::(19, .s ((uB true).toSF))::(20, .s ((fPN (((2:Int):Rat),((2:Int):Rat))).toSF))::(21, .s ((UF.eq v5).toSF))::(22, .s ((uI (-1)).toSF))::(23, .s ((uB true).toSF))::(24, .s ((uB true).toSF))::(25, .s ((uB true).toSF))::(26, .s ((UF.eq v5).toSF))::(27, .s ((UF.eq v5).toSF))::(28, .s ((uB true).toSF))::(29, .s ((uB true).toSF))::(30, .s ((uB true).toSF))::(31, .s ((UF.eq v5).toSF))::(32, .s ((UF.eq v5).toSF))::(33, .s (SF.ptr (CU.agg (fPV 1 (at_ T3L 0))).cf))::(34, .s ((fPV 1 (at_ T3L 0)).toSF))::(35, .s (SF.row 6 [CU.agg (fPV 1 (at_ T3L 0))]))::(36, .s ((uB false).toSF))::(37, .s ((uB true).toSF))::(38, .s ((uB true).toSF))::(39, .s ((uB true).toSF))::(40, .s ((fPN (hlf 1,hlf 1)).toSF))::(41, .s ((UF.eq v5).toSF))::(42, .s ((uI 1).toSF))::(43, .s ((uB true).toSF))::(44, .s ((uB true).toSF))::(0, .u (uB true)):: []) hmix s kI
  (oc (zH zD zGn (fun u0 u1 W hb (h0:u0= .int .i64 1) (h1:u1= .int .i64 0)=>zDb h0 h1 dB dB))<|oc zC<|oc (zH zD zKg (fun u0 u1 W hb (h0:(fPN (((1:Int):Rat),((0:Int):Rat))).p u0 W) (h1:u1=v5)=>(zCE (m:=1) (p:=(((1:Int):Rat),((0:Int):Rat))) (ps:=T3L) (zBa (p:=(((1:Int):Rat),((0:Int):Rat))) (m:=1) (qbz dB) (qbz dB) h0) (y5 hv5 h1 (s.up hb)) dB dB dB (hT.below (s.up hb))).mono (Ret.to (fun v W h=>by rw [tw1] at h;exact h))))<|oc (zR .i64 0 0 true iiz iiz (by rfl) rfl)<|oc zC<|oc (zF 7 true kI iiz (fun _=>zH zD zGn (fun u0 u1 W hb (h0:u0= .int .i64 1) (h1:u1= .int .i64 0)=>zDb h0 h1 dB dB)) arf)<|oc (zF 7 true kI iiz (fun _=>zC) arf)<|oc (zF 7 true kI iiz (fun _=>zH zD zSt (fun u0 u1 W hb (h0:(fPN (((1:Int):Rat),((0:Int):Rat))).p u0 W) (h1:u1=v5)=>(zSl (m:=1) (p:=(((1:Int):Rat),((0:Int):Rat))) (ps:=T3L) (zBa (p:=(((1:Int):Rat),((0:Int):Rat))) (m:=1) (qbz dB) (qbz dB) h0) (y5 hv5 h1 (s.up hb)) dB dB dB (hT.below (s.up hb))).mono (Ret.to (fun v W h=>by rw [tw2] at h;exact h)))) arf)<|oc (zF 7 true kI iiz (fun _=>zR .i64 0 0 true iiz iiz (by rfl) rfl) arf)<|oc (yC true iiz (fun _ _ _ h=>h) (fun e=>by cases e))<|oc zC<|oc (zF 13 true kI iiz (fun _=>zH zD zSs (fun u0 u1 W hb (h0:u0= .int .i64 1) (h1:u1= .int .i64 1)=>zPc (x:=1) (y:=1) h0 h1 dB dB)) arf)<|oc (zF 13 true kI iiz (fun _=>zC) arf)<|oc (zF 13 true kI iiz (fun _=>zH zD zKg (fun u0 u1 W hb (h0:(fPN (hlf 1,hlf 1)).p u0 W) (h1:u1=v5)=>(zCE (m:=1) (p:=(hlf 1,hlf 1)) (ps:=T3L) (zBa (p:=(hlf 1,hlf 1)) (m:=1) zIS zIS h0) (y5 hv5 h1 (s.up hb)) dB dB dB (hT.below (s.up hb))).mono (Ret.to (fun v W h=>by rw [tw3] at h;exact h)))) arf)<|oc (zF 13 true kI iiz (fun _=>zR .i64 1 1 true iiz iiz (by rfl) rfl) arf)<|oc (yC true iiz (fun _ _ _ h=>h) (fun e=>by cases e))<|oc zC<|oc (zF 19 true kI iiz (fun _=>zH zD zGn (fun u0 u1 W hb (h0:u0= .int .i64 2) (h1:u1= .int .i64 2)=>zDb h0 h1 dB dB)) arf)<|oc (zF 19 true kI iiz (fun _=>zC) arf)<|oc (zF 19 true kI iiz (fun _=>zH zD zKg (fun u0 u1 W hb (h0:(fPN (((2:Int):Rat),((2:Int):Rat))).p u0 W) (h1:u1=v5)=>(zCE (m:=1) (p:=(((2:Int):Rat),((2:Int):Rat))) (ps:=T3L) (zBa (p:=(((2:Int):Rat),((2:Int):Rat))) (m:=1) (qbz dB) (qbz dB) h0) (y5 hv5 h1 (s.up hb)) dB dB dB (hT.below (s.up hb))).mono (Ret.to (fun v W h=>by rw [tw4] at h;exact h)))) arf)<|oc (zF 19 true kI iiz (fun _=>zR .i64 (-1) (-1) true iiz iiz (by rfl) rfl) arf)<|oc (yC true iiz (fun _ _ _ h=>h) (fun e=>by cases e))<|oc zC<|oc (zF 25 true kI iiz (fun _=>zC) arf)<|oc (zF 25 true kI iiz (fun _=>zC) arf)<|oc (zF 25 true kI iiz (fun _=>zH zD zQ6 (fun u0 u1 W hb (h0:u0=v5) (h1:u1=v5)=>(zGg (m:=1) (ps:=T3L) (qs:=T3L) (y5 hv5 h0 (s.up hb)) (y5 hv5 h1 (s.up hb)) dB dB dB dB (hT.below (s.up hb))).mono (Ret.to (fun v W h=>by rw [tw5] at h;exact h)))) arf)<|oc (yC true iiz (fun _ _ _ h=>h) (fun e=>by cases e))<|oc zC<|oc (zF 30 true kI iiz (fun _=>zC) arf)<|oc (zF 30 true kI iiz (fun _=>zC) arf)<|oc (zF 30 true kI iiz (fun _=>qW (z:=6) (Cs:=pvs 1 T3L) (i:=0) (C:=CU.agg (fPV 1 (at_ T3L 0))) kI (jS dB) (fun v W hb h=>(y5 hv5 h (s.up hb))) iiz) arf)<|oc (zF 30 true kI iiz (fun _=>zJ (f:=fPV 1 (at_ T3L 0)) 6 kI (hz:=zP _ _)) arf)<|oc (zF 30 true kI iiz (fun _=>zAd (fun u W (hu:(fPV 1 (at_ T3L 0)).p u W)=>zD2 hu)) arf)<|oc (zF 30 true kI iiz (fun _=>zH zD zQ7 (fun u0 u1 W hb (h0:u0=v5) h1=>(zCY (m:=1) (ps:=T3L) (qs:= [at_ T3L 0]) (y5 hv5 h0 (s.up hb)) h1 dB dB dB dB (hT.below (s.up hb))).mono (Ret.to (fun v W h=>by rw [tw6] at h;exact h)))) arf)<|oc (zF 30 true kI iiz (fun _=>zB5 false iiz (fun _=>rfl)) arf)<|oc (yC true iiz (fun _ _ _ h=>h) (fun e=>by cases e))<|oc zC<|oc (zF 39 true kI iiz (fun _=>zH zD zSs (fun u0 u1 W hb (h0:u0= .int .i64 1) (h1:u1= .int .i64 1)=>zPc (x:=1) (y:=1) h0 h1 dB dB)) arf)<|oc (zF 39 true kI iiz (fun _=>zC) arf)<|oc (zF 39 true kI iiz (fun _=>zH zD zSr (fun u0 u1 W hb (h0:(fPN (hlf 1,hlf 1)).p u0 W) (h1:u1=v5)=>(zFx (m:=1) (p:=(hlf 1,hlf 1)) (ps:=T3L) (zBa (p:=(hlf 1,hlf 1)) (m:=1) zIS zIS h0) (y5 hv5 h1 (s.up hb)) dB dB dB (hT.below (s.up hb))).mono (Ret.to (fun v W h=>by rw [tw7] at h;exact h)))) arf)<|oc (zF 39 true kI iiz (fun _=>zR .i64 1 1 true iiz iiz (by rfl) rfl) arf)<|oc (yC true iiz (fun _ _ _ h=>h) (fun e=>by cases e))<|oc zG<|zE) fun a w3 s=> ?_
 refine zA rfl ?_
 refine wpIn_ret ?_
 exact StS.resB s hb0 (t:=0) rfl iiz
theorem zBg {x:PX} (h:PX.b x<=80) (cs:List Value) (W:World) (hc:(PX.cu x).p cs W):0+6<=cs.length/\(fPV 80 x.p).p (.agg ((cs.drop 0).take 6).toArray) W:=zBS cs W (zLp h hc)
theorem zRU (ps:List PX): ∀C,C∈pxs ps->CU.ok 6 C:=fun C hC=>by
 obtain ⟨t,_,rfl⟩:=List.mem_map.1 hC
 exact zDL _ _
theorem zNJ (ps:List PX) (x:PX):pxs ps++ [PX.cu x]=pxs (ps++ [x]):=by simp [pxs]
theorem zJk {L:List PX} {k i j:Nat} {x y:PX} (hx:L[i]?=some x) (hy:L[j]?=some y) (hij:i<j) (hj:j<k):min (PX.b x) 1000+min (PX.b y) 1000<=zCF L k:=by
 induction k with
 |zero=>omega
 | succ k ih=>
  by_cases e:j=k
  ·subst e
   rw [zBM hy]
   have:=zJl hx hij
   omega
  ·have h1:=ih oP
   cases h2:L[k]? with
   |none=>
    have:zCF L (k+1)=zCF L k:=by unfold zCF;rw [List.take_add_one,h2];simp
    omega
   |some z=>rw [zBM h2];omega
theorem zQY {L:List PX} (h:g13 L=false) {i j:Nat} {x y:PX} (hx:L[i]?=some x) (hy:L[j]?=some y) (hij:i≠j):PX.b x+PX.b y<=80:=by
 unfold g13 at h
 rw [Bool.or_eq_false_iff] at h
 have h1:=of_decide_eq_false h.1
 have h2:=of_decide_eq_false h.2
 rw [List.length_map] at h1 h2
 have l1:=(List.getElem?_eq_some_iff.1 hx).1
 have l2:=(List.getElem?_eq_some_iff.1 hy).1
 rcases Nat.lt_or_gt_of_ne hij with g|g
 ·have:=zJk hx hy g (k:=min L.length 21) oP;omega
 ·have:=zJk hy hx g (k:=min L.length 21) oP;omega
theorem zRV {x:PX} {v:Value} {W:World} (hv:x.u.p v W):PB x.p (max 1 (PX.b x)):=by
 have:(fPV (max 1 (PX.b x)) x.p).p v W:=by
  unfold PX.b
  exact zFY (fun v W h'=>zTp h' oP oP) (fun v W h'=>zTp h' oP oP) hv
 exact zDd oP this
theorem zII {L:List PX} {l:Value} {W:World} (hl:(SF.row 6 (pxs L)).p l W) {i:Nat} {x:PX} (hx:L[i]?=some x): ∃v,x.u.p v W:=by
 obtain ⟨A,c,_,_,_,_,h5⟩:=hl
 obtain ⟨b,o,cs,_,_,h6⟩:=h5 i (PX.cu x) (by rw [List.getElem?_map,hx];rfl)
 exact ⟨_,h6⟩
theorem zQE {x y:PX} {u v:Value} {W:World} (hx:x.u.p u W) (hy:y.u.p v W) (h:PX.b x+PX.b y<=80):zD1 x.p y.p:=⟨_,_,zRV hx,zRV hy,by omega⟩
theorem zPz {A:List PX} {i:Nat} (hi:i<(pps A).length): ∃x,A[i]?=some x/\at_ (pps A) i=x.p:=by
 have hi':i<A.length:=by simpa using hi
 refine ⟨_,List.getElem?_eq_getElem hi', ?_⟩
 unfold at_
 rw [List.getD_eq_getElem?_getD,List.getElem?_map,List.getElem?_eq_getElem hi']
 rfl
end Go.Proofs.Wd

namespace Go.Proofs.Wd
theorem cyc {n:Nat} {P:Nat->Prop} {i j:Nat} (hi:i<n) (hj:j<n) (h1:P i) (h2: ¬P j): ∃k,k<n/\P k/\ ¬P ((k+1) % n):=by
 have hne:i≠j:=fun e=>h2 (e▸h1)
 have hjm:(i+(j+n - i)) % n=j:=by rw [show i+(j+n - i)=j+n by omega,Nat.add_mod_right,Nat.mod_eq_of_lt hj]
 obtain ⟨m,m1,m2,m3,m4⟩:=zGM (fun m=>P ((i+m) % n)) (s:=0) (e:=j+n - i) oP (by show P ((i+0) % n);rw [Nat.add_zero,Nat.mod_eq_of_lt hi];exact h1)
 refine ⟨(i+(m - 1)) % n,Nat.mod_lt _ oP,m3 (m - 1) (Nat.zero_le _) oP, ?_⟩
 rw [Nat.mod_add_mod,show i+(m - 1)+1=i+m by omega]
 rcases m4 with e|e
 ·rw [e,hjm];exact h2
 ·exact e
theorem zHr {f:Nat->Bool}: ∀{n:Nat},(∀k,k<n->f k=false)->zCJ f n=0
 |0,_=>rfl
 |n+1,h=>by rw [zMD (h n oP),zHr fun k hk=>h k oP]
theorem zJB {f:Nat->Bool} {r s:Nat} (hrs:r≠s): ∀{n:Nat},(∀k,k<n->k≠r->k≠s->f k=false)->zCJ f n=(if r<n/\f r=true then 1 else 0)+(if s<n/\f s=true then 1 else 0)
 |0,_=>by rw [if_neg oP,if_neg oP];rfl
 | n+1,h=>by
  have ih:=zJB hrs (n:=n) fun k hk=>h k oP
  by_cases e:f n=true
  ·rw [zPw e,ih]
   by_cases hr:n=r
   ·subst hr
    rw [if_neg (show ¬(n<n/\f n=true) by omega),if_pos (show n<n+1/\f n=true from ⟨by omega,e⟩)]
    by_cases c:s<n/\f s=true
    ·rw [if_pos c,if_pos ⟨by omega,c.2⟩]
    ·rw [if_neg c,if_neg (fun c'=>c ⟨by omega,c'.2⟩)]
   ·by_cases hs:n=s
    ·subst hs
     rw [if_neg (show ¬(n<n/\f n=true) by omega),if_pos (show n<n+1/\f n=true from ⟨by omega,e⟩)]
     by_cases c:r<n/\f r=true
     ·rw [if_pos c,if_pos ⟨by omega,c.2⟩]
     ·rw [if_neg c,if_neg (fun c'=>c ⟨by omega,c'.2⟩)]
    ·rw [h n oP hr hs] at e;exact absurd e dB
  ·have e':f n=false:=by simpa using e
   rw [zMD e',ih]
   have k: ∀x,(x<n+1/\f x=true)↔(x<n/\f x=true):=fun x=>⟨fun ⟨a,b⟩=>⟨by
    rcases Nat.lt_or_eq_of_le (Nat.le_of_lt_succ a) with q|q
    ·exact q
    ·rw [q] at b;exact absurd b e,b⟩,fun ⟨a,b⟩=>⟨by omega,b⟩⟩
   simp only [k]
theorem zCz {a b:V2} {y:Rat} (h1:a.2<=y) (h2:y<b.2): ∃X t:Rat,0<=t/\t<1/\(∀f:Aff,f.v (X,y)=f.v a*(1 - t)+f.v b*t)/\ ∀x,crs a b (x,y)=(b.2 - a.2)*(X - x):=by
 have hd:0<b.2 - a.2:=by grind
 have e:(y - a.2) / (b.2 - a.2)*(b.2 - a.2)=y - a.2:=Rat.div_mul_cancel (by grind)
 generalize (y - a.2) / (b.2 - a.2)=t at e
 have t0:0<=t:=by
  apply Classical.byContradiction
  intro hx
  have:=Rat.mul_pos (show 0< -t by grind) hd
  grind
 have t1:t<1:=by
  apply Classical.byContradiction
  intro hx
  have:=Rat.mul_nonneg (show 0<=t - 1 by grind) (Rat.le_of_lt hd)
  grind
 refine ⟨a.1+(b.1 - a.1)*t,t,t0,t1,fun f=> ?_,fun x=> ?_⟩
 ·have hy:y=a.2+(b.2 - a.2)*t:=by grind
  unfold Aff.v
  simp only
  rw [hy]
  grind
 ·unfold crs
  simp only
  have:(b.1 - a.1)*(y - a.2)=(b.1 - a.1)*t*(b.2 - a.2):=by rw [<-e];grind
  rw [this]
  grind
theorem zE1 {u v t:Rat} (hu:0<=u) (hv:0<=v) (h0:0<=t) (h1:t<=1):0<=u*(1 - t)+v*t:=by
 have k1:=Rat.mul_nonneg hu (show 0<=1 - t by grind)
 have k2:=Rat.mul_nonneg hv h0
 grind
theorem zEf {u v t:Rat} (hu:0<=u) (hv:0<=v) (h0:0<=t) (h1:t<1) (h:u*(1 - t)+v*t=0):u=0:=by
 have k2:=Rat.mul_nonneg hv h0
 apply Classical.byContradiction
 intro hx
 have k1:=Rat.mul_pos (show 0<u by grind) (show 0<1 - t by grind)
 grind
def nx (l:List V2) (k:Nat):Nat:=(k+1) % l.length
theorem zFj {l:List V2} (h:0<l.length) (k:Nat):nx l k<l.length:=Nat.mod_lt _ h
theorem zLF {l:List V2} (h3:3<=l.length) {i:Nat} (hi:i<l.length):nx l i≠i/\nx l (nx l i)≠i/\nx l (nx l i)≠nx l i:=by
 unfold nx
 rcases Nat.lt_or_ge (i+1) l.length with q|q
 ·rw [Nat.mod_eq_of_lt q]
  rcases Nat.lt_or_ge (i+1+1) l.length with q'|q'
  ·rw [Nat.mod_eq_of_lt q'];omega
  ·rw [show i+1+1=l.length by omega,Nat.mod_self];omega
 ·rw [show i+1=l.length by omega,Nat.mod_self,Nat.mod_eq_of_lt (show 0+1<l.length by omega)];omega
theorem zO6 {l:List V2} {i j:Nat} (hi:i<l.length) (hj:j<l.length) (h:nx l i=nx l j):i=j:=by
 unfold nx at h
 rcases Nat.lt_or_ge (i+1) l.length with q|q<;>rcases Nat.lt_or_ge (j+1) l.length with q'|q'
 ·rw [Nat.mod_eq_of_lt q,Nat.mod_eq_of_lt q'] at h;omega
 ·rw [Nat.mod_eq_of_lt q,show j+1=l.length by omega,Nat.mod_self] at h;omega
 ·rw [show i+1=l.length by omega,Nat.mod_self,Nat.mod_eq_of_lt q'] at h;omega
 ·omega
def zTo (l:List V2) (y:Rat) (k:Nat):Prop:=(at_ l k).2<=y/\y<(at_ l (nx l k)).2
def zTs (l:List V2) (y:Rat) (k:Nat):Prop:=(at_ l (nx l k)).2<=y/\y<(at_ l k).2
theorem Conv.zero {l:List V2} (h:Conv l) {i k:Nat} (hi:i<l.length) (hk:k<l.length) (e:edg l i (at_ l k)=0):k=i∨k=nx l i:=by
 apply Classical.byContradiction
 intro hn
 have:=h.strict i k hi hk (fun q=>hn (.inl q)) (fun q=>hn (.inr q))
 grind
theorem Conv.up_one {l:List V2} (h:Conv l) {y:Rat} {i j:Nat} (hi:i<l.length) (hj:j<l.length) (ui:zTo l y i) (uj:zTo l y j):i=j:=by
 have h3:=h.three
 obtain ⟨X,t,t0,t1,f1,c1⟩:=zCz ui.1 ui.2
 obtain ⟨Z,s,s0,s1,f2,c2⟩:=zCz uj.1 uj.2
 have hpi:=zFj (l:=l) oP i
 have hpj:=zFj (l:=l) oP j
 have a1:0<=edg l j (X,y):=by rw [<-zAH,f1,zAH,zAH];exact zE1 (h.left j i hj hi) (h.left j _ hj hpi) t0 (Rat.le_of_lt t1)
 have a2:0<=edg l i (Z,y):=by rw [<-zAH,f2,zAH,zAH];exact zE1 (h.left i j hi hj) (h.left i _ hi hpj) s0 (Rat.le_of_lt s1)
 have b1:edg l j (X,y)=((at_ l (nx l j)).2 - (at_ l j).2)*(Z - X):=c2 X
 have b2:edg l i (Z,y)=((at_ l (nx l i)).2 - (at_ l i).2)*(X - Z):=c1 Z
 have le: ∀{d u:Rat},0<d->0<=d*u->0<=u:=fun {d u} hd hu=>by
  apply Classical.byContradiction
  intro hx
  have:=Rat.mul_pos hd (show 0< -u by grind)
  grind
 have d1:0<=Z - X:=le (d:=(at_ l (nx l j)).2 - (at_ l j).2) (by have:=uj.1;have:=uj.2;grind) (by rw [<-b1];exact a1)
 have d2:0<=X - Z:=le (d:=(at_ l (nx l i)).2 - (at_ l i).2) (by have:=ui.1;have:=ui.2;grind) (by rw [<-b2];exact a2)
 have e:Z - X=0:=by grind
 have e':X - Z=0:=by grind
 rw [e] at b1
 rw [e'] at b2
 have z1:edg l j (at_ l i)=0:=by
  refine zEf (h.left j i hj hi) (h.left j _ hj hpi) t0 t1 ?_
  rw [<-zAH, <-zAH, <-f1,zAH,b1];grind
 have z2:edg l i (at_ l j)=0:=by
  refine zEf (h.left i j hi hj) (h.left i _ hi hpj) s0 s1 ?_
  rw [<-zAH, <-zAH, <-f2,zAH,b2];grind
 rcases h.zero hj hi z1 with q|q
 ·exact q
 ·rcases h.zero hi hj z2 with q'|q'
  ·exact q'.symm
  ·have:=zLF h3 hi
   rw [<-q', <-q] at this
   exact absurd rfl this.2.1
theorem Conv.dn_one {l:List V2} (h:Conv l) {y:Rat} {i j:Nat} (hi:i<l.length) (hj:j<l.length) (ui:zTs l y i) (uj:zTs l y j):i=j:=by
 have h3:=h.three
 obtain ⟨X,t,t0,t1,f1,c1⟩:=zCz ui.1 ui.2
 obtain ⟨Z,s,s0,s1,f2,c2⟩:=zCz uj.1 uj.2
 have hpi:=zFj (l:=l) oP i
 have hpj:=zFj (l:=l) oP j
 have sw: ∀a b p:V2,crs a b p= - crs b a p:=fun a b p=>by unfold crs;grind
 have a1:0<=edg l j (X,y):=by rw [<-zAH,f1,zAH,zAH];exact zE1 (h.left j _ hj hpi) (h.left j i hj hi) t0 (Rat.le_of_lt t1)
 have a2:0<=edg l i (Z,y):=by rw [<-zAH,f2,zAH,zAH];exact zE1 (h.left i _ hi hpj) (h.left i j hi hj) s0 (Rat.le_of_lt s1)
 have b1:edg l j (X,y)=((at_ l j).2 - (at_ l (nx l j)).2)*(X - Z):=by
  have:=c2 X
  show crs (at_ l j) (at_ l (nx l j)) (X,y)=_
  rw [sw,this];grind
 have b2:edg l i (Z,y)=((at_ l i).2 - (at_ l (nx l i)).2)*(Z - X):=by
  have:=c1 Z
  show crs (at_ l i) (at_ l (nx l i)) (Z,y)=_
  rw [sw,this];grind
 have le: ∀{d u:Rat},0<d->0<=d*u->0<=u:=fun {d u} hd hu=>by
  apply Classical.byContradiction
  intro hx
  have:=Rat.mul_pos hd (show 0< -u by grind)
  grind
 have d1:0<=X - Z:=le (d:=(at_ l j).2 - (at_ l (nx l j)).2) (by have:=uj.1;have:=uj.2;grind) (by rw [<-b1];exact a1)
 have d2:0<=Z - X:=le (d:=(at_ l i).2 - (at_ l (nx l i)).2) (by have:=ui.1;have:=ui.2;grind) (by rw [<-b2];exact a2)
 have e:X - Z=0:=by grind
 have e':Z - X=0:=by grind
 rw [e] at b1
 rw [e'] at b2
 have z1:edg l j (at_ l (nx l i))=0:=by
  refine zEf (h.left j _ hj hpi) (h.left j i hj hi) t0 t1 ?_
  rw [<-zAH, <-zAH, <-f1,zAH,b1];grind
 have z2:edg l i (at_ l (nx l j))=0:=by
  refine zEf (h.left i _ hi hpj) (h.left i j hi hj) s0 s1 ?_
  rw [<-zAH, <-zAH, <-f2,zAH,b2];grind
 rcases h.zero hj hpi z1 with q|q
 ·rcases h.zero hi hpj z2 with q'|q'
  ·have:=zLF h3 hi
   rw [q,q'] at this
   exact absurd rfl this.2.1
  ·exact (zO6 hj hi q').symm
 ·exact zO6 hi hj q
theorem zC6 {a b p:V2}:(z5 a b p=1)↔0<crs a b p:=by
 unfold z5
 have h:=@Rat.num_nonneg (crs a b p)
 have h0:=@Rat.num_eq_zero (crs a b p)
 rw [Int.sign_eq_one_iff_pos]
 constructor
 ·intro k
  have k1:=h.1 oP
  have k2:crs a b p≠0:=fun e=>by have:=h0.2 e;omega
  grind
 ·intro k
  have k1:=h.2 (Rat.le_of_lt k)
  have k2:(crs a b p).num≠0:=fun e=>by have:=h0.1 e;grind
  omega
theorem zGI {a b p:V2}:(z5 a b p= -1)↔crs a b p<0:=by
 unfold z5
 rw [Int.sign_eq_neg_one_iff_neg, <-Int.not_le,Rat.num_nonneg,Rat.not_le]
theorem zJP {a b p:V2}:(z5 a b p=0)↔crs a b p=0:=by
 unfold z5
 rw [Int.sign_eq_zero_iff_zero,Rat.num_eq_zero]
theorem qle {p q:Rat}:qsg p q<=0↔p<=q:=by
 rcases zEU p q with e|e|e
 ·rw [e];exact ⟨fun _=>Rat.le_of_lt (zIQ.1 e),fun _=>by decide⟩
 ·rw [e];exact ⟨fun _=>by rw [zD6.1 e];exact Rat.le_refl,fun _=>by decide⟩
 ·rw [e];exact ⟨fun h=>absurd h dB,fun h=>absurd (zGU.1 e) (Rat.not_lt.2 h)⟩
theorem qlt {p q:Rat}:qsg p q<0↔p<q:=by
 rcases zEU p q with e|e|e
 ·rw [e];exact ⟨fun _=>zIQ.1 e,fun _=>by decide⟩
 ·rw [e];exact ⟨fun h=>absurd h dB,fun h=>by rw [zD6.1 e] at h;exact absurd h (Rat.lt_irrefl)⟩
 ·rw [e];exact ⟨fun h=>absurd h dB,fun h=>absurd (zGU.1 e) (Rat.not_lt.2 (Rat.le_of_lt h))⟩
theorem qgt {p q:Rat}:qsg p q>0↔q<p:=by
 have:=qlt (p:=q) (q:=p)
 rw [zHU p q] at this
 exact ⟨fun h=>this.1 oP,fun h=>by have:=this.2 h;omega⟩
theorem zJx {a b p:V2}:zRn a b p=true↔a.2<=p.2/\p.2<b.2/\0<crs a b p:=by
 unfold zRn
 rw [Bool.and_eq_true,Bool.and_eq_true,decide_eq_true_iff,decide_eq_true_iff,qle,qlt,beq_iff_eq,zC6]
 exact ⟨fun ⟨⟨a,b⟩,c⟩=>⟨a,b,c⟩,fun ⟨a,b,c⟩=>⟨⟨a,b⟩,c⟩⟩
theorem zDv {a b p:V2}:zCP a b p=true↔(a.2<=p.2/\p.2<b.2/\0<crs a b p)∨(b.2<=p.2/\p.2<a.2/\crs a b p<0):=by
 have sw:crs b a p= - crs a b p:=by unfold crs;grind
 unfold zCP
 split
 ·rename_i h
  have:=qgt.1 h
  rw [zJx,sw]
  exact ⟨fun ⟨h1,h2,h3⟩=> .inr ⟨h1,h2,by grind⟩,fun h=>by
   rcases h with ⟨h1,h2,h3⟩|⟨h1,h2,h3⟩
   ·exfalso;grind
   ·exact ⟨h1,h2,by grind⟩⟩
 ·rename_i h
  have: ¬b.2<a.2:=fun k=>h (qgt.2 k)
  rw [zJx]
  exact ⟨fun h=> .inl h,fun h=>by
   rcases h with h|⟨h1,h2,h3⟩
   ·exact h
   ·exfalso;grind⟩
theorem zPv {a b r:Rat} (h:zB7 a b r=true):(a<=r/\r<=b)∨(b<=r/\r<=a):=by
 unfold zB7 zO1 at h
 rw [Bool.and_eq_true,decide_eq_true_iff] at h
 obtain ⟨h1,h2⟩:=h
 rcases zEU a r with e|e|e
 ·have k:=zIQ.1 e
  rw [e] at h1
  have:qsg r b<=0:=by omega
  exact .inl ⟨Rat.le_of_lt k,qle.1 this⟩
 ·have k:=zD6.1 e
  rw [k]
  rcases (Rat.le_total:r<=b∨b<=r) with q|q
  ·exact .inl ⟨Rat.le_refl,q⟩
  ·exact .inr ⟨q,Rat.le_refl⟩
 ·have k:=zGU.1 e
  rw [e] at h1
  have h1':0<=qsg r b:=by omega
  have:b<=r:=by
   rcases zEU r b with q|q|q
   ·omega
   ·rw [zD6.1 q];exact Rat.le_refl
   ·exact Rat.le_of_lt (zGU.1 q)
  exact .inr ⟨this,Rat.le_of_lt k⟩
theorem zTM {a b p:V2} (hab:a≠b) (h:onB a b p=true):OnE a b p:=by
 unfold onB at h
 rw [Bool.and_eq_true,Bool.and_eq_true,beq_iff_eq,zJP] at h
 obtain ⟨⟨h0,h1⟩,h2⟩:=h
 have c1:=zPv h1
 have c2:=zPv h2
 have key: ∀{d e n:Rat},d≠0->((0<=e/\e<=d)∨(d<=e/\e<=0))-> ∃t:Rat,0<=t/\t<=1/\d*t=e:=fun {d e n} hd hb=>by
  have q:e / d*d=e:=Rat.div_mul_cancel hd
  generalize e / d=t at q
  refine ⟨t, ?_, ?_,by grind⟩
  ·apply Classical.byContradiction
   intro hx
   rcases (Rat.le_total:0<=d∨d<=0) with k|k
   ·have:=Rat.mul_pos (show 0< -t by grind) (show 0<d by grind);grind
   ·have:=Rat.mul_pos (show 0< -t by grind) (show 0< -d by grind);grind
  ·apply Classical.byContradiction
   intro hx
   rcases (Rat.le_total:0<=d∨d<=0) with k|k
   ·have:=Rat.mul_pos (show 0<t - 1 by grind) (show 0<d by grind);grind
   ·have:=Rat.mul_pos (show 0<t - 1 by grind) (show 0< -d by grind);grind
 unfold crs at h0
 by_cases e:b.1 - a.1=0
 ·have e2:b.2 - a.2≠0:=fun e2=>hab (Prod.ext (by grind) (by grind))
  obtain ⟨t,t0,t1,t2⟩:=key (d:=b.2 - a.2) (e:=p.2 - a.2) (n:=0) e2 (by grind)
  exact ⟨t,t0,t1,Prod.ext (by show p.1=_;grind) (by show p.2=_;grind)⟩
 ·obtain ⟨t,t0,t1,t2⟩:=key (d:=b.1 - a.1) (e:=p.1 - a.1) (n:=0) e (by grind)
  refine ⟨t,t0,t1,Prod.ext (by show p.1=_;grind) ?_⟩
  show p.2=a.2+(b.2 - a.2)*t
  rw [<-t2] at h0
  have:(b.1 - a.1)*((p.2 - a.2) - (b.2 - a.2)*t)=0:=by grind
  rcases Rat.mul_eq_zero.1 this with k|k
  ·exact absurd k e
  ·grind
theorem zTL {a b p:V2} (h:OnE a b p):onB a b p=true:=by
 obtain ⟨t,h0,h1,rfl⟩:=h
 exact zR1 h0 h1
theorem Conv.ne' {l:List V2} (h:Conv l) {i:Nat} (hi:i<l.length):at_ l i≠at_ l (nx l i):=fun e=>by
 have h3:=h.three
 have n:=zLF h3 hi
 have k:=h.strict i (nx l (nx l i)) hi (zFj oP _) n.2.1 n.2.2
 unfold edg at k
 rw [show (i+1) % l.length=nx l i from rfl, <-e] at k
 unfold crs at k
 grind
theorem Conv.on_edge {l:List V2} (h:Conv l) {p:V2} (hp: ∀i,i<l.length->0<=edg l i p) {i:Nat} (hi:i<l.length) (hz:edg l i p=0):OnE (at_ l i) (at_ l (nx l i)) p:=by
 have h3:=h.three
 have hn:=zLF h3 hi
 have hni:=zFj (l:=l) oP i
 have hne:=h.ne' hi
 obtain ⟨j,hj,hj1,_⟩:=zHW h3 hi
 generalize ha:at_ l i=a at*
 generalize hb:at_ l (nx l i)=b at*
 have hz':crs a b p=0:=by rw [<-ha, <-hb];exact hz
 -- a place on the line
 obtain ⟨t,ht⟩: ∃t:Rat,p=(a.1+(b.1 - a.1)*t,a.2+(b.2 - a.2)*t):=by
  unfold crs at hz'
  by_cases e:b.1 - a.1=0
  ·have e2:b.2 - a.2≠0:=fun e2=>hne (Prod.ext (by grind) (by grind))
   have q:(p.2 - a.2) / (b.2 - a.2)*(b.2 - a.2)=p.2 - a.2:=Rat.div_mul_cancel e2
   generalize (p.2 - a.2) / (b.2 - a.2)=t at q
   refine ⟨t,Prod.ext ?_ (by show p.2=_;grind)⟩
   show p.1=a.1+(b.1 - a.1)*t
   rw [e] at hz'
   have:(b.2 - a.2)*(p.1 - a.1)=0:=by grind
   rcases Rat.mul_eq_zero.1 this with k|k
   ·exact absurd k e2
   ·grind
  ·have q:(p.1 - a.1) / (b.1 - a.1)*(b.1 - a.1)=p.1 - a.1:=Rat.div_mul_cancel e
   generalize (p.1 - a.1) / (b.1 - a.1)=t at q
   refine ⟨t,Prod.ext (by show p.1=_;grind) ?_⟩
   show p.2=a.2+(b.2 - a.2)*t
   rw [<-q] at hz'
   have:(b.1 - a.1)*((p.2 - a.2) - (b.2 - a.2)*t)=0:=by grind
   rcases Rat.mul_eq_zero.1 this with k|k
   ·exact absurd k e
   ·grind
 have mix: ∀c d:V2,crs c d p=crs c d a*(1 - t)+crs c d b*t:=fun c d=>by rw [ht];unfold crs;grind
 refine ⟨t, ?_, ?_,ht⟩
 ·-- the edge before
  apply Classical.byContradiction
  intro hx
  have k1:=hp j hj
  have k0:edg l j a=0:=by rw [<-ha];unfold edg;rw [hj1];unfold crs;grind
  have k2:0<edg l j b:=by
   rw [<-hb]
   refine h.strict j (nx l i) hj hni ?_ ?_
   ·intro e
    have:=zLF h3 hj
    rw [show nx l j=i from hj1,e] at this
    exact absurd rfl this.2.1
   ·rw [hj1];exact hn.1
  unfold edg at k0 k1 k2
  rw [mix,k0] at k1
  have:=Rat.mul_pos k2 (show 0< -t by grind)
  grind
 ·apply Classical.byContradiction
  intro hx
  have k1:=hp (nx l i) hni
  have k0:edg l (nx l i) b=0:=by rw [<-hb];unfold edg crs;grind
  have k2:0<edg l (nx l i) a:=by
   rw [<-ha]
   exact h.strict (nx l i) i hni hi hn.1.symm hn.2.1.symm
  unfold edg at k0 k1 k2
  rw [mix,k0] at k1
  have:=Rat.mul_pos k2 (show 0<t - 1 by grind)
  grind
theorem Conv.on_in {l:List V2} (h:Conv l) {p:V2} {k:Nat} (hk:k<l.length) (ho:OnE (at_ l k) (at_ l (nx l k)) p) {i:Nat} (hi:i<l.length):0<=edg l i p:=by
 obtain ⟨t,t0,t1,rfl⟩:=ho
 have k1:=h.left i k hi hk
 have k2:=h.left i (nx l k) hi (zFj oP k)
 have:=zE1 k1 k2 t0 t1
 have e:edg l i ((at_ l k).1+((at_ l (nx l k)).1 - (at_ l k).1)*t,(at_ l k).2+((at_ l (nx l k)).2 - (at_ l k).2)*t)=edg l i (at_ l k)*(1 - t)+edg l i (at_ l (nx l k))*t:=by unfold edg crs;grind
 rw [e];exact this
theorem zS7 {l:List V2} {p:V2} {i:Nat}:edg l i p=crs (at_ l i) (at_ l (nx l i)) p:=rfl
theorem zMF {l:List V2} {y:Rat} {i j:Nat} (hi:i<l.length) (hj:j<l.length) (h1:(at_ l i).2<=y) (h2:y<(at_ l j).2):(∃r,r<l.length/\zTo l y r)/\ ∃s,s<l.length/\zTs l y s:=by
 constructor
 ·obtain ⟨k,hk,k1,k2⟩:=cyc (P:=fun k=>(at_ l k).2<=y) hi hj h1 (by grind)
  exact ⟨k,hk,k1,by show y<(at_ l ((k+1) % l.length)).2;grind⟩
 ·obtain ⟨k,hk,k1,k2⟩:=cyc (P:=fun k=>y<(at_ l k).2) hj hi h2 (by grind)
  exact ⟨k,hk,by show (at_ l ((k+1) % l.length)).2<=y;grind,k1⟩
theorem zL3 {P Q:Prop} [Decidable P] [Decidable Q] (h:P↔Q):(if P then 1 else 0:Nat)=if Q then 1 else 0:=by
 by_cases c:P
 ·rw [if_pos c,if_pos (h.1 c)]
 ·rw [if_neg c,if_neg (fun q=>c (h.2 q))]
theorem Conv.count {l:List V2} (h:Conv l) {p:V2} {r s:Nat} (hr:r<l.length) (hs:s<l.length) (ur:zTo l p.2 r) (ds:zTs l p.2 s):zCJ (crK l p) l.length=(if 0<edg l r p then 1 else 0)+(if edg l s p<0 then 1 else 0):=by
 have hrs:r≠s:=fun e=>by
  subst e
  have a:=ur.1
  have b:=ur.2
  have c:=ds.1
  have d:=ds.2
  grind
 rw [zJB hrs fun k hk h1 h2=> ?_]
 ·congr 1
  ·refine zL3 ?_
   show (_/\zCP (at_ l r) (at_ l (nx l r)) p=true)↔0<crs (at_ l r) (at_ l (nx l r)) p
   rw [zDv]
   constructor
   ·rintro ⟨_,⟨_,_,k⟩|⟨a,b,_⟩⟩
    ·exact k
    ·have:=ur.1;have:=ur.2;exfalso;grind
   ·exact fun k=>⟨hr, .inl ⟨ur.1,ur.2,k⟩⟩
  ·refine zL3 ?_
   show (_/\zCP (at_ l s) (at_ l (nx l s)) p=true)↔crs (at_ l s) (at_ l (nx l s)) p<0
   rw [zDv]
   constructor
   ·rintro ⟨_,⟨a,b,_⟩|⟨_,_,k⟩⟩
    ·have:=ds.1;have:=ds.2;exfalso;grind
    ·exact k
   ·exact fun k=>⟨hs, .inr ⟨ds.1,ds.2,k⟩⟩
 ·cases hc:crK l p k with
  |false=>rfl
  |true=>
   have:zCP (at_ l k) (at_ l (nx l k)) p=true:=hc
   rw [zDv] at this
   rcases this with ⟨a,b,_⟩|⟨a,b,_⟩
   ·exact absurd (h.up_one hk hr ⟨a,b⟩ ur) h1
   ·exact absurd (h.dn_one hk hs ⟨a,b⟩ ds) h2
theorem zJz {l:List V2} {p:V2} (h:(∀k,k<l.length->(at_ l k).2<=p.2)∨ ∀k,k<l.length->p.2<(at_ l k).2):zCJ (crK l p) l.length=0:=zHr fun k hk=>by
 cases hc:crK l p k with
 |false=>rfl
 | true=>
  have:zCP (at_ l k) (at_ l (nx l k)) p=true:=hc
  rw [zDv] at this
  have hn:=zFj (l:=l) oP k
  rcases h with h|h
  ·have a:=h k hk
   have b:=h _ hn
   exfalso
   grind
  ·have a:=h k hk
   have b:=h _ hn
   exfalso
   grind
theorem Conv.where_off {l:List V2} (h:Conv l) {p:V2} (hno: ∀k,k<l.length-> ¬OnE (at_ l k) (at_ l (nx l k)) p):zY l p=2*((zCJ (crK l p) l.length % 2:Nat):Int) - 1:=by
 have h3:=h.three
 rw [zED,show nE l=l.length from if_pos oP]
 refine if_neg fun k=> ?_
 obtain ⟨i,hi,e⟩:=List.any_eq_true.1 k
 have hi:=List.mem_range.1 hi
 exact hno i hi (zTM (h.ne' hi) e)
theorem Conv.where_in {l:List V2} (h:Conv l) {p:V2} (hp:zPG l p):zY l p=1:=by
 have h3:=h.three
 rw [h.where_off fun k hk ho=>by
  have:=(ho.crs)
  have:=hp k hk
  rw [zS7] at this
  grind]
 obtain ⟨i,hi,him⟩:=zO8 (fun k=>(at_ l k).2) l.length oP
 obtain ⟨j,hj,hjm⟩:=zI9 (fun k=>(at_ l k).2) l.length oP
 have v1: ∀q:V2,Aff.v ⟨0,1,0⟩ q=q.2:=fun q=>by unfold Aff.v;grind
 have v2: ∀q:V2,Aff.v ⟨0,-1,0⟩ q= -q.2:=fun q=>by unfold Aff.v;grind
 have m1:=h.cone_lt ⟨0,1,0⟩ (.inr dB) (at_ l j).2 (fun k hk=>by rw [v1];exact hjm k hk) hp
 have m2:=h.cone_lt ⟨0,-1,0⟩ (.inr dB) (-(at_ l i).2) (fun k hk=>by rw [v2];have:=him k hk;grind) hp
 rw [v1] at m1
 rw [v2] at m2
 obtain ⟨⟨r,hr,ur⟩,s,hs,ds⟩:=zMF hi hj (y:=p.2) (by grind) m1
 rw [h.count hr hs ur ds,if_pos (hp r hr),if_neg (by have:=hp s hs;grind)]
 rfl
theorem Conv.where_out {l:List V2} (h:Conv l) {p:V2} {i:Nat} (hi:i<l.length) (hp:edg l i p<0):zY l p= -1:=by
 have h3:=h.three
 rw [h.where_off fun k hk ho=>by
  have:=h.on_in hk ho hi
  grind]
 have key:zCJ (crK l p) l.length % 2=0:=by
  by_cases c1: ∀k,k<l.length->(at_ l k).2<=p.2
  ·rw [zJz (.inl c1)]
  by_cases c2: ∀k,k<l.length->p.2<(at_ l k).2
  ·rw [zJz (.inr c2)]
  simp only [Classical.not_forall] at c1 c2
  obtain ⟨a,ha,ha'⟩:=c1
  obtain ⟨b,hb,hb'⟩:=c2
  obtain ⟨⟨r,hr,ur⟩,s,hs,ds⟩:=zMF hb ha (y:=p.2) (by grind) (by grind)
  rw [h.count hr hs ur ds]
  obtain ⟨X,t,t0,t1,f1,c1⟩:=zCz ur.1 ur.2
  obtain ⟨Z,v,v0,v1,f2,c2⟩:=zCz ds.1 ds.2
  have hnr:=zFj (l:=l) oP r
  have hns:=zFj (l:=l) oP s
  have gX: ∀k,k<l.length->0<=edg l k (X,p.2):=fun k hk=>by rw [<-zAH,f1,zAH,zAH];exact zE1 (h.left k r hk hr) (h.left k _ hk hnr) t0 (Rat.le_of_lt t1)
  have gZ: ∀k,k<l.length->0<=edg l k (Z,p.2):=fun k hk=>by rw [<-zAH,f2,zAH,zAH];exact zE1 (h.left k _ hk hns) (h.left k s hk hs) v0 (Rat.le_of_lt v1)
  have d1:0<(at_ l (nx l r)).2 - (at_ l r).2:=by have:=ur.1;have:=ur.2;grind
  have d2:0<(at_ l s).2 - (at_ l (nx l s)).2:=by have:=ds.1;have:=ds.2;grind
  have e1: ∀x,edg l r (x,p.2)=((at_ l (nx l r)).2 - (at_ l r).2)*(X - x):=c1
  have e2: ∀x,edg l s (x,p.2)=((at_ l s).2 - (at_ l (nx l s)).2)*(x - Z):=fun x=>by
   have:=c2 x
   have sw:edg l s (x,p.2)= - crs (at_ l (nx l s)) (at_ l s) (x,p.2):=by unfold edg crs;unfold nx;grind
   rw [sw,this];grind
  have mul_le: ∀{d u:Rat},0<d->0<=d*u->0<=u:=fun {d u} hd hu=>by
   apply Classical.byContradiction
   intro hx
   have:=Rat.mul_pos hd (show 0< -u by grind)
   grind
  -- between the two it would be in
  have nb: ¬(Z<=p.1/\p.1<=X):=fun ⟨q1,q2⟩=>by
   have:0<=edg l i p:=by
    have gx:=gX i hi
    have gz:=gZ i hi
    unfold edg crs at gx gz hp ⊢
    simp only at gx gz
    have:=h.left i i hi hi
    rcases (Rat.le_total:0<=(at_ l ((i+1) % l.length)).2 - (at_ l i).2∨(at_ l ((i+1) % l.length)).2 - (at_ l i).2<=0) with k|k
    ·have m:=Rat.mul_nonneg k (show 0<=X - p.1 by grind)
     grind
    ·have m:=Rat.mul_nonneg (show 0<=-((at_ l ((i+1) % l.length)).2 - (at_ l i).2) by grind) (show 0<=p.1 - Z by grind)
     grind
   grind
  have ZX:Z<=X:=by
   have:=mul_le d1 (by rw [<-e1];exact gZ r hr)
   grind
  have pe:p=(p.1,p.2):=rfl
  have x1:(0<edg l r p)↔p.1<X:=by
   rw [pe,e1]
   constructor
   ·intro k
    apply Classical.byContradiction
    intro hx
    have:=Rat.mul_nonneg (Rat.le_of_lt d1) (show 0<=p.1 - X by grind)
    grind
   ·exact fun k=>Rat.mul_pos d1 (by grind)
  have x2:(edg l s p<0)↔p.1<Z:=by
   rw [pe,e2]
   constructor
   ·intro k
    apply Classical.byContradiction
    intro hx
    have:=Rat.mul_nonneg (Rat.le_of_lt d2) (show 0<=p.1 - Z by grind)
    grind
   ·intro k
    have:=Rat.mul_pos d2 (show 0<Z - p.1 by grind)
    grind
  by_cases q:p.1<Z
  ·rw [if_pos (x1.2 (by grind)),if_pos (x2.2 q)]
  ·rw [if_neg (fun k=>nb ⟨by grind,Rat.le_of_lt (x1.1 k)⟩),if_neg (fun k=>q (x2.1 k))]
 rw [key]
 rfl
theorem Conv.where_border {l:List V2} (h:Conv l) {p:V2} (hp: ∀i,i<l.length->0<=edg l i p) {i:Nat} (hi:i<l.length) (hz:edg l i p=0):zY l p=0:=zM1 (by have:=h.three;omega) hi (zTL (h.on_edge hp hi hz))
theorem Conv.where_iff {l:List V2} (h:Conv l) (p:V2):(zY l p=1↔ ∀i,i<l.length->0<edg l i p)/\(zY l p= -1↔ ∃i,i<l.length/\edg l i p<0):=by
 by_cases c1: ∃i,i<l.length/\edg l i p<0
 ·obtain ⟨i,hi,e⟩:=c1
  rw [h.where_out hi e]
  exact ⟨⟨fun k=>absurd k dB,fun k=>by have:=k i hi;exfalso;grind⟩,fun _=>⟨i,hi,e⟩,fun _=>rfl⟩
 ·have c1': ∀i,i<l.length->0<=edg l i p:=fun i hi=>by
   apply Classical.byContradiction
   intro k
   exact c1 ⟨i,hi,by grind⟩
  by_cases c2: ∃i,i<l.length/\edg l i p=0
  ·obtain ⟨i,hi,e⟩:=c2
   rw [h.where_border c1' hi e]
   exact ⟨⟨fun k=>absurd k dB,fun k=>by have:=k i hi;exfalso;grind⟩,fun k=>absurd k dB,fun k=>absurd k c1⟩
  ·have c2': ∀i,i<l.length->0<edg l i p:=fun i hi=>by
    have:=c1' i hi
    have:edg l i p≠0:=fun e=>c2 ⟨i,hi,e⟩
    grind
   rw [h.where_in c2']
   exact ⟨⟨fun _=>c2',fun _=>rfl⟩,fun k=>absurd k dB,fun k=>absurd k c1⟩
theorem zR2 {a b p:V2} (h0:crs a b p=0) (h1:zId (p.1 - a.1,p.2 - a.2) (p.1 - b.1,p.2 - b.2)<=0):onS a b p=true:=by
 unfold onS
 rw [if_neg (by rw [h0];decide)]
 refine decide_eq_true ?_
 have h:=@Rat.num_nonneg (zId (p.1 - a.1,p.2 - a.2) (p.1 - b.1,p.2 - b.2))
 have h0:=@Rat.num_eq_zero (zId (p.1 - a.1,p.2 - a.2) (p.1 - b.1,p.2 - b.2))
 generalize zId (p.1 - a.1,p.2 - a.2) (p.1 - b.1,p.2 - b.2)=q at*
 rcases Int.lt_trichotomy q.num 0 with k|k|k
 ·rw [Int.sign_eq_neg_one_of_neg k];decide
 ·rw [k];decide
 ·exfalso
  have k1:=h.1 oP
  have:q=0:=by grind
  have:=h0.2 this
  omega
theorem zNW {a b p:V2} (h:OnE a b p):onS a b p=true:=by
 refine zR2 h.crs ?_
 obtain ⟨t,t0,t1,rfl⟩:=h
 have k1:=Rat.mul_nonneg t0 (show 0<=1 - t by grind)
 have sq: ∀x:Rat,0<=x*x:=fun x=>by
  rcases (Rat.le_total:0<=x∨x<=0) with k|k
  ·exact Rat.mul_nonneg k k
  ·have:=Rat.mul_nonneg (show 0<=-x by grind) (show 0<=-x by grind);grind
 have k2:=Rat.mul_nonneg k1 (show 0<=(b.1 - a.1)*(b.1 - a.1)+(b.2 - a.2)*(b.2 - a.2) by have:=sq (b.1 - a.1);have:=sq (b.2 - a.2);grind)
 unfold zId
 simp only
 grind
theorem zQG (a b:V2):OnE a b a:=⟨0,by decide,by decide,Prod.ext (by show a.1=a.1+(b.1 - a.1)*0;grind) (by show a.2=a.2+(b.2 - a.2)*0;grind)⟩
theorem zR4 (a b:V2):OnE a b b:=⟨1,by decide,by decide,Prod.ext (by show b.1=a.1+(b.1 - a.1)*1;grind) (by show b.2=a.2+(b.2 - a.2)*1;grind)⟩
theorem zQw {L:List V2} {p:V2}:L≠ []->zFX L p≠ []:=fun h=>by
 unfold zFX
 split
 ·exact h
 ·simp
theorem zNK (L:List V2) (p:V2):zFX L p≠ []:=by
 unfold zFX
 split
 ·rename_i h
  rw [Bool.and_eq_true,decide_eq_true_iff] at h
  intro e
  rw [e] at h
  exact absurd h.1 (by simp)
 ·simp
theorem zMp {a b c d:V2}: ∀(n i:Nat),i<n->(onS a b (at_ [a,b,c,d] i)&&onS c d (at_ [a,b,c,d] i))=true->yM a b c d n≠ []
 | n+1,i,hi,h=>by
  show (if _ then _ else _)≠ []
  by_cases e:i=n
  ·subst e
   rw [if_pos h]
   exact zNK _ _
  ·have ih:=zMp n i oP h
   split
   ·exact zQw ih
   ·exact ih
theorem zNn {a b c d:V2} (hab:a≠b) (hk:zBl a b c d=0) {z:V2} (h1:OnE a b z) (h2:OnE c d z):False:=by
 have hpl:(pns (yM a b c d 4)).length=(yM a b c d 4).length:=by simp [pns]
 unfold zBl at hk
 rw [hpl] at hk
 have hl0: ¬((((yM a b c d 4).length:Nat):Int)≥2):=fun e=>by rw [if_pos e] at hk;exact absurd hk dB
 rw [if_neg hl0] at hk
 have hl1: ¬((((yM a b c d 4).length:Nat):Int)==1)=true:=fun e=>by rw [if_pos e] at hk;exact absurd hk dB
 rw [if_neg hl1] at hk
 have hp: ¬((!(decide (dnm a b c d=0))&&onS a b (yW a b c d))&&onS c d (yW a b c d))=true:=fun e=>by rw [if_pos e] at hk;exact absurd hk dB
 have hnil:yM a b c d 4= []:=by
  rw [beq_iff_eq] at hl1
  exact List.eq_nil_of_length_eq_zero oP
 have no: ∀i,i<4-> ¬(OnE a b (at_ [a,b,c,d] i)/\OnE c d (at_ [a,b,c,d] i)):=fun i hi ⟨k1,k2⟩=>zMp 4 i hi (by rw [zNW k1,zNW k2];rfl) hnil
 have hz:=h2.crs
 by_cases hd:dnm a b c d=0
 ·-- on one line
  have na:=no 0 oP
  have nb:=no 1 oP
  have nc:=no 2 oP
  have ndd:=no 3 oP
  have na': ¬OnE c d a:=fun k=>na ⟨zQG a b,k⟩
  have nb': ¬OnE c d b:=fun k=>nb ⟨zR4 a b,k⟩
  have nc': ¬OnE a b c:=fun k=>nc ⟨k,zQG c d⟩
  have nd': ¬OnE a b d:=fun k=>ndd ⟨k,zR4 c d⟩
  obtain ⟨t,t0,t1,e1⟩:=h1
  obtain ⟨s,s0,s1,e2⟩:=h2
  have u0:((b.1 - a.1,b.2 - a.2):V2)≠(0,0):=fun e=>hab (by
   have q1:=congrArg Prod.fst e
   have q2:=congrArg Prod.snd e
   simp only at q1 q2
   exact Prod.ext (by grind) (by grind))
  have hN:=zIx u0
  simp only at hN
  generalize hN':(b.1 - a.1)*(b.1 - a.1)+(b.2 - a.2)*(b.2 - a.2)=N at hN
  -- places on the line, in parts of a - b
  have zx:z.1=a.1+(b.1 - a.1)*t:=by rw [e1]
  have zy:z.2=a.2+(b.2 - a.2)*t:=by rw [e1]
  have zx':z.1=c.1+(d.1 - c.1)*s:=by rw [e2]
  have zy':z.2=c.2+(d.2 - c.2)*s:=by rw [e2]
  unfold dnm at hd
  -- d - c is along b - a
  have par: ∃m:Rat,d.1 - c.1=(b.1 - a.1)*m/\d.2 - c.2=(b.2 - a.2)*m:=by
   have q:((d.1 - c.1)*(b.1 - a.1)+(d.2 - c.2)*(b.2 - a.2)) / N*N=(d.1 - c.1)*(b.1 - a.1)+(d.2 - c.2)*(b.2 - a.2):=Rat.div_mul_cancel (by grind)
   generalize ((d.1 - c.1)*(b.1 - a.1)+(d.2 - c.2)*(b.2 - a.2)) / N=m at q
   have canc: ∀{x:Rat},x*N=0->x=0:=fun {x} hx=>by
    rcases Rat.mul_eq_zero.1 hx with k|k
    ·exact k
    ·grind
   refine ⟨m, ?_, ?_⟩
   ·have:(d.1 - c.1 - (b.1 - a.1)*m)*N=0:=by
     have e:(b.1 - a.1)*m*N=(b.1 - a.1)*((d.1 - c.1)*(b.1 - a.1)+(d.2 - c.2)*(b.2 - a.2)):=by rw [<-q];grind
     have:(d.1 - c.1 - (b.1 - a.1)*m)*N=(d.1 - c.1)*N - (b.1 - a.1)*m*N:=by grind
     rw [this,e, <-hN']
     grind
    have:=canc this
    grind
   ·have:(d.2 - c.2 - (b.2 - a.2)*m)*N=0:=by
     have e:(b.2 - a.2)*m*N=(b.2 - a.2)*((d.1 - c.1)*(b.1 - a.1)+(d.2 - c.2)*(b.2 - a.2)):=by rw [<-q];grind
     have:(d.2 - c.2 - (b.2 - a.2)*m)*N=(d.2 - c.2)*N - (b.2 - a.2)*m*N:=by grind
     rw [this,e, <-hN']
     grind
    have:=canc this
    grind
  obtain ⟨m,m1,m2⟩:=par
  -- c at t - m s, d at t + m (1 - s)
  have cx:c.1=a.1+(b.1 - a.1)*(t - m*s):=by rw [m1] at zx';grind
  have cy:c.2=a.2+(b.2 - a.2)*(t - m*s):=by rw [m2] at zy';grind
  have dx:d.1=a.1+(b.1 - a.1)*(t - m*s+m):=by grind
  have dy:d.2=a.2+(b.2 - a.2)*(t - m*s+m):=by grind
  have kc: ¬(0<=t - m*s/\t - m*s<=1):=fun k=>nc' ⟨_,k.1,k.2,Prod.ext cx cy⟩
  have kd: ¬(0<=t - m*s+m/\t - m*s+m<=1):=fun k=>nd' ⟨_,k.1,k.2,Prod.ext dx dy⟩
  -- a at the part r of c - d
  have onx: ∀x:Rat,((t - m*s<=x/\x<=t - m*s+m)∨(t - m*s+m<=x/\x<=t - m*s))->OnE c d (a.1+(b.1 - a.1)*x,a.2+(b.2 - a.2)*x):=fun x hx=>by
   by_cases hm:m=0
   ·have:x=t - m*s:=by subst hm;grind
    rw [this]
    have:=zQG c d
    rwa [show c=(a.1+(b.1 - a.1)*(t - m*s),a.2+(b.2 - a.2)*(t - m*s)) from Prod.ext cx cy] at this ⊢
   ·have q:(x - (t - m*s)) / m*m=x - (t - m*s):=Rat.div_mul_cancel hm
    generalize (x - (t - m*s)) / m=r at q
    refine ⟨r, ?_, ?_,Prod.ext (by show _=c.1+(d.1 - c.1)*r;rw [m1,cx];grind) (by show _=c.2+(d.2 - c.2)*r;rw [m2,cy];grind)⟩
    ·apply Classical.byContradiction
     intro hr
     rcases (Rat.le_total:0<=m∨m<=0) with k|k
     ·have:=Rat.mul_pos (show 0< -r by grind) (show 0<m by grind);grind
     ·have:=Rat.mul_pos (show 0< -r by grind) (show 0< -m by grind);grind
    ·apply Classical.byContradiction
     intro hr
     rcases (Rat.le_total:0<=m∨m<=0) with k|k
     ·have:=Rat.mul_pos (show 0<r - 1 by grind) (show 0<m by grind);grind
     ·have:=Rat.mul_pos (show 0<r - 1 by grind) (show 0< -m by grind);grind
  have onxa: ¬((t - m*s<=0/\0<=t - m*s+m)∨(t - m*s+m<=0/\0<=t - m*s)):=fun k=>na' (by
   have:=onx 0 k
   rwa [show ((a.1+(b.1 - a.1)*0,a.2+(b.2 - a.2)*0):V2)=a from Prod.ext (by show a.1+_*0=a.1;grind) (by show a.2+_*0=a.2;grind)] at this)
  -- t lies between the two
  have bt:(t - m*s<=t/\t<=t - m*s+m)∨(t - m*s+m<=t/\t<=t - m*s):=by
   rcases (Rat.le_total:0<=m∨m<=0) with k|k
   ·have:=Rat.mul_nonneg k s0
    have:=Rat.mul_nonneg k (show 0<=1 - s by grind)
    exact .inl ⟨by grind,by grind⟩
   ·have:=Rat.mul_nonneg (show 0<=-m by grind) s0
    have:=Rat.mul_nonneg (show 0<=-m by grind) (show 0<=1 - s by grind)
    exact .inr ⟨by grind,by grind⟩
  generalize t - m*s=x at*
  generalize x+m=y at*
  grind
 ·-- the lines' one point
  obtain ⟨t,t0,t1,e1⟩:=h1
  have e3:crs c d (seg a b t)=tnm a c d - t*dnm a b c d:=by
   unfold crs seg tnm dnm
   grind
  have e4:z=seg a b t:=e1
  rw [e4,e3] at hz
  have et:tnm a c d / dnm a b c d=t:=by
   rw [show tnm a c d=t*dnm a b c d by grind]
   rw [Rat.div_def,Rat.mul_assoc,Rat.mul_inv_cancel _ hd,Rat.mul_one]
  have ez:yW a b c d=z:=by
   unfold yW
   rw [if_neg hd,et,e4]
  refine hp ?_
  rw [ez,zNW ⟨t,t0,t1,e1⟩,zNW h2,decide_eq_false hd]
  rfl
theorem zJC {p q:V2} (h:p=q):(zAP p q==0)=true:=by
 subst h
 unfold zAP
 rw [if_pos (zD6.2 rfl),zD6.2 rfl]
 rfl
theorem zKG {l:List V2} (h:zDE l=true) (hl: ∀i,i<l.length->0<crs (at_ l i) (at_ l ((i+1) % l.length)) (at_ l ((i+2) % l.length))):Conv l:=by
 unfold zDE at h
 rw [Bool.and_eq_true,decide_eq_true_iff,List.all_eq_true] at h
 obtain ⟨h3,h⟩:=h
 have good: ∀i k,k<i->i<l.length->(zAP (at_ l i) (at_ l k)==0)=false/\zAv l k i=true:=fun i k hk hi=>by
  have:=List.all_eq_true.1 (h i (List.mem_range.2 hi)) k (List.mem_range.2 hk)
  unfold zOj at this
  rw [Bool.not_eq_true',Bool.or_eq_false_iff,Bool.not_eq_false'] at this
  exact this
 have ne: ∀i k,i<l.length->k<l.length->i≠k->at_ l i≠at_ l k:=fun i k hi hk hik e=>by
  rcases Nat.lt_or_gt_of_ne hik with q|q
  ·have:=(good k i q hk).1
   rw [zJC e.symm] at this
   exact absurd this dB
  ·have:=(good i k q hi).1
   rw [zJC e] at this
   exact absurd this dB
 have nxe: ∀k,k<l.length->(k+1) % l.length=if k+1=l.length then 0 else k+1:=fun k hk=>by
  split
  ·rename_i e;rw [e,Nat.mod_self]
  ·exact Nat.mod_eq_of_lt oP
 have ap: ∀k i,k<i->i<l.length->i≠(k+1) % l.length->k≠(i+1) % l.length-> ∀z,OnE (at_ l k) (at_ l ((k+1) % l.length)) z->OnE (at_ l i) (at_ l ((i+1) % l.length)) z->False:=fun k i hki hi h1 h2 z o1 o2=>by
  have:=(good i k hki hi).2
  unfold zAv at this
  rw [nxe k oP] at h1
  rw [nxe i hi] at h2
  rw [if_neg (by
   rintro (e|⟨e,e'⟩)
   ·rw [if_neg oP] at h1;omega
   ·rw [if_pos oP] at h2;omega)] at this
  refine zNn (ne k _ oP (Nat.mod_lt _ oP) ?_) (beq_iff_eq.1 this) o1 o2
  rw [nxe k oP]
  split<;>omega
 refine SimpL.conv ⟨h3,hl,fun i j hi hj hij h1 h2 z o1 o2=> ?_,ne⟩
 rcases Nat.lt_or_gt_of_ne hij with q|q
 ·exact ap i j q hj h1 h2 z o1 o2
 ·exact ap j i q hi h2 h1 z o2 o1
end Go.Proofs.Wd

namespace Go.Proofs.Wd
set_option maxRecDepth 100000
set_option maxHeartbeats 1000000
open Go.RowKit Lb
abbrev zns (L:List Int):List CU:=L.map fun z=>CU.is [.int .i64 z]
def pvx (ps:List V2) (k:Nat):Nat:=(k+ps.length - 1) % ps.length
def zEG (ps:List V2) (k:Nat):Int:=z5 (at_ ps (pvx ps k)) (at_ ps k) (at_ ps ((k+1) % ps.length))
def zCM (ps:List V2) (k:Nat):List Int:=(List.range k).map (zEG ps)
def qC (ps:List V2):List Int:=if ps.length<3 then [] else zCM ps ps.length
theorem zHF (ps:List V2) (k:Nat):zns (zCM ps (k+1))=zns (zCM ps k)++ [CU.is [.int .i64 (zEG ps k)]]:=by simp [zCM,List.range_succ]
theorem zJN (ps:List V2) (k:Nat):(zCM ps k).length=k:=by simp [zCM]
theorem zJM (ps:List V2):(qC ps).length<=ps.length:=by unfold qC;split<;>simp [zCM]
theorem zPI {L:List Int} {k:Nat} (h:k<L.length):(zns L)[k]?=some (CU.is [.int .i64 (L.getD k 0)]):=by
 rw [List.getElem?_map,List.getElem?_eq_getElem h,List.getD_eq_getElem?_getD,List.getElem?_eq_getElem h];rfl
theorem zPJ (z:Int) (cs:List Value) (W:World) (h:(CU.is [.int .i64 z]).p cs W): ∃u,cs[0]?=some u/\(uI z).p u W:=by
 obtain rfl:cs=_:=h
 exact ⟨_,rfl,rfl⟩
def zCL (ps:List V2):Bool:=(qC ps).all (fun z=>z==1)&&zDE ps
theorem zOw {ps:List V2} {k:Nat} (hk:k<(qC ps).length) (h:((qC ps).getD k 0 !=1)=true):zCL ps=false:=by
 unfold zCL
 rw [Bool.and_eq_false_iff]
 left
 rw [List.all_eq_false]
 rw [List.getD_eq_getElem?_getD,List.getElem?_eq_getElem hk] at h
 exact ⟨_,List.getElem_mem hk,by simpa using h⟩
theorem zMA {ps:List V2} (h: ∀j,j<(qC ps).length->((qC ps).getD j 0 !=1)=false):zCL ps=zDE ps:=by
 unfold zCL
 have:(qC ps).all (fun z=>z==1)=true:=by
  rw [List.all_eq_true]
  intro z hz
  obtain ⟨j,hj,rfl⟩:=List.getElem_of_mem hz
  have:=h j hj
  rw [List.getD_eq_getElem?_getD,List.getElem?_eq_getElem hj] at this
  simpa using this
 rw [this,Bool.true_and]
theorem zKk {ps:List V2} (h:zCL ps=true):Conv ps:=by
 unfold zCL at h
 rw [Bool.and_eq_true] at h
 obtain ⟨h1,h2⟩:=h
 have h3:3<=ps.length:=by
  apply Classical.byContradiction
  intro hx
  rw [zIC oP] at h2
  exact absurd h2 dB
 refine zKG h2 fun i hi=> ?_
 unfold qC at h1
 rw [if_neg oP,List.all_eq_true] at h1
 have:=h1 (zEG ps ((i+1) % ps.length)) (List.mem_map.2 ⟨_,List.mem_range.2 (Nat.mod_lt _ oP),rfl⟩)
 have hs:=zC6.1 (beq_iff_eq.1 this)
 have e1:pvx ps ((i+1) % ps.length)=i:=by
  unfold pvx
  rcases Nat.lt_or_ge (i+1) ps.length with q|q
  ·rw [Nat.mod_eq_of_lt q,show i+1+ps.length - 1=i+ps.length by omega,Nat.add_mod_right,Nat.mod_eq_of_lt hi]
  ·rw [show i+1=ps.length by omega,Nat.mod_self,Nat.zero_add,Nat.mod_eq_of_lt oP];omega
 rw [e1,Nat.mod_add_mod] at hs
 exact hs
theorem zIM {m:Nat} {W:World} {u v x:Value} {p q r:V2} (h1:(fPV m p).p u W) (h2:(fPV m q).p v W) (h3:(fPV m r).p x W) (hm:m<=246) (hm0:0<m):Calls Tryz.prog 33 #[u,v,x] W (Ret W (fI (z5 p q r)).toSF):=by
 have hp:=zDd hm0 h1
 have hq:=zDd hm0 h2
 have hr:=zDd hm0 h3
 refine yD [(fPV m p).toSF,(fPV m q).toSF,(fPV m r).toSF] Tryz.func33 rfl kI ⟨h1,h2,h3,trivial⟩ fun a s=> ?_
 refine wpIn_seq ?_
 refine zB 0 [] hmix s kI
  zE fun a w1 s=> ?_
 refine yJ (CU.agg (fPV m p)) rfl s kI (fun v W h=>yP h) fun b3 a w s=> ?_
 refine yJ (CU.agg (fPV m q)) rfl s kI (fun v W h=>yP h) fun b4 a w s=> ?_
 refine yJ (CU.agg (fPV m r)) rfl s kI (fun v W h=>yP h) fun b5 a w s=> ?_
 refine yU (uI 0) rfl s kI iiz fun a w s=> ?_
 refine zA rfl ?_
 refine wpIn_seq ?_
 replace s:=s.drop [6]
 refine zB 9 ((7, .s ((fPV m q).toSF))::(8, .s ((fPV m p).toSF))::(9, .s ((fPN ((q).1 - (p).1,(q).2 - (p).2)).toSF))::(10, .s ((fPV m r).toSF))::(11, .s ((fPV m p).toSF))::(12, .s ((fPN ((r).1 - (p).1,(r).2 - (p).2)).toSF))::(13, .s ((fQN (crs p q r)).toSF))::(14, .s ((uI (z5 p q r)).toSF))::(6, .u (uI (z5 p q r))):: []) hmix s kI
  (oc (zJ (f:=fPV m q) 6 kI (hz:=zP _ _))<|oc (zJ (f:=fPV m p) 6 kI (hz:=zP _ _))<|oc (zH zD zFm (fun u0 u1 W hb (h0:(fPV m q).p u0 W) (h1:(fPV m p).p u1 W)=>zBy (m:=m) (p:=q) (q:=p) h0 h1 oP hm0))<|oc (zJ (f:=fPV m r) 6 kI (hz:=zP _ _))<|oc (zJ (f:=fPV m p) 6 kI (hz:=zP _ _))<|oc (zH zD zFm (fun u0 u1 W hb (h0:(fPV m r).p u0 W) (h1:(fPV m p).p u1 W)=>zBy (m:=m) (p:=r) (q:=p) h0 h1 oP hm0))<|oc (zH zD zOp (fun u0 u1 W hb (h0:(fPN ((q).1 - (p).1,(q).2 - (p).2)).p u0 W) (h1:(fPN ((r).1 - (p).1,(r).2 - (p).2)).p u1 W)=>zER (m:=2*m+1) (p:=((q).1 - (p).1,(q).2 - (p).2)) (q:=((r).1 - (p).1,(r).2 - (p).2)) (zBa (p:=((q).1 - (p).1,(q).2 - (p).2)) (m:=(2*m+1)) ((zAU hq hp).1.mono (by first|omega|decide)) ((zAU hq hp).2.mono (by first|omega|decide)) h0) (zBa (p:=((r).1 - (p).1,(r).2 - (p).2)) (m:=(2*m+1)) ((zAU hr hp).1.mono (by first|omega|decide)) ((zAU hr hp).2.mono (by first|omega|decide)) h1) (zAU hq hp) (zAU hr hp) oP oP))<|oc (zI zD zQ5 (fun u0 W hb (h0:QNp (crs p q r) u0 W)=>zFS (m:=((2*m+1)+(2*m+1)+((2*m+1)+(2*m+1))+1)) (QNp.rv h0 (((zAU hq hp).1.mul (zAU hr hp).2).sub ((zAU hq hp).2.mul (zAU hr hp).1))) oP))<|oc zG<|zE) fun a w2 s=> ?_
 refine zA rfl ?_
 refine wpIn_ret ?_
 exact StS.res1 s (t:=6) rfl iiz
theorem zK6 {m:Nat} {W:World} {l:Value} {ps:List V2} (hl:(SF.row 6 (pvs m ps)).p l W) (hm:m<=246) (hm0:0<m) (hn:ps.length<=1000000):Calls Tryz.prog 76 #[l] W (Ret W (SF.row 1 (zns (qC ps)))):=by
 refine yD [(UF.eq l).toSF] Tryz.func76 rfl kI ⟨rfl,trivial⟩ fun a s=> ?_
 replace s:=s.renew [(0, .u (UF.eq l))] (fmz ⟨.inr ⟨_,rfl, .head _⟩,fnz⟩)
 refine wpIn_seq ?_
 refine zB 1 ((2, .u (UF.eq (.slice none 0 0))):: []) hmix s kI
  (oc zG<|zE) fun a w1 s=> ?_
 refine zA rfl ?_
 refine wpIn_seq ?_
 refine wpIn_seq ?_
 refine zB 3 ((5, .s ((UF.eq l).toSF))::(6, .s ((uI (((pvs m ps).length:Nat):Int)).toSF))::(7, .u (uB (decide (ps.length<3)))):: []) hmix s kI
  (oc zC<|oc (qN (z:=6) (Cs:=pvs m ps) kI (fun v W hb h=>(y5 hl h (s.up hb))) (fun _=>rfl))<|oc (zR .i64 (((pvs m ps).length:Nat):Int) 3 (decide (ps.length<3)) iiz iiz (by simp only [List.length_map];rw [decide_eq_decide];omega) rfl)<|zE) fun a w2 s=> ?_
 refine zA rfl ?_
 refine StS.cond s (decide (ps.length<3)) iiz (fun e=> ?_) (fun e=> ?_)
 ·refine wpIn_seq ?_
  replace s:=s.drop [2]
  refine zB 1 ((2, .u (UF.eq (.slice none 0 0))):: []) hmix s kI
   (oc zG<|zE) fun a w3 s=> ?_
  refine zA rfl ?_
  refine wpIn_ret ?_
  exact StS.resN s (Below.refl _ _) rfl (by rw [s.val (.head _)];rw [show qC ps= [] from if_pos (of_decide_eq_true e)];exact zP3 1 _)
 ·refine wpIn_skip ?_
  refine wpIn_seq ?_
  refine zB 1 ((3, .u (UF.eq (.slice none 0 0))):: []) hmix s kI
   (oc zG<|zE) fun a w4 s=> ?_
  refine zA rfl ?_
  refine wpIn_seq ?_
  refine wpIn_seq ?_
  refine zB 1 ((4, .u (uI 0)):: []) hmix s kI
   (oc zG<|zE) fun a w5 s=> ?_
  refine zA rfl ?_
  refine wpIn_block ?_
  have h3:3<=ps.length:=by have:=of_decide_eq_false e;simp at this;omega
  obtain ⟨base,hbase⟩: ∃b,b=w5.heap.size:=⟨_,rfl⟩
  have hb0:W.heap.size<=base:=by rw [hbase];exact s.gr.size
  have hsz0:base<=w5.heap.size:=by rw [hbase];exact Nat.le_refl _
  refine zHI (fun (p:Nat×Value) w=>p.1<=ps.length/\base<=w.heap.size/\zCb w base 3 1 p.2 (zns (zCM ps p.1))) (fun p=> [(0, .u (UF.eq l)),(3, .u (UF.eq (p.2))),(4, .u (uI (p.1:Int)))]) (fun p=>ps.length - p.1) (0, .slice none 0 0) (⟨Nat.zero_le _,hsz0,zCb.nil _ _ _ _⟩) (s.keepK _ (fmz ⟨mz4,fmz ⟨mz1,fmz ⟨.head _,fnz⟩⟩⟩)) fun p a w hI s=> ?_
  have s0:=s
  have hlw:=(SF.row 6 (pvs m ps)).st _ _ _ hl s0.below
  replace s:=s.reb rfl [(0, .u (UF.eq l)),(3, .u (UF.eq (p.2))),(4, .u (uI (p.1:Int)))] (fmz ⟨.inl (.head _),fmz ⟨.inl mz1,fmz ⟨.inl mz2,fnz⟩⟩⟩)
  refine wpIn_seq ?_
  refine wpIn_seq ?_
  refine zB 4 ((8, .s ((uI (p.1:Int)).toSF))::(9, .s ((UF.eq l).toSF))::(10, .s ((uI (((pvs m ps).length:Nat):Int)).toSF))::(11, .u (uB (decide ((p.1:Int)<(((pvs m ps).length:Nat):Int))))):: []) hmix s kI
   (oc zC<|oc zC<|oc (qN (z:=6) (Cs:=pvs m ps) kI (fun v W hb h=>(y5 hlw h (s.up hb))) (fun _=>rfl))<|oc (zR .i64 (p.1:Int) (((pvs m ps).length:Nat):Int) (decide ((p.1:Int)<(((pvs m ps).length:Nat):Int))) iiz iiz rfl rfl)<|zE) fun a w6 s=> ?_
  refine zA rfl ?_
  refine StS.cond s (decide ((p.1:Int)<(((pvs m ps).length:Nat):Int))) iiz (fun e=> ?_) (fun e=> ?_)
  ·have hk:p.1<ps.length:=by have:=of_decide_eq_true e;simp at this;omega
   have hpi:(pvx ps p.1)<ps.length:=Nat.mod_lt _ oP
   have hni:((p.1+1) % ps.length)<ps.length:=Nat.mod_lt _ oP
   have hlz:(pvs m ps).length=ps.length:=by simp
   refine wpIn_skip ?_
   refine wpIn_seq ?_
   refine wpIn_block ?_
   refine zD3 (K:= [(11, .u (uB (decide ((p.1:Int)<(((pvs m ps).length:Nat):Int))))),(0, .u (UF.eq l)),(4, .u (uI (p.1:Int)))]) [(3, .u (UF.eq (p.2)))] [0,1,2,3,7,12,13,16,17,19] 26 ((14, .u (UF.eq (p.2)))::(15, .s ((UF.eq l).toSF))::(16, .s ((uI (p.1:Int)).toSF))::(17, .s ((UF.eq l).toSF))::(18, .s ((uI (((pvs m ps).length:Nat):Int)).toSF))::(19, .s ((uI ((p.1+ps.length:Nat):Int)).toSF))::(20, .s ((uI ((p.1+ps.length - 1:Nat):Int)).toSF))::(21, .s ((UF.eq l).toSF))::(22, .s ((uI (((pvs m ps).length:Nat):Int)).toSF))::(23, .s ((uI (((pvx ps p.1):Nat):Int)).toSF))::(24, .s (SF.ptr (CU.agg (fPV m (at_ ps (pvx ps p.1)))).cf))::(25, .s ((fPV m (at_ ps (pvx ps p.1))).toSF))::(26, .s ((UF.eq l).toSF))::(27, .s ((uI (p.1:Int)).toSF))::(28, .s (SF.ptr (CU.agg (fPV m (at_ ps p.1))).cf))::(29, .s ((fPV m (at_ ps p.1)).toSF))::(30, .s ((UF.eq l).toSF))::(31, .s ((uI (p.1:Int)).toSF))::(32, .s ((uI ((p.1+1:Nat):Int)).toSF))::(33, .s ((UF.eq l).toSF))::(34, .s ((uI (((pvs m ps).length:Nat):Int)).toSF))::(35, .s ((uI ((((p.1+1) % ps.length):Nat):Int)).toSF))::(36, .s (SF.ptr (CU.agg (fPV m (at_ ps ((p.1+1) % ps.length)))).cf))::(37, .s ((fPV m (at_ ps ((p.1+1) % ps.length))).toSF))::(38, .s ((uI (zEG ps p.1)).toSF))::(39, .s (SF.row 1 [CU.is [.int .i64 (zEG ps p.1)]])):: []) hmix (s.keepK _ (fmz ⟨mz2,fmz ⟨.head _,fmz ⟨mz1,fmz ⟨mz3,fnz⟩⟩⟩⟩)) kI
    (oc zC<|oc zC<|oc zC<|oc zC<|oc (qN (z:=6) (Cs:=pvs m ps) kI (fun v W hb h=>(y5 hlw h (s.up hb))) (fun _=>rfl))<|oc (qF .i64 (p.1:Int) (((pvs m ps).length:Nat):Int) ((p.1+ps.length:Nat):Int) iiz iiz (by rw [hlz,IntKind.wrap_i64];omega))<|oc (zEY .i64 ((p.1+ps.length:Nat):Int) 1 ((p.1+ps.length - 1:Nat):Int) iiz iiz (by rw [IntKind.wrap_i64];omega))<|oc zC<|oc (qN (z:=6) (Cs:=pvs m ps) kI (fun v W hb h=>(y5 hlw h (s.up hb))) (fun _=>rfl))<|oc (zF0 .i64 ((p.1+ps.length - 1:Nat):Int) (((pvs m ps).length:Nat):Int) (((pvx ps p.1):Nat):Int) iiz iiz oP (by rw [hlz];exact zK0 _ _))<|oc (qW (z:=6) (Cs:=pvs m ps) (i:=(pvx ps p.1)) (C:=CU.agg (fPV m (at_ ps (pvx ps p.1)))) kI (jS hpi) (fun v W hb h=>(y5 hlw h (s.up hb))) iiz)<|oc (zJ (f:=fPV m (at_ ps (pvx ps p.1))) 6 kI (hz:=zP _ _))<|oc zC<|oc zC<|oc (qW (z:=6) (Cs:=pvs m ps) (i:=p.1) (C:=CU.agg (fPV m (at_ ps p.1))) kI (jS hk) (fun v W hb h=>(y5 hlw h (s.up hb))) iiz)<|oc (zJ (f:=fPV m (at_ ps p.1)) 6 kI (hz:=zP _ _))<|oc zC<|oc zC<|oc (qF .i64 (p.1:Int) 1 ((p.1+1:Nat):Int) iiz iiz (by rw [IntKind.wrap_i64];omega))<|oc zC<|oc (qN (z:=6) (Cs:=pvs m ps) kI (fun v W hb h=>(y5 hlw h (s.up hb))) (fun _=>rfl))<|oc (zF0 .i64 ((p.1+1:Nat):Int) (((pvs m ps).length:Nat):Int) ((((p.1+1) % ps.length):Nat):Int) iiz iiz oP (by rw [hlz];exact zK0 _ _))<|oc (qW (z:=6) (Cs:=pvs m ps) (i:=((p.1+1) % ps.length)) (C:=CU.agg (fPV m (at_ ps ((p.1+1) % ps.length)))) kI (jS hni) (fun v W hb h=>(y5 hlw h (s.up hb))) iiz)<|oc (zJ (f:=fPV m (at_ ps ((p.1+1) % ps.length))) 6 kI (hz:=zP _ _))<|oc (jU zD zSx (fun u0 u1 u2 W hb (h0:(fPV m (at_ ps (pvx ps p.1))).p u0 W) (h1:(fPV m (at_ ps p.1)).p u1 W) (h2:(fPV m (at_ ps ((p.1+1) % ps.length))).p u2 W)=>zIM (m:=m) h0 h1 h2 oP hm0))<|oc (zAd (fun u W (hu:u= .int .i64 (zEG ps p.1))=>zPY hu))<|zE) fun Q' hQ a w7 s hr=> ?_
   refine zRu ([CU.is [.int .i64 (zEG ps p.1)]]) s0 (s.keepK [(14, .u (UF.eq (p.2))),(11, .u (uB (decide ((p.1:Int)<(((pvs m ps).length:Nat):Int))))),(0, .u (UF.eq l)),(4, .u (uI (p.1:Int)))] (fmz ⟨.head _,fmz ⟨mz1,fmz ⟨mz2,fmz ⟨mz3,fnz⟩⟩⟩⟩)) hb0 hI.2 rfl kI kI kI (s.fct (.tmp 14)) (hr (_,_) (.tail _ (.tail _ (.tail _ (.tail _ (.tail _ (.tail _ (.tail _ (.tail _ (.tail _ (.tail _ zSb))))))))))) (zR8 _) (by simp [zJN];omega) (fun q hq=>by cases hq) fun v' a w hI' s=> ?_
   have s1:=s
   replace s:=s.reb rfl [(40, .u (UF.eq v')),(14, .u (UF.eq (p.2))),(11, .u (uB (decide ((p.1:Int)<(((pvs m ps).length:Nat):Int))))),(0, .u (UF.eq l)),(4, .u (uI (p.1:Int)))] (fmz ⟨.inl (.head _),fmz ⟨.inl mz1,fmz ⟨.inl mz2,fmz ⟨.inl mz3,fmz ⟨.inl mz4,fnz⟩⟩⟩⟩⟩)
   refine yU (UF.eq v') rfl s kI iiz fun a w s=> ?_
   refine zA rfl (hQ _ _ ?_)
   refine y6 2 ((12, .s ((uI (p.1:Int)).toSF))::(13, .u (uI ((p.1+1:Nat):Int))):: []) s kI
    (oc zC<|oc (qF .i64 (p.1:Int) 1 ((p.1+1:Nat):Int) iiz iiz (wrap64 _ _ oP oP))<|zE) fun a w8 s=> ?_
   replace s:=s.drop [4]
   refine yU (uI ((p.1+1:Nat):Int)) rfl s kI iiz fun a w s=> ?_
   refine zA rfl ?_
   have hbw:=s.below
   replace s:=s1.back (s.keepK [(4, .u (uI ((p.1+1:Nat):Int))),(13, .u (uI ((p.1+1:Nat):Int))),(3, .u (UF.eq v')),(40, .u (UF.eq v')),(14, .u (UF.eq (p.2))),(11, .u (uB (decide ((p.1:Int)<(((pvs m ps).length:Nat):Int))))),(0, .u (UF.eq l))] (fmz ⟨.head _,fmz ⟨mz1,fmz ⟨mz2,fmz ⟨mz3,fmz ⟨mz4,fmz ⟨mz5,fmz ⟨mz6,fnz⟩⟩⟩⟩⟩⟩⟩)) rfl
   exact ⟨(p.1+1,v'),(by show ps.length - (p.1+1)<ps.length - p.1;omega),⟨hk,Nat.le_trans hI'.1 hbw.size,by show zCb _ _ _ _ _ (zns (zCM ps (p.1+1)));rw [zHF];exact hI'.2.below hbw⟩,s.keepK _ (fmz ⟨mz6,fmz ⟨mz2,fmz ⟨.head _,fnz⟩⟩⟩)⟩
  ·have hk:p.1=ps.length:=by have h7:=of_decide_eq_false e;have h8:=hI.1;simp at h7;omega
   refine wpIn_exit ?_
   refine wpIn_seq ?_
   refine zB 2 ((41, .s ((UF.eq (p.2)).toSF))::(2, .u (UF.eq (p.2))):: []) hmix s kI
    (oc zC<|oc zG<|zE) fun a w9 s=> ?_
   refine zA rfl ?_
   refine wpIn_ret ?_
   exact StS.resN s s0.below rfl (by rw [s.val (.head _)];have:=((hI.2.2.below s.below).mono hb0).row;rw [hk] at this;rw [show qC ps=zCM ps ps.length from if_neg oP];exact this)
theorem zLh {W:World} {l:Value} {ps:List V2} (hl:(SF.row 6 (pvs 80 ps)).p l W) (hn:ps.length<=1000000) (hpair: ∀i j,i<ps.length->j<ps.length->i≠j->zD1 (at_ ps i) (at_ ps j)):Calls Tryz.prog 30 #[l] W (Ret W (fB (zCL ps)).toSF):=by
 refine yD [(UF.eq l).toSF] Tryz.func30 rfl kI ⟨rfl,trivial⟩ fun a s=> ?_
 replace s:=s.renew [(0, .u (UF.eq l))] (fmz ⟨.inr ⟨_,rfl, .head _⟩,fnz⟩)
 refine wpIn_seq ?_
 refine zB 1 ((2, .u (uB false)):: []) hmix s kI
  (oc zG<|zE) fun a w1 s=> ?_
 refine zA rfl ?_
 refine wpIn_seq ?_
 refine jJ 2 ((5, .s ((UF.eq l).toSF))::(6, .s (SF.row 1 (zns (qC ps)))):: []) hmix s kI
  (oc zC<|oc (zI zD zT3 (fun u0 W hb (h0:u0=l)=>zK6 (m:=80) (y5 hl h0 (s.up hb)) dB dB hn))<|zE) fun a w2 s hr=> ?_
 obtain ⟨v6,e6⟩: ∃v,a.tmps.getD 6 undef=v:=⟨_,rfl⟩
 have hv6:(SF.row 1 (zns (qC ps))).p v6 w2:=e6▸(hr (_,_) mz1)
 replace s:=s.learn 6 v6 e6
 have hb0:=s.below
 have hl':=(SF.row 6 (pvs 80 ps)).st _ _ _ hl hb0
 replace s:=s.reb rfl [(6, .u (UF.eq v6)),(2, .u (uB false)),(0, .u (UF.eq l))] (fmz ⟨.inl (.head _),fmz ⟨.inl mz1,fmz ⟨.inl mz2,fnz⟩⟩⟩)
 refine yU (UF.eq v6) rfl s kI iiz fun a w s=> ?_
 refine zA rfl ?_
 refine wpIn_seq ?_
 refine wpIn_seq ?_
 refine zB 1 ((4, .u (uI 0)):: []) hmix s kI
  (oc zG<|zE) fun a w3 s=> ?_
 refine zA rfl ?_
 refine wpIn_block ?_
 refine zBF (fun k=>k<=(qC ps).length/\ ∀j,j<k->((qC ps).getD j 0 !=1)=false) (fun k=> [(3, .u (UF.eq v6)),(0, .u (UF.eq l)),(4, .u (uI (k:Int)))]) (fun k=>(qC ps).length - k) (0:Nat) (⟨Nat.zero_le _,fun j hj=>absurd hj (Nat.not_lt_zero _)⟩) (s.keepK _ (fmz ⟨mz1,fmz ⟨mz4,fmz ⟨.head _,fnz⟩⟩⟩)) fun k a w hx s=> ?_
 have hlz:(zns (qC ps)).length=(qC ps).length:=by simp
 have htl:=zJM ps
 refine wpIn_seq ?_
 refine wpIn_seq ?_
 refine zB 4 ((7, .s ((uI (k:Int)).toSF))::(8, .s ((UF.eq v6).toSF))::(9, .s ((uI (((zns (qC ps)).length:Nat):Int)).toSF))::(10, .u (uB (decide ((k:Int)<(((zns (qC ps)).length:Nat):Int))))):: []) hmix s kI
  (oc zC<|oc zC<|oc (qN (z:=1) (Cs:=zns (qC ps)) kI (fun v W hb h=>(y5 hv6 h (s.up hb))) (fun _=>rfl))<|oc (zR .i64 (k:Int) (((zns (qC ps)).length:Nat):Int) (decide ((k:Int)<(((zns (qC ps)).length:Nat):Int))) iiz iiz rfl rfl)<|zE) fun a w4 s=> ?_
 refine zA rfl ?_
 refine StS.cond s (decide ((k:Int)<(((zns (qC ps)).length:Nat):Int))) iiz (fun e=> ?_) (fun e=> ?_)
 ·have hk:k<(qC ps).length:=by have:=of_decide_eq_true e;simp at this;omega
  refine wpIn_skip ?_
  refine wpIn_seq ?_
  refine wpIn_block ?_
  refine wpIn_seq ?_
  refine zB 5 ((13, .s ((UF.eq v6).toSF))::(14, .s ((uI (k:Int)).toSF))::(15, .s (SF.ptr (CU.is [.int .i64 ((qC ps).getD k 0)]).cf))::(16, .s ((uI ((qC ps).getD k 0)).toSF))::(17, .u (uB (((qC ps).getD k 0) !=1))):: []) hmix s kI
   (oc zC<|oc zC<|oc (qW (z:=1) (Cs:=zns (qC ps)) (i:=k) (C:=CU.is [.int .i64 ((qC ps).getD k 0)]) kI (zPI hk) (fun v W hb h=>(y5 hv6 h (s.up hb))) iiz)<|oc (jE (C:=(CU.is [.int .i64 ((qC ps).getD k 0)]).cf) kI iiz (zPJ _))<|oc (zR .i64 ((qC ps).getD k 0) 1 (((qC ps).getD k 0) !=1) iiz iiz rfl rfl)<|zE) fun a w5 s=> ?_
  refine zA rfl ?_
  refine StS.cond s (((qC ps).getD k 0) !=1) iiz (fun e=> ?_) (fun e=> ?_)
  ·refine wpIn_seq ?_
   refine zB 1 ((2, .u (uB false)):: []) hmix s kI
    (oc zG<|zE) fun a w6 s=> ?_
   refine zA rfl ?_
   refine wpIn_ret ?_
   exact StS.resB s hb0 (t:=2) rfl (fun v W h=>by rw [zOw hk e];exact h)
  ·refine wpIn_skip ?_
   refine y6 2 ((11, .s ((uI (k:Int)).toSF))::(12, .u (uI ((k+1:Nat):Int))):: []) s kI
    (oc zC<|oc (qF .i64 (k:Int) 1 ((k+1:Nat):Int) iiz iiz (wrap64 _ _ oP oP))<|zE) fun a w7 s=> ?_
   replace s:=s.drop [4]
   refine yU (uI ((k+1:Nat):Int)) rfl s kI iiz fun a w s=> ?_
   refine zA rfl ?_
   exact ⟨k+1,⟨hk,fun j hj=>by rcases Nat.lt_or_eq_of_le (Nat.le_of_lt_succ hj) with h|h;exact hx.2 j h;rw [h];exact e⟩,(by show (qC ps).length - (k+1)<(qC ps).length - k;omega),s.keepK _ (fmz ⟨mz4,fmz ⟨mz5,fmz ⟨.head _,fnz⟩⟩⟩)⟩
 ·have hk:k=(qC ps).length:=by have h7:=of_decide_eq_false e;have h8:=hx.1;simp at h7;omega
  refine wpIn_exit ?_
  refine wpIn_seq ?_
  refine zB 3 ((18, .s ((UF.eq l).toSF))::(19, .s ((uB (zDE ps)).toSF))::(2, .u (uB (zDE ps))):: []) hmix s kI
   (oc zC<|oc (zI zD zT7 (fun u0 W hb (h0:u0=l)=>zHS (ps:=ps) (y5 hl' h0 (s.up hb)) hn hpair))<|oc zG<|zE) fun a w8 s=> ?_
  refine zA rfl ?_
  refine wpIn_ret ?_
  exact StS.resB s hb0 (t:=2) rfl (fun v W h=>by rw [zMA (fun j hj=>hx.2 j oP)];exact h)
end Go.Proofs.Wd
