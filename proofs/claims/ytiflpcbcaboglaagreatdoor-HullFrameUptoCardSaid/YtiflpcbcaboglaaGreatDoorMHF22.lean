/- Walks of straitref10: ends, Lines, Segs; Walks of straitref13: Edge, a and what it needs. -/
import Derived.Test.YtiflpcbcaboglaaGreatDoorMHF20
import Derived.Test.YtiflpcbcaboglaaGreatDoorMHF13
import Derived.Test.YtiflpcbcaboglaaGreatDoorMHF21
theorem kJ {P:Prop} (h:P:=by kernel_rfl):P:=h
theorem oQ {P:Prop} (h:P:=by omega):P:=h
theorem dC {P:Prop} (h:P:=by decide):P:=h
theorem fQ {c:Prop} {α:Sort _} {R:α->Prop} (e:¬c) (w:α) (h:c):R w:=absurd h e
theorem fR {α β:Sort _} {γ:α->β->Sort _} {p:(a:α)->(b:β)->γ a b->Prop} (a:α) (b:β) (c:γ a b) (h:p a b c):p a b c:=h
theorem fS {β γ:Sort _} {p q:β->γ->Prop} (b:β) (c:γ) (h:p b c) (_:q b c):p b c:=h
abbrev zZo:=@Go.wpIn_seq
abbrev zZp:=@Go.wpIn_skip
abbrev zZq:=@Go.wpIn_ret
abbrev zZr:=@Rat.le_of_lt
abbrev zZs:=@Classical.byContradiction
abbrev zZt:=@Rat.mul_pos
abbrev zZu:=@of_decide_eq_false
abbrev zZv:=@Rat.mul_nonneg
abbrev zZw:=@Prod.ext
abbrev zZx:=@of_decide_eq_true
abbrev zZy:=@Go.wpIn_block
abbrev zZz:=@Nat.mod_eq_of_lt
abbrev zZA:=@Rat.le_refl
abbrev zZB:=@beq_iff_eq
abbrev zZC:=@List.length_map
abbrev zZD:=@Bool.and_eq_true
abbrev zZE:=@List.getElem?_eq_getElem
abbrev zZF:=@List.mem_range
abbrev zZG:=@List.all_eq_true
abbrev zZH:=@Nat.lt_or_eq_of_le
abbrev zZI:=@Nat.zero_le
abbrev zZJ:=@Nat.le_of_lt_succ
abbrev zZK:=@Rat.le_total
abbrev zZL:=@List.getD_eq_getElem?_getD
abbrev zZM:=@Rat.mul_eq_zero
abbrev zZN:=@Rat.div_mul_cancel
abbrev zZO:=@Go.wpIn_exit
abbrev zZP:=@Go.IntKind.wrap_i64
abbrev zZQ:=@Nat.mod_lt
abbrev zZR:=@Nat.mod_self
abbrev zZS:=@Nat.le_trans
abbrev zZT:=@decide_eq_false
abbrev zZU:=@decide_eq_true
abbrev zZV:=@beq_eq_false_iff_ne
abbrev zZW:=@Nat.not_lt_zero
abbrev zZX:=@Nat.lt_or_ge
abbrev zZY:=@decide_eq_true_iff
abbrev zZZ:=@Bool.and_eq_false_iff
abbrev zZ0:=@Rat.not_lt
abbrev zZ1:=@Bool.or_eq_false_iff
abbrev zZ2:=@Rat.le_trans
abbrev zZ3:=@List.mem_cons
abbrev zZ4:=@List.all_eq_false
abbrev zZ5:=@Rat.num_eq_zero
abbrev zZ6:=@List.getElem?_map
abbrev zZ7:=@List.eq_nil_of_length_eq_zero
abbrev Wt:=Go.World
abbrev Wu:=Go.Value
namespace Go.Proofs.Wd
open Tryz
variable {i j k m:Nat} {a b c ca cb cc cd d p q:V2} {f f' g g':UF} {u v x y:Wu} {W:Wt} {S l ps:List V2} {hi lo r t:Rat} {L:RR}
set_option maxRecDepth 100000
set_option maxHeartbeats 1000000
open Go.RowKit Lb
theorem zTv (z:Nat) (W:Wt):(wD z []).p (sN) W:=⟨none,0,rfl,Nat.le_refl _,by decide,fun _=>rfl,fun i C hi=>by simp at hi⟩
theorem zGB {F:Fence} {P:Program} {w0:Wt} {ops:Array Oper} {G:Nat->SF} {d:Tmp} {ty:TypeId} {pos:String} {aft:Array Edge} {f:FuncId} {x y z q:Operand} {ats:Array TypeId} (hF:zG6 F m P) (he:Enters P f) (h: ∀u v r s W,bW w0 W->(fct G x).p u W->(fct G y).p v W->(fct G z).p r W->(fct G q).p s W->Calls P f #[u,v,r,s] W (Ret W (G d))):qN F m P w0 ops G ⟨some d,.call ⟨.value (.func f),#[x,y,z,q],ats⟩,ty,pos,aft,none⟩:=
 zDD hF he fun b W hb hh=>by simpa using h _ _ _ _ W hb (hh x (by simp)) (hh y (by simp)) (hh z (by simp)) (hh q (by simp))
def zEt (p q:V2):Prop:= ∃m n,PB p m/\PB q n/\m+n<=81
theorem zEt.sub (h:zEt p q):QB (q.1 - p.1) 82/\QB (q.2 - p.2) 82:=by
 obtain ⟨m,n,h1,h2,h3⟩:=h
 exact ⟨(h2.1.sub h1.1).mono oQ,(h2.2.sub h1.2).mono oQ⟩
theorem zEt.one (h:zEt p q):QB p.1 80/\QB p.2 80:=by
 obtain ⟨m,n,h1,h2,h3⟩:=h
 exact ⟨h1.1.mono (by have:=h2.1.pos;omega),h1.2.mono (by have:=h2.1.pos;omega)⟩
theorem zEt.two (h:zEt p q):QB q.1 80/\QB q.2 80:=by
 obtain ⟨m,n,h1,h2,h3⟩:=h
 exact ⟨h2.1.mono (by have:=h1.1.pos;omega),h2.2.mono (by have:=h1.1.pos;omega)⟩
def dnm (a b c d:V2):Rat:=(b.1 - a.1)*(d.2 - c.2) - (b.2 - a.2)*(d.1 - c.1)
def tnm (a c d:V2):Rat:=(c.1 - a.1)*(d.2 - c.2) - (c.2 - a.2)*(d.1 - c.1)
def y7 (a b c d:V2):V2:=if dnm a b c d=0 then (((0:Int):Rat),((0:Int):Rat)) else seg a b (tnm a c d / dnm a b c d)
theorem zQG (h:zEt a b) (hm:163<=m): ∃l:Ln,l.bd m/\ ∃s:Rat,s≠0/\ ∀p:V2,(l.A:Rat)*p.1+(l.B:Rat)*p.2+(l.C:Rat)=s*crs a b p:=by
 obtain ⟨k,n,ha,hb,hkn⟩:=h
 refine ⟨⟨-(b.2.num*a.2.den - a.2.num*b.2.den)*(a.1.den*b.1.den),(b.1.num*a.1.den - a.1.num*b.1.den)*(a.2.den*b.2.den),b.2.num*a.1.num*(b.1.den*a.2.den) - b.1.num*a.2.num*(a.1.den*b.2.den)⟩, ?_,(a.1.den:Rat)*b.1.den*(a.2.den*b.2.den), ?_,fun p=> ?_⟩
 ·have d1:=jK ha.1.2;have d2:=jK ha.2.2;have d3:=jK hb.1.2;have d4:=jK hb.2.2
  refine ⟨?_, ?_, ?_⟩
  ·exact ((((hb.2.1.mul d2).add ((ha.2.1.mul d4).neg.mono oQ)).neg.mul (d1.mul d3)).mono oQ)
  ·exact ((((hb.1.1.mul d1).add ((ha.1.1.mul d3).neg.mono oQ)).mul (d2.mul d4)).mono oQ)
  ·exact (((hb.2.1.mul ha.1.1).mul (d3.mul d2)).add ((((hb.1.1.mul ha.2.1).mul (d1.mul d4)).neg).mono oQ)).mono oQ
 ·have: ∀q:Rat,(q.den:Rat)≠0:=fun q h=>q.den_nz (by exact_mod_cast h)
  have h1:=this a.1;have h2:=this a.2;have h3:=this b.1;have h4:=this b.2
  intro h
  rcases zZM.1 h with h|h<;>rcases zZM.1 h with h|h<;>contradiction
 ·simp only [Rat.intCast_mul,Rat.intCast_sub,Rat.intCast_neg,Rat.intCast_natCast,zJK]
  unfold crs
  grind
theorem zPl (hab:zEt a b) (hcd:zEt c d):QB (y7 a b c d).1 327/\QB (y7 a b c d).2 327:=by
 unfold y7
 split
 ·exact ⟨QB.zero dC,QB.zero dC⟩
 ·rename_i hd
  obtain ⟨l,hl,s,hs,he⟩:=zQG hab lr
  obtain ⟨l',hl',s',hs',he'⟩:=zQG hcd lr
  have hne:a≠b:=fun e=>hd (by subst e;unfold dnm;grind)
  have h6:crs a b (seg a b (tnm a c d / dnm a b c d))=0:=by unfold crs seg;grind
  have h7:crs c d (seg a b (tnm a c d / dnm a b c d))=0:=by
   have e1:crs c d (seg a b (tnm a c d / dnm a b c d))=tnm a c d - tnm a c d / dnm a b c d*dnm a b c d:=by
    generalize tnm a c d / dnm a b c d=t
    unfold crs seg tnm dnm
    grind
   rw [e1,zZN hd]
   grind
  have key: ∀q:V2,crs a b q=0->crs c d q≠0->PB (seg a b (tnm a c d / dnm a b c d)) 327:=fun q h1 h2=>
   zPR (l:=l) (l':=l') (q:=q) (m:=163) dC hl hl' (by unfold Ln.on;rw [he,h6];grind) (by unfold Ln.on;rw [he,h1];grind) (by unfold Ln.on;rw [he',h7];grind) (fun h=>by
    unfold Ln.on at h
    rw [he'] at h
    rcases zZM.1 h with h|h
    ·exact hs' h
    ·exact h2 h) (zUS hne l s hs he)
  by_cases h8:crs c d a=0
  ·exact key b (by unfold crs;grind) fun h9=>hd (by unfold crs at h8 h9;unfold dnm;grind)
  ·exact key a (by unfold crs;grind) h8
theorem zQ2 (hab:zEt a b) (hcd:zEt c d):QB (dnm a b c d) 329:=((hab.sub.1.mul hcd.sub.2).sub (hab.sub.2.mul hcd.sub.1)).mono dC
theorem zQb (hac:zEt a c) (hcd:zEt c d):QB (tnm a c d) 329:=((hac.sub.1.mul hcd.sub.2).sub (hac.sub.2.mul hcd.sub.1)).mono dC
def zBK (a b c d:V2):Int:=if (((pns (yM a b c d 4)).length:Int)≥2) then 2 else if (((pns (yM a b c d 4)).length:Int)==1)=true then 1 else if ((!(decide (dnm a b c d=0))&&onS a b (y7 a b c d))&&onS c d (y7 a b c d))=true then 1 else 0
section
variable {S:Nat->Prop} {w0 w1:Wt} {K K0:List (Nat×KF)} {n n0:Nat} {ds0:List Deferred} {a a0:Act} {w:Wt}
theorem yP.thaw: ∀(B:List Bx),yP S w0 a0 w1 B->yP noS w1 a w (frz B)->yP S w0 a w B
 | [],_,_=>trivial
 |x::B,⟨⟨_,_,h2,_,_,_,h6⟩,h7⟩,⟨⟨cs,g1,_,g3,g4,g5,_⟩,g7⟩=>⟨⟨cs,g1,h2,g3,g4,g5,h6⟩,yP.thaw B h7 g7⟩
theorem StS.thaw {B:List Bx} (h0:StS S w0 K0 B n0 ds0 a0 w1) (h:St w1 K (frz B) n [] a w) (hu:(K.all fun q=>zN0 q.2)=true):StS S w0 K B n [] a w:=
 ⟨h0.gr.trans h.below,h.size,h.nd,fun q hq=>by
  have h1:=h.sl q hq
  obtain ⟨f,e⟩:=q7 hu q hq
  rw [e] at h1 ⊢
  exact h1,yP.thaw B h0.bx h.bx,⟨[],Marks.nil _ _⟩,.inl (q7 hu)⟩
end
def fMT (k:Int):UF:=⟨⟨fun v _=> ∃vs:List Wu,v= .agg (Value.int .i8 k::vs).toArray/\vs.length=12/\(∀u,u∈vs->u.oneCell'=true)/\vs.all yA=true,fun _ _ _ h _=>h⟩,fun _ _ _ h _=>h⟩
theorem zJP (k:Int) (cs:List Wu) (W:Wt) (h:(wC (fMT k)).p cs W):cs.length=13:=by
 obtain ⟨vs,e,h1,_⟩:=h
 obtain rfl:cs=Value.int .i8 k::vs:=by simpa using jL e
 simp [h1]
theorem zDG (k:Int) (v:Wu) (W:Wt) (h:(fMT k).p v W): ∃vs:List Wu,v= .agg vs.toArray/\vs.length=13/\(∀u,u∈vs->u.oneCell'=true)/\vs.all yA=true/\(wC (fMT k)).p vs W:=by
 obtain ⟨vs,rfl,h1,h2,h3⟩:=h
 exact ⟨_,rfl,by simp [h1],fun u hu=>by rcases zZ3.1 hu with rfl|hu;rfl;exact h2 u hu,by simpa [yA] using h3,vs,rfl,h1,h2,h3⟩
theorem zGG (k:Int) (cs:List Wu) (W:Wt) (h:(wC (fMT k)).p cs W): ∃u,cs[0]?=some u/\(wB (.int .i8 k)).p u W:=by
 obtain ⟨vs,e,_⟩:=h
 obtain rfl:cs=Value.int .i8 k::vs:=by simpa using jL e
 exact ⟨_,rfl,rfl⟩
theorem zW8 (k:Int) (a1 a2 a3 a4 a5 a6 b1 b2 b3 b4 b5 b6:Wu):prog.built 112 [(0,.int .i8 k),(1,.agg #[a1,a2,a3,a4,a5,a6]),(2,.agg #[b1,b2,b3,b4,b5,b6])]=some #[.int .i8 k,a1,a2,a3,a4,a5,a6,b1,b2,b3,b4,b5,b6]:=by kernel_rfl
theorem zW9 (a1 a2 a3 a4 a5 a6 b1 b2 b3 b4 b5 b6:Wu):prog.built 112 [(1,.agg #[a1,a2,a3,a4,a5,a6]),(2,.agg #[b1,b2,b3,b4,b5,b6])]=some #[.int .i8 0,a1,a2,a3,a4,a5,a6,b1,b2,b3,b4,b5,b6]:=by kernel_rfl
theorem zEF (h:(fPT f g).p v W): ∃u0 u1 u2 u3 u4 u5,v= .agg #[u0,u1,u2,u3,u4,u5]/\(∀u,u∈ [u0,u1,u2,u3,u4,u5]->u.oneCell'=true)/\ [u0,u1,u2,u3,u4,u5].all yA=true:=by
 obtain ⟨vs,rfl,hl,h1,h2,_⟩:=yT v W h
 obtain ⟨u0,u1,u2,u3,u4,u5,rfl⟩:=zT2 hl
 exact ⟨u0,u1,u2,u3,u4,u5,rfl,h1,h2⟩
theorem zSY {k:Int} (hu:(fPT f g).p u W) (hv:(fPT f' g').p v W): ∃cells,prog.built 112 [(0,.int .i8 k),(1,u),(2,v)]=some cells/\(fMT k).p (.agg cells) W:=by
 obtain ⟨a1,a2,a3,a4,a5,a6,rfl,h1,h2⟩:=zEF hu
 obtain ⟨b1,b2,b3,b4,b5,b6,rfl,h3,h4⟩:=zEF hv
 exact ⟨_,zW8 .., [a1,a2,a3,a4,a5,a6]++ [b1,b2,b3,b4,b5,b6],rfl,rfl,fun u hu=>by rcases List.mem_append.1 hu with h|h;exact h1 u h;exact h3 u h,by rw [List.all_append,h2,h4];rfl⟩
theorem zWu (hu:(fPT f g).p u W) (hv:(fPT f' g').p v W): ∃cells,prog.built 112 [(1,u),(2,v)]=some cells/\(fMT 0).p (.agg cells) W:=by
 obtain ⟨a1,a2,a3,a4,a5,a6,rfl,h1,h2⟩:=zEF hu
 obtain ⟨b1,b2,b3,b4,b5,b6,rfl,h3,h4⟩:=zEF hv
 exact ⟨_,zW9 .., [a1,a2,a3,a4,a5,a6]++ [b1,b2,b3,b4,b5,b6],rfl,rfl,fun u hu=>by rcases List.mem_append.1 hu with h|h;exact h1 u h;exact h3 u h,by rw [List.all_append,h2,h4];rfl⟩
theorem zMe (h1:(fPV 80 ca).p u W) (h2:(fPV 80 cb).p v W) (h3:(fPV 80 cc).p x W) (h4:(fPV 80 cd).p y W):Calls prog 105 #[u,v,x,y] W (Ret W (wD 6 (pns (yM ca cb cc cd 4)))):=by
 have hq4: ∀p,p∈ [ca,cb,cc,cd]->QB p.1 80/\QB p.2 80:=fun p hp=>by
  simp only [zZ3,List.not_mem_nil,or_false] at hp
  rcases hp with rfl|rfl|rfl|rfl
  ·exact zCD dC h1
  ·exact zCD dC h2
  ·exact zCD dC h3
  ·exact zCD dC h4
 refine z9 [(fPV 80 ca).tS,(fPV 80 cb).tS,(fPV 80 cc).tS,(fPV 80 cd).tS] func105 rfl kJ ⟨h1,h2,h3,h4,trivial⟩ fun a s=> ?_
 replace s:=s.renew [(0,.u (fPV 80 ca)),(1,.u (fPV 80 cb)),(2,.u (fPV 80 cc)),(3,.u (fPV 80 cd))] (fmz ⟨.inr ⟨_,rfl,.head _⟩,fmz ⟨.inr ⟨_,rfl,mz1⟩,fmz ⟨.inr ⟨_,rfl,mz2⟩,fmz ⟨.inr ⟨_,rfl,mz3⟩,fnz⟩⟩⟩⟩)
 refine zZo ?_
 refine zB 0 [] hmix s kJ
  zC fun a w1 s=> ?_
 refine yK (wC (fPV 80 ca)) rfl s kJ (fun v W h=>yS h) fun b4 a w s=> ?_
 refine yK (wC (fPV 80 cb)) rfl s kJ (fun v W h=>yS h) fun b5 a w s=> ?_
 refine yK (wC (fPV 80 cc)) rfl s kJ (fun v W h=>yS h) fun b6 a w s=> ?_
 refine yK (wC (fPV 80 cd)) rfl s kJ (fun v W h=>yS h) fun b7 a w s=> ?_
 refine yR (wB (sN)) rfl s kJ iiz fun a w s=> ?_
 refine zA rfl ?_
 refine zZo ?_
 refine zB 1 ((9,.u (wB (sN))):: []) hmix s kJ
  (oc zF<|zC) fun a w2 s=> ?_
 refine zA rfl ?_
 refine zZo ?_
 refine qV 5 ((12,.Z (fPV 80 ca))::(13,.Z (fPV 80 cb))::(14,.Z (fPV 80 cc))::(15,.Z (fPV 80 cd))::(16,.s (wD 6 (pvs 80 [ca,cb,cc,cd]))):: []) hmix s kJ
  (oc (zK (f:=fPV 80 ca) 6 kJ (hz:=zP _ _))<|oc (zK (f:=fPV 80 cb) 6 kJ (hz:=zP _ _))<|oc (zK (f:=fPV 80 cc) 6 kJ (hz:=zP _ _))<|oc (zK (f:=fPV 80 cd) 6 kJ (hz:=zP _ _))<|oc (zMu (fun u v r s W (hu:(fPV 80 ca).p u W) (hv:(fPV 80 cb).p v W) (hr:(fPV 80 cc).p r W) (hs:(fPV 80 cd).p s W)=>zTn hu hv hr hs))<|zC) fun a w3 s hr=> ?_
 obtain ⟨v16,e16⟩: ∃v,a.tmps.getD 16 undef=v:=⟨_,rfl⟩
 have hv16:(wD 6 (pvs 80 [ca,cb,cc,cd])).p v16 w3:=e16▸(hr (_,_) mz4)
 replace s:=s.learn 16 v16 e16
 have hbX:=s.below
 replace s:StS _ _ _ [⟨7,30,wC (fPV 80 cd),b7,true⟩,⟨6,30,wC (fPV 80 cc),b6,true⟩,⟨5,30,wC (fPV 80 cb),b5,true⟩,⟨4,30,wC (fPV 80 ca),b4,true⟩] _ _ _ _:=s.freeze
 replace s:=s.reb rfl [(16,.u (wB v16)),(9,.u (wB (sN))),(8,.u (wB (sN))),(0,.u (fPV 80 ca)),(1,.u (fPV 80 cb)),(2,.u (fPV 80 cc)),(3,.u (fPV 80 cd))] (fmz ⟨.inl (.head _),fmz ⟨.inl mz1,fmz ⟨.inl mz2,fmz ⟨.inl mz3,fmz ⟨.inl mz4,fmz ⟨.inl mz5,fmz ⟨.inl mz6,fnz⟩⟩⟩⟩⟩⟩⟩)
 refine yR (wB v16) rfl s kJ iiz fun a w s=> ?_
 refine zA rfl ?_
 refine zZo ?_
 refine zZo ?_
 refine zB 1 ((11,.u (uI 0)):: []) hmix s kJ
  (oc zF<|zC) fun a w4 s=> ?_
 refine zA rfl ?_
 refine zZy ?_
 have hi0:(wD 6 (pns (yM ca cb cc cd 0))).p (sN) w4:=zTv 6 _
 refine zD0 (fun (p:Nat×Wu) w=>p.1<=4/\(wD 6 (pns (yM ca cb cc cd p.1))).p p.2 w) (fun p=> [(10,.u (wB v16)),(9,.u (wB p.2)),(11,.u (uI (p.1:Int)))]) (fun p=>4 - p.1) (0, sN) (⟨zZI _,hi0⟩) (s.keepK _ (fmz ⟨mz1,fmz ⟨mz3,fmz ⟨.head _,fnz⟩⟩⟩)) fun p a w hI s=> ?_
 have s0:=s
 have hv16w:=(wD 6 (pvs 80 [ca,cb,cc,cd])).st _ _ _ hv16 s0.below
 replace s:=s.reb rfl [(10,.u (wB v16)),(9,.u (wB p.2)),(11,.u (uI (p.1:Int)))] (fmz ⟨.inl (.head _),fmz ⟨.inl mz1,fmz ⟨.inl mz2,fnz⟩⟩⟩)
 refine zZo ?_
 refine zZo ?_
 refine zB 2 ((17,.Z (uI (p.1:Int)))::(18,.u (uB (decide ((p.1:Int)<4)))):: []) hmix s kJ
  (oc zE<|oc (zS .i64 (p.1:Int) 4 (decide ((p.1:Int)<4)) iiz iiz rfl rfl)<|zC) fun a w5 s=> ?_
 refine zA rfl ?_
 refine StS.cond s (decide ((p.1:Int)<4)) iiz (fun e=> ?_) (fun e=> ?_)
 ·have hk4:p.1<4:=by have:=zZx e;omega
  have hk:p.1<([ca,cb,cc,cd]:List V2).length:=hk4
  refine zZp ?_
  refine zZo ?_
  refine zZy ?_
  refine zZo ?_
  refine zB 16 ((21,.Z (fPV 80 ca))::(22,.Z (fPV 80 cb))::(23,.Z (wB v16))::(24,.Z (uI (p.1:Int)))::(25,.Y (fPV 80 (at_ [ca,cb,cc,cd] p.1)))::(26,.Z (fPV 80 (at_ [ca,cb,cc,cd] p.1)))::(27,.Z (uB (onS ca cb (at_ [ca,cb,cc,cd] p.1))))::(28,.Z (uB (onS ca cb (at_ [ca,cb,cc,cd] p.1))))::(29,.s (SF.imp ((onS ca cb (at_ [ca,cb,cc,cd] p.1))=true) ((fPV 80 cc).tS)))::(30,.s (SF.imp ((onS ca cb (at_ [ca,cb,cc,cd] p.1))=true) ((fPV 80 cd).tS)))::(31,.s (SF.imp ((onS ca cb (at_ [ca,cb,cc,cd] p.1))=true) ((wB v16).tS)))::(32,.s (SF.imp ((onS ca cb (at_ [ca,cb,cc,cd] p.1))=true) ((uI (p.1:Int)).tS)))::(33,.s (SF.imp ((onS ca cb (at_ [ca,cb,cc,cd] p.1))=true) (wE (cg (fPV 80 (at_ [ca,cb,cc,cd] p.1))))))::(34,.s (SF.imp ((onS ca cb (at_ [ca,cb,cc,cd] p.1))=true) ((fPV 80 (at_ [ca,cb,cc,cd] p.1)).tS)))::(35,.s (SF.imp ((onS ca cb (at_ [ca,cb,cc,cd] p.1))=true) ((uB (onS cc cd (at_ [ca,cb,cc,cd] p.1))).tS)))::(36,.u (uB ((onS ca cb (at_ [ca,cb,cc,cd] p.1))&&(onS cc cd (at_ [ca,cb,cc,cd] p.1))))):: []) hmix s kJ
   (oc (zK (f:=fPV 80 ca) 6 kJ (hz:=zP _ _))<|oc (zK (f:=fPV 80 cb) 6 kJ (hz:=zP _ _))<|oc zE<|oc zE<|oc (yH (z:=6) (Cs:=pvs 80 ([ca,cb,cc,cd])) (i:=p.1) (C:=wC (fPV 80 (at_ [ca,cb,cc,cd] p.1))) kJ (q6 hk) (fun v W hb h=>(yU hv16w h (s.up hb))) iiz)<|oc (zK (f:=fPV 80 (at_ [ca,cb,cc,cd] p.1)) 6 kJ (hz:=zP _ _))<|oc (zAS zD zJ6 (fun u0 u1 u2 W hb (h0:(fPV 80 ca).p u0 W) (h1:(fPV 80 cb).p u1 W) (h2:(fPV 80 (at_ [ca,cb,cc,cd] p.1)).p u2 W)=>zGu (m:=80) (M:=80) h0 h1 h2 dC dC dC dC))<|oc zE<|oc (zG 28 (onS ca cb (at_ [ca,cb,cc,cd] p.1)) kJ iiz (fun e=>z5 [] ((fPV 80 cc).tS) fnz fS kJ (zK (f:=fPV 80 cc) 6 kJ (hz:=zP _ _))) fQ)<|oc (zG 28 (onS ca cb (at_ [ca,cb,cc,cd] p.1)) kJ iiz (fun e=>z5 [] ((fPV 80 cd).tS) fnz fS kJ (zK (f:=fPV 80 cd) 6 kJ (hz:=zP _ _))) fQ)<|oc (zG 28 (onS ca cb (at_ [ca,cb,cc,cd] p.1)) kJ iiz (fun e=>z5 [] ((wB v16).tS) fnz fS kJ zE) fQ)<|oc (zG 28 (onS ca cb (at_ [ca,cb,cc,cd] p.1)) kJ iiz (fun e=>z5 [] ((uI (p.1:Int)).tS) fnz fS kJ zE) fQ)<|oc (zG 28 (onS ca cb (at_ [ca,cb,cc,cd] p.1)) kJ iiz (fun e=>z5 [(31,(wB v16).tS),(32,(uI (p.1:Int)).tS)] (wE (cg (fPV 80 (at_ [ca,cb,cc,cd] p.1)))) (fmz ⟨fun v W h=>zT (c:=(onS ca cb (at_ [ca,cb,cc,cd] p.1))=true) (f:=(wB v16).tS) e h,fmz ⟨fun v W h=>zT (c:=(onS ca cb (at_ [ca,cb,cc,cd] p.1))=true) (f:=(uI (p.1:Int)).tS) e h,fnz⟩⟩) fS kJ (yH (z:=6) (Cs:=pvs 80 ([ca,cb,cc,cd])) (i:=p.1) (C:=wC (fPV 80 (at_ [ca,cb,cc,cd] p.1))) kJ (q6 hk) (fun v W hb h=>(yU hv16w h (s.up hb))) iiz)) fQ)<|oc (zG 28 (onS ca cb (at_ [ca,cb,cc,cd] p.1)) kJ iiz (fun e=>z5 [(33,wE (cg (fPV 80 (at_ [ca,cb,cc,cd] p.1))))] ((fPV 80 (at_ [ca,cb,cc,cd] p.1)).tS) (fmz ⟨fun v W h=>zT (c:=(onS ca cb (at_ [ca,cb,cc,cd] p.1))=true) (f:=wE (cg (fPV 80 (at_ [ca,cb,cc,cd] p.1)))) e h,fnz⟩) fS kJ (zK (f:=fPV 80 (at_ [ca,cb,cc,cd] p.1)) 6 kJ (hz:=zP _ _))) fQ)<|oc (zG 28 (onS ca cb (at_ [ca,cb,cc,cd] p.1)) kJ iiz (fun e=>z5 [(29,(fPV 80 cc).tS),(30,(fPV 80 cd).tS),(34,(fPV 80 (at_ [ca,cb,cc,cd] p.1)).tS)] ((uB (onS cc cd (at_ [ca,cb,cc,cd] p.1))).tS) (fmz ⟨fun v W h=>zT (c:=(onS ca cb (at_ [ca,cb,cc,cd] p.1))=true) (f:=(fPV 80 cc).tS) e h,fmz ⟨fun v W h=>zT (c:=(onS ca cb (at_ [ca,cb,cc,cd] p.1))=true) (f:=(fPV 80 cd).tS) e h,fmz ⟨fun v W h=>zT (c:=(onS ca cb (at_ [ca,cb,cc,cd] p.1))=true) (f:=(fPV 80 (at_ [ca,cb,cc,cd] p.1)).tS) e h,fnz⟩⟩⟩) fS kJ (zAS zD zJ6 (fun u0 u1 u2 W hb (h0:(fPV 80 cc).p u0 W) (h1:(fPV 80 cd).p u1 W) (h2:(fPV 80 (at_ [ca,cb,cc,cd] p.1)).p u2 W)=>zGu (m:=80) (M:=80) h0 h1 h2 dC dC dC dC))) fQ)<|oc (yO (onS ca cb (at_ [ca,cb,cc,cd] p.1)) iiz (fun e v W h=>zAP (zT e h) e) (fun e v W h=>zAe h e))<|zC) fun a w6 s=> ?_
  refine zA rfl ?_
  refine StS.cond s ((onS ca cb (at_ [ca,cb,cc,cd] p.1))&&(onS cc cd (at_ [ca,cb,cc,cd] p.1))) iiz (fun e=> ?_) (fun e=> ?_)
  ·refine zCf 6 ((37,.Z (wB p.2))::(38,.Z (wB v16))::(39,.Z (uI (p.1:Int)))::(40,.Y (fPV 80 (at_ [ca,cb,cc,cd] p.1)))::(41,.Z (fPV 80 (at_ [ca,cb,cc,cd] p.1)))::(42,.s (wD 6 (pns (zGw (yM ca cb cc cd p.1) (at_ [ca,cb,cc,cd] p.1))))):: []) s kJ
    (oc zE<|oc zE<|oc zE<|oc (yH (z:=6) (Cs:=pvs 80 ([ca,cb,cc,cd])) (i:=p.1) (C:=wC (fPV 80 (at_ [ca,cb,cc,cd] p.1))) kJ (q6 hk) (fun v W hb h=>(yU hv16w h (s.up hb))) iiz)<|oc (zK (f:=fPV 80 (at_ [ca,cb,cc,cd] p.1)) 6 kJ (hz:=zP _ _))<|oc (zI zD zUH (fun u0 u1 W hb (h0:u0=p.2) (h1:(fPV 80 (at_ [ca,cb,cc,cd] p.1)).p u1 W)=>zOQ (m:=80) (L:=yM ca cb cc cd p.1) (p:=(at_ [ca,cb,cc,cd] p.1)) (yU hI.2 h0 (s.up hb)) h1 (zJ4 hq4 p.1 oQ) dC dC (by have:=zFt ca cb cc cd p.1;omega)))<|zC) fun a w7 s hr=> ?_
   obtain ⟨v42,e42⟩: ∃v,a.tmps.getD 42 undef=v:=⟨_,rfl⟩
   have hv42:(wD 6 (pns (zGw (yM ca cb cc cd p.1) (at_ [ca,cb,cc,cd] p.1)))).p v42 w7:=e42▸(hr (_,_) mz5)
   replace s:=s.learn 42 v42 e42
   replace s:=s.keepK [(42,.u (wB v42)),(36,.u (uB ((onS ca cb (at_ [ca,cb,cc,cd] p.1))&&(onS cc cd (at_ [ca,cb,cc,cd] p.1))))),(18,.u (uB (decide ((p.1:Int)<4)))),(10,.u (wB v16)),(9,.u (wB p.2)),(11,.u (uI (p.1:Int)))] (fmz ⟨.head _,fmz ⟨mz1,fmz ⟨mz2,fmz ⟨mz3,fmz ⟨mz4,fmz ⟨mz5,fnz⟩⟩⟩⟩⟩⟩)
   have s1:=s0.back s rfl
   replace s:StS _ _ _ [⟨7,30,wC (fPV 80 cd),b7,true⟩,⟨6,30,wC (fPV 80 cc),b6,true⟩,⟨5,30,wC (fPV 80 cb),b5,true⟩,⟨4,30,wC (fPV 80 ca),b4,true⟩] _ _ _ _:=s.freeze
   replace s:=s.reb rfl [(42,.u (wB v42)),(36,.u (uB ((onS ca cb (at_ [ca,cb,cc,cd] p.1))&&(onS cc cd (at_ [ca,cb,cc,cd] p.1))))),(18,.u (uB (decide ((p.1:Int)<4)))),(10,.u (wB v16)),(9,.u (wB p.2)),(11,.u (uI (p.1:Int)))] (fmz ⟨.inl (.head _),fmz ⟨.inl mz1,fmz ⟨.inl mz2,fmz ⟨.inl mz3,fmz ⟨.inl mz4,fmz ⟨.inl mz5,fnz⟩⟩⟩⟩⟩⟩)
   replace s:=s.drop [9]
   refine yR (wB v42) rfl s kJ iiz fun a w s=> ?_
   refine zA rfl ?_
   refine zX 2 ((19,.Z (uI (p.1:Int)))::(20,.u (uI ((p.1+1:Nat):Int))):: []) s kJ
    (oc zE<|oc (yN .i64 (p.1:Int) 1 ((p.1+1:Nat):Int) iiz iiz (wrap64 _ _ oQ oQ))<|zC) fun a w8 s=> ?_
   replace s:=s.drop [11]
   refine yR (uI ((p.1+1:Nat):Int)) rfl s kJ iiz fun a w s=> ?_
   refine zA rfl ?_
   have hbw:=s.below
   replace s:=s1.back (s.keepK [(11,.u (uI ((p.1+1:Nat):Int))),(20,.u (uI ((p.1+1:Nat):Int))),(9,.u (wB v42)),(42,.u (wB v42)),(36,.u (uB ((onS ca cb (at_ [ca,cb,cc,cd] p.1))&&(onS cc cd (at_ [ca,cb,cc,cd] p.1))))),(18,.u (uB (decide ((p.1:Int)<4)))),(10,.u (wB v16))] (fmz ⟨.head _,fmz ⟨mz1,fmz ⟨mz2,fmz ⟨mz3,fmz ⟨mz4,fmz ⟨mz5,fmz ⟨mz6,fnz⟩⟩⟩⟩⟩⟩⟩)) rfl
   exact ⟨(p.1+1,v42),(by show 4 - (p.1+1)<4 - p.1;omega),⟨hk4,by show (wD 6 (pns (yM ca cb cc cd (p.1+1)))).p v42 _;rw [zSM e];exact (wD 6 _).st _ _ _ hv42 hbw⟩,s.keepK _ (fmz ⟨mz6,fmz ⟨mz2,fmz ⟨.head _,fnz⟩⟩⟩)⟩
  ·refine zZp ?_
   refine zX 2 ((19,.Z (uI (p.1:Int)))::(20,.u (uI ((p.1+1:Nat):Int))):: []) s kJ
    (oc zE<|oc (yN .i64 (p.1:Int) 1 ((p.1+1:Nat):Int) iiz iiz (wrap64 _ _ oQ oQ))<|zC) fun a w9 s=> ?_
   replace s:=s.drop [11]
   refine yR (uI ((p.1+1:Nat):Int)) rfl s kJ iiz fun a w s=> ?_
   refine zA rfl ?_
   have hbw:=s.below
   replace s:=s0.back (s.keepK [(11,.u (uI ((p.1+1:Nat):Int))),(20,.u (uI ((p.1+1:Nat):Int))),(36,.u (uB ((onS ca cb (at_ [ca,cb,cc,cd] p.1))&&(onS cc cd (at_ [ca,cb,cc,cd] p.1))))),(18,.u (uB (decide ((p.1:Int)<4)))),(10,.u (wB v16)),(9,.u (wB p.2))] (fmz ⟨.head _,fmz ⟨mz1,fmz ⟨mz2,fmz ⟨mz3,fmz ⟨mz4,fmz ⟨mz5,fnz⟩⟩⟩⟩⟩⟩)) rfl
   exact ⟨(p.1+1,p.2),(by show 4 - (p.1+1)<4 - p.1;omega),⟨hk4,by show (wD 6 (pns (yM ca cb cc cd (p.1+1)))).p p.2 _;rw [zSN e];exact (wD 6 _).st _ _ _ hI.2 hbw⟩,s.keepK _ (fmz ⟨mz4,fmz ⟨mz5,fmz ⟨.head _,fnz⟩⟩⟩)⟩
 ·have hk:p.1=4:=by have h7:=zZu e;have h8:=hI.1;omega
  refine zZO ?_
  refine zZo ?_
  refine zB 2 ((43,.Z (wB p.2))::(8,.u (wB p.2)):: []) hmix s kJ
   (oc zE<|oc zF<|zC) fun a w10 s=> ?_
  refine zA rfl ?_
  refine zZq ?_
  exact StS.resN s (hbX.trans (s0.below.mono hbX.size)) rfl (by rw [s.val (.head _)];have:=(wD 6 _).st _ _ _ hI.2 s.below;rw [hk] at this;exact this)
theorem zKL (h1:(fPV 80 ca).p u W) (h2:(fPV 80 cb).p v W) (h3:(fPV 80 cc).p x W) (h4:(fPV 80 cd).p y W) (hab:zEt ca cb) (hcd:zEt cc cd) (hac:zEt ca cc):Calls prog 106 #[u,v,x,y] W (Ret W (zAC (fPV 327 (y7 ca cb cc cd)) (fB (!(decide ((dnm ca cb cc cd)=0))))).tS):=by
 have hql:QB (y7 ca cb cc cd).1 327/\QB (y7 ca cb cc cd).2 327:=zPl hab hcd
 have hqt:QB ((tnm ca cc cd) / (dnm ca cb cc cd)) 658:=((zQb hac hcd).div (zQ2 hab hcd)).mono dC
 refine z9 [(fPV 80 ca).tS,(fPV 80 cb).tS,(fPV 80 cc).tS,(fPV 80 cd).tS] func106 rfl kJ ⟨h1,h2,h3,h4,trivial⟩ fun a s=> ?_
 refine zZo ?_
 refine zB 0 [] hmix s kJ
  zC fun a w1 s=> ?_
 refine yK (wC (fPV 80 ca)) rfl s kJ (fun v W h=>yS h) fun b4 a w s=> ?_
 refine yK (wC (fPV 80 cb)) rfl s kJ (fun v W h=>yS h) fun b5 a w s=> ?_
 refine yK (wC (fPV 80 cc)) rfl s kJ (fun v W h=>yS h) fun b6 a w s=> ?_
 refine yK (wC (fPV 80 cd)) rfl s kJ (fun v W h=>yS h) fun b7 a w s=> ?_
 refine zZ (CU.len 6) (cs:=zP6) kJ rfl s kJ (fun W=>rfl) rfl fun b8 a w s=> ?_
 refine yR (uB false) rfl s kJ iiz fun a w s=> ?_
 refine zA rfl ?_
 refine zZo ?_
 have so:=s.old;have sg:=s.gr
 refine zBl (fun i=> [].contains i) [⟨6,10,30, [.bool false, sN, sN,.bool false, sN, sN],wJ w 30 (CU.len 6)⟩,⟨7,11,30, [.bool false, sN, sN,.bool false, sN, sN],wJ w 30 (CU.len 6)⟩] 8 ((15,.Z (fPV 80 cb))::(16,.Z (fPV 80 ca))::(17,.u (fPN ((cb).1 - (ca).1,(cb).2 - (ca).2)))::(18,.Z (fPV 80 cd))::(19,.Z (fPV 80 cc))::(20,.u (fPN ((cd).1 - (cc).1,(cd).2 - (cc).2)))::(10,.s (wJ w 30 (CU.len 6)))::(11,.s (wJ w 30 (CU.len 6))):: []) hmix s (fmz ⟨⟨by show 6<8;decide,mz6,⟨_,_,_,rfl⟩,by kernel_rfl,zBt (fun _=>rfl) rfl⟩,fmz ⟨⟨by show 7<8;decide,mz7,⟨_,_,_,rfl⟩,by kernel_rfl,zBt (fun _=>rfl) rfl⟩,fnz⟩⟩) kJ
  (oc (zK (f:=fPV 80 cb) 6 kJ (hz:=zP _ _))<|oc (zK (f:=fPV 80 ca) 6 kJ (hz:=zP _ _))<|oc (zI zD zFu (fun u0 u1 W hb (h0:(fPV 80 cb).p u0 W) (h1:(fPV 80 ca).p u1 W)=>zBL (m:=80) (p:=cb) (q:=ca) h0 h1 dC dC))<|oc (zK (f:=fPV 80 cd) 6 kJ (hz:=zP _ _))<|oc (zK (f:=fPV 80 cc) 6 kJ (hz:=zP _ _))<|oc (zI zD zFu (fun u0 u1 W hb (h0:(fPV 80 cd).p u0 W) (h1:(fPV 80 cc).p u1 W)=>zBL (m:=80) (p:=cd) (q:=cc) h0 h1 dC dC))<|oc (zCi (cs:=zP6) kJ (zBt (fun _=>rfl) rfl))<|oc (zCi (cs:=zP6) kJ (zBt (fun _=>rfl) rfl))<|zC) fun Q' hQ a w2 s hr hd=> ?_
 obtain ⟨b10,hB10,e10,s⟩:=s.adoptA false 10 (hr (_,_) mz6) sg (fun y hy=> .inl (so y hy))
 obtain ⟨b11,hB11,e11,s⟩:=s.adoptA false 11 (hr (_,_) mz7) sg (fun y hy=>by rcases zZ3.1 hy with rfl|hy;exact .inr (.inr fun b hb=>hd _ _ (.head _) mz1 (by show 6≠7;decide) _ _ e10 hb);exact .inl (so y hy))
 refine zQ (wC (fPN ((cb).1 - (ca).1,(cb).2 - (ca).2))) ((fPN ((cb).1 - (ca).1,(cb).2 - (ca).2)).tS) rfl s kJ rfl rfl rfl iiz iiz yT fun a w s=> ?_
 refine zQ (wC (fPN ((cd).1 - (cc).1,(cd).2 - (cc).2))) ((fPN ((cd).1 - (cc).1,(cd).2 - (cc).2)).tS) rfl s kJ rfl rfl rfl iiz iiz yT fun a w s=> ?_
 refine zA rfl (hQ _ _ ?_)
 refine zZo ?_
 refine zB 3 ((21,.Z (fPN ((cb).1 - (ca).1,(cb).2 - (ca).2)))::(22,.Z (fPN ((cd).1 - (cc).1,(cd).2 - (cc).2)))::(23,.u (fQN (dnm ca cb cc cd))):: []) hmix s kJ
  (oc (zK (f:=fPN ((cb).1 - (ca).1,(cb).2 - (ca).2)) 6 kJ (hz:=zP _ _))<|oc (zK (f:=fPN ((cd).1 - (cc).1,(cd).2 - (cc).2)) 6 kJ (hz:=zP _ _))<|oc (zI zD zPH (fun u0 u1 W hb (h0:(fPN ((cb).1 - (ca).1,(cb).2 - (ca).2)).p u0 W) (h1:(fPN ((cd).1 - (cc).1,(cd).2 - (cc).2)).p u1 W)=>zFb (m:=82) (p:=((cb).1 - (ca).1,(cb).2 - (ca).2)) (q:=((cd).1 - (cc).1,(cd).2 - (cc).2)) (zAo (p:=((cb).1 - (ca).1,(cb).2 - (ca).2)) (m:=82) (hab.sub.1.mono (by first|omega|decide)) (hab.sub.2.mono (by first|omega|decide)) h0) (zAo (p:=((cd).1 - (cc).1,(cd).2 - (cc).2)) (m:=82) (hcd.sub.1.mono (by first|omega|decide)) (hcd.sub.2.mono (by first|omega|decide)) h1) hab.sub hcd.sub dC dC))<|zC) fun a w3 s=> ?_
 refine zZ (CU.len 3) (cs:=zR3) kJ rfl s kJ (fun W=>rfl) rfl fun b12 a w s=> ?_
 refine zQ (wC (fQN (dnm ca cb cc cd))) ((fQN (dnm ca cb cc cd)).tS) rfl s kJ rfl rfl rfl iiz iiz yI fun a w s=> ?_
 refine zA rfl ?_
 refine zZo ?_
 have so:=s.old;have sg:=s.gr
 refine zBl (fun i=> [9].contains i) [⟨10,13,28, [.bool false, sN, sN],wJ w 28 (CU.len 3)⟩] 11 ((25,.Z (fPV 80 cc))::(26,.Z (fPV 80 ca))::(27,.Z (fPN ((cc).1 - (ca).1,(cc).2 - (ca).2)))::(28,.Z (fPN ((cd).1 - (cc).1,(cd).2 - (cc).2)))::(29,.Z (fQN (tnm ca cc cd)))::(30,.Z (fQN (dnm ca cb cc cd)))::(31,.Z (zAC (fQN ((tnm ca cc cd) / (dnm ca cb cc cd))) (uI (if (dnm ca cb cc cd)=0 then 30 else 0))))::(24,.Z (zAC (fQN ((tnm ca cc cd) / (dnm ca cb cc cd))) (uI (if (dnm ca cb cc cd)=0 then 30 else 0))))::(32,.u (fQN ((tnm ca cc cd) / (dnm ca cb cc cd))))::(33,.u (uI (if (dnm ca cb cc cd)=0 then 30 else 0)))::(13,.s (wJ w 28 (CU.len 3))):: []) hmix s (fmz ⟨⟨by show 10<11;decide,zPf,⟨_,_,_,rfl⟩,by kernel_rfl,zBt (fun _=>rfl) rfl⟩,fnz⟩) kJ
  (oc (zK (f:=fPV 80 cc) 6 kJ (hz:=zP _ _))<|oc (zK (f:=fPV 80 ca) 6 kJ (hz:=zP _ _))<|oc (zI zD zFu (fun u0 u1 W hb (h0:(fPV 80 cc).p u0 W) (h1:(fPV 80 ca).p u1 W)=>zBL (m:=80) (p:=cc) (q:=ca) h0 h1 dC dC))<|oc (zK (f:=fPN ((cd).1 - (cc).1,(cd).2 - (cc).2)) 6 kJ (hz:=zP _ _))<|oc (zI zD zPH (fun u0 u1 W hb (h0:(fPN ((cc).1 - (ca).1,(cc).2 - (ca).2)).p u0 W) (h1:(fPN ((cd).1 - (cc).1,(cd).2 - (cc).2)).p u1 W)=>zFb (m:=82) (p:=((cc).1 - (ca).1,(cc).2 - (ca).2)) (q:=((cd).1 - (cc).1,(cd).2 - (cc).2)) (zAo (p:=((cc).1 - (ca).1,(cc).2 - (ca).2)) (m:=82) (hac.sub.1.mono (by first|omega|decide)) (hac.sub.2.mono (by first|omega|decide)) h0) (zAo (p:=((cd).1 - (cc).1,(cd).2 - (cc).2)) (m:=82) (hcd.sub.1.mono (by first|omega|decide)) (hcd.sub.2.mono (by first|omega|decide)) h1) hac.sub hcd.sub dC dC))<|oc (zK (f:=fQN (dnm ca cb cc cd)) 3 kJ (hz:=qX _))<|oc (zI zD zUu (fun u0 u1 W hb (h0:QNp (tnm ca cc cd) u0 W) (h1:QNp (dnm ca cb cc cd) u1 W)=>zL4 (m:=329) (wM h0 (zQb hac hcd)) (wM h1 (zQ2 hab hcd)) dC dC))<|oc zE<|oc (zAR (A:=(fQN ((tnm ca cc cd) / (dnm ca cb cc cd))).tS) (B:=(uI (if (dnm ca cb cc cd)=0 then 30 else 0)).tS) iiz)<|oc (zAQ (A:=(fQN ((tnm ca cc cd) / (dnm ca cb cc cd))).tS) (B:=(uI (if (dnm ca cb cc cd)=0 then 30 else 0)).tS) iiz)<|oc (zCi (cs:=zR3) kJ (zBt (fun _=>rfl) rfl))<|zC) fun Q' hQ a w4 s hr hd=> ?_
 obtain ⟨b13,hB13,e13,s⟩:=s.adoptA false 13 (hr (_,_) zPf) sg (fun y hy=> .inl (so y hy))
 refine zQ (wC (fQN ((tnm ca cc cd) / (dnm ca cb cc cd)))) ((fQN ((tnm ca cc cd) / (dnm ca cb cc cd))).tS) rfl s kJ rfl rfl rfl iiz iiz yI fun a w s=> ?_
 refine yR (uI (if (dnm ca cb cc cd)=0 then 30 else 0)) rfl s kJ iiz fun a w s=> ?_
 refine zA rfl (hQ _ _ ?_)
 refine zZo ?_
 refine zZo ?_
 refine zB 2 ((34,.Z (uI (if (dnm ca cb cc cd)=0 then 30 else 0)))::(35,.u (uB (decide ((dnm ca cb cc cd)=0)))):: []) hmix s kJ
  (oc zE<|oc (zS .i64 (if (dnm ca cb cc cd)=0 then 30 else 0) 0 (decide ((dnm ca cb cc cd)=0)) iiz iiz (by show ((if (dnm ca cb cc cd)=0 then (30:Int) else 0) !=0)=_;by_cases h:(dnm ca cb cc cd)=0;(rw [if_pos h,zZU h];rfl);(rw [if_neg h,zZT h];rfl)) rfl)<|zC) fun a w5 s=> ?_
 refine zA rfl ?_
 refine StS.cond s (decide ((dnm ca cb cc cd)=0)) iiz (fun e=> ?_) (fun e=> ?_)
 ·have h00:=zZx e
  refine zZo ?_
  replace s:=s.drop [9]
  refine zB 1 ((36,.u (fPV 327 (y7 ca cb cc cd))):: []) hmix s kJ
   (oc (zI zD zEw (fun u0 u1 W hb (h0:u0= .int .i64 0) (h1:u1= .int .i64 0)=>(zCo h0 h1 dC dC).mono (wH (fun v W h=>zAo (p:=(y7 ca cb cc cd)) (m:=327) hql.1 hql.2 (by unfold y7;rw [if_pos h00];exact h)))))<|zC) fun a w6 s=> ?_
  refine zQ (wC (fPV 327 (y7 ca cb cc cd))) ((fPV 327 (y7 ca cb cc cd)).tS) rfl s kJ rfl rfl rfl iiz iiz yT fun a w s=> ?_
  refine yR (uB false) rfl s kJ iiz fun a w s=> ?_
  refine zA rfl ?_
  refine zZq ?_
  exact wU s (wC (fPV 327 (y7 ca cb cc cd))) rfl kJ rfl rfl (zP _ _) (fun cs v W h1 h2=>⟨_,_,rfl,h1,by rw [e];exact h2⟩)
 ·have h00:=zZu e
  refine zZp ?_
  refine zZo ?_
  replace s:=s.drop [9]
  refine zB 4 ((37,.Z (fPV 80 ca))::(38,.Z (fPV 80 cb))::(39,.Z (fQN ((tnm ca cc cd) / (dnm ca cb cc cd))))::(40,.u (fPV 327 (y7 ca cb cc cd))):: []) hmix s kJ
   (oc (zK (f:=fPV 80 ca) 6 kJ (hz:=zP _ _))<|oc (zK (f:=fPV 80 cb) 6 kJ (hz:=zP _ _))<|oc (zK (f:=fQN ((tnm ca cc cd) / (dnm ca cb cc cd))) 3 kJ (hz:=qX _))<|oc (zAS zD zWp (fun u0 u1 u2 W hb (h0:(fPV 80 ca).p u0 W) (h1:(fPV 80 cb).p u1 W) (h2:QNp ((tnm ca cc cd) / (dnm ca cb cc cd)) u2 W)=>(zTB (m:=80) (k:=658) 821 (p:=ca) (q:=cb) (t:=(tnm ca cc cd) / (dnm ca cb cc cd)) h0 h1 (wM h2 hqt) hab.one hab.two hqt dC dC dC).mono (wH (fun v W h=>zAo (p:=(y7 ca cb cc cd)) (m:=327) hql.1 hql.2 (by unfold y7;rw [if_neg h00];exact h)))))<|zC) fun a w7 s=> ?_
  refine zQ (wC (fPV 327 (y7 ca cb cc cd))) ((fPV 327 (y7 ca cb cc cd)).tS) rfl s kJ rfl rfl rfl iiz iiz yT fun a w s=> ?_
  refine yR (uB true) rfl s kJ iiz fun a w s=> ?_
  refine zA rfl ?_
  refine zZq ?_
  exact wU s (wC (fPV 327 (y7 ca cb cc cd))) rfl kJ rfl rfl (zP _ _) (fun cs v W h1 h2=>⟨_,_,rfl,h1,by rw [e];exact h2⟩)
theorem zMd (h1:(fPV 80 ca).p u W) (h2:(fPV 80 cb).p v W) (h3:(fPV 80 cc).p x W) (h4:(fPV 80 cd).p y W) (hab:zEt ca cb) (hcd:zEt cc cd) (hac:zEt ca cc):Calls prog 83 #[u,v,x,y] W (Ret W (fMT (zBK ca cb cc cd)).tS):=by
 refine z9 [(fPV 80 ca).tS,(fPV 80 cb).tS,(fPV 80 cc).tS,(fPV 80 cd).tS] func83 rfl kJ ⟨h1,h2,h3,h4,trivial⟩ fun a s=> ?_
 replace s:=s.renew [(0,.u (fPV 80 ca)),(1,.u (fPV 80 cb)),(2,.u (fPV 80 cc)),(3,.u (fPV 80 cd))] (fmz ⟨.inr ⟨_,rfl,.head _⟩,fmz ⟨.inr ⟨_,rfl,mz1⟩,fmz ⟨.inr ⟨_,rfl,mz2⟩,fmz ⟨.inr ⟨_,rfl,mz3⟩,fnz⟩⟩⟩⟩)
 refine zZo ?_
 refine zB 0 [] hmix s kJ
  zC fun a w1 s=> ?_
 refine yK (wC (fPV 80 ca)) rfl s kJ (fun v W h=>yS h) fun b4 a w s=> ?_
 refine yK (wC (fPV 80 cb)) rfl s kJ (fun v W h=>yS h) fun b5 a w s=> ?_
 refine yK (wC (fPV 80 cc)) rfl s kJ (fun v W h=>yS h) fun b6 a w s=> ?_
 refine yK (wC (fPV 80 cd)) rfl s kJ (fun v W h=>yS h) fun b7 a w s=> ?_
 refine zZ (CU.len 13) (cs:= [.int .i8 0,.bool false, sN, sN,.bool false, sN, sN,.bool false, sN, sN,.bool false, sN, sN]) kJ rfl s kJ (fun W=>rfl) rfl fun b8 a w s=> ?_
 refine zA rfl ?_
 refine zZo ?_
 refine qV 5 ((12,.Z (fPV 80 ca))::(13,.Z (fPV 80 cb))::(14,.Z (fPV 80 cc))::(15,.Z (fPV 80 cd))::(16,.s (wD 6 (pns (yM ca cb cc cd 4)))):: []) hmix s kJ
  (oc (zK (f:=fPV 80 ca) 6 kJ (hz:=zP _ _))<|oc (zK (f:=fPV 80 cb) 6 kJ (hz:=zP _ _))<|oc (zK (f:=fPV 80 cc) 6 kJ (hz:=zP _ _))<|oc (zK (f:=fPV 80 cd) 6 kJ (hz:=zP _ _))<|oc (zGB zD zUN (fun u0 u1 u2 u3 W hb (h0:(fPV 80 ca).p u0 W) (h1:(fPV 80 cb).p u1 W) (h2:(fPV 80 cc).p u2 W) (h3:(fPV 80 cd).p u3 W)=>zMe h0 h1 h2 h3))<|zC) fun a w2 s hr=> ?_
 obtain ⟨v16,e16⟩: ∃v,a.tmps.getD 16 undef=v:=⟨_,rfl⟩
 have hv16:(wD 6 (pns (yM ca cb cc cd 4))).p v16 w2:=e16▸(hr (_,_) mz4)
 replace s:=s.learn 16 v16 e16
 replace s:=s.keepK [(16,.u (wB v16)),(0,.u (fPV 80 ca)),(1,.u (fPV 80 cb)),(2,.u (fPV 80 cc)),(3,.u (fPV 80 cd))] (fmz ⟨.head _,fmz ⟨mz1,fmz ⟨mz2,fmz ⟨mz3,fmz ⟨mz4,fnz⟩⟩⟩⟩⟩)
 have s1:=s
 replace s:StS _ _ _ [⟨8,112,CU.len 13,b8,true⟩,⟨7,30,wC (fPV 80 cd),b7,true⟩,⟨6,30,wC (fPV 80 cc),b6,true⟩,⟨5,30,wC (fPV 80 cb),b5,true⟩,⟨4,30,wC (fPV 80 ca),b4,true⟩] _ _ _ _:=s.freeze
 replace s:=s.reb rfl [(16,.u (wB v16)),(0,.u (fPV 80 ca)),(1,.u (fPV 80 cb)),(2,.u (fPV 80 cc)),(3,.u (fPV 80 cd))] (fmz ⟨.inl (.head _),fmz ⟨.inl mz1,fmz ⟨.inl mz2,fmz ⟨.inl mz3,fmz ⟨.inl mz4,fnz⟩⟩⟩⟩⟩)
 refine zQd (wB v16) rfl s kJ iiz fun a s=> ?_
 refine zA rfl ?_
 refine zZo ?_
 refine zZo ?_
 refine zB 3 ((17,.Z (wB v16))::(18,.Z (uI ((pns (yM ca cb cc cd 4)).length:Int)))::(19,.u (uB (decide (((pns (yM ca cb cc cd 4)).length:Int)≥2)))):: []) hmix s kJ
  (oc zE<|oc (yV (z:=6) (Cs:=pns (yM ca cb cc cd 4)) kJ (fun v W hb h=>(yU hv16 h (s.up hb))) (fun _=>rfl))<|oc (zS .i64 ((pns (yM ca cb cc cd 4)).length:Int) 2 (decide (((pns (yM ca cb cc cd 4)).length:Int)≥2)) iiz iiz rfl rfl)<|zC) fun a w3 s=> ?_
 refine zA rfl ?_
 refine StS.cond s (decide (((pns (yM ca cb cc cd 4)).length:Int)≥2)) iiz (fun e=> ?_) (fun e=> ?_)
 ·have hlen:0<(yM ca cb cc cd 4).length:=by have:=zZx e;simp at this;omega
  have hk:zBK ca cb cc cd=2:=if_pos (zZx e)
  refine zZo ?_
  refine z7 [0,3,4] 10 ((20,.Z (wB v16))::(21,.Y (fPN (at_ (yM ca cb cc cd 4) 0)))::(22,.Z (fPN (at_ (yM ca cb cc cd 4) 0)))::(23,.Z (wB v16))::(24,.Z (wB v16))::(25,.Z (uI ((pns (yM ca cb cc cd 4)).length:Int)))::(26,.Z (uI (((yM ca cb cc cd 4).length - 1:Nat):Int)))::(27,.Y (fPN (at_ (yM ca cb cc cd 4) ((yM ca cb cc cd 4).length - 1))))::(28,.Z (fPN (at_ (yM ca cb cc cd 4) ((yM ca cb cc cd 4).length - 1))))::(29,.u (fMT 2)):: []) hmix s kJ
   (oc zE<|oc (yH (z:=6) (Cs:=pns (yM ca cb cc cd 4)) (i:=0) (C:=wC (fPN (at_ (yM ca cb cc cd 4) 0))) kJ (zDg (show 0<(yM ca cb cc cd 4).length by have hx:=hlen;omega)) (fun v W hb h=>(yU hv16 h (s.up hb))) iiz)<|oc (zK (f:=fPN (at_ (yM ca cb cc cd 4) 0)) 6 kJ (hz:=zP _ _))<|oc zE<|oc zE<|oc (yV (z:=6) (Cs:=pns (yM ca cb cc cd 4)) kJ (fun v W hb h=>(yU hv16 h (s.up hb))) (fun _=>rfl))<|oc (zEb .i64 ((pns (yM ca cb cc cd 4)).length:Int) 1 (((yM ca cb cc cd 4).length - 1:Nat):Int) iiz iiz (by have:=zFt ca cb cc cd 4;simp only [zZC];rw [zZP];omega))<|oc (yH (z:=6) (Cs:=pns (yM ca cb cc cd 4)) (i:=((yM ca cb cc cd 4).length - 1)) (C:=wC (fPN (at_ (yM ca cb cc cd 4) ((yM ca cb cc cd 4).length - 1)))) kJ (zDg (show ((yM ca cb cc cd 4).length - 1)<(yM ca cb cc cd 4).length by have hx:=hlen;omega)) (fun v W hb h=>(yU hv16 h (s.up hb))) iiz)<|oc (zK (f:=fPN (at_ (yM ca cb cc cd 4) ((yM ca cb cc cd 4).length - 1))) 6 kJ (hz:=zP _ _))<|oc (zCa (fun u v q W (hu:u= .int .i8 2) (hv:(fPN (at_ (yM ca cb cc cd 4) 0)).p v W) (hq:(fPN (at_ (yM ca cb cc cd 4) ((yM ca cb cc cd 4).length - 1))).p q W)=>by rw [show u=_ from hu];exact zSY hv hq))<|zC) fun Q' hQ a w4 s=> ?_
  replace s:=s.keepK [(29,.u (fMT 2)),(19,.u (uB (decide (((pns (yM ca cb cc cd 4)).length:Int)≥2)))),(9,.u (wB v16)),(16,.u (wB v16)),(0,.u (fPV 80 ca)),(1,.u (fPV 80 cb)),(2,.u (fPV 80 cc)),(3,.u (fPV 80 cd))] (fmz ⟨.head _,fmz ⟨mz1,fmz ⟨mz2,fmz ⟨mz3,fmz ⟨mz4,fmz ⟨mz5,fmz ⟨mz6,fmz ⟨mz7,fnz⟩⟩⟩⟩⟩⟩⟩⟩)
  replace s:=s1.thaw s rfl
  refine zQ (wC (fMT 2)) ((fMT 2).tS) rfl s kJ rfl rfl rfl iiz iiz (zDG _) fun a w s=> ?_
  refine zA rfl (hQ _ _ ?_)
  refine zZq ?_
  exact wI s (wC (fMT 2)) rfl kJ rfl rfl (zJP _) (fun cs W h=>by rw [hk];exact h)
 ·have e2:=zZu e
  refine zZp ?_
  refine zZo ?_
  refine zZo ?_
  refine zB 3 ((30,.Z (wB v16))::(31,.Z (uI ((pns (yM ca cb cc cd 4)).length:Int)))::(32,.u (uB (((pns (yM ca cb cc cd 4)).length:Int)==1))):: []) hmix s kJ
   (oc zE<|oc (yV (z:=6) (Cs:=pns (yM ca cb cc cd 4)) kJ (fun v W hb h=>(yU hv16 h (s.up hb))) (fun _=>rfl))<|oc (zS .i64 ((pns (yM ca cb cc cd 4)).length:Int) 1 (((pns (yM ca cb cc cd 4)).length:Int)==1) iiz iiz rfl rfl)<|zC) fun a w5 s=> ?_
  refine zA rfl ?_
  refine StS.cond s (((pns (yM ca cb cc cd 4)).length:Int)==1) iiz (fun e=> ?_) (fun e=> ?_)
  ·have hlen:0<(yM ca cb cc cd 4).length:=by have:=zZB.1 e;simp at this;omega
   have hk:zBK ca cb cc cd=1:=by unfold zBK;rw [if_neg e2,if_pos e]
   refine zZo ?_
   refine z7 [0,3] 7 ((33,.Z (wB v16))::(34,.Y (fPN (at_ (yM ca cb cc cd 4) 0)))::(35,.Z (fPN (at_ (yM ca cb cc cd 4) 0)))::(36,.Z (wB v16))::(37,.Y (fPN (at_ (yM ca cb cc cd 4) 0)))::(38,.Z (fPN (at_ (yM ca cb cc cd 4) 0)))::(39,.u (fMT 1)):: []) hmix s kJ
    (oc zE<|oc (yH (z:=6) (Cs:=pns (yM ca cb cc cd 4)) (i:=0) (C:=wC (fPN (at_ (yM ca cb cc cd 4) 0))) kJ (zDg (show 0<(yM ca cb cc cd 4).length by have hx:=hlen;omega)) (fun v W hb h=>(yU hv16 h (s.up hb))) iiz)<|oc (zK (f:=fPN (at_ (yM ca cb cc cd 4) 0)) 6 kJ (hz:=zP _ _))<|oc zE<|oc (yH (z:=6) (Cs:=pns (yM ca cb cc cd 4)) (i:=0) (C:=wC (fPN (at_ (yM ca cb cc cd 4) 0))) kJ (zDg (show 0<(yM ca cb cc cd 4).length by have hx:=hlen;omega)) (fun v W hb h=>(yU hv16 h (s.up hb))) iiz)<|oc (zK (f:=fPN (at_ (yM ca cb cc cd 4) 0)) 6 kJ (hz:=zP _ _))<|oc (zCa (fun u v q W (hu:u= .int .i8 1) (hv:(fPN (at_ (yM ca cb cc cd 4) 0)).p v W) (hq:(fPN (at_ (yM ca cb cc cd 4) 0)).p q W)=>by rw [show u=_ from hu];exact zSY hv hq))<|zC) fun Q' hQ a w6 s=> ?_
   replace s:=s.keepK [(39,.u (fMT 1)),(32,.u (uB (((pns (yM ca cb cc cd 4)).length:Int)==1))),(19,.u (uB (decide (((pns (yM ca cb cc cd 4)).length:Int)≥2)))),(9,.u (wB v16)),(16,.u (wB v16)),(0,.u (fPV 80 ca)),(1,.u (fPV 80 cb)),(2,.u (fPV 80 cc)),(3,.u (fPV 80 cd))] (fmz ⟨.head _,fmz ⟨mz1,fmz ⟨mz2,fmz ⟨mz3,fmz ⟨mz4,fmz ⟨mz5,fmz ⟨mz6,fmz ⟨mz7,fmz ⟨mz8,fnz⟩⟩⟩⟩⟩⟩⟩⟩⟩)
   replace s:=s1.thaw s rfl
   refine zQ (wC (fMT 1)) ((fMT 1).tS) rfl s kJ rfl rfl rfl iiz iiz (zDG _) fun a w s=> ?_
   refine zA rfl (hQ _ _ ?_)
   refine zZq ?_
   exact wI s (wC (fMT 1)) rfl kJ rfl rfl (zJP _) (fun cs W h=>by rw [hk];exact h)
  ·have e3:=e
   replace s:=s.keepK [(32,.u (uB (((pns (yM ca cb cc cd 4)).length:Int)==1))),(19,.u (uB (decide (((pns (yM ca cb cc cd 4)).length:Int)≥2)))),(9,.u (wB v16)),(16,.u (wB v16)),(0,.u (fPV 80 ca)),(1,.u (fPV 80 cb)),(2,.u (fPV 80 cc)),(3,.u (fPV 80 cd))] (fmz ⟨.head _,fmz ⟨mz1,fmz ⟨mz2,fmz ⟨mz3,fmz ⟨mz4,fmz ⟨mz5,fmz ⟨mz6,fmz ⟨mz7,fnz⟩⟩⟩⟩⟩⟩⟩⟩)
   replace s:=s1.thaw s rfl
   refine zZp ?_
   refine zZo ?_
   refine zB 8 ((41,.Z (fPV 80 ca))::(42,.Z (fPV 80 cb))::(43,.Z (fPV 80 cc))::(44,.Z (fPV 80 cd))::(45,.Z (zAC (fPV 327 (y7 ca cb cc cd)) (uB (!(decide ((dnm ca cb cc cd)=0))))))::(40,.Z (zAC (fPV 327 (y7 ca cb cc cd)) (uB (!(decide ((dnm ca cb cc cd)=0))))))::(46,.u (fPV 327 (y7 ca cb cc cd)))::(47,.u (uB (!(decide ((dnm ca cb cc cd)=0))))):: []) hmix s kJ
    (oc (zK (f:=fPV 80 ca) 6 kJ (hz:=zP _ _))<|oc (zK (f:=fPV 80 cb) 6 kJ (hz:=zP _ _))<|oc (zK (f:=fPV 80 cc) 6 kJ (hz:=zP _ _))<|oc (zK (f:=fPV 80 cd) 6 kJ (hz:=zP _ _))<|oc (zGB zD zUM (fun u0 u1 u2 u3 W hb (h0:(fPV 80 ca).p u0 W) (h1:(fPV 80 cb).p u1 W) (h2:(fPV 80 cc).p u2 W) (h3:(fPV 80 cd).p u3 W)=>zKL h0 h1 h2 h3 hab hcd hac))<|oc zE<|oc (zAR (A:=(fPV 327 (y7 ca cb cc cd)).tS) (B:=(uB (!(decide ((dnm ca cb cc cd)=0)))).tS) iiz)<|oc (zAQ (A:=(fPV 327 (y7 ca cb cc cd)).tS) (B:=(uB (!(decide ((dnm ca cb cc cd)=0)))).tS) iiz)<|zC) fun a w7 s=> ?_
   refine zZ (CU.len 6) (cs:=zP6) kJ rfl s kJ (fun W=>rfl) rfl fun b10 a w s=> ?_
   refine zQ (wC (fPV 327 (y7 ca cb cc cd))) ((fPV 327 (y7 ca cb cc cd)).tS) rfl s kJ rfl rfl rfl iiz iiz yT fun a w s=> ?_
   refine yR (uB (!(decide ((dnm ca cb cc cd)=0)))) rfl s kJ iiz fun a w s=> ?_
   refine zA rfl ?_
   refine zZo ?_
   refine zZo ?_
   refine zB 13 ((48,.Z (uB (!(decide ((dnm ca cb cc cd)=0)))))::(49,.Z (uB (!(decide ((dnm ca cb cc cd)=0)))))::(50,.s (SF.imp ((!(decide ((dnm ca cb cc cd)=0)))=true) ((fPV 80 ca).tS)))::(51,.s (SF.imp ((!(decide ((dnm ca cb cc cd)=0)))=true) ((fPV 80 cb).tS)))::(52,.s (SF.imp ((!(decide ((dnm ca cb cc cd)=0)))=true) ((fPV 327 (y7 ca cb cc cd)).tS)))::(53,.s (SF.imp ((!(decide ((dnm ca cb cc cd)=0)))=true) ((uB (onS ca cb (y7 ca cb cc cd))).tS)))::(54,.Z (uB ((!(decide ((dnm ca cb cc cd)=0)))&&(onS ca cb (y7 ca cb cc cd)))))::(55,.Z (uB ((!(decide ((dnm ca cb cc cd)=0)))&&(onS ca cb (y7 ca cb cc cd)))))::(56,.s (SF.imp (((!(decide ((dnm ca cb cc cd)=0)))&&(onS ca cb (y7 ca cb cc cd)))=true) ((fPV 80 cc).tS)))::(57,.s (SF.imp (((!(decide ((dnm ca cb cc cd)=0)))&&(onS ca cb (y7 ca cb cc cd)))=true) ((fPV 80 cd).tS)))::(58,.s (SF.imp (((!(decide ((dnm ca cb cc cd)=0)))&&(onS ca cb (y7 ca cb cc cd)))=true) ((fPV 327 (y7 ca cb cc cd)).tS)))::(59,.s (SF.imp (((!(decide ((dnm ca cb cc cd)=0)))&&(onS ca cb (y7 ca cb cc cd)))=true) ((uB (onS cc cd (y7 ca cb cc cd))).tS)))::(60,.u (uB (((!(decide ((dnm ca cb cc cd)=0)))&&(onS ca cb (y7 ca cb cc cd)))&&(onS cc cd (y7 ca cb cc cd))))):: []) hmix s kJ
    (oc zE<|oc zE<|oc (zG 49 (!(decide ((dnm ca cb cc cd)=0))) kJ iiz (fun e=>z5 [] ((fPV 80 ca).tS) fnz fS kJ (zK (f:=fPV 80 ca) 6 kJ (hz:=zP _ _))) fQ)<|oc (zG 49 (!(decide ((dnm ca cb cc cd)=0))) kJ iiz (fun e=>z5 [] ((fPV 80 cb).tS) fnz fS kJ (zK (f:=fPV 80 cb) 6 kJ (hz:=zP _ _))) fQ)<|oc (zG 49 (!(decide ((dnm ca cb cc cd)=0))) kJ iiz (fun e=>z5 [] ((fPV 327 (y7 ca cb cc cd)).tS) fnz fS kJ (zK (f:=fPV 327 (y7 ca cb cc cd)) 6 kJ (hz:=zP _ _))) fQ)<|oc (zG 49 (!(decide ((dnm ca cb cc cd)=0))) kJ iiz (fun e=>z5 [(50,(fPV 80 ca).tS),(51,(fPV 80 cb).tS),(52,(fPV 327 (y7 ca cb cc cd)).tS)] ((uB (onS ca cb (y7 ca cb cc cd))).tS) (fmz ⟨fun v W h=>zT (c:=(!(decide ((dnm ca cb cc cd)=0)))=true) (f:=(fPV 80 ca).tS) e h,fmz ⟨fun v W h=>zT (c:=(!(decide ((dnm ca cb cc cd)=0)))=true) (f:=(fPV 80 cb).tS) e h,fmz ⟨fun v W h=>zT (c:=(!(decide ((dnm ca cb cc cd)=0)))=true) (f:=(fPV 327 (y7 ca cb cc cd)).tS) e h,fnz⟩⟩⟩) fS kJ (zAS zD zJ6 (fun u0 u1 u2 W hb (h0:(fPV 80 ca).p u0 W) (h1:(fPV 80 cb).p u1 W) (h2:(fPV 327 (y7 ca cb cc cd)).p u2 W)=>zGu (m:=80) (M:=327) h0 h1 h2 dC dC dC dC))) fQ)<|oc (yO (!(decide ((dnm ca cb cc cd)=0))) iiz (fun e v W h=>zAP (zT e h) e) (fun e v W h=>zAe h e))<|oc zE<|oc (zG 55 ((!(decide ((dnm ca cb cc cd)=0)))&&(onS ca cb (y7 ca cb cc cd))) kJ iiz (fun e=>z5 [] ((fPV 80 cc).tS) fnz fS kJ (zK (f:=fPV 80 cc) 6 kJ (hz:=zP _ _))) fQ)<|oc (zG 55 ((!(decide ((dnm ca cb cc cd)=0)))&&(onS ca cb (y7 ca cb cc cd))) kJ iiz (fun e=>z5 [] ((fPV 80 cd).tS) fnz fS kJ (zK (f:=fPV 80 cd) 6 kJ (hz:=zP _ _))) fQ)<|oc (zG 55 ((!(decide ((dnm ca cb cc cd)=0)))&&(onS ca cb (y7 ca cb cc cd))) kJ iiz (fun e=>z5 [] ((fPV 327 (y7 ca cb cc cd)).tS) fnz fS kJ (zK (f:=fPV 327 (y7 ca cb cc cd)) 6 kJ (hz:=zP _ _))) fQ)<|oc (zG 55 ((!(decide ((dnm ca cb cc cd)=0)))&&(onS ca cb (y7 ca cb cc cd))) kJ iiz (fun e=>z5 [(56,(fPV 80 cc).tS),(57,(fPV 80 cd).tS),(58,(fPV 327 (y7 ca cb cc cd)).tS)] ((uB (onS cc cd (y7 ca cb cc cd))).tS) (fmz ⟨fun v W h=>zT (c:=((!(decide ((dnm ca cb cc cd)=0)))&&(onS ca cb (y7 ca cb cc cd)))=true) (f:=(fPV 80 cc).tS) e h,fmz ⟨fun v W h=>zT (c:=((!(decide ((dnm ca cb cc cd)=0)))&&(onS ca cb (y7 ca cb cc cd)))=true) (f:=(fPV 80 cd).tS) e h,fmz ⟨fun v W h=>zT (c:=((!(decide ((dnm ca cb cc cd)=0)))&&(onS ca cb (y7 ca cb cc cd)))=true) (f:=(fPV 327 (y7 ca cb cc cd)).tS) e h,fnz⟩⟩⟩) fS kJ (zAS zD zJ6 (fun u0 u1 u2 W hb (h0:(fPV 80 cc).p u0 W) (h1:(fPV 80 cd).p u1 W) (h2:(fPV 327 (y7 ca cb cc cd)).p u2 W)=>zGu (m:=80) (M:=327) h0 h1 h2 dC dC dC dC))) fQ)<|oc (yO ((!(decide ((dnm ca cb cc cd)=0)))&&(onS ca cb (y7 ca cb cc cd))) iiz (fun e v W h=>zAP (zT e h) e) (fun e v W h=>zAe h e))<|zC) fun a w8 s=> ?_
   refine zA rfl ?_
   refine StS.cond s (((!(decide ((dnm ca cb cc cd)=0)))&&(onS ca cb (y7 ca cb cc cd)))&&(onS cc cd (y7 ca cb cc cd))) iiz (fun e=> ?_) (fun e=> ?_)
   ·have hk:zBK ca cb cc cd=1:=by unfold zBK;rw [if_neg e2,if_neg (by rw [e3];decide),if_pos e]
    refine zZo ?_
    refine zB 3 ((61,.Z (fPV 327 (y7 ca cb cc cd)))::(62,.Z (fPV 327 (y7 ca cb cc cd)))::(63,.u (fMT 1)):: []) hmix s kJ
     (oc (zK (f:=fPV 327 (y7 ca cb cc cd)) 6 kJ (hz:=zP _ _))<|oc (zK (f:=fPV 327 (y7 ca cb cc cd)) 6 kJ (hz:=zP _ _))<|oc (zCa (fun u v q W (hu:u= .int .i8 1) (hv:(fPV 327 (y7 ca cb cc cd)).p v W) (hq:(fPV 327 (y7 ca cb cc cd)).p q W)=>by rw [show u=_ from hu];exact zSY hv hq))<|zC) fun a w9 s=> ?_
    refine zQ (wC (fMT 1)) ((fMT 1).tS) rfl s kJ rfl rfl rfl iiz iiz (zDG _) fun a w s=> ?_
    refine zA rfl ?_
    refine zZq ?_
    exact wI s (wC (fMT 1)) rfl kJ rfl rfl (zJP _) (fun cs W h=>by rw [hk];exact h)
   ·have hk:zBK ca cb cc cd=0:=by unfold zBK;rw [if_neg e2,if_neg (by rw [e3];decide),if_neg (by rw [e];decide)]
    refine zZp ?_
    refine zZo ?_
    refine zB 3 ((64,.Z (fPN (((0:Int):Rat),((0:Int):Rat))))::(65,.Z (fPN (((0:Int):Rat),((0:Int):Rat))))::(66,.u (fMT 0)):: []) hmix s kJ
     (oc (zI zD zEw (fun u0 u1 W hb (h0:u0= .int .i64 0) (h1:u1= .int .i64 0)=>zCo h0 h1 dC dC))<|oc (zI zD zEw (fun u0 u1 W hb (h0:u0= .int .i64 0) (h1:u1= .int .i64 0)=>zCo h0 h1 dC dC))<|oc (y4 (fun u v W (hu:(fPN (((0:Int):Rat),((0:Int):Rat))).p u W) (hv:(fPN (((0:Int):Rat),((0:Int):Rat))).p v W)=>zWu hu hv))<|zC) fun a w10 s=> ?_
    refine zQ (wC (fMT 0)) ((fMT 0).tS) rfl s kJ rfl rfl rfl iiz iiz (zDG _) fun a w s=> ?_
    refine zA rfl ?_
    refine zZq ?_
    exact wI s (wC (fMT 0)) rfl kJ rfl rfl (zJP _) (fun cs W h=>by rw [hk];exact h)
def zAJ (ps:List V2) (k i:Nat):Bool:=if i=k+1∨(k=0/\i=ps.length - 1) then zBK (at_ ps k) (at_ ps ((k+1) % ps.length)) (at_ ps i) (at_ ps ((i+1) % ps.length))==1 else zBK (at_ ps k) (at_ ps ((k+1) % ps.length)) (at_ ps i) (at_ ps ((i+1) % ps.length))==0
def zPC (ps:List V2) (i k:Nat):Bool:= !((q8 (at_ ps i) (at_ ps k)==0)|| !(zAJ ps k i))
def zD1 (ps:List V2):Bool:=decide (3<=ps.length)&&(List.range ps.length).all fun i=>(List.range i).all fun k=>zPC ps i k
theorem zJi (h:ps.length<3):zD1 ps=false:=by
 unfold zD1
 rw [zZT oQ,Bool.false_and]
theorem zRG (hi:i<ps.length) (hk:k<i) (h:((q8 (at_ ps i) (at_ ps k)==0)|| !(zAJ ps k i))=true):zD1 ps=false:=by
 unfold zD1
 rw [zZZ]
 right
 rw [zZ4]
 refine ⟨i,zZF.2 hi, ?_⟩
 rw [Bool.not_eq_true,zZ4]
 refine ⟨k,zZF.2 hk, ?_⟩
 unfold zPC
 rw [h]
 decide
theorem zOs (h3:3<=ps.length) (h: ∀i k,i<ps.length->k<i->((q8 (at_ ps i) (at_ ps k)==0)|| !(zAJ ps k i))=false):zD1 ps=true:=by
 unfold zD1
 rw [zZU h3,Bool.true_and,zZG]
 intro i hi
 rw [zZG]
 intro k hk
 unfold zPC
 rw [h i k (zZF.1 hi) (zZF.1 hk)]
 rfl
theorem zHA {l:Wu} (hl:(wD 6 (pvs m ps)).p l W) (hu:u= .int .i64 (k:Int)) (hk:k<ps.length) (hn:ps.length<=1000000) (h2:2<=ps.length):Calls prog 62 #[l,u] W (Ret W (zFI (fPV m (at_ ps k)) (fPV m (tn ps k)) (fB true)).tS):=by
 have hk1:(k+1) % ps.length<ps.length:=zZQ _ oQ
 refine z9 [(wB l).tS,(uI (k:Int)).tS] func62 rfl kJ ⟨rfl,hu,trivial⟩ fun a s=> ?_
 replace s:=s.renew [(0,.u (wB l)),(1,.u (uI (k:Int)))] (fmz ⟨.inr ⟨_,rfl,.head _⟩,fmz ⟨.inr ⟨_,rfl,mz1⟩,fnz⟩⟩)
 refine zZo ?_
 refine zB 0 [] hmix s kJ
  zC fun a w1 s=> ?_
 refine zZ (wC (fPV m (((0:Rat),(0:Rat)):V2))) (cs:=ptZ) kJ rfl s kJ (fun W=>zGx m W) rfl fun b4 a w s=> ?_
 refine zZ (wC (fPV m (((0:Rat),(0:Rat)):V2))) (cs:=ptZ) kJ rfl s kJ (fun W=>zGx m W) rfl fun b5 a w s=> ?_
 refine yR (uB false) rfl s kJ iiz fun a w s=> ?_
 refine zA rfl ?_
 refine zZo ?_
 refine zZo ?_
 refine zB 13 ((7,.Z (wB l))::(8,.Z (uI ((pvs m ps).length:Int)))::(9,.Z (uB false))::(10,.Z (uB false))::(11,.Z (uI (k:Int)))::(12,.Z (uB false))::(13,.Z (uB false))::(14,.Z (uB false))::(15,.Z (uI (k:Int)))::(16,.Z (wB l))::(17,.Z (uI ((pvs m ps).length:Int)))::(18,.Z (uB false))::(19,.u (uB false)):: []) hmix s kJ
  (oc zE<|oc (yV (z:=6) (Cs:=pvs m ps) kJ (fun v W hb h=>(yU hl h (s.up hb))) (fun _=>rfl))<|oc (zS .i64 ((pvs m ps).length:Int) 2 false iiz iiz (by first|(simp;omega)|simp) rfl)<|oc zE<|oc (zG 10 false kJ iiz (fun _=>zE) arf)<|oc (zG 10 false kJ iiz (fun _=>zS .i64 (k:Int) 0 false iiz iiz (by first|(simp;omega)|simp) rfl) arf)<|oc (yO false iiz (fun e=>by cases e) fR)<|oc zE<|oc (zG 14 false kJ iiz (fun _=>zE) arf)<|oc (zG 14 false kJ iiz (fun _=>zE) arf)<|oc (zG 14 false kJ iiz (fun _=>yV (z:=6) (Cs:=pvs m ps) kJ (fun v W hb h=>(yU hl h (s.up hb))) (fun _=>rfl)) arf)<|oc (zG 14 false kJ iiz (fun _=>zS .i64 (k:Int) ((pvs m ps).length:Int) false iiz iiz (by first|(simp;omega)|simp) rfl) arf)<|oc (yO false iiz (fun e=>by cases e) fR)<|zC) fun a w2 s=> ?_
 refine zA rfl ?_
 refine StS.cond s false iiz (fun e=>by cases e) (fun e=> ?_)
 refine zZp ?_
 refine zZo ?_
 have hwb:=s.below
 replace s:=s.drop [6]
 refine zLU (GW W) hmix s fun w3 _ s=> ?_
 have hwb:=s.below
 refine zGo [4,5,6,7,8,9,10,11] [0,1,2,3,4,5,6,7,8,9,10,11] ((22,.u (wB l))::(23,.u (uI (k:Int)))::(24,.u (fOp W (wC (fPV m (at_ ps k)))))::(25,.u (fPV m (at_ ps k)))::(26,.u (wB l))::(27,.u (uI (k:Int)))::(28,.u (uI ((k+1:Nat):Int)))::(29,.u (wB l))::(30,.u (uI ((pvs m ps).length:Int)))::(31,.u (uI (((k+1) % ps.length:Nat):Int)))::(32,.u (fOp W (wC (fPV m (tn ps k)))))::(33,.u (fPV m (tn ps k))):: []) (zNc hwb) s kJ
  (oc zE<|oc zE<|oc (zHK (z:=6) (Cs:=pvs m ps) (i:=k) (C:=wC (fPV m (at_ ps k))) kJ (q6 hk) hl iiz iiz)<|oc (zJG hwb (fPV m (at_ ps k)) 6 kJ iiz zEE)<|oc zE<|oc zE<|oc (yN .i64 (k:Int) 1 ((k+1:Nat):Int) iiz iiz (wrap64 _ _ oQ oQ))<|oc zE<|oc (yV (z:=6) (Cs:=pvs m ps) kJ (fun v W hb h=>by rw [show _=l from h];exact (wD 6 (pvs m ps)).st _ _ _ hl (s.up hb)) (fun _=>rfl))<|oc (zFi .i64 ((k+1:Nat):Int) ((pvs m ps).length:Int) (((k+1) % ps.length:Nat):Int) iiz iiz (by simp only [zZC];omega) (by simp only [zZC];rw [Int.tmod_eq_emod_of_nonneg oQ];rfl))<|oc (zHK (z:=6) (Cs:=pvs m ps) (i:=((k+1) % ps.length)) (C:=wC (fPV m (tn ps k))) kJ (q6 hk1) hl iiz iiz)<|oc (zJG hwb (fPV m (tn ps k)) 6 kJ iiz zEE)<|zC)
  (zA9 rfl (zFD.c zFs hwb) (zA9 rfl (zFD.c zFs hwb) (zA9 rfl (zFD.c (zSL (x:= .tmp 27) (y:= .const (.int .i64 1)) .i64 (k:Int) 1 iiz iiz) hwb) (zA9 rfl (zFD.c zFs hwb) (zA9 rfl (zFD.c (zUj (x:= .tmp 29) (z:=6) (Cs:=pvs m ps) kJ (fun v W hb h=>by rw [show _=l from h];exact (wD 6 (pvs m ps)).st _ _ _ hl hb)) hwb) (zA9 rfl (zFD.c (zSK (x:= .tmp 28) (y:= .tmp 30) .i64 ((k+1:Nat):Int) ((pvs m ps).length:Int) iiz iiz (by simp only [zZC];omega)) hwb) (zA9 rfl (zFD.c (zNj (x:= .tmp 26) (y:= .tmp 31) (z:=6) (Cs:=pvs m ps) (i:=((k+1) % ps.length)) (C:=wC (fPV m (tn ps k))) kJ (q6 hk1) hl iiz iiz) hwb) (zA9 rfl (zFD.c (zPF (x:= .tmp 32) (fPV m (tn ps k)) 6 kJ iiz zEE) hwb) zGT)))))))) fun a w4 hbw s hr=> ?_
 replace hwb:=hwb.trans (hbw.mono hwb.size)
 refine zFQ (i:=12) (c:=4) (wC (fPV m (at_ ps k))) ((fPV m (at_ ps k)).tS) s rfl kJ kJ rfl rfl rfl (zP _ _) iiz yT (fun vs _=>zQL hwb (s.own (c:=4) rfl rfl) _) fun w5 hg _ s=> ?_
 replace hwb:=hg _ (Below.refl _ _)
 refine zFQ (i:=13) (c:=5) (wC (fPV m (tn ps k))) ((fPV m (tn ps k)).tS) s rfl kJ kJ rfl rfl rfl (zP _ _) iiz yT (fun vs _=>zQL hwb (s.own (c:=5) rfl rfl) _) fun w6 hg _ s=> ?_
 replace hwb:=hg _ (Below.refl _ _)
 refine zGo [] [14] ((6,.u (uB true)):: []) (zNc hwb) s kJ (zJJ zF<|zC) zGT fun a w7 hbw s hr=> ?_
 refine zJs kJ ?_
 refine zZq ?_
 exact vQ s (wC (fPV m (at_ ps k))) (wC (fPV m (tn ps k))) rfl kJ kJ rfl rfl (zP _ _) rfl rfl (zP _ _) (fun cs cs' v W h1 h2 h3=>⟨_,_,_,rfl,h1,h2,h3⟩)
theorem zKK {l:Wu} (hl:(wD 6 (pvs 80 ps)).p l W) (hu:u= .int .i64 (k:Int)) (hv:v= .int .i64 (i:Int)) (hki:k<i) (hi:i<ps.length) (hn:ps.length<=1000000) (h3:3<=ps.length) (hpair: ∀i j,i<ps.length->j<ps.length->i≠j->zEt (at_ ps i) (at_ ps j)):Calls prog 55 #[l,u,v] W (Ret W (fB (zAJ ps k i)).tS):=by
 have hk:k<ps.length:=by omega
 have nx: ∀j,j<ps.length->(j+1) % ps.length<ps.length/\j≠(j+1) % ps.length:=fun j hj=>by
  rcases zZH (Nat.succ_le_of_lt hj) with h|h
  ·rw [zZz h];omega
  ·rw [show j+1=ps.length from h,zZR];omega
 have pkk:zEt (at_ ps k) (tn ps k):=hpair _ _ hk (nx k hk).1 (nx k hk).2
 have pii:zEt (at_ ps i) (tn ps i):=hpair _ _ hi (nx i hi).1 (nx i hi).2
 have pki:zEt (at_ ps k) (at_ ps i):=hpair _ _ hk hi oQ
 refine z9 [(wB l).tS,(uI (k:Int)).tS,(uI (i:Int)).tS] func55 rfl kJ ⟨rfl,hu,hv,trivial⟩ fun a s=> ?_
 replace s:=s.renew [(0,.u (wB l)),(1,.u (uI (k:Int))),(2,.u (uI (i:Int)))] (fmz ⟨.inr ⟨_,rfl,.head _⟩,fmz ⟨.inr ⟨_,rfl,mz1⟩,fmz ⟨.inr ⟨_,rfl,mz2⟩,fnz⟩⟩⟩)
 refine zZo ?_
 refine zB 1 ((6,.u (uB false)):: []) hmix s kJ
  (oc zF<|zC) fun a w1 s=> ?_
 refine zA rfl ?_
 refine zZo ?_
 refine zB 7 ((15,.Z (wB l))::(16,.Z (uI (k:Int)))::(17,.Z (zFI (fPV 80 (at_ ps k)) (fPV 80 (tn ps k)) (uB true)))::(14,.Z (zFI (fPV 80 (at_ ps k)) (fPV 80 (tn ps k)) (uB true)))::(18,.u (fPV 80 (at_ ps k)))::(19,.u (fPV 80 (tn ps k)))::(20,.u (uB true)):: []) hmix s kJ
  (oc zE<|oc zE<|oc (zI zD zUp (fun u0 u1 W hb (h0:u0=l) (h1:u1= .int .i64 (k:Int))=>zHA (m:=80) (ps:=ps) (k:=k) (yU hl h0 (s.up hb)) h1 hk hn oQ))<|oc zE<|oc (zEL (A:=(fPV 80 (at_ ps k)).tS) (B:=(fPV 80 (tn ps k)).tS) (C:=(uB true).tS) iiz)<|oc (zEK (A:=(fPV 80 (at_ ps k)).tS) (B:=(fPV 80 (tn ps k)).tS) (C:=(uB true).tS) iiz)<|oc (zEJ (A:=(fPV 80 (at_ ps k)).tS) (B:=(fPV 80 (tn ps k)).tS) (C:=(uB true).tS) iiz)<|zC) fun a w2 s=> ?_
 refine zZ (CU.len 6) (cs:=zP6) kJ rfl s kJ (fun W=>rfl) rfl fun b7 a w s=> ?_
 refine zZ (CU.len 6) (cs:=zP6) kJ rfl s kJ (fun W=>rfl) rfl fun b8 a w s=> ?_
 refine zQ (wC (fPV 80 (at_ ps k))) ((fPV 80 (at_ ps k)).tS) rfl s kJ rfl rfl rfl iiz iiz yT fun a w s=> ?_
 refine zQ (wC (fPV 80 (tn ps k))) ((fPV 80 (tn ps k)).tS) rfl s kJ rfl rfl rfl iiz iiz yT fun a w s=> ?_
 refine yR (uB true) rfl s kJ iiz fun a w s=> ?_
 refine zA rfl ?_
 refine zZo ?_
 refine zB 7 ((22,.Z (wB l))::(23,.Z (uI (i:Int)))::(24,.Z (zFI (fPV 80 (at_ ps i)) (fPV 80 (tn ps i)) (uB true)))::(21,.Z (zFI (fPV 80 (at_ ps i)) (fPV 80 (tn ps i)) (uB true)))::(25,.u (fPV 80 (at_ ps i)))::(26,.u (fPV 80 (tn ps i)))::(27,.u (uB true)):: []) hmix s kJ
  (oc zE<|oc zE<|oc (zI zD zUp (fun u0 u1 W hb (h0:u0=l) (h1:u1= .int .i64 (i:Int))=>zHA (m:=80) (ps:=ps) (k:=i) (yU hl h0 (s.up hb)) h1 hi hn oQ))<|oc zE<|oc (zEL (A:=(fPV 80 (at_ ps i)).tS) (B:=(fPV 80 (tn ps i)).tS) (C:=(uB true).tS) iiz)<|oc (zEK (A:=(fPV 80 (at_ ps i)).tS) (B:=(fPV 80 (tn ps i)).tS) (C:=(uB true).tS) iiz)<|oc (zEJ (A:=(fPV 80 (at_ ps i)).tS) (B:=(fPV 80 (tn ps i)).tS) (C:=(uB true).tS) iiz)<|zC) fun a w3 s=> ?_
 refine zZ (CU.len 6) (cs:=zP6) kJ rfl s kJ (fun W=>rfl) rfl fun b10 a w s=> ?_
 refine zZ (CU.len 6) (cs:=zP6) kJ rfl s kJ (fun W=>rfl) rfl fun b11 a w s=> ?_
 refine zQ (wC (fPV 80 (at_ ps i))) ((fPV 80 (at_ ps i)).tS) rfl s kJ rfl rfl rfl iiz iiz yT fun a w s=> ?_
 refine zQ (wC (fPV 80 (tn ps i))) ((fPV 80 (tn ps i)).tS) rfl s kJ rfl rfl rfl iiz iiz yT fun a w s=> ?_
 refine yR (uB true) rfl s kJ iiz fun a w s=> ?_
 refine zA rfl ?_
 refine zZo ?_
 refine zB 5 ((28,.Z (fPV 80 (at_ ps k)))::(29,.Z (fPV 80 (tn ps k)))::(30,.Z (fPV 80 (at_ ps i)))::(31,.Z (fPV 80 (tn ps i)))::(32,.u (fMT (zBK (at_ ps k) (tn ps k) (at_ ps i) (tn ps i)))):: []) hmix s kJ
  (oc (zK (f:=fPV 80 (at_ ps k)) 6 kJ (hz:=zP _ _))<|oc (zK (f:=fPV 80 (tn ps k)) 6 kJ (hz:=zP _ _))<|oc (zK (f:=fPV 80 (at_ ps i)) 6 kJ (hz:=zP _ _))<|oc (zK (f:=fPV 80 (tn ps i)) 6 kJ (hz:=zP _ _))<|oc (zGB zD zVX (fun u0 u1 u2 u3 W hb (h0:(fPV 80 (at_ ps k)).p u0 W) (h1:(fPV 80 (tn ps k)).p u1 W) (h2:(fPV 80 (at_ ps i)).p u2 W) (h3:(fPV 80 (tn ps i)).p u3 W)=>zMd h0 h1 h2 h3 pkk pii pki))<|zC) fun a w4 s=> ?_
 refine zZ (CU.len 13) (cs:= [.int .i8 0,.bool false, sN, sN,.bool false, sN, sN,.bool false, sN, sN,.bool false, sN, sN]) kJ rfl s kJ (fun W=>rfl) rfl fun b13 a w s=> ?_
 refine zQ (wC (fMT (zBK (at_ ps k) (tn ps k) (at_ ps i) (tn ps i)))) ((fMT (zBK (at_ ps k) (tn ps k) (at_ ps i) (tn ps i))).tS) rfl s kJ rfl rfl rfl iiz iiz (zDG _) fun a w s=> ?_
 refine zA rfl ?_
 refine zZo ?_
 refine zZo ?_
 rcases (show i=k+1∨(i≠k+1/\k=0/\i=ps.length - 1)∨(i≠k+1/\k=0/\i≠ps.length - 1)∨(i≠k+1/\k≠0) by omega) with c1|⟨c1,c2,c3⟩|⟨c1,c2,c3⟩|⟨c1,c2⟩
 ·refine zB 0 [] hmix s kJ
   zC fun a w5 s=> ?_
  refine zAN (uI (i:Int)) rfl s kJ zE kJ fun a w s=> ?_
  refine zAN (uI (k:Int)) rfl s kJ zE kJ fun a w s=> ?_
  refine zAN (uI ((k+1:Nat):Int)) rfl s kJ (yN .i64 (k:Int) 1 ((k+1:Nat):Int) iiz iiz (wrap64 _ _ oQ oQ)) kJ fun a w s=> ?_
  refine zAN (uB true) rfl s kJ (zS .i64 (i:Int) ((k+1:Nat):Int) true iiz iiz (zZB.2 oQ) rfl) kJ fun a w s=> ?_
  refine zAN (uB true) rfl s kJ zE kJ fun a w s=> ?_
  refine jY (.bool true) rfl rfl s iiz kJ kJ (fun a w s=> ?_)
  refine jY (.bool true) rfl rfl s iiz kJ kJ (fun a w s=> ?_)
  refine jY (.bool true) rfl rfl s iiz kJ kJ (fun a w s=> ?_)
  refine jY undef rfl rfl s iiz kJ kJ (fun a w s=> ?_)
  refine jY undef rfl rfl s iiz kJ kJ (fun a w s=> ?_)
  refine jY undef rfl rfl s iiz kJ kJ (fun a w s=> ?_)
  refine jY undef rfl rfl s iiz kJ kJ (fun a w s=> ?_)
  refine jY undef rfl rfl s iiz kJ kJ (fun a w s=> ?_)
  refine jY (.bool true) rfl rfl s iiz kJ kJ (fun a w s=> ?_)
  refine zAN (uB true) rfl s kJ (yO true iiz fR (fun e=>by cases e)) kJ fun a w s=> ?_
  refine zA rfl ?_
  refine StS.cond s true iiz (fun e=> ?_) (fun e=>by cases e)
  refine zZo ?_
  replace s:=s.drop [6]
  refine zB 4 ((48,.X (fMT (zBK (at_ ps k) (tn ps k) (at_ ps i) (tn ps i))) 0)::(49,.Z (wB (.int .i8 (zBK (at_ ps k) (tn ps k) (at_ ps i) (tn ps i)))))::(50,.Z (uB ((zBK (at_ ps k) (tn ps k) (at_ ps i) (tn ps i))==1)))::(6,.u (uB ((zBK (at_ ps k) (tn ps k) (at_ ps i) (tn ps i))==1))):: []) hmix s kJ
   (oc (zL (C:=cg (fMT (zBK (at_ ps k) (tn ps k) (at_ ps i) (tn ps i)))) 0 kJ)<|oc (jJ (C:=cg (fMT (zBK (at_ ps k) (tn ps k) (at_ ps i) (tn ps i)))) (k:=0) kJ (h:=zGG _))<|oc (zS .i8 (zBK (at_ ps k) (tn ps k) (at_ ps i) (tn ps i)) 1 ((zBK (at_ ps k) (tn ps k) (at_ ps i) (tn ps i))==1) iiz iiz rfl rfl)<|oc zF<|zC) fun a w6 s=> ?_
  refine zA rfl ?_
  refine zZq ?_
  exact wG s (t:=6) rfl (fun v W h=>by rw [show zAJ ps k i=_ from if_pos (.inl c1)];exact h)
 ·refine zB 0 [] hmix s kJ
   zC fun a w7 s=> ?_
  refine zAN (uI (i:Int)) rfl s kJ zE kJ fun a w s=> ?_
  refine zAN (uI (k:Int)) rfl s kJ zE kJ fun a w s=> ?_
  refine zAN (uI ((k+1:Nat):Int)) rfl s kJ (yN .i64 (k:Int) 1 ((k+1:Nat):Int) iiz iiz (wrap64 _ _ oQ oQ)) kJ fun a w s=> ?_
  refine zAN (uB false) rfl s kJ (zS .i64 (i:Int) ((k+1:Nat):Int) false iiz iiz (zZV.2 oQ) rfl) kJ fun a w s=> ?_
  refine zAN (uB false) rfl s kJ zE kJ fun a w s=> ?_
  refine zAu (uI (k:Int)) rfl rfl s iiz kJ zE kJ fun a w s=> ?_
  refine zAu (uB true) rfl rfl s iiz kJ (zS .i64 (k:Int) 0 true iiz iiz (zZB.2 oQ) rfl) kJ fun a w s=> ?_
  refine zAu (uB true) rfl rfl s iiz kJ zE kJ fun a w s=> ?_
  refine zAu (uI (i:Int)) rfl rfl s iiz kJ zE kJ fun a w s=> ?_
  refine zAu (wB l) rfl rfl s iiz kJ zE kJ fun a w s=> ?_
  refine zAu (uI ((pvs 80 ps).length:Int)) rfl rfl s iiz kJ (yV (z:=6) (Cs:=pvs 80 ps) kJ (fun v W hb h=>(yU hl h (s.up hb))) (fun _=>rfl)) kJ fun a w s=> ?_
  refine zAu (uI ((ps.length - 1:Nat):Int)) rfl rfl s iiz kJ (zEb .i64 ((pvs 80 ps).length:Int) 1 ((ps.length - 1:Nat):Int) iiz iiz (by simp only [zZC];rw [zZP];omega)) kJ fun a w s=> ?_
  refine zAu (uB true) rfl rfl s iiz kJ (zS .i64 (i:Int) ((ps.length - 1:Nat):Int) true iiz iiz (zZB.2 oQ) rfl) kJ fun a w s=> ?_
  refine zAu (uB true) rfl rfl s iiz kJ (yO true iiz fR (fun e=>by cases e)) kJ fun a w s=> ?_
  refine zAN (uB true) rfl s kJ (yO false iiz (fun e=>by cases e) fR) kJ fun a w s=> ?_
  refine zA rfl ?_
  refine StS.cond s true iiz (fun e=> ?_) (fun e=>by cases e)
  refine zZo ?_
  replace s:=s.drop [6]
  refine zB 4 ((48,.X (fMT (zBK (at_ ps k) (tn ps k) (at_ ps i) (tn ps i))) 0)::(49,.Z (wB (.int .i8 (zBK (at_ ps k) (tn ps k) (at_ ps i) (tn ps i)))))::(50,.Z (uB ((zBK (at_ ps k) (tn ps k) (at_ ps i) (tn ps i))==1)))::(6,.u (uB ((zBK (at_ ps k) (tn ps k) (at_ ps i) (tn ps i))==1))):: []) hmix s kJ
   (oc (zL (C:=cg (fMT (zBK (at_ ps k) (tn ps k) (at_ ps i) (tn ps i)))) 0 kJ)<|oc (jJ (C:=cg (fMT (zBK (at_ ps k) (tn ps k) (at_ ps i) (tn ps i)))) (k:=0) kJ (h:=zGG _))<|oc (zS .i8 (zBK (at_ ps k) (tn ps k) (at_ ps i) (tn ps i)) 1 ((zBK (at_ ps k) (tn ps k) (at_ ps i) (tn ps i))==1) iiz iiz rfl rfl)<|oc zF<|zC) fun a w8 s=> ?_
  refine zA rfl ?_
  refine zZq ?_
  exact wG s (t:=6) rfl (fun v W h=>by rw [show zAJ ps k i=_ from if_pos (.inr ⟨c2,c3⟩)];exact h)
 ·refine zB 0 [] hmix s kJ
   zC fun a w9 s=> ?_
  refine zAN (uI (i:Int)) rfl s kJ zE kJ fun a w s=> ?_
  refine zAN (uI (k:Int)) rfl s kJ zE kJ fun a w s=> ?_
  refine zAN (uI ((k+1:Nat):Int)) rfl s kJ (yN .i64 (k:Int) 1 ((k+1:Nat):Int) iiz iiz (wrap64 _ _ oQ oQ)) kJ fun a w s=> ?_
  refine zAN (uB false) rfl s kJ (zS .i64 (i:Int) ((k+1:Nat):Int) false iiz iiz (zZV.2 oQ) rfl) kJ fun a w s=> ?_
  refine zAN (uB false) rfl s kJ zE kJ fun a w s=> ?_
  refine zAu (uI (k:Int)) rfl rfl s iiz kJ zE kJ fun a w s=> ?_
  refine zAu (uB true) rfl rfl s iiz kJ (zS .i64 (k:Int) 0 true iiz iiz (zZB.2 oQ) rfl) kJ fun a w s=> ?_
  refine zAu (uB true) rfl rfl s iiz kJ zE kJ fun a w s=> ?_
  refine zAu (uI (i:Int)) rfl rfl s iiz kJ zE kJ fun a w s=> ?_
  refine zAu (wB l) rfl rfl s iiz kJ zE kJ fun a w s=> ?_
  refine zAu (uI ((pvs 80 ps).length:Int)) rfl rfl s iiz kJ (yV (z:=6) (Cs:=pvs 80 ps) kJ (fun v W hb h=>(yU hl h (s.up hb))) (fun _=>rfl)) kJ fun a w s=> ?_
  refine zAu (uI ((ps.length - 1:Nat):Int)) rfl rfl s iiz kJ (zEb .i64 ((pvs 80 ps).length:Int) 1 ((ps.length - 1:Nat):Int) iiz iiz (by simp only [zZC];rw [zZP];omega)) kJ fun a w s=> ?_
  refine zAu (uB false) rfl rfl s iiz kJ (zS .i64 (i:Int) ((ps.length - 1:Nat):Int) false iiz iiz (zZV.2 oQ) rfl) kJ fun a w s=> ?_
  refine zAu (uB false) rfl rfl s iiz kJ (yO true iiz fR (fun e=>by cases e)) kJ fun a w s=> ?_
  refine zAN (uB false) rfl s kJ (yO false iiz (fun e=>by cases e) fR) kJ fun a w s=> ?_
  refine zA rfl ?_
  refine StS.cond s false iiz (fun e=>by cases e) (fun e=> ?_)
  refine zZp ?_
  refine zZo ?_
  replace s:=s.drop [6]
  refine zB 4 ((51,.X (fMT (zBK (at_ ps k) (tn ps k) (at_ ps i) (tn ps i))) 0)::(52,.Z (wB (.int .i8 (zBK (at_ ps k) (tn ps k) (at_ ps i) (tn ps i)))))::(53,.Z (uB ((zBK (at_ ps k) (tn ps k) (at_ ps i) (tn ps i))==0)))::(6,.u (uB ((zBK (at_ ps k) (tn ps k) (at_ ps i) (tn ps i))==0))):: []) hmix s kJ
   (oc (zL (C:=cg (fMT (zBK (at_ ps k) (tn ps k) (at_ ps i) (tn ps i)))) 0 kJ)<|oc (jJ (C:=cg (fMT (zBK (at_ ps k) (tn ps k) (at_ ps i) (tn ps i)))) (k:=0) kJ (h:=zGG _))<|oc (zS .i8 (zBK (at_ ps k) (tn ps k) (at_ ps i) (tn ps i)) 0 ((zBK (at_ ps k) (tn ps k) (at_ ps i) (tn ps i))==0) iiz iiz rfl rfl)<|oc zF<|zC) fun a w10 s=> ?_
  refine zA rfl ?_
  refine zZq ?_
  exact wG s (t:=6) rfl (fun v W h=>by rw [show zAJ ps k i=_ from if_neg oQ];exact h)
 ·refine zB 0 [] hmix s kJ
   zC fun a w11 s=> ?_
  refine zAN (uI (i:Int)) rfl s kJ zE kJ fun a w s=> ?_
  refine zAN (uI (k:Int)) rfl s kJ zE kJ fun a w s=> ?_
  refine zAN (uI ((k+1:Nat):Int)) rfl s kJ (yN .i64 (k:Int) 1 ((k+1:Nat):Int) iiz iiz (wrap64 _ _ oQ oQ)) kJ fun a w s=> ?_
  refine zAN (uB false) rfl s kJ (zS .i64 (i:Int) ((k+1:Nat):Int) false iiz iiz (zZV.2 oQ) rfl) kJ fun a w s=> ?_
  refine zAN (uB false) rfl s kJ zE kJ fun a w s=> ?_
  refine zAu (uI (k:Int)) rfl rfl s iiz kJ zE kJ fun a w s=> ?_
  refine zAu (uB false) rfl rfl s iiz kJ (zS .i64 (k:Int) 0 false iiz iiz (zZV.2 oQ) rfl) kJ fun a w s=> ?_
  refine zAu (uB false) rfl rfl s iiz kJ zE kJ fun a w s=> ?_
  refine jY (.bool false) rfl rfl s iiz kJ kJ (fun a w s=> ?_)
  refine jY (.bool false) rfl rfl s iiz kJ kJ (fun a w s=> ?_)
  refine jY (.bool false) rfl rfl s iiz kJ kJ (fun a w s=> ?_)
  refine jY (.bool false) rfl rfl s iiz kJ kJ (fun a w s=> ?_)
  refine jY (.bool false) rfl rfl s iiz kJ kJ (fun a w s=> ?_)
  refine zAu (uB false) rfl rfl s iiz kJ (yO false iiz (fun e=>by cases e) fR) kJ fun a w s=> ?_
  refine zAN (uB false) rfl s kJ (yO false iiz (fun e=>by cases e) fR) kJ fun a w s=> ?_
  refine zA rfl ?_
  refine StS.cond s false iiz (fun e=>by cases e) (fun e=> ?_)
  refine zZp ?_
  refine zZo ?_
  replace s:=s.drop [6]
  refine zB 4 ((51,.X (fMT (zBK (at_ ps k) (tn ps k) (at_ ps i) (tn ps i))) 0)::(52,.Z (wB (.int .i8 (zBK (at_ ps k) (tn ps k) (at_ ps i) (tn ps i)))))::(53,.Z (uB ((zBK (at_ ps k) (tn ps k) (at_ ps i) (tn ps i))==0)))::(6,.u (uB ((zBK (at_ ps k) (tn ps k) (at_ ps i) (tn ps i))==0))):: []) hmix s kJ
   (oc (zL (C:=cg (fMT (zBK (at_ ps k) (tn ps k) (at_ ps i) (tn ps i)))) 0 kJ)<|oc (jJ (C:=cg (fMT (zBK (at_ ps k) (tn ps k) (at_ ps i) (tn ps i)))) (k:=0) kJ (h:=zGG _))<|oc (zS .i8 (zBK (at_ ps k) (tn ps k) (at_ ps i) (tn ps i)) 0 ((zBK (at_ ps k) (tn ps k) (at_ ps i) (tn ps i))==0) iiz iiz rfl rfl)<|oc zF<|zC) fun a w12 s=> ?_
  refine zA rfl ?_
  refine zZq ?_
  exact wG s (t:=6) rfl (fun v W h=>by rw [show zAJ ps k i=_ from if_neg oQ];exact h)
theorem zIA {l:Wu} (hl:(wD 6 (pvs 80 ps)).p l W) (hn:ps.length<=1000000) (hpair: ∀i j,i<ps.length->j<ps.length->i≠j->zEt (at_ ps i) (at_ ps j)):Calls prog 26 #[l] W (Ret W (fB (zD1 ps)).tS):=by
 refine z9 [(wB l).tS] func26 rfl kJ ⟨rfl,trivial⟩ fun a s=> ?_
 replace s:=s.renew [(0,.u (wB l))] (fmz ⟨.inr ⟨_,rfl,.head _⟩,fnz⟩)
 refine zZo ?_
 refine zB 1 ((2,.u (uB false)):: []) hmix s kJ
  (oc zF<|zC) fun a w1 s=> ?_
 refine zA rfl ?_
 refine zZo ?_
 refine zZo ?_
 refine zB 3 ((5,.Z (wB l))::(6,.Z (uI ((pvs 80 ps).length:Int)))::(7,.u (uB (decide (ps.length<3)))):: []) hmix s kJ
  (oc zE<|oc (yV (z:=6) (Cs:=pvs 80 ps) kJ (fun v W hb h=>(yU hl h (s.up hb))) (fun _=>rfl))<|oc (zS .i64 ((pvs 80 ps).length:Int) 3 (decide (ps.length<3)) iiz iiz (by simp only [zZC];rw [decide_eq_decide];omega) rfl)<|zC) fun a w2 s=> ?_
 refine zA rfl ?_
 refine StS.cond s (decide (ps.length<3)) iiz (fun e=> ?_) (fun e=> ?_)
 ·refine zZo ?_
  replace s:=s.drop [2]
  refine zB 1 ((2,.u (uB false)):: []) hmix s kJ
   (oc zF<|zC) fun a w3 s=> ?_
  refine zA rfl ?_
  refine zZq ?_
  exact wG s (t:=2) rfl (fun v W h=>by rw [zJi (zZx e)];exact h)
 ·have h3:3<=ps.length:=by have:=zZu e;omega
  refine zZp ?_
  refine zZo ?_
  refine zZo ?_
  refine zB 1 ((3,.u (uI 0)):: []) hmix s kJ
   (oc zF<|zC) fun a w4 s=> ?_
  refine zA rfl ?_
  refine zZy ?_
  refine zAF (fun i=>i<=ps.length/\ ∀i' k,i'<i->k<i'->((q8 (at_ ps i') (at_ ps k)==0)|| !(zAJ ps k i'))=false) (fun i=> [(0,.u (wB l)),(3,.u (uI ((i:Nat):Int)))]) (fun i=>ps.length - i) (0:Nat) (⟨zZI _,fun j k hj=>absurd hj (zZW _)⟩) (s.keepK _ (fmz ⟨mz3,fmz ⟨.head _,fnz⟩⟩)) fun i a w hx s=> ?_
  have hxi:=hx
  refine zZo ?_
  refine zZo ?_
  refine zB 4 ((8,.Z (uI (i:Int)))::(9,.Z (wB l))::(10,.Z (uI ((pvs 80 ps).length:Int)))::(11,.u (uB (ltz i ((pvs 80 ps).length)))):: []) hmix s kJ
   (oc zE<|oc zE<|oc (yV (z:=6) (Cs:=pvs 80 ps) kJ (fun v W hb h=>(yU hl h (s.up hb))) (fun _=>rfl))<|oc (zS .i64 (i:Int) ((pvs 80 ps).length:Int) (ltz i ((pvs 80 ps).length)) iiz iiz rfl rfl)<|zC) fun a w5 s=> ?_
  refine zA rfl ?_
  refine StS.cond s (ltz i ((pvs 80 ps).length)) iiz (fun e=> ?_) (fun e=> ?_)
  ·have hi:i<ps.length:=by have:=zZx e;simp at this;omega
   refine zZp ?_
   refine zZo ?_
   refine zZy ?_
   refine zZo ?_
   refine zB 1 ((4,.u (uI 0)):: []) hmix s kJ
    (oc zF<|zC) fun a w6 s=> ?_
   refine zA rfl ?_
   refine zZy ?_
   refine zAF (fun k=>k<=i/\ ∀k',k'<k->((q8 (at_ ps i) (at_ ps k')==0)|| !(zAJ ps k' i))=false) (fun k=> [(0,.u (wB l)),(3,.u (uI (i:Int))),(4,.u (uI ((k:Nat):Int)))]) (fun k=>i - k) (0:Nat) (⟨zZI _,fun j hj=>absurd hj (zZW _)⟩) (s.keepK _ (fmz ⟨mz2,fmz ⟨mz3,fmz ⟨.head _,fnz⟩⟩⟩)) fun k a w hx s=> ?_
   refine zZo ?_
   refine zZo ?_
   refine zB 3 ((14,.Z (uI (k:Int)))::(15,.Z (uI (i:Int)))::(16,.u (uB (ltz k i))):: []) hmix s kJ
    (oc zE<|oc zE<|oc (zS .i64 (k:Int) (i:Int) (ltz k i) iiz iiz rfl rfl)<|zC) fun a w7 s=> ?_
   refine zA rfl ?_
   refine StS.cond s (ltz k i) iiz (fun e=> ?_) (fun e=> ?_)
   ·have hk:k<i:=by have:=zZx e;omega
    have hkl:k<ps.length:=by omega
    refine zZp ?_
    refine zZo ?_
    refine zZy ?_
    refine zZo ?_
    refine zB 16 ((19,.Z (wB l))::(20,.Z (uI (i:Int)))::(21,.Y (fPV 80 (at_ ps i)))::(22,.Z (fPV 80 (at_ ps i)))::(23,.Z (wB l))::(24,.Z (uI (k:Int)))::(25,.Y (fPV 80 (at_ ps k)))::(26,.Z (fPV 80 (at_ ps k)))::(27,.Z (uB (q8 (at_ ps i) (at_ ps k)==0)))::(28,.Z (uB (q8 (at_ ps i) (at_ ps k)==0)))::(29,.s (SF.imp ((q8 (at_ ps i) (at_ ps k)==0)=false) ((wB l).tS)))::(30,.s (SF.imp ((q8 (at_ ps i) (at_ ps k)==0)=false) ((uI (k:Int)).tS)))::(31,.s (SF.imp ((q8 (at_ ps i) (at_ ps k)==0)=false) ((uI (i:Int)).tS)))::(32,.s (SF.imp ((q8 (at_ ps i) (at_ ps k)==0)=false) ((uB (zAJ ps k i)).tS)))::(33,.s (SF.imp ((q8 (at_ ps i) (at_ ps k)==0)=false) ((uB (!(zAJ ps k i))).tS)))::(34,.u (uB ((q8 (at_ ps i) (at_ ps k)==0)||(!(zAJ ps k i))))):: []) hmix s kJ
     (oc zE<|oc zE<|oc (yH (z:=6) (Cs:=pvs 80 ps) (i:=i) (C:=wC (fPV 80 (at_ ps i))) kJ (q6 hi) (fun v W hb h=>(yU hl h (s.up hb))) iiz)<|oc (zK (f:=fPV 80 (at_ ps i)) 6 kJ (hz:=zP _ _))<|oc zE<|oc zE<|oc (yH (z:=6) (Cs:=pvs 80 ps) (i:=k) (C:=wC (fPV 80 (at_ ps k))) kJ (q6 hkl) (fun v W hb h=>(yU hl h (s.up hb))) iiz)<|oc (zK (f:=fPV 80 (at_ ps k)) 6 kJ (hz:=zP _ _))<|oc (zI zD zH3 (fun u0 u1 W hb (h0:(fPV 80 (at_ ps i)).p u0 W) (h1:(fPV 80 (at_ ps k)).p u1 W)=>zBU (m:=80) h0 h1 dC dC))<|oc zE<|oc (zG 28 (q8 (at_ ps i) (at_ ps k)==0) kJ iiz (fun e=>z5 [] ((wB l).tS) fnz fS kJ zE) fQ)<|oc (zG 28 (q8 (at_ ps i) (at_ ps k)==0) kJ iiz (fun e=>z5 [] ((uI (k:Int)).tS) fnz fS kJ zE) fQ)<|oc (zG 28 (q8 (at_ ps i) (at_ ps k)==0) kJ iiz (fun e=>z5 [] ((uI (i:Int)).tS) fnz fS kJ zE) fQ)<|oc (zG 28 (q8 (at_ ps i) (at_ ps k)==0) kJ iiz (fun e=>z5 [(29,(wB l).tS),(30,(uI (k:Int)).tS),(31,(uI (i:Int)).tS)] ((uB (zAJ ps k i)).tS) (fmz ⟨fun v W h=>zT (c:=(q8 (at_ ps i) (at_ ps k)==0)=false) (f:=(wB l).tS) e h,fmz ⟨fun v W h=>zT (c:=(q8 (at_ ps i) (at_ ps k)==0)=false) (f:=(uI (k:Int)).tS) e h,fmz ⟨fun v W h=>zT (c:=(q8 (at_ ps i) (at_ ps k)==0)=false) (f:=(uI (i:Int)).tS) e h,fnz⟩⟩⟩) fS kJ (zAS zD zWb (fun u0 u1 u2 W hb (h0:u0=l) (h1:u1= .int .i64 (k:Int)) (h2:u2= .int .i64 (i:Int))=>zKK (ps:=ps) (k:=k) (i:=i) (yU hl h0 (s.up hb)) h1 h2 hk hi hn h3 hpair))) fQ)<|oc (zG 28 (q8 (at_ ps i) (at_ ps k)==0) kJ iiz (fun e=>z5 [(32,(uB (zAJ ps k i)).tS)] ((uB (!(zAJ ps k i))).tS) (fmz ⟨fun v W h=>zT (c:=(q8 (at_ ps i) (at_ ps k)==0)=false) (f:=(uB (zAJ ps k i)).tS) e h,fnz⟩) fS kJ (zBz (zAJ ps k i) iiz (fun _=>rfl))) fQ)<|oc (yO (q8 (at_ ps i) (at_ ps k)==0) iiz (fun e v W h=>zFf h e) (fun e v W h=>zDB (zT e h) e))<|zC) fun a w8 s=> ?_
    refine zA rfl ?_
    refine StS.cond s ((q8 (at_ ps i) (at_ ps k)==0)||(!(zAJ ps k i))) iiz (fun e=> ?_) (fun e=> ?_)
    ·refine zZo ?_
     refine zB 1 ((2,.u (uB false)):: []) hmix s kJ
      (oc zF<|zC) fun a w9 s=> ?_
     refine zA rfl ?_
     refine zZq ?_
     exact wG s (t:=2) rfl (fun v W h=>by rw [zRG hi hk e];exact h)
    ·refine zZp ?_
     refine zX 2 ((17,.Z (uI (k:Int)))::(18,.u (uI ((k+1:Nat):Int))):: []) s kJ
      (oc zE<|oc (yN .i64 (k:Int) 1 ((k+1:Nat):Int) iiz iiz (wrap64 _ _ oQ oQ))<|zC) fun a w10 s=> ?_
     replace s:=s.drop [4]
     refine yR (uI ((k+1:Nat):Int)) rfl s kJ iiz fun a w s=> ?_
     refine zA rfl ?_
     exact ⟨k+1,⟨hk,fun j hj=>by rcases zZH (zZJ hj) with h|h;exact hx.2 j h;rw [h];exact e⟩,(by show i - (k+1)<i - k;omega),s.keepK _ (fmz ⟨mz4,fmz ⟨mz5,fmz ⟨.head _,fnz⟩⟩⟩)⟩
   ·have hk:k=i:=by have h7:=zZu e;have h8:=hx.1;omega
    refine zZO ?_
    refine zX 2 ((12,.Z (uI (i:Int)))::(13,.u (uI ((i+1:Nat):Int))):: []) s kJ
     (oc zE<|oc (yN .i64 (i:Int) 1 ((i+1:Nat):Int) iiz iiz (wrap64 _ _ oQ oQ))<|zC) fun a w11 s=> ?_
    replace s:=s.drop [3]
    refine yR (uI ((i+1:Nat):Int)) rfl s kJ iiz fun a w s=> ?_
    refine zA rfl ?_
    exact ⟨i+1,⟨hi,fun j k hj hk=>by rcases zZH (zZJ hj) with h|h;exact hxi.2 j k h hk;rw [h];exact hx.2 k oQ⟩,(by show ps.length - (i+1)<ps.length - i;omega),s.keepK _ (fmz ⟨mz3,fmz ⟨.head _,fnz⟩⟩)⟩
  ·have hi:i=ps.length:=by have h7:=zZu e;have h8:=hx.1;simp at h7;omega
   refine zZO ?_
   refine zZo ?_
   refine zB 1 ((2,.u (uB true)):: []) hmix s kJ
    (oc zF<|zC) fun a w12 s=> ?_
   refine zA rfl ?_
   refine zZq ?_
   exact wG s (t:=2) rfl (fun v W h=>by rw [zOs h3 (fun j k hj hk'=>hx.2 j k oQ hk')];exact h)
theorem cyc {n:Nat} {P:Nat->Prop} (hi:i<n) (hj:j<n) (h1:P i) (h2: ¬P j): ∃k,k<n/\P k/\ ¬P ((k+1) % n):=by
 have hne:i≠j:=fun e=>h2 (e▸h1)
 have hjm:(i+(j+n - i)) % n=j:=by rw [show i+(j+n - i)=j+n by omega,Nat.add_mod_right,zZz hj]
 obtain ⟨m,m1,m2,m3,m4⟩:=zHo (fun m=>P ((i+m) % n)) (s:=0) (e:=j+n - i) oQ (by show P ((i+0) % n);rw [Nat.add_zero,zZz hi];exact h1)
 refine ⟨(i+(m - 1)) % n,zZQ _ oQ,m3 (m - 1) (zZI _) oQ, ?_⟩
 rw [Nat.mod_add_mod,show i+(m - 1)+1=i+m by omega]
 rcases m4 with e|e
 ·rw [e,hjm];exact h2
 ·exact e
theorem zIa {f:Nat->Bool}: ∀{n:Nat},(∀k,k<n->f k=false)->zIZ f n=0
 |0,_=>rfl
 |n+1,h=>by rw [zKg (h n oQ),zIa fun k hk=>h k oQ]
theorem zKf {f:Nat->Bool} {r s:Nat} (hrs:r≠s): ∀{n:Nat},(∀k,k<n->k≠r->k≠s->f k=false)->zIZ f n=(if r<n/\f r=true then 1 else 0)+(if s<n/\f s=true then 1 else 0)
 |0,_=>by rw [if_neg oQ,if_neg oQ];rfl
 | n+1,h=>by
  have ih:=zKf hrs (n:=n) fun k hk=>h k oQ
  by_cases e:f n=true
  ·rw [zQ6 e,ih]
   by_cases hr:n=r
   ·subst hr
    rw [if_neg (show ¬(n<n/\f n=true) by omega),if_pos (show n<n+1/\f n=true from ⟨by omega,e⟩)]
    by_cases c:s<n/\f s=true
    ·rw [if_pos c,if_pos ⟨by omega,c.2⟩]
    ·rw [if_neg c,if_neg (fun c'=>c ⟨by omega,c'.2⟩)]
   ·by_cases hs:n=s
    ·subst hs
     rw [if_neg (show ¬(n<n/\f n=true) by omega),if_pos (show n<n+1/\f n=true from ⟨by omega,e⟩)]
     by_cases c:r<n/\f r=true
     ·rw [if_pos c,if_pos ⟨by omega,c.2⟩]
     ·rw [if_neg c,if_neg (fun c'=>c ⟨by omega,c'.2⟩)]
    ·rw [h n oQ hr hs] at e;exact absurd e dC
  ·have e':f n=false:=by simpa using e
   rw [zKg e',ih]
   have k: ∀x,(x<n+1/\f x=true)↔(x<n/\f x=true):=fun x=>⟨fun ⟨a,b⟩=>⟨by
    rcases zZH (zZJ a) with q|q
    ·exact q
    ·rw [q] at b;exact absurd b e,b⟩,fun ⟨a,b⟩=>⟨by omega,b⟩⟩
   simp only [k]
theorem zCU {y:Rat} (h1:a.2<=y) (h2:y<b.2): ∃X t:Rat,0<=t/\t<1/\(∀f:Aff,f.v (X,y)=f.v a*(1 - t)+f.v b*t)/\ ∀x,crs a b (x,y)=(b.2 - a.2)*(X - x):=by
 have hd:0<b.2 - a.2:=by grind
 have e:(y - a.2) / (b.2 - a.2)*(b.2 - a.2)=y - a.2:=zZN (by grind)
 generalize (y - a.2) / (b.2 - a.2)=t at e
 have t0:0<=t:=by
  apply zZs
  intro hx
  have:=zZt (show 0< -t by grind) hd
  grind
 have t1:t<1:=by
  apply zZs
  intro hx
  have:=zZv (show 0<=t - 1 by grind) (zZr hd)
  grind
 refine ⟨a.1+(b.1 - a.1)*t,t,t0,t1,fun f=> ?_,fun x=> ?_⟩
 ·have hy:y=a.2+(b.2 - a.2)*t:=by grind
  unfold Aff.v
  simp only
  rw [hy]
  grind
 ·unfold crs
  simp only
  have:(b.1 - a.1)*(y - a.2)=(b.1 - a.1)*t*(b.2 - a.2):=by rw [<-e];grind
  rw [this]
  grind
theorem zFl {u v:Rat} (hu:0<=u) (hv:0<=v) (h0:0<=t) (h1:t<=1):0<=u*(1 - t)+v*t:=by
 have k1:=zZv hu (show 0<=1 - t by grind)
 have k2:=zZv hv h0
 grind
theorem zEx {u v:Rat} (hu:0<=u) (hv:0<=v) (h0:0<=t) (h1:t<1) (h:u*(1 - t)+v*t=0):u=0:=by
 have k2:=zZv hv h0
 apply zZs
 intro hx
 have k1:=zZt (show 0<u by grind) (show 0<1 - t by grind)
 grind
def nx (l:List V2) (k:Nat):Nat:=(k+1) % l.length
theorem zFF (h:0<l.length) (k:Nat):nx l k<l.length:=zZQ _ h
theorem zMD (h3:3<=l.length) {i:Nat} (hi:i<l.length):nx l i≠i/\nx l (nx l i)≠i/\nx l (nx l i)≠nx l i:=by
 unfold nx
 rcases zZX (i+1) l.length with q|q
 ·rw [zZz q]
  rcases zZX (i+1+1) l.length with q'|q'
  ·rw [zZz q'];omega
  ·rw [show i+1+1=l.length by omega,zZR];omega
 ·rw [show i+1=l.length by omega,zZR,zZz (show 0+1<l.length by omega)];omega
theorem zQz (hi:i<l.length) (hj:j<l.length) (h:nx l i=nx l j):i=j:=by
 unfold nx at h
 rcases zZX (i+1) l.length with q|q<;>rcases zZX (j+1) l.length with q'|q'
 ·rw [zZz q,zZz q'] at h;omega
 ·rw [zZz q,show j+1=l.length by omega,zZR] at h;omega
 ·rw [show i+1=l.length by omega,zZR,zZz q'] at h;omega
 ·omega
def zU4 (l:List V2) (y:Rat) (k:Nat):Prop:=(at_ l k).2<=y/\y<(at_ l (nx l k)).2
def zU8 (l:List V2) (y:Rat) (k:Nat):Prop:=(at_ l (nx l k)).2<=y/\y<(at_ l k).2
theorem Conv.zero (h:Conv l) {i k:Nat} (hi:i<l.length) (hk:k<l.length) (e:edg l i (at_ l k)=0):k=i∨k=nx l i:=by
 apply zZs
 intro hn
 have:=h.strict i k hi hk (fun q=>hn (.inl q)) (fun q=>hn (.inr q))
 grind
theorem Conv.up_one (h:Conv l) {y:Rat} {i j:Nat} (hi:i<l.length) (hj:j<l.length) (ui:zU4 l y i) (uj:zU4 l y j):i=j:=by
 have h3:=h.three
 obtain ⟨X,t,t0,t1,f1,c1⟩:=zCU ui.1 ui.2
 obtain ⟨Z,s,s0,s1,f2,c2⟩:=zCU uj.1 uj.2
 have hpi:=zFF (l:=l) oQ i
 have hpj:=zFF (l:=l) oQ j
 have a1:0<=edg l j (X,y):=by rw [<-zA2,f1,zA2,zA2];exact zFl (h.left j i hj hi) (h.left j _ hj hpi) t0 (zZr t1)
 have a2:0<=edg l i (Z,y):=by rw [<-zA2,f2,zA2,zA2];exact zFl (h.left i j hi hj) (h.left i _ hi hpj) s0 (zZr s1)
 have b1:edg l j (X,y)=((at_ l (nx l j)).2 - (at_ l j).2)*(Z - X):=c2 X
 have b2:edg l i (Z,y)=((at_ l (nx l i)).2 - (at_ l i).2)*(X - Z):=c1 Z
 have le: ∀{d u:Rat},0<d->0<=d*u->0<=u:=fun {d u} hd hu=>by
  apply zZs
  intro hx
  have:=zZt hd (show 0< -u by grind)
  grind
 have d1:0<=Z - X:=le (d:=(at_ l (nx l j)).2 - (at_ l j).2) (by have:=uj.1;have:=uj.2;grind) (by rw [<-b1];exact a1)
 have d2:0<=X - Z:=le (d:=(at_ l (nx l i)).2 - (at_ l i).2) (by have:=ui.1;have:=ui.2;grind) (by rw [<-b2];exact a2)
 have e:Z - X=0:=by grind
 have e':X - Z=0:=by grind
 rw [e] at b1
 rw [e'] at b2
 have z1:edg l j (at_ l i)=0:=by
  refine zEx (h.left j i hj hi) (h.left j _ hj hpi) t0 t1 ?_
  rw [<-zA2, <-zA2, <-f1,zA2,b1];grind
 have z2:edg l i (at_ l j)=0:=by
  refine zEx (h.left i j hi hj) (h.left i _ hi hpj) s0 s1 ?_
  rw [<-zA2, <-zA2, <-f2,zA2,b2];grind
 rcases h.zero hj hi z1 with q|q
 ·exact q
 ·rcases h.zero hi hj z2 with q'|q'
  ·exact q'.symm
  ·have:=zMD h3 hi
   rw [<-q', <-q] at this
   exact absurd rfl this.2.1
theorem Conv.dn_one (h:Conv l) {y:Rat} {i j:Nat} (hi:i<l.length) (hj:j<l.length) (ui:zU8 l y i) (uj:zU8 l y j):i=j:=by
 have h3:=h.three
 obtain ⟨X,t,t0,t1,f1,c1⟩:=zCU ui.1 ui.2
 obtain ⟨Z,s,s0,s1,f2,c2⟩:=zCU uj.1 uj.2
 have hpi:=zFF (l:=l) oQ i
 have hpj:=zFF (l:=l) oQ j
 have sw: ∀a b p:V2,crs a b p= - crs b a p:=fun a b p=>by unfold crs;grind
 have a1:0<=edg l j (X,y):=by rw [<-zA2,f1,zA2,zA2];exact zFl (h.left j _ hj hpi) (h.left j i hj hi) t0 (zZr t1)
 have a2:0<=edg l i (Z,y):=by rw [<-zA2,f2,zA2,zA2];exact zFl (h.left i _ hi hpj) (h.left i j hi hj) s0 (zZr s1)
 have b1:edg l j (X,y)=((at_ l j).2 - (at_ l (nx l j)).2)*(X - Z):=by
  have:=c2 X
  show crs (at_ l j) (at_ l (nx l j)) (X,y)=_
  rw [sw,this];grind
 have b2:edg l i (Z,y)=((at_ l i).2 - (at_ l (nx l i)).2)*(Z - X):=by
  have:=c1 Z
  show crs (at_ l i) (at_ l (nx l i)) (Z,y)=_
  rw [sw,this];grind
 have le: ∀{d u:Rat},0<d->0<=d*u->0<=u:=fun {d u} hd hu=>by
  apply zZs
  intro hx
  have:=zZt hd (show 0< -u by grind)
  grind
 have d1:0<=X - Z:=le (d:=(at_ l j).2 - (at_ l (nx l j)).2) (by have:=uj.1;have:=uj.2;grind) (by rw [<-b1];exact a1)
 have d2:0<=Z - X:=le (d:=(at_ l i).2 - (at_ l (nx l i)).2) (by have:=ui.1;have:=ui.2;grind) (by rw [<-b2];exact a2)
 have e:X - Z=0:=by grind
 have e':Z - X=0:=by grind
 rw [e] at b1
 rw [e'] at b2
 have z1:edg l j (at_ l (nx l i))=0:=by
  refine zEx (h.left j _ hj hpi) (h.left j i hj hi) t0 t1 ?_
  rw [<-zA2, <-zA2, <-f1,zA2,b1];grind
 have z2:edg l i (at_ l (nx l j))=0:=by
  refine zEx (h.left i _ hi hpj) (h.left i j hi hj) s0 s1 ?_
  rw [<-zA2, <-zA2, <-f2,zA2,b2];grind
 rcases h.zero hj hpi z1 with q|q
 ·rcases h.zero hi hpj z2 with q'|q'
  ·have:=zMD h3 hi
   rw [q,q'] at this
   exact absurd rfl this.2.1
  ·exact (zQz hj hi q').symm
 ·exact zQz hi hj q
theorem zE5:(zAG a b p=1)↔0<crs a b p:=by
 unfold zAG
 have h:=@Rat.num_nonneg (crs a b p)
 have h0:=@zZ5 (crs a b p)
 rw [Int.sign_eq_one_iff_pos]
 constructor
 ·intro k
  have k1:=h.1 oQ
  have k2:crs a b p≠0:=fun e=>by have:=h0.2 e;omega
  grind
 ·intro k
  have k1:=h.2 (zZr k)
  have k2:(crs a b p).num≠0:=fun e=>by have:=h0.1 e;grind
  omega
theorem zKy:(zAG a b p=0)↔crs a b p=0:=by
 unfold zAG
 rw [Int.sign_eq_zero_iff_zero,zZ5]
theorem qle {p q:Rat}:qsg p q<=0↔p<=q:=by
 rcases zD7 p q with e|e|e
 ·rw [e];exact ⟨fun _=>zZr (zC7.1 e),fun _=>by decide⟩
 ·rw [e];exact ⟨fun _=>by rw [zBx.1 e];exact zZA,fun _=>by decide⟩
 ·rw [e];exact ⟨fun h=>absurd h dC,fun h=>absurd (zCB.1 e) (zZ0.2 h)⟩
theorem qlt {p q:Rat}:qsg p q<0↔p<q:=by
 rcases zD7 p q with e|e|e
 ·rw [e];exact ⟨fun _=>zC7.1 e,fun _=>by decide⟩
 ·rw [e];exact ⟨fun h=>absurd h dC,fun h=>by rw [zBx.1 e] at h;exact absurd h (Rat.lt_irrefl)⟩
 ·rw [e];exact ⟨fun h=>absurd h dC,fun h=>absurd (zCB.1 e) (zZ0.2 (zZr h))⟩
theorem qgt {p q:Rat}:qsg p q>0↔q<p:=by
 have:=qlt (p:=q) (q:=p)
 rw [zIC p q] at this
 exact ⟨fun h=>this.1 oQ,fun h=>by have:=this.2 h;omega⟩
theorem zKa:zN1 a b p=true↔a.2<=p.2/\p.2<b.2/\0<crs a b p:=by
 unfold zN1
 rw [zZD,zZD,zZY,zZY,qle,qlt,zZB,zE5]
 exact ⟨fun ⟨⟨a,b⟩,c⟩=>⟨a,b,c⟩,fun ⟨a,b,c⟩=>⟨⟨a,b⟩,c⟩⟩
theorem zDQ:zCp a b p=true↔(a.2<=p.2/\p.2<b.2/\0<crs a b p)∨(b.2<=p.2/\p.2<a.2/\crs a b p<0):=by
 have sw:crs b a p= - crs a b p:=by unfold crs;grind
 unfold zCp
 split
 ·rename_i h
  have:=qgt.1 h
  rw [zKa,sw]
  exact ⟨fun ⟨h1,h2,h3⟩=> .inr ⟨h1,h2,by grind⟩,fun h=>by
   rcases h with ⟨h1,h2,h3⟩|⟨h1,h2,h3⟩
   ·exfalso;grind
   ·exact ⟨h1,h2,by grind⟩⟩
 ·rename_i h
  have: ¬b.2<a.2:=fun k=>h (qgt.2 k)
  rw [zKa]
  exact ⟨fun h=> .inl h,fun h=>by
   rcases h with h|⟨h1,h2,h3⟩
   ·exact h
   ·exfalso;grind⟩
theorem zQ3 {a b:Rat} (h:zN2 a b r=true):(a<=r/\r<=b)∨(b<=r/\r<=a):=by
 unfold zN2 zVA at h
 rw [zZD,zZY] at h
 obtain ⟨h1,h2⟩:=h
 rcases zD7 a r with e|e|e
 ·have k:=zC7.1 e
  rw [e] at h1
  have:qsg r b<=0:=by omega
  exact .inl ⟨zZr k,qle.1 this⟩
 ·have k:=zBx.1 e
  rw [k]
  rcases (zZK:r<=b∨b<=r) with q|q
  ·exact .inl ⟨zZA,q⟩
  ·exact .inr ⟨q,zZA⟩
 ·have k:=zCB.1 e
  rw [e] at h1
  have h1':0<=qsg r b:=by omega
  have:b<=r:=by
   rcases zD7 r b with q|q|q
   ·omega
   ·rw [zBx.1 q];exact zZA
   ·exact zZr (zCB.1 q)
  exact .inr ⟨this,zZr k⟩
theorem zVC (hab:a≠b) (h:onB a b p=true):OnE a b p:=by
 unfold onB at h
 rw [zZD,zZD,zZB,zKy] at h
 obtain ⟨⟨h0,h1⟩,h2⟩:=h
 have c1:=zQ3 h1
 have c2:=zQ3 h2
 have key: ∀{d e n:Rat},d≠0->((0<=e/\e<=d)∨(d<=e/\e<=0))-> ∃t:Rat,0<=t/\t<=1/\d*t=e:=fun {d e n} hd hb=>by
  have q:e / d*d=e:=zZN hd
  generalize e / d=t at q
  refine ⟨t, ?_, ?_,by grind⟩
  ·apply zZs
   intro hx
   rcases (zZK:0<=d∨d<=0) with k|k
   ·have:=zZt (show 0< -t by grind) (show 0<d by grind);grind
   ·have:=zZt (show 0< -t by grind) (show 0< -d by grind);grind
  ·apply zZs
   intro hx
   rcases (zZK:0<=d∨d<=0) with k|k
   ·have:=zZt (show 0<t - 1 by grind) (show 0<d by grind);grind
   ·have:=zZt (show 0<t - 1 by grind) (show 0< -d by grind);grind
 unfold crs at h0
 by_cases e:b.1 - a.1=0
 ·have e2:b.2 - a.2≠0:=fun e2=>hab (zZw (by grind) (by grind))
  obtain ⟨t,t0,t1,t2⟩:=key (d:=b.2 - a.2) (e:=p.2 - a.2) (n:=0) e2 (by grind)
  exact ⟨t,t0,t1,zZw (by show p.1=_;grind) (by show p.2=_;grind)⟩
 ·obtain ⟨t,t0,t1,t2⟩:=key (d:=b.1 - a.1) (e:=p.1 - a.1) (n:=0) e (by grind)
  refine ⟨t,t0,t1,zZw (by show p.1=_;grind) ?_⟩
  show p.2=a.2+(b.2 - a.2)*t
  rw [<-t2] at h0
  have:(b.1 - a.1)*((p.2 - a.2) - (b.2 - a.2)*t)=0:=by grind
  rcases zZM.1 this with k|k
  ·exact absurd k e
  ·grind
theorem zVB (h:OnE a b p):onB a b p=true:=by
 obtain ⟨t,h0,h1,rfl⟩:=h
 exact zTQ h0 h1
theorem Conv.ne' (h:Conv l) {i:Nat} (hi:i<l.length):at_ l i≠at_ l (nx l i):=fun e=>by
 have h3:=h.three
 have n:=zMD h3 hi
 have k:=h.strict i (nx l (nx l i)) hi (zFF oQ _) n.2.1 n.2.2
 unfold edg at k
 rw [show (i+1) % l.length=nx l i from rfl, <-e] at k
 unfold crs at k
 grind
theorem Conv.on_edge (h:Conv l) {p:V2} (hp: ∀i,i<l.length->0<=edg l i p) {i:Nat} (hi:i<l.length) (hz:edg l i p=0):OnE (at_ l i) (at_ l (nx l i)) p:=by
 have h3:=h.three
 have hn:=zMD h3 hi
 have hni:=zFF (l:=l) oQ i
 have hne:=h.ne' hi
 obtain ⟨j,hj,hj1,_⟩:=zIF h3 hi
 generalize ha:at_ l i=a at*
 generalize hb:at_ l (nx l i)=b at*
 have hz':crs a b p=0:=by rw [<-ha, <-hb];exact hz
 -- a place on the line
 obtain ⟨t,ht⟩: ∃t:Rat,p=(a.1+(b.1 - a.1)*t,a.2+(b.2 - a.2)*t):=by
  unfold crs at hz'
  by_cases e:b.1 - a.1=0
  ·have e2:b.2 - a.2≠0:=fun e2=>hne (zZw (by grind) (by grind))
   have q:(p.2 - a.2) / (b.2 - a.2)*(b.2 - a.2)=p.2 - a.2:=zZN e2
   generalize (p.2 - a.2) / (b.2 - a.2)=t at q
   refine ⟨t,zZw ?_ (by show p.2=_;grind)⟩
   show p.1=a.1+(b.1 - a.1)*t
   rw [e] at hz'
   have:(b.2 - a.2)*(p.1 - a.1)=0:=by grind
   rcases zZM.1 this with k|k
   ·exact absurd k e2
   ·grind
  ·have q:(p.1 - a.1) / (b.1 - a.1)*(b.1 - a.1)=p.1 - a.1:=zZN e
   generalize (p.1 - a.1) / (b.1 - a.1)=t at q
   refine ⟨t,zZw (by show p.1=_;grind) ?_⟩
   show p.2=a.2+(b.2 - a.2)*t
   rw [<-q] at hz'
   have:(b.1 - a.1)*((p.2 - a.2) - (b.2 - a.2)*t)=0:=by grind
   rcases zZM.1 this with k|k
   ·exact absurd k e
   ·grind
 have mix: ∀c d:V2,crs c d p=crs c d a*(1 - t)+crs c d b*t:=fun c d=>by rw [ht];unfold crs;grind
 refine ⟨t, ?_, ?_,ht⟩
 ·-- the edge before
  apply zZs
  intro hx
  have k1:=hp j hj
  have k0:edg l j a=0:=by rw [<-ha];unfold edg;rw [hj1];unfold crs;grind
  have k2:0<edg l j b:=by
   rw [<-hb]
   refine h.strict j (nx l i) hj hni ?_ ?_
   ·intro e
    have:=zMD h3 hj
    rw [show nx l j=i from hj1,e] at this
    exact absurd rfl this.2.1
   ·rw [hj1];exact hn.1
  unfold edg at k0 k1 k2
  rw [mix,k0] at k1
  have:=zZt k2 (show 0< -t by grind)
  grind
 ·apply zZs
  intro hx
  have k1:=hp (nx l i) hni
  have k0:edg l (nx l i) b=0:=by rw [<-hb];unfold edg crs;grind
  have k2:0<edg l (nx l i) a:=by
   rw [<-ha]
   exact h.strict (nx l i) i hni hi hn.1.symm hn.2.1.symm
  unfold edg at k0 k1 k2
  rw [mix,k0] at k1
  have:=zZt k2 (show 0<t - 1 by grind)
  grind
theorem Conv.on_in (h:Conv l) {p:V2} {k:Nat} (hk:k<l.length) (ho:OnE (at_ l k) (at_ l (nx l k)) p) {i:Nat} (hi:i<l.length):0<=edg l i p:=by
 obtain ⟨t,t0,t1,rfl⟩:=ho
 have k1:=h.left i k hi hk
 have k2:=h.left i (nx l k) hi (zFF oQ k)
 have:=zFl k1 k2 t0 t1
 have e:edg l i ((at_ l k).1+((at_ l (nx l k)).1 - (at_ l k).1)*t,(at_ l k).2+((at_ l (nx l k)).2 - (at_ l k).2)*t)=edg l i (at_ l k)*(1 - t)+edg l i (at_ l (nx l k))*t:=by unfold edg crs;grind
 rw [e];exact this
theorem zUP:edg l i p=crs (at_ l i) (at_ l (nx l i)) p:=rfl
theorem zNH {y:Rat} (hi:i<l.length) (hj:j<l.length) (h1:(at_ l i).2<=y) (h2:y<(at_ l j).2):(∃r,r<l.length/\zU4 l y r)/\ ∃s,s<l.length/\zU8 l y s:=by
 constructor
 ·obtain ⟨k,hk,k1,k2⟩:=cyc (P:=fun k=>(at_ l k).2<=y) hi hj h1 (by grind)
  exact ⟨k,hk,k1,by show y<(at_ l ((k+1) % l.length)).2;grind⟩
 ·obtain ⟨k,hk,k1,k2⟩:=cyc (P:=fun k=>y<(at_ l k).2) hj hi h2 (by grind)
  exact ⟨k,hk,by show (at_ l ((k+1) % l.length)).2<=y;grind,k1⟩
theorem zM2 {P Q:Prop} [Decidable P] [Decidable Q] (h:P↔Q):(if P then 1 else 0:Nat)=if Q then 1 else 0:=by
 by_cases c:P
 ·rw [if_pos c,if_pos (h.1 c)]
 ·rw [if_neg c,if_neg (fun q=>c (h.2 q))]
theorem Conv.count (h:Conv l) {p:V2} {r s:Nat} (hr:r<l.length) (hs:s<l.length) (ur:zU4 l p.2 r) (ds:zU8 l p.2 s):zIZ (crK l p) l.length=(if 0<edg l r p then 1 else 0)+(if edg l s p<0 then 1 else 0):=by
 have hrs:r≠s:=fun e=>by
  subst e
  have a:=ur.1
  have b:=ur.2
  have c:=ds.1
  have d:=ds.2
  grind
 rw [zKf hrs fun k hk h1 h2=> ?_]
 ·congr 1
  ·refine zM2 ?_
   show (_/\zCp (at_ l r) (at_ l (nx l r)) p=true)↔0<crs (at_ l r) (at_ l (nx l r)) p
   rw [zDQ]
   constructor
   ·rintro ⟨_,⟨_,_,k⟩|⟨a,b,_⟩⟩
    ·exact k
    ·have:=ur.1;have:=ur.2;exfalso;grind
   ·exact fun k=>⟨hr,.inl ⟨ur.1,ur.2,k⟩⟩
  ·refine zM2 ?_
   show (_/\zCp (at_ l s) (at_ l (nx l s)) p=true)↔crs (at_ l s) (at_ l (nx l s)) p<0
   rw [zDQ]
   constructor
   ·rintro ⟨_,⟨a,b,_⟩|⟨_,_,k⟩⟩
    ·have:=ds.1;have:=ds.2;exfalso;grind
    ·exact k
   ·exact fun k=>⟨hs,.inr ⟨ds.1,ds.2,k⟩⟩
 ·cases hc:crK l p k with
  |false=>rfl
  |true=>
   have:zCp (at_ l k) (at_ l (nx l k)) p=true:=hc
   rw [zDQ] at this
   rcases this with ⟨a,b,_⟩|⟨a,b,_⟩
   ·exact absurd (h.up_one hk hr ⟨a,b⟩ ur) h1
   ·exact absurd (h.dn_one hk hs ⟨a,b⟩ ds) h2
theorem zKb (h:(∀k,k<l.length->(at_ l k).2<=p.2)∨ ∀k,k<l.length->p.2<(at_ l k).2):zIZ (crK l p) l.length=0:=zIa fun k hk=>by
 cases hc:crK l p k with
 |false=>rfl
 | true=>
  have:zCp (at_ l k) (at_ l (nx l k)) p=true:=hc
  rw [zDQ] at this
  have hn:=zFF (l:=l) oQ k
  rcases h with h|h
  ·have a:=h k hk
   have b:=h _ hn
   exfalso
   grind
  ·have a:=h k hk
   have b:=h _ hn
   exfalso
   grind
theorem Conv.where_off (h:Conv l) {p:V2} (hno: ∀k,k<l.length-> ¬OnE (at_ l k) (at_ l (nx l k)) p):zCn l p=2*((zIZ (crK l p) l.length % 2:Nat):Int) - 1:=by
 have h3:=h.three
 rw [zHa,show nE l=l.length from if_pos oQ]
 refine if_neg fun k=> ?_
 obtain ⟨i,hi,e⟩:=List.any_eq_true.1 k
 have hi:=zZF.1 hi
 exact hno i hi (zVC (h.ne' hi) e)
theorem Conv.where_in (h:Conv l) {p:V2} (hp:zRn l p):zCn l p=1:=by
 have h3:=h.three
 rw [h.where_off fun k hk ho=>by
  have:=(ho.crs)
  have:=hp k hk
  rw [zUP] at this
  grind]
 obtain ⟨i,hi,him⟩:=zQF (fun k=>(at_ l k).2) l.length oQ
 obtain ⟨j,hj,hjm⟩:=zJS (fun k=>(at_ l k).2) l.length oQ
 have v1: ∀q:V2,Aff.v ⟨0,1,0⟩ q=q.2:=fun q=>by unfold Aff.v;grind
 have v2: ∀q:V2,Aff.v ⟨0,-1,0⟩ q= -q.2:=fun q=>by unfold Aff.v;grind
 have m1:=h.cone_lt ⟨0,1,0⟩ (.inr dC) (at_ l j).2 (fun k hk=>by rw [v1];exact hjm k hk) hp
 have m2:=h.cone_lt ⟨0,-1,0⟩ (.inr dC) (-(at_ l i).2) (fun k hk=>by rw [v2];have:=him k hk;grind) hp
 rw [v1] at m1
 rw [v2] at m2
 obtain ⟨⟨r,hr,ur⟩,s,hs,ds⟩:=zNH hi hj (y:=p.2) (by grind) m1
 rw [h.count hr hs ur ds,if_pos (hp r hr),if_neg (by have:=hp s hs;grind)]
 rfl
theorem Conv.where_out (h:Conv l) {p:V2} {i:Nat} (hi:i<l.length) (hp:edg l i p<0):zCn l p= -1:=by
 have h3:=h.three
 rw [h.where_off fun k hk ho=>by
  have:=h.on_in hk ho hi
  grind]
 have key:zIZ (crK l p) l.length % 2=0:=by
  by_cases c1: ∀k,k<l.length->(at_ l k).2<=p.2
  ·rw [zKb (.inl c1)]
  by_cases c2: ∀k,k<l.length->p.2<(at_ l k).2
  ·rw [zKb (.inr c2)]
  simp only [Classical.not_forall] at c1 c2
  obtain ⟨a,ha,ha'⟩:=c1
  obtain ⟨b,hb,hb'⟩:=c2
  obtain ⟨⟨r,hr,ur⟩,s,hs,ds⟩:=zNH hb ha (y:=p.2) (by grind) (by grind)
  rw [h.count hr hs ur ds]
  obtain ⟨X,t,t0,t1,f1,c1⟩:=zCU ur.1 ur.2
  obtain ⟨Z,v,v0,v1,f2,c2⟩:=zCU ds.1 ds.2
  have hnr:=zFF (l:=l) oQ r
  have hns:=zFF (l:=l) oQ s
  have gX: ∀k,k<l.length->0<=edg l k (X,p.2):=fun k hk=>by rw [<-zA2,f1,zA2,zA2];exact zFl (h.left k r hk hr) (h.left k _ hk hnr) t0 (zZr t1)
  have gZ: ∀k,k<l.length->0<=edg l k (Z,p.2):=fun k hk=>by rw [<-zA2,f2,zA2,zA2];exact zFl (h.left k _ hk hns) (h.left k s hk hs) v0 (zZr v1)
  have d1:0<(at_ l (nx l r)).2 - (at_ l r).2:=by have:=ur.1;have:=ur.2;grind
  have d2:0<(at_ l s).2 - (at_ l (nx l s)).2:=by have:=ds.1;have:=ds.2;grind
  have e1: ∀x,edg l r (x,p.2)=((at_ l (nx l r)).2 - (at_ l r).2)*(X - x):=c1
  have e2: ∀x,edg l s (x,p.2)=((at_ l s).2 - (at_ l (nx l s)).2)*(x - Z):=fun x=>by
   have:=c2 x
   have sw:edg l s (x,p.2)= - crs (at_ l (nx l s)) (at_ l s) (x,p.2):=by unfold edg crs;unfold nx;grind
   rw [sw,this];grind
  have mul_le: ∀{d u:Rat},0<d->0<=d*u->0<=u:=fun {d u} hd hu=>by
   apply zZs
   intro hx
   have:=zZt hd (show 0< -u by grind)
   grind
  -- between the two it would be in
  have nb: ¬(Z<=p.1/\p.1<=X):=fun ⟨q1,q2⟩=>by
   have:0<=edg l i p:=by
    have gx:=gX i hi
    have gz:=gZ i hi
    unfold edg crs at gx gz hp ⊢
    simp only at gx gz
    have:=h.left i i hi hi
    rcases (zZK:0<=(at_ l ((i+1) % l.length)).2 - (at_ l i).2∨(at_ l ((i+1) % l.length)).2 - (at_ l i).2<=0) with k|k
    ·have m:=zZv k (show 0<=X - p.1 by grind)
     grind
    ·have m:=zZv (show 0<=-((at_ l ((i+1) % l.length)).2 - (at_ l i).2) by grind) (show 0<=p.1 - Z by grind)
     grind
   grind
  have ZX:Z<=X:=by
   have:=mul_le d1 (by rw [<-e1];exact gZ r hr)
   grind
  have pe:p=(p.1,p.2):=rfl
  have x1:(0<edg l r p)↔p.1<X:=by
   rw [pe,e1]
   constructor
   ·intro k
    apply zZs
    intro hx
    have:=zZv (zZr d1) (show 0<=p.1 - X by grind)
    grind
   ·exact fun k=>zZt d1 (by grind)
  have x2:(edg l s p<0)↔p.1<Z:=by
   rw [pe,e2]
   constructor
   ·intro k
    apply zZs
    intro hx
    have:=zZv (zZr d2) (show 0<=p.1 - Z by grind)
    grind
   ·intro k
    have:=zZt d2 (show 0<Z - p.1 by grind)
    grind
  by_cases q:p.1<Z
  ·rw [if_pos (x1.2 (by grind)),if_pos (x2.2 q)]
  ·rw [if_neg (fun k=>nb ⟨by grind,zZr (x1.1 k)⟩),if_neg (fun k=>q (x2.1 k))]
 rw [key]
 rfl
theorem Conv.where_border (h:Conv l) {p:V2} (hp: ∀i,i<l.length->0<=edg l i p) {i:Nat} (hi:i<l.length) (hz:edg l i p=0):zCn l p=0:=zN6 (by have:=h.three;omega) hi (zVB (h.on_edge hp hi hz))
theorem Conv.where_iff (h:Conv l) (p:V2):(zCn l p=1↔ ∀i,i<l.length->0<edg l i p)/\(zCn l p= -1↔ ∃i,i<l.length/\edg l i p<0):=by
 by_cases c1: ∃i,i<l.length/\edg l i p<0
 ·obtain ⟨i,hi,e⟩:=c1
  rw [h.where_out hi e]
  exact ⟨⟨fun k=>absurd k dC,fun k=>by have:=k i hi;exfalso;grind⟩,fun _=>⟨i,hi,e⟩,fun _=>rfl⟩
 ·have c1': ∀i,i<l.length->0<=edg l i p:=fun i hi=>by
   apply zZs
   intro k
   exact c1 ⟨i,hi,by grind⟩
  by_cases c2: ∃i,i<l.length/\edg l i p=0
  ·obtain ⟨i,hi,e⟩:=c2
   rw [h.where_border c1' hi e]
   exact ⟨⟨fun k=>absurd k dC,fun k=>by have:=k i hi;exfalso;grind⟩,fun k=>absurd k dC,fun k=>absurd k c1⟩
  ·have c2': ∀i,i<l.length->0<edg l i p:=fun i hi=>by
    have:=c1' i hi
    have:edg l i p≠0:=fun e=>c2 ⟨i,hi,e⟩
    grind
   rw [h.where_in c2']
   exact ⟨⟨fun _=>c2',fun _=>rfl⟩,fun k=>absurd k dC,fun k=>absurd k c1⟩
theorem zTS (h0:crs a b p=0) (h1:zIY (p.1 - a.1,p.2 - a.2) (p.1 - b.1,p.2 - b.2)<=0):onS a b p=true:=by
 unfold onS
 rw [if_neg (by rw [h0];decide)]
 refine zZU ?_
 have h:=@Rat.num_nonneg (zIY (p.1 - a.1,p.2 - a.2) (p.1 - b.1,p.2 - b.2))
 have h0:=@zZ5 (zIY (p.1 - a.1,p.2 - a.2) (p.1 - b.1,p.2 - b.2))
 generalize zIY (p.1 - a.1,p.2 - a.2) (p.1 - b.1,p.2 - b.2)=q at*
 rcases Int.lt_trichotomy q.num 0 with k|k|k
 ·rw [Int.sign_eq_neg_one_of_neg k];decide
 ·rw [k];decide
 ·exfalso
  have k1:=h.1 oQ
  have:q=0:=by grind
  have:=h0.2 this
  omega
theorem zO8 (h:OnE a b p):onS a b p=true:=by
 refine zTS h.crs ?_
 obtain ⟨t,t0,t1,rfl⟩:=h
 have k1:=zZv t0 (show 0<=1 - t by grind)
 have sq: ∀x:Rat,0<=x*x:=fun x=>by
  rcases (zZK:0<=x∨x<=0) with k|k
  ·exact zZv k k
  ·have:=zZv (show 0<=-x by grind) (show 0<=-x by grind);grind
 have k2:=zZv k1 (show 0<=(b.1 - a.1)*(b.1 - a.1)+(b.2 - a.2)*(b.2 - a.2) by have:=sq (b.1 - a.1);have:=sq (b.2 - a.2);grind)
 unfold zIY
 simp only
 grind
theorem zSi (a b:V2):OnE a b a:=⟨0,by decide,by decide,zZw (by show a.1=a.1+(b.1 - a.1)*0;grind) (by show a.2=a.2+(b.2 - a.2)*0;grind)⟩
theorem zTT (a b:V2):OnE a b b:=⟨1,by decide,by decide,zZw (by show b.1=a.1+(b.1 - a.1)*1;grind) (by show b.2=a.2+(b.2 - a.2)*1;grind)⟩
theorem zSb {L:List V2}:L≠ []->zGw L p≠ []:=fun h=>by
 unfold zGw
 split
 ·exact h
 ·simp
theorem zOW (L:List V2) (p:V2):zGw L p≠ []:=by
 unfold zGw
 split
 ·rename_i h
  rw [zZD,zZY] at h
  intro e
  rw [e] at h
  exact absurd h.1 (by simp)
 ·simp
theorem zNq {a b c d:V2}: ∀(n i:Nat),i<n->(onS a b (at_ [a,b,c,d] i)&&onS c d (at_ [a,b,c,d] i))=true->yM a b c d n≠ []
 | n+1,i,hi,h=>by
  show (if _ then _ else _)≠ []
  by_cases e:i=n
  ·subst e
   rw [if_pos h]
   exact zOW _ _
  ·have ih:=zNq n i oQ h
   split
   ·exact zSb ih
   ·exact ih
theorem zOw (hab:a≠b) (hk:zBK a b c d=0) {z:V2} (h1:OnE a b z) (h2:OnE c d z):False:=by
 have hpl:(pns (yM a b c d 4)).length=(yM a b c d 4).length:=by simp [pns]
 unfold zBK at hk
 rw [hpl] at hk
 have hl0: ¬(((yM a b c d 4).length:Int)≥2):=fun e=>by rw [if_pos e] at hk;exact absurd hk dC
 rw [if_neg hl0] at hk
 have hl1: ¬(((yM a b c d 4).length:Int)==1)=true:=fun e=>by rw [if_pos e] at hk;exact absurd hk dC
 rw [if_neg hl1] at hk
 have hp: ¬((!(decide (dnm a b c d=0))&&onS a b (y7 a b c d))&&onS c d (y7 a b c d))=true:=fun e=>by rw [if_pos e] at hk;exact absurd hk dC
 have hnil:yM a b c d 4= []:=by
  rw [zZB] at hl1
  exact zZ7 oQ
 have no: ∀i,i<4-> ¬(OnE a b (at_ [a,b,c,d] i)/\OnE c d (at_ [a,b,c,d] i)):=fun i hi ⟨k1,k2⟩=>zNq 4 i hi (by rw [zO8 k1,zO8 k2];rfl) hnil
 have hz:=h2.crs
 by_cases hd:dnm a b c d=0
 ·-- on one line
  have na:=no 0 oQ
  have nb:=no 1 oQ
  have nc:=no 2 oQ
  have ndd:=no 3 oQ
  have na': ¬OnE c d a:=fun k=>na ⟨zSi a b,k⟩
  have nb': ¬OnE c d b:=fun k=>nb ⟨zTT a b,k⟩
  have nc': ¬OnE a b c:=fun k=>nc ⟨k,zSi c d⟩
  have nd': ¬OnE a b d:=fun k=>ndd ⟨k,zTT c d⟩
  obtain ⟨t,t0,t1,e1⟩:=h1
  obtain ⟨s,s0,s1,e2⟩:=h2
  have u0:((b.1 - a.1,b.2 - a.2):V2)≠(0,0):=fun e=>hab (by
   have q1:=congrArg Prod.fst e
   have q2:=congrArg Prod.snd e
   simp only at q1 q2
   exact zZw (by grind) (by grind))
  have hN:=zJe u0
  simp only at hN
  generalize hN':(b.1 - a.1)*(b.1 - a.1)+(b.2 - a.2)*(b.2 - a.2)=N at hN
  -- places on the line, in parts of a - b
  have zx:z.1=a.1+(b.1 - a.1)*t:=by rw [e1]
  have zy:z.2=a.2+(b.2 - a.2)*t:=by rw [e1]
  have zx':z.1=c.1+(d.1 - c.1)*s:=by rw [e2]
  have zy':z.2=c.2+(d.2 - c.2)*s:=by rw [e2]
  unfold dnm at hd
  -- d - c is along b - a
  have par: ∃m:Rat,d.1 - c.1=(b.1 - a.1)*m/\d.2 - c.2=(b.2 - a.2)*m:=by
   have q:((d.1 - c.1)*(b.1 - a.1)+(d.2 - c.2)*(b.2 - a.2)) / N*N=(d.1 - c.1)*(b.1 - a.1)+(d.2 - c.2)*(b.2 - a.2):=zZN (by grind)
   generalize ((d.1 - c.1)*(b.1 - a.1)+(d.2 - c.2)*(b.2 - a.2)) / N=m at q
   have canc: ∀{x:Rat},x*N=0->x=0:=fun {x} hx=>by
    rcases zZM.1 hx with k|k
    ·exact k
    ·grind
   refine ⟨m, ?_, ?_⟩
   ·have:(d.1 - c.1 - (b.1 - a.1)*m)*N=0:=by
     have e:(b.1 - a.1)*m*N=(b.1 - a.1)*((d.1 - c.1)*(b.1 - a.1)+(d.2 - c.2)*(b.2 - a.2)):=by rw [<-q];grind
     have:(d.1 - c.1 - (b.1 - a.1)*m)*N=(d.1 - c.1)*N - (b.1 - a.1)*m*N:=by grind
     rw [this,e, <-hN']
     grind
    have:=canc this
    grind
   ·have:(d.2 - c.2 - (b.2 - a.2)*m)*N=0:=by
     have e:(b.2 - a.2)*m*N=(b.2 - a.2)*((d.1 - c.1)*(b.1 - a.1)+(d.2 - c.2)*(b.2 - a.2)):=by rw [<-q];grind
     have:(d.2 - c.2 - (b.2 - a.2)*m)*N=(d.2 - c.2)*N - (b.2 - a.2)*m*N:=by grind
     rw [this,e, <-hN']
     grind
    have:=canc this
    grind
  obtain ⟨m,m1,m2⟩:=par
  -- c at t - m s, d at t + m (1 - s)
  have cx:c.1=a.1+(b.1 - a.1)*(t - m*s):=by rw [m1] at zx';grind
  have cy:c.2=a.2+(b.2 - a.2)*(t - m*s):=by rw [m2] at zy';grind
  have dx:d.1=a.1+(b.1 - a.1)*(t - m*s+m):=by grind
  have dy:d.2=a.2+(b.2 - a.2)*(t - m*s+m):=by grind
  have kc: ¬(0<=t - m*s/\t - m*s<=1):=fun k=>nc' ⟨_,k.1,k.2,zZw cx cy⟩
  have kd: ¬(0<=t - m*s+m/\t - m*s+m<=1):=fun k=>nd' ⟨_,k.1,k.2,zZw dx dy⟩
  -- a at the part r of c - d
  have onx: ∀x:Rat,((t - m*s<=x/\x<=t - m*s+m)∨(t - m*s+m<=x/\x<=t - m*s))->OnE c d (a.1+(b.1 - a.1)*x,a.2+(b.2 - a.2)*x):=fun x hx=>by
   by_cases hm:m=0
   ·have:x=t - m*s:=by subst hm;grind
    rw [this]
    have:=zSi c d
    rwa [show c=(a.1+(b.1 - a.1)*(t - m*s),a.2+(b.2 - a.2)*(t - m*s)) from zZw cx cy] at this ⊢
   ·have q:(x - (t - m*s)) / m*m=x - (t - m*s):=zZN hm
    generalize (x - (t - m*s)) / m=r at q
    refine ⟨r, ?_, ?_,zZw (by show _=c.1+(d.1 - c.1)*r;rw [m1,cx];grind) (by show _=c.2+(d.2 - c.2)*r;rw [m2,cy];grind)⟩
    ·apply zZs
     intro hr
     rcases (zZK:0<=m∨m<=0) with k|k
     ·have:=zZt (show 0< -r by grind) (show 0<m by grind);grind
     ·have:=zZt (show 0< -r by grind) (show 0< -m by grind);grind
    ·apply zZs
     intro hr
     rcases (zZK:0<=m∨m<=0) with k|k
     ·have:=zZt (show 0<r - 1 by grind) (show 0<m by grind);grind
     ·have:=zZt (show 0<r - 1 by grind) (show 0< -m by grind);grind
  have onxa: ¬((t - m*s<=0/\0<=t - m*s+m)∨(t - m*s+m<=0/\0<=t - m*s)):=fun k=>na' (by
   have:=onx 0 k
   rwa [show ((a.1+(b.1 - a.1)*0,a.2+(b.2 - a.2)*0):V2)=a from zZw (by show a.1+_*0=a.1;grind) (by show a.2+_*0=a.2;grind)] at this)
  -- t lies between the two
  have bt:(t - m*s<=t/\t<=t - m*s+m)∨(t - m*s+m<=t/\t<=t - m*s):=by
   rcases (zZK:0<=m∨m<=0) with k|k
   ·have:=zZv k s0
    have:=zZv k (show 0<=1 - s by grind)
    exact .inl ⟨by grind,by grind⟩
   ·have:=zZv (show 0<=-m by grind) s0
    have:=zZv (show 0<=-m by grind) (show 0<=1 - s by grind)
    exact .inr ⟨by grind,by grind⟩
  generalize t - m*s=x at*
  generalize x+m=y at*
  grind
 ·-- the lines' one point
  obtain ⟨t,t0,t1,e1⟩:=h1
  have e3:crs c d (seg a b t)=tnm a c d - t*dnm a b c d:=by
   unfold crs seg tnm dnm
   grind
  have e4:z=seg a b t:=e1
  rw [e4,e3] at hz
  have et:tnm a c d / dnm a b c d=t:=by
   rw [show tnm a c d=t*dnm a b c d by grind]
   rw [Rat.div_def,Rat.mul_assoc,Rat.mul_inv_cancel _ hd,Rat.mul_one]
  have ez:y7 a b c d=z:=by
   unfold y7
   rw [if_neg hd,et,e4]
  refine hp ?_
  rw [ez,zO8 ⟨t,t0,t1,e1⟩,zO8 h2,zZT hd]
  rfl
theorem zKh (h:p=q):(q8 p q==0)=true:=by
 subst h
 unfold q8
 rw [if_pos (zBx.2 rfl),zBx.2 rfl]
 rfl
theorem zLE (h:zD1 l=true) (hl: ∀i,i<l.length->0<crs (at_ l i) (at_ l ((i+1) % l.length)) (at_ l ((i+2) % l.length))):Conv l:=by
 unfold zD1 at h
 rw [zZD,zZY,zZG] at h
 obtain ⟨h3,h⟩:=h
 have good: ∀i k,k<i->i<l.length->(q8 (at_ l i) (at_ l k)==0)=false/\zAJ l k i=true:=fun i k hk hi=>by
  have:=zZG.1 (h i (zZF.2 hi)) k (zZF.2 hk)
  unfold zPC at this
  rw [Bool.not_eq_true',zZ1,Bool.not_eq_false'] at this
  exact this
 have ne: ∀i k,i<l.length->k<l.length->i≠k->at_ l i≠at_ l k:=fun i k hi hk hik e=>by
  rcases Nat.lt_or_gt_of_ne hik with q|q
  ·have:=(good k i q hk).1
   rw [zKh e.symm] at this
   exact absurd this dC
  ·have:=(good i k q hi).1
   rw [zKh e] at this
   exact absurd this dC
 have nxe: ∀k,k<l.length->(k+1) % l.length=if k+1=l.length then 0 else k+1:=fun k hk=>by
  split
  ·rename_i e;rw [e,zZR]
  ·exact zZz oQ
 have ap: ∀k i,k<i->i<l.length->i≠(k+1) % l.length->k≠(i+1) % l.length-> ∀z,OnE (at_ l k) (at_ l ((k+1) % l.length)) z->OnE (at_ l i) (at_ l ((i+1) % l.length)) z->False:=fun k i hki hi h1 h2 z o1 o2=>by
  have:=(good i k hki hi).2
  unfold zAJ at this
  rw [nxe k oQ] at h1
  rw [nxe i hi] at h2
  rw [if_neg (by
   rintro (e|⟨e,e'⟩)
   ·rw [if_neg oQ] at h1;omega
   ·rw [if_pos oQ] at h2;omega)] at this
  refine zOw (ne k _ oQ (zZQ _ oQ) ?_) (zZB.1 this) o1 o2
  rw [nxe k oQ]
  split<;>omega
 refine vR ⟨h3,hl,fun i j hi hj hij h1 h2 z o1 o2=> ?_,ne⟩
 rcases Nat.lt_or_gt_of_ne hij with q|q
 ·exact ap i j q hj h1 h2 z o1 o2
 ·exact ap j i q hi h2 h1 z o2 o1
theorem zND:q8 p q=0↔p=q:=by
 constructor
 ·intro h
  unfold q8 at h
  by_cases e:qsg p.1 q.1=0
  ·rw [if_pos e] at h
   exact zZw (zBx.1 e) (zBx.1 h)
  ·rw [if_neg e] at h
   exact absurd h e
 ·intro h
  subst h
  unfold q8
  rw [if_pos (zBx.2 rfl),zBx.2 rfl]
theorem zPU:(q8 p q==0)=true↔p=q:=by rw [zZB,zND]
theorem zQE (a b:Rat):mnR a b<=a/\mnR a b<=b:=by
 unfold mnR
 by_cases e:qsg b a<0
 ·rw [if_pos (zZU e)]
  have:=qlt.1 e
  exact ⟨zZr this,zZA⟩
 ·rw [if_neg (by rw [zZT e];decide)]
  exact ⟨zZA,zZ0.1 fun k=>e (qlt.2 k)⟩
theorem zQD (a b:Rat):a<=mxR a b/\b<=mxR a b:=by
 unfold mxR
 by_cases e:qsg b a>0
 ·rw [if_pos (zZU e)]
  have:=qgt.1 e
  exact ⟨zZr this,zZA⟩
 ·rw [if_neg (by rw [zZT e];decide)]
  exact ⟨zZA,zZ0.1 fun k=>e (qgt.2 k)⟩
theorem zRe {ps:List V2}: ∀k j,j<k->(bLo ps k).1<=(at_ ps j).1/\(bLo ps k).2<=(at_ ps j).2
 | k+1,j,hj=>by
  show mnR (bLo ps k).1 (at_ ps k).1<=_/\mnR (bLo ps k).2 (at_ ps k).2<=_
  have m1:=zQE (bLo ps k).1 (at_ ps k).1
  have m2:=zQE (bLo ps k).2 (at_ ps k).2
  rcases zZH (zZJ hj) with q|q
  ·have ih:=zRe (ps:=ps) k j q
   exact ⟨zZ2 m1.1 ih.1,zZ2 m2.1 ih.2⟩
  ·rw [q];exact ⟨m1.2,m2.2⟩
theorem zRg {ps:List V2}: ∀k j,j<k->(at_ ps j).1<=(bHi ps k).1/\(at_ ps j).2<=(bHi ps k).2
 | k+1,j,hj=>by
  show _<=mxR (bHi ps k).1 (at_ ps k).1/\_<=mxR (bHi ps k).2 (at_ ps k).2
  have m1:=zQD (bHi ps k).1 (at_ ps k).1
  have m2:=zQD (bHi ps k).2 (at_ ps k).2
  rcases zZH (zZJ hj) with q|q
  ·have ih:=zRg (ps:=ps) k j q
   exact ⟨zZ2 ih.1 m1.1,zZ2 ih.2 m2.1⟩
  ·rw [q];exact ⟨m1.2,m2.2⟩
theorem zNG (hp:p∈ps):((qP ps).1<=p.1/\p.1<=(qQ ps).1)/\((qP ps).2<=p.2/\p.2<=(qQ ps).2):=by
 obtain ⟨j,hj,rfl⟩:=zMN hp
 have hn:ps.length≠0:=by omega
 unfold qP qQ
 rw [if_neg hn,if_neg hn]
 have a:=zRe (ps:=ps) ps.length j hj
 have b:=zRg (ps:=ps) ps.length j hj
 exact ⟨⟨a.1,b.1⟩,⟨a.2,b.2⟩⟩
theorem zDN {lo hi x:V2}:zH0 lo hi x=true↔(lo.1<=x.1/\x.1<=hi.1)/\(lo.2<=x.2/\x.2<=hi.2):=by
 unfold zH0
 rw [zZD,zKo,zKo]
def zF4 (lo hi q:V2):Prop:=q.1<=lo.1∨hi.1<=q.1∨q.2<=lo.2∨hi.2<=q.2
theorem zM7 (h:Conv ps) {p:V2} (e:zCn ps p= -1):inK ps p ps.length=false:=by
 cases k:inK ps p ps.length with
 |false=>rfl
 |true=>
  unfold inK at k
  rw [zZD,zZG] at k
  have:=(h.where_iff p).1.2 fun i hi=>zE5.1 (zZB.1 (k.2 i (zZF.2 hi)))
  rw [e] at this
  exact absurd this dC
theorem zIH:((1:Int):Rat)=1:=rfl
theorem zKX (h:p∈ps):((yY ps).1<p.1/\p.1<(yZ ps).1)/\((yY ps).2<p.2/\p.2<(yZ ps).2):=by
 have:=zNG h
 unfold yY yZ
 rw [zIH]
 simp only
 grind
theorem zKW (ps:List V2):(yY ps).1<(yZ ps).1/\(yY ps).2<(yZ ps).2:=by
 by_cases e:ps.length=0
 ·unfold yY yZ qP qQ
  rw [if_pos e,if_pos e,zIH]
  simp only
  exact ⟨by decide+kernel,by decide+kernel⟩
 ·have:=zKX (zB2 (l:=ps) (i:=0) oQ)
  grind
theorem zUf (hS: ∀p,p∈ps->p∈S) (hc:ps= []∨Conv ps) {q:V2} (hq:zF4 (yY S) (yZ S) q):inK ps q ps.length=false:=by
 rcases hc with rfl|hc
 ·rfl
 ·refine zM7 hc ?_
  rcases hq with h|h|h|h
  ·exact zGU (d:=0) fun a ha=>by have:=zKX (hS a ha);show q.1<a.1;grind
  ·exact zGU (d:=1) fun a ha=>by have:=zKX (hS a ha);show a.1<q.1;grind
  ·exact zGU (d:=2) fun a ha=>by have:=zKX (hS a ha);show q.2<a.2;grind
  ·exact zGU (d:=3) fun a ha=>by have:=zKX (hS a ha);show a.2<q.2;grind
theorem zER (h:lo<hi):(r<lo/\jC lo hi r=lo)∨(hi<r/\jC lo hi r=hi)∨((lo<=r/\r<=hi)/\jC lo hi r=r):=by
 cases e1:decide (qsg r hi>0) with
 |true=>
  have h1:=qgt.1 (zZx e1)
  right;left
  refine ⟨h1,zGY e1 (zZT fun k=> ?_)⟩
  have:=qlt.1 k
  grind
 | false=>
  have h1: ¬hi<r:=fun k=>zZu e1 (qgt.2 k)
  cases e2:decide (qsg r lo<0) with
  |true=>exact .inl ⟨qlt.1 (zZx e2),zGZ e1 e2⟩
  |false=>
   have h2: ¬r<lo:=fun k=>zZu e2 (qlt.2 k)
   exact .inr (.inr ⟨⟨by grind,by grind⟩,zG0 e1 e2⟩)
theorem zKl (h:lo<hi):lo<=jC lo hi r/\jC lo hi r<=hi:=by
 rcases zER (r:=r) h with ⟨_,e⟩|⟨_,e⟩|⟨h1,e⟩<;>rw [e]<;>grind
theorem zF1 (h:lo<hi):jC lo hi r=r↔lo<=r/\r<=hi:=by
 rcases zER (r:=r) h with ⟨h1,e⟩|⟨h1,e⟩|⟨h1,e⟩<;>rw [e]<;>grind
section
variable (S:List V2) (p:V2)
theorem zQ9: [y8 (yY S) (yZ S) p].all (zH0 (yY S) (yZ S))=true:=by
 rw [List.all_cons,List.all_nil,Bool.and_true,zDN]
 exact ⟨zKl (zKW S).1,zKl (zKW S).2⟩
theorem zNE:zH0 (yY S) (yZ S) p=(q8 (y8 (yY S) (yZ S) p) p==0):=by
 rw [Bool.eq_iff_iff,zPU,zDN, <-zF1 (zKW S).1, <-zF1 (zKW S).2]
 exact ⟨fun ⟨a,b⟩=>zZw a b,fun e=>⟨congrArg Prod.fst e,congrArg Prod.snd e⟩⟩
theorem zPV:(q8 (y8 (yY S) (yZ S) (y8 (yY S) (yZ S) p)) (y8 (yY S) (yZ S) p)==0)=true:=by
 rw [<-zNE]
 have:=zQ9 S p
 simpa using this
end
theorem zIb (S:List V2):zF4 (yY S) (yZ S) (yY S):= .inl zZA
theorem zIc (S:List V2):zF4 (yY S) (yZ S) (yZ S):= .inr (.inl zZA)
theorem zKn (h:zH0 (yY S) (yZ S) p=false):zF4 (yY S) (yZ S) p/\zF4 (yY S) (yZ S) (y8 (yY S) (yZ S) p):=by
 have hn: ¬(((yY S).1<=p.1/\p.1<=(yZ S).1)/\((yY S).2<=p.2/\p.2<=(yZ S).2)):=fun k=>by
  rw [zDN.2 k] at h;cases h
 rcases zER (r:=p.1) (zKW S).1 with ⟨h1,e⟩|⟨h1,e⟩|⟨h1,e⟩
 ·exact ⟨.inl (zZr h1),.inl (by show jC _ _ _<=_;rw [e];exact zZA)⟩
 ·exact ⟨.inr (.inl (zZr h1)),.inr (.inl (by show _<=jC _ _ _;rw [e];exact zZA))⟩
 ·rcases zER (r:=p.2) (zKW S).2 with ⟨h2,e⟩|⟨h2,e⟩|⟨h2,e⟩
  ·exact ⟨.inr (.inr (.inl (zZr h2))),.inr (.inr (.inl (by show jC _ _ _<=_;rw [e];exact zZA)))⟩
  ·exact ⟨.inr (.inr (.inr (zZr h2))),.inr (.inr (.inr (by show _<=jC _ _ _;rw [e];exact zZA)))⟩
  ·exact absurd ⟨h1,h2⟩ hn
theorem zGR (hi:i<L.length) {p:V2} (h:p∈(rat L i).2):p∈zH L L.length:=by
 unfold zH
 rw [List.take_of_length_le lr]
 exact List.mem_flatMap.2 ⟨_,zAh hi,h⟩
theorem zKu (hc: ∀j,j<L.length->(rat L j).2= []∨Conv (rat L j).2) (hq:zF4 (yY (zH L L.length)) (yZ (zH L L.length)) q):(zQB (whK L q L.length)).length=0:=by
 have:whK L q L.length= []:=by
  unfold whK
  rw [List.filter_eq_nil_iff]
  intro i hi
  have hi:=zZF.1 hi
  rw [zUf (fun p hp=>zGR hi hp) (hc i hi) hq]
  decide
 rw [this];rfl
theorem zT8 (hS: ∀p,p∈ps->p∈S):ps.all (zH0 ((yY S).1+((1:Int):Rat),(yY S).2+((1:Int):Rat)) ((yZ S).1 - ((1:Int):Rat),(yZ S).2 - ((1:Int):Rat)))=true:=by
 refine zZG.2 fun p hp=>zDN.2 ?_
 have:=zNG (hS p hp)
 unfold yY yZ
 rw [zIH]
 simp only
 grind
theorem zUg (hS: ∀p,p∈ps->p∈S):ps.all (zH0 (yY S) (yZ S))=true:=by
 refine zZG.2 fun p hp=>zDN.2 ?_
 have:=zKX (hS p hp)
 grind
abbrev zns (L:List Int):List CU:=L.map fun z=>wF [.int .i64 z]
def pvx (ps:List V2) (k:Nat):Nat:=(k+ps.length - 1) % ps.length
def zE0 (ps:List V2) (k:Nat):Int:=zAG (at_ ps (pvx ps k)) (at_ ps k) (at_ ps ((k+1) % ps.length))
def zC4 (ps:List V2) (k:Nat):List Int:=(List.range k).map (zE0 ps)
def qL (ps:List V2):List Int:=if ps.length<3 then [] else zC4 ps ps.length
theorem zIq (ps:List V2) (k:Nat):zns (zC4 ps (k+1))=zns (zC4 ps k)++ [wF [.int .i64 (zE0 ps k)]]:=by simp [zC4,List.range_succ]
theorem zKw (ps:List V2) (k:Nat):(zC4 ps k).length=k:=by simp [zC4]
theorem zKv (ps:List V2):(qL ps).length<=ps.length:=by unfold qL;split<;>simp [zC4]
theorem zRp {L:List Int} (h:k<L.length):(zns L)[k]?=some (wF [.int .i64 (L.getD k 0)]):=by
 rw [zZ6,zZE h,zZL,zZE h];rfl
theorem zRq (z:Int) (cs:List Wu) (W:Wt) (h:(wF [.int .i64 z]).p cs W): ∃u,cs[0]?=some u/\(uI z).p u W:=by
 obtain rfl:cs=_:=h
 exact ⟨_,rfl,rfl⟩
def zC3 (ps:List V2):Bool:=(qL ps).all (fun z=>z==1)&&zD1 ps
theorem zPS (hk:k<(qL ps).length) (h:((qL ps).getD k 0 !=1)=true):zC3 ps=false:=by
 unfold zC3
 rw [zZZ]
 left
 rw [zZ4]
 rw [zZL,zZE hk] at h
 exact ⟨_,List.getElem_mem hk,by simpa using h⟩
theorem zNA (h: ∀j,j<(qL ps).length->((qL ps).getD j 0 !=1)=false):zC3 ps=zD1 ps:=by
 unfold zC3
 have:(qL ps).all (fun z=>z==1)=true:=by
  rw [zZG]
  intro z hz
  obtain ⟨j,hj,rfl⟩:=List.getElem_of_mem hz
  have:=h j hj
  rw [zZL,zZE hj] at this
  simpa using this
 rw [this,Bool.true_and]
theorem zK8 (h:zC3 ps=true):Conv ps:=by
 unfold zC3 at h
 rw [zZD] at h
 obtain ⟨h1,h2⟩:=h
 have h3:3<=ps.length:=by
  apply zZs
  intro hx
  rw [zJi oQ] at h2
  exact absurd h2 dC
 refine zLE h2 fun i hi=> ?_
 unfold qL at h1
 rw [if_neg oQ,zZG] at h1
 have:=h1 (zE0 ps ((i+1) % ps.length)) (List.mem_map.2 ⟨_,zZF.2 (zZQ _ oQ),rfl⟩)
 have hs:=zE5.1 (zZB.1 this)
 have e1:pvx ps ((i+1) % ps.length)=i:=by
  unfold pvx
  rcases zZX (i+1) ps.length with q|q
  ·rw [zZz q,show i+1+ps.length - 1=i+ps.length by omega,Nat.add_mod_right,zZz hi]
  ·rw [show i+1=ps.length by omega,zZR,Nat.zero_add,zZz oQ];omega
 rw [e1,Nat.mod_add_mod] at hs
 exact hs
theorem zOH {r:V2} (h1:(fPV m p).p u W) (h2:(fPV m q).p v W) (h3:(fPV m r).p x W) (hm:m<=246) (hm0:0<m):Calls prog 54 #[u,v,x] W (Ret W (fI (zAG p q r)).tS):=by
 have hp:=zCD hm0 h1
 have hq:=zCD hm0 h2
 have hr:=zCD hm0 h3
 refine z9 [(fPV m p).tS,(fPV m q).tS,(fPV m r).tS] func54 rfl kJ ⟨h1,h2,h3,trivial⟩ fun a s=> ?_
 refine zZo ?_
 refine zB 0 [] hmix s kJ
  zC fun a w1 s=> ?_
 refine yK (wC (fPV m p)) rfl s kJ (fun v W h=>yS h) fun b3 a w s=> ?_
 refine yK (wC (fPV m q)) rfl s kJ (fun v W h=>yS h) fun b4 a w s=> ?_
 refine yK (wC (fPV m r)) rfl s kJ (fun v W h=>yS h) fun b5 a w s=> ?_
 refine yR (uI 0) rfl s kJ iiz fun a w s=> ?_
 refine zA rfl ?_
 refine zZo ?_
 replace s:=s.drop [6]
 refine zB 9 ((7,.Z (fPV m q))::(8,.Z (fPV m p))::(9,.Z (fPN ((q).1 - (p).1,(q).2 - (p).2)))::(10,.Z (fPV m r))::(11,.Z (fPV m p))::(12,.Z (fPN ((r).1 - (p).1,(r).2 - (p).2)))::(13,.Z (fQN (crs p q r)))::(14,.Z (uI (zAG p q r)))::(6,.u (uI (zAG p q r))):: []) hmix s kJ
  (oc (zK (f:=fPV m q) 6 kJ (hz:=zP _ _))<|oc (zK (f:=fPV m p) 6 kJ (hz:=zP _ _))<|oc (zI zD zFu (fun u0 u1 W hb (h0:(fPV m q).p u0 W) (h1:(fPV m p).p u1 W)=>zBL (m:=m) (p:=q) (q:=p) h0 h1 oQ hm0))<|oc (zK (f:=fPV m r) 6 kJ (hz:=zP _ _))<|oc (zK (f:=fPV m p) 6 kJ (hz:=zP _ _))<|oc (zI zD zFu (fun u0 u1 W hb (h0:(fPV m r).p u0 W) (h1:(fPV m p).p u1 W)=>zBL (m:=m) (p:=r) (q:=p) h0 h1 oQ hm0))<|oc (zI zD zPH (fun u0 u1 W hb (h0:(fPN ((q).1 - (p).1,(q).2 - (p).2)).p u0 W) (h1:(fPN ((r).1 - (p).1,(r).2 - (p).2)).p u1 W)=>zFb (m:=2*m+1) (p:=((q).1 - (p).1,(q).2 - (p).2)) (q:=((r).1 - (p).1,(r).2 - (p).2)) (zAo (p:=((q).1 - (p).1,(q).2 - (p).2)) (m:=(2*m+1)) ((zBg hq hp).1.mono (by first|omega|decide)) ((zBg hq hp).2.mono (by first|omega|decide)) h0) (zAo (p:=((r).1 - (p).1,(r).2 - (p).2)) (m:=(2*m+1)) ((zBg hr hp).1.mono (by first|omega|decide)) ((zBg hr hp).2.mono (by first|omega|decide)) h1) (zBg hq hp) (zBg hr hp) oQ oQ))<|oc (zJ zD zST (fun u0 W hb (h0:QNp (crs p q r) u0 W)=>zGs (m:=((2*m+1)+(2*m+1)+((2*m+1)+(2*m+1))+1)) (wM h0 (((zBg hq hp).1.mul (zBg hr hp).2).sub ((zBg hq hp).2.mul (zBg hr hp).1))) oQ))<|oc zF<|zC) fun a w2 s=> ?_
 refine zA rfl ?_
 refine zZq ?_
 exact wG s (t:=6) rfl iiz
theorem zL0 {l:Wu} (hl:(wD 6 (pvs m ps)).p l W) (hm:m<=246) (hm0:0<m) (hn:ps.length<=1000000):Calls prog 25 #[l] W (Ret W (wD 1 (zns (qL ps)))):=by
 refine z9 [(wB l).tS] func25 rfl kJ ⟨rfl,trivial⟩ fun a s=> ?_
 replace s:=s.renew [(0,.u (wB l))] (fmz ⟨.inr ⟨_,rfl,.head _⟩,fnz⟩)
 refine zZo ?_
 refine zB 1 ((2,.u (wB (sN))):: []) hmix s kJ
  (oc zF<|zC) fun a w1 s=> ?_
 refine zA rfl ?_
 refine zZo ?_
 refine zZo ?_
 refine zB 3 ((5,.Z (wB l))::(6,.Z (uI ((pvs m ps).length:Int)))::(7,.u (uB (decide (ps.length<3)))):: []) hmix s kJ
  (oc zE<|oc (yV (z:=6) (Cs:=pvs m ps) kJ (fun v W hb h=>(yU hl h (s.up hb))) (fun _=>rfl))<|oc (zS .i64 ((pvs m ps).length:Int) 3 (decide (ps.length<3)) iiz iiz (by simp only [zZC];rw [decide_eq_decide];omega) rfl)<|zC) fun a w2 s=> ?_
 refine zA rfl ?_
 refine StS.cond s (decide (ps.length<3)) iiz (fun e=> ?_) (fun e=> ?_)
 ·refine zZo ?_
  replace s:=s.drop [2]
  refine zB 1 ((2,.u (wB (sN))):: []) hmix s kJ
   (oc zF<|zC) fun a w3 s=> ?_
  refine zA rfl ?_
  refine zZq ?_
  exact StS.resN s (Below.refl _ _) rfl (by rw [s.val (.head _)];rw [show qL ps= [] from if_pos (zZx e)];exact zLR 1 _)
 ·refine zZp ?_
  refine zZo ?_
  refine zB 1 ((3,.u (wB (sN))):: []) hmix s kJ
   (oc zF<|zC) fun a w4 s=> ?_
  refine zA rfl ?_
  refine zZo ?_
  refine zZo ?_
  refine zB 1 ((4,.u (uI 0)):: []) hmix s kJ
   (oc zF<|zC) fun a w5 s=> ?_
  refine zA rfl ?_
  refine zZy ?_
  have h3:3<=ps.length:=by have:=zZu e;simp at this;omega
  obtain ⟨base,hbase⟩: ∃b,b=w5.heap.size:=⟨_,rfl⟩
  have hb0:W.heap.size<=base:=by rw [hbase];exact s.gr.size
  have hsz0:base<=w5.heap.size:=by rw [hbase];exact Nat.le_refl _
  refine zD0 (fun (p:Nat×Wu) w=>p.1<=ps.length/\base<=w.heap.size/\zAU w base 3 1 p.2 (zns (zC4 ps p.1))) (fun p=> [(0,.u (wB l)),(3,.u (wB (p.2))),(4,.u (uI (p.1:Int)))]) (fun p=>ps.length - p.1) (0, sN) (⟨zZI _,hsz0,zAU.nil _ _ _ _⟩) (s.keepK _ (fmz ⟨mz4,fmz ⟨mz1,fmz ⟨.head _,fnz⟩⟩⟩)) fun p a w hI s=> ?_
  have s0:=s
  have hlw:=(wD 6 (pvs m ps)).st _ _ _ hl s0.below
  replace s:=s.reb rfl [(0,.u (wB l)),(3,.u (wB (p.2))),(4,.u (uI (p.1:Int)))] (fmz ⟨.inl (.head _),fmz ⟨.inl mz1,fmz ⟨.inl mz2,fnz⟩⟩⟩)
  refine zZo ?_
  refine zZo ?_
  refine zB 4 ((8,.Z (uI (p.1:Int)))::(9,.Z (wB l))::(10,.Z (uI ((pvs m ps).length:Int)))::(11,.u (uB (ltz p.1 ((pvs m ps).length)))):: []) hmix s kJ
   (oc zE<|oc zE<|oc (yV (z:=6) (Cs:=pvs m ps) kJ (fun v W hb h=>(yU hlw h (s.up hb))) (fun _=>rfl))<|oc (zS .i64 (p.1:Int) ((pvs m ps).length:Int) (ltz p.1 ((pvs m ps).length)) iiz iiz rfl rfl)<|zC) fun a w6 s=> ?_
  refine zA rfl ?_
  refine StS.cond s (ltz p.1 ((pvs m ps).length)) iiz (fun e=> ?_) (fun e=> ?_)
  ·have hk:p.1<ps.length:=by have:=zZx e;simp at this;omega
   have hpi:(pvx ps p.1)<ps.length:=zZQ _ oQ
   have hni:((p.1+1) % ps.length)<ps.length:=zZQ _ oQ
   have hlz:(pvs m ps).length=ps.length:=by simp
   refine zZp ?_
   refine zZo ?_
   refine zZy ?_
   refine zCA (K:= [(11,.u (uB (ltz p.1 ((pvs m ps).length)))),(0,.u (wB l)),(4,.u (uI (p.1:Int)))]) [(3,.u (wB (p.2)))] [0,1,2,3,7,12,13,16,17,19] 26 ((14,.u (wB (p.2)))::(15,.Z (wB l))::(16,.Z (uI (p.1:Int)))::(17,.Z (wB l))::(18,.Z (uI ((pvs m ps).length:Int)))::(19,.Z (uI ((p.1+ps.length:Nat):Int)))::(20,.Z (uI ((p.1+ps.length - 1:Nat):Int)))::(21,.Z (wB l))::(22,.Z (uI ((pvs m ps).length:Int)))::(23,.Z (uI (((pvx ps p.1):Nat):Int)))::(24,.Y (fPV m (at_ ps (pvx ps p.1))))::(25,.Z (fPV m (at_ ps (pvx ps p.1))))::(26,.Z (wB l))::(27,.Z (uI (p.1:Int)))::(28,.Y (fPV m (at_ ps p.1)))::(29,.Z (fPV m (at_ ps p.1)))::(30,.Z (wB l))::(31,.Z (uI (p.1:Int)))::(32,.Z (uI ((p.1+1:Nat):Int)))::(33,.Z (wB l))::(34,.Z (uI ((pvs m ps).length:Int)))::(35,.Z (uI ((((p.1+1) % ps.length):Nat):Int)))::(36,.Y (fPV m (tn ps p.1)))::(37,.Z (fPV m (tn ps p.1)))::(38,.Z (uI (zE0 ps p.1)))::(39,.s (wD 1 [wF [.int .i64 (zE0 ps p.1)]])):: []) hmix (s.keepK _ (fmz ⟨mz2,fmz ⟨.head _,fmz ⟨mz1,fmz ⟨mz3,fnz⟩⟩⟩⟩)) kJ
    (oc zE<|oc zE<|oc zE<|oc zE<|oc (yV (z:=6) (Cs:=pvs m ps) kJ (fun v W hb h=>(yU hlw h (s.up hb))) (fun _=>rfl))<|oc (yN .i64 (p.1:Int) ((pvs m ps).length:Int) ((p.1+ps.length:Nat):Int) iiz iiz (by rw [hlz,zZP];omega))<|oc (zEb .i64 ((p.1+ps.length:Nat):Int) 1 ((p.1+ps.length - 1:Nat):Int) iiz iiz (by rw [zZP];omega))<|oc zE<|oc (yV (z:=6) (Cs:=pvs m ps) kJ (fun v W hb h=>(yU hlw h (s.up hb))) (fun _=>rfl))<|oc (zFi .i64 ((p.1+ps.length - 1:Nat):Int) ((pvs m ps).length:Int) (((pvx ps p.1):Nat):Int) iiz iiz oQ (by rw [hlz];exact zGp _ _))<|oc (yH (z:=6) (Cs:=pvs m ps) (i:=(pvx ps p.1)) (C:=wC (fPV m (at_ ps (pvx ps p.1)))) kJ (q6 hpi) (fun v W hb h=>(yU hlw h (s.up hb))) iiz)<|oc (zK (f:=fPV m (at_ ps (pvx ps p.1))) 6 kJ (hz:=zP _ _))<|oc zE<|oc zE<|oc (yH (z:=6) (Cs:=pvs m ps) (i:=p.1) (C:=wC (fPV m (at_ ps p.1))) kJ (q6 hk) (fun v W hb h=>(yU hlw h (s.up hb))) iiz)<|oc (zK (f:=fPV m (at_ ps p.1)) 6 kJ (hz:=zP _ _))<|oc zE<|oc zE<|oc (yN .i64 (p.1:Int) 1 ((p.1+1:Nat):Int) iiz iiz (by rw [zZP];omega))<|oc zE<|oc (yV (z:=6) (Cs:=pvs m ps) kJ (fun v W hb h=>(yU hlw h (s.up hb))) (fun _=>rfl))<|oc (zFi .i64 ((p.1+1:Nat):Int) ((pvs m ps).length:Int) ((((p.1+1) % ps.length):Nat):Int) iiz iiz oQ (by rw [hlz];exact zGp _ _))<|oc (yH (z:=6) (Cs:=pvs m ps) (i:=((p.1+1) % ps.length)) (C:=wC (fPV m (tn ps p.1))) kJ (q6 hni) (fun v W hb h=>(yU hlw h (s.up hb))) iiz)<|oc (zK (f:=fPV m (tn ps p.1)) 6 kJ (hz:=zP _ _))<|oc (zAS zD zWc (fun u0 u1 u2 W hb (h0:(fPV m (at_ ps (pvx ps p.1))).p u0 W) (h1:(fPV m (at_ ps p.1)).p u1 W) (h2:(fPV m (tn ps p.1)).p u2 W)=>zOH (m:=m) h0 h1 h2 oQ hm0))<|oc (jI (fun u W (hu:u= .int .i64 (zE0 ps p.1))=>zLC hu))<|zC) fun Q' hQ a w7 s hr=> ?_
   refine zLv ([wF [.int .i64 (zE0 ps p.1)]]) s0 (s.keepK [(14,.u (wB (p.2))),(11,.u (uB (ltz p.1 ((pvs m ps).length)))),(0,.u (wB l)),(4,.u (uI (p.1:Int)))] (fmz ⟨.head _,fmz ⟨mz1,fmz ⟨mz2,fmz ⟨mz3,fnz⟩⟩⟩⟩)) hb0 hI.2 rfl kJ kJ kJ (s.fct (.tmp 14)) (hr (_,_) (.tail _ (.tail _ (.tail _ (.tail _ (.tail _ (.tail _ (.tail _ (.tail _ (.tail _ (.tail _ zJM))))))))))) (zQC _) (by simp [zKw];omega) (fun q hq=>by cases hq) fun v' a w hI' s=> ?_
   have s1:=s
   replace s:=s.reb rfl [(40,.u (wB v')),(14,.u (wB (p.2))),(11,.u (uB (ltz p.1 ((pvs m ps).length)))),(0,.u (wB l)),(4,.u (uI (p.1:Int)))] (fmz ⟨.inl (.head _),fmz ⟨.inl mz1,fmz ⟨.inl mz2,fmz ⟨.inl mz3,fmz ⟨.inl mz4,fnz⟩⟩⟩⟩⟩)
   refine yR (wB v') rfl s kJ iiz fun a w s=> ?_
   refine zA rfl (hQ _ _ ?_)
   refine zX 2 ((12,.Z (uI (p.1:Int)))::(13,.u (uI ((p.1+1:Nat):Int))):: []) s kJ
    (oc zE<|oc (yN .i64 (p.1:Int) 1 ((p.1+1:Nat):Int) iiz iiz (wrap64 _ _ oQ oQ))<|zC) fun a w8 s=> ?_
   replace s:=s.drop [4]
   refine yR (uI ((p.1+1:Nat):Int)) rfl s kJ iiz fun a w s=> ?_
   refine zA rfl ?_
   have hbw:=s.below
   replace s:=s1.back (s.keepK [(4,.u (uI ((p.1+1:Nat):Int))),(13,.u (uI ((p.1+1:Nat):Int))),(3,.u (wB v')),(40,.u (wB v')),(14,.u (wB (p.2))),(11,.u (uB (ltz p.1 ((pvs m ps).length)))),(0,.u (wB l))] (fmz ⟨.head _,fmz ⟨mz1,fmz ⟨mz2,fmz ⟨mz3,fmz ⟨mz4,fmz ⟨mz5,fmz ⟨mz6,fnz⟩⟩⟩⟩⟩⟩⟩)) rfl
   exact ⟨(p.1+1,v'),(by show ps.length - (p.1+1)<ps.length - p.1;omega),⟨hk,zZS hI'.1 hbw.size,by show zAU _ _ _ _ _ (zns (zC4 ps (p.1+1)));rw [zIq];exact hI'.2.below hbw⟩,s.keepK _ (fmz ⟨mz6,fmz ⟨mz2,fmz ⟨.head _,fnz⟩⟩⟩)⟩
  ·have hk:p.1=ps.length:=by have h7:=zZu e;have h8:=hI.1;simp at h7;omega
   refine zZO ?_
   refine zZo ?_
   refine zB 2 ((41,.Z (wB (p.2)))::(2,.u (wB (p.2))):: []) hmix s kJ
    (oc zE<|oc zF<|zC) fun a w9 s=> ?_
   refine zA rfl ?_
   refine zZq ?_
   exact StS.resN s s0.below rfl (by rw [s.val (.head _)];have:=((hI.2.2.below s.below).mono hb0).row;rw [hk] at this;rw [show qL ps=zC4 ps ps.length from if_neg oQ];exact this)
theorem zMc {l:Wu} (hl:(wD 6 (pvs 80 ps)).p l W) (hn:ps.length<=1000000) (hpair: ∀i j,i<ps.length->j<ps.length->i≠j->zEt (at_ ps i) (at_ ps j)):Calls prog 7 #[l] W (Ret W (fB (zC3 ps)).tS):=by
 refine z9 [(wB l).tS] func7 rfl kJ ⟨rfl,trivial⟩ fun a s=> ?_
 replace s:=s.renew [(0,.u (wB l))] (fmz ⟨.inr ⟨_,rfl,.head _⟩,fnz⟩)
 refine zZo ?_
 refine zB 1 ((2,.u (uB false)):: []) hmix s kJ
  (oc zF<|zC) fun a w1 s=> ?_
 refine zA rfl ?_
 refine zZo ?_
 refine qV 2 ((5,.Z (wB l))::(6,.s (wD 1 (zns (qL ps)))):: []) hmix s kJ
  (oc zE<|oc (zJ zD zWm (fun u0 W hb (h0:u0=l)=>zL0 (m:=80) (yU hl h0 (s.up hb)) dC dC hn))<|zC) fun a w2 s hr=> ?_
 obtain ⟨v6,e6⟩: ∃v,a.tmps.getD 6 undef=v:=⟨_,rfl⟩
 have hv6:(wD 1 (zns (qL ps))).p v6 w2:=e6▸(hr (_,_) mz1)
 replace s:=s.learn 6 v6 e6
 have hb0:=s.below
 have hl':=(wD 6 (pvs 80 ps)).st _ _ _ hl hb0
 replace s:=s.reb rfl [(6,.u (wB v6)),(2,.u (uB false)),(0,.u (wB l))] (fmz ⟨.inl (.head _),fmz ⟨.inl mz1,fmz ⟨.inl mz2,fnz⟩⟩⟩)
 refine yR (wB v6) rfl s kJ iiz fun a w s=> ?_
 refine zA rfl ?_
 refine zZo ?_
 refine zZo ?_
 refine zB 1 ((4,.u (uI 0)):: []) hmix s kJ
  (oc zF<|zC) fun a w3 s=> ?_
 refine zA rfl ?_
 refine zZy ?_
 refine zAF (fun k=>k<=(qL ps).length/\ ∀j,j<k->((qL ps).getD j 0 !=1)=false) (fun k=> [(3,.u (wB v6)),(0,.u (wB l)),(4,.u (uI ((k:Nat):Int)))]) (fun k=>(qL ps).length - k) (0:Nat) (⟨zZI _,fun j hj=>absurd hj (zZW _)⟩) (s.keepK _ (fmz ⟨mz1,fmz ⟨mz4,fmz ⟨.head _,fnz⟩⟩⟩)) fun k a w hx s=> ?_
 have hlz:(zns (qL ps)).length=(qL ps).length:=by simp
 have htl:=zKv ps
 refine zZo ?_
 refine zZo ?_
 refine zB 4 ((7,.Z (uI (k:Int)))::(8,.Z (wB v6))::(9,.Z (uI ((zns (qL ps)).length:Int)))::(10,.u (uB (ltz k ((zns (qL ps)).length)))):: []) hmix s kJ
  (oc zE<|oc zE<|oc (yV (z:=1) (Cs:=zns (qL ps)) kJ (fun v W hb h=>(yU hv6 h (s.up hb))) (fun _=>rfl))<|oc (zS .i64 (k:Int) ((zns (qL ps)).length:Int) (ltz k ((zns (qL ps)).length)) iiz iiz rfl rfl)<|zC) fun a w4 s=> ?_
 refine zA rfl ?_
 refine StS.cond s (ltz k ((zns (qL ps)).length)) iiz (fun e=> ?_) (fun e=> ?_)
 ·have hk:k<(qL ps).length:=by have:=zZx e;simp at this;omega
  refine zZp ?_
  refine zZo ?_
  refine zZy ?_
  refine zZo ?_
  refine zB 5 ((13,.Z (wB v6))::(14,.Z (uI (k:Int)))::(15,.s (wE (wF [.int .i64 ((qL ps).getD k 0)]).cf))::(16,.Z (uI ((qL ps).getD k 0)))::(17,.u (uB (((qL ps).getD k 0) !=1))):: []) hmix s kJ
   (oc zE<|oc zE<|oc (yH (z:=1) (Cs:=zns (qL ps)) (i:=k) (C:=wF [.int .i64 ((qL ps).getD k 0)]) kJ (zRp hk) (fun v W hb h=>(yU hv6 h (s.up hb))) iiz)<|oc (jB (C:=(wF [.int .i64 ((qL ps).getD k 0)]).cf) kJ iiz (zRq _))<|oc (zS .i64 ((qL ps).getD k 0) 1 (((qL ps).getD k 0) !=1) iiz iiz rfl rfl)<|zC) fun a w5 s=> ?_
  refine zA rfl ?_
  refine StS.cond s (((qL ps).getD k 0) !=1) iiz (fun e=> ?_) (fun e=> ?_)
  ·refine zZo ?_
   refine zB 1 ((2,.u (uB false)):: []) hmix s kJ
    (oc zF<|zC) fun a w6 s=> ?_
   refine zA rfl ?_
   refine zZq ?_
   exact vE s hb0 (t:=2) rfl (fun v W h=>by rw [zPS hk e];exact h)
  ·refine zZp ?_
   refine zX 2 ((11,.Z (uI (k:Int)))::(12,.u (uI ((k+1:Nat):Int))):: []) s kJ
    (oc zE<|oc (yN .i64 (k:Int) 1 ((k+1:Nat):Int) iiz iiz (wrap64 _ _ oQ oQ))<|zC) fun a w7 s=> ?_
   replace s:=s.drop [4]
   refine yR (uI ((k+1:Nat):Int)) rfl s kJ iiz fun a w s=> ?_
   refine zA rfl ?_
   exact ⟨k+1,⟨hk,fun j hj=>by rcases zZH (zZJ hj) with h|h;exact hx.2 j h;rw [h];exact e⟩,(by show (qL ps).length - (k+1)<(qL ps).length - k;omega),s.keepK _ (fmz ⟨mz4,fmz ⟨mz5,fmz ⟨.head _,fnz⟩⟩⟩)⟩
 ·have hk:k=(qL ps).length:=by have h7:=zZu e;have h8:=hx.1;simp at h7;omega
  refine zZO ?_
  refine zZo ?_
  refine zB 3 ((18,.Z (wB l))::(19,.Z (uB (zD1 ps)))::(2,.u (uB (zD1 ps))):: []) hmix s kJ
   (oc zE<|oc (zJ zD zWl (fun u0 W hb (h0:u0=l)=>zIA (ps:=ps) (yU hl' h0 (s.up hb)) hn hpair))<|oc zF<|zC) fun a w8 s=> ?_
  refine zA rfl ?_
  refine zZq ?_
  exact vE s hb0 (t:=2) rfl (fun v W h=>by rw [zNA (fun j hj=>hx.2 j oQ)];exact h)
theorem zVz (h: ∀q,q∈ps->QB q.1 6/\QB q.2 6) {i j:Nat} (hi:i<ps.length) (hj:j<ps.length):zEt (at_ ps i) (at_ ps j):=⟨6,6,h _ (zB2 hi),h _ (zB2 hj),by decide⟩
abbrev RX:=List (Wu×List PX)
variable {X:RX}
abbrev zDW (X:RX):RR:=X.map fun x=>(x.1,pps x.2)
def RX.ok (X:RX) (W:Wt):Prop:= ∀x,x∈X->(wD 6 (pxs x.2)).p x.1 W
theorem RX.ok.below {W':Wt} (h:RX.ok X W) (hb:bW W W'):RX.ok X W':=fun x hx=>(wD 6 _).st _ _ _ (h x hx) hb
def rxt (X:RX) (k:Nat):Wu×List PX:=X.getD k (sN, [])
theorem zLJ (h:k<X.length):rxt X k∈X:=by
 unfold rxt;rw [zZL,zZE h];exact List.getElem_mem h
theorem zLI (h:k<X.length):(rrv (zDW X))[k]?=some (wF [(rxt X k).1]):=by
 unfold rxt
 rw [zZ6,zZ6,zZE h,zZL,zZE h];rfl
def zE1 (X:RX) (k:Nat):Nat:=((X.take k).map fun x=>x.2.length).sum
theorem zHc (h:k<X.length):zE1 X (k+1)=zE1 X k+(rxt X k).2.length:=by
 unfold zE1 rxt
 rw [List.take_add_one,zZE h,List.map_append,List.sum_append,zZL,zZE h]
 simp
theorem zLw {X:RX}: ∀k,k<=X.length->(∀j,j<k->g8 (rxt X j).2=false)->zE1 X k<=k*60
 |0,_,_=>by simp [zE1]
 |k+1,hk,h=>by
  have ih:=zLw k oQ fun j hj=>h j oQ
  have:=(zUa (h k oQ)).1
  rw [zHc oQ]
  omega
def g21 (X:RX):Bool:=(X.take 11).any (fun x=>g8 x.2)||(decide ((X.length:Int)>10)||decide (((zE1 X (min X.length 11):Nat):Int)>40))
theorem zSJ (h:k<X.length) (hk:k<=10) (e:g8 (rxt X k).2=true):g21 X=true:=by
 unfold g21
 rw [Bool.or_eq_true]
 left
 refine List.any_eq_true.2 ⟨rxt X k, ?_,e⟩
 refine List.mem_of_getElem? (i:=k) ?_
 rw [List.getElem?_take,if_pos oQ]
 unfold rxt
 rw [zZE h,zZL,zZE h];rfl
theorem zSI (hk:k=min X.length 11) (h: ∀j,j<k->g8 (rxt X j).2=false):g21 X=(decide ((X.length:Int)>10)||decide (((zE1 X k:Nat):Int)>40)):=by
 unfold g21
 rw [<-hk]
 have:(X.take 11).any (fun x=>g8 x.2)=false:=by
  refine List.any_eq_false.2 fun x hx=> ?_
  obtain ⟨j,hj⟩:=List.getElem?_of_mem hx
  have hl:=(List.getElem?_eq_some_iff.1 hj).1
  rw [List.length_take] at hl
  rw [List.getElem?_take,if_pos oQ] at hj
  have hx':rxt X j=x:=by unfold rxt;rw [zZL,hj];rfl
  rw [<-hx',h j oQ]
  decide
 rw [this,Bool.false_or]
theorem zUd (h:g21 X=false):X.length<=10/\ ∀x,x∈X->g8 x.2=false:=by
 unfold g21 at h
 rw [zZ1,zZ1] at h
 have h2:=zZu h.2.1
 refine ⟨by omega,fun x hx=> ?_⟩
 have h1:=List.any_eq_false.1 h.1 x (by rw [List.take_of_length_le oQ];exact hx)
 simpa using h1
theorem zVs (hX:RX.ok X W) (h:g21 X=false):RR.ok 6 (zDW X) W/\ ∀x,x∈zDW X->x.2.length<=60:=by
 have hg:=(zUd h).2
 refine ⟨fun y hy=> ?_,fun y hy=> ?_⟩
 ·obtain ⟨x,hx,rfl⟩:=List.mem_map.1 hy
  exact zOT (zUa (hg x hx)).2 _ _ (hX x hx)
 ·obtain ⟨x,hx,rfl⟩:=List.mem_map.1 hy
  have:=(zUa (hg x hx)).1
  simpa using this
theorem RR.ok.mono {m':Nat} (h:m<=m') {L:RR} {W:Wt} (hL:RR.ok m L W):RR.ok m' L W:=fun x hx=>zED h _ _ (hL x hx)
theorem zJ2 {L:RR} (h: ∀x,x∈L->x.2.length<=60): ∀k,k<=L.length->(zH L k).length<=k*60
 |0,_=>by simp [zH]
 |k+1,hk=>by
  have ih:=zJ2 h k oQ
  have:=h _ (zAh (show k<L.length by omega))
  rw [zBH oQ,List.length_append]
  omega
theorem zFT {x:PX} (h:x.big6=false) (cs:List Wu) (W:Wt) (hc:(PX.cu x).p cs W):0+6<=cs.length/\(fPV 12 x.p).p (.agg ((cs.drop 0).take 6).toArray) W:=zEE cs W (zDd (m:=6) dC (zMk h hc))
theorem zD4 {z:Nat} {Cs:List CU} (h:(wD z Cs).p v W):(fSl Cs.length).p v W:=by
 obtain ⟨A,c,e,_⟩:=h
 exact ⟨A,c,e⟩
theorem zT9 {y:PX} (h:g8 [y]=false):y.big6=false:=(zUa h).2 y (List.mem_singleton.2 rfl)
theorem zKJ {l:Wu} (hl:(wD 1 (rrv (zDW X))).p l W) (hX:RX.ok X W):Calls prog 17 #[l] W (Ret W (fB (g21 X)).tS):=by
 refine z9 [(wB l).tS] func17 rfl kJ ⟨rfl,trivial⟩ fun a s=> ?_
 replace s:=s.renew [(0,.u (wB l))] (fmz ⟨.inr ⟨_,rfl,.head _⟩,fnz⟩)
 refine zZo ?_
 refine zB 1 ((2,.u (uB false)):: []) hmix s kJ
  (oc zF<|zC) fun a w1 s=> ?_
 refine zA rfl ?_
 refine zZo ?_
 refine zB 1 ((3,.u (uI 0)):: []) hmix s kJ
  (oc zF<|zC) fun a w2 s=> ?_
 refine zA rfl ?_
 refine zZo ?_
 refine zZo ?_
 refine zB 1 ((4,.u (uI 0)):: []) hmix s kJ
  (oc zF<|zC) fun a w3 s=> ?_
 refine zA rfl ?_
 refine zZy ?_
 refine zAF (fun k=>k<=X.length/\k<=11/\ ∀j,j<k->g8 (rxt X j).2=false) (fun k=> [(0,.u (wB l)),(4,.u (uI ((k:Nat):Int))),(3,.u (uI ((zE1 X k:Nat):Int)))]) (fun k=>11 - k) (0:Nat) (⟨zZI _,by omega,fun j hj=>absurd hj (zZW _)⟩) (s.keepK _ (fmz ⟨mz3,fmz ⟨.head _,fmz ⟨mz1,fnz⟩⟩⟩)) fun k a w hx s=> ?_
 have hlz:(rrv (zDW X)).length=X.length:=by simp
 have hsm:=zLw k hx.1 hx.2.2
 refine zZo ?_
 refine zZo ?_
 refine zB 8 ((5,.Z (uI (k:Int)))::(6,.Z (wB l))::(7,.Z (uI ((rrv (zDW X)).length:Int)))::(8,.Z (uB (ltz k ((rrv (zDW X)).length))))::(9,.Z (uB (ltz k ((rrv (zDW X)).length))))::(10,.s (SF.imp ((ltz k ((rrv (zDW X)).length))=true) ((uI (k:Int)).tS)))::(11,.s (SF.imp ((ltz k ((rrv (zDW X)).length))=true) ((uB (decide ((k:Int)<=10))).tS)))::(12,.u (uB ((ltz k ((rrv (zDW X)).length))&&(decide ((k:Int)<=10))))):: []) hmix s kJ
  (oc zE<|oc zE<|oc (yV (z:=1) (Cs:=rrv (zDW X)) kJ (fun v W hb h=>(yU hl h (s.up hb))) (fun _=>rfl))<|oc (zS .i64 (k:Int) ((rrv (zDW X)).length:Int) (ltz k ((rrv (zDW X)).length)) iiz iiz rfl rfl)<|oc zE<|oc (zG 9 (ltz k ((rrv (zDW X)).length)) kJ iiz (fun e=>z5 [] ((uI (k:Int)).tS) fnz fS kJ zE) fQ)<|oc (zG 9 (ltz k ((rrv (zDW X)).length)) kJ iiz (fun e=>z5 [(10,(uI (k:Int)).tS)] ((uB (decide ((k:Int)<=10))).tS) (fmz ⟨fun v W h=>zT (c:=(ltz k ((rrv (zDW X)).length))=true) (f:=(uI (k:Int)).tS) e h,fnz⟩) fS kJ (zS .i64 (k:Int) 10 (decide ((k:Int)<=10)) iiz iiz rfl rfl)) fQ)<|oc (yO (ltz k ((rrv (zDW X)).length)) iiz (fun e v W h=>zAP (zT e h) e) (fun e v W h=>zAe h e))<|zC) fun a w4 s=> ?_
 refine zA rfl ?_
 refine StS.cond s ((ltz k ((rrv (zDW X)).length))&&(decide ((k:Int)<=10))) iiz (fun e=> ?_) (fun e=> ?_)
 ·rw [zZD] at e
  have hk1:k<X.length:=by have:=zZx e.1;rw [hlz] at this;omega
  have hk2:k<=10:=by have:=zZx e.2;omega
  refine zZp ?_
  refine zZo ?_
  refine zZy ?_
  refine zZo ?_
  refine zZo ?_
  refine zB 5 ((15,.Z (wB l))::(16,.Z (uI (k:Int)))::(17,.s (wE (wF [(rxt X k).1]).cf))::(18,.Z (wB ((rxt X k).1)))::(19,.u (uB (g8 (rxt X k).2))):: []) hmix s kJ
   (oc zE<|oc zE<|oc (yH (z:=1) (Cs:=rrv (zDW X)) (i:=k) (C:=wF [(rxt X k).1]) kJ (zLI hk1) (fun v W hb h=>(yU hl h (s.up hb))) iiz)<|oc (jB (C:=(wF [(rxt X k).1]).cf) kJ iiz zBO)<|oc (zJ zD zWO (fun u0 W hb (h0:u0=(rxt X k).1)=>zHw (L:=(rxt X k).2) (by rw [show _=(rxt X k).1 from h0];exact (wD 6 (pxs (rxt X k).2)).st _ _ _ (hX _ (zLJ hk1)) (s.up hb))))<|zC) fun a w5 s=> ?_
  refine zA rfl ?_
  refine StS.cond s (g8 (rxt X k).2) iiz (fun e=> ?_) (fun e=> ?_)
  ·refine zZo ?_
   refine zB 1 ((2,.u (uB true)):: []) hmix s kJ
    (oc zF<|zC) fun a w6 s=> ?_
   refine zA rfl ?_
   refine zZq ?_
   exact wG s (t:=2) rfl (fun v W h=>by rw [zSJ hk1 hk2 e];exact h)
  ·have hbig:=e
   refine zZp ?_
   refine zX 7 ((20,.Z (uI ((zE1 X k:Nat):Int)))::(21,.Z (wB l))::(22,.Z (uI (k:Int)))::(23,.s (wE (wF [(rxt X k).1]).cf))::(24,.Z (wB ((rxt X k).1)))::(25,.Z (uI ((pxs (rxt X k).2).length:Int)))::(26,.u (uI ((zE1 X (k+1):Nat):Int))):: []) s kJ
    (oc zE<|oc zE<|oc zE<|oc (yH (z:=1) (Cs:=rrv (zDW X)) (i:=k) (C:=wF [(rxt X k).1]) kJ (zLI hk1) (fun v W hb h=>(yU hl h (s.up hb))) iiz)<|oc (jB (C:=(wF [(rxt X k).1]).cf) kJ iiz zBO)<|oc (yV (z:=6) (Cs:=pxs (rxt X k).2) kJ (fun v W hb h=>(by rw [show _=(rxt X k).1 from h];exact (wD 6 (pxs (rxt X k).2)).st _ _ _ (hX _ (zLJ hk1)) (s.up hb))) (fun _=>rfl))<|oc (yN .i64 ((zE1 X k:Nat):Int) ((pxs (rxt X k).2).length:Int) ((zE1 X (k+1):Nat):Int) iiz iiz (by have hl9:=(zUa hbig).1;rw [zZP,zHc hk1];simp only [zZC];omega))<|zC) fun a w7 s=> ?_
   replace s:=s.drop [3]
   refine yR (uI ((zE1 X (k+1):Nat):Int)) rfl s kJ iiz fun a w s=> ?_
   refine zA rfl ?_
   refine zX 2 ((13,.Z (uI (k:Int)))::(14,.u (uI ((k+1:Nat):Int))):: []) s kJ
    (oc zE<|oc (yN .i64 (k:Int) 1 ((k+1:Nat):Int) iiz iiz (wrap64 _ _ oQ oQ))<|zC) fun a w8 s=> ?_
   replace s:=s.drop [4]
   refine yR (uI ((k+1:Nat):Int)) rfl s kJ iiz fun a w s=> ?_
   refine zA rfl ?_
   exact ⟨k+1,⟨by omega,by omega,fun j hj=>by rcases zZH (zZJ hj) with h|h;exact hx.2.2 j h;rw [h];exact hbig⟩,(by show 11 - (k+1)<11 - k;omega),s.keepK _ (fmz ⟨mz6,fmz ⟨.head _,fmz ⟨mz2,fnz⟩⟩⟩)⟩
 ·have hend:k=min X.length 11:=by
   have h1:=hx.1;have h2:=hx.2.1
   rw [zZZ] at e
   rcases e with e|e
   ·have h7:=zZu e;rw [hlz] at h7;omega
   ·have h7:=zZu e;omega
  refine zZO ?_
  refine zZo ?_
  refine zB 8 ((27,.Z (wB l))::(28,.Z (uI ((rrv (zDW X)).length:Int)))::(29,.Z (uB (decide ((X.length:Int)>10))))::(30,.Z (uB (decide ((X.length:Int)>10))))::(31,.s (SF.imp ((decide ((X.length:Int)>10))=false) ((uI ((zE1 X k:Nat):Int)).tS)))::(32,.s (SF.imp ((decide ((X.length:Int)>10))=false) ((uB (decide (((zE1 X k:Nat):Int)>40))).tS)))::(33,.Z (uB ((decide ((X.length:Int)>10))||(decide (((zE1 X k:Nat):Int)>40)))))::(2,.u (uB ((decide ((X.length:Int)>10))||(decide (((zE1 X k:Nat):Int)>40))))):: []) hmix s kJ
   (oc zE<|oc (yV (z:=1) (Cs:=rrv (zDW X)) kJ (fun v W hb h=>(yU hl h (s.up hb))) (fun _=>rfl))<|oc (zS .i64 ((rrv (zDW X)).length:Int) 10 (decide ((X.length:Int)>10)) iiz iiz (by show decide (_>_)=_;rw [hlz]) rfl)<|oc zE<|oc (zG 30 (decide ((X.length:Int)>10)) kJ iiz (fun e=>z5 [] ((uI ((zE1 X k:Nat):Int)).tS) fnz fS kJ zE) fQ)<|oc (zG 30 (decide ((X.length:Int)>10)) kJ iiz (fun e=>z5 [(31,(uI ((zE1 X k:Nat):Int)).tS)] ((uB (decide (((zE1 X k:Nat):Int)>40))).tS) (fmz ⟨fun v W h=>zT (c:=(decide ((X.length:Int)>10))=false) (f:=(uI ((zE1 X k:Nat):Int)).tS) e h,fnz⟩) fS kJ (zS .i64 ((zE1 X k:Nat):Int) 40 (decide (((zE1 X k:Nat):Int)>40)) iiz iiz rfl rfl)) fQ)<|oc (yO (decide ((X.length:Int)>10)) iiz (fun e v W h=>zFf h e) (fun e v W h=>zDB (zT e h) e))<|oc zF<|zC) fun a w9 s=> ?_
  refine zA rfl ?_
  refine zZq ?_
  exact wG s (t:=2) rfl (fun v W h=>by rw [zSI hend hx.2.2];exact h)
theorem zIT {lo hi:V2}: [p].all (zH0 lo hi)=zH0 lo hi p:=by simp
theorem zIS {y:PX} {l:Wu} (hX0:(wD 1 (rrv (zDW X))).p l W/\RX.ok X W) (hy:(PX.u y).p u W) (_:PX.b y<=1048576) (hT:Tab W):Calls prog 4 #[l,u] W (Ret W (fB true).tS):=by
 obtain ⟨hl,hX⟩:=hX0
 obtain ⟨L,hLX⟩: ∃L,L=zDW X:=⟨_,rfl⟩
 rw [<-hLX] at hl
 refine z9 [(wB l).tS,(PX.u y).tS] func4 rfl kJ ⟨rfl,hy,trivial⟩ fun a s=> ?_
 replace s:=s.renew [(0,.u (wB l)),(1,.u (PX.u y))] (fmz ⟨.inr ⟨_,rfl,.head _⟩,fmz ⟨.inr ⟨_,rfl,mz1⟩,fnz⟩⟩)
 refine zZo ?_
 refine zB 0 [] hmix s kJ
  zC fun a w1 s=> ?_
 refine yK (PX.cu y) rfl s kJ (fun v W h=>yS h) fun b3 a w s=> ?_
 refine yR (uB false) rfl s kJ iiz fun a w s=> ?_
 refine zA rfl ?_
 refine zZo ?_
 refine zZo ?_
 refine zB 12 ((10,.Z (wB l))::(11,.Z (uB (g21 X)))::(12,.Z (uB (g21 X)))::(13,.s (SF.imp ((g21 X)=false) ((wB l).tS)))::(14,.s (SF.imp ((g21 X)=false) ((uI ((rrv L).length:Int)).tS)))::(15,.s (SF.imp ((g21 X)=false) ((uB (decide (((rrv L).length:Int)>6))).tS)))::(16,.Z (uB ((g21 X)||(decide (((rrv L).length:Int)>6)))))::(17,.Z (uB ((g21 X)||(decide (((rrv L).length:Int)>6)))))::(18,.s (SF.imp (((g21 X)||(decide (((rrv L).length:Int)>6)))=false) ((PX.u y).tS)))::(19,.s (SF.imp (((g21 X)||(decide (((rrv L).length:Int)>6)))=false) (wD 6 (pxs [y]))))::(20,.s (SF.imp (((g21 X)||(decide (((rrv L).length:Int)>6)))=false) ((uB (g8 [y])).tS)))::(21,.u (uB (((g21 X)||(decide (((rrv L).length:Int)>6)))||(g8 [y])))):: []) hmix s kJ
  (oc zE<|oc (zJ zD zWn (fun u0 W hb (h0:u0=l)=>zKJ (X:=X) (by rw [show rrv (zDW X)=rrv L by rw [hLX]];exact (yU hl h0 (s.up hb))) (hX.below (s.up hb))))<|oc zE<|oc (zG 12 (g21 X) kJ iiz (fun e=>z5 [] ((wB l).tS) fnz fS kJ zE) fQ)<|oc (zG 12 (g21 X) kJ iiz (fun e=>z5 [(13,(wB l).tS)] ((uI ((rrv L).length:Int)).tS) (fmz ⟨fun v W h=>zT (c:=(g21 X)=false) (f:=(wB l).tS) e h,fnz⟩) fS kJ (yV (z:=1) (Cs:=rrv L) kJ (fun v W hb h=>(yU hl h (s.up hb))) (fun _=>rfl))) fQ)<|oc (zG 12 (g21 X) kJ iiz (fun e=>z5 [(14,(uI ((rrv L).length:Int)).tS)] ((uB (decide (((rrv L).length:Int)>6))).tS) (fmz ⟨fun v W h=>zT (c:=(g21 X)=false) (f:=(uI ((rrv L).length:Int)).tS) e h,fnz⟩) fS kJ (zS .i64 ((rrv L).length:Int) 6 (decide (((rrv L).length:Int)>6)) iiz iiz rfl rfl)) fQ)<|oc (yO (g21 X) iiz (fun e v W h=>zFf h e) (fun e v W h=>zDB (zT e h) e))<|oc zE<|oc (zG 17 ((g21 X)||(decide (((rrv L).length:Int)>6))) kJ iiz (fun e=>z5 [] ((PX.u y).tS) fnz fS kJ (zK (f:=PX.u y) 6 kJ (hz:=zP _ _))) fQ)<|oc (zG 17 ((g21 X)||(decide (((rrv L).length:Int)>6))) kJ iiz (fun e=>z5 [(18,(PX.u y).tS)] (wD 6 (pxs [y])) (fmz ⟨fun v W h=>zT (c:=((g21 X)||(decide (((rrv L).length:Int)>6)))=false) (f:=(PX.u y).tS) e h,fnz⟩) fS kJ (jI (fun u W (hu:(PX.u y).p u W)=>zEn hu))) fQ)<|oc (zG 17 ((g21 X)||(decide (((rrv L).length:Int)>6))) kJ iiz (fun e=>z5 [(19,wD 6 (pxs [y]))] ((uB (g8 [y])).tS) (fmz ⟨fun v W h=>zT (c:=((g21 X)||(decide (((rrv L).length:Int)>6)))=false) (f:=wD 6 (pxs [y])) e h,fnz⟩) fS kJ (zJ zD zWO (fun u0 W hb (h0:(wD 6 (pxs [y])).p u0 W)=>zHw (L:= [y]) h0))) fQ)<|oc (yO ((g21 X)||(decide (((rrv L).length:Int)>6))) iiz (fun e v W h=>zFf h e) (fun e v W h=>zDB (zT e h) e))<|zC) fun a w2 s=> ?_
 refine zA rfl ?_
 refine StS.cond s (((g21 X)||(decide (((rrv L).length:Int)>6)))||(g8 [y])) iiz (fun e=> ?_) (fun e=> ?_)
 ·refine zZo ?_
  replace s:=s.drop [4]
  refine zB 2 ((22,.Z (uB true))::(4,.u (uB true)):: []) hmix s kJ
   (oc (zBZ zD zU7 (fun W hb=>zF9 (hT.below (s.up hb))))<|oc zF<|zC) fun a w3 s=> ?_
  refine zA rfl ?_
  refine zZq ?_
  exact wG s (t:=4) rfl iiz
 ·simp only [zZ1] at e
  obtain ⟨⟨eG,_⟩,eY⟩:=e
  have hy6:=zT9 eY
  have hG:=zUd eG
  obtain ⟨hL,hP⟩:=zVs hX eG
  rw [<-hLX] at hL hP
  have hLl:L.length<=10:=by rw [hLX,zZC];exact hG.1
  have hnL:L.length<=1000000:=by omega
  have hnF:(zH L L.length).length<=1000000:=by have:=zJ2 hP L.length lr;omega
  have hbq:=zRb (zNh (hL.mono (m':=10) dC) dC L.length) dC
  have hqf:(QB (yY (zH L L.length)).1 12/\QB (yY (zH L L.length)).2 12)/\(QB (yZ (zH L L.length)).1 12/\QB (yZ (zH L L.length)).2 12):=⟨(zB3 hbq.1 dC).2,(zB3 hbq.2 dC).1⟩
  have hqy:QB y.p.1 12/\QB y.p.2 12:=zCD dC (zDd (m':=12) dC (zMk hy6 hy))
  have hqc:QB (y8 (yY (zH L L.length)) (yZ (zH L L.length)) y.p).1 12/\QB (y8 (yY (zH L L.length)) (yZ (zH L L.length)) y.p).2 12:=⟨zEQ hqf.1.1 hqf.2.1 hqy.1,zEQ hqf.1.2 hqf.2.2 hqy.2⟩
  have hqcc:QB (y8 (yY (zH L L.length)) (yZ (zH L L.length)) (y8 (yY (zH L L.length)) (yZ (zH L L.length)) y.p)).1 12/\QB (y8 (yY (zH L L.length)) (yZ (zH L L.length)) (y8 (yY (zH L L.length)) (yZ (zH L L.length)) y.p)).2 12:=⟨zEQ hqf.1.1 hqf.2.1 hqc.1,zEQ hqf.1.2 hqf.2.2 hqc.2⟩
  refine zZp ?_
  refine zZo ?_
  refine zB 2 ((23,.Z (wB l))::(24,.u (fPR (fPV 12 (yY (zH L L.length))) (fPV 12 (yZ (zH L L.length))))):: []) hmix s kJ
   (oc zE<|oc (zJ zD zUA (fun u0 W hb (h0:u0=l)=>zJX (m:=10) (yU hl h0 (s.up hb)) ((hL.mono dC).below (s.up hb)) dC dC hnF hnL (hT.below (s.up hb))))<|zC) fun a w4 s=> ?_
  refine zZ (CU.len 12) (cs:= [.bool false, sN, sN,.bool false, sN, sN,.bool false, sN, sN,.bool false, sN, sN]) kJ rfl s kJ (fun W=>rfl) rfl fun b5 a w s=> ?_
  refine zQ (wC (fPR (fPV 12 (yY (zH L L.length))) (fPV 12 (yZ (zH L L.length))))) ((fPR (fPV 12 (yY (zH L L.length))) (fPV 12 (yZ (zH L L.length)))).tS) rfl s kJ rfl rfl rfl iiz iiz zBo fun a w s=> ?_
  refine zA rfl ?_
  refine zZo ?_
  refine zB 1 ((25,.u (fPV 12 (((1:Int):Rat),((1:Int):Rat)))):: []) hmix s kJ
   (oc (zI zD zEw (fun u0 u1 W hb (h0:u0= .int .i64 1) (h1:u1= .int .i64 1)=>(zCo h0 h1 dC dC).mono (wH (fun v W h=>zAo (p:=(((1:Int):Rat),((1:Int):Rat))) (m:=12) (zJF dC) (zJF dC) h))))<|zC) fun a w5 s=> ?_
  refine zZ (CU.len 6) (cs:=zP6) kJ rfl s kJ (fun W=>rfl) rfl fun b6 a w s=> ?_
  refine zQ (wC (fPV 12 (((1:Int):Rat),((1:Int):Rat)))) ((fPV 12 (((1:Int):Rat),((1:Int):Rat))).tS) rfl s kJ rfl rfl rfl iiz iiz yT fun a w s=> ?_
  refine zA rfl ?_
  refine zZo ?_
  have so:=s.old;have sg:=s.gr
  refine zBl (fun i=> [].contains i) [⟨9,7,47, [.bool false, sN, sN,.bool false, sN, sN,.bool false, sN, sN,.bool false, sN, sN],wJ w 47 (CU.len 12)⟩] 10 ((26,.X (fPR (fPV 12 (yY (zH L L.length))) (fPV 12 (yZ (zH L L.length)))) 0)::(27,.Z (fPV 12 (yY (zH L L.length))))::(28,.Z (fPV 12 (((1:Int):Rat),((1:Int):Rat))))::(29,.Z (fPV 14 ((yY (zH L L.length)).1+((1:Int):Rat),(yY (zH L L.length)).2+((1:Int):Rat))))::(30,.X (fPR (fPV 12 (yY (zH L L.length))) (fPV 12 (yZ (zH L L.length)))) 6)::(31,.Z (fPV 12 (yZ (zH L L.length))))::(32,.Z (fPV 12 (((1:Int):Rat),((1:Int):Rat))))::(33,.Z (fPV 14 ((yZ (zH L L.length)).1 - ((1:Int):Rat),(yZ (zH L L.length)).2 - ((1:Int):Rat))))::(34,.u (fPR (fPV 14 ((yY (zH L L.length)).1+((1:Int):Rat),(yY (zH L L.length)).2+((1:Int):Rat))) (fPV 14 ((yZ (zH L L.length)).1 - ((1:Int):Rat),(yZ (zH L L.length)).2 - ((1:Int):Rat)))))::(7,.s (wJ w 47 (CU.len 12))):: []) hmix s (fmz ⟨⟨by show 9<10;decide,mz9,⟨_,_,_,rfl⟩,by kernel_rfl,zBt (fun _=>rfl) rfl⟩,fnz⟩) kJ
   (oc (zL (C:=cg (fPR (fPV 12 (yY (zH L L.length))) (fPV 12 (yZ (zH L L.length))))) 0 kJ)<|oc (zR (C:=cg (fPR (fPV 12 (yY (zH L L.length))) (fPV 12 (yZ (zH L L.length))))) (k:=0) 6 kJ (h:=zC8))<|oc (zK (f:=fPV 12 (((1:Int):Rat),((1:Int):Rat))) 6 kJ (hz:=zP _ _))<|oc (zI zD zUz (fun u0 u1 W hb (h0:(fPV 12 (yY (zH L L.length))).p u0 W) (h1:(fPV 12 (((1:Int):Rat),((1:Int):Rat))).p u1 W)=>(zL2 (m:=12) (p:=(yY (zH L L.length))) (q:=(((1:Int):Rat),((1:Int):Rat))) h0 h1 (zCD dC h0) (zCD dC h1) dC).mono (wH (fun v W h=>zAo (p:=((yY (zH L L.length)).1+((1:Int):Rat),(yY (zH L L.length)).2+((1:Int):Rat))) (m:=14) (zB3 hqf.1 dC).1.1 (zB3 hqf.1 dC).1.2 h))))<|oc (zL (C:=cg (fPR (fPV 12 (yY (zH L L.length))) (fPV 12 (yZ (zH L L.length))))) 6 kJ)<|oc (zR (C:=cg (fPR (fPV 12 (yY (zH L L.length))) (fPV 12 (yZ (zH L L.length))))) (k:=6) 6 kJ (h:=zDA))<|oc (zK (f:=fPV 12 (((1:Int):Rat),((1:Int):Rat))) 6 kJ (hz:=zP _ _))<|oc (zI zD zFu (fun u0 u1 W hb (h0:(fPV 12 (yZ (zH L L.length))).p u0 W) (h1:(fPV 12 (((1:Int):Rat),((1:Int):Rat))).p u1 W)=>(zBL (m:=12) (p:=(yZ (zH L L.length))) (q:=(((1:Int):Rat),((1:Int):Rat))) h0 h1 dC dC).mono (wH (fun v W h=>zAo (p:=((yZ (zH L L.length)).1 - ((1:Int):Rat),(yZ (zH L L.length)).2 - ((1:Int):Rat))) (m:=14) (zB3 hqf.2 dC).2.1 (zB3 hqf.2 dC).2.2 h))))<|oc (y4 (fun u v W (hu:(fPV 14 ((yY (zH L L.length)).1+((1:Int):Rat),(yY (zH L L.length)).2+((1:Int):Rat))).p u W) (hv:(fPV 14 ((yZ (zH L L.length)).1 - ((1:Int):Rat),(yZ (zH L L.length)).2 - ((1:Int):Rat))).p v W)=>zVa hu hv))<|oc (zCi (cs:= [.bool false, sN, sN,.bool false, sN, sN,.bool false, sN, sN,.bool false, sN, sN]) kJ (zBt (fun _=>rfl) rfl))<|zC) fun Q' hQ a w6 s hr hd=> ?_
  obtain ⟨b7,hB7,e7,s⟩:=s.adoptA false 7 (hr (_,_) mz9) sg (fun y hy=> .inl (so y hy))
  refine zQ (wC (fPR (fPV 14 ((yY (zH L L.length)).1+((1:Int):Rat),(yY (zH L L.length)).2+((1:Int):Rat))) (fPV 14 ((yZ (zH L L.length)).1 - ((1:Int):Rat),(yZ (zH L L.length)).2 - ((1:Int):Rat))))) ((fPR (fPV 14 ((yY (zH L L.length)).1+((1:Int):Rat),(yY (zH L L.length)).2+((1:Int):Rat))) (fPV 14 ((yZ (zH L L.length)).1 - ((1:Int):Rat),(yZ (zH L L.length)).2 - ((1:Int):Rat)))).tS) rfl s kJ rfl rfl rfl iiz iiz zBo fun a w s=> ?_
  refine zA rfl (hQ _ _ ?_)
  refine zZo ?_
  refine zZo ?_
  refine zB 1 ((8,.u (uI 0)):: []) hmix s kJ
   (oc zF<|zC) fun a w7 s=> ?_
  refine zA rfl ?_
  refine zZy ?_
  refine zAF (fun i=>i<=L.length/\ ∀j,j<i->(rat L j).2= []∨Conv (rat L j).2) (fun i=> [(0,.u (wB l)),(8,.u (uI ((i:Nat):Int)))]) (fun i=>L.length - i) (0:Nat) (⟨zZI _,fun j hj=>absurd hj (zZW _)⟩) (s.keepK _ (fmz ⟨mz6,fmz ⟨.head _,fnz⟩⟩)) fun i a w hx s=> ?_
  have hlz:(rrv L).length=L.length:=by simp
  refine zZo ?_
  refine zZo ?_
  refine zB 4 ((35,.Z (uI (i:Int)))::(36,.Z (wB l))::(37,.Z (uI ((rrv L).length:Int)))::(38,.u (uB (ltz i ((rrv L).length)))):: []) hmix s kJ
   (oc zE<|oc zE<|oc (yV (z:=1) (Cs:=rrv L) kJ (fun v W hb h=>(yU hl h (s.up hb))) (fun _=>rfl))<|oc (zS .i64 (i:Int) ((rrv L).length:Int) (ltz i ((rrv L).length)) iiz iiz rfl rfl)<|zC) fun a w8 s=> ?_
  refine zA rfl ?_
  refine StS.cond s (ltz i ((rrv L).length)) iiz (fun e=> ?_) (fun e=> ?_)
  ·have hi:i<L.length:=by have h7:=zZx e;rw [hlz] at h7;omega
   have hP60:=hP _ (zAh hi)
   have hnP:(rat L i).2.length<=1000000:=by omega
   have hq6: ∀q,q∈(rat L i).2->QB q.1 6/\QB q.2 6:=zJz dC (hL _ (zAh hi))
   refine zZp ?_
   refine zZo ?_
   refine zZy ?_
   refine zZo ?_
   refine zZo ?_
   refine zB 14 ((41,.Z (wB l))::(42,.Z (uI (i:Int)))::(43,.s (wE (wF [(rat L i).1]).cf))::(44,.Z (wB ((rat L i).1)))::(45,.Z (uI ((pvs 6 (rat L i).2).length:Int)))::(46,.Z (uB (decide (((pvs 6 (rat L i).2).length:Int)>0))))::(47,.Z (uB (decide (((pvs 6 (rat L i).2).length:Int)>0))))::(48,.s (SF.imp ((decide (((pvs 6 (rat L i).2).length:Int)>0))=true) ((wB l).tS)))::(49,.s (SF.imp ((decide (((pvs 6 (rat L i).2).length:Int)>0))=true) ((uI (i:Int)).tS)))::(50,.s (SF.imp ((decide (((pvs 6 (rat L i).2).length:Int)>0))=true) (wE (wF [(rat L i).1]).cf)))::(51,.s (SF.imp ((decide (((pvs 6 (rat L i).2).length:Int)>0))=true) ((wB ((rat L i).1)).tS)))::(52,.s (SF.imp ((decide (((pvs 6 (rat L i).2).length:Int)>0))=true) ((uB (zC3 (rat L i).2)).tS)))::(53,.s (SF.imp ((decide (((pvs 6 (rat L i).2).length:Int)>0))=true) ((uB (!(zC3 (rat L i).2))).tS)))::(54,.u (uB ((decide (((pvs 6 (rat L i).2).length:Int)>0))&&(!(zC3 (rat L i).2))))):: []) hmix s kJ
    (oc zE<|oc zE<|oc (yH (z:=1) (Cs:=rrv L) (i:=i) (C:=wF [(rat L i).1]) kJ (zCx hi) (fun v W hb h=>(yU hl h (s.up hb))) iiz)<|oc (jB (C:=(wF [(rat L i).1]).cf) kJ iiz zBO)<|oc (yV (z:=6) (Cs:=pvs 6 (rat L i).2) kJ (fun v W hb h=>(by rw [show _=(rat L i).1 from h];exact (wD 6 (pvs 6 (rat L i).2)).st _ _ _ (hL _ (zAh hi)) (s.up hb))) (fun _=>rfl))<|oc (zS .i64 ((pvs 6 (rat L i).2).length:Int) 0 (decide (((pvs 6 (rat L i).2).length:Int)>0)) iiz iiz rfl rfl)<|oc zE<|oc (zG 47 (decide (((pvs 6 (rat L i).2).length:Int)>0)) kJ iiz (fun e=>z5 [] ((wB l).tS) fnz fS kJ zE) fQ)<|oc (zG 47 (decide (((pvs 6 (rat L i).2).length:Int)>0)) kJ iiz (fun e=>z5 [] ((uI (i:Int)).tS) fnz fS kJ zE) fQ)<|oc (zG 47 (decide (((pvs 6 (rat L i).2).length:Int)>0)) kJ iiz (fun e=>z5 [(48,(wB l).tS),(49,(uI (i:Int)).tS)] (wE (wF [(rat L i).1]).cf) (fmz ⟨fun v W h=>zT (c:=(decide (((pvs 6 (rat L i).2).length:Int)>0))=true) (f:=(wB l).tS) e h,fmz ⟨fun v W h=>zT (c:=(decide (((pvs 6 (rat L i).2).length:Int)>0))=true) (f:=(uI (i:Int)).tS) e h,fnz⟩⟩) fS kJ (yH (z:=1) (Cs:=rrv L) (i:=i) (C:=wF [(rat L i).1]) kJ (zCx hi) (fun v W hb h=>(yU hl h (s.up hb))) iiz)) fQ)<|oc (zG 47 (decide (((pvs 6 (rat L i).2).length:Int)>0)) kJ iiz (fun e=>z5 [(50,wE (wF [(rat L i).1]).cf)] ((wB ((rat L i).1)).tS) (fmz ⟨fun v W h=>zT (c:=(decide (((pvs 6 (rat L i).2).length:Int)>0))=true) (f:=wE (wF [(rat L i).1]).cf) e h,fnz⟩) fS kJ (jB (C:=(wF [(rat L i).1]).cf) kJ iiz zBO)) fQ)<|oc (zG 47 (decide (((pvs 6 (rat L i).2).length:Int)>0)) kJ iiz (fun e=>z5 [(51,(wB ((rat L i).1)).tS)] ((uB (zC3 (rat L i).2)).tS) (fmz ⟨fun v W h=>zT (c:=(decide (((pvs 6 (rat L i).2).length:Int)>0))=true) (f:=(wB ((rat L i).1)).tS) e h,fnz⟩) fS kJ (zJ zD zXe (fun u0 W hb (h0:u0=(rat L i).1)=>zMc (ps:=(rat L i).2) (zED (m:=6) dC _ _ (by rw [show _=(rat L i).1 from h0];exact (wD 6 (pvs 6 (rat L i).2)).st _ _ _ (hL _ (zAh hi)) (s.up hb))) hnP (fun a b ha hb _=>zVz hq6 ha hb)))) fQ)<|oc (zG 47 (decide (((pvs 6 (rat L i).2).length:Int)>0)) kJ iiz (fun e=>z5 [(52,(uB (zC3 (rat L i).2)).tS)] ((uB (!(zC3 (rat L i).2))).tS) (fmz ⟨fun v W h=>zT (c:=(decide (((pvs 6 (rat L i).2).length:Int)>0))=true) (f:=(uB (zC3 (rat L i).2)).tS) e h,fnz⟩) fS kJ (zBz (zC3 (rat L i).2) iiz (fun _=>rfl))) fQ)<|oc (yO (decide (((pvs 6 (rat L i).2).length:Int)>0)) iiz (fun e v W h=>zAP (zT e h) e) (fun e v W h=>zAe h e))<|zC) fun a w9 s=> ?_
   refine zA rfl ?_
   refine StS.cond s ((decide (((pvs 6 (rat L i).2).length:Int)>0))&&(!(zC3 (rat L i).2))) iiz (fun e=> ?_) (fun e=> ?_)
   ·refine zZo ?_
    refine zB 2 ((55,.Z (uB true))::(4,.u (uB true)):: []) hmix s kJ
     (oc (zBZ zD zU7 (fun W hb=>zF9 (hT.below (s.up hb))))<|oc zF<|zC) fun a w10 s=> ?_
    refine zA rfl ?_
    refine zZq ?_
    exact wG s (t:=4) rfl iiz
   ·have hcv:(rat L i).2= []∨Conv (rat L i).2:=by
     rw [zZZ] at e
     rcases e with e|e
     ·left;have h7:=zZu e;simp only [zZC] at h7;exact zZ7 oQ
     ·right;exact zK8 (by simpa using e)
    refine zZp ?_
    refine zZo ?_
    refine zB 16 ((56,.Z (fPR (fPV 14 ((yY (zH L L.length)).1+((1:Int):Rat),(yY (zH L L.length)).2+((1:Int):Rat))) (fPV 14 ((yZ (zH L L.length)).1 - ((1:Int):Rat),(yZ (zH L L.length)).2 - ((1:Int):Rat)))))::(57,.Z (wB l))::(58,.Z (uI (i:Int)))::(59,.s (wE (wF [(rat L i).1]).cf))::(60,.Z (wB ((rat L i).1)))::(61,.Z (uB true))::(62,.Z (uB false))::(63,.Z (uB false))::(64,.Z (fPR (fPV 12 (yY (zH L L.length))) (fPV 12 (yZ (zH L L.length)))))::(65,.Z (wB l))::(66,.Z (uI (i:Int)))::(67,.s (wE (wF [(rat L i).1]).cf))::(68,.Z (wB ((rat L i).1)))::(69,.Z (uB true))::(70,.Z (uB false))::(71,.u (uB false)):: []) hmix s kJ
     (oc (zK (f:=fPR (fPV 14 ((yY (zH L L.length)).1+((1:Int):Rat),(yY (zH L L.length)).2+((1:Int):Rat))) (fPV 14 ((yZ (zH L L.length)).1 - ((1:Int):Rat),(yZ (zH L L.length)).2 - ((1:Int):Rat)))) 12 kJ (hz:=zBd))<|oc zE<|oc zE<|oc (yH (z:=1) (Cs:=rrv L) (i:=i) (C:=wF [(rat L i).1]) kJ (zCx hi) (fun v W hb h=>(yU hl h (s.up hb))) iiz)<|oc (jB (C:=(wF [(rat L i).1]).cf) kJ iiz zBO)<|oc (zI zD zK2 (fun u0 u1 W hb (h0:(fPR (fPV 14 ((yY (zH L L.length)).1+((1:Int):Rat),(yY (zH L L.length)).2+((1:Int):Rat))) (fPV 14 ((yZ (zH L L.length)).1 - ((1:Int):Rat),(yZ (zH L L.length)).2 - ((1:Int):Rat)))).p u0 W) (h1:u1=(rat L i).1)=>(zFX (m:=14) (ps:=(rat L i).2) h0 (zED (m:=6) dC _ _ (by rw [show _=(rat L i).1 from h1];exact (wD 6 (pvs 6 (rat L i).2)).st _ _ _ (hL _ (zAh hi)) (s.up hb))) dC dC hnP (hT.below (s.up hb))).mono (wH (fun v W h=>by rw [zT8 (fun p hp=>zGR hi hp)] at h;exact h))))<|oc (zBz true iiz (fun _=>rfl))<|oc zE<|oc (zG 63 false kJ iiz (fun _=>zK (f:=fPR (fPV 12 (yY (zH L L.length))) (fPV 12 (yZ (zH L L.length)))) 12 kJ (hz:=zBd)) arf)<|oc (zG 63 false kJ iiz (fun _=>zE) arf)<|oc (zG 63 false kJ iiz (fun _=>zE) arf)<|oc (zG 63 false kJ iiz (fun _=>yH (z:=1) (Cs:=rrv L) (i:=i) (C:=wF [(rat L i).1]) kJ (zCx hi) (fun v W hb h=>(yU hl h (s.up hb))) iiz) arf)<|oc (zG 63 false kJ iiz (fun _=>jB (C:=(wF [(rat L i).1]).cf) kJ iiz zBO) arf)<|oc (zG 63 false kJ iiz (fun _=>zI zD zK2 (fun u0 u1 W hb (h0:(fPR (fPV 12 (yY (zH L L.length))) (fPV 12 (yZ (zH L L.length)))).p u0 W) (h1:u1=(rat L i).1)=>(zFX (m:=12) (ps:=(rat L i).2) h0 (zED (m:=6) dC _ _ (by rw [show _=(rat L i).1 from h1];exact (wD 6 (pvs 6 (rat L i).2)).st _ _ _ (hL _ (zAh hi)) (s.up hb))) dC dC hnP (hT.below (s.up hb))).mono (wH (fun v W h=>by rw [zUg (fun p hp=>zGR hi hp)] at h;exact h)))) arf)<|oc (zG 63 false kJ iiz (fun _=>zBz true iiz (fun _=>rfl)) arf)<|oc (yO false iiz (fun e=>by cases e) fR)<|zC) fun a w11 s=> ?_
    refine zA rfl ?_
    refine StS.cond s false iiz (fun e=>by cases e) (fun e=> ?_)
    refine zZp ?_
    refine zX 2 ((39,.Z (uI (i:Int)))::(40,.u (uI ((i+1:Nat):Int))):: []) s kJ
     (oc zE<|oc (yN .i64 (i:Int) 1 ((i+1:Nat):Int) iiz iiz (wrap64 _ _ oQ oQ))<|zC) fun a w12 s=> ?_
    replace s:=s.drop [8]
    refine yR (uI ((i+1:Nat):Int)) rfl s kJ iiz fun a w s=> ?_
    refine zA rfl ?_
    exact ⟨i+1,⟨hi,fun j hj=>by rcases zZH (zZJ hj) with h|h;exact hx.2 j h;rw [h];exact hcv⟩,(by show L.length - (i+1)<L.length - i;omega),s.keepK _ (fmz ⟨mz5,fmz ⟨.head _,fnz⟩⟩)⟩
  ·have hC: ∀j,j<L.length->(rat L j).2= []∨Conv (rat L j).2:=fun j hj=>hx.2 j (by have h7:=zZu e;rw [hlz] at h7;omega)
   refine zZO ?_
   refine zZo ?_
   refine zB 3 ((72,.Z (fPR (fPV 12 (yY (zH L L.length))) (fPV 12 (yZ (zH L L.length)))))::(73,.Z (fPV 12 (y.p)))::(74,.u (fPV 12 (y8 (yY (zH L L.length)) (yZ (zH L L.length)) y.p))):: []) hmix s kJ
    (oc (zK (f:=fPR (fPV 12 (yY (zH L L.length))) (fPV 12 (yZ (zH L L.length)))) 12 kJ (hz:=zBd))<|oc (zBX (C:=(PX.cu y).cf) 6 kJ (fun _ _ h=>h.2) (zFT hy6))<|oc (zI zD zUy (fun u0 u1 W hb (h0:(fPR (fPV 12 (yY (zH L L.length))) (fPV 12 (yZ (zH L L.length)))).p u0 W) (h1:(fPV 12 (y.p)).p u1 W)=>(zJY (m:=12) (p:=y.p) h0 h1 dC dC (hT.below (s.up hb))).mono (wH (fun v W h=>zAo (m:=12) hqc.1 hqc.2 h))))<|zC) fun a w13 s=> ?_
   refine zZ (CU.len 6) (cs:=zP6) kJ rfl s kJ (fun W=>rfl) rfl fun b9 a w s=> ?_
   refine zQ (wC (fPV 12 (y8 (yY (zH L L.length)) (yZ (zH L L.length)) y.p))) ((fPV 12 (y8 (yY (zH L L.length)) (yZ (zH L L.length)) y.p)).tS) rfl s kJ rfl rfl rfl iiz iiz yT fun a w s=> ?_
   refine zA rfl ?_
   refine zZo ?_
   refine zZo ?_
   refine zB 23 ((75,.Z (fPR (fPV 12 (yY (zH L L.length))) (fPV 12 (yZ (zH L L.length)))))::(76,.Z (fPV 12 (y8 (yY (zH L L.length)) (yZ (zH L L.length)) y.p)))::(77,.s (wD 6 (pvs 12 [(y8 (yY (zH L L.length)) (yZ (zH L L.length)) y.p)])))::(78,.Z (uB true))::(79,.Z (uB false))::(80,.Z (uB false))::(81,.Z (fPR (fPV 12 (yY (zH L L.length))) (fPV 12 (yZ (zH L L.length)))))::(82,.Z (fPV 12 (y.p)))::(83,.s (wD 6 (pvs 12 [y.p])))::(84,.Z (uB (zH0 (yY (zH L L.length)) (yZ (zH L L.length)) y.p)))::(85,.Z (fPV 12 (y8 (yY (zH L L.length)) (yZ (zH L L.length)) y.p)))::(86,.Z (fPV 12 (y.p)))::(87,.Z (uB (q8 (y8 (yY (zH L L.length)) (yZ (zH L L.length)) y.p) y.p==0)))::(88,.Z (uB false))::(89,.Z (uB false))::(90,.Z (uB false))::(91,.Z (fPR (fPV 12 (yY (zH L L.length))) (fPV 12 (yZ (zH L L.length)))))::(92,.Z (fPV 12 (y8 (yY (zH L L.length)) (yZ (zH L L.length)) y.p)))::(93,.Z (fPV 12 (y8 (yY (zH L L.length)) (yZ (zH L L.length)) (y8 (yY (zH L L.length)) (yZ (zH L L.length)) y.p))))::(94,.Z (fPV 12 (y8 (yY (zH L L.length)) (yZ (zH L L.length)) y.p)))::(95,.Z (uB true))::(96,.Z (uB false))::(97,.u (uB false)):: []) hmix s kJ
    (oc (zK (f:=fPR (fPV 12 (yY (zH L L.length))) (fPV 12 (yZ (zH L L.length)))) 12 kJ (hz:=zBd))<|oc (zK (f:=fPV 12 (y8 (yY (zH L L.length)) (yZ (zH L L.length)) y.p)) 6 kJ (hz:=zP _ _))<|oc (jI (fun u W (hu:(fPV 12 (y8 (yY (zH L L.length)) (yZ (zH L L.length)) y.p)).p u W)=>zEn hu))<|oc (zI zD zK2 (fun u0 u1 W hb (h0:(fPR (fPV 12 (yY (zH L L.length))) (fPV 12 (yZ (zH L L.length)))).p u0 W) (h1:(wD 6 (pvs 12 [(y8 (yY (zH L L.length)) (yZ (zH L L.length)) y.p)])).p u1 W)=>(zFX (m:=12) (ps:= [(y8 (yY (zH L L.length)) (yZ (zH L L.length)) y.p)]) h0 h1 dC dC (by simp) (hT.below (s.up hb))).mono (wH (fun v W h=>by rw [zQ9] at h;exact h))))<|oc (zBz true iiz (fun _=>rfl))<|oc zE<|oc (zG 80 false kJ iiz (fun _=>zK (f:=fPR (fPV 12 (yY (zH L L.length))) (fPV 12 (yZ (zH L L.length)))) 12 kJ (hz:=zBd)) arf)<|oc (zG 80 false kJ iiz (fun _=>zBX (C:=(PX.cu y).cf) 6 kJ (fun _ _ h=>h.2) (zFT hy6)) arf)<|oc (zG 80 false kJ iiz (fun _=>jI (fun u W (hu:(fPV 12 (y.p)).p u W)=>zEn hu)) arf)<|oc (zG 80 false kJ iiz (fun _=>zI zD zK2 (fun u0 u1 W hb (h0:(fPR (fPV 12 (yY (zH L L.length))) (fPV 12 (yZ (zH L L.length)))).p u0 W) (h1:(wD 6 (pvs 12 [y.p])).p u1 W)=>(zFX (m:=12) (ps:= [y.p]) h0 h1 dC dC (by simp) (hT.below (s.up hb))).mono (wH (fun v W h=>by rw [zIT] at h;exact h)))) arf)<|oc (zG 80 false kJ iiz (fun _=>zK (f:=fPV 12 (y8 (yY (zH L L.length)) (yZ (zH L L.length)) y.p)) 6 kJ (hz:=zP _ _)) arf)<|oc (zG 80 false kJ iiz (fun _=>zBX (C:=(PX.cu y).cf) 6 kJ (fun _ _ h=>h.2) (zFT hy6)) arf)<|oc (zG 80 false kJ iiz (fun _=>zI zD zH3 (fun u0 u1 W hb (h0:(fPV 12 (y8 (yY (zH L L.length)) (yZ (zH L L.length)) y.p)).p u0 W) (h1:(fPV 12 (y.p)).p u1 W)=>zBU (m:=12) (p:=(y8 (yY (zH L L.length)) (yZ (zH L L.length)) y.p)) (q:=y.p) h0 h1 dC dC)) arf)<|oc (zG 80 false kJ iiz (fun _=>zSl (zH0 (yY (zH L L.length)) (yZ (zH L L.length)) y.p) (q8 (y8 (yY (zH L L.length)) (yZ (zH L L.length)) y.p) y.p==0) false kJ iiz iiz (by rw [zNE];exact bne_self_eq_false _) rfl) arf)<|oc (yO false iiz (fun e=>by cases e) fR)<|oc zE<|oc (zG 90 false kJ iiz (fun _=>zK (f:=fPR (fPV 12 (yY (zH L L.length))) (fPV 12 (yZ (zH L L.length)))) 12 kJ (hz:=zBd)) arf)<|oc (zG 90 false kJ iiz (fun _=>zK (f:=fPV 12 (y8 (yY (zH L L.length)) (yZ (zH L L.length)) y.p)) 6 kJ (hz:=zP _ _)) arf)<|oc (zG 90 false kJ iiz (fun _=>zI zD zUy (fun u0 u1 W hb (h0:(fPR (fPV 12 (yY (zH L L.length))) (fPV 12 (yZ (zH L L.length)))).p u0 W) (h1:(fPV 12 (y8 (yY (zH L L.length)) (yZ (zH L L.length)) y.p)).p u1 W)=>(zJY (m:=12) (p:=(y8 (yY (zH L L.length)) (yZ (zH L L.length)) y.p)) h0 h1 dC dC (hT.below (s.up hb))).mono (wH (fun v W h=>zAo (m:=12) hqcc.1 hqcc.2 h)))) arf)<|oc (zG 90 false kJ iiz (fun _=>zK (f:=fPV 12 (y8 (yY (zH L L.length)) (yZ (zH L L.length)) y.p)) 6 kJ (hz:=zP _ _)) arf)<|oc (zG 90 false kJ iiz (fun _=>zI zD zH3 (fun u0 u1 W hb (h0:(fPV 12 (y8 (yY (zH L L.length)) (yZ (zH L L.length)) (y8 (yY (zH L L.length)) (yZ (zH L L.length)) y.p))).p u0 W) (h1:(fPV 12 (y8 (yY (zH L L.length)) (yZ (zH L L.length)) y.p)).p u1 W)=>(zBU (m:=12) (p:=(y8 (yY (zH L L.length)) (yZ (zH L L.length)) (y8 (yY (zH L L.length)) (yZ (zH L L.length)) y.p))) (q:=(y8 (yY (zH L L.length)) (yZ (zH L L.length)) y.p)) h0 h1 dC dC).mono (wH (fun v W h=>by rw [zPV] at h;exact h)))) arf)<|oc (zG 90 false kJ iiz (fun _=>zBz true iiz (fun _=>rfl)) arf)<|oc (yO false iiz (fun e=>by cases e) fR)<|zC) fun a w14 s=> ?_
   refine zA rfl ?_
   refine StS.cond s false iiz (fun e=>by cases e) (fun e=> ?_)
   refine zZp ?_
   refine zZo ?_
   refine zZo ?_
   rcases Bool.eq_false_or_eq_true (zH0 (yY (zH L L.length)) (yZ (zH L L.length)) y.p) with hH|hH
   ·refine zB 6 ((98,.Z (fPR (fPV 12 (yY (zH L L.length))) (fPV 12 (yZ (zH L L.length)))))::(99,.Z (fPV 12 (y.p)))::(100,.s (wD 6 (pvs 12 [y.p])))::(101,.Z (uB true))::(102,.Z (uB false))::(103,.u (uB false)):: []) hmix s kJ
     (oc (zK (f:=fPR (fPV 12 (yY (zH L L.length))) (fPV 12 (yZ (zH L L.length)))) 12 kJ (hz:=zBd))<|oc (zBX (C:=(PX.cu y).cf) 6 kJ (fun _ _ h=>h.2) (zFT hy6))<|oc (jI (fun u W (hu:(fPV 12 (y.p)).p u W)=>zEn hu))<|oc (zI zD zK2 (fun u0 u1 W hb (h0:(fPR (fPV 12 (yY (zH L L.length))) (fPV 12 (yZ (zH L L.length)))).p u0 W) (h1:(wD 6 (pvs 12 [y.p])).p u1 W)=>(zFX (m:=12) (ps:= [y.p]) h0 h1 dC dC (by simp) (hT.below (s.up hb))).mono (wH (fun v W h=>by rw [zIT,hH] at h;exact h))))<|oc (zBz true iiz (fun _=>rfl))<|oc zE<|zC) fun a w15 s=> ?_
    refine jY (.bool false) rfl rfl s iiz kJ kJ (fun a w s=> ?_)
    refine jY (.bool false) rfl rfl s iiz kJ kJ (fun a w s=> ?_)
    refine jY (.bool false) rfl rfl s iiz kJ kJ (fun a w s=> ?_)
    refine jY (.bool false) rfl rfl s iiz kJ kJ (fun a w s=> ?_)
    refine jY (.bool false) rfl rfl s iiz kJ kJ (fun a w s=> ?_)
    refine jY (.bool false) rfl rfl s iiz kJ kJ (fun a w s=> ?_)
    refine jY undef rfl rfl s iiz kJ kJ (fun a w s=> ?_)
    refine jY undef rfl rfl s iiz kJ kJ (fun a w s=> ?_)
    refine jY undef rfl rfl s iiz kJ kJ (fun a w s=> ?_)
    refine jY undef rfl rfl s iiz kJ kJ (fun a w s=> ?_)
    refine jY undef rfl rfl s iiz kJ kJ (fun a w s=> ?_)
    refine jY (.bool false) rfl rfl s iiz kJ kJ (fun a w s=> ?_)
    refine zAN (uB false) rfl s kJ (yO false iiz (fun e=>by cases e) fR) kJ fun a w s=> ?_
    refine zA rfl ?_
    refine StS.cond s false iiz (fun e=>by cases e) (fun e=> ?_)
    refine zZp ?_
    refine zZo ?_
    refine zB 18 ((117,.Z (wB l))::(118,.X (fPR (fPV 12 (yY (zH L L.length))) (fPV 12 (yZ (zH L L.length)))) 0)::(119,.Z (fPV 12 (yY (zH L L.length))))::(120,.Z (fSl 0))::(121,.Z (uI ((0:Nat):Int)))::(122,.Z (uB true))::(123,.Z (uB true))::(124,.Z (wB l))::(125,.X (fPR (fPV 12 (yY (zH L L.length))) (fPV 12 (yZ (zH L L.length)))) 6)::(126,.Z (fPV 12 (yZ (zH L L.length))))::(127,.Z (fSl 0))::(128,.Z (uI ((0:Nat):Int)))::(129,.Z (uB true))::(130,.Z (uB true))::(131,.Z (uB true))::(132,.Z (uB true))::(133,.Z (uB true))::(4,.u (uB true)):: []) hmix s kJ
     (oc zE<|oc (zL (C:=cg (fPR (fPV 12 (yY (zH L L.length))) (fPV 12 (yZ (zH L L.length))))) 0 kJ)<|oc (zR (C:=cg (fPR (fPV 12 (yY (zH L L.length))) (fPV 12 (yZ (zH L L.length))))) (k:=0) 6 kJ (h:=zC8))<|oc (zI zD zK3 (fun u0 u1 W hb (h0:u0=l) (h1:(fPV 12 (yY (zH L L.length))).p u1 W)=>(zCY (m:=12) (p:=(yY (zH L L.length))) (yU hl h0 (s.up hb)) ((hL.mono dC).below (s.up hb)) h1 dC dC (fun x hx=>zZS (hP x hx) dC) hnL (hT.below (s.up hb))).mono (wH (fun v W h=>by have h9:=zD4 (zAw _ _ h);rwa [zKu hC (zIb _)] at h9))))<|oc (zBY kJ (fun v W ⟨A_,c_,e_⟩=>⟨A_,0,c_,e_,rfl⟩))<|oc (zS .i64 ((0:Nat):Int) 0 true iiz iiz rfl rfl)<|oc zE<|oc (zG 123 true kJ iiz (fun _=>zE) arf)<|oc (zG 123 true kJ iiz (fun _=>zL (C:=cg (fPR (fPV 12 (yY (zH L L.length))) (fPV 12 (yZ (zH L L.length))))) 6 kJ) arf)<|oc (zG 123 true kJ iiz (fun _=>zR (C:=cg (fPR (fPV 12 (yY (zH L L.length))) (fPV 12 (yZ (zH L L.length))))) (k:=6) 6 kJ (h:=zDA)) arf)<|oc (zG 123 true kJ iiz (fun _=>zI zD zK3 (fun u0 u1 W hb (h0:u0=l) (h1:(fPV 12 (yZ (zH L L.length))).p u1 W)=>(zCY (m:=12) (p:=(yZ (zH L L.length))) (yU hl h0 (s.up hb)) ((hL.mono dC).below (s.up hb)) h1 dC dC (fun x hx=>zZS (hP x hx) dC) hnL (hT.below (s.up hb))).mono (wH (fun v W h=>by have h9:=zD4 (zAw _ _ h);rwa [zKu hC (zIc _)] at h9)))) arf)<|oc (zG 123 true kJ iiz (fun _=>zBY kJ (fun v W ⟨A_,c_,e_⟩=>⟨A_,0,c_,e_,rfl⟩)) arf)<|oc (zG 123 true kJ iiz (fun _=>zS .i64 ((0:Nat):Int) 0 true iiz iiz rfl rfl) arf)<|oc (yO true iiz fR (fun e=>by cases e))<|oc zE<|oc (zG 131 true kJ iiz (fun _=>zBZ zD zU7 (fun W hb=>zF9 (hT.below (s.up hb)))) arf)<|oc (yO true iiz fR (fun e=>by cases e))<|oc zF<|zC) fun a w16 s=> ?_
    refine zA rfl ?_
    refine zZq ?_
    exact wG s (t:=4) rfl iiz
   ·refine zB 6 ((98,.Z (fPR (fPV 12 (yY (zH L L.length))) (fPV 12 (yZ (zH L L.length)))))::(99,.Z (fPV 12 (y.p)))::(100,.s (wD 6 (pvs 12 [y.p])))::(101,.Z (uB false))::(102,.Z (uB true))::(103,.u (uB true)):: []) hmix s kJ
     (oc (zK (f:=fPR (fPV 12 (yY (zH L L.length))) (fPV 12 (yZ (zH L L.length)))) 12 kJ (hz:=zBd))<|oc (zBX (C:=(PX.cu y).cf) 6 kJ (fun _ _ h=>h.2) (zFT hy6))<|oc (jI (fun u W (hu:(fPV 12 (y.p)).p u W)=>zEn hu))<|oc (zI zD zK2 (fun u0 u1 W hb (h0:(fPR (fPV 12 (yY (zH L L.length))) (fPV 12 (yZ (zH L L.length)))).p u0 W) (h1:(wD 6 (pvs 12 [y.p])).p u1 W)=>(zFX (m:=12) (ps:= [y.p]) h0 h1 dC dC (by simp) (hT.below (s.up hb))).mono (wH (fun v W h=>by rw [zIT,hH] at h;exact h))))<|oc (zBz false iiz (fun _=>rfl))<|oc zE<|zC) fun a w17 s=> ?_
    refine zAu (wB l) rfl rfl s iiz kJ zE kJ fun a w s=> ?_
    refine zAu (fPV 12 (y8 (yY (zH L L.length)) (yZ (zH L L.length)) y.p)) rfl rfl s iiz kJ (zK (f:=fPV 12 (y8 (yY (zH L L.length)) (yZ (zH L L.length)) y.p)) 6 kJ (hz:=zP _ _)) kJ fun a w s=> ?_
    refine zAu (fSl 0) rfl rfl s iiz kJ (zI zD zK3 (fun u0 u1 W hb (h0:u0=l) (h1:(fPV 12 (y8 (yY (zH L L.length)) (yZ (zH L L.length)) y.p)).p u1 W)=>(zCY (m:=12) (p:=(y8 (yY (zH L L.length)) (yZ (zH L L.length)) y.p)) (yU hl h0 (s.up hb)) ((hL.mono dC).below (s.up hb)) h1 dC dC (fun x hx=>zZS (hP x hx) dC) hnL (hT.below (s.up hb))).mono (wH (fun v W h=>by have h9:=zD4 (zAw _ _ h);rwa [zKu hC ((zKn hH).2)] at h9)))) kJ fun a w s=> ?_
    refine zAu (uI ((0:Nat):Int)) rfl rfl s iiz kJ (zBY kJ (fun v W ⟨A_,c_,e_⟩=>⟨A_,0,c_,e_,rfl⟩)) kJ fun a w s=> ?_
    refine zAu (uB false) rfl rfl s iiz kJ (zS .i64 ((0:Nat):Int) 0 false iiz iiz rfl rfl) kJ fun a w s=> ?_
    refine zAu (uB false) rfl rfl s iiz kJ zE kJ fun a w s=> ?_
    refine zAu (wB l) rfl rfl s iiz kJ zE kJ fun a w s=> ?_
    refine zAu (fPV 12 (y.p)) rfl rfl s iiz kJ (zBX (C:=(PX.cu y).cf) 6 kJ (fun _ _ h=>h.2) (zFT hy6)) kJ fun a w s=> ?_
    refine zAu (fSl 0) rfl rfl s iiz kJ (zI zD zK3 (fun u0 u1 W hb (h0:u0=l) (h1:(fPV 12 (y.p)).p u1 W)=>(zCY (m:=12) (p:=y.p) (yU hl h0 (s.up hb)) ((hL.mono dC).below (s.up hb)) h1 dC dC (fun x hx=>zZS (hP x hx) dC) hnL (hT.below (s.up hb))).mono (wH (fun v W h=>by have h9:=zD4 (zAw _ _ h);rwa [zKu hC ((zKn hH).1)] at h9)))) kJ fun a w s=> ?_
    refine zAu (uI ((0:Nat):Int)) rfl rfl s iiz kJ (zBY kJ (fun v W ⟨A_,c_,e_⟩=>⟨A_,0,c_,e_,rfl⟩)) kJ fun a w s=> ?_
    refine zAu (uB false) rfl rfl s iiz kJ (zS .i64 ((0:Nat):Int) 0 false iiz iiz rfl rfl) kJ fun a w s=> ?_
    refine zAu (uB false) rfl rfl s iiz kJ (yO false iiz (fun e=>by cases e) fR) kJ fun a w s=> ?_
    refine zAN (uB false) rfl s kJ (yO true iiz fR (fun e=>by cases e)) kJ fun a w s=> ?_
    refine zA rfl ?_
    refine StS.cond s false iiz (fun e=>by cases e) (fun e=> ?_)
    refine zZp ?_
    refine zZo ?_
    refine zB 18 ((117,.Z (wB l))::(118,.X (fPR (fPV 12 (yY (zH L L.length))) (fPV 12 (yZ (zH L L.length)))) 0)::(119,.Z (fPV 12 (yY (zH L L.length))))::(120,.Z (fSl 0))::(121,.Z (uI ((0:Nat):Int)))::(122,.Z (uB true))::(123,.Z (uB true))::(124,.Z (wB l))::(125,.X (fPR (fPV 12 (yY (zH L L.length))) (fPV 12 (yZ (zH L L.length)))) 6)::(126,.Z (fPV 12 (yZ (zH L L.length))))::(127,.Z (fSl 0))::(128,.Z (uI ((0:Nat):Int)))::(129,.Z (uB true))::(130,.Z (uB true))::(131,.Z (uB true))::(132,.Z (uB true))::(133,.Z (uB true))::(4,.u (uB true)):: []) hmix s kJ
     (oc zE<|oc (zL (C:=cg (fPR (fPV 12 (yY (zH L L.length))) (fPV 12 (yZ (zH L L.length))))) 0 kJ)<|oc (zR (C:=cg (fPR (fPV 12 (yY (zH L L.length))) (fPV 12 (yZ (zH L L.length))))) (k:=0) 6 kJ (h:=zC8))<|oc (zI zD zK3 (fun u0 u1 W hb (h0:u0=l) (h1:(fPV 12 (yY (zH L L.length))).p u1 W)=>(zCY (m:=12) (p:=(yY (zH L L.length))) (yU hl h0 (s.up hb)) ((hL.mono dC).below (s.up hb)) h1 dC dC (fun x hx=>zZS (hP x hx) dC) hnL (hT.below (s.up hb))).mono (wH (fun v W h=>by have h9:=zD4 (zAw _ _ h);rwa [zKu hC (zIb _)] at h9))))<|oc (zBY kJ (fun v W ⟨A_,c_,e_⟩=>⟨A_,0,c_,e_,rfl⟩))<|oc (zS .i64 ((0:Nat):Int) 0 true iiz iiz rfl rfl)<|oc zE<|oc (zG 123 true kJ iiz (fun _=>zE) arf)<|oc (zG 123 true kJ iiz (fun _=>zL (C:=cg (fPR (fPV 12 (yY (zH L L.length))) (fPV 12 (yZ (zH L L.length))))) 6 kJ) arf)<|oc (zG 123 true kJ iiz (fun _=>zR (C:=cg (fPR (fPV 12 (yY (zH L L.length))) (fPV 12 (yZ (zH L L.length))))) (k:=6) 6 kJ (h:=zDA)) arf)<|oc (zG 123 true kJ iiz (fun _=>zI zD zK3 (fun u0 u1 W hb (h0:u0=l) (h1:(fPV 12 (yZ (zH L L.length))).p u1 W)=>(zCY (m:=12) (p:=(yZ (zH L L.length))) (yU hl h0 (s.up hb)) ((hL.mono dC).below (s.up hb)) h1 dC dC (fun x hx=>zZS (hP x hx) dC) hnL (hT.below (s.up hb))).mono (wH (fun v W h=>by have h9:=zD4 (zAw _ _ h);rwa [zKu hC (zIc _)] at h9)))) arf)<|oc (zG 123 true kJ iiz (fun _=>zBY kJ (fun v W ⟨A_,c_,e_⟩=>⟨A_,0,c_,e_,rfl⟩)) arf)<|oc (zG 123 true kJ iiz (fun _=>zS .i64 ((0:Nat):Int) 0 true iiz iiz rfl rfl) arf)<|oc (yO true iiz fR (fun e=>by cases e))<|oc zE<|oc (zG 131 true kJ iiz (fun _=>zBZ zD zU7 (fun W hb=>zF9 (hT.below (s.up hb)))) arf)<|oc (yO true iiz fR (fun e=>by cases e))<|oc zF<|zC) fun a w18 s=> ?_
    refine zA rfl ?_
    refine zZq ?_
    exact wG s (t:=4) rfl iiz
end Go.Proofs.Wd
