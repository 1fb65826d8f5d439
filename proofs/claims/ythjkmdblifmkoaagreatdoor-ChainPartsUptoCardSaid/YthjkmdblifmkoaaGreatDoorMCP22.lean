/- Walks of package chain: Leg, First, Chain, Length, Plain; vec and stra and what it needs. -/
import Derived.Test.YthjkmdblifmkoaaGreatDoorMCP21
import Derived.Test.YthjkmdblifmkoaaGreatDoorMCP20
theorem kJ {P:Prop} (h:P:=by kernel_rfl):P:=h
theorem oQ {P:Prop} (h:P:=by omega):P:=h
theorem dC {P:Prop} (h:P:=by decide):P:=h
theorem fQ {c:Prop} {α:Sort _} {R:α->Prop} (e:¬c) (w:α) (h:c):R w:=absurd h e
theorem fR {α β:Sort _} {γ:α->β->Sort _} {p:(a:α)->(b:β)->γ a b->Prop} (a:α) (b:β) (c:γ a b) (h:p a b c):p a b c:=h
theorem fS {β γ:Sort _} {p q:β->γ->Prop} (b:β) (c:γ) (h:p b c) (_:q b c):p b c:=h
abbrev zW8:=@Go.wpIn_seq
abbrev zW9:=@Go.wpIn_ret
abbrev zXa:=@Go.wpIn_skip
abbrev zXb:=@Go.wpIn_block
abbrev zXc:=@of_decide_eq_false
abbrev zXd:=@List.mem_cons
abbrev zXe:=@List.mem_singleton
abbrev zXf:=@Nat.zero_le
abbrev zXg:=@of_decide_eq_true
abbrev zXh:=@Go.wpIn_exit
abbrev zXi:=@Bool.or_eq_false_iff
abbrev zXj:=@bne_self_eq_false
abbrev zXk:=@Nat.not_lt_zero
abbrev zXl:=@List.length_map
abbrev zXm:=@Nat.le_trans
abbrev zXn:=@Nat.lt_or_eq_of_le
abbrev zXo:=@Nat.le_of_lt_succ
abbrev Wt:=Go.World
abbrev Wu:=Go.Value
namespace Go.Proofs.Wd
open Tryz
set_option maxRecDepth 100000
set_option maxHeartbeats 1000000
open Go.RowKit Lb
section
variable {F:Fence} {m:Nat} {P:Program} {w0:Wt} {ops:Array Oper} {G:Nat->SF} {d:Tmp} {ty:TypeId} {pos:String} {aft:Array Edge}
theorem zIa {x y:Operand} {ats:Array TypeId} (u v:Int) (hx: ∀q W,(fct G x).p q W->q= .int .i64 u) (hy: ∀q W,(fct G y).p q W->q= .int .i64 v) (hd: ∀W,(G d).p (.int .i64 (max u v)) W:=by exact fun _=>rfl):qO F m P w0 ops G ⟨some d, .call ⟨.builtin .max,#[x,y],ats⟩,ty,pos,aft,none⟩:=by
 intro b W K Q hb hr hK
 have e1:=hx _ _ (y9 hr (x:=x) (by simp [Op.operands,Call.operands]))
 have e2:=hy _ _ (y9 hr (x:=y) (by simp [Op.operands,Call.operands]))
 refine ⟨fun f hf=>(by
  unfold Oper.about at hf
  simp [resolve,go_sem] at hf), ?_⟩
 rw [Oper.semAt_eq _ _ _ (fun _ e=>by cases e)]
 have:(execOp b.eval ⟨some d, .call ⟨.builtin .max,#[x,y],ats⟩,ty,pos,aft,none⟩).run P W= .ok (.value (.int .i64 (max u v))) W:=by
  have h:max u v=if u<v then v else u:=by split<;>omega
  simp [execOp,resolve,invoke,builtin,e1,e2,Builtin.max_,Builtin.max2,h]
 rw [this]
 exact hK _ _ (fun d' e'=>by cases e';exact hd _) (Below.refl _ _)
end
theorem zOg {R:List V2} {Ts:List V6} {a b:V2} (h: ∀j,j<Ts.length->(zBb (tl (at3 Ts j)) R a (yL b a)).2=false):zCQ R Ts a b=true:=by
 unfold zCQ
 simp only [Bool.not_eq_true',List.any_eq_false]
 intro t ht
 obtain ⟨j,hj,rfl⟩:=zIc ht
 rw [h j hj]
 decide
theorem zL1 {R:List V2} {Ts:List V6} {a b:V2} {k:Nat} (hk:k<Ts.length) (h:(zBb (tl (at3 Ts k)) R a (yL b a)).2=true):zCQ R Ts a b=false:=by
 unfold zCQ
 rw [Bool.not_eq_false',List.any_eq_true]
 exact ⟨_,zMJ hk,h⟩
def zQ1 (f:Nat->Bool) (N:Nat):Int:=match (List.range N).find? f with|some k=>(k:Int)|none=> -1
theorem zCy {f:Nat->Bool} {N:Nat} (h: ∀j,j<N->f j=false):zQ1 f N= -1:=by
 unfold zQ1
 rw [List.find?_eq_none.2 (fun x hx=>by rw [h x (List.mem_range.1 hx)];simp)]
theorem zGs {f:Nat->Bool} {N k:Nat} (hk:k<N) (h: ∀j,j<k->f j=false) (e:f k=true):zQ1 f N=(k:Int):=by
 unfold zQ1
 have:(List.range N).find? f=some k:=by
  rw [List.find?_range_eq_some]
  exact ⟨e,List.mem_range.2 hk,fun j hj=>by rw [h j hj];rfl⟩
 rw [this]
def zFJ (R:List V2) (Ts:List V6) (ps:List V2) (k:Nat):Bool:= !(zCQ R Ts (at_ ps k) (at_ ps (k+1)))
def zBN (R:List V2) (Ts:List V6) (ps:List V2):Int:=if (ps.length=1/\zCz R Ts (at_ ps 0)=false) then 0 else zQ1 (zFJ R Ts ps) (ps.length - 1)
theorem zFF {R:List V2} {Ts:List V6} {ps:List V2} (h1:ps.length=1) (h:zCz R Ts (at_ ps 0)=false):zBN R Ts ps=0:=if_pos ⟨h1,h⟩
theorem zB8 {R:List V2} {Ts:List V6} {ps:List V2} (h: ¬(ps.length=1/\zCz R Ts (at_ ps 0)=false)):zBN R Ts ps=zQ1 (zFJ R Ts ps) (ps.length - 1):=if_neg h
def zDt (ps:List V2):Nat->Rat
 |0=>((0:Int):Rat)
 |k+1=>zDt ps k+zCT (at_ ps k) (at_ ps (k+1))
def plV (ps:List V2):Nat->List V2
 |0=> []
 |k+1=>if (decide (k=0)|| !(zFd (at_ ps k) (at_ ps (k - 1))==0))=true then plV ps k++ [at_ ps k] else plV ps k
theorem zR8 {ps:List V2} {k:Nat} (h:(decide (k=0)|| !(zFd (at_ ps k) (at_ ps (k - 1))==0))=true):plV ps (k+1)=plV ps k++ [at_ ps k]:=if_pos h
theorem zTF {ps:List V2} {k:Nat} (h:(decide (k=0)|| !(zFd (at_ ps k) (at_ ps (k - 1))==0))=false):plV ps (k+1)=plV ps k:=if_neg (by rw [h];decide)
theorem zH4 (ps:List V2): ∀k,(plV ps k).length<=k
 |0=>Nat.le_refl _
 |k+1=>by
  have ih:=zH4 ps k
  show (if _ then _ else _:List V2).length<=_
  split
  ·rw [List.length_append];simp;omega
  ·omega
theorem zDY {x y:Rat} {m:Nat} (h1:QB x m) (h2:QB y m):QB (zAo x y) (2*m+1):=by
 unfold zAo
 split
 ·exact (h2.sub h1).mono oQ
 ·exact (h1.sub h2).mono oQ
theorem zFa {p q:V2} {m:Nat} (h1:QB p.1 m/\QB p.2 m) (h2:QB q.1 m/\QB q.2 m):QB (zCT p q) (4*m+3):=((zDY h1.1 h2.1).add (zDY h1.2 h2.2)).mono oQ
theorem zLY {ps:List V2} (h: ∀p,p∈ps->QB p.1 47/\QB p.2 47): ∀k,k<ps.length->k<=2->QB (zDt ps k) 400
 |0,_,_=>QB.zero dC
 |1,h1,_=>((QB.zero (m:=1) dC).add (zFa (h _ (qT (show 0<ps.length by omega))) (h _ (qT h1)))).mono dC
 |2,h2,_=>((((QB.zero (m:=1) dC).add (zFa (h _ (qT (show 0<ps.length by omega))) (h _ (qT (show 1<ps.length by omega))))).mono (m':=193) dC).add (zFa (h _ (qT (show 1<ps.length by omega))) (h _ (qT h2)))).mono dC
 |k+3,_,hk=>by omega
theorem zRj (x y:Rat):zAo x y=if decide ((x - y).num.sign<0)=true then 0 - (x - y) else x - y:=by
 unfold zAo
 have e:decide (qsg x y<0)=decide ((x - y).num.sign<0):=by
  rw [decide_eq_decide,qlt,zFX]
  constructor<;>intro h<;>grind
 rw [e]
 by_cases h:decide ((x - y).num.sign<0)=true
 ·rw [if_pos h,if_pos h];grind
 ·rw [if_neg h,if_neg h]
theorem zMQ {x y:Rat} {v:Wu} {W:Wt} (h:(fQN (if decide ((x - y).num.sign<0)=true then 0 - (x - y) else x - y)).p v W):(fQN (zAo x y)).p v W:=by rw [zRj];exact h
theorem zOP {m k M:Nat} {W:Wt} {r l v:Wu} {rs:List V2} {ts:List V6} {p:V2} (hr_:(SF.row 6 (pvs m rs)).p r W) (ht:(SF.row 18 (trs m ts)).p l W) (h1:(fPV k p).p v W) (hm0:0<m) (hmk:m<=k) (hk:k<=60) (hM:m+k+1<=M) (hM2:M<=60) (hn:rs.length<=1000000) (hnt:ts.length<=1000000) (hT:Tab W):Calls prog 55 #[r,l,v] W (Ret W (fB (!(ts.any (fun t=> !(yY (yS rs p) (tl t)))))).tS):=by
 have hk0:0<k:=by omega
 have hsh:=zGR (zDi hm0 hr_) (zBd hk0 h1) hM
 refine zZ [SF.row 6 (pvs m rs),SF.row 18 (trs m ts),(fPV k p).tS] func55 rfl kJ ⟨hr_,ht,h1,trivial⟩ fun a s=> ?_
 refine zW8 ?_
 refine zB 0 [] hmix s kJ
  zD fun a w1 s=> ?_
 refine yK (CU.agg (fPV k p)) rfl s kJ (fun v W h=>y7 h) fun b5 a w s=> ?_
 refine yT (uB false) rfl s kJ iiz fun a w s=> ?_
 refine zA rfl ?_
 refine zW8 ?_
 refine jM 3 ((8, .s (SF.row 6 (pvs m rs)))::(9, .Z (fPV k p))::(10, .s (wL w 31 6 (pns (yS rs p)))):: []) hmix s kJ
  (oc zC<|oc (zI (f:=fPV k p) 6 kJ (hz:=zS _ _))<|oc (zJ zE zT1 (fun u0 u1 W hb (h0:(SF.row 6 (pvs m rs)).p u0 W) (h1:(fPV k p).p u1 W)=>(zOK (m:=k) (zAG hmk _ _ h0) h1 oQ hk0 hn (hT.below (s.up hb))).mono (wG (zBX hb.size))))<|zD) fun a w2 s hr=> ?_
 obtain ⟨v10,e10⟩: ∃v,a.tmps.getD 10 undef=v:=⟨_,rfl⟩
 have hv10:(SF.row 6 (pvs M (yS rs p))).p v10 w2:=e10▸zGa hsh _ _ (zBf _ _ (hr (_,_) mz2))
 have hvp:=zBB hv10
 replace s:=s.learn 10 v10 e10
 have hb0:=s.below
 have hT0:=hT
 replace hT:=hT.below hb0
 replace s:StS _ _ _ [⟨5,31,CU.agg (fPV k p),b5,true⟩] _ _ _ _:=s.freeze
 replace s:=s.reb rfl [(10, .u (UF.eq v10)),(6, .u (uB false)),(0, .o (SF.row 6 (pvs m rs))),(1, .o (SF.row 18 (trs m ts))),(2, .o ((fPV k p).tS))] (fmz ⟨.inl (.head _),fmz ⟨.inl mz1,fmz ⟨.inl mz2,fmz ⟨.inl mz3,fmz ⟨.inl mz4,fnz⟩⟩⟩⟩⟩)
 refine zT (CU.len 1) (cs:= [.slice none 0 0]) kJ rfl s kJ (fun W=>rfl) rfl fun b7 a w s=> ?_
 refine q7 (c:=7) (o:=0) (kk:=1) (wC [v10]) ((UF.eq v10).tS) rfl s kJ rfl rfl (fun _ _ h=>h.1) iiz (zNm hvp.1 hvp.2 (zER hv10)) fun a w s=> ?_
 refine zA rfl ?_
 refine zW8 ?_
 replace s:=s.drop [6]
 refine zB 5 ((11, .s (SF.row 18 (trs m ts)))::(12, .s (SF.fn prog (TBt M (fun t=> !(yY (yS rs p) (tl t))))))::(13, .Z (uB (ts.any (fun t=> !(yY (yS rs p) (tl t))))))::(14, .Z (uB (!(ts.any (fun t=> !(yY (yS rs p) (tl t)))))))::(6, .u (uB (!(ts.any (fun t=> !(yY (yS rs p) (tl t))))))):: []) hmix s kJ
  (oc zC<|oc (zDm (fun u W hb (h:(wE b7 (wC [v10]).cf).p u W)=>zFE (enters_of func83 kJ rfl) (fun W' hb' args R ⟨u1,t,e,h1,hT',hR⟩=>by subst e hR;simpa using zOQ h1 ((wB _).st _ _ _ h.2 hb') ((SF.row 6 _).st _ _ _ ((SF.row 6 _).st _ _ _ hv10 (s.up hb)) hb') hM2 oQ (by rw [zAz];exact hn) hT')))<|oc (zJ zE zT0 (fun u0 u1 W hb (h0:(SF.row 18 (trs m ts)).p u0 W) (h1:(SF.fn prog (TBt M (fun t=> !(yY (yS rs p) (tl t))))).p u1 W)=>zUy (zBq oQ _ _ h0) h1 hnt (hT.below (s.up hb))))<|oc (zA8 (ts.any (fun t=> !(yY (yS rs p) (tl t)))) iiz (fun _=>rfl))<|oc zG<|zD) fun a w3 s=> ?_
 refine zA rfl ?_
 refine zW9 ?_
 exact vH s hb0 (t:=6) rfl iiz
theorem zFf {W:Wt} {r l u v:Wu} {R:List V2} {Ts:List V6} {p e_:V2} (hr_:(SF.row 6 (pvs 5 R)).p r W) (ht:(SF.row 18 (trs 5 Ts)).p l W) (h1:(fPV 47 p).p u W) (h2:(fPV 47 e_).p v W) (hn:R.length<=1000000) (hnt:Ts.length<=1000000) (hT:Tab W):Calls prog 14 #[r,l,u,v] W (Ret W (fB (zCQ R Ts p e_)).tS):=by
 refine zZ [(UF.eq r).tS,(UF.eq l).tS,(fPV 47 p).tS,(fPV 47 e_).tS] func14 rfl kJ ⟨rfl,rfl,h1,h2,trivial⟩ fun a s=> ?_
 replace s:=s.renew [(0, .u (UF.eq r)),(1, .u (UF.eq l)),(2, .u (fPV 47 p)),(3, .u (fPV 47 e_))] (fmz ⟨.inr ⟨_,rfl, .head _⟩,fmz ⟨.inr ⟨_,rfl,mz1⟩,fmz ⟨.inr ⟨_,rfl,mz2⟩,fmz ⟨.inr ⟨_,rfl,mz3⟩,fnz⟩⟩⟩⟩)
 refine zW8 ?_
 refine zB 0 [] hmix s kJ
  zD fun a w1 s=> ?_
 refine yK (CU.agg (fPV 47 p)) rfl s kJ (fun v W h=>y7 h) fun b6 a w s=> ?_
 refine yK (CU.agg (fPV 47 e_)) rfl s kJ (fun v W h=>y7 h) fun b7 a w s=> ?_
 refine yT (uB false) rfl s kJ iiz fun a w s=> ?_
 refine zA rfl ?_
 refine zW8 ?_
 refine zW8 ?_
 refine zB 3 ((14, .u (UF.eq l))::(15, .u (uI ((trs 5 Ts).length:Int)))::(16, .u (uI 0)):: []) hmix s kJ
  (oc zC<|oc (jD (z:=18) (Cs:=trs 5 Ts) kJ (fun v W hb h=>(yJ ht h (s.up hb))) (fun _=>rfl))<|oc zC<|zD) fun a w2 s=> ?_
 refine zA rfl ?_
 refine zXb ?_
 refine zAU (fun k=>k<=Ts.length/\ ∀j,j<k->(zBb (tl (at3 Ts j)) R p (yL e_ p)).2=false) (fun k=> [(0, .u (UF.eq r)),(14, .u (UF.eq l)),(15, .u (uI ((trs 5 Ts).length:Int))),(16, .u (uI ((k:Nat):Int)))]) (fun k=>Ts.length - k) (0:Nat) (⟨zXf _,fun j hj=>absurd hj (zXk _)⟩) (s.keepK _ (fmz ⟨mz4,fmz ⟨.head _,fmz ⟨mz1,fmz ⟨mz2,fnz⟩⟩⟩⟩)) fun k a w hx s=> ?_
 refine zW8 ?_
 refine zB 1 ((17, .u (uB (decide ((k:Int)<((trs 5 Ts).length:Int))))):: []) hmix s kJ
  (oc (zU .i64 (k:Int) ((trs 5 Ts).length:Int) (decide ((k:Int)<((trs 5 Ts).length:Int))) iiz iiz rfl rfl)<|zD) fun a w3 s=> ?_
 refine zA rfl ?_
 refine zW8 ?_
 refine StS.cond s (decide ((k:Int)<((trs 5 Ts).length:Int))) iiz (fun e=> ?_) (fun e=> ?_)
 ·have hk:k<Ts.length:=by have:=zXg e;simp at this;omega
  refine zXa ?_
  refine zW8 ?_
  refine zXb ?_
  refine zW8 ?_
  refine zB 2 ((18, .Y (fTR 5 (at3 Ts k)))::(19, .u (fTR 5 (at3 Ts k))):: []) hmix s kJ
   (oc (yQ (z:=18) (Cs:=trs 5 Ts) (i:=k) (C:=CU.agg (fTR 5 (at3 Ts k))) kJ (zEI hk) (fun v W hb h=>(yJ ht h (s.up hb))) iiz)<|oc (zI (f:=fTR 5 (at3 Ts k)) 18 kJ (hz:=zEJ _ _))<|zD) fun a w4 s=> ?_
  refine zT (CU.len 18) (cs:= [.bool false, .slice none 0 0, .slice none 0 0, .bool false, .slice none 0 0, .slice none 0 0, .bool false, .slice none 0 0, .slice none 0 0, .bool false, .slice none 0 0, .slice none 0 0, .bool false, .slice none 0 0, .slice none 0 0, .bool false, .slice none 0 0, .slice none 0 0]) kJ rfl s kJ (fun W=>rfl) rfl fun b10 a w s=> ?_
  refine zN (CU.agg (fTR 5 (at3 Ts k))) ((fTR 5 (at3 Ts k)).tS) rfl s kJ rfl rfl rfl iiz iiz zIF fun a w s=> ?_
  refine zA rfl ?_
  refine zW8 ?_
  refine zB 9 ((21, .Z (UF.eq r))::(22, .Z (fTR 5 (at3 Ts k)))::(23, .Z (fPV 47 p))::(24, .Z (fPV 47 e_))::(25, .Z (zDU (fQN ((zAQ (zBb (tl (at3 Ts k)) R p (yL e_ p))).1)) (fQN ((zAQ (zBb (tl (at3 Ts k)) R p (yL e_ p))).2)) (uB ((zBb (tl (at3 Ts k)) R p (yL e_ p)).2))))::(20, .Z (zDU (fQN ((zAQ (zBb (tl (at3 Ts k)) R p (yL e_ p))).1)) (fQN ((zAQ (zBb (tl (at3 Ts k)) R p (yL e_ p))).2)) (uB ((zBb (tl (at3 Ts k)) R p (yL e_ p)).2))))::(26, .u (fQN ((zAQ (zBb (tl (at3 Ts k)) R p (yL e_ p))).1)))::(27, .u (fQN ((zAQ (zBb (tl (at3 Ts k)) R p (yL e_ p))).2)))::(28, .u (uB ((zBb (tl (at3 Ts k)) R p (yL e_ p)).2))):: []) hmix s kJ
   (oc zC<|oc (zI (f:=fTR 5 (at3 Ts k)) 18 kJ (hz:=zEJ _ _))<|oc (zI (f:=fPV 47 p) 6 kJ (hz:=zS _ _))<|oc (zI (f:=fPV 47 e_) 6 kJ (hz:=zS _ _))<|oc (zBt zE zSG (fun u0 u1 u2 u3 W hb (h0:u0=r) (h1:(fTR 5 (at3 Ts k)).p u1 W) (h2:(fPV 47 p).p u2 W) (h3:(fPV 47 e_).p u3 W)=>zHz (yJ hr_ h0 (s.up hb)) h1 h2 h3 hn (hT.below (s.up hb))))<|oc zC<|oc (zEo (A:=(fQN ((zAQ (zBb (tl (at3 Ts k)) R p (yL e_ p))).1)).tS) (B:=(fQN ((zAQ (zBb (tl (at3 Ts k)) R p (yL e_ p))).2)).tS) (C:=(uB ((zBb (tl (at3 Ts k)) R p (yL e_ p)).2)).tS) iiz)<|oc (zEn (A:=(fQN ((zAQ (zBb (tl (at3 Ts k)) R p (yL e_ p))).1)).tS) (B:=(fQN ((zAQ (zBb (tl (at3 Ts k)) R p (yL e_ p))).2)).tS) (C:=(uB ((zBb (tl (at3 Ts k)) R p (yL e_ p)).2)).tS) iiz)<|oc (zEm (A:=(fQN ((zAQ (zBb (tl (at3 Ts k)) R p (yL e_ p))).1)).tS) (B:=(fQN ((zAQ (zBb (tl (at3 Ts k)) R p (yL e_ p))).2)).tS) (C:=(uB ((zBb (tl (at3 Ts k)) R p (yL e_ p)).2)).tS) iiz)<|zD) fun a w5 s=> ?_
  refine zT (CU.len 3) (cs:=zR3) kJ rfl s kJ (fun W=>rfl) rfl fun b11 a w s=> ?_
  refine zT (CU.len 3) (cs:=zR3) kJ rfl s kJ (fun W=>rfl) rfl fun b12 a w s=> ?_
  refine zN (CU.agg (fQN ((zAQ (zBb (tl (at3 Ts k)) R p (yL e_ p))).1))) ((fQN ((zAQ (zBb (tl (at3 Ts k)) R p (yL e_ p))).1)).tS) rfl s kJ rfl rfl rfl iiz iiz zV fun a w s=> ?_
  refine zN (CU.agg (fQN ((zAQ (zBb (tl (at3 Ts k)) R p (yL e_ p))).2))) ((fQN ((zAQ (zBb (tl (at3 Ts k)) R p (yL e_ p))).2)).tS) rfl s kJ rfl rfl rfl iiz iiz zV fun a w s=> ?_
  refine yT (uB ((zBb (tl (at3 Ts k)) R p (yL e_ p)).2)) rfl s kJ iiz fun a w s=> ?_
  refine zA rfl ?_
  refine zW8 ?_
  refine zB 1 ((29, .u (uB ((zBb (tl (at3 Ts k)) R p (yL e_ p)).2))):: []) hmix s kJ
   (oc zC<|zD) fun a w6 s=> ?_
  refine zA rfl ?_
  refine StS.cond s ((zBb (tl (at3 Ts k)) R p (yL e_ p)).2) iiz (fun e=> ?_) (fun e=> ?_)
  ·refine zW8 ?_
   refine zB 1 ((8, .u (uB false)):: []) hmix s kJ
    (oc zG<|zD) fun a w7 s=> ?_
   refine zA rfl ?_
   refine zW9 ?_
   exact wH s (t:=8) rfl (fun v W h=>by rw [zL1 hk e];exact h)
  ·refine zXa ?_
   refine yC 1 ((30, .u (uI ((k+1:Nat):Int))):: []) s kJ
    (oc (yW .i64 (k:Int) 1 ((k+1:Nat):Int) iiz iiz (wrap64 _ _ oQ oQ))<|zD) fun a w8 s=> ?_
   replace s:=s.drop [16]
   refine zCF (uI ((k+1:Nat):Int)) rfl s kJ zC kJ fun a w s=> ?_
   refine zA rfl ?_
   replace s:=s.popB
   replace s:=s.popB
   replace s:=s.popB
   exact ⟨k+1,⟨hk,fun j hj=>by rcases zXn (zXo hj) with h|h;exact hx.2 j h;rw [h];exact e⟩,(by show Ts.length - (k+1)<Ts.length - k;omega),s.keepK _ (fmz ⟨mz9,fmz ⟨zFm,fmz ⟨zLM,fmz ⟨.head _,fnz⟩⟩⟩⟩)⟩
 ·have hk:k=Ts.length:=by have h7:=zXc e;have h8:=hx.1;simp at h7;omega
  refine zXh ?_
  refine zW8 ?_
  refine zB 1 ((8, .u (uB true)):: []) hmix s kJ
   (oc zG<|zD) fun a w9 s=> ?_
  refine zA rfl ?_
  refine zW9 ?_
  exact wH s (t:=8) rfl (fun v W h=>by rw [zOg (fun j hj=>hx.2 j oQ)];exact h)
theorem wY (z:Int) (h1: -9223372036854775808<=z) (h2:z<=9223372036854775807):IntKind.i64.wrap z=z:=by rw [IntKind.wrap_i64];omega
theorem zJu {W:Wt} {r l q:Wu} {R:List V2} {Ts:List V6} {ps:List V2} (hr_:(SF.row 6 (pvs 5 R)).p r W) (ht:(SF.row 18 (trs 5 Ts)).p l W) (hq_:(SF.row 6 (pvs 47 ps)).p q W) (hn:R.length<=1000000) (hnt:Ts.length<=1000000) (hnq:ps.length<=1000000) (hT:Tab W):Calls prog 34 #[r,l,q] W (Ret W (fI (zBN R Ts ps)).tS):=by
 refine zZ [(UF.eq r).tS,(UF.eq l).tS,(UF.eq q).tS] func34 rfl kJ ⟨rfl,rfl,rfl,trivial⟩ fun a s=> ?_
 replace s:=s.renew [(0, .u (UF.eq r)),(1, .u (UF.eq l)),(2, .u (UF.eq q))] (fmz ⟨.inr ⟨_,rfl, .head _⟩,fmz ⟨.inr ⟨_,rfl,mz1⟩,fmz ⟨.inr ⟨_,rfl,mz2⟩,fnz⟩⟩⟩)
 refine zW8 ?_
 refine zB 1 ((6, .u (uI 0)):: []) hmix s kJ
  (oc zG<|zD) fun a w1 s=> ?_
 refine zA rfl ?_
 refine zW8 ?_
 refine zW8 ?_
 rcases Nat.decEq ps.length 1 with hl1|hl1
 ·refine zB 12 ((8, .Z (UF.eq q))::(9, .Z (uI ((pvs 47 ps).length:Int)))::(10, .Z (uB false))::(11, .Z (uB false))::(19, .u (uB false)):: []) hmix s kJ
   (oc zC<|oc (jD (z:=6) (Cs:=pvs 47 ps) kJ (fun v W hb h=>(yJ hq_ h (s.up hb))) (fun _=>rfl))<|oc (zU .i64 ((pvs 47 ps).length:Int) 1 false iiz iiz (beq_eq_false_iff_ne.2 (by simp;omega)) rfl)<|oc zC<|oc (zF 11 false kJ iiz (fun e=>by cases e) (fun _ _=>trivial))<|oc (zF 11 false kJ iiz (fun e=>by cases e) (fun _ _=>trivial))<|oc (zF 11 false kJ iiz (fun e=>by cases e) (fun _ _=>trivial))<|oc (zF 11 false kJ iiz (fun e=>by cases e) (fun _ _=>trivial))<|oc (zF 11 false kJ iiz (fun e=>by cases e) (fun _ _=>trivial))<|oc (zF 11 false kJ iiz (fun e=>by cases e) (fun _ _=>trivial))<|oc (zF 11 false kJ iiz (fun e=>by cases e) (fun _ _=>trivial))<|oc (y4 false iiz (fun e=>by cases e) fR)<|zD) fun a w2 s=> ?_
  refine zA rfl ?_
  refine StS.cond s false iiz (fun e=>by cases e) (fun e=> ?_)
  refine zXa ?_
  refine zW8 ?_
  refine zW8 ?_
  have hnn: ¬(ps.length=1/\zCz R Ts (at_ ps 0)=false):=fun h=>hl1 h.1
  refine zB 5 ((20, .Z (UF.eq q))::(21, .Z (uI ((pvs 47 ps).length:Int)))::(22, .Z (uI (((pvs 47 ps).length:Int) - 1)))::(23, .u (uI (max (((pvs 47 ps).length:Int) - 1) 0)))::(24, .u (uI 0)):: []) hmix s kJ
   (oc zC<|oc (jD (z:=6) (Cs:=pvs 47 ps) kJ (fun v W hb h=>(yJ hq_ h (s.up hb))) (fun _=>rfl))<|oc (zGb .i64 ((pvs 47 ps).length:Int) 1 (((pvs 47 ps).length:Int) - 1) iiz iiz (by simp only [zXl];exact wY _ oQ oQ))<|oc (zIa (((pvs 47 ps).length:Int) - 1) 0 iiz iiz)<|oc zC<|zD) fun a w3 s=> ?_
  refine zA rfl ?_
  refine zXb ?_
  refine zAU (fun k=>k<=ps.length - 1/\ ∀j,j<k->zFJ R Ts ps j=false) (fun k=> [(0, .u (UF.eq r)),(1, .u (UF.eq l)),(2, .u (UF.eq q)),(23, .u (uI (max (((pvs 47 ps).length:Int) - 1) 0))),(24, .u (uI ((k:Nat):Int)))]) (fun k=>(ps.length - 1) - k) (0:Nat) (⟨zXf _,fun j hj=>absurd hj (zXk _)⟩) (s.keepK _ (fmz ⟨mz4,fmz ⟨mz5,fmz ⟨mz6,fmz ⟨.head _,fmz ⟨mz1,fnz⟩⟩⟩⟩⟩)) fun k a w hx s=> ?_
  have hlz:(pvs 47 ps).length=ps.length:=by simp
  refine zW8 ?_
  refine zB 1 ((25, .u (uB (decide ((k:Int)<max (((pvs 47 ps).length:Int) - 1) 0)))):: []) hmix s kJ
   (oc (zU .i64 (k:Int) (max (((pvs 47 ps).length:Int) - 1) 0) (decide ((k:Int)<max (((pvs 47 ps).length:Int) - 1) 0)) iiz iiz rfl rfl)<|zD) fun a w4 s=> ?_
  refine zA rfl ?_
  refine zW8 ?_
  refine StS.cond s (decide ((k:Int)<max (((pvs 47 ps).length:Int) - 1) 0)) iiz (fun e=> ?_) (fun e=> ?_)
  ·have hk:k+1<ps.length:=by have:=zXg e;rw [hlz] at this;omega
   refine zXa ?_
   refine zW8 ?_
   refine zXb ?_
   refine zW8 ?_
   refine zB 2 ((26, .Z (uI (k:Int)))::(7, .u (uI (k:Int))):: []) hmix s kJ
    (oc zC<|oc zG<|zD) fun a w5 s=> ?_
   refine zA rfl ?_
   refine zW8 ?_
   refine zB 13 ((27, .Z (UF.eq r))::(28, .Z (UF.eq l))::(29, .Z (UF.eq q))::(30, .Z (uI (k:Int)))::(31, .Y (fPV 47 (at_ ps k)))::(32, .Z (fPV 47 (at_ ps k)))::(33, .Z (UF.eq q))::(34, .Z (uI (k:Int)))::(35, .Z (uI ((k+1:Nat):Int)))::(36, .Y (fPV 47 (at_ ps (k+1))))::(37, .Z (fPV 47 (at_ ps (k+1))))::(38, .Z (uB (zCQ R Ts (at_ ps k) (at_ ps (k+1)))))::(39, .u (uB (!(zCQ R Ts (at_ ps k) (at_ ps (k+1)))))):: []) hmix s kJ
    (oc zC<|oc zC<|oc zC<|oc zC<|oc (yQ (z:=6) (Cs:=pvs 47 ps) (i:=k) (C:=CU.agg (fPV 47 (at_ ps k))) kJ (q8 (show k<ps.length by omega)) (fun v W hb h=>(yJ hq_ h (s.up hb))) iiz)<|oc (zI (f:=fPV 47 (at_ ps k)) 6 kJ (hz:=zS _ _))<|oc zC<|oc zC<|oc (yW .i64 (k:Int) 1 ((k+1:Nat):Int) iiz iiz (wrap64 _ _ oQ oQ))<|oc (yQ (z:=6) (Cs:=pvs 47 ps) (i:=(k+1)) (C:=CU.agg (fPV 47 (at_ ps (k+1)))) kJ (q8 (show k+1<ps.length by omega)) (fun v W hb h=>(yJ hq_ h (s.up hb))) iiz)<|oc (zI (f:=fPV 47 (at_ ps (k+1))) 6 kJ (hz:=zS _ _))<|oc (zBt zE zIp (fun u0 u1 u2 u3 W hb (h0:u0=r) (h1:u1=l) (h2:(fPV 47 (at_ ps k)).p u2 W) (h3:(fPV 47 (at_ ps (k+1))).p u3 W)=>zFf (yJ hr_ h0 (s.up hb)) (yJ ht h1 (s.up hb)) h2 h3 hn hnt (hT.below (s.up hb))))<|oc (zA8 (zCQ R Ts (at_ ps k) (at_ ps (k+1))) iiz (fun _=>rfl))<|zD) fun a w6 s=> ?_
   refine zA rfl ?_
   refine StS.cond s (!(zCQ R Ts (at_ ps k) (at_ ps (k+1)))) iiz (fun e=> ?_) (fun e=> ?_)
   ·refine zW8 ?_
    refine zB 2 ((40, .Z (uI (k:Int)))::(6, .u (uI (k:Int))):: []) hmix s kJ
     (oc zC<|oc zG<|zD) fun a w7 s=> ?_
    refine zA rfl ?_
    refine zW9 ?_
    exact wH s (t:=6) rfl (fun v W h=>by rw [zB8 hnn,zGs (k:=k) oQ hx.2 e];exact h)
   ·refine zXa ?_
    refine yC 1 ((41, .u (uI ((k+1:Nat):Int))):: []) s kJ
     (oc (yW .i64 (k:Int) 1 ((k+1:Nat):Int) iiz iiz (wrap64 _ _ oQ oQ))<|zD) fun a w8 s=> ?_
    replace s:=s.drop [24]
    refine zCF (uI ((k+1:Nat):Int)) rfl s kJ zC kJ fun a w s=> ?_
    refine zA rfl ?_
    exact ⟨k+1,⟨by omega,fun j hj=>by rcases zXn (zXo hj) with h|h;exact hx.2 j h;rw [h];exact e⟩,(by show ps.length - 1 - (k+1)<ps.length - 1 - k;omega),s.keepK _ (fmz ⟨mz5,fmz ⟨mz6,fmz ⟨mz7,fmz ⟨mz8,fmz ⟨.head _,fnz⟩⟩⟩⟩⟩)⟩
  ·have hk:k=ps.length - 1:=by have h7:=zXc e;have h8:=hx.1;rw [hlz] at h7;omega
   refine zXh ?_
   refine zW8 ?_
   refine zB 1 ((6, .u (uI (-1))):: []) hmix s kJ
    (oc zG<|zD) fun a w9 s=> ?_
   refine zA rfl ?_
   refine zW9 ?_
   exact wH s (t:=6) rfl (fun v W h=>by rw [zB8 hnn,zCy (fun j hj=>hx.2 j oQ)];exact h)
 ·refine zB 12 ((8, .Z (UF.eq q))::(9, .Z (uI ((pvs 47 ps).length:Int)))::(10, .Z (uB true))::(11, .Z (uB true))::(12, .Z (UF.eq r))::(13, .Z (UF.eq l))::(14, .Z (UF.eq q))::(15, .Y (fPV 47 (at_ ps 0)))::(16, .Z (fPV 47 (at_ ps 0)))::(17, .Z (uB (zCz R Ts (at_ ps 0))))::(18, .Z (uB (!(zCz R Ts (at_ ps 0)))))::(19, .u (uB (!(zCz R Ts (at_ ps 0))))):: []) hmix s kJ
   (oc zC<|oc (jD (z:=6) (Cs:=pvs 47 ps) kJ (fun v W hb h=>(yJ hq_ h (s.up hb))) (fun _=>rfl))<|oc (zU .i64 ((pvs 47 ps).length:Int) 1 true iiz iiz (beq_iff_eq.2 (by simp;omega)) rfl)<|oc zC<|oc (zF 11 true kJ iiz (fun _=>zC) arf)<|oc (zF 11 true kJ iiz (fun _=>zC) arf)<|oc (zF 11 true kJ iiz (fun _=>zC) arf)<|oc (zF 11 true kJ iiz (fun _=>yQ (z:=6) (Cs:=pvs 47 ps) (i:=0) (C:=CU.agg (fPV 47 (at_ ps 0))) kJ (q8 (show 0<ps.length by omega)) (fun v W hb h=>(yJ hq_ h (s.up hb))) iiz) arf)<|oc (zF 11 true kJ iiz (fun _=>zI (f:=fPV 47 (at_ ps 0)) 6 kJ (hz:=zS _ _)) arf)<|oc (zF 11 true kJ iiz (fun _=>zAg zE zUc (fun u0 u1 u2 W hb (h0:u0=r) (h1:u1=l) (h2:(fPV 47 (at_ ps 0)).p u2 W)=>zOP (m:=5) (k:=47) (M:=53) (ts:=Ts) (rs:=R) (p:=at_ ps 0) (yJ hr_ h0 (s.up hb)) (yJ ht h1 (s.up hb)) h2 dC dC dC dC dC hn hnt (hT.below (s.up hb)))) arf)<|oc (zF 11 true kJ iiz (fun _=>zA8 (zCz R Ts (at_ ps 0)) iiz (fun _=>rfl)) arf)<|oc (y4 true iiz fR (fun e=>by cases e))<|zD) fun a w10 s=> ?_
  refine zA rfl ?_
  refine StS.cond s (!(zCz R Ts (at_ ps 0))) iiz (fun e=> ?_) (fun e=> ?_)
  ·refine zW8 ?_
   replace s:=s.drop [6]
   refine zB 1 ((6, .u (uI 0)):: []) hmix s kJ
    (oc zG<|zD) fun a w11 s=> ?_
   refine zA rfl ?_
   refine zW9 ?_
   exact wH s (t:=6) rfl (fun v W h=>by rw [zFF hl1 (by simpa using e)];exact h)
  ·refine zXa ?_
   refine zW8 ?_
   refine zW8 ?_
   have hnn: ¬(ps.length=1/\zCz R Ts (at_ ps 0)=false):=fun h=>by rw [h.2] at e;cases e
   refine zB 5 ((20, .Z (UF.eq q))::(21, .Z (uI ((pvs 47 ps).length:Int)))::(22, .Z (uI (((pvs 47 ps).length:Int) - 1)))::(23, .u (uI (max (((pvs 47 ps).length:Int) - 1) 0)))::(24, .u (uI 0)):: []) hmix s kJ
    (oc zC<|oc (jD (z:=6) (Cs:=pvs 47 ps) kJ (fun v W hb h=>(yJ hq_ h (s.up hb))) (fun _=>rfl))<|oc (zGb .i64 ((pvs 47 ps).length:Int) 1 (((pvs 47 ps).length:Int) - 1) iiz iiz (by simp only [zXl];exact wY _ oQ oQ))<|oc (zIa (((pvs 47 ps).length:Int) - 1) 0 iiz iiz)<|oc zC<|zD) fun a w12 s=> ?_
   refine zA rfl ?_
   refine zXb ?_
   refine zAU (fun k=>k<=ps.length - 1/\ ∀j,j<k->zFJ R Ts ps j=false) (fun k=> [(0, .u (UF.eq r)),(1, .u (UF.eq l)),(2, .u (UF.eq q)),(23, .u (uI (max (((pvs 47 ps).length:Int) - 1) 0))),(24, .u (uI ((k:Nat):Int)))]) (fun k=>(ps.length - 1) - k) (0:Nat) (⟨zXf _,fun j hj=>absurd hj (zXk _)⟩) (s.keepK _ (fmz ⟨mz4,fmz ⟨mz5,fmz ⟨mz6,fmz ⟨.head _,fmz ⟨mz1,fnz⟩⟩⟩⟩⟩)) fun k a w hx s=> ?_
   have hlz:(pvs 47 ps).length=ps.length:=by simp
   refine zW8 ?_
   refine zB 1 ((25, .u (uB (decide ((k:Int)<max (((pvs 47 ps).length:Int) - 1) 0)))):: []) hmix s kJ
    (oc (zU .i64 (k:Int) (max (((pvs 47 ps).length:Int) - 1) 0) (decide ((k:Int)<max (((pvs 47 ps).length:Int) - 1) 0)) iiz iiz rfl rfl)<|zD) fun a w13 s=> ?_
   refine zA rfl ?_
   refine zW8 ?_
   refine StS.cond s (decide ((k:Int)<max (((pvs 47 ps).length:Int) - 1) 0)) iiz (fun e=> ?_) (fun e=> ?_)
   ·have hk:k+1<ps.length:=by have:=zXg e;rw [hlz] at this;omega
    refine zXa ?_
    refine zW8 ?_
    refine zXb ?_
    refine zW8 ?_
    refine zB 2 ((26, .Z (uI (k:Int)))::(7, .u (uI (k:Int))):: []) hmix s kJ
     (oc zC<|oc zG<|zD) fun a w14 s=> ?_
    refine zA rfl ?_
    refine zW8 ?_
    refine zB 13 ((27, .Z (UF.eq r))::(28, .Z (UF.eq l))::(29, .Z (UF.eq q))::(30, .Z (uI (k:Int)))::(31, .Y (fPV 47 (at_ ps k)))::(32, .Z (fPV 47 (at_ ps k)))::(33, .Z (UF.eq q))::(34, .Z (uI (k:Int)))::(35, .Z (uI ((k+1:Nat):Int)))::(36, .Y (fPV 47 (at_ ps (k+1))))::(37, .Z (fPV 47 (at_ ps (k+1))))::(38, .Z (uB (zCQ R Ts (at_ ps k) (at_ ps (k+1)))))::(39, .u (uB (!(zCQ R Ts (at_ ps k) (at_ ps (k+1)))))):: []) hmix s kJ
     (oc zC<|oc zC<|oc zC<|oc zC<|oc (yQ (z:=6) (Cs:=pvs 47 ps) (i:=k) (C:=CU.agg (fPV 47 (at_ ps k))) kJ (q8 (show k<ps.length by omega)) (fun v W hb h=>(yJ hq_ h (s.up hb))) iiz)<|oc (zI (f:=fPV 47 (at_ ps k)) 6 kJ (hz:=zS _ _))<|oc zC<|oc zC<|oc (yW .i64 (k:Int) 1 ((k+1:Nat):Int) iiz iiz (wrap64 _ _ oQ oQ))<|oc (yQ (z:=6) (Cs:=pvs 47 ps) (i:=(k+1)) (C:=CU.agg (fPV 47 (at_ ps (k+1)))) kJ (q8 (show k+1<ps.length by omega)) (fun v W hb h=>(yJ hq_ h (s.up hb))) iiz)<|oc (zI (f:=fPV 47 (at_ ps (k+1))) 6 kJ (hz:=zS _ _))<|oc (zBt zE zIp (fun u0 u1 u2 u3 W hb (h0:u0=r) (h1:u1=l) (h2:(fPV 47 (at_ ps k)).p u2 W) (h3:(fPV 47 (at_ ps (k+1))).p u3 W)=>zFf (yJ hr_ h0 (s.up hb)) (yJ ht h1 (s.up hb)) h2 h3 hn hnt (hT.below (s.up hb))))<|oc (zA8 (zCQ R Ts (at_ ps k) (at_ ps (k+1))) iiz (fun _=>rfl))<|zD) fun a w15 s=> ?_
    refine zA rfl ?_
    refine StS.cond s (!(zCQ R Ts (at_ ps k) (at_ ps (k+1)))) iiz (fun e=> ?_) (fun e=> ?_)
    ·refine zW8 ?_
     refine zB 2 ((40, .Z (uI (k:Int)))::(6, .u (uI (k:Int))):: []) hmix s kJ
      (oc zC<|oc zG<|zD) fun a w16 s=> ?_
     refine zA rfl ?_
     refine zW9 ?_
     exact wH s (t:=6) rfl (fun v W h=>by rw [zB8 hnn,zGs (k:=k) oQ hx.2 e];exact h)
    ·refine zXa ?_
     refine yC 1 ((41, .u (uI ((k+1:Nat):Int))):: []) s kJ
      (oc (yW .i64 (k:Int) 1 ((k+1:Nat):Int) iiz iiz (wrap64 _ _ oQ oQ))<|zD) fun a w17 s=> ?_
     replace s:=s.drop [24]
     refine zCF (uI ((k+1:Nat):Int)) rfl s kJ zC kJ fun a w s=> ?_
     refine zA rfl ?_
     exact ⟨k+1,⟨by omega,fun j hj=>by rcases zXn (zXo hj) with h|h;exact hx.2 j h;rw [h];exact e⟩,(by show ps.length - 1 - (k+1)<ps.length - 1 - k;omega),s.keepK _ (fmz ⟨mz5,fmz ⟨mz6,fmz ⟨mz7,fmz ⟨mz8,fmz ⟨.head _,fnz⟩⟩⟩⟩⟩)⟩
   ·have hk:k=ps.length - 1:=by have h7:=zXc e;have h8:=hx.1;rw [hlz] at h7;omega
    refine zXh ?_
    refine zW8 ?_
    refine zB 1 ((6, .u (uI (-1))):: []) hmix s kJ
     (oc zG<|zD) fun a w18 s=> ?_
    refine zA rfl ?_
    refine zW9 ?_
    exact wH s (t:=6) rfl (fun v W h=>by rw [zB8 hnn,zCy (fun j hj=>hx.2 j oQ)];exact h)
theorem zEy {W:Wt} {r l q:Wu} {R:List V2} {Ts:List V6} {ps:List V2} (hr_:(SF.row 6 (pvs 5 R)).p r W) (ht:(SF.row 18 (trs 5 Ts)).p l W) (hq_:(SF.row 6 (pvs 47 ps)).p q W) (hn:R.length<=1000000) (hnt:Ts.length<=1000000) (hnq:ps.length<=1000000) (hT:Tab W):Calls prog 17 #[r,l,q] W (Ret W (fB (decide (zBN R Ts ps<0))).tS):=by
 refine zZ [(UF.eq r).tS,(UF.eq l).tS,(UF.eq q).tS] func17 rfl kJ ⟨rfl,rfl,rfl,trivial⟩ fun a s=> ?_
 replace s:=s.renew [(0, .u (UF.eq r)),(1, .u (UF.eq l)),(2, .u (UF.eq q))] (fmz ⟨.inr ⟨_,rfl, .head _⟩,fmz ⟨.inr ⟨_,rfl,mz1⟩,fmz ⟨.inr ⟨_,rfl,mz2⟩,fnz⟩⟩⟩)
 refine zW8 ?_
 refine zB 1 ((6, .u (uB false)):: []) hmix s kJ
  (oc zG<|zD) fun a w1 s=> ?_
 refine zA rfl ?_
 refine zW8 ?_
 replace s:=s.drop [6]
 refine zB 6 ((7, .Z (UF.eq r))::(8, .Z (UF.eq l))::(9, .Z (UF.eq q))::(10, .Z (uI (zBN R Ts ps)))::(11, .Z (uB (decide (zBN R Ts ps<0))))::(6, .u (uB (decide (zBN R Ts ps<0)))):: []) hmix s kJ
  (oc zC<|oc zC<|oc zC<|oc (zAg zE zSB (fun u0 u1 u2 W hb (h0:u0=r) (h1:u1=l) (h2:u2=q)=>zJu (yJ hr_ h0 (s.up hb)) (yJ ht h1 (s.up hb)) (yJ hq_ h2 (s.up hb)) hn hnt hnq (hT.below (s.up hb))))<|oc (zU .i64 (zBN R Ts ps) 0 (decide (zBN R Ts ps<0)) iiz iiz rfl rfl)<|oc zG<|zD) fun a w2 s=> ?_
 refine zA rfl ?_
 refine zW9 ?_
 exact wH s (t:=6) rfl (fun v W h=>h)
theorem zPK {W:Wt} {u v:Wu} {x y:Rat} (h1:RVp 47 x u W) (h2:RVp 47 y v W) (hT:Tab W):Calls prog 75 #[u,v] W (Ret W (fQN (zAo x y)).tS):=by
 refine zZ [(fRV 47 x).tS,(fRV 47 y).tS] func75 rfl kJ ⟨h1,h2,trivial⟩ fun a s=> ?_
 refine zW8 ?_
 refine zB 0 [] hmix s kJ
  zD fun a w1 s=> ?_
 refine yK (CU.agg (fRV 47 x)) rfl s kJ (fun v W h=>jY h) fun b2 a w s=> ?_
 refine yK (CU.agg (fRV 47 y)) rfl s kJ (fun v W h=>jY h) fun b3 a w s=> ?_
 refine zT (CU.len 3) (cs:=zR3) kJ rfl s kJ (fun W=>rfl) rfl fun b4 a w s=> ?_
 refine zA rfl ?_
 refine zW8 ?_
 refine zW8 ?_
 refine zB 4 ((5, .Z (fRV 47 x))::(6, .Z (fRV 47 y))::(7, .Z (uI (qsg x y)))::(8, .u (uB (decide (qsg x y<0)))):: []) hmix s kJ
  (oc (zI (f:=fRV 47 x) 3 kJ (hz:=yM _ _))<|oc (zI (f:=fRV 47 y) 3 kJ (hz:=yM _ _))<|oc (zJ zE zGw (fun u0 u1 W hb (h0:RVp 47 x u0 W) (h1:RVp 47 y u1 W)=>zDf (m:=47) h0 h1 dC dC (hT.below (s.up hb))))<|oc (zU .i64 (qsg x y) 0 (decide (qsg x y<0)) iiz iiz rfl rfl)<|zD) fun a w2 s=> ?_
 refine zA rfl ?_
 refine StS.cond s (decide (qsg x y<0)) iiz (fun e=> ?_) (fun e=> ?_)
 ·have e0:=e
  refine zB 2 ((9, .u (fRV 47 y))::(10, .u (fRV 47 x)):: []) hmix s kJ
   (oc (zI (f:=fRV 47 y) 3 kJ (hz:=yM _ _))<|oc (zI (f:=fRV 47 x) 3 kJ (hz:=yM _ _))<|zD) fun a w3 s=> ?_
  refine zN (CU.agg (fRV 47 y)) ((fRV 47 y).tS) rfl s kJ rfl rfl rfl (yM _ _) iiz zBs fun a w s=> ?_
  refine zN (CU.agg (fRV 47 x)) ((fRV 47 x).tS) rfl s kJ rfl rfl rfl (yM _ _) iiz zBs fun a w s=> ?_
  refine zA rfl ?_
  refine zW8 ?_
  refine zB 3 ((11, .Z (fRV 47 y))::(12, .Z (fRV 47 x))::(13, .u (fQN (y - x))):: []) hmix s kJ
   (oc (zI (f:=fRV 47 y) 3 kJ (hz:=yM _ _))<|oc (zI (f:=fRV 47 x) 3 kJ (hz:=yM _ _))<|oc (zJ zE zMr (fun u0 u1 W hb (h0:RVp 47 y u0 W) (h1:RVp 47 x u1 W)=>zFv (m:=47) h0 h1 dC dC (hT.below (s.up hb))))<|zD) fun a w4 s=> ?_
  refine zN (CU.agg (fQN (y - x))) ((fQN (y - x)).tS) rfl s kJ rfl rfl rfl iiz iiz zV fun a w s=> ?_
  refine zA rfl ?_
  refine zW9 ?_
  exact wJ s (CU.agg (fQN (y - x))) rfl kJ rfl rfl (yU _) (fun cs W h=>by rw [show zAo x y=y - x from if_pos e0];exact h)
 ·have e0:=e
  refine zXa ?_
  refine zW8 ?_
  refine zB 3 ((11, .Z (fRV 47 x))::(12, .Z (fRV 47 y))::(13, .u (fQN (x - y))):: []) hmix s kJ
   (oc (zI (f:=fRV 47 x) 3 kJ (hz:=yM _ _))<|oc (zI (f:=fRV 47 y) 3 kJ (hz:=yM _ _))<|oc (zJ zE zMr (fun u0 u1 W hb (h0:RVp 47 x u0 W) (h1:RVp 47 y u1 W)=>zFv (m:=47) h0 h1 dC dC (hT.below (s.up hb))))<|zD) fun a w5 s=> ?_
  refine zN (CU.agg (fQN (x - y))) ((fQN (x - y)).tS) rfl s kJ rfl rfl rfl iiz iiz zV fun a w s=> ?_
  refine zA rfl ?_
  refine zW9 ?_
  exact wJ s (CU.agg (fQN (x - y))) rfl kJ rfl rfl (yU _) (fun cs W h=>by rw [show zAo x y=x - y from if_neg (by rw [e0];decide)];exact h)
theorem zSo (W:Wt):(SF.fn prog (T2 47 zAo)).p (.func (.func 75) #[] #[]) W:=
 zFE (enters_of func75 kJ rfl) (fun W' _ args R ⟨u,v,p,q,e,h1,h2,hT,hR⟩=>by subst e hR;simpa using zPK h1 h2 hT)
theorem zRs {W:Wt} {u v:Wu} {p q:V2} (h1:(fPV 47 p).p u W) (h2:(fPV 47 q).p v W) (hT:Tab W):Calls prog 46 #[u,v] W (Ret W (fQN (zCT p q)).tS):=by
 have hp:=zBd dC h1
 have hq:=zBd dC h2
 have hd1:QB (zAo p.1 q.1) 95:=(zDY hp.1 hq.1).mono dC
 have hd2:QB (zAo p.2 q.2) 95:=(zDY hp.2 hq.2).mono dC
 refine zZ [(fPV 47 p).tS,(fPV 47 q).tS] func46 rfl kJ ⟨h1,h2,trivial⟩ fun a s=> ?_
 refine zW8 ?_
 refine zB 0 [] hmix s kJ
  zD fun a w1 s=> ?_
 refine yK (CU.agg (fPV 47 p)) rfl s kJ (fun v W h=>y7 h) fun b2 a w s=> ?_
 refine yK (CU.agg (fPV 47 q)) rfl s kJ (fun v W h=>y7 h) fun b3 a w s=> ?_
 refine zT (CU.len 3) (cs:=zR3) kJ rfl s kJ (fun W=>rfl) rfl fun b4 a w s=> ?_
 refine zA rfl ?_
 refine zW8 ?_
 have so:=s.old;have sg:=s.gr
 refine j9 (fun i=> [].contains i) [⟨4,5,31, [.bool false, .slice none 0 0, .slice none 0 0, .bool false, .slice none 0 0, .slice none 0 0],wI w 31 (CU.len 6)⟩] 5 ((6, .s (SF.fn prog (T3 47 zAo)))::(7, .Z (fPV 47 p))::(8, .Z (fPV 47 q))::(9, .u (fPN (zAo p.1 q.1,zAo p.2 q.2)))::(5, .s (wI w 31 (CU.len 6))):: []) hmix s (fmz ⟨⟨by show 4<5;decide,mz4,⟨_,_,_,rfl⟩,by kernel_rfl,jJ (fun _=>rfl) rfl⟩,fnz⟩) kJ
  (oc (zH zE zRa (fun u0 W hb h0=>by rw [show u0=_ from h0];exact zH5 (zSo W)))<|oc (zI (f:=fPV 47 p) 6 kJ (hz:=zS _ _))<|oc (zI (f:=fPV 47 q) 6 kJ (hz:=zS _ _))<|oc (zLD (T3 47 zAo) zE iiz (fun u v W hb (h1:(fPV 47 p).p u W) (h2:(fPV 47 q).p v W)=>⟨u,v,p,q,rfl,h1,h2,hT.below (s.up hb),rfl⟩))<|oc (zAH (cs:=zP6) kJ (jJ (fun _=>rfl) rfl))<|zD) fun Q' hQ a w2 s hr hd=> ?_
 obtain ⟨b5,hB5,e5,s⟩:=s.adoptA false 5 (hr (_,_) mz4) sg (fun y hy=> .inl (so y hy))
 refine zN (CU.agg (fPN (zAo p.1 q.1,zAo p.2 q.2))) ((fPN (zAo p.1 q.1,zAo p.2 q.2)).tS) rfl s kJ rfl rfl rfl iiz iiz qD fun a w s=> ?_
 refine zA rfl (hQ _ _ ?_)
 refine zW8 ?_
 refine zB 6 ((10, .X (fPN (zAo p.1 q.1,zAo p.2 q.2)) 0)::(11, .Z (fQN ((zAo p.1 q.1,zAo p.2 q.2).1)))::(12, .X (fPN (zAo p.1 q.1,zAo p.2 q.2)) 3)::(13, .Z (fQN ((zAo p.1 q.1,zAo p.2 q.2).2)))::(14, .s (fQS 95 [(zAo p.1 q.1,zAo p.2 q.2).1,(zAo p.1 q.1,zAo p.2 q.2).2]))::(15, .u (fQN (zCT p q))):: []) hmix s kJ
  (oc (zO (C:=cg (fPN (zAo p.1 q.1,zAo p.2 q.2))) 0 kJ)<|oc (yE (C:=cg (fPN (zAo p.1 q.1,zAo p.2 q.2))) (k:=0) 3 kJ (h:=zFj))<|oc (zO (C:=cg (fPN (zAo p.1 q.1,zAo p.2 q.2))) 3 kJ)<|oc (yE (C:=cg (fPN (zAo p.1 q.1,zAo p.2 q.2))) (k:=3) 3 kJ (h:=zFi))<|oc (yG (fun u v W (hu:QNp ((zAo p.1 q.1,zAo p.2 q.2).1) u W) (hv:QNp ((zAo p.1 q.1,zAo p.2 q.2).2) v W)=>zCW (m:=95) (wD hu hd1) (wD hv hd2)))<|oc (zH zE zOs (fun u0 W hb (h0:(fQS 95 [(zAo p.1 q.1,zAo p.2 q.2).1,(zAo p.1 q.1,zAo p.2 q.2).2]).p u0 W)=>zEU (m:=95) (p:=zAo p.1 q.1) (q:=zAo p.2 q.2) h0 hd1 hd2 dC (hT.below (s.up hb))))<|zD) fun a w3 s=> ?_
 refine zN (CU.agg (fQN (zCT p q))) ((fQN (zCT p q)).tS) rfl s kJ rfl rfl rfl iiz iiz zV fun a w s=> ?_
 refine zA rfl ?_
 refine zW9 ?_
 exact wJ s (CU.agg (fQN (zCT p q))) rfl kJ rfl rfl (yU _) (fun cs W h=>h)
theorem zK1 {W:Wt} {u:Wu} {d:Rat} (h1:RVp 95 d u W):Calls prog 47 #[u] W (Ret W (fQN (if decide (d.num.sign<0)=true then 0 - d else d)).tS):=by
 refine zZ [(fRV 95 d).tS] func47 rfl kJ ⟨h1,trivial⟩ fun a s=> ?_
 refine zW8 ?_
 refine zB 0 [] hmix s kJ
  zD fun a w1 s=> ?_
 refine yK (CU.agg (fRV 95 d)) rfl s kJ (fun v W h=>jY h) fun b1 a w s=> ?_
 refine zT (CU.len 3) (cs:=zR3) kJ rfl s kJ (fun W=>rfl) rfl fun b2 a w s=> ?_
 refine zA rfl ?_
 refine zW8 ?_
 refine zW8 ?_
 refine zB 3 ((3, .Z (fRV 95 d))::(4, .Z (uI (d.num.sign)))::(5, .u (uB (decide (d.num.sign<0)))):: []) hmix s kJ
  (oc (zI (f:=fRV 95 d) 3 kJ (hz:=yM _ _))<|oc (zH zE zTk (fun u0 W hb (h0:RVp 95 d u0 W)=>zEg (m:=95) h0 dC))<|oc (zU .i64 (d.num.sign) 0 (decide (d.num.sign<0)) iiz iiz rfl rfl)<|zD) fun a w2 s=> ?_
 refine zA rfl ?_
 refine StS.cond s (decide (d.num.sign<0)) iiz (fun e=> ?_) (fun e=> ?_)
 ·have e0:=e
  refine zW8 ?_
  refine yI [] 3 ((6, .Z (fQN ((0:Int):Rat)))::(7, .Z (fRV 95 d))::(8, .u (fQN (0 - d))):: []) hmix s kJ
   (oc (zH zE zD8 (fun u0 W hb (h0:u0= .int .i64 0)=>zCb _ h0 dC))<|oc (zI (f:=fRV 95 d) 3 kJ (hz:=yM _ _))<|oc (zJ zE zOp (fun u0 u1 W hb (h0:QNp ((0:Int):Rat) u0 W) (h1:RVp 95 d u1 W)=>zF5 (m:=95) (p:=0) (q:=d) (wD h0 (QB.zero dC)) h1 dC dC))<|zD) fun Q' hQ a w3 s=> ?_
  refine zN (CU.agg (fQN (0 - d))) ((fQN (0 - d)).tS) rfl s kJ rfl rfl rfl iiz iiz zV fun a w s=> ?_
  refine zA rfl (hQ _ _ ?_)
  refine zW9 ?_
  exact wJ s (CU.agg (fQN (0 - d))) rfl kJ rfl rfl (yU _) (fun cs W h=>by rw [show (if decide (d.num.sign<0)=true then 0 - d else d)=0 - d from if_pos e0];exact h)
 ·have e0:=e
  refine zXa ?_
  refine zW8 ?_
  refine zB 2 ((9, .Z (fRV 95 d))::(10, .u (fQN d)):: []) hmix s kJ
   (oc (zI (f:=fRV 95 d) 3 kJ (hz:=yM _ _))<|oc (zH zE zHu (fun u0 W hb (h0:RVp 95 d u0 W)=>zBL (m:=95) h0 dC))<|zD) fun a w4 s=> ?_
  refine zN (CU.agg (fQN d)) ((fQN d).tS) rfl s kJ rfl rfl rfl iiz iiz zV fun a w s=> ?_
  refine zA rfl ?_
  refine zW9 ?_
  exact wJ s (CU.agg (fQN d)) rfl kJ rfl rfl (yU _) (fun cs W h=>by rw [show (if decide (d.num.sign<0)=true then 0 - d else d)=d from if_neg (by rw [e0];decide)];exact h)
theorem zQk {W:Wt} {u v:Wu} {p q:V2} (h1:(fPV 47 p).p u W) (h2:(fPV 47 q).p v W):Calls prog 20 #[u,v] W (Ret W (fQN (zCT p q)).tS):=by
 have hp:=zBd dC h1
 have hq:=zBd dC h2
 have hd1:QB (zAo p.1 q.1) 95:=(zDY hp.1 hq.1).mono dC
 have hd2:QB (zAo p.2 q.2) 95:=(zDY hp.2 hq.2).mono dC
 have hs1:QB (p.1 - q.1) 95:=(hp.1.sub hq.1).mono dC
 have hs2:QB (p.2 - q.2) 95:=(hp.2.sub hq.2).mono dC
 refine zZ [(fPV 47 p).tS,(fPV 47 q).tS] func20 rfl kJ ⟨h1,h2,trivial⟩ fun a s=> ?_
 refine zW8 ?_
 refine zB 0 [] hmix s kJ
  zD fun a w1 s=> ?_
 refine yK (CU.agg (fPV 47 p)) rfl s kJ (fun v W h=>y7 h) fun b2 a w s=> ?_
 refine yK (CU.agg (fPV 47 q)) rfl s kJ (fun v W h=>y7 h) fun b3 a w s=> ?_
 refine zT (CU.len 3) (cs:=zR3) kJ rfl s kJ (fun W=>rfl) rfl fun b4 a w s=> ?_
 refine zA rfl ?_
 refine zW8 ?_
 refine zB 3 ((6, .Z (fPV 47 p))::(7, .Z (fPV 47 q))::(8, .u (fPN (p.1 - q.1,p.2 - q.2))):: []) hmix s kJ
  (oc (zI (f:=fPV 47 p) 6 kJ (hz:=zS _ _))<|oc (zI (f:=fPV 47 q) 6 kJ (hz:=zS _ _))<|oc (zJ zE zOu (fun u0 u1 W hb (h0:(fPV 47 p).p u0 W) (h1:(fPV 47 q).p u1 W)=>zF4 (m:=47) (p:=p) (q:=q) h0 h1 dC dC))<|zD) fun a w2 s=> ?_
 refine zT (CU.len 6) (cs:=zP6) kJ rfl s kJ (fun W=>rfl) rfl fun b5 a w s=> ?_
 refine zN (CU.agg (fPN (p.1 - q.1,p.2 - q.2))) ((fPN (p.1 - q.1,p.2 - q.2)).tS) rfl s kJ rfl rfl rfl iiz iiz qD fun a w s=> ?_
 refine zA rfl ?_
 refine zW8 ?_
 refine yI [] 8 ((9, .X (fPN (p.1 - q.1,p.2 - q.2)) 0)::(10, .Z (fQN ((p.1 - q.1,p.2 - q.2).1)))::(11, .Z (fQN (zAo p.1 q.1)))::(12, .X (fPN (p.1 - q.1,p.2 - q.2)) 3)::(13, .Z (fQN ((p.1 - q.1,p.2 - q.2).2)))::(14, .Z (fQN (zAo p.2 q.2)))::(15, .s (SF.row 3 (rvs 95 [zAo p.1 q.1,zAo p.2 q.2])))::(16, .u (fQN (zCT p q))):: []) hmix s kJ
  (oc (zO (C:=cg (fPN (p.1 - q.1,p.2 - q.2))) 0 kJ)<|oc (yE (C:=cg (fPN (p.1 - q.1,p.2 - q.2))) (k:=0) 3 kJ (h:=zFj))<|oc (zH zE zSA (fun u0 W hb (h0:QNp ((p.1 - q.1,p.2 - q.2).1) u0 W)=>(zK1 (d:=p.1 - q.1) (wD h0 hs1)).mono (wG (fun v W h=>zMQ h))))<|oc (zO (C:=cg (fPN (p.1 - q.1,p.2 - q.2))) 3 kJ)<|oc (yE (C:=cg (fPN (p.1 - q.1,p.2 - q.2))) (k:=3) 3 kJ (h:=zFi))<|oc (zH zE zSA (fun u0 W hb (h0:QNp ((p.1 - q.1,p.2 - q.2).2) u0 W)=>(zK1 (d:=p.2 - q.2) (wD h0 hs2)).mono (wG (fun v W h=>zMQ h))))<|oc (yG (fun u v W (hu:QNp (zAo p.1 q.1) u W) (hv:QNp (zAo p.2 q.2) v W)=>zDb (m:=95) (wD hu hd1) (wD hv hd2)))<|oc (zH zE zMs (fun u0 W hb (h0:(SF.row 3 (rvs 95 [zAo p.1 q.1,zAo p.2 q.2])).p u0 W)=>zDg (m:=95) (p:=zAo p.1 q.1) (q:=zAo p.2 q.2) h0 hd1 hd2 dC))<|zD) fun Q' hQ a w3 s=> ?_
 refine zN (CU.agg (fQN (zCT p q))) ((fQN (zCT p q)).tS) rfl s kJ rfl rfl rfl iiz iiz zV fun a w s=> ?_
 refine zA rfl (hQ _ _ ?_)
 refine zW9 ?_
 exact wJ s (CU.agg (fQN (zCT p q))) rfl kJ rfl rfl (yU _) (fun cs W h=>h)
theorem zMC {W:Wt} {q:Wu} {ps:List V2} (hq_:(SF.row 6 (pvs 47 ps)).p q W) (hnq:ps.length<=3) (hT:Tab W):Calls prog 19 #[q] W (Ret W (fQN (zDt ps (ps.length - 1))).tS):=by
 have hqb:=zDi dC hq_
 refine zZ [(UF.eq q).tS] func19 rfl kJ ⟨rfl,trivial⟩ fun a s=> ?_
 replace s:=s.renew [(0, .u (UF.eq q))] (fmz ⟨.inr ⟨_,rfl, .head _⟩,fnz⟩)
 refine zW8 ?_
 refine zB 0 [] hmix s kJ
  zD fun a w1 s=> ?_
 refine zT (CU.len 3) (cs:=zR3) kJ rfl s kJ (fun W=>rfl) rfl fun b2 a w s=> ?_
 refine zA rfl ?_
 refine zW8 ?_
 refine zB 1 ((5, .u (fQN ((0:Int):Rat))):: []) hmix s kJ
  (oc (zH zE zHt (fun u0 W hb (h0:u0= .int .i64 0)=>zHT _ h0 dC))<|zD) fun a w2 s=> ?_
 refine zT (CU.len 3) (cs:=zR3) kJ rfl s kJ (fun W=>rfl) rfl fun b3 a w s=> ?_
 refine zN (CU.agg (fQN (zDt ps 0))) ((fQN (zDt ps 0)).tS) rfl s kJ rfl rfl rfl iiz iiz zV fun a w s=> ?_
 refine zA rfl ?_
 refine zW8 ?_
 refine zW8 ?_
 refine zB 5 ((6, .Z (UF.eq q))::(7, .Z (uI ((pvs 47 ps).length:Int)))::(8, .Z (uI (((pvs 47 ps).length:Int) - 1)))::(9, .u (uI (max (((pvs 47 ps).length:Int) - 1) 0)))::(10, .u (uI 0)):: []) hmix s kJ
  (oc zC<|oc (jD (z:=6) (Cs:=pvs 47 ps) kJ (fun v W hb h=>(yJ hq_ h (s.up hb))) (fun _=>rfl))<|oc (zGb .i64 ((pvs 47 ps).length:Int) 1 (((pvs 47 ps).length:Int) - 1) iiz iiz (by simp only [zXl];exact wY _ oQ oQ))<|oc (zIa (((pvs 47 ps).length:Int) - 1) 0 iiz iiz)<|oc zC<|zD) fun a w3 s=> ?_
 refine zA rfl ?_
 refine zXb ?_
 refine zDa 3 (fun k=>CU.agg (fQN (zDt ps k))) (fun k=>k<=ps.length - 1) (fun k=> [(0, .u (UF.eq q)),(9, .u (uI (max (((pvs 47 ps).length:Int) - 1) 0))),(10, .u (uI ((k:Nat):Int)))]) (fun k=>(ps.length - 1) - k) (0:Nat) (zXf _) (s.keepK _ (fmz ⟨mz3,fmz ⟨.head _,fmz ⟨mz1,fnz⟩⟩⟩)) rfl fun k a w hx s=> ?_
 have hlz:(pvs 47 ps).length=ps.length:=by simp
 refine zW8 ?_
 refine zB 1 ((11, .u (uB (decide ((k:Int)<max (((pvs 47 ps).length:Int) - 1) 0)))):: []) hmix s kJ
  (oc (zU .i64 (k:Int) (max (((pvs 47 ps).length:Int) - 1) 0) (decide ((k:Int)<max (((pvs 47 ps).length:Int) - 1) 0)) iiz iiz rfl rfl)<|zD) fun a w4 s=> ?_
 refine zA rfl ?_
 refine zW8 ?_
 refine StS.cond s (decide ((k:Int)<max (((pvs 47 ps).length:Int) - 1) 0)) iiz (fun e=> ?_) (fun e=> ?_)
 ·have hk:k+1<ps.length:=by have:=zXg e;rw [hlz] at this;omega
  have hlq:=zLY hqb k oQ oQ
  have hfq:QB (zCT (at_ ps k) (at_ ps (k+1))) 400:=(zFa (hqb _ (qT (show k<ps.length by omega))) (hqb _ (qT hk))).mono dC
  refine zXa ?_
  refine zW8 ?_
  refine zXb ?_
  refine zW8 ?_
  refine zB 2 ((12, .Z (uI (k:Int)))::(4, .u (uI (k:Int))):: []) hmix s kJ
   (oc zC<|oc zG<|zD) fun a w5 s=> ?_
  refine zA rfl ?_
  refine yI [1,2,5,6] 13 ((13, .Z (fQN (zDt ps k)))::(14, .Z (UF.eq q))::(15, .Z (uI (k:Int)))::(16, .Y (fPV 47 (at_ ps k)))::(17, .Z (fPV 47 (at_ ps k)))::(18, .Z (UF.eq q))::(19, .Z (uI (k:Int)))::(20, .Z (uI ((k+1:Nat):Int)))::(21, .Y (fPV 47 (at_ ps (k+1))))::(22, .Z (fPV 47 (at_ ps (k+1))))::(23, .Z (fQN (zCT (at_ ps k) (at_ ps (k+1)))))::(24, .s (fQS 400 [(zDt ps k),(zCT (at_ ps k) (at_ ps (k+1)))]))::(25, .u (fQN (zDt ps (k+1)))):: []) hmix s kJ
   (oc (zI (f:=fQN (zDt ps k)) 3 kJ (hz:=yU _))<|oc zC<|oc zC<|oc (yQ (z:=6) (Cs:=pvs 47 ps) (i:=k) (C:=CU.agg (fPV 47 (at_ ps k))) kJ (q8 (show k<ps.length by omega)) (fun v W hb h=>(yJ hq_ h (s.up hb))) iiz)<|oc (zI (f:=fPV 47 (at_ ps k)) 6 kJ (hz:=zS _ _))<|oc zC<|oc zC<|oc (yW .i64 (k:Int) 1 ((k+1:Nat):Int) iiz iiz (wrap64 _ _ oQ oQ))<|oc (yQ (z:=6) (Cs:=pvs 47 ps) (i:=(k+1)) (C:=CU.agg (fPV 47 (at_ ps (k+1)))) kJ (q8 (show k+1<ps.length by omega)) (fun v W hb h=>(yJ hq_ h (s.up hb))) iiz)<|oc (zI (f:=fPV 47 (at_ ps (k+1))) 6 kJ (hz:=zS _ _))<|oc (zJ zE zUf (fun u0 u1 W hb (h0:(fPV 47 (at_ ps k)).p u0 W) (h1:(fPV 47 (at_ ps (k+1))).p u1 W)=>zRs (p:=at_ ps k) (q:=at_ ps (k+1)) h0 h1 (hT.below (s.up hb))))<|oc (yG (fun u v W (hu:QNp (zDt ps k) u W) (hv:QNp (zCT (at_ ps k) (at_ ps (k+1))) v W)=>zCW (m:=400) (wD hu hlq) (wD hv hfq)))<|oc (zH zE zOs (fun u0 W hb (h0:(fQS 400 [(zDt ps k),(zCT (at_ ps k) (at_ ps (k+1)))]).p u0 W)=>zEU (m:=400) (p:=zDt ps k) (q:=zCT (at_ ps k) (at_ ps (k+1))) h0 hlq hfq dC (hT.below (s.up hb))))<|zD) fun Q' hQ a w6 s=> ?_
  refine zN (CU.agg (fQN (zDt ps (k+1)))) ((fQN (zDt ps (k+1))).tS) rfl s kJ rfl rfl rfl (yU _) iiz zV fun a w s=> ?_
  refine zA rfl (hQ _ _ ?_)
  refine yC 1 ((26, .u (uI ((k+1:Nat):Int))):: []) s kJ
   (oc (yW .i64 (k:Int) 1 ((k+1:Nat):Int) iiz iiz (wrap64 _ _ oQ oQ))<|zD) fun a w7 s=> ?_
  replace s:=s.drop [10]
  refine zCF (uI ((k+1:Nat):Int)) rfl s kJ zC kJ fun a w s=> ?_
  refine zA rfl ?_
  exact ⟨k+1,oQ,(by show ps.length - 1 - (k+1)<ps.length - 1 - k;omega),s.keepK _ (fmz ⟨mz5,fmz ⟨mz6,fmz ⟨.head _,fnz⟩⟩⟩)⟩
 ·have hkN:k=ps.length - 1:=by have h7:=zXc e;rw [hlz] at h7;omega
  subst hkN
  refine zXh ?_
  refine zW8 ?_
  refine zB 1 ((27, .u (fQN (zDt ps (ps.length - 1)))):: []) hmix s kJ
   (oc (zI (f:=fQN (zDt ps (ps.length - 1))) 3 kJ (hz:=yU _))<|zD) fun a w8 s=> ?_
  refine zN (CU.agg (fQN (zDt ps (ps.length - 1)))) ((fQN (zDt ps (ps.length - 1))).tS) rfl s kJ rfl rfl rfl iiz iiz zV fun a w s=> ?_
  refine zA rfl ?_
  refine zW9 ?_
  exact wJ s (CU.agg (fQN (zDt ps (ps.length - 1)))) rfl kJ rfl rfl (yU _) (fun cs W h=>h)
end Go.Proofs.Wd

namespace Go.Proofs.Wd
open Tryz
set_option maxRecDepth 100000
set_option maxHeartbeats 1000000
open Go.RowKit Lb
theorem zPJ {W:Wt} {u v:Wu} {p q:V2} (h1:(fPV 47 p).p u W) (h2:(fPV 47 q).p v W) (hT:Tab W):Calls prog 56 #[u,v] W (Ret W (fB (zFd p q==0)).tS):=by
 refine zZ [(fPV 47 p).tS,(fPV 47 q).tS] func56 rfl kJ ⟨h1,h2,trivial⟩ fun a s=> ?_
 refine zW8 ?_
 refine zB 0 [] hmix s kJ
  zD fun a w1 s=> ?_
 refine yK (CU.agg (fPV 47 p)) rfl s kJ (fun v W h=>y7 h) fun b2 a w s=> ?_
 refine yK (CU.agg (fPV 47 q)) rfl s kJ (fun v W h=>y7 h) fun b3 a w s=> ?_
 refine yT (uB false) rfl s kJ iiz fun a w s=> ?_
 refine zA rfl ?_
 refine zW8 ?_
 replace s:=s.drop [4]
 refine zB 5 ((5, .Z (fPV 47 p))::(6, .Z (fPV 47 q))::(7, .Z (uI (zFd p q)))::(8, .Z (uB (zFd p q==0)))::(4, .u (uB (zFd p q==0))):: []) hmix s kJ
  (oc (zI (f:=fPV 47 p) 6 kJ (hz:=zS _ _))<|oc (zI (f:=fPV 47 q) 6 kJ (hz:=zS _ _))<|oc (zJ zE zTY (fun u0 u1 W hb (h0:(fPV 47 p).p u0 W) (h1:(fPV 47 q).p u1 W)=>zRt (m:=47) h0 h1 dC dC (hT.below (s.up hb))))<|oc (zU .i64 (zFd p q) 0 (zFd p q==0) iiz iiz rfl rfl)<|oc zG<|zD) fun a w2 s=> ?_
 refine zA rfl ?_
 refine zW9 ?_
 exact wH s (t:=4) rfl (fun v W h=>h)
theorem zOE {W:Wt} {l:Wu} {ps:List V2} (hl:(SF.row 6 (pvs 47 ps)).p l W) (hn:ps.length<=1000000) (hT:Tab W):Calls prog 35 #[l] W (Ret W (wL W 31 6 (pvs 47 (plV ps ps.length)))):=by
 refine zZ [(UF.eq l).tS] func35 rfl kJ ⟨rfl,trivial⟩ fun a s=> ?_
 replace s:=s.renew [(0, .u (UF.eq l))] (fmz ⟨.inr ⟨_,rfl, .head _⟩,fnz⟩)
 refine zW8 ?_
 refine zB 1 ((2, .u (UF.eq (.slice none 0 0))):: []) hmix s kJ
  (oc zG<|zD) fun a w1 s=> ?_
 refine zA rfl ?_
 refine zW8 ?_
 refine zW8 ?_
 refine zB 3 ((5, .u (UF.eq l))::(6, .u (uI ((pvs 47 ps).length:Int)))::(7, .u (uI 0)):: []) hmix s kJ
  (oc zC<|oc (jD (z:=6) (Cs:=pvs 47 ps) kJ (fun v W hb h=>(yJ hl h (s.up hb))) (fun _=>rfl))<|oc zC<|zD) fun a w2 s=> ?_
 refine zA rfl ?_
 refine zXb ?_
 obtain ⟨base,hbase⟩: ∃b,b=w2.heap.size:=⟨_,rfl⟩
 have hbb:=s.gr.size
 have hb0':_<=base:=hbase▸hbb
 have hsz0:base<=w2.heap.size:=by rw [hbase];exact Nat.le_refl _
 refine zEL (fun (q:Nat×Wu) w=>q.1<=ps.length/\base<=w.heap.size/\zBU w base 31 6 q.2 (pvs 47 (plV ps q.1))) (fun q=> [(0, .u (UF.eq l)),(5, .u (UF.eq l)),(6, .u (uI ((pvs 47 ps).length:Int))),(2, .u (UF.eq (q.2))),(7, .u (uI (q.1:Int)))]) (fun q=>ps.length - q.1) (0, .slice none 0 0) (⟨zXf _,hsz0,zBU.nil _ _ _ _⟩) (s.keepK _ (fmz ⟨mz4,fmz ⟨.head _,fmz ⟨mz1,fmz ⟨mz3,fmz ⟨mz2,fnz⟩⟩⟩⟩⟩)) fun q a w hI s=> ?_
 have s0:=s
 have hlw:=(SF.row 6 (pvs 47 ps)).st _ _ _ hl s0.below
 have hT0:=hT
 have hT:=hT0.below s0.below
 replace s:=s.reb rfl [(0, .u (UF.eq l)),(5, .u (UF.eq l)),(6, .u (uI ((pvs 47 ps).length:Int))),(2, .u (UF.eq (q.2))),(7, .u (uI (q.1:Int)))] (fmz ⟨.inl (.head _),fmz ⟨.inl mz1,fmz ⟨.inl mz2,fmz ⟨.inl mz3,fmz ⟨.inl mz4,fnz⟩⟩⟩⟩⟩)
 refine zW8 ?_
 refine zB 1 ((8, .u (uB (decide ((q.1:Int)<((pvs 47 ps).length:Int))))):: []) hmix s kJ
  (oc (zU .i64 (q.1:Int) ((pvs 47 ps).length:Int) (decide ((q.1:Int)<((pvs 47 ps).length:Int))) iiz iiz rfl rfl)<|zD) fun a w3 s=> ?_
 refine zA rfl ?_
 refine zW8 ?_
 refine StS.cond s (decide ((q.1:Int)<((pvs 47 ps).length:Int))) iiz (fun e=> ?_) (fun e=> ?_)
 ·have hk:q.1<ps.length:=by have:=zXg e;simp at this;omega
  refine zXa ?_
  refine zW8 ?_
  refine zXb ?_
  refine zW8 ?_
  refine zB 3 ((9, .u (uI (q.1:Int)))::(10, .Y (fPV 47 (at_ ps q.1)))::(11, .u (fPV 47 (at_ ps q.1))):: []) hmix s kJ
   (oc zC<|oc (yQ (z:=6) (Cs:=pvs 47 ps) (i:=q.1) (C:=CU.agg (fPV 47 (at_ ps q.1))) kJ (q8 hk) (fun v W hb h=>(yJ hlw h (s.up hb))) iiz)<|oc (zI (f:=fPV 47 (at_ ps q.1)) 6 kJ (hz:=zS _ _))<|zD) fun a w4 s=> ?_
  refine zT (CU.len 6) (cs:=zP6) kJ rfl s kJ (fun W=>rfl) rfl fun b4 a w s=> ?_
  refine yT (uI (q.1:Int)) rfl s kJ iiz fun a w s=> ?_
  refine zN (CU.agg (fPV 47 (at_ ps q.1))) ((fPV 47 (at_ ps q.1)).tS) rfl s kJ rfl rfl rfl iiz iiz qD fun a w s=> ?_
  refine zA rfl ?_
  refine zW8 ?_
  rcases Nat.eq_zero_or_pos q.1 with hq0|hq1
  ·refine zB 12 ((12, .Z (uI (q.1:Int)))::(13, .Z (uB true))::(14, .Z (uB true))::(23, .u (uB true)):: []) hmix s kJ
    (oc zC<|oc (zU .i64 (q.1:Int) 0 true iiz iiz (beq_iff_eq.2 oQ) rfl)<|oc zC<|oc (zF 14 true kJ iiz (fun e=>by cases e) (fun _ _=>trivial))<|oc (zF 14 true kJ iiz (fun e=>by cases e) (fun _ _=>trivial))<|oc (zF 14 true kJ iiz (fun e=>by cases e) (fun _ _=>trivial))<|oc (zF 14 true kJ iiz (fun e=>by cases e) (fun _ _=>trivial))<|oc (zF 14 true kJ iiz (fun e=>by cases e) (fun _ _=>trivial))<|oc (zF 14 true kJ iiz (fun e=>by cases e) (fun _ _=>trivial))<|oc (zF 14 true kJ iiz (fun e=>by cases e) (fun _ _=>trivial))<|oc (zF 14 true kJ iiz (fun e=>by cases e) (fun _ _=>trivial))<|oc (y4 true iiz fR (fun e=>by cases e))<|zD) fun a w5 s=> ?_
   refine zA rfl ?_
   refine StS.cond s true iiz (fun e=> ?_) (fun e=>by cases e)
   refine zB1 3 ((24, .u (UF.eq (q.2)))::(25, .Z (fPV 47 (at_ ps q.1)))::(26, .s (SF.row 6 [CU.agg (fPV 47 (at_ ps q.1))])):: []) s kJ
    (oc zC<|oc (zI (f:=fPV 47 (at_ ps q.1)) 6 kJ (hz:=zS _ _))<|oc (jW (fun u W (hu:(fPV 47 (at_ ps q.1)).p u W)=>zEO hu))<|zD) fun a w6 s hr=> ?_
   refine zJE ([CU.agg (fPV 47 (at_ ps q.1))]) s0 (s.keepK [(24, .u (UF.eq (q.2))),(23, .u (uB true)),(3, .u (uI (q.1:Int))),(9, .u (uI (q.1:Int))),(11, .u (fPV 47 (at_ ps q.1))),(8, .u (uB (decide ((q.1:Int)<((pvs 47 ps).length:Int))))),(0, .u (UF.eq l)),(5, .u (UF.eq l)),(6, .u (uI ((pvs 47 ps).length:Int))),(2, .u (UF.eq (q.2))),(7, .u (uI (q.1:Int)))] (fmz ⟨.head _,fmz ⟨mz1,fmz ⟨mz2,fmz ⟨mz3,fmz ⟨mz4,fmz ⟨mz5,fmz ⟨mz6,fmz ⟨mz7,fmz ⟨mz8,fmz ⟨mz9,fmz ⟨zFm,fnz⟩⟩⟩⟩⟩⟩⟩⟩⟩⟩⟩)) hb0' hI.2 rfl kJ kJ kJ (s.fct (.tmp 24)) (hr (_,_) mz2) (zHb _ _) (by have:=zH4 ps q.1;simp;omega) (fun x hx hr=>by rcases zXd.1 hx with rfl|hx;cases hr;cases hx) fun v' a w hI' s=> ?_
   have s1:=s
   replace s:StS _ _ _ [⟨4,31,CU.agg (fPV 47 (at_ ps q.1)),b4,true⟩] _ _ _ _:=s.freeze
   replace s:=s.reb rfl [(27, .u (UF.eq v')),(24, .u (UF.eq (q.2))),(23, .u (uB true)),(3, .u (uI (q.1:Int))),(9, .u (uI (q.1:Int))),(11, .u (fPV 47 (at_ ps q.1))),(8, .u (uB (decide ((q.1:Int)<((pvs 47 ps).length:Int))))),(0, .u (UF.eq l)),(5, .u (UF.eq l)),(6, .u (uI ((pvs 47 ps).length:Int))),(2, .u (UF.eq (q.2))),(7, .u (uI (q.1:Int)))] (fmz ⟨.inl (.head _),fmz ⟨.inl mz1,fmz ⟨.inl mz2,fmz ⟨.inl mz3,fmz ⟨.inl mz4,fmz ⟨.inl mz5,fmz ⟨.inl mz6,fmz ⟨.inl mz7,fmz ⟨.inl mz8,fmz ⟨.inl mz9,fmz ⟨.inl zFm,fmz ⟨.inl zLM,fnz⟩⟩⟩⟩⟩⟩⟩⟩⟩⟩⟩⟩)
   replace s:=s.drop [2]
   refine yT (UF.eq v') rfl s kJ iiz fun a w s=> ?_
   refine zA rfl ?_
   refine yC 1 ((28, .u (uI ((q.1+1:Nat):Int))):: []) s kJ
    (oc (yW .i64 (q.1:Int) 1 ((q.1+1:Nat):Int) iiz iiz (wrap64 _ _ oQ oQ))<|zD) fun a w7 s=> ?_
   replace s:=s.drop [7]
   refine zCF (uI ((q.1+1:Nat):Int)) rfl s kJ zC kJ fun a w s=> ?_
   refine zA rfl ?_
   replace s:=s.popB
   have hbw:=s.below
   replace s:=s1.back (s.keepK [(7, .u (uI ((q.1+1:Nat):Int))),(28, .u (uI ((q.1+1:Nat):Int))),(2, .u (UF.eq v')),(27, .u (UF.eq v')),(24, .u (UF.eq (q.2))),(23, .u (uB true)),(3, .u (uI (q.1:Int))),(9, .u (uI (q.1:Int))),(11, .u (fPV 47 (at_ ps q.1))),(8, .u (uB (decide ((q.1:Int)<((pvs 47 ps).length:Int))))),(0, .u (UF.eq l)),(5, .u (UF.eq l)),(6, .u (uI ((pvs 47 ps).length:Int)))] (fmz ⟨.head _,fmz ⟨mz1,fmz ⟨mz2,fmz ⟨mz3,fmz ⟨mz4,fmz ⟨mz5,fmz ⟨mz6,fmz ⟨mz7,fmz ⟨mz8,fmz ⟨mz9,fmz ⟨zFm,fmz ⟨zLM,fmz ⟨zSd,fnz⟩⟩⟩⟩⟩⟩⟩⟩⟩⟩⟩⟩⟩)) rfl
   exact ⟨(q.1+1,v'),(by show ps.length - (q.1+1)<ps.length - q.1;omega),⟨hk,zXm hI'.1 hbw.size,by show zBU _ _ _ _ _ (pvs 47 (plV ps (q.1+1)));rw [zR8 (by simp [hq0]), <-zI5];exact hI'.2.below hbw⟩,s.keepK _ (fmz ⟨zFm,fmz ⟨zLM,fmz ⟨zSd,fmz ⟨mz2,fmz ⟨.head _,fnz⟩⟩⟩⟩⟩)⟩
  ·have hq0: ¬q.1=0:=by omega
   refine zB 12 ((12, .Z (uI (q.1:Int)))::(13, .Z (uB false))::(14, .Z (uB false))::(15, .Z (fPV 47 (at_ ps q.1)))::(16, .Z (UF.eq l))::(17, .Z (uI (q.1:Int)))::(18, .Z (uI ((q.1 - 1:Nat):Int)))::(19, .Y (fPV 47 (at_ ps (q.1 - 1))))::(20, .Z (fPV 47 (at_ ps (q.1 - 1))))::(21, .Z (uB (zFd (at_ ps q.1) (at_ ps (q.1 - 1))==0)))::(22, .Z (uB (!(zFd (at_ ps q.1) (at_ ps (q.1 - 1))==0))))::(23, .u (uB (!(zFd (at_ ps q.1) (at_ ps (q.1 - 1))==0)))):: []) hmix s kJ
    (oc zC<|oc (zU .i64 (q.1:Int) 0 false iiz iiz (beq_eq_false_iff_ne.2 oQ) rfl)<|oc zC<|oc (zF 14 false kJ iiz (fun _=>zI (f:=fPV 47 (at_ ps q.1)) 6 kJ (hz:=zS _ _)) arf)<|oc (zF 14 false kJ iiz (fun _=>zC) arf)<|oc (zF 14 false kJ iiz (fun _=>zC) arf)<|oc (zF 14 false kJ iiz (fun _=>zGb .i64 (q.1:Int) 1 ((q.1 - 1:Nat):Int) iiz iiz (by rw [wY _ oQ oQ];omega)) arf)<|oc (zF 14 false kJ iiz (fun _=>yQ (z:=6) (Cs:=pvs 47 ps) (i:=(q.1 - 1)) (C:=CU.agg (fPV 47 (at_ ps (q.1 - 1)))) kJ (q8 (show q.1 - 1<ps.length by omega)) (fun v W hb h=>(yJ hlw h (s.up hb))) iiz) arf)<|oc (zF 14 false kJ iiz (fun _=>zI (f:=fPV 47 (at_ ps (q.1 - 1))) 6 kJ (hz:=zS _ _)) arf)<|oc (zF 14 false kJ iiz (fun _=>zJ zE zUb (fun u0 u1 W hb (h0:(fPV 47 (at_ ps q.1)).p u0 W) (h1:(fPV 47 (at_ ps (q.1 - 1))).p u1 W)=>zPJ h0 h1 (hT.below (s.up hb)))) arf)<|oc (zF 14 false kJ iiz (fun _=>zA8 (zFd (at_ ps q.1) (at_ ps (q.1 - 1))==0) iiz (fun _=>rfl)) arf)<|oc (y4 false iiz (fun e=>by cases e) fR)<|zD) fun a w8 s=> ?_
   refine zA rfl ?_
   refine StS.cond s (!(zFd (at_ ps q.1) (at_ ps (q.1 - 1))==0)) iiz (fun e=> ?_) (fun e=> ?_)
   ·refine zB1 3 ((24, .u (UF.eq (q.2)))::(25, .Z (fPV 47 (at_ ps q.1)))::(26, .s (SF.row 6 [CU.agg (fPV 47 (at_ ps q.1))])):: []) s kJ
     (oc zC<|oc (zI (f:=fPV 47 (at_ ps q.1)) 6 kJ (hz:=zS _ _))<|oc (jW (fun u W (hu:(fPV 47 (at_ ps q.1)).p u W)=>zEO hu))<|zD) fun a w9 s hr=> ?_
    refine zJE ([CU.agg (fPV 47 (at_ ps q.1))]) s0 (s.keepK [(24, .u (UF.eq (q.2))),(23, .u (uB (!(zFd (at_ ps q.1) (at_ ps (q.1 - 1))==0)))),(3, .u (uI (q.1:Int))),(9, .u (uI (q.1:Int))),(11, .u (fPV 47 (at_ ps q.1))),(8, .u (uB (decide ((q.1:Int)<((pvs 47 ps).length:Int))))),(0, .u (UF.eq l)),(5, .u (UF.eq l)),(6, .u (uI ((pvs 47 ps).length:Int))),(2, .u (UF.eq (q.2))),(7, .u (uI (q.1:Int)))] (fmz ⟨.head _,fmz ⟨mz1,fmz ⟨mz2,fmz ⟨mz3,fmz ⟨mz4,fmz ⟨mz5,fmz ⟨mz6,fmz ⟨mz7,fmz ⟨mz8,fmz ⟨mz9,fmz ⟨zFm,fnz⟩⟩⟩⟩⟩⟩⟩⟩⟩⟩⟩)) hb0' hI.2 rfl kJ kJ kJ (s.fct (.tmp 24)) (hr (_,_) mz2) (zHb _ _) (by have:=zH4 ps q.1;simp;omega) (fun x hx hr=>by rcases zXd.1 hx with rfl|hx;cases hr;cases hx) fun v' a w hI' s=> ?_
    have s1:=s
    replace s:StS _ _ _ [⟨4,31,CU.agg (fPV 47 (at_ ps q.1)),b4,true⟩] _ _ _ _:=s.freeze
    replace s:=s.reb rfl [(27, .u (UF.eq v')),(24, .u (UF.eq (q.2))),(23, .u (uB (!(zFd (at_ ps q.1) (at_ ps (q.1 - 1))==0)))),(3, .u (uI (q.1:Int))),(9, .u (uI (q.1:Int))),(11, .u (fPV 47 (at_ ps q.1))),(8, .u (uB (decide ((q.1:Int)<((pvs 47 ps).length:Int))))),(0, .u (UF.eq l)),(5, .u (UF.eq l)),(6, .u (uI ((pvs 47 ps).length:Int))),(2, .u (UF.eq (q.2))),(7, .u (uI (q.1:Int)))] (fmz ⟨.inl (.head _),fmz ⟨.inl mz1,fmz ⟨.inl mz2,fmz ⟨.inl mz3,fmz ⟨.inl mz4,fmz ⟨.inl mz5,fmz ⟨.inl mz6,fmz ⟨.inl mz7,fmz ⟨.inl mz8,fmz ⟨.inl mz9,fmz ⟨.inl zFm,fmz ⟨.inl zLM,fnz⟩⟩⟩⟩⟩⟩⟩⟩⟩⟩⟩⟩)
    replace s:=s.drop [2]
    refine yT (UF.eq v') rfl s kJ iiz fun a w s=> ?_
    refine zA rfl ?_
    refine yC 1 ((28, .u (uI ((q.1+1:Nat):Int))):: []) s kJ
     (oc (yW .i64 (q.1:Int) 1 ((q.1+1:Nat):Int) iiz iiz (wrap64 _ _ oQ oQ))<|zD) fun a w10 s=> ?_
    replace s:=s.drop [7]
    refine zCF (uI ((q.1+1:Nat):Int)) rfl s kJ zC kJ fun a w s=> ?_
    refine zA rfl ?_
    replace s:=s.popB
    have hbw:=s.below
    replace s:=s1.back (s.keepK [(7, .u (uI ((q.1+1:Nat):Int))),(28, .u (uI ((q.1+1:Nat):Int))),(2, .u (UF.eq v')),(27, .u (UF.eq v')),(24, .u (UF.eq (q.2))),(23, .u (uB (!(zFd (at_ ps q.1) (at_ ps (q.1 - 1))==0)))),(3, .u (uI (q.1:Int))),(9, .u (uI (q.1:Int))),(11, .u (fPV 47 (at_ ps q.1))),(8, .u (uB (decide ((q.1:Int)<((pvs 47 ps).length:Int))))),(0, .u (UF.eq l)),(5, .u (UF.eq l)),(6, .u (uI ((pvs 47 ps).length:Int)))] (fmz ⟨.head _,fmz ⟨mz1,fmz ⟨mz2,fmz ⟨mz3,fmz ⟨mz4,fmz ⟨mz5,fmz ⟨mz6,fmz ⟨mz7,fmz ⟨mz8,fmz ⟨mz9,fmz ⟨zFm,fmz ⟨zLM,fmz ⟨zSd,fnz⟩⟩⟩⟩⟩⟩⟩⟩⟩⟩⟩⟩⟩)) rfl
    exact ⟨(q.1+1,v'),(by show ps.length - (q.1+1)<ps.length - q.1;omega),⟨hk,zXm hI'.1 hbw.size,by show zBU _ _ _ _ _ (pvs 47 (plV ps (q.1+1)));rw [zR8 (by rw [decide_eq_false hq0];exact e), <-zI5];exact hI'.2.below hbw⟩,s.keepK _ (fmz ⟨zFm,fmz ⟨zLM,fmz ⟨zSd,fmz ⟨mz2,fmz ⟨.head _,fnz⟩⟩⟩⟩⟩)⟩
   ·refine zXa ?_
    refine yC 1 ((28, .u (uI ((q.1+1:Nat):Int))):: []) s kJ
     (oc (yW .i64 (q.1:Int) 1 ((q.1+1:Nat):Int) iiz iiz (wrap64 _ _ oQ oQ))<|zD) fun a w11 s=> ?_
    replace s:=s.drop [7]
    refine zCF (uI ((q.1+1:Nat):Int)) rfl s kJ zC kJ fun a w s=> ?_
    refine zA rfl ?_
    replace s:=s.popB
    have hbw:=s.below
    replace s:=s0.back (s.keepK [(7, .u (uI ((q.1+1:Nat):Int))),(28, .u (uI ((q.1+1:Nat):Int))),(23, .u (uB (!(zFd (at_ ps q.1) (at_ ps (q.1 - 1))==0)))),(3, .u (uI (q.1:Int))),(9, .u (uI (q.1:Int))),(11, .u (fPV 47 (at_ ps q.1))),(8, .u (uB (decide ((q.1:Int)<((pvs 47 ps).length:Int))))),(0, .u (UF.eq l)),(5, .u (UF.eq l)),(6, .u (uI ((pvs 47 ps).length:Int))),(2, .u (UF.eq (q.2)))] (fmz ⟨.head _,fmz ⟨mz1,fmz ⟨mz2,fmz ⟨mz3,fmz ⟨mz4,fmz ⟨mz5,fmz ⟨mz6,fmz ⟨mz7,fmz ⟨mz8,fmz ⟨mz9,fmz ⟨zFm,fnz⟩⟩⟩⟩⟩⟩⟩⟩⟩⟩⟩)) rfl
    exact ⟨(q.1+1,q.2),(by show ps.length - (q.1+1)<ps.length - q.1;omega),⟨hk,zXm hI.2.1 hbw.size,by show zBU _ _ _ _ _ (pvs 47 (plV ps (q.1+1)));rw [zTF (by rw [decide_eq_false hq0];exact e)];exact hI.2.2.below hbw⟩,s.keepK _ (fmz ⟨mz7,fmz ⟨mz8,fmz ⟨mz9,fmz ⟨zFm,fmz ⟨.head _,fnz⟩⟩⟩⟩⟩)⟩
 ·have hk:q.1=ps.length:=by have h7:=zXc e;have h8:=hI.1;simp at h7;omega
  refine zXh ?_
  refine zW8 ?_
  refine yC 1 ((29, .u (UF.eq (q.2))):: []) s kJ
   (oc zC<|zD) fun a w12 s=> ?_
  replace s:=s.drop [2]
  refine yT (UF.eq (q.2)) rfl s kJ iiz fun a w s=> ?_
  refine zA rfl ?_
  refine zW9 ?_
  exact StS.resN s s0.below rfl (by rw [s.val (.head _)];have:=(hI.2.2.below s.below).mono hb0';rw [hk] at this;exact this)
theorem zLH {W:Wt} {l:Wu} {L:List Int} (hl:(SF.row 1 (zEs L)).p l W) (hL:zUX L) (hn:L.length<=1000000):Calls prog 31 #[l] W (Ret W (wL W 31 6 (pns (zBr L (L.length / 2))))):=by
 refine zZ [(UF.eq l).tS] func31 rfl kJ ⟨rfl,trivial⟩ fun a s=> ?_
 replace s:=s.renew [(0, .u (UF.eq l))] (fmz ⟨.inr ⟨_,rfl, .head _⟩,fnz⟩)
 refine zW8 ?_
 refine zB 1 ((2, .u (UF.eq (.slice none 0 0))):: []) hmix s kJ
  (oc zG<|zD) fun a w1 s=> ?_
 refine zA rfl ?_
 refine zW8 ?_
 refine zB 1 ((3, .u (UF.eq (.slice none 0 0))):: []) hmix s kJ
  (oc zG<|zD) fun a w2 s=> ?_
 refine zA rfl ?_
 refine zW8 ?_
 refine zW8 ?_
 refine zB 1 ((4, .u (uI 0)):: []) hmix s kJ
  (oc zG<|zD) fun a w3 s=> ?_
 refine zA rfl ?_
 refine zXb ?_
 refine zEL (fun (p:Nat×Wu) w=>2*p.1<=L.length/\W.heap.size<=w.heap.size/\zBU w W.heap.size 31 6 p.2 (pns (zBr L p.1))) (fun p=> [(0, .u (UF.eq l)),(3, .u (UF.eq (p.2))),(4, .u (uI ((2*p.1:Nat):Int)))]) (fun p=>L.length - 2*p.1) (0, .slice none 0 0) (⟨zXf _,s.gr.size,zBU.nil _ _ _ _⟩) (s.keepK _ (fmz ⟨mz3,fmz ⟨mz1,fmz ⟨.head _,fnz⟩⟩⟩)) fun p a w hI s=> ?_
 have s0:=s
 have hlw:=(SF.row 1 (zEs L)).st _ _ _ hl s0.below
 replace s:=s.reb rfl [(0, .u (UF.eq l)),(3, .u (UF.eq (p.2))),(4, .u (uI ((2*p.1:Nat):Int)))] (fmz ⟨.inl (.head _),fmz ⟨.inl mz1,fmz ⟨.inl mz2,fnz⟩⟩⟩)
 refine zW8 ?_
 refine zW8 ?_
 refine zB 5 ((5, .Z (uI ((2*p.1:Nat):Int)))::(6, .Z (uI ((2*p.1+1:Nat):Int)))::(7, .Z (UF.eq l))::(8, .Z (uI ((zEs L).length:Int)))::(9, .u (uB (decide (((2*p.1+1:Nat):Int)<((zEs L).length:Int))))):: []) hmix s kJ
  (oc zC<|oc (yW .i64 ((2*p.1:Nat):Int) 1 ((2*p.1+1:Nat):Int) iiz iiz (wrap64 _ _ oQ oQ))<|oc zC<|oc (jD (z:=1) (Cs:=zEs L) kJ (fun v W hb h=>(yJ hlw h (s.up hb))) (fun _=>rfl))<|oc (zU .i64 ((2*p.1+1:Nat):Int) ((zEs L).length:Int) (decide (((2*p.1+1:Nat):Int)<((zEs L).length:Int))) iiz iiz rfl rfl)<|zD) fun a w4 s=> ?_
 refine zA rfl ?_
 refine StS.cond s (decide (((2*p.1+1:Nat):Int)<((zEs L).length:Int))) iiz (fun e=> ?_) (fun e=> ?_)
 ·have hk:2*p.1+1<L.length:=by have:=zXg e;simp at this;omega
  refine zXa ?_
  refine zW8 ?_
  refine zXb ?_
  refine zDZ (K:= [(9, .u (uB (decide (((2*p.1+1:Nat):Int)<((zEs L).length:Int))))),(0, .u (UF.eq l)),(4, .u (uI ((2*p.1:Nat):Int)))]) [(3, .u (UF.eq (p.2)))] [0,1,2,5,6] 12 ((12, .u (UF.eq (p.2)))::(13, .Z (UF.eq l))::(14, .Z (uI ((2*p.1:Nat):Int)))::(15, .s (wB (wC [.int .i64 (gI L (2*p.1))]).cf))::(16, .Z (uI (gI L (2*p.1))))::(17, .Z (UF.eq l))::(18, .Z (uI ((2*p.1:Nat):Int)))::(19, .Z (uI ((2*p.1+1:Nat):Int)))::(20, .s (wB (wC [.int .i64 (gI L (2*p.1+1))]).cf))::(21, .Z (uI (gI L (2*p.1+1))))::(22, .Z (fPN (((gI L (2*p.1):Int):Rat),((gI L (2*p.1+1):Int):Rat))))::(23, .s (SF.row 6 [CU.agg (fPN (((gI L (2*p.1):Int):Rat),((gI L (2*p.1+1):Int):Rat)))])):: []) hmix (s.keepK _ (fmz ⟨mz2,fmz ⟨.head _,fmz ⟨mz1,fmz ⟨mz3,fnz⟩⟩⟩⟩)) kJ
   (oc zC<|oc zC<|oc zC<|oc (yQ (z:=1) (Cs:=zEs L) (i:=(2*p.1)) (C:=wC [.int .i64 (gI L (2*p.1))]) kJ (zGo oQ) (fun v W hb h=>(yJ hlw h (s.up hb))) iiz)<|oc (qW (C:=(wC [.int .i64 (gI L (2*p.1))]).cf) kJ iiz zCS)<|oc zC<|oc zC<|oc (yW .i64 ((2*p.1:Nat):Int) 1 ((2*p.1+1:Nat):Int) iiz iiz (wrap64 _ _ oQ oQ))<|oc (yQ (z:=1) (Cs:=zEs L) (i:=(2*p.1+1)) (C:=wC [.int .i64 (gI L (2*p.1+1))]) kJ (zGo oQ) (fun v W hb h=>(yJ hlw h (s.up hb))) iiz)<|oc (qW (C:=(wC [.int .i64 (gI L (2*p.1+1))]).cf) kJ iiz zCS)<|oc (zJ zE zJ6 (fun u0 u1 W hb (h0:u0= .int .i64 (gI L (2*p.1))) (h1:u1= .int .i64 (gI L (2*p.1+1)))=>zFw h0 h1 (hL _) (hL _)))<|oc (jW (fun u W (hu:(fPN (((gI L (2*p.1):Int):Rat),((gI L (2*p.1+1):Int):Rat))).p u W)=>zEO hu))<|zD) fun Q' hQ a w5 s hr=> ?_
  refine zJE ([CU.agg (fPN (((gI L (2*p.1):Int):Rat),((gI L (2*p.1+1):Int):Rat)))]) s0 (s.keepK [(12, .u (UF.eq (p.2))),(9, .u (uB (decide (((2*p.1+1:Nat):Int)<((zEs L).length:Int))))),(0, .u (UF.eq l)),(4, .u (uI ((2*p.1:Nat):Int)))] (fmz ⟨.head _,fmz ⟨mz1,fmz ⟨mz2,fmz ⟨mz3,fnz⟩⟩⟩⟩)) lr hI.2 rfl kJ kJ kJ (s.fct (.tmp 12)) (hr (_,_) zLM) (zHb _ _) (by simp [zNc];omega) (fun q hq=>by cases hq) fun v' a w hI' s=> ?_
  have s1:=s
  replace s:=s.reb rfl [(24, .u (UF.eq v')),(12, .u (UF.eq (p.2))),(9, .u (uB (decide (((2*p.1+1:Nat):Int)<((zEs L).length:Int))))),(0, .u (UF.eq l)),(4, .u (uI ((2*p.1:Nat):Int)))] (fmz ⟨.inl (.head _),fmz ⟨.inl mz1,fmz ⟨.inl mz2,fmz ⟨.inl mz3,fmz ⟨.inl mz4,fnz⟩⟩⟩⟩⟩)
  refine yT (UF.eq v') rfl s kJ iiz fun a w s=> ?_
  refine zA rfl (hQ _ _ ?_)
  refine yC 2 ((10, .Z (uI ((2*p.1:Nat):Int)))::(11, .u (uI ((2*(p.1+1):Nat):Int))):: []) s kJ
   (oc zC<|oc (yW .i64 ((2*p.1:Nat):Int) 2 ((2*(p.1+1):Nat):Int) iiz iiz (wrap64 _ _ oQ oQ))<|zD) fun a w6 s=> ?_
  replace s:=s.drop [4]
  refine yT (uI ((2*(p.1+1):Nat):Int)) rfl s kJ iiz fun a w s=> ?_
  refine zA rfl ?_
  have hbw:=s.below
  replace s:=s1.back (s.keepK [(4, .u (uI ((2*(p.1+1):Nat):Int))),(11, .u (uI ((2*(p.1+1):Nat):Int))),(3, .u (UF.eq v')),(24, .u (UF.eq v')),(12, .u (UF.eq (p.2))),(9, .u (uB (decide (((2*p.1+1:Nat):Int)<((zEs L).length:Int))))),(0, .u (UF.eq l))] (fmz ⟨.head _,fmz ⟨mz1,fmz ⟨mz2,fmz ⟨mz3,fmz ⟨mz4,fmz ⟨mz5,fmz ⟨mz6,fnz⟩⟩⟩⟩⟩⟩⟩)) rfl
  exact ⟨(p.1+1,v'),(by show L.length - 2*(p.1+1)<L.length - 2*p.1;omega),⟨by show 2*(p.1+1)<=_;omega,zXm hI'.1 hbw.size,by show zBU _ _ _ _ _ (pns (zBr L (p.1+1)));rw [zKv];exact hI'.2.below hbw⟩,s.keepK _ (fmz ⟨mz6,fmz ⟨mz2,fmz ⟨.head _,fnz⟩⟩⟩)⟩
 ·have hk:p.1=L.length / 2:=by have h7:=zXc e;have h8:=hI.1;simp at h7;omega
  refine zXh ?_
  refine zW8 ?_
  refine zB 2 ((25, .Z (UF.eq (p.2)))::(2, .u (UF.eq (p.2))):: []) hmix s kJ
   (oc zC<|oc zG<|zD) fun a w7 s=> ?_
  refine zA rfl ?_
  refine zW9 ?_
  exact StS.resN s s0.below rfl (by rw [s.val (.head _)];have:=hI.2.2.below s.below;rw [hk] at this;exact this)
theorem zFx {W:Wt} {v:Wu} {z:Int} (hv:v= .int .i64 z) (hz: -50<=z/\z<=50):Calls prog 33 #[v] W (Ret W (fQN (((((z:Int):Rat)+((0:Int):Rat)) / 2+((0:Int):Rat)) / 2)).tS):=by
 have hz1:QB ((z:Int):Rat) 10:=(qbz (z:=z) oQ).mono dC
 have hz2:QB ((((z:Int):Rat)+((0:Int):Rat)) / 2) 10:=(((qbz (z:=z) oQ).add (qbz (z:=0) dC)).div (qbz (z:=2) dC)).mono dC
 refine zZ [(uI z).tS] func33 rfl kJ ⟨hv,trivial⟩ fun a s=> ?_
 refine zW8 ?_
 refine zB 0 [] hmix s kJ
  zD fun a w1 s=> ?_
 refine zT (CU.len 3) (cs:=zR3) kJ rfl s kJ (fun W=>rfl) rfl fun b2 a w s=> ?_
 refine zA rfl ?_
 refine zW8 ?_
 refine zB 6 ((3, .Z (uI z))::(4, .Z (fQN ((z:Int):Rat)))::(5, .Z (fQN ((0:Int):Rat)))::(6, .Z (fQN ((((z:Int):Rat)+((0:Int):Rat)) / 2)))::(7, .Z (fQN ((0:Int):Rat)))::(8, .u (fQN ((((((z:Int):Rat)+((0:Int):Rat)) / 2)+((0:Int):Rat)) / 2))):: []) hmix s kJ
  (oc zC<|oc (zH zE zD8 (fun u0 W hb (h0:u0= .int .i64 z)=>zCb _ h0 oQ))<|oc (zH zE zD8 (fun u0 W hb (h0:u0= .int .i64 0)=>zCb _ h0 oQ))<|oc (zJ zE zSF (fun u0 u1 W hb (h0:QNp ((z:Int):Rat) u0 W) (h1:QNp ((0:Int):Rat) u1 W)=>zK5 (m:=10) (p:=((z:Int):Rat)) (q:=((0:Int):Rat)) (wD h0 hz1) (wD h1 ((qbz (z:=0) dC).mono dC)) dC dC))<|oc (zH zE zD8 (fun u0 W hb (h0:u0= .int .i64 0)=>zCb _ h0 oQ))<|oc (zJ zE zSF (fun u0 u1 W hb (h0:QNp ((((z:Int):Rat)+((0:Int):Rat)) / 2) u0 W) (h1:QNp ((0:Int):Rat) u1 W)=>zK5 (m:=10) (p:=((((z:Int):Rat)+((0:Int):Rat)) / 2)) (q:=((0:Int):Rat)) (wD h0 hz2) (wD h1 ((qbz (z:=0) dC).mono dC)) dC dC))<|zD) fun a w2 s=> ?_
 refine zN (CU.agg (fQN ((((((z:Int):Rat)+((0:Int):Rat)) / 2)+((0:Int):Rat)) / 2))) ((fQN ((((((z:Int):Rat)+((0:Int):Rat)) / 2)+((0:Int):Rat)) / 2)).tS) rfl s kJ rfl rfl rfl iiz iiz zV fun a w s=> ?_
 refine zA rfl ?_
 refine zW9 ?_
 exact wJ s (CU.agg (fQN (((((z:Int):Rat)+((0:Int):Rat)) / 2+((0:Int):Rat)) / 2))) rfl kJ rfl rfl (yU _) (fun cs W h=>h)
def g19 (A:List PX) (TS:List TX) (L:List PX):Bool:=((((gPt A||decide (((pxs A).length:Int)>8))||gTr TS)||decide (((txs TS).length:Int)>6))||gPt L)||decide (((pxs L).length:Int)>8)
theorem zTM {A:List PX} {TS:List TX} {L:List PX} (h:g19 A TS L=false):gPt A=false/\gTr TS=false/\gPt L=false:=by
 unfold g19 at h
 simp only [zXi] at h
 exact ⟨h.1.1.1.1.1,h.1.1.1.2,h.1.2⟩
theorem zMg {W:Wt} {r l q:Wu} {A L:List PX} {TS:List TX} (hr0:(SF.row 6 (pxs A)).p r W) (hl0:(SF.row 18 (txs TS)).p l W) (hq0:(SF.row 6 (pxs L)).p q W):Calls prog 6 #[r,l,q] W (Ret W (fB (g19 A TS L)).tS):=by
 refine zZ [(UF.eq r).tS,(UF.eq l).tS,(UF.eq q).tS] func6 rfl kJ ⟨rfl,rfl,rfl,trivial⟩ fun a s=> ?_
 replace s:=s.renew [(0, .u (UF.eq r)),(1, .u (UF.eq l)),(2, .u (UF.eq q))] (fmz ⟨.inr ⟨_,rfl, .head _⟩,fmz ⟨.inr ⟨_,rfl,mz1⟩,fmz ⟨.inr ⟨_,rfl,mz2⟩,fnz⟩⟩⟩)
 refine zW8 ?_
 refine zB 1 ((6, .u (uB false)):: []) hmix s kJ
  (oc zG<|zD) fun a w1 s=> ?_
 refine zA rfl ?_
 refine zW8 ?_
 replace s:=s.drop [6]
 refine zB 26 ((7, .Z (UF.eq r))::(8, .Z (uB (gPt A)))::(9, .Z (uB (gPt A)))::(10, .s (SF.imp ((gPt A)=false) ((UF.eq r).tS)))::(11, .s (SF.imp ((gPt A)=false) ((uI ((pxs A).length:Int)).tS)))::(12, .s (SF.imp ((gPt A)=false) ((uB (decide (((pxs A).length:Int)>8))).tS)))::(13, .Z (uB ((gPt A)||(decide (((pxs A).length:Int)>8)))))::(14, .Z (uB ((gPt A)||(decide (((pxs A).length:Int)>8)))))::(15, .s (SF.imp (((gPt A)||(decide (((pxs A).length:Int)>8)))=false) ((UF.eq l).tS)))::(16, .s (SF.imp (((gPt A)||(decide (((pxs A).length:Int)>8)))=false) ((uB (gTr TS)).tS)))::(17, .Z (uB (((gPt A)||(decide (((pxs A).length:Int)>8)))||(gTr TS))))::(18, .Z (uB (((gPt A)||(decide (((pxs A).length:Int)>8)))||(gTr TS))))::(19, .s (SF.imp ((((gPt A)||(decide (((pxs A).length:Int)>8)))||(gTr TS))=false) ((UF.eq l).tS)))::(20, .s (SF.imp ((((gPt A)||(decide (((pxs A).length:Int)>8)))||(gTr TS))=false) ((uI ((txs TS).length:Int)).tS)))::(21, .s (SF.imp ((((gPt A)||(decide (((pxs A).length:Int)>8)))||(gTr TS))=false) ((uB (decide (((txs TS).length:Int)>6))).tS)))::(22, .Z (uB ((((gPt A)||(decide (((pxs A).length:Int)>8)))||(gTr TS))||(decide (((txs TS).length:Int)>6)))))::(23, .Z (uB ((((gPt A)||(decide (((pxs A).length:Int)>8)))||(gTr TS))||(decide (((txs TS).length:Int)>6)))))::(24, .s (SF.imp (((((gPt A)||(decide (((pxs A).length:Int)>8)))||(gTr TS))||(decide (((txs TS).length:Int)>6)))=false) ((UF.eq q).tS)))::(25, .s (SF.imp (((((gPt A)||(decide (((pxs A).length:Int)>8)))||(gTr TS))||(decide (((txs TS).length:Int)>6)))=false) ((uB (gPt L)).tS)))::(26, .Z (uB (((((gPt A)||(decide (((pxs A).length:Int)>8)))||(gTr TS))||(decide (((txs TS).length:Int)>6)))||(gPt L))))::(27, .Z (uB (((((gPt A)||(decide (((pxs A).length:Int)>8)))||(gTr TS))||(decide (((txs TS).length:Int)>6)))||(gPt L))))::(28, .s (SF.imp ((((((gPt A)||(decide (((pxs A).length:Int)>8)))||(gTr TS))||(decide (((txs TS).length:Int)>6)))||(gPt L))=false) ((UF.eq q).tS)))::(29, .s (SF.imp ((((((gPt A)||(decide (((pxs A).length:Int)>8)))||(gTr TS))||(decide (((txs TS).length:Int)>6)))||(gPt L))=false) ((uI ((pxs L).length:Int)).tS)))::(30, .s (SF.imp ((((((gPt A)||(decide (((pxs A).length:Int)>8)))||(gTr TS))||(decide (((txs TS).length:Int)>6)))||(gPt L))=false) ((uB (decide (((pxs L).length:Int)>8))).tS)))::(31, .Z (uB ((((((gPt A)||(decide (((pxs A).length:Int)>8)))||(gTr TS))||(decide (((txs TS).length:Int)>6)))||(gPt L))||(decide (((pxs L).length:Int)>8)))))::(6, .u (uB ((((((gPt A)||(decide (((pxs A).length:Int)>8)))||(gTr TS))||(decide (((txs TS).length:Int)>6)))||(gPt L))||(decide (((pxs L).length:Int)>8))))):: []) hmix s kJ
  (oc zC<|oc (zH zE zRe (fun u0 W hb (h0:u0=r)=>zDO (L:=A) (yJ hr0 h0 (s.up hb))))<|oc zC<|oc (zF 9 (gPt A) kJ iiz (fun e=>yN [] ((UF.eq r).tS) fnz fS kJ zC) fQ)<|oc (zF 9 (gPt A) kJ iiz (fun e=>yN [(10,(UF.eq r).tS)] ((uI ((pxs A).length:Int)).tS) (fmz ⟨fun v W h=>z4 (c:=(gPt A)=false) (f:=(UF.eq r).tS) e h,fnz⟩) fS kJ (jD (z:=6) (Cs:=pxs A) kJ (fun v W hb h=>(yJ hr0 h (s.up hb))) (fun _=>rfl))) fQ)<|oc (zF 9 (gPt A) kJ iiz (fun e=>yN [(11,(uI ((pxs A).length:Int)).tS)] ((uB (decide (((pxs A).length:Int)>8))).tS) (fmz ⟨fun v W h=>z4 (c:=(gPt A)=false) (f:=(uI ((pxs A).length:Int)).tS) e h,fnz⟩) fS kJ (zU .i64 ((pxs A).length:Int) 8 (decide (((pxs A).length:Int)>8)) iiz iiz rfl rfl)) fQ)<|oc (y4 (gPt A) iiz (fun e v W h=>zBD h e) (fun e v W h=>zAY (z4 e h) e))<|oc zC<|oc (zF 14 ((gPt A)||(decide (((pxs A).length:Int)>8))) kJ iiz (fun e=>yN [] ((UF.eq l).tS) fnz fS kJ zC) fQ)<|oc (zF 14 ((gPt A)||(decide (((pxs A).length:Int)>8))) kJ iiz (fun e=>yN [(15,(UF.eq l).tS)] ((uB (gTr TS)).tS) (fmz ⟨fun v W h=>z4 (c:=((gPt A)||(decide (((pxs A).length:Int)>8)))=false) (f:=(UF.eq l).tS) e h,fnz⟩) fS kJ (zH zE zUo (fun u0 W hb (h0:u0=l)=>zJQ (L:=TS) (yJ hl0 h0 (s.up hb))))) fQ)<|oc (y4 ((gPt A)||(decide (((pxs A).length:Int)>8))) iiz (fun e v W h=>zBD h e) (fun e v W h=>zAY (z4 e h) e))<|oc zC<|oc (zF 18 (((gPt A)||(decide (((pxs A).length:Int)>8)))||(gTr TS)) kJ iiz (fun e=>yN [] ((UF.eq l).tS) fnz fS kJ zC) fQ)<|oc (zF 18 (((gPt A)||(decide (((pxs A).length:Int)>8)))||(gTr TS)) kJ iiz (fun e=>yN [(19,(UF.eq l).tS)] ((uI ((txs TS).length:Int)).tS) (fmz ⟨fun v W h=>z4 (c:=(((gPt A)||(decide (((pxs A).length:Int)>8)))||(gTr TS))=false) (f:=(UF.eq l).tS) e h,fnz⟩) fS kJ (jD (z:=18) (Cs:=txs TS) kJ (fun v W hb h=>(yJ hl0 h (s.up hb))) (fun _=>rfl))) fQ)<|oc (zF 18 (((gPt A)||(decide (((pxs A).length:Int)>8)))||(gTr TS)) kJ iiz (fun e=>yN [(20,(uI ((txs TS).length:Int)).tS)] ((uB (decide (((txs TS).length:Int)>6))).tS) (fmz ⟨fun v W h=>z4 (c:=(((gPt A)||(decide (((pxs A).length:Int)>8)))||(gTr TS))=false) (f:=(uI ((txs TS).length:Int)).tS) e h,fnz⟩) fS kJ (zU .i64 ((txs TS).length:Int) 6 (decide (((txs TS).length:Int)>6)) iiz iiz rfl rfl)) fQ)<|oc (y4 (((gPt A)||(decide (((pxs A).length:Int)>8)))||(gTr TS)) iiz (fun e v W h=>zBD h e) (fun e v W h=>zAY (z4 e h) e))<|oc zC<|oc (zF 23 ((((gPt A)||(decide (((pxs A).length:Int)>8)))||(gTr TS))||(decide (((txs TS).length:Int)>6))) kJ iiz (fun e=>yN [] ((UF.eq q).tS) fnz fS kJ zC) fQ)<|oc (zF 23 ((((gPt A)||(decide (((pxs A).length:Int)>8)))||(gTr TS))||(decide (((txs TS).length:Int)>6))) kJ iiz (fun e=>yN [(24,(UF.eq q).tS)] ((uB (gPt L)).tS) (fmz ⟨fun v W h=>z4 (c:=((((gPt A)||(decide (((pxs A).length:Int)>8)))||(gTr TS))||(decide (((txs TS).length:Int)>6)))=false) (f:=(UF.eq q).tS) e h,fnz⟩) fS kJ (zH zE zRe (fun u0 W hb (h0:u0=q)=>zDO (L:=L) (yJ hq0 h0 (s.up hb))))) fQ)<|oc (y4 ((((gPt A)||(decide (((pxs A).length:Int)>8)))||(gTr TS))||(decide (((txs TS).length:Int)>6))) iiz (fun e v W h=>zBD h e) (fun e v W h=>zAY (z4 e h) e))<|oc zC<|oc (zF 27 (((((gPt A)||(decide (((pxs A).length:Int)>8)))||(gTr TS))||(decide (((txs TS).length:Int)>6)))||(gPt L)) kJ iiz (fun e=>yN [] ((UF.eq q).tS) fnz fS kJ zC) fQ)<|oc (zF 27 (((((gPt A)||(decide (((pxs A).length:Int)>8)))||(gTr TS))||(decide (((txs TS).length:Int)>6)))||(gPt L)) kJ iiz (fun e=>yN [(28,(UF.eq q).tS)] ((uI ((pxs L).length:Int)).tS) (fmz ⟨fun v W h=>z4 (c:=(((((gPt A)||(decide (((pxs A).length:Int)>8)))||(gTr TS))||(decide (((txs TS).length:Int)>6)))||(gPt L))=false) (f:=(UF.eq q).tS) e h,fnz⟩) fS kJ (jD (z:=6) (Cs:=pxs L) kJ (fun v W hb h=>(yJ hq0 h (s.up hb))) (fun _=>rfl))) fQ)<|oc (zF 27 (((((gPt A)||(decide (((pxs A).length:Int)>8)))||(gTr TS))||(decide (((txs TS).length:Int)>6)))||(gPt L)) kJ iiz (fun e=>yN [(29,(uI ((pxs L).length:Int)).tS)] ((uB (decide (((pxs L).length:Int)>8))).tS) (fmz ⟨fun v W h=>z4 (c:=(((((gPt A)||(decide (((pxs A).length:Int)>8)))||(gTr TS))||(decide (((txs TS).length:Int)>6)))||(gPt L))=false) (f:=(uI ((pxs L).length:Int)).tS) e h,fnz⟩) fS kJ (zU .i64 ((pxs L).length:Int) 8 (decide (((pxs L).length:Int)>8)) iiz iiz rfl rfl)) fQ)<|oc (y4 (((((gPt A)||(decide (((pxs A).length:Int)>8)))||(gTr TS))||(decide (((txs TS).length:Int)>6)))||(gPt L)) iiz (fun e v W h=>zBD h e) (fun e v W h=>zAY (z4 e h) e))<|oc zG<|zD) fun a w2 s=> ?_
 refine zA rfl ?_
 refine zW9 ?_
 exact wH s (t:=6) rfl (fun v W h=>h)
end Go.Proofs.Wd

namespace Go.Proofs.Wd
open Tryz
set_option maxRecDepth 100000
set_option maxHeartbeats 1000000
open Go.RowKit Lb
abbrev LR:List Int:= [0,0,1,0,0,1]
abbrev LT:List Int:= [2,0,3,0,2,1]
abbrev LW:List Int:= [0,0,1,0,1,0]
abbrev TT:V6:=((((2:Int):Rat),((0:Int):Rat)),(((3:Int):Rat),((0:Int):Rat)),(((2:Int):Rat),((1:Int):Rat)))
abbrev BT:V2×Bool:=zBb (tl TT) (zBr LR 3) (((0:Int):Rat),((0:Int):Rat)) (yL (((4:Int):Rat),((0:Int):Rat)) (((0:Int):Rat),((0:Int):Rat)))
abbrev QU (z:Int):Rat:=(((((z:Int):Rat)+((0:Int):Rat)) / 2+((0:Int):Rat)) / 2)
abbrev L3:List V2:= [(((0:Int):Rat),((0:Int):Rat)),(((1:Int):Rat),((0:Int):Rat)),(((2:Int):Rat),((0:Int):Rat))]
theorem zVe:BT.2=true:=by kernel_rfl
theorem zVd:(qsg (zAQ BT).1 (QU 1)==0)=true:=by kernel_rfl
theorem zVc:(qsg (zAQ BT).2 (QU 3)==0)=true:=by kernel_rfl
theorem zVb:decide (zBN (zBr LR 3) [TT] (zBr LW 3)<0)=true:=by kernel_rfl
theorem zVa:zBN (zBr LR 3) [TT] L3=1:=by kernel_rfl
theorem zU9:(qsg (zDt (zBr LW 3) ((zBr LW 3).length - 1)) ((1:Int):Rat)==0)=true:=by kernel_rfl
theorem zU8:(plV (zBr LW 3) (zBr LW 3).length).length=2:=by kernel_rfl
theorem zRi {S:V2×Bool} {M:Nat} (h:QB S.1.1 M/\QB S.1.2 M) (hM:0<M):QB (zAQ S).1 M/\QB (zAQ S).2 M:=by
 unfold zAQ
 split
 ·exact h
 ·exact ⟨QB.zero hM,QB.zero hM⟩
theorem quz (z:Int) (hz: -50<=z/\z<=50):QB (QU z) 400:=(((((qbz (z:=z) oQ).add (qbz (z:=0) dC)).div (qbz (z:=2) dC)).add (qbz (z:=0) dC)).div (qbz (z:=2) dC)).mono dC
theorem zTs {p q:V2} {m M:Nat} (hp:QB p.1 m/\QB p.2 m) (hq:QB q.1 m/\QB q.2 m) (h:m+m+1<=M):QB (yL p q).1 M/\QB (yL p q).2 M:=⟨(hp.1.sub hq.1).mono h,(hp.2.sub hq.2).mono h⟩
theorem zS6:QB (zAQ BT).1 400/\QB (zAQ BT).2 400:=zRi (S:=BT) (M:=400) (zS7 (T:=tl TT) (R:=zBr LR 3) (a:=(((0:Int):Rat),((0:Int):Rat))) (d:=yL (((4:Int):Rat),((0:Int):Rat)) (((0:Int):Rat),((0:Int):Rat))) (M:=400) (n:=1) (k:=1) (j:=3) (fun p hp=>by
  rcases zXd.1 hp with rfl|hp
  ·exact ⟨qbz dC,qbz dC⟩
  ·rcases zXd.1 hp with rfl|hp
   ·exact ⟨qbz dC,qbz dC⟩
   ·obtain rfl:=zXe.1 hp;exact ⟨qbz dC,qbz dC⟩) (zFP (zE8 dC) 3) ⟨qbz dC,qbz dC⟩ (zTs (m:=1) (p:=(((4:Int):Rat),((0:Int):Rat))) (q:=(((0:Int):Rat),((0:Int):Rat))) ⟨qbz dC,qbz dC⟩ ⟨qbz dC,qbz dC⟩ dC) dC) dC
theorem zUz {u v q:Wu} {W:Wt} (hu:(fPN TT.1).p u W) (hv:(fPN TT.2.1).p v W) (hq:(fPN TT.2.2).p q W): ∃cells,prog.built 42 [(0,u),(1,v),(2,q)]=some cells/\(fTR 5 TT).p (.agg cells) W:=
 zVv (t:=TT) (qH (m:=1) dC (zCP (qbz dC) (qbz dC) hu)) (qH (m:=1) dC (zCP (qbz dC) (qbz dC) hv)) (qH (m:=1) dC (zCP (qbz dC) (qbz dC) hq))
theorem zSi (v:Wu) (W:Wt) (h:(SF.row 6 (pns L3)).p v W):(SF.row 6 (pvs 47 L3)).p v W:=zGa (fun p hp=>by
  rcases zXd.1 hp with rfl|hp
  ·exact ⟨(qbz dC).mono dC,(qbz dC).mono dC⟩
  ·rcases zXd.1 hp with rfl|hp
   ·exact ⟨(qbz dC).mono dC,(qbz dC).mono dC⟩
   ·obtain rfl:=zXe.1 hp;exact ⟨(qbz dC).mono dC,(qbz dC).mono dC⟩) v W h
theorem zPk {L:List Int} {m:Nat} (hL:L.all (fun z=>decide (z.natAbs<100))=true) (hm:1<=m) (v:Wu) (W:Wt) (h:(SF.row 6 (pns (zBr L 3))).p v W):(SF.row 6 (pvs m (zBr L 3))).p v W:=zAG hm v W (zGa (zFP (zE8 hL) 3) v W h)
theorem zKl {W:Wt} (hT:Tab W):Calls prog 11 #[] W (Ret W (fB true).tS):=by
 refine zZ [] func11 rfl kJ trivial fun a s=> ?_
 refine zW8 ?_
 refine zB 1 ((0, .u (uB false)):: []) hmix s kJ
  (oc zG<|zD) fun a w1 s=> ?_
 refine zA rfl ?_
 refine zW8 ?_
 refine jM 4 ((8, .s (SF.row 1 (zEs [0,0,1,0,0,1])))::(9, .s (wL w1 31 6 (pns (zBr LR 3))))::(10, .s (SF.row 1 (zEs [2,0,3,0,2,1])))::(11, .s (wL w1 31 6 (pns (zBr LT 3)))):: []) hmix s kJ
  (oc (zEZ _ _ _ _ _ _ iiz)<|oc (zH zE zRd (fun u0 W hb (h0:(SF.row 1 (zEs [0,0,1,0,0,1])).p u0 W)=>(zLH (L:=LR) h0 (zE8 dC).ok dC).mono (wG (zBX hb.size))))<|oc (zEZ _ _ _ _ _ _ iiz)<|oc (zH zE zRd (fun u0 W hb (h0:(SF.row 1 (zEs [2,0,3,0,2,1])).p u0 W)=>(zLH (L:=LT) h0 (zE8 dC).ok dC).mono (wG (zBX hb.size))))<|zD) fun a w2 s hr=> ?_
 obtain ⟨v9,e9⟩: ∃v,a.tmps.getD 9 undef=v:=⟨_,rfl⟩
 have hv9:(SF.row 6 (pvs 5 (zBr LR 3))).p v9 w2:=e9▸zPk dC dC _ _ (zBf _ _ (hr (_,_) mz1))
 replace s:=s.learn 9 v9 e9
 obtain ⟨v11,e11⟩: ∃v,a.tmps.getD 11 undef=v:=⟨_,rfl⟩
 have hv11:(SF.row 6 (pns (zBr LT 3))).p v11 w2:=e11▸zBf _ _ (hr (_,_) mz3)
 replace s:=s.learn 11 v11 e11
 have hb0:=s.below
 replace hT:=hT.below hb0
 replace s:=s.reb rfl [(11, .u (UF.eq v11)),(9, .u (UF.eq v9)),(0, .u (uB false))] (fmz ⟨.inl (.head _),fmz ⟨.inl mz1,fmz ⟨.inl mz2,fnz⟩⟩⟩)
 refine yT (UF.eq v9) rfl s kJ iiz fun a w s=> ?_
 refine yT (UF.eq v11) rfl s kJ iiz fun a w s=> ?_
 refine zA rfl ?_
 refine zW8 ?_
 have so:=s.old;have sg:=s.gr
 refine j9 (fun i=> [].contains i) [⟨10,3,42, [.bool false, .slice none 0 0, .slice none 0 0, .bool false, .slice none 0 0, .slice none 0 0, .bool false, .slice none 0 0, .slice none 0 0, .bool false, .slice none 0 0, .slice none 0 0, .bool false, .slice none 0 0, .slice none 0 0, .bool false, .slice none 0 0, .slice none 0 0],wI w 42 (CU.len 18)⟩] 11 ((12, .Z (UF.eq v11))::(13, .Y (fPN (((2:Int):Rat),((0:Int):Rat))))::(14, .Z (fPN (((2:Int):Rat),((0:Int):Rat))))::(15, .Z (UF.eq v11))::(16, .Y (fPN (((3:Int):Rat),((0:Int):Rat))))::(17, .Z (fPN (((3:Int):Rat),((0:Int):Rat))))::(18, .Z (UF.eq v11))::(19, .Y (fPN (((2:Int):Rat),((1:Int):Rat))))::(20, .Z (fPN (((2:Int):Rat),((1:Int):Rat))))::(21, .u (fTR 5 TT))::(3, .s (wI w 42 (CU.len 18))):: []) hmix s (fmz ⟨⟨by show 10<11;decide,zFm,⟨_,_,_,rfl⟩,by kernel_rfl,jJ (fun _=>rfl) rfl⟩,fnz⟩) kJ
  (oc zC<|oc (yQ (z:=6) (Cs:=pns (zBr LT 3)) (i:=0) (C:=CU.agg (fPN (((2:Int):Rat),((0:Int):Rat)))) kJ rfl (fun v W hb h=>(yJ hv11 h (s.up hb))) iiz)<|oc (zI (f:=fPN (((2:Int):Rat),((0:Int):Rat))) 6 kJ (hz:=zS _ _))<|oc zC<|oc (yQ (z:=6) (Cs:=pns (zBr LT 3)) (i:=1) (C:=CU.agg (fPN (((3:Int):Rat),((0:Int):Rat)))) kJ rfl (fun v W hb h=>(yJ hv11 h (s.up hb))) iiz)<|oc (zI (f:=fPN (((3:Int):Rat),((0:Int):Rat))) 6 kJ (hz:=zS _ _))<|oc zC<|oc (yQ (z:=6) (Cs:=pns (zBr LT 3)) (i:=2) (C:=CU.agg (fPN (((2:Int):Rat),((1:Int):Rat)))) kJ rfl (fun v W hb h=>(yJ hv11 h (s.up hb))) iiz)<|oc (zI (f:=fPN (((2:Int):Rat),((1:Int):Rat))) 6 kJ (hz:=zS _ _))<|oc (zLG (fun u v q W (hu:(fPN (((2:Int):Rat),((0:Int):Rat))).p u W) (hv:(fPN (((3:Int):Rat),((0:Int):Rat))).p v W) (hq:(fPN (((2:Int):Rat),((1:Int):Rat))).p q W)=>zUz hu hv hq))<|oc (zAH (cs:= [.bool false, .slice none 0 0, .slice none 0 0, .bool false, .slice none 0 0, .slice none 0 0, .bool false, .slice none 0 0, .slice none 0 0, .bool false, .slice none 0 0, .slice none 0 0, .bool false, .slice none 0 0, .slice none 0 0, .bool false, .slice none 0 0, .slice none 0 0]) kJ (jJ (fun _=>rfl) rfl))<|zD) fun Q' hQ a w3 s hr hd=> ?_
 obtain ⟨b3,hB3,e3,s⟩:=s.adoptA false 3 (hr (_,_) zFm) sg (fun y hy=> .inl (so y hy))
 refine zN (CU.agg (fTR 5 TT)) ((fTR 5 TT).tS) rfl s kJ rfl rfl rfl iiz iiz zIF fun a w s=> ?_
 refine zA rfl (hQ _ _ ?_)
 refine zW8 ?_
 have so:=s.old;have sg:=s.gr
 refine j9 (fun i=> [7,8].contains i) [⟨9,4,29, [.bool false, .slice none 0 0, .slice none 0 0],wI w 29 (CU.len 3)⟩,⟨10,5,29, [.bool false, .slice none 0 0, .slice none 0 0],wI w 29 (CU.len 3)⟩] 11 ((23, .Z (UF.eq v9))::(24, .Z (fTR 5 TT))::(25, .Z (fPN (((0:Int):Rat),((0:Int):Rat))))::(26, .Z (fPN (((4:Int):Rat),((0:Int):Rat))))::(27, .Z (zDU (fQN ((zAQ BT).1)) (fQN ((zAQ BT).2)) (uB true)))::(22, .Z (zDU (fQN ((zAQ BT).1)) (fQN ((zAQ BT).2)) (uB true)))::(28, .u (fQN ((zAQ BT).1)))::(29, .u (fQN ((zAQ BT).2)))::(30, .u (uB true))::(4, .s (wI w 29 (CU.len 3)))::(5, .s (wI w 29 (CU.len 3))):: []) hmix s (fmz ⟨⟨by show 9<11;decide,mz9,⟨_,_,_,rfl⟩,by kernel_rfl,jJ (fun _=>rfl) rfl⟩,fmz ⟨⟨by show 10<11;decide,zFm,⟨_,_,_,rfl⟩,by kernel_rfl,jJ (fun _=>rfl) rfl⟩,fnz⟩⟩) kJ
  (oc zC<|oc (zI (f:=fTR 5 TT) 18 kJ (hz:=zEJ _ _))<|oc (zJ zE zJ6 (fun u0 u1 W hb (h0:u0= .int .i64 0) (h1:u1= .int .i64 0)=>zFw h0 h1 dC dC))<|oc (zJ zE zJ6 (fun u0 u1 W hb (h0:u0= .int .i64 4) (h1:u1= .int .i64 0)=>zFw h0 h1 dC dC))<|oc (zBt zE zSG (fun u0 u1 u2 u3 W hb (h0:u0=v9) (h1:(fTR 5 TT).p u1 W) (h2:(fPN (((0:Int):Rat),((0:Int):Rat))).p u2 W) (h3:(fPN (((4:Int):Rat),((0:Int):Rat))).p u3 W)=>(zHz (R:=zBr LR 3) (T:=TT) (p:=(((0:Int):Rat),((0:Int):Rat))) (e_:=(((4:Int):Rat),((0:Int):Rat))) (yJ hv9 h0 (s.up hb)) h1 (qH (m:=1) dC (zCP (p:=(((0:Int):Rat),((0:Int):Rat))) (qbz dC) (qbz dC) h2)) (qH (m:=1) dC (zCP (p:=(((4:Int):Rat),((0:Int):Rat))) (qbz dC) (qbz dC) h3)) dC (hT.below (s.up hb))).mono (wG (fun v W h=>by rw [zVe] at h;exact h))))<|oc zC<|oc (zEo (A:=(fQN ((zAQ BT).1)).tS) (B:=(fQN ((zAQ BT).2)).tS) (C:=(uB true).tS) iiz)<|oc (zEn (A:=(fQN ((zAQ BT).1)).tS) (B:=(fQN ((zAQ BT).2)).tS) (C:=(uB true).tS) iiz)<|oc (zEm (A:=(fQN ((zAQ BT).1)).tS) (B:=(fQN ((zAQ BT).2)).tS) (C:=(uB true).tS) iiz)<|oc (zAH (cs:=zR3) kJ (jJ (fun _=>rfl) rfl))<|oc (zAH (cs:=zR3) kJ (jJ (fun _=>rfl) rfl))<|zD) fun Q' hQ a w4 s hr hd=> ?_
 obtain ⟨b4,hB4,e4,s⟩:=s.adoptA false 4 (hr (_,_) mz9) sg (fun y hy=> .inl (so y hy))
 obtain ⟨b5,hB5,e5,s⟩:=s.adoptA false 5 (hr (_,_) zFm) sg (fun y hy=>by rcases zXd.1 hy with rfl|hy;exact .inr (.inr fun b hb=>hd _ _ (.head _) mz1 (by show 9≠10;decide) _ _ e4 hb);exact .inl (so y hy))
 refine zN (CU.agg (fQN ((zAQ BT).1))) ((fQN ((zAQ BT).1)).tS) rfl s kJ rfl rfl rfl iiz iiz zV fun a w s=> ?_
 refine zN (CU.agg (fQN ((zAQ BT).2))) ((fQN ((zAQ BT).2)).tS) rfl s kJ rfl rfl rfl iiz iiz zV fun a w s=> ?_
 refine yT (uB true) rfl s kJ iiz fun a w s=> ?_
 refine zA rfl (hQ _ _ ?_)
 refine zW8 ?_
 refine jM 2 ((31, .s (SF.row 1 (zEs [0,0,1,0,1,0])))::(32, .s (wL w 31 6 (pns (zBr LW 3)))):: []) hmix s kJ
  (oc (zEZ _ _ _ _ _ _ iiz)<|oc (zH zE zRd (fun u0 W hb (h0:(SF.row 1 (zEs [0,0,1,0,1,0])).p u0 W)=>(zLH (L:=LW) h0 (zE8 dC).ok dC).mono (wG (zBX hb.size))))<|zD) fun a w5 s hr=> ?_
 obtain ⟨v32,e32⟩: ∃v,a.tmps.getD 32 undef=v:=⟨_,rfl⟩
 have hv32:(SF.row 6 (pvs 47 (zBr LW 3))).p v32 w5:=e32▸zPk dC dC _ _ (zBf _ _ (hr (_,_) mz1))
 replace s:=s.learn 32 v32 e32
 have hb1:=s.below
 replace hT:=hT.below hb1
 replace hv9:=(SF.row 6 _).st _ _ _ hv9 hb1
 replace s:StS _ _ _ [⟨5,29,CU.agg (fQN ((zAQ BT).2)),b5,true⟩,⟨4,29,CU.agg (fQN ((zAQ BT).1)),b4,true⟩,⟨3,42,CU.agg (fTR 5 TT),b3,true⟩] _ _ _ _:=s.freeze
 replace s:=s.reb rfl [(32, .u (UF.eq v32)),(6, .u (uB true)),(28, .u (fQN ((zAQ BT).1))),(29, .u (fQN ((zAQ BT).2))),(30, .u (uB true)),(21, .u (fTR 5 TT)),(2, .u (UF.eq v11)),(1, .u (UF.eq v9)),(11, .u (UF.eq v11)),(9, .u (UF.eq v9)),(0, .u (uB false))] (fmz ⟨.inl (.head _),fmz ⟨.inl mz1,fmz ⟨.inl mz2,fmz ⟨.inl mz3,fmz ⟨.inl mz4,fmz ⟨.inl mz5,fmz ⟨.inl mz6,fmz ⟨.inl mz7,fmz ⟨.inl mz8,fmz ⟨.inl mz9,fmz ⟨.inl zFm,fnz⟩⟩⟩⟩⟩⟩⟩⟩⟩⟩⟩)
 refine yT (UF.eq v32) rfl s kJ iiz fun a w s=> ?_
 refine zA rfl ?_
 refine zW8 ?_
 replace s:=s.drop [0]
 refine zB 42 ((33, .Z (uB true))::(34, .Z (uB true))::(35, .Z (fQN ((zAQ BT).1)))::(36, .Z (fQN (QU 1)))::(37, .Z (uB true))::(38, .Z (uB true))::(39, .Z (uB true))::(40, .Z (fQN ((zAQ BT).2)))::(41, .Z (fQN (QU 3)))::(42, .Z (uB true))::(43, .Z (uB true))::(44, .Z (uB true))::(45, .Z (UF.eq v9))::(46, .Z (fTR 5 TT))::(47, .s (SF.row 18 (trs 5 [TT])))::(48, .Z (UF.eq v32))::(49, .Z (uB true))::(50, .Z (uB true))::(51, .Z (uB true))::(52, .Z (UF.eq v9))::(53, .Z (fTR 5 TT))::(54, .s (SF.row 18 (trs 5 [TT])))::(55, .Z (fPN (((0:Int):Rat),((0:Int):Rat))))::(56, .Z (fPN (((1:Int):Rat),((0:Int):Rat))))::(57, .Z (fPN (((2:Int):Rat),((0:Int):Rat))))::(58, .s (SF.row 6 [CU.agg (fPN (((0:Int):Rat),((0:Int):Rat))),CU.agg (fPN (((1:Int):Rat),((0:Int):Rat))),CU.agg (fPN (((2:Int):Rat),((0:Int):Rat)))]))::(59, .Z (uI 1))::(60, .Z (uB true))::(61, .Z (uB true))::(62, .Z (uB true))::(63, .Z (UF.eq v32))::(64, .Z (fQN (zDt (zBr LW 3) ((zBr LW 3).length - 1))))::(65, .Z (fQN ((1:Int):Rat)))::(66, .Z (uB true))::(67, .Z (uB true))::(68, .Z (uB true))::(69, .Z (UF.eq v32))::(70, .s (SF.row 6 (pvs 47 (plV (zBr LW 3) (zBr LW 3).length))))::(71, .Z (uI (((pvs 47 (plV (zBr LW 3) (zBr LW 3).length)).length:Nat):Int)))::(72, .Z (uB true))::(73, .Z (uB true))::(0, .u (uB true)):: []) hmix s kJ
  (oc zC<|oc zC<|oc (zF 34 true kJ iiz (fun _=>zI (f:=fQN ((zAQ BT).1)) 3 kJ (hz:=yU _)) arf)<|oc (zF 34 true kJ iiz (fun _=>zH zE zSC (fun u0 W hb (h0:u0= .int .i64 1)=>zFx h0 dC)) arf)<|oc (zF 34 true kJ iiz (fun _=>zJ zE zOx (fun u0 u1 W hb (h0:QNp ((zAQ BT).1) u0 W) (h1:QNp (QU 1) u1 W)=>(zEh (m:=400) (p:=(zAQ BT).1) (q:=(QU 1)) (wD h0 zS6.1) (wD h1 (quz _ dC)) dC dC).mono (wG (fun v W h=>by rw [zVd] at h;exact h)))) arf)<|oc (y4 true iiz fR (fun e=>by cases e))<|oc zC<|oc (zF 39 true kJ iiz (fun _=>zI (f:=fQN ((zAQ BT).2)) 3 kJ (hz:=yU _)) arf)<|oc (zF 39 true kJ iiz (fun _=>zH zE zSC (fun u0 W hb (h0:u0= .int .i64 3)=>zFx h0 dC)) arf)<|oc (zF 39 true kJ iiz (fun _=>zJ zE zOx (fun u0 u1 W hb (h0:QNp ((zAQ BT).2) u0 W) (h1:QNp (QU 3) u1 W)=>(zEh (m:=400) (p:=(zAQ BT).2) (q:=(QU 3)) (wD h0 zS6.2) (wD h1 (quz _ dC)) dC dC).mono (wG (fun v W h=>by rw [zVc] at h;exact h)))) arf)<|oc (y4 true iiz fR (fun e=>by cases e))<|oc zC<|oc (zF 44 true kJ iiz (fun _=>zC) arf)<|oc (zF 44 true kJ iiz (fun _=>zI (f:=fTR 5 TT) 18 kJ (hz:=zEJ _ _)) arf)<|oc (zF 44 true kJ iiz (fun _=>jW (fun u W (hu:(fTR 5 TT).p u W)=>zO3 hu)) arf)<|oc (zF 44 true kJ iiz (fun _=>zC) arf)<|oc (zF 44 true kJ iiz (fun _=>zAg zE zOy (fun u0 u1 u2 W hb (h0:u0=v9) (h1:(SF.row 18 (trs 5 [TT])).p u1 W) (h2:u2=v32)=>(zEy (R:=zBr LR 3) (Ts:= [TT]) (ps:=zBr LW 3) (yJ hv9 h0 (s.up hb)) h1 (yJ hv32 h2 (s.up hb)) dC dC dC (hT.below (s.up hb))).mono (wG (fun v W h=>by rw [zVb] at h;exact h)))) arf)<|oc (y4 true iiz fR (fun e=>by cases e))<|oc zC<|oc (zF 51 true kJ iiz (fun _=>zC) arf)<|oc (zF 51 true kJ iiz (fun _=>zI (f:=fTR 5 TT) 18 kJ (hz:=zEJ _ _)) arf)<|oc (zF 51 true kJ iiz (fun _=>jW (fun u W (hu:(fTR 5 TT).p u W)=>zO3 hu)) arf)<|oc (zF 51 true kJ iiz (fun _=>zJ zE zJ6 (fun u0 u1 W hb (h0:u0= .int .i64 0) (h1:u1= .int .i64 0)=>zFw h0 h1 dC dC)) arf)<|oc (zF 51 true kJ iiz (fun _=>zJ zE zJ6 (fun u0 u1 W hb (h0:u0= .int .i64 1) (h1:u1= .int .i64 0)=>zFw h0 h1 dC dC)) arf)<|oc (zF 51 true kJ iiz (fun _=>zJ zE zJ6 (fun u0 u1 W hb (h0:u0= .int .i64 2) (h1:u1= .int .i64 0)=>zFw h0 h1 dC dC)) arf)<|oc (zF 51 true kJ iiz (fun _=>zCp (fun u v q W (hu:(fPN (((0:Int):Rat),((0:Int):Rat))).p u W) (hv:(fPN (((1:Int):Rat),((0:Int):Rat))).p v W) (hq:(fPN (((2:Int):Rat),((0:Int):Rat))).p q W)=>zIP hu hv hq)) arf)<|oc (zF 51 true kJ iiz (fun _=>zAg zE zSB (fun u0 u1 u2 W hb (h0:u0=v9) (h1:(SF.row 18 (trs 5 [TT])).p u1 W) (h2:(SF.row 6 [CU.agg (fPN (((0:Int):Rat),((0:Int):Rat))),CU.agg (fPN (((1:Int):Rat),((0:Int):Rat))),CU.agg (fPN (((2:Int):Rat),((0:Int):Rat)))]).p u2 W)=>(zJu (R:=zBr LR 3) (Ts:= [TT]) (ps:=L3) (yJ hv9 h0 (s.up hb)) h1 (zSi _ _ h2) dC dC dC (hT.below (s.up hb))).mono (wG (fun v W h=>by rw [zVa] at h;exact h)))) arf)<|oc (zF 51 true kJ iiz (fun _=>zU .i64 1 1 true iiz iiz (by rfl) rfl) arf)<|oc (y4 true iiz fR (fun e=>by cases e))<|oc zC<|oc (zF 62 true kJ iiz (fun _=>zC) arf)<|oc (zF 62 true kJ iiz (fun _=>zH zE zRf (fun u0 W hb (h0:u0=v32)=>zMC (ps:=zBr LW 3) (yJ hv32 h0 (s.up hb)) dC (hT.below (s.up hb)))) arf)<|oc (zF 62 true kJ iiz (fun _=>zH zE zD8 (fun u0 W hb (h0:u0= .int .i64 1)=>zCb _ h0 dC)) arf)<|oc (zF 62 true kJ iiz (fun _=>zJ zE zOx (fun u0 u1 W hb (h0:QNp (zDt (zBr LW 3) ((zBr LW 3).length - 1)) u0 W) (h1:QNp ((1:Int):Rat) u1 W)=>(zEh (m:=400) (p:=(zDt (zBr LW 3) ((zBr LW 3).length - 1))) (q:=((1:Int):Rat)) (wD h0 (zLY (fun p hp=>⟨(zFP (L:=LW) (zE8 dC) 3 p hp).1.mono dC,(zFP (L:=LW) (zE8 dC) 3 p hp).2.mono dC⟩) _ dC dC)) (wD h1 ((qbz (z:=1) dC).mono dC)) dC dC).mono (wG (fun v W h=>by rw [zU9] at h;exact h)))) arf)<|oc (y4 true iiz fR (fun e=>by cases e))<|oc zC<|oc (zF 68 true kJ iiz (fun _=>zC) arf)<|oc (zF 68 true kJ iiz (fun _=>zH zE zUl (fun u0 W hb (h0:u0=v32)=>(zOE (ps:=zBr LW 3) (yJ hv32 h0 (s.up hb)) dC (hT.below (s.up hb))).mono (wG zBf))) arf)<|oc (zF 68 true kJ iiz (fun _=>zBk (z:=6) (Cs:=pvs 47 (plV (zBr LW 3) (zBr LW 3).length)) kJ iiz (fun _=>rfl)) arf)<|oc (zF 68 true kJ iiz (fun _=>zU .i64 (((pvs 47 (plV (zBr LW 3) (zBr LW 3).length)).length:Nat):Int) 2 true iiz iiz (by rw [zXl,zU8];rfl) rfl) arf)<|oc (y4 true iiz fR (fun e=>by cases e))<|oc zG<|zD) fun a w6 s=> ?_
 refine zA rfl ?_
 refine zW9 ?_
 exact vH s (hb0.trans (hb1.mono hb0.size)) rfl iiz
theorem zBC {x:PX} (h:x.big=false) (cs:List Wu) (W:Wt) (hc:(PX.cu x).p cs W):0+6<=cs.length/\(fPV 2 x.p).p (.agg ((cs.drop 0).take 6).toArray) W:=zNR h cs W hc
end Go.Proofs.Wd

namespace Go.Proofs.Wd
open Tryz
set_option maxRecDepth 100000
set_option maxHeartbeats 1000000
open Go.RowKit Lb
theorem zIS {a b t:Rat} {m n k:Nat} (ha:QB a m) (hb:QB b n) (ht:QB t k):QB (a+(b - a)*t) (m+n+k+2):=by
 have da:=jS ha.2;have db:=jS hb.2;have dt:=jS ht.2
 have e1:=zHf a;have e2:=zHf b;have e3:=zHf t
 refine vJ (X:=a.num*(b.den:Int)*(t.den:Int)+(b.num*(a.den:Int)+ -(a.num*(b.den:Int)))*t.num) (D:=(a.den:Int)*(b.den:Int)*(t.den:Int)) oQ ?_ ?_ ?_ ?_
 ·simp only [Rat.intCast_mul,Rat.intCast_add,Rat.intCast_neg,Rat.intCast_natCast,e1,e2,e3]
  grind
 ·have h1:(a.den:Int)≠0:=by have:=a.den_pos;omega
  have h2:(b.den:Int)≠0:=by have:=b.den_pos;omega
  have h3:(t.den:Int)≠0:=by have:=t.den_pos;omega
  exact Int.mul_ne_zero (Int.mul_ne_zero h1 h2) h3
 ·exact (((ha.1.mul db).mul dt).mono (m':=m+n+k+1) oQ).add (((((hb.1.mul da).mono (m':=m+n) oQ).add ((ha.1.mul db).neg)).mul ht.1).mono oQ)
 ·exact ((da.mul db).mul dt).mono oQ
theorem zRW {x:QX} (h:x.n<=40/\x.n'<=40) (cs:List Wu) (W:Wt) (hc:(QX.cu x).p cs W):0+3<=cs.length/\(fRV 40 x.q).p (.agg ((cs.drop 0).take 3).toArray) W:=by
 have hl:=zI2 _ _ _ _ cs W hc
 refine ⟨by omega, ?_⟩
 rw [List.drop_zero,List.take_of_length_le oQ]
 exact zRn hc h.1 h.2
theorem zP1 {q:Rat} (h:decide (q.num.sign<0)=false):0<=q:=Rat.not_lt.1 fun g=>zXc h (zFX.2 g)
theorem zQA {q:Rat} (h:decide (qsg q ((1:Int):Rat)>0)=false):q<=1:=Rat.not_lt.1 fun g=>by
 have:=zXc h
 exact this (qgt.2 g)
theorem zP3 (a b:V2) (t:Rat):seg a b t=lpt a (yL b a) t:=rfl
theorem zTv {a b:V2} {t:Rat} {k M:Nat} (ha:QB a.1 2/\QB a.2 2) (hb:QB b.1 2/\QB b.2 2) (ht:QB t k) (hM:k+6<=M):QB (seg a b t).1 M/\QB (seg a b t).2 M:=⟨(zIS ha.1 hb.1 ht).mono oQ,(zIS ha.2 hb.2 ht).mono oQ⟩
theorem zS1 (R:List V2) (Ts:List V6) (a m b:V2):decide (zBN R Ts [a,m,b]<0)=(zCQ R Ts a m&&zCQ R Ts m b):=by
 rw [zB8 (fun h=>by cases h.1)]
 have e0:zFJ R Ts [a,m,b] 0= !(zCQ R Ts a m):=rfl
 have e1:zFJ R Ts [a,m,b] 1= !(zCQ R Ts m b):=rfl
 show decide (zQ1 _ 2<0)=_
 cases h0:zCQ R Ts a m with
 |false=>rw [zGs (k:=0) dC (fun j hj=>absurd hj (zXk _)) (by rw [e0,h0];rfl)];rfl
 |true=>
  cases h1:zCQ R Ts m b with
  |false=>rw [zGs (k:=1) dC (fun j hj=>by rw [show j=0 by omega,e0,h0];rfl) (by rw [e1,h1];rfl)];rfl
  |true=>rw [zCy (fun j hj=>by rcases (by omega:j=0∨j=1) with rfl|rfl;rw [e0,h0];rfl;rw [e1,h1];rfl)];rfl
theorem zS2 (R:List V2) (Ts:List V6) (m:V2):decide (zBN R Ts [m]<0)=zCz R Ts m:=by
 cases h:zCz R Ts m with
 |false=>rw [zFF rfl h];rfl
 |true=>rw [zB8 (fun g=>by rw [show zCz R Ts m=false from g.2] at h;cases h),zCy (fun j hj=>absurd hj (by show ¬j<0;omega))];rfl
theorem zS3 (R:List V2) (Ts:List V6):decide (zBN R Ts []<0)=true:=by
 rw [zB8 (fun h=>by cases h.1),zCy (fun j hj=>absurd hj (by show ¬j<0;omega))];rfl
theorem zVq (a b:V2) {t:Rat} (ht:0<=t/\t<=1):zDt [a,seg a b t,b] 2=zCT a b:=zMl a b ht
theorem zNO (x:Rat):(qsg x x==0)=true:=by
 rw [beq_iff_eq]
 rcases Int.lt_trichotomy (qsg x x) 0 with h|h|h
 ·exact absurd (qlt.1 h) (Rat.lt_irrefl)
 ·exact h
 ·exact absurd (qgt.1 h) (Rat.lt_irrefl)
theorem zLl (W:Wt):(SF.row 6 (pvs 47 [])).p (.slice none 0 0) W:=⟨none,0,rfl,Nat.le_refl _,by decide,fun _=>rfl,fun i C hi=>by simp at hi⟩
theorem zSh {y z mm:V2} {t:Rat} {v:Wu} {W:Wt} (hmm:mm=seg y z t) (ht:0<=t/\t<=1) (h:(fQN (zDt [y,mm,z] ([y,mm,z].length - 1))).p v W):(fQN (zCT y z)).p v W:=by
 rw [show zDt [y,mm,z] ([y,mm,z].length - 1)=zCT y z by subst hmm;exact zVq y z ht] at h
 exact h
theorem zQD {A:List PX} {TS:List TX} {y z:PX} {r:QX} {W:Wt} {rr l u v x:Wu} (hr0:(SF.row 6 (pxs A)).p rr W) (hl0:(SF.row 18 (txs TS)).p l W) (hy:(PX.u y).p u W) (hz':(PX.u z).p v W) (ht:QXp r.n r.n' r.k r.d x W) (_:A.length<=1048576) (_: ∀p,p∈A->PX.b p<=1048576) (_:TS.length<=1048576) (_: ∀p,p∈TS->TX.b p<=1048576) (_:PX.b y<=1048576) (_:PX.b z<=1048576) (hrb:r.n+r.n'<=1048576) (hT:Tab W):Calls prog 4 #[rr,l,u,v,x] W (Ret W (fB true).tS):=by
 refine zZ [(UF.eq rr).tS,(UF.eq l).tS,(PX.u y).tS,(PX.u z).tS,(fQX r.n r.n' r.k r.d).tS] func4 rfl kJ ⟨rfl,rfl,hy,hz',ht,trivial⟩ fun a s=> ?_
 replace s:=s.renew [(0, .u (UF.eq rr)),(1, .u (UF.eq l)),(2, .u (PX.u y)),(3, .u (PX.u z)),(4, .u (fQX r.n r.n' r.k r.d))] (fmz ⟨.inr ⟨_,rfl, .head _⟩,fmz ⟨.inr ⟨_,rfl,mz1⟩,fmz ⟨.inr ⟨_,rfl,mz2⟩,fmz ⟨.inr ⟨_,rfl,mz3⟩,fmz ⟨.inr ⟨_,rfl,mz4⟩,fnz⟩⟩⟩⟩⟩)
 refine zW8 ?_
 refine zB 0 [] hmix s kJ
  zD fun a w1 s=> ?_
 refine yK (PX.cu y) rfl s kJ (fun v W h=>y7 h) fun b7 a w s=> ?_
 refine yK (PX.cu z) rfl s kJ (fun v W h=>y7 h) fun b8 a w s=> ?_
 refine yK (QX.cu r) rfl s kJ (fun v W h=>zRX h) fun b9 a w s=> ?_
 refine yT (uB false) rfl s kJ iiz fun a w s=> ?_
 refine zA rfl ?_
 refine zW8 ?_
 refine zW8 ?_
 refine zB 22 ((13, .Z (UF.eq rr))::(14, .Z (UF.eq l))::(15, .Z (PX.u y))::(16, .Z (PX.u z))::(17, .s (SF.row 6 (pxs [y,z])))::(18, .Z (uB (g19 A TS [y,z])))::(19, .Z (uB (g19 A TS [y,z])))::(20, .s (SF.imp ((g19 A TS [y,z])=false) ((fQX r.n r.n' r.k r.d).tS)))::(21, .s (SF.imp ((g19 A TS [y,z])=false) (SF.row 3 ([r].map QX.cu))))::(22, .s (SF.imp ((g19 A TS [y,z])=false) ((uB (gq [r])).tS)))::(23, .Z (uB ((g19 A TS [y,z])||(gq [r]))))::(24, .Z (uB ((g19 A TS [y,z])||(gq [r]))))::(25, .s (SF.imp (((g19 A TS [y,z])||(gq [r]))=false) ((fQX r.n r.n' r.k r.d).tS)))::(26, .s (SF.imp (((g19 A TS [y,z])||(gq [r]))=false) ((uI (r.q.num.sign)).tS)))::(27, .s (SF.imp (((g19 A TS [y,z])||(gq [r]))=false) ((uB (decide (r.q.num.sign<0))).tS)))::(28, .Z (uB (((g19 A TS [y,z])||(gq [r]))||(decide (r.q.num.sign<0)))))::(29, .Z (uB (((g19 A TS [y,z])||(gq [r]))||(decide (r.q.num.sign<0)))))::(30, .s (SF.imp ((((g19 A TS [y,z])||(gq [r]))||(decide (r.q.num.sign<0)))=false) ((fQX r.n r.n' r.k r.d).tS)))::(31, .s (SF.imp ((((g19 A TS [y,z])||(gq [r]))||(decide (r.q.num.sign<0)))=false) ((fQN ((1:Int):Rat)).tS)))::(32, .s (SF.imp ((((g19 A TS [y,z])||(gq [r]))||(decide (r.q.num.sign<0)))=false) ((uI (qsg r.q ((1:Int):Rat))).tS)))::(33, .s (SF.imp ((((g19 A TS [y,z])||(gq [r]))||(decide (r.q.num.sign<0)))=false) ((uB (decide (qsg r.q ((1:Int):Rat)>0))).tS)))::(34, .u (uB ((((g19 A TS [y,z])||(gq [r]))||(decide (r.q.num.sign<0)))||(decide (qsg r.q ((1:Int):Rat)>0))))):: []) hmix s kJ
  (oc zC<|oc zC<|oc (zI (f:=PX.u y) 6 kJ (hz:=zS _ _))<|oc (zI (f:=PX.u z) 6 kJ (hz:=zS _ _))<|oc (yG (fun u v W (hu:(PX.u y).p u W) (hv:(PX.u z).p v W)=>zRH hu hv))<|oc (zAg zE zVt (fun u0 u1 u2 W hb (h0:u0=rr) (h1:u1=l) (h2:(SF.row 6 (pxs [y,z])).p u2 W)=>zMg (A:=A) (TS:=TS) (L:= [y,z]) (yJ hr0 h0 (s.up hb)) (yJ hl0 h1 (s.up hb)) h2))<|oc zC<|oc (zF 19 (g19 A TS [y,z]) kJ iiz (fun e=>yN [] ((fQX r.n r.n' r.k r.d).tS) fnz fS kJ (zI (f:=fQX r.n r.n' r.k r.d) 3 kJ (hz:=zI2 _ _ _ _))) fQ)<|oc (zF 19 (g19 A TS [y,z]) kJ iiz (fun e=>yN [(20,(fQX r.n r.n' r.k r.d).tS)] (SF.row 3 ([r].map QX.cu)) (fmz ⟨fun v W h=>z4 (c:=(g19 A TS [y,z])=false) (f:=(fQX r.n r.n' r.k r.d).tS) e h,fnz⟩) fS kJ (jW (fun u W (hu:(fQX r.n r.n' r.k r.d).p u W)=>zRG hu))) fQ)<|oc (zF 19 (g19 A TS [y,z]) kJ iiz (fun e=>yN [(21,SF.row 3 ([r].map QX.cu))] ((uB (gq [r])).tS) (fmz ⟨fun v W h=>z4 (c:=(g19 A TS [y,z])=false) (f:=SF.row 3 ([r].map QX.cu)) e h,fnz⟩) fS kJ (zH zE zVs (fun u0 W hb (h0:(SF.row 3 ([r].map QX.cu)).p u0 W)=>zK6 (L:= [r]) h0 (fun x hx=>by rw [zXe.1 hx];omega)))) fQ)<|oc (y4 (g19 A TS [y,z]) iiz (fun e v W h=>zBD h e) (fun e v W h=>zAY (z4 e h) e))<|oc zC<|oc (zF 24 ((g19 A TS [y,z])||(gq [r])) kJ iiz (fun e=>yN [] ((fQX r.n r.n' r.k r.d).tS) fnz fS kJ (zI (f:=fQX r.n r.n' r.k r.d) 3 kJ (hz:=zI2 _ _ _ _))) fQ)<|oc (zF 24 ((g19 A TS [y,z])||(gq [r])) kJ iiz (fun e=>yN [(25,(fQX r.n r.n' r.k r.d).tS)] ((uI (r.q.num.sign)).tS) (fmz ⟨fun v W h=>z4 (c:=((g19 A TS [y,z])||(gq [r]))=false) (f:=(fQX r.n r.n' r.k r.d).tS) e h,fnz⟩) fS kJ (zH zE zTk (fun u0 W hb (h0:(fQX r.n r.n' r.k r.d).p u0 W)=>zEg (m:=40) (zRn h0 (zDx (L:= [r]) (by simp only [zXi] at e;exact e.2) r (zXe.2 rfl)).1 (zDx (L:= [r]) (by simp only [zXi] at e;exact e.2) r (zXe.2 rfl)).2) dC))) fQ)<|oc (zF 24 ((g19 A TS [y,z])||(gq [r])) kJ iiz (fun e=>yN [(26,(uI (r.q.num.sign)).tS)] ((uB (decide (r.q.num.sign<0))).tS) (fmz ⟨fun v W h=>z4 (c:=((g19 A TS [y,z])||(gq [r]))=false) (f:=(uI (r.q.num.sign)).tS) e h,fnz⟩) fS kJ (zU .i64 (r.q.num.sign) 0 (decide (r.q.num.sign<0)) iiz iiz rfl rfl)) fQ)<|oc (y4 ((g19 A TS [y,z])||(gq [r])) iiz (fun e v W h=>zBD h e) (fun e v W h=>zAY (z4 e h) e))<|oc zC<|oc (zF 29 (((g19 A TS [y,z])||(gq [r]))||(decide (r.q.num.sign<0))) kJ iiz (fun e=>yN [] ((fQX r.n r.n' r.k r.d).tS) fnz fS kJ (zI (f:=fQX r.n r.n' r.k r.d) 3 kJ (hz:=zI2 _ _ _ _))) fQ)<|oc (zF 29 (((g19 A TS [y,z])||(gq [r]))||(decide (r.q.num.sign<0))) kJ iiz (fun e=>yN [] ((fQN ((1:Int):Rat)).tS) fnz fS kJ (zH zE zD8 (fun u0 W hb (h0:u0= .int .i64 1)=>zCb 1 h0 dC))) fQ)<|oc (zF 29 (((g19 A TS [y,z])||(gq [r]))||(decide (r.q.num.sign<0))) kJ iiz (fun e=>yN [(30,(fQX r.n r.n' r.k r.d).tS),(31,(fQN ((1:Int):Rat)).tS)] ((uI (qsg r.q ((1:Int):Rat))).tS) (fmz ⟨fun v W h=>z4 (c:=(((g19 A TS [y,z])||(gq [r]))||(decide (r.q.num.sign<0)))=false) (f:=(fQX r.n r.n' r.k r.d).tS) e h,fmz ⟨fun v W h=>z4 (c:=(((g19 A TS [y,z])||(gq [r]))||(decide (r.q.num.sign<0)))=false) (f:=(fQN ((1:Int):Rat)).tS) e h,fnz⟩⟩) fS kJ (zJ zE zU2 (fun u0 u1 W hb (h0:(fQX r.n r.n' r.k r.d).p u0 W) (h1:QNp ((1:Int):Rat) u1 W)=>zK7 (m:=40) (zRn h0 (zDx (L:= [r]) (by simp only [zXi] at e;exact e.1.2) r (zXe.2 rfl)).1 (zDx (L:= [r]) (by simp only [zXi] at e;exact e.1.2) r (zXe.2 rfl)).2) (wD h1 ((qbz (z:=1) dC).mono dC)) dC dC))) fQ)<|oc (zF 29 (((g19 A TS [y,z])||(gq [r]))||(decide (r.q.num.sign<0))) kJ iiz (fun e=>yN [(32,(uI (qsg r.q ((1:Int):Rat))).tS)] ((uB (decide (qsg r.q ((1:Int):Rat)>0))).tS) (fmz ⟨fun v W h=>z4 (c:=(((g19 A TS [y,z])||(gq [r]))||(decide (r.q.num.sign<0)))=false) (f:=(uI (qsg r.q ((1:Int):Rat))).tS) e h,fnz⟩) fS kJ (zU .i64 (qsg r.q ((1:Int):Rat)) 0 (decide (qsg r.q ((1:Int):Rat)>0)) iiz iiz rfl rfl)) fQ)<|oc (y4 (((g19 A TS [y,z])||(gq [r]))||(decide (r.q.num.sign<0))) iiz (fun e v W h=>zBD h e) (fun e v W h=>zAY (z4 e h) e))<|zD) fun a w2 s=> ?_
 refine zA rfl ?_
 refine StS.cond s ((((g19 A TS [y,z])||(gq [r]))||(decide (r.q.num.sign<0)))||(decide (qsg r.q ((1:Int):Rat)>0))) iiz (fun e=> ?_) (fun e=> ?_)
 ·refine zW8 ?_
  replace s:=s.drop [10]
  refine zB 2 ((35, .Z (uB true))::(10, .u (uB true)):: []) hmix s kJ
   (oc (zGe zE zST (fun W hb=>zKl (hT.below (s.up hb))))<|oc zG<|zD) fun a w3 s=> ?_
  refine zA rfl ?_
  refine zW9 ?_
  exact wH s (t:=10) rfl iiz
 ·simp only [zXi] at e
  obtain ⟨⟨⟨eG,eQ⟩,eS⟩,eC⟩:=e
  obtain ⟨eA,eT,eP⟩:=zTM eG
  have hA:=zQB eA rr W hr0
  have hTf:=zTL eT
  have hTS:=zPP (L:=TS) hTf.2 l W hl0
  have hy9:=(zMh eP).2 y (by simp)
  have hz9:=(zMh eP).2 z (by simp)
  have hyq:=zBd dC (zH2 hy9 hy)
  have hzq:=zBd dC (zH2 hz9 hz')
  have hr40:=zDx eQ r (by simp)
  have hqr:QB r.q 40:=QXp.qb ht hr40
  have h0t:0<=r.q/\r.q<=1:=⟨zP1 eS,zQA eC⟩
  have hnA:(pps A).length<=1000000:=by have:=(zMh eA).1;simp;omega
  have hnT:(tts TS).length<=1000000:=by have:=hTf.1;simp;omega
  have hqM:=zTv (M:=47) hyq hzq hqr dC
  obtain ⟨mm,hmm⟩: ∃m,m=seg y.p z.p r.q:=⟨_,rfl⟩
  obtain ⟨is,his⟩: ∃b,b=zCQ (pps A) (tts TS) y.p z.p:=⟨_,rfl⟩
  obtain ⟨l1,hl1⟩: ∃b,b=zCQ (pps A) (tts TS) y.p mm:=⟨_,rfl⟩
  obtain ⟨l2,hl2⟩: ∃b,b=zCQ (pps A) (tts TS) mm z.p:=⟨_,rfl⟩
  obtain ⟨fm,hfm⟩: ∃b,b=zCz (pps A) (tts TS) mm:=⟨_,rfl⟩
  have hl:(l1&&l2)=is:=by rw [hl1,hl2,his,hmm,zP3];exact zL0 _ _ _ _ h0t
  have hqF:QB (zCT y.p z.p) 400:=(zFa hyq hzq).mono dC
  refine zXa ?_
  refine zW8 ?_
  refine zB 4 ((36, .Z (fPV 2 (y.p)))::(37, .Z (fPV 2 (z.p)))::(38, .Z (fRV 40 (r.q)))::(39, .u (fPV 47 mm)):: []) hmix s kJ
   (oc (jG (C:=(PX.cu y).cf) 6 kJ (fun _ _ h=>h.2) (zBC hy9))<|oc (jG (C:=(PX.cu z).cf) 6 kJ (fun _ _ h=>h.2) (zBC hz9))<|oc (jG (C:=(QX.cu r).cf) 3 kJ (fun _ _ h=>h.2) (zRW hr40))<|oc (zAg zE zUq (fun u0 u1 u2 W hb (h0:(fPV 2 (y.p)).p u0 W) (h1:(fPV 2 (z.p)).p u1 W) (h2:RVp 40 (r.q) u2 W)=>(zRT (m:=2) (k:=40) 53 (p:=y.p) (q:=z.p) (t:=r.q) h0 h1 h2 hyq hzq hqr dC dC dC).mono (wG (fun v W h=>by rw [hmm];exact zCP (m:=47) hqM.1 hqM.2 h))))<|zD) fun a w4 s=> ?_
  refine zT (CU.len 6) (cs:=zP6) kJ rfl s kJ (fun W=>rfl) rfl fun b11 a w s=> ?_
  refine zN (CU.agg (fPV 47 mm)) ((fPV 47 mm).tS) rfl s kJ rfl rfl rfl iiz iiz qD fun a w s=> ?_
  refine zA rfl ?_
  refine zW8 ?_
  refine zB 6 ((40, .Z (UF.eq rr))::(41, .Z (UF.eq l))::(42, .Z (fPV 2 (y.p)))::(43, .Z (fPV 2 (z.p)))::(44, .Z (uB is))::(12, .u (uB is)):: []) hmix s kJ
   (oc zC<|oc zC<|oc (jG (C:=(PX.cu y).cf) 6 kJ (fun _ _ h=>h.2) (zBC hy9))<|oc (jG (C:=(PX.cu z).cf) 6 kJ (fun _ _ h=>h.2) (zBC hz9))<|oc (zBt zE zIp (fun u0 u1 u2 u3 W hb (h0:u0=rr) (h1:u1=l) (h2:(fPV 2 (y.p)).p u2 W) (h3:(fPV 2 (z.p)).p u3 W)=>(zFf (R:=pps A) (Ts:=tts TS) (p:=y.p) (e_:=z.p) (zAG (m:=2) dC _ _ (yJ hA h0 (s.up hb))) (zBq (m:=2) dC _ _ (yJ hTS h1 (s.up hb))) (qH (m:=2) (m':=47) dC h2) (qH (m:=2) (m':=47) dC h3) hnA hnT (hT.below (s.up hb))).mono (wG (fun v W h=>by rw [<-his] at h;exact h))))<|oc zG<|zD) fun a w5 s=> ?_
  refine zA rfl ?_
  refine zW8 ?_
  refine zW8 ?_
  refine zB 34 ((45, .Z (UF.eq rr))::(46, .Z (UF.eq l))::(47, .Z (fPV 2 (z.p)))::(48, .Z (fPV 2 (y.p)))::(49, .Z (uB is))::(50, .Z (uB is))::(51, .Z (uB false))::(52, .Z (uB false))::(53, .Z (UF.eq rr))::(54, .Z (UF.eq l))::(55, .Z (fPV 2 (y.p)))::(56, .Z (fPV 47 mm))::(57, .Z (fPV 2 (z.p)))::(58, .s (SF.row 6 (pvs 47 [y.p,mm,z.p])))::(59, .Z (uB is))::(60, .Z (uB is))::(61, .Z (uB false))::(62, .Z (uB false))::(63, .Z (uB false))::(64, .Z (UF.eq rr))::(65, .Z (UF.eq l))::(66, .Z (fPV 2 (y.p)))::(67, .Z (fPV 47 mm))::(68, .Z (uB l1))::(69, .Z (uB l1))::(70, .s (SF.imp ((l1)=true) ((UF.eq rr).tS)))::(71, .s (SF.imp ((l1)=true) ((UF.eq l).tS)))::(72, .s (SF.imp ((l1)=true) ((fPV 47 mm).tS)))::(73, .s (SF.imp ((l1)=true) ((fPV 2 (z.p)).tS)))::(74, .s (SF.imp ((l1)=true) ((uB l2).tS)))::(75, .Z (uB (l1&&l2)))::(76, .Z (uB is))::(77, .Z (uB false))::(78, .u (uB false)):: []) hmix s kJ
   (oc zC<|oc zC<|oc (jG (C:=(PX.cu z).cf) 6 kJ (fun _ _ h=>h.2) (zBC hz9))<|oc (jG (C:=(PX.cu y).cf) 6 kJ (fun _ _ h=>h.2) (zBC hy9))<|oc (zBt zE zIp (fun u0 u1 u2 u3 W hb (h0:u0=rr) (h1:u1=l) (h2:(fPV 2 (z.p)).p u2 W) (h3:(fPV 2 (y.p)).p u3 W)=>(zFf (R:=pps A) (Ts:=tts TS) (p:=z.p) (e_:=y.p) (zAG (m:=2) dC _ _ (yJ hA h0 (s.up hb))) (zBq (m:=2) dC _ _ (yJ hTS h1 (s.up hb))) (qH (m:=2) (m':=47) dC h2) (qH (m:=2) (m':=47) dC h3) hnA hnT (hT.below (s.up hb))).mono (wG (fun v W h=>by rw [zOf, <-his] at h;exact h))))<|oc zC<|oc (zE1 is is false kJ iiz iiz (zXj _) rfl)<|oc zC<|oc (zF 52 false kJ iiz (fun _=>zC) arf)<|oc (zF 52 false kJ iiz (fun _=>zC) arf)<|oc (zF 52 false kJ iiz (fun _=>jG (C:=(PX.cu y).cf) 6 kJ (fun _ _ h=>h.2) (zBC hy9)) arf)<|oc (zF 52 false kJ iiz (fun _=>zI (f:=fPV 47 mm) 6 kJ (hz:=zS _ _)) arf)<|oc (zF 52 false kJ iiz (fun _=>jG (C:=(PX.cu z).cf) 6 kJ (fun _ _ h=>h.2) (zBC hz9)) arf)<|oc (zF 52 false kJ iiz (fun _=>zCp (fun u v q W (hu:(fPV 2 (y.p)).p u W) (hv:(fPV 47 mm).p v W) (hq:(fPV 2 (z.p)).p q W)=>zIP (qH (m:=2) (m':=47) dC hu) hv (qH (m:=2) (m':=47) dC hq))) arf)<|oc (zF 52 false kJ iiz (fun _=>zAg zE zOy (fun u0 u1 u2 W hb (h0:u0=rr) (h1:u1=l) (h2:(SF.row 6 (pvs 47 [y.p,mm,z.p])).p u2 W)=>(zEy (R:=pps A) (Ts:=tts TS) (ps:= [y.p,mm,z.p]) (zAG (m:=2) dC _ _ (yJ hA h0 (s.up hb))) (zBq (m:=2) dC _ _ (yJ hTS h1 (s.up hb))) h2 hnA hnT (by simp) (hT.below (s.up hb))).mono (wG (fun v W h=>by rw [zS1, <-hl1, <-hl2,hl] at h;exact h)))) arf)<|oc (zF 52 false kJ iiz (fun _=>zC) arf)<|oc (zF 52 false kJ iiz (fun _=>zE1 is is false kJ iiz iiz (zXj _) rfl) arf)<|oc (y4 false iiz (fun e=>by cases e) fR)<|oc zC<|oc (zF 63 false kJ iiz (fun _=>zC) arf)<|oc (zF 63 false kJ iiz (fun _=>zC) arf)<|oc (zF 63 false kJ iiz (fun _=>jG (C:=(PX.cu y).cf) 6 kJ (fun _ _ h=>h.2) (zBC hy9)) arf)<|oc (zF 63 false kJ iiz (fun _=>zI (f:=fPV 47 mm) 6 kJ (hz:=zS _ _)) arf)<|oc (zF 63 false kJ iiz (fun _=>zBt zE zIp (fun u0 u1 u2 u3 W hb (h0:u0=rr) (h1:u1=l) (h2:(fPV 2 (y.p)).p u2 W) (h3:(fPV 47 mm).p u3 W)=>(zFf (R:=pps A) (Ts:=tts TS) (p:=y.p) (e_:=mm) (zAG (m:=2) dC _ _ (yJ hA h0 (s.up hb))) (zBq (m:=2) dC _ _ (yJ hTS h1 (s.up hb))) (qH (m:=2) (m':=47) dC h2) h3 hnA hnT (hT.below (s.up hb))).mono (wG (fun v W h=>by rw [<-hl1] at h;exact h)))) arf)<|oc (zF 63 false kJ iiz (fun _=>zC) arf)<|oc (zF 69 l1 kJ iiz (fun e=>yN [] ((UF.eq rr).tS) fnz fS kJ zC) fQ)<|oc (zF 69 l1 kJ iiz (fun e=>yN [] ((UF.eq l).tS) fnz fS kJ zC) fQ)<|oc (zF 69 l1 kJ iiz (fun e=>yN [] ((fPV 47 mm).tS) fnz fS kJ (zI (f:=fPV 47 mm) 6 kJ (hz:=zS _ _))) fQ)<|oc (zF 69 l1 kJ iiz (fun e=>yN [] ((fPV 2 (z.p)).tS) fnz fS kJ (jG (C:=(PX.cu z).cf) 6 kJ (fun _ _ h=>h.2) (zBC hz9))) fQ)<|oc (zF 69 l1 kJ iiz (fun e=>yN [(70,(UF.eq rr).tS),(71,(UF.eq l).tS),(72,(fPV 47 mm).tS),(73,(fPV 2 (z.p)).tS)] ((uB l2).tS) (fmz ⟨fun v W h=>z4 (c:=(l1)=true) (f:=(UF.eq rr).tS) e h,fmz ⟨fun v W h=>z4 (c:=(l1)=true) (f:=(UF.eq l).tS) e h,fmz ⟨fun v W h=>z4 (c:=(l1)=true) (f:=(fPV 47 mm).tS) e h,fmz ⟨fun v W h=>z4 (c:=(l1)=true) (f:=(fPV 2 (z.p)).tS) e h,fnz⟩⟩⟩⟩) fS kJ (zBt zE zIp (fun u0 u1 u2 u3 W hb (h0:u0=rr) (h1:u1=l) (h2:(fPV 47 mm).p u2 W) (h3:(fPV 2 (z.p)).p u3 W)=>(zFf (R:=pps A) (Ts:=tts TS) (p:=mm) (e_:=z.p) (zAG (m:=2) dC _ _ (yJ hA h0 (s.up hb))) (zBq (m:=2) dC _ _ (yJ hTS h1 (s.up hb))) h2 (qH (m:=2) (m':=47) dC h3) hnA hnT (hT.below (s.up hb))).mono (wG (fun v W h=>by rw [<-hl2] at h;exact h))))) fQ)<|oc (zF 63 false kJ iiz (fun _=>y4 l1 iiz (fun e v W h=>zB4 (z4 e h) e) (fun e v W h=>zBE h e)) arf)<|oc (zF 63 false kJ iiz (fun _=>zC) arf)<|oc (zF 63 false kJ iiz (fun _=>zE1 (l1&&l2) is false kJ iiz iiz (by rw [hl];exact zXj _) rfl) arf)<|oc (y4 false iiz (fun e=>by cases e) fR)<|zD) fun a w6 s=> ?_
  refine zA rfl ?_
  refine StS.cond s false iiz (fun e=>by cases e) (fun e=> ?_)
  refine zXa ?_
  refine zW8 ?_
  refine zW8 ?_
  refine zB 28 ((79, .Z (UF.eq rr))::(80, .Z (UF.eq l))::(81, .Z (fPV 47 mm))::(82, .Z (fPV 47 mm))::(83, .Z (uB fm))::(84, .Z (UF.eq rr))::(85, .Z (UF.eq l))::(86, .Z (fPV 47 mm))::(87, .Z (uB fm))::(88, .Z (uB false))::(89, .Z (uB false))::(90, .Z (UF.eq rr))::(91, .Z (UF.eq l))::(92, .Z (fPV 47 mm))::(93, .s (SF.row 6 (pvs 47 [mm])))::(94, .Z (uB fm))::(95, .Z (UF.eq rr))::(96, .Z (UF.eq l))::(97, .Z (fPV 47 mm))::(98, .Z (uB fm))::(99, .Z (uB false))::(100, .Z (uB false))::(101, .Z (uB false))::(102, .Z (UF.eq rr))::(103, .Z (UF.eq l))::(104, .Z (uB true))::(105, .Z (uB false))::(106, .u (uB false)):: []) hmix s kJ
   (oc zC<|oc zC<|oc (zI (f:=fPV 47 mm) 6 kJ (hz:=zS _ _))<|oc (zI (f:=fPV 47 mm) 6 kJ (hz:=zS _ _))<|oc (zBt zE zIp (fun u0 u1 u2 u3 W hb (h0:u0=rr) (h1:u1=l) (h2:(fPV 47 mm).p u2 W) (h3:(fPV 47 mm).p u3 W)=>(zFf (R:=pps A) (Ts:=tts TS) (p:=mm) (e_:=mm) (zAG (m:=2) dC _ _ (yJ hA h0 (s.up hb))) (zBq (m:=2) dC _ _ (yJ hTS h1 (s.up hb))) h2 h3 hnA hnT (hT.below (s.up hb))).mono (wG (fun v W h=>by rw [zOe, <-hfm] at h;exact h))))<|oc zC<|oc zC<|oc (zI (f:=fPV 47 mm) 6 kJ (hz:=zS _ _))<|oc (zAg zE zSO (fun u0 u1 u2 W hb (h0:u0=rr) (h1:u1=l) (h2:(fPV 47 mm).p u2 W)=>(zG2 (m:=2) (k:=47) (M:=50) (K:=47) (rs:=pps A) (ts:=tts TS) (p:=mm) (yJ hA h0 (s.up hb)) (yJ hTS h1 (s.up hb)) h2 dC dC dC dC dC dC dC hnA hnT).mono (wG (fun v W h=>by rw [hfm];exact h))))<|oc (zE1 fm fm false kJ iiz iiz (zXj _) rfl)<|oc zC<|oc (zF 89 false kJ iiz (fun _=>zC) arf)<|oc (zF 89 false kJ iiz (fun _=>zC) arf)<|oc (zF 89 false kJ iiz (fun _=>zI (f:=fPV 47 mm) 6 kJ (hz:=zS _ _)) arf)<|oc (zF 89 false kJ iiz (fun _=>jW (fun u W (hu:(fPV 47 mm).p u W)=>zEO (f:=fRV 47 (mm).1) (g:=fRV 47 (mm).2) hu)) arf)<|oc (zF 89 false kJ iiz (fun _=>zAg zE zOy (fun u0 u1 u2 W hb (h0:u0=rr) (h1:u1=l) (h2:(SF.row 6 (pvs 47 [mm])).p u2 W)=>(zEy (R:=pps A) (Ts:=tts TS) (ps:= [mm]) (zAG (m:=2) dC _ _ (yJ hA h0 (s.up hb))) (zBq (m:=2) dC _ _ (yJ hTS h1 (s.up hb))) h2 hnA hnT (by simp) (hT.below (s.up hb))).mono (wG (fun v W h=>by rw [zS2, <-hfm] at h;exact h)))) arf)<|oc (zF 89 false kJ iiz (fun _=>zC) arf)<|oc (zF 89 false kJ iiz (fun _=>zC) arf)<|oc (zF 89 false kJ iiz (fun _=>zI (f:=fPV 47 mm) 6 kJ (hz:=zS _ _)) arf)<|oc (zF 89 false kJ iiz (fun _=>zAg zE zSO (fun u0 u1 u2 W hb (h0:u0=rr) (h1:u1=l) (h2:(fPV 47 mm).p u2 W)=>(zG2 (m:=2) (k:=47) (M:=50) (K:=47) (rs:=pps A) (ts:=tts TS) (p:=mm) (yJ hA h0 (s.up hb)) (yJ hTS h1 (s.up hb)) h2 dC dC dC dC dC dC dC hnA hnT).mono (wG (fun v W h=>by rw [hfm];exact h)))) arf)<|oc (zF 89 false kJ iiz (fun _=>zE1 fm fm false kJ iiz iiz (zXj _) rfl) arf)<|oc (y4 false iiz (fun e=>by cases e) fR)<|oc zC<|oc (zF 101 false kJ iiz (fun _=>zC) arf)<|oc (zF 101 false kJ iiz (fun _=>zC) arf)<|oc (zF 101 false kJ iiz (fun _=>zAg zE zOy (fun u0 u1 u2 W hb (h0:u0=rr) (h1:u1=l) (h2:u2= .slice none 0 0)=>(zEy (R:=pps A) (Ts:=tts TS) (ps:= []) (zAG (m:=2) dC _ _ (yJ hA h0 (s.up hb))) (zBq (m:=2) dC _ _ (yJ hTS h1 (s.up hb))) (by rw [show _=Value.slice none 0 0 from h2];exact zLl _) hnA hnT (by simp) (hT.below (s.up hb))).mono (wG (fun v W h=>by rw [zS3] at h;exact h)))) arf)<|oc (zF 101 false kJ iiz (fun _=>zA8 true iiz (fun _=>rfl)) arf)<|oc (y4 false iiz (fun e=>by cases e) fR)<|zD) fun a w7 s=> ?_
  refine zA rfl ?_
  refine StS.cond s false iiz (fun e=>by cases e) (fun e=> ?_)
  refine zXa ?_
  refine zW8 ?_
  replace s:=s.drop [10]
  refine zB 20 ((107, .Z (fPV 2 (y.p)))::(108, .Z (fPV 47 mm))::(109, .Z (fPV 2 (z.p)))::(110, .s (SF.row 6 (pvs 47 [y.p,mm,z.p])))::(111, .Z (fQN (zCT y.p z.p)))::(112, .Z (fPV 2 (y.p)))::(113, .Z (fPV 2 (z.p)))::(114, .Z (fQN (zCT y.p z.p)))::(115, .Z (uB true))::(116, .Z (uB true))::(117, .Z (fPV 2 (y.p)))::(118, .s (SF.row 6 (pvs 47 [y.p])))::(119, .Z (fQN (zDt [y.p] 0)))::(120, .Z (uI 0))::(121, .Z (uB true))::(122, .Z (uB true))::(123, .Z (uB true))::(124, .Z (uB true))::(125, .Z (uB true))::(10, .u (uB true)):: []) hmix s kJ
   (oc (jG (C:=(PX.cu y).cf) 6 kJ (fun _ _ h=>h.2) (zBC hy9))<|oc (zI (f:=fPV 47 mm) 6 kJ (hz:=zS _ _))<|oc (jG (C:=(PX.cu z).cf) 6 kJ (fun _ _ h=>h.2) (zBC hz9))<|oc (zCp (fun u v q W (hu:(fPV 2 (y.p)).p u W) (hv:(fPV 47 mm).p v W) (hq:(fPV 2 (z.p)).p q W)=>zIP (qH (m:=2) (m':=47) dC hu) hv (qH (m:=2) (m':=47) dC hq)))<|oc (zH zE zRf (fun u0 W hb (h0:(SF.row 6 (pvs 47 [y.p,mm,z.p])).p u0 W)=>(zMC (ps:= [y.p,mm,z.p]) h0 (by simp) (hT.below (s.up hb))).mono (wG (fun v W h=>zSh hmm h0t h))))<|oc (jG (C:=(PX.cu y).cf) 6 kJ (fun _ _ h=>h.2) (zBC hy9))<|oc (jG (C:=(PX.cu z).cf) 6 kJ (fun _ _ h=>h.2) (zBC hz9))<|oc (zJ zE zUp (fun u0 u1 W hb (h0:(fPV 2 (y.p)).p u0 W) (h1:(fPV 2 (z.p)).p u1 W)=>zQk (p:=y.p) (q:=z.p) (qH (m:=2) (m':=47) dC h0) (qH (m:=2) (m':=47) dC h1)))<|oc (zJ zE zOx (fun u0 u1 W hb (h0:QNp (zCT y.p z.p) u0 W) (h1:QNp (zCT y.p z.p) u1 W)=>(zEh (m:=400) (p:=zCT y.p z.p) (q:=zCT y.p z.p) (wD h0 hqF) (wD h1 hqF) dC dC).mono (wG (fun v W h=>by rw [zNO] at h;exact h))))<|oc zC<|oc (zF 116 true kJ iiz (fun _=>jG (C:=(PX.cu y).cf) 6 kJ (fun _ _ h=>h.2) (zBC hy9)) arf)<|oc (zF 116 true kJ iiz (fun _=>jW (fun u W (hu:(fPV 2 (y.p)).p u W)=>zEO (f:=fRV 47 (y.p).1) (g:=fRV 47 (y.p).2) (qH (m:=2) (m':=47) dC hu))) arf)<|oc (zF 116 true kJ iiz (fun _=>zH zE zRf (fun u0 W hb (h0:(SF.row 6 (pvs 47 [y.p])).p u0 W)=>zMC (ps:= [y.p]) h0 (by simp) (hT.below (s.up hb)))) arf)<|oc (zF 116 true kJ iiz (fun _=>zH zE zTk (fun u0 W hb (h0:QNp (zDt [y.p] 0) u0 W)=>(zEg (m:=10) (wD h0 (QB.zero dC)) dC))) arf)<|oc (zF 116 true kJ iiz (fun _=>zU .i64 0 0 true iiz iiz dC rfl) arf)<|oc (y4 true iiz fR (fun e=>by cases e))<|oc zC<|oc (zF 123 true kJ iiz (fun _=>zGe zE zST (fun W hb=>zKl (hT.below (s.up hb)))) arf)<|oc (y4 true iiz fR (fun e=>by cases e))<|oc zG<|zD) fun a w8 s=> ?_
  refine zA rfl ?_
  refine zW9 ?_
  exact wH s (t:=10) rfl iiz
end Go.Proofs.Wd
