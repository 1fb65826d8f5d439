/- Walks of package chain: Leg, First, Chain, Length, Plain; vec and stra and what it needs. -/
import Derived.Test.YthjkmdblifmkoaaGreatDoorMCQ21
import Derived.Test.YthjkmdblifmkoaaGreatDoorMCQ20
theorem kJ {P:Prop} (h:P:=by kernel_rfl):P:=h
theorem oQ {P:Prop} (h:P:=by omega):P:=h
theorem dC {P:Prop} (h:P:=by decide):P:=h
theorem fQ {c:Prop} {α:Sort _} {R:α->Prop} (e:¬c) (w:α) (h:c):R w:=absurd h e
theorem fR {α β:Sort _} {γ:α->β->Sort _} {p:(a:α)->(b:β)->γ a b->Prop} (a:α) (b:β) (c:γ a b) (h:p a b c):p a b c:=h
theorem fS {β γ:Sort _} {p q:β->γ->Prop} (b:β) (c:γ) (h:p b c) (_:q b c):p b c:=h
abbrev zWR:=@Go.wpIn_seq
abbrev zWS:=@Go.wpIn_skip
abbrev zWT:=@Go.wpIn_ret
abbrev zWU:=@Go.wpIn_block
abbrev zWV:=@decide_eq_false
abbrev zWW:=@of_decide_eq_false
abbrev zWX:=@Go.wpIn_exit
abbrev zWY:=@List.mem_cons
abbrev zWZ:=@Nat.zero_le
abbrev zW0:=@of_decide_eq_true
abbrev zW1:=@List.mem_singleton
abbrev zW2:=@Bool.or_eq_false_iff
abbrev zW3:=@List.length_map
abbrev zW4:=@Nat.le_trans
abbrev zW5:=@decide_eq_true
abbrev zW6:=@Nat.not_lt_zero
abbrev zW7:=@Nat.lt_or_eq_of_le
abbrev zW8:=@Nat.le_of_lt_succ
abbrev Wt:=Go.World
abbrev Wu:=Go.Value
namespace Go.Proofs.Wd
open Tryz
set_option maxRecDepth 100000
set_option maxHeartbeats 1000000
open Go.RowKit Lb
section
variable {F:Fence} {m:Nat} {P:Program} {w0:Wt} {ops:Array Oper} {G:Nat->SF} {d:Tmp} {ty:TypeId} {pos:String} {aft:Array Edge}
theorem zH7 {x y:Operand} {ats:Array TypeId} (u v:Int) (hx: ∀q W,(fct G x).p q W->q= .int .i64 u) (hy: ∀q W,(fct G y).p q W->q= .int .i64 v) (hd: ∀W,(G d).p (.int .i64 (max u v)) W:=by exact fun _=>rfl):qP F m P w0 ops G ⟨some d, .call ⟨.builtin .max,#[x,y],ats⟩,ty,pos,aft,none⟩:=by
 intro b W K Q hb hr hK
 have e1:=hx _ _ (qA hr (x:=x) (by simp [Op.operands,Call.operands]))
 have e2:=hy _ _ (qA hr (x:=y) (by simp [Op.operands,Call.operands]))
 refine ⟨fun f hf=>(by
  unfold Oper.about at hf
  simp [resolve,go_sem] at hf), ?_⟩
 rw [Oper.semAt_eq _ _ _ (fun _ e=>by cases e)]
 have:(execOp b.eval ⟨some d, .call ⟨.builtin .max,#[x,y],ats⟩,ty,pos,aft,none⟩).run P W= .ok (.value (.int .i64 (max u v))) W:=by
  have h:max u v=if u<v then v else u:=by split<;>omega
  simp [execOp,resolve,invoke,builtin,e1,e2,Builtin.max_,Builtin.max2,h]
 rw [this]
 exact hK _ _ (fun d' e'=>by cases e';exact hd _) (Below.refl _ _)
end
theorem zOb {R:List V2} {Ts:List V6} {a b:V2} (h: ∀j,j<Ts.length->(zAK (tl (at3 Ts j)) R a (yU b a)).2=false):zD9 R Ts a b=true:=by
 unfold zD9
 simp only [Bool.not_eq_true',List.any_eq_false]
 intro t ht
 obtain ⟨j,hj,rfl⟩:=zIa ht
 rw [h j hj]
 decide
theorem zLV {R:List V2} {Ts:List V6} {a b:V2} {k:Nat} (hk:k<Ts.length) (h:(zAK (tl (at3 Ts k)) R a (yU b a)).2=true):zD9 R Ts a b=false:=by
 unfold zD9
 rw [Bool.not_eq_false',List.any_eq_true]
 exact ⟨_,zME hk,h⟩
def zRk (f:Nat->Bool) (N:Nat):Int:=match (List.range N).find? f with|some k=>(k:Int)|none=> -1
theorem zHj {f:Nat->Bool} {N:Nat} (h: ∀j,j<N->f j=false):zRk f N= -1:=by
 unfold zRk
 rw [List.find?_eq_none.2 (fun x hx=>by rw [h x (List.mem_range.1 hx)];simp)]
theorem zMc {f:Nat->Bool} {N k:Nat} (hk:k<N) (h: ∀j,j<k->f j=false) (e:f k=true):zRk f N=(k:Int):=by
 unfold zRk
 have:(List.range N).find? f=some k:=by
  rw [List.find?_range_eq_some]
  exact ⟨e,List.mem_range.2 hk,fun j hj=>by rw [h j hj];rfl⟩
 rw [this]
def zJr (R:List V2) (Ts:List V6) (ps:List V2) (k:Nat):Bool:= !(zD9 R Ts (at_ ps k) (at_ ps (k+1)))
def zCx (R:List V2) (Ts:List V6) (ps:List V2):Int:=if (ps.length=1/\zBn R Ts (at_ ps 0)=false) then 0 else zRk (zJr R Ts ps) (ps.length - 1)
theorem zJX {R:List V2} {Ts:List V6} {ps:List V2} (h1:ps.length=1) (h:zBn R Ts (at_ ps 0)=false):zCx R Ts ps=0:=if_pos ⟨h1,h⟩
theorem zEt {R:List V2} {Ts:List V6} {ps:List V2} (h: ¬(ps.length=1/\zBn R Ts (at_ ps 0)=false)):zCx R Ts ps=zRk (zJr R Ts ps) (ps.length - 1):=if_neg h
def zEo (ps:List V2):Nat->Rat
 |0=>((0:Int):Rat)
 |k+1=>zEo ps k+zJY (at_ ps k) (at_ ps (k+1))
def plV (ps:List V2):Nat->List V2
 |0=> []
 |k+1=>if (decide (k=0)|| !(zE8 (at_ ps k) (at_ ps (k - 1))==0))=true then plV ps k++ [at_ ps k] else plV ps k
theorem zR7 {ps:List V2} {k:Nat} (h:(decide (k=0)|| !(zE8 (at_ ps k) (at_ ps (k - 1))==0))=true):plV ps (k+1)=plV ps k++ [at_ ps k]:=if_pos h
theorem zTt {ps:List V2} {k:Nat} (h:(decide (k=0)|| !(zE8 (at_ ps k) (at_ ps (k - 1))==0))=false):plV ps (k+1)=plV ps k:=if_neg (by rw [h];decide)
theorem zH1 (ps:List V2): ∀k,(plV ps k).length<=k
 |0=>Nat.le_refl _
 |k+1=>by
  have ih:=zH1 ps k
  show (if _ then _ else _:List V2).length<=_
  split
  ·rw [List.length_append];simp;omega
  ·omega
theorem zGw {x y:Rat} {m:Nat} (h1:QB x m) (h2:QB y m):QB (zBz x y) (2*m+1):=by
 unfold zBz
 split
 ·exact (h2.sub h1).mono oQ
 ·exact (h1.sub h2).mono oQ
theorem zGn {p q:V2} {m:Nat} (h1:QB p.1 m/\QB p.2 m) (h2:QB q.1 m/\QB q.2 m):QB (zJY p q) (4*m+3):=((zGw h1.1 h2.1).add (zGw h1.2 h2.2)).mono oQ
theorem zLT {ps:List V2} (h: ∀p,p∈ps->QB p.1 47/\QB p.2 47): ∀k,k<ps.length->k<=2->QB (zEo ps k) 400
 |0,_,_=>QB.zero dC
 |1,h1,_=>((QB.zero (m:=1) dC).add (zGn (h _ (qV (show 0<ps.length by omega))) (h _ (qV h1)))).mono dC
 |2,h2,_=>((((QB.zero (m:=1) dC).add (zGn (h _ (qV (show 0<ps.length by omega))) (h _ (qV (show 1<ps.length by omega))))).mono (m':=193) dC).add (zGn (h _ (qV (show 1<ps.length by omega))) (h _ (qV h2)))).mono dC
 |k+3,_,hk=>by omega
theorem zOI {m k M:Nat} {W:Wt} {r l v:Wu} {rs:List V2} {ts:List V6} {p:V2} (hr_:(SF.row 6 (pvs m rs)).p r W) (ht:(SF.row 18 (trs m ts)).p l W) (h1:(fPV k p).p v W) (hm0:0<m) (hmk:m<=k) (hk:k<=60) (hM:m+k+1<=M) (hM2:M<=60) (hn:rs.length<=1000000) (hnt:ts.length<=1000000) (hT:Tab W):Calls prog 55 #[r,l,v] W (Ret W (fB (!(ts.any (fun t=> !(yX (yS rs p) (tl t)))))).tS):=by
 have hk0:0<k:=by omega
 have hsh:=zGM (zCP hm0 hr_) (zA7 hk0 h1) hM
 refine z5 [SF.row 6 (pvs m rs),SF.row 18 (trs m ts),(fPV k p).tS] func55 rfl kJ ⟨hr_,ht,h1,trivial⟩ fun a s=> ?_
 refine zWR ?_
 refine zB 0 [] hmix s kJ
  zD fun a w1 s=> ?_
 refine yN (CU.agg (fPV k p)) rfl s kJ (fun v W h=>qC h) fun b5 a w s=> ?_
 refine yV (uB false) rfl s kJ iiz fun a w s=> ?_
 refine zA rfl ?_
 refine zWR ?_
 refine jG 3 ((8, .s (SF.row 6 (pvs m rs)))::(9, .Z (fPV k p))::(10, .s (wL w 31 6 (pns (yS rs p)))):: []) hmix s kJ
  (oc zC<|oc (zI (f:=fPV k p) 6 kJ (hz:=zX _ _))<|oc (zJ zE zTP (fun u0 u1 W hb (h0:(SF.row 6 (pvs m rs)).p u0 W) (h1:(fPV k p).p u1 W)=>(zOD (m:=k) (zBI hmk _ _ h0) h1 oQ hk0 hn (hT.below (s.up hb))).mono (wI (zBV hb.size))))<|zD) fun a w2 s hr=> ?_
 obtain ⟨v10,e10⟩: ∃v,a.tmps.getD 10 undef=v:=⟨_,rfl⟩
 have hv10:(SF.row 6 (pvs M (yS rs p))).p v10 w2:=e10▸zF3 hsh _ _ (zBe _ _ (hr (_,_) mz2))
 have hvp:=zBA hv10
 replace s:=s.learn 10 v10 e10
 have hb0:=s.below
 have hT0:=hT
 replace hT:=hT.below hb0
 replace s:StS _ _ _ [⟨5,31,CU.agg (fPV k p),b5,true⟩] _ _ _ _:=s.freeze
 replace s:=s.reb rfl [(10, .u (UF.eq v10)),(6, .u (uB false)),(0, .o (SF.row 6 (pvs m rs))),(1, .o (SF.row 18 (trs m ts))),(2, .o ((fPV k p).tS))] (fmz ⟨.inl (.head _),fmz ⟨.inl mz1,fmz ⟨.inl mz2,fmz ⟨.inl mz3,fmz ⟨.inl mz4,fnz⟩⟩⟩⟩⟩)
 refine zU (CU.len 1) (cs:= [.slice none 0 0]) kJ rfl s kJ (fun W=>rfl) rfl fun b7 a w s=> ?_
 refine q9 (c:=7) (o:=0) (kk:=1) (wC [v10]) ((UF.eq v10).tS) rfl s kJ rfl rfl (fun _ _ h=>h.1) iiz (zNh hvp.1 hvp.2 (zEL hv10)) fun a w s=> ?_
 refine zA rfl ?_
 refine zWR ?_
 replace s:=s.drop [6]
 refine zB 5 ((11, .s (SF.row 18 (trs m ts)))::(12, .s (SF.fn prog (TBt M (fun t=> !(yX (yS rs p) (tl t))))))::(13, .Z (uB (ts.any (fun t=> !(yX (yS rs p) (tl t))))))::(14, .Z (uB (!(ts.any (fun t=> !(yX (yS rs p) (tl t)))))))::(6, .u (uB (!(ts.any (fun t=> !(yX (yS rs p) (tl t))))))):: []) hmix s kJ
  (oc zC<|oc (zDj (fun u W hb (h:(wE b7 (wC [v10]).cf).p u W)=>zFz (enters_of func83 kJ rfl) (fun W' hb' args R ⟨u1,t,e,h1,hT',hR⟩=>by subst e hR;simpa using zOJ h1 ((wB _).st _ _ _ h.2 hb') ((SF.row 6 _).st _ _ _ ((SF.row 6 _).st _ _ _ hv10 (s.up hb)) hb') hM2 oQ (by rw [zAC];exact hn) hT')))<|oc (zJ zE zTO (fun u0 u1 W hb (h0:(SF.row 18 (trs m ts)).p u0 W) (h1:(SF.fn prog (TBt M (fun t=> !(yX (yS rs p) (tl t))))).p u1 W)=>zUn (zEc oQ _ _ h0) h1 hnt (hT.below (s.up hb))))<|oc (zAy (ts.any (fun t=> !(yX (yS rs p) (tl t)))) iiz (fun _=>rfl))<|oc zG<|zD) fun a w3 s=> ?_
 refine zA rfl ?_
 refine zWT ?_
 exact vD s hb0 (t:=6) rfl iiz
theorem zHt {W:Wt} {r l u v:Wu} {R:List V2} {Ts:List V6} {p e_:V2} (hr_:(SF.row 6 (pvs 5 R)).p r W) (ht:(SF.row 18 (trs 5 Ts)).p l W) (h1:(fPV 47 p).p u W) (h2:(fPV 47 e_).p v W) (hn:R.length<=1000000) (hnt:Ts.length<=1000000) (hT:Tab W):Calls prog 14 #[r,l,u,v] W (Ret W (fB (zD9 R Ts p e_)).tS):=by
 refine z5 [(UF.eq r).tS,(UF.eq l).tS,(fPV 47 p).tS,(fPV 47 e_).tS] func14 rfl kJ ⟨rfl,rfl,h1,h2,trivial⟩ fun a s=> ?_
 replace s:=s.renew [(0, .u (UF.eq r)),(1, .u (UF.eq l)),(2, .u (fPV 47 p)),(3, .u (fPV 47 e_))] (fmz ⟨.inr ⟨_,rfl, .head _⟩,fmz ⟨.inr ⟨_,rfl,mz1⟩,fmz ⟨.inr ⟨_,rfl,mz2⟩,fmz ⟨.inr ⟨_,rfl,mz3⟩,fnz⟩⟩⟩⟩)
 refine zWR ?_
 refine zB 0 [] hmix s kJ
  zD fun a w1 s=> ?_
 refine yN (CU.agg (fPV 47 p)) rfl s kJ (fun v W h=>qC h) fun b6 a w s=> ?_
 refine yN (CU.agg (fPV 47 e_)) rfl s kJ (fun v W h=>qC h) fun b7 a w s=> ?_
 refine yV (uB false) rfl s kJ iiz fun a w s=> ?_
 refine zA rfl ?_
 refine zWR ?_
 refine zWR ?_
 refine zB 3 ((14, .u (UF.eq l))::(15, .u (uI ((trs 5 Ts).length:Int)))::(16, .u (uI 0)):: []) hmix s kJ
  (oc zC<|oc (jC (z:=18) (Cs:=trs 5 Ts) kJ (fun v W hb h=>(yK ht h (s.up hb))) (fun _=>rfl))<|oc zC<|zD) fun a w2 s=> ?_
 refine zA rfl ?_
 refine zWU ?_
 refine zAV (fun k=>k<=Ts.length/\ ∀j,j<k->(zAK (tl (at3 Ts j)) R p (yU e_ p)).2=false) (fun k=> [(0, .u (UF.eq r)),(14, .u (UF.eq l)),(15, .u (uI ((trs 5 Ts).length:Int))),(16, .u (uI ((k:Nat):Int)))]) (fun k=>Ts.length - k) (0:Nat) (⟨zWZ _,fun j hj=>absurd hj (zW6 _)⟩) (s.keepK _ (fmz ⟨mz4,fmz ⟨.head _,fmz ⟨mz1,fmz ⟨mz2,fnz⟩⟩⟩⟩)) fun k a w hx s=> ?_
 refine zWR ?_
 refine zB 1 ((17, .u (uB (decide ((k:Int)<((trs 5 Ts).length:Int))))):: []) hmix s kJ
  (oc (zR .i64 (k:Int) ((trs 5 Ts).length:Int) (decide ((k:Int)<((trs 5 Ts).length:Int))) iiz iiz rfl rfl)<|zD) fun a w3 s=> ?_
 refine zA rfl ?_
 refine zWR ?_
 refine StS.cond s (decide ((k:Int)<((trs 5 Ts).length:Int))) iiz (fun e=> ?_) (fun e=> ?_)
 ·have hk:k<Ts.length:=by have:=zW0 e;simp at this;omega
  refine zWS ?_
  refine zWR ?_
  refine zWU ?_
  refine zWR ?_
  refine zB 2 ((18, .Y (fTR 5 (at3 Ts k)))::(19, .u (fTR 5 (at3 Ts k))):: []) hmix s kJ
   (oc (yP (z:=18) (Cs:=trs 5 Ts) (i:=k) (C:=CU.agg (fTR 5 (at3 Ts k))) kJ (zCe hk) (fun v W hb h=>(yK ht h (s.up hb))) iiz)<|oc (zI (f:=fTR 5 (at3 Ts k)) 18 kJ (hz:=zC7 _ _))<|zD) fun a w4 s=> ?_
  refine zU (CU.len 18) (cs:= [.bool false, .slice none 0 0, .slice none 0 0, .bool false, .slice none 0 0, .slice none 0 0, .bool false, .slice none 0 0, .slice none 0 0, .bool false, .slice none 0 0, .slice none 0 0, .bool false, .slice none 0 0, .slice none 0 0, .bool false, .slice none 0 0, .slice none 0 0]) kJ rfl s kJ (fun W=>rfl) rfl fun b10 a w s=> ?_
  refine zN (CU.agg (fTR 5 (at3 Ts k))) ((fTR 5 (at3 Ts k)).tS) rfl s kJ rfl rfl rfl iiz iiz zIA fun a w s=> ?_
  refine zA rfl ?_
  refine zWR ?_
  refine zB 9 ((21, .Z (UF.eq r))::(22, .Z (fTR 5 (at3 Ts k)))::(23, .Z (fPV 47 p))::(24, .Z (fPV 47 e_))::(25, .Z (zC2 (fQN ((yB (zAK (tl (at3 Ts k)) R p (yU e_ p))).1)) (fQN ((yB (zAK (tl (at3 Ts k)) R p (yU e_ p))).2)) (uB ((zAK (tl (at3 Ts k)) R p (yU e_ p)).2))))::(20, .Z (zC2 (fQN ((yB (zAK (tl (at3 Ts k)) R p (yU e_ p))).1)) (fQN ((yB (zAK (tl (at3 Ts k)) R p (yU e_ p))).2)) (uB ((zAK (tl (at3 Ts k)) R p (yU e_ p)).2))))::(26, .u (fQN ((yB (zAK (tl (at3 Ts k)) R p (yU e_ p))).1)))::(27, .u (fQN ((yB (zAK (tl (at3 Ts k)) R p (yU e_ p))).2)))::(28, .u (uB ((zAK (tl (at3 Ts k)) R p (yU e_ p)).2))):: []) hmix s kJ
   (oc zC<|oc (zI (f:=fTR 5 (at3 Ts k)) 18 kJ (hz:=zC7 _ _))<|oc (zI (f:=fPV 47 p) 6 kJ (hz:=zX _ _))<|oc (zI (f:=fPV 47 e_) 6 kJ (hz:=zX _ _))<|oc (zBK zE zQ7 (fun u0 u1 u2 u3 W hb (h0:u0=r) (h1:(fTR 5 (at3 Ts k)).p u1 W) (h2:(fPV 47 p).p u2 W) (h3:(fPV 47 e_).p u3 W)=>zFa (yK hr_ h0 (s.up hb)) h1 h2 h3 hn (hT.below (s.up hb))))<|oc zC<|oc (zDm (A:=(fQN ((yB (zAK (tl (at3 Ts k)) R p (yU e_ p))).1)).tS) (B:=(fQN ((yB (zAK (tl (at3 Ts k)) R p (yU e_ p))).2)).tS) (C:=(uB ((zAK (tl (at3 Ts k)) R p (yU e_ p)).2)).tS) iiz)<|oc (zDl (A:=(fQN ((yB (zAK (tl (at3 Ts k)) R p (yU e_ p))).1)).tS) (B:=(fQN ((yB (zAK (tl (at3 Ts k)) R p (yU e_ p))).2)).tS) (C:=(uB ((zAK (tl (at3 Ts k)) R p (yU e_ p)).2)).tS) iiz)<|oc (zDk (A:=(fQN ((yB (zAK (tl (at3 Ts k)) R p (yU e_ p))).1)).tS) (B:=(fQN ((yB (zAK (tl (at3 Ts k)) R p (yU e_ p))).2)).tS) (C:=(uB ((zAK (tl (at3 Ts k)) R p (yU e_ p)).2)).tS) iiz)<|zD) fun a w5 s=> ?_
  refine zU (CU.len 3) (cs:=zR3) kJ rfl s kJ (fun W=>rfl) rfl fun b11 a w s=> ?_
  refine zU (CU.len 3) (cs:=zR3) kJ rfl s kJ (fun W=>rfl) rfl fun b12 a w s=> ?_
  refine zN (CU.agg (fQN ((yB (zAK (tl (at3 Ts k)) R p (yU e_ p))).1))) ((fQN ((yB (zAK (tl (at3 Ts k)) R p (yU e_ p))).1)).tS) rfl s kJ rfl rfl rfl iiz iiz zV fun a w s=> ?_
  refine zN (CU.agg (fQN ((yB (zAK (tl (at3 Ts k)) R p (yU e_ p))).2))) ((fQN ((yB (zAK (tl (at3 Ts k)) R p (yU e_ p))).2)).tS) rfl s kJ rfl rfl rfl iiz iiz zV fun a w s=> ?_
  refine yV (uB ((zAK (tl (at3 Ts k)) R p (yU e_ p)).2)) rfl s kJ iiz fun a w s=> ?_
  refine zA rfl ?_
  refine zWR ?_
  refine zB 1 ((29, .u (uB ((zAK (tl (at3 Ts k)) R p (yU e_ p)).2))):: []) hmix s kJ
   (oc zC<|zD) fun a w6 s=> ?_
  refine zA rfl ?_
  refine StS.cond s ((zAK (tl (at3 Ts k)) R p (yU e_ p)).2) iiz (fun e=> ?_) (fun e=> ?_)
  ·refine zWR ?_
   refine zB 1 ((8, .u (uB false)):: []) hmix s kJ
    (oc zG<|zD) fun a w7 s=> ?_
   refine zA rfl ?_
   refine zWT ?_
   exact wH s (t:=8) rfl (fun v W h=>by rw [zLV hk e];exact h)
  ·refine zWS ?_
   refine zZ 1 ((30, .u (uI ((k+1:Nat):Int))):: []) s kJ
    (oc (yR .i64 (k:Int) 1 ((k+1:Nat):Int) iiz iiz (wrap64 _ _ oQ oQ))<|zD) fun a w8 s=> ?_
   replace s:=s.drop [16]
   refine zCD (uI ((k+1:Nat):Int)) rfl s kJ zC kJ fun a w s=> ?_
   refine zA rfl ?_
   replace s:=s.popB
   replace s:=s.popB
   replace s:=s.popB
   exact ⟨k+1,⟨hk,fun j hj=>by rcases zW7 (zW8 hj) with h|h;exact hx.2 j h;rw [h];exact e⟩,(by show Ts.length - (k+1)<Ts.length - k;omega),s.keepK _ (fmz ⟨mz9,fmz ⟨zD8,fmz ⟨zH8,fmz ⟨.head _,fnz⟩⟩⟩⟩)⟩
 ·have hk:k=Ts.length:=by have h7:=zWW e;have h8:=hx.1;simp at h7;omega
  refine zWX ?_
  refine zWR ?_
  refine zB 1 ((8, .u (uB true)):: []) hmix s kJ
   (oc zG<|zD) fun a w9 s=> ?_
  refine zA rfl ?_
  refine zWT ?_
  exact wH s (t:=8) rfl (fun v W h=>by rw [zOb (fun j hj=>hx.2 j oQ)];exact h)
theorem wY (z:Int) (h1: -9223372036854775808<=z) (h2:z<=9223372036854775807):IntKind.i64.wrap z=z:=by rw [IntKind.wrap_i64];omega
theorem zJn {W:Wt} {r l q:Wu} {R:List V2} {Ts:List V6} {ps:List V2} (hr_:(SF.row 6 (pvs 5 R)).p r W) (ht:(SF.row 18 (trs 5 Ts)).p l W) (hq_:(SF.row 6 (pvs 47 ps)).p q W) (hn:R.length<=1000000) (hnt:Ts.length<=1000000) (hnq:ps.length<=1000000) (hT:Tab W):Calls prog 34 #[r,l,q] W (Ret W (fI (zCx R Ts ps)).tS):=by
 refine z5 [(UF.eq r).tS,(UF.eq l).tS,(UF.eq q).tS] func34 rfl kJ ⟨rfl,rfl,rfl,trivial⟩ fun a s=> ?_
 replace s:=s.renew [(0, .u (UF.eq r)),(1, .u (UF.eq l)),(2, .u (UF.eq q))] (fmz ⟨.inr ⟨_,rfl, .head _⟩,fmz ⟨.inr ⟨_,rfl,mz1⟩,fmz ⟨.inr ⟨_,rfl,mz2⟩,fnz⟩⟩⟩)
 refine zWR ?_
 refine zB 1 ((6, .u (uI 0)):: []) hmix s kJ
  (oc zG<|zD) fun a w1 s=> ?_
 refine zA rfl ?_
 refine zWR ?_
 refine zWR ?_
 rcases Nat.decEq ps.length 1 with hl1|hl1
 ·refine zB 12 ((8, .Z (UF.eq q))::(9, .Z (uI ((pvs 47 ps).length:Int)))::(10, .Z (uB false))::(11, .Z (uB false))::(19, .u (uB false)):: []) hmix s kJ
   (oc zC<|oc (jC (z:=6) (Cs:=pvs 47 ps) kJ (fun v W hb h=>(yK hq_ h (s.up hb))) (fun _=>rfl))<|oc (zR .i64 ((pvs 47 ps).length:Int) 1 false iiz iiz (beq_eq_false_iff_ne.2 (by simp;omega)) rfl)<|oc zC<|oc (zF 11 false kJ iiz (fun e=>by cases e) (fun _ _=>trivial))<|oc (zF 11 false kJ iiz (fun e=>by cases e) (fun _ _=>trivial))<|oc (zF 11 false kJ iiz (fun e=>by cases e) (fun _ _=>trivial))<|oc (zF 11 false kJ iiz (fun e=>by cases e) (fun _ _=>trivial))<|oc (zF 11 false kJ iiz (fun e=>by cases e) (fun _ _=>trivial))<|oc (zF 11 false kJ iiz (fun e=>by cases e) (fun _ _=>trivial))<|oc (zF 11 false kJ iiz (fun e=>by cases e) (fun _ _=>trivial))<|oc (yM false iiz (fun e=>by cases e) fR)<|zD) fun a w2 s=> ?_
  refine zA rfl ?_
  refine StS.cond s false iiz (fun e=>by cases e) (fun e=> ?_)
  refine zWS ?_
  refine zWR ?_
  refine zWR ?_
  have hnn: ¬(ps.length=1/\zBn R Ts (at_ ps 0)=false):=fun h=>hl1 h.1
  refine zB 5 ((20, .Z (UF.eq q))::(21, .Z (uI ((pvs 47 ps).length:Int)))::(22, .Z (uI (((pvs 47 ps).length:Int) - 1)))::(23, .u (uI (max (((pvs 47 ps).length:Int) - 1) 0)))::(24, .u (uI 0)):: []) hmix s kJ
   (oc zC<|oc (jC (z:=6) (Cs:=pvs 47 ps) kJ (fun v W hb h=>(yK hq_ h (s.up hb))) (fun _=>rfl))<|oc (zF4 .i64 ((pvs 47 ps).length:Int) 1 (((pvs 47 ps).length:Int) - 1) iiz iiz (by simp only [zW3];exact wY _ oQ oQ))<|oc (zH7 (((pvs 47 ps).length:Int) - 1) 0 iiz iiz)<|oc zC<|zD) fun a w3 s=> ?_
  refine zA rfl ?_
  refine zWU ?_
  refine zAV (fun k=>k<=ps.length - 1/\ ∀j,j<k->zJr R Ts ps j=false) (fun k=> [(0, .u (UF.eq r)),(1, .u (UF.eq l)),(2, .u (UF.eq q)),(23, .u (uI (max (((pvs 47 ps).length:Int) - 1) 0))),(24, .u (uI ((k:Nat):Int)))]) (fun k=>(ps.length - 1) - k) (0:Nat) (⟨zWZ _,fun j hj=>absurd hj (zW6 _)⟩) (s.keepK _ (fmz ⟨mz4,fmz ⟨mz5,fmz ⟨mz6,fmz ⟨.head _,fmz ⟨mz1,fnz⟩⟩⟩⟩⟩)) fun k a w hx s=> ?_
  have hlz:(pvs 47 ps).length=ps.length:=by simp
  refine zWR ?_
  refine zB 1 ((25, .u (uB (decide ((k:Int)<max (((pvs 47 ps).length:Int) - 1) 0)))):: []) hmix s kJ
   (oc (zR .i64 (k:Int) (max (((pvs 47 ps).length:Int) - 1) 0) (decide ((k:Int)<max (((pvs 47 ps).length:Int) - 1) 0)) iiz iiz rfl rfl)<|zD) fun a w4 s=> ?_
  refine zA rfl ?_
  refine zWR ?_
  refine StS.cond s (decide ((k:Int)<max (((pvs 47 ps).length:Int) - 1) 0)) iiz (fun e=> ?_) (fun e=> ?_)
  ·have hk:k+1<ps.length:=by have:=zW0 e;rw [hlz] at this;omega
   refine zWS ?_
   refine zWR ?_
   refine zWU ?_
   refine zWR ?_
   refine zB 2 ((26, .Z (uI (k:Int)))::(7, .u (uI (k:Int))):: []) hmix s kJ
    (oc zC<|oc zG<|zD) fun a w5 s=> ?_
   refine zA rfl ?_
   refine zWR ?_
   refine zB 13 ((27, .Z (UF.eq r))::(28, .Z (UF.eq l))::(29, .Z (UF.eq q))::(30, .Z (uI (k:Int)))::(31, .Y (fPV 47 (at_ ps k)))::(32, .Z (fPV 47 (at_ ps k)))::(33, .Z (UF.eq q))::(34, .Z (uI (k:Int)))::(35, .Z (uI ((k+1:Nat):Int)))::(36, .Y (fPV 47 (at_ ps (k+1))))::(37, .Z (fPV 47 (at_ ps (k+1))))::(38, .Z (uB (zD9 R Ts (at_ ps k) (at_ ps (k+1)))))::(39, .u (uB (!(zD9 R Ts (at_ ps k) (at_ ps (k+1)))))):: []) hmix s kJ
    (oc zC<|oc zC<|oc zC<|oc zC<|oc (yP (z:=6) (Cs:=pvs 47 ps) (i:=k) (C:=CU.agg (fPV 47 (at_ ps k))) kJ (jA (show k<ps.length by omega)) (fun v W hb h=>(yK hq_ h (s.up hb))) iiz)<|oc (zI (f:=fPV 47 (at_ ps k)) 6 kJ (hz:=zX _ _))<|oc zC<|oc zC<|oc (yR .i64 (k:Int) 1 ((k+1:Nat):Int) iiz iiz (wrap64 _ _ oQ oQ))<|oc (yP (z:=6) (Cs:=pvs 47 ps) (i:=(k+1)) (C:=CU.agg (fPV 47 (at_ ps (k+1)))) kJ (jA (show k+1<ps.length by omega)) (fun v W hb h=>(yK hq_ h (s.up hb))) iiz)<|oc (zI (f:=fPV 47 (at_ ps (k+1))) 6 kJ (hz:=zX _ _))<|oc (zBK zE zMm (fun u0 u1 u2 u3 W hb (h0:u0=r) (h1:u1=l) (h2:(fPV 47 (at_ ps k)).p u2 W) (h3:(fPV 47 (at_ ps (k+1))).p u3 W)=>zHt (yK hr_ h0 (s.up hb)) (yK ht h1 (s.up hb)) h2 h3 hn hnt (hT.below (s.up hb))))<|oc (zAy (zD9 R Ts (at_ ps k) (at_ ps (k+1))) iiz (fun _=>rfl))<|zD) fun a w6 s=> ?_
   refine zA rfl ?_
   refine StS.cond s (!(zD9 R Ts (at_ ps k) (at_ ps (k+1)))) iiz (fun e=> ?_) (fun e=> ?_)
   ·refine zWR ?_
    refine zB 2 ((40, .Z (uI (k:Int)))::(6, .u (uI (k:Int))):: []) hmix s kJ
     (oc zC<|oc zG<|zD) fun a w7 s=> ?_
    refine zA rfl ?_
    refine zWT ?_
    exact wH s (t:=6) rfl (fun v W h=>by rw [zEt hnn,zMc (k:=k) oQ hx.2 e];exact h)
   ·refine zWS ?_
    refine zZ 1 ((41, .u (uI ((k+1:Nat):Int))):: []) s kJ
     (oc (yR .i64 (k:Int) 1 ((k+1:Nat):Int) iiz iiz (wrap64 _ _ oQ oQ))<|zD) fun a w8 s=> ?_
    replace s:=s.drop [24]
    refine zCD (uI ((k+1:Nat):Int)) rfl s kJ zC kJ fun a w s=> ?_
    refine zA rfl ?_
    exact ⟨k+1,⟨by omega,fun j hj=>by rcases zW7 (zW8 hj) with h|h;exact hx.2 j h;rw [h];exact e⟩,(by show ps.length - 1 - (k+1)<ps.length - 1 - k;omega),s.keepK _ (fmz ⟨mz5,fmz ⟨mz6,fmz ⟨mz7,fmz ⟨mz8,fmz ⟨.head _,fnz⟩⟩⟩⟩⟩)⟩
  ·have hk:k=ps.length - 1:=by have h7:=zWW e;have h8:=hx.1;rw [hlz] at h7;omega
   refine zWX ?_
   refine zWR ?_
   refine zB 1 ((6, .u (uI (-1))):: []) hmix s kJ
    (oc zG<|zD) fun a w9 s=> ?_
   refine zA rfl ?_
   refine zWT ?_
   exact wH s (t:=6) rfl (fun v W h=>by rw [zEt hnn,zHj (fun j hj=>hx.2 j oQ)];exact h)
 ·refine zB 12 ((8, .Z (UF.eq q))::(9, .Z (uI ((pvs 47 ps).length:Int)))::(10, .Z (uB true))::(11, .Z (uB true))::(12, .Z (UF.eq r))::(13, .Z (UF.eq l))::(14, .Z (UF.eq q))::(15, .Y (fPV 47 (at_ ps 0)))::(16, .Z (fPV 47 (at_ ps 0)))::(17, .Z (uB (zBn R Ts (at_ ps 0))))::(18, .Z (uB (!(zBn R Ts (at_ ps 0)))))::(19, .u (uB (!(zBn R Ts (at_ ps 0))))):: []) hmix s kJ
   (oc zC<|oc (jC (z:=6) (Cs:=pvs 47 ps) kJ (fun v W hb h=>(yK hq_ h (s.up hb))) (fun _=>rfl))<|oc (zR .i64 ((pvs 47 ps).length:Int) 1 true iiz iiz (beq_iff_eq.2 (by simp;omega)) rfl)<|oc zC<|oc (zF 11 true kJ iiz (fun _=>zC) arf)<|oc (zF 11 true kJ iiz (fun _=>zC) arf)<|oc (zF 11 true kJ iiz (fun _=>zC) arf)<|oc (zF 11 true kJ iiz (fun _=>yP (z:=6) (Cs:=pvs 47 ps) (i:=0) (C:=CU.agg (fPV 47 (at_ ps 0))) kJ (jA (show 0<ps.length by omega)) (fun v W hb h=>(yK hq_ h (s.up hb))) iiz) arf)<|oc (zF 11 true kJ iiz (fun _=>zI (f:=fPV 47 (at_ ps 0)) 6 kJ (hz:=zX _ _)) arf)<|oc (zF 11 true kJ iiz (fun _=>zAh zE zT1 (fun u0 u1 u2 W hb (h0:u0=r) (h1:u1=l) (h2:(fPV 47 (at_ ps 0)).p u2 W)=>zOI (m:=5) (k:=47) (M:=53) (ts:=Ts) (rs:=R) (p:=at_ ps 0) (yK hr_ h0 (s.up hb)) (yK ht h1 (s.up hb)) h2 dC dC dC dC dC hn hnt (hT.below (s.up hb)))) arf)<|oc (zF 11 true kJ iiz (fun _=>zAy (zBn R Ts (at_ ps 0)) iiz (fun _=>rfl)) arf)<|oc (yM true iiz fR (fun e=>by cases e))<|zD) fun a w10 s=> ?_
  refine zA rfl ?_
  refine StS.cond s (!(zBn R Ts (at_ ps 0))) iiz (fun e=> ?_) (fun e=> ?_)
  ·refine zWR ?_
   replace s:=s.drop [6]
   refine zB 1 ((6, .u (uI 0)):: []) hmix s kJ
    (oc zG<|zD) fun a w11 s=> ?_
   refine zA rfl ?_
   refine zWT ?_
   exact wH s (t:=6) rfl (fun v W h=>by rw [zJX hl1 (by simpa using e)];exact h)
  ·refine zWS ?_
   refine zWR ?_
   refine zWR ?_
   have hnn: ¬(ps.length=1/\zBn R Ts (at_ ps 0)=false):=fun h=>by rw [h.2] at e;cases e
   refine zB 5 ((20, .Z (UF.eq q))::(21, .Z (uI ((pvs 47 ps).length:Int)))::(22, .Z (uI (((pvs 47 ps).length:Int) - 1)))::(23, .u (uI (max (((pvs 47 ps).length:Int) - 1) 0)))::(24, .u (uI 0)):: []) hmix s kJ
    (oc zC<|oc (jC (z:=6) (Cs:=pvs 47 ps) kJ (fun v W hb h=>(yK hq_ h (s.up hb))) (fun _=>rfl))<|oc (zF4 .i64 ((pvs 47 ps).length:Int) 1 (((pvs 47 ps).length:Int) - 1) iiz iiz (by simp only [zW3];exact wY _ oQ oQ))<|oc (zH7 (((pvs 47 ps).length:Int) - 1) 0 iiz iiz)<|oc zC<|zD) fun a w12 s=> ?_
   refine zA rfl ?_
   refine zWU ?_
   refine zAV (fun k=>k<=ps.length - 1/\ ∀j,j<k->zJr R Ts ps j=false) (fun k=> [(0, .u (UF.eq r)),(1, .u (UF.eq l)),(2, .u (UF.eq q)),(23, .u (uI (max (((pvs 47 ps).length:Int) - 1) 0))),(24, .u (uI ((k:Nat):Int)))]) (fun k=>(ps.length - 1) - k) (0:Nat) (⟨zWZ _,fun j hj=>absurd hj (zW6 _)⟩) (s.keepK _ (fmz ⟨mz4,fmz ⟨mz5,fmz ⟨mz6,fmz ⟨.head _,fmz ⟨mz1,fnz⟩⟩⟩⟩⟩)) fun k a w hx s=> ?_
   have hlz:(pvs 47 ps).length=ps.length:=by simp
   refine zWR ?_
   refine zB 1 ((25, .u (uB (decide ((k:Int)<max (((pvs 47 ps).length:Int) - 1) 0)))):: []) hmix s kJ
    (oc (zR .i64 (k:Int) (max (((pvs 47 ps).length:Int) - 1) 0) (decide ((k:Int)<max (((pvs 47 ps).length:Int) - 1) 0)) iiz iiz rfl rfl)<|zD) fun a w13 s=> ?_
   refine zA rfl ?_
   refine zWR ?_
   refine StS.cond s (decide ((k:Int)<max (((pvs 47 ps).length:Int) - 1) 0)) iiz (fun e=> ?_) (fun e=> ?_)
   ·have hk:k+1<ps.length:=by have:=zW0 e;rw [hlz] at this;omega
    refine zWS ?_
    refine zWR ?_
    refine zWU ?_
    refine zWR ?_
    refine zB 2 ((26, .Z (uI (k:Int)))::(7, .u (uI (k:Int))):: []) hmix s kJ
     (oc zC<|oc zG<|zD) fun a w14 s=> ?_
    refine zA rfl ?_
    refine zWR ?_
    refine zB 13 ((27, .Z (UF.eq r))::(28, .Z (UF.eq l))::(29, .Z (UF.eq q))::(30, .Z (uI (k:Int)))::(31, .Y (fPV 47 (at_ ps k)))::(32, .Z (fPV 47 (at_ ps k)))::(33, .Z (UF.eq q))::(34, .Z (uI (k:Int)))::(35, .Z (uI ((k+1:Nat):Int)))::(36, .Y (fPV 47 (at_ ps (k+1))))::(37, .Z (fPV 47 (at_ ps (k+1))))::(38, .Z (uB (zD9 R Ts (at_ ps k) (at_ ps (k+1)))))::(39, .u (uB (!(zD9 R Ts (at_ ps k) (at_ ps (k+1)))))):: []) hmix s kJ
     (oc zC<|oc zC<|oc zC<|oc zC<|oc (yP (z:=6) (Cs:=pvs 47 ps) (i:=k) (C:=CU.agg (fPV 47 (at_ ps k))) kJ (jA (show k<ps.length by omega)) (fun v W hb h=>(yK hq_ h (s.up hb))) iiz)<|oc (zI (f:=fPV 47 (at_ ps k)) 6 kJ (hz:=zX _ _))<|oc zC<|oc zC<|oc (yR .i64 (k:Int) 1 ((k+1:Nat):Int) iiz iiz (wrap64 _ _ oQ oQ))<|oc (yP (z:=6) (Cs:=pvs 47 ps) (i:=(k+1)) (C:=CU.agg (fPV 47 (at_ ps (k+1)))) kJ (jA (show k+1<ps.length by omega)) (fun v W hb h=>(yK hq_ h (s.up hb))) iiz)<|oc (zI (f:=fPV 47 (at_ ps (k+1))) 6 kJ (hz:=zX _ _))<|oc (zBK zE zMm (fun u0 u1 u2 u3 W hb (h0:u0=r) (h1:u1=l) (h2:(fPV 47 (at_ ps k)).p u2 W) (h3:(fPV 47 (at_ ps (k+1))).p u3 W)=>zHt (yK hr_ h0 (s.up hb)) (yK ht h1 (s.up hb)) h2 h3 hn hnt (hT.below (s.up hb))))<|oc (zAy (zD9 R Ts (at_ ps k) (at_ ps (k+1))) iiz (fun _=>rfl))<|zD) fun a w15 s=> ?_
    refine zA rfl ?_
    refine StS.cond s (!(zD9 R Ts (at_ ps k) (at_ ps (k+1)))) iiz (fun e=> ?_) (fun e=> ?_)
    ·refine zWR ?_
     refine zB 2 ((40, .Z (uI (k:Int)))::(6, .u (uI (k:Int))):: []) hmix s kJ
      (oc zC<|oc zG<|zD) fun a w16 s=> ?_
     refine zA rfl ?_
     refine zWT ?_
     exact wH s (t:=6) rfl (fun v W h=>by rw [zEt hnn,zMc (k:=k) oQ hx.2 e];exact h)
    ·refine zWS ?_
     refine zZ 1 ((41, .u (uI ((k+1:Nat):Int))):: []) s kJ
      (oc (yR .i64 (k:Int) 1 ((k+1:Nat):Int) iiz iiz (wrap64 _ _ oQ oQ))<|zD) fun a w17 s=> ?_
     replace s:=s.drop [24]
     refine zCD (uI ((k+1:Nat):Int)) rfl s kJ zC kJ fun a w s=> ?_
     refine zA rfl ?_
     exact ⟨k+1,⟨by omega,fun j hj=>by rcases zW7 (zW8 hj) with h|h;exact hx.2 j h;rw [h];exact e⟩,(by show ps.length - 1 - (k+1)<ps.length - 1 - k;omega),s.keepK _ (fmz ⟨mz5,fmz ⟨mz6,fmz ⟨mz7,fmz ⟨mz8,fmz ⟨.head _,fnz⟩⟩⟩⟩⟩)⟩
   ·have hk:k=ps.length - 1:=by have h7:=zWW e;have h8:=hx.1;rw [hlz] at h7;omega
    refine zWX ?_
    refine zWR ?_
    refine zB 1 ((6, .u (uI (-1))):: []) hmix s kJ
     (oc zG<|zD) fun a w18 s=> ?_
    refine zA rfl ?_
    refine zWT ?_
    exact wH s (t:=6) rfl (fun v W h=>by rw [zEt hnn,zHj (fun j hj=>hx.2 j oQ)];exact h)
theorem zOA {W:Wt} {r l q:Wu} {R:List V2} {Ts:List V6} {ps:List V2} (hr_:(SF.row 6 (pvs 5 R)).p r W) (ht:(SF.row 18 (trs 5 Ts)).p l W) (hq_:(SF.row 6 (pvs 47 ps)).p q W) (hn:R.length<=1000000) (hnt:Ts.length<=1000000) (hnq:ps.length<=1000000) (hT:Tab W):Calls prog 17 #[r,l,q] W (Ret W (fB (decide (zCx R Ts ps<0))).tS):=by
 refine z5 [(UF.eq r).tS,(UF.eq l).tS,(UF.eq q).tS] func17 rfl kJ ⟨rfl,rfl,rfl,trivial⟩ fun a s=> ?_
 replace s:=s.renew [(0, .u (UF.eq r)),(1, .u (UF.eq l)),(2, .u (UF.eq q))] (fmz ⟨.inr ⟨_,rfl, .head _⟩,fmz ⟨.inr ⟨_,rfl,mz1⟩,fmz ⟨.inr ⟨_,rfl,mz2⟩,fnz⟩⟩⟩)
 refine zWR ?_
 refine zB 1 ((6, .u (uB false)):: []) hmix s kJ
  (oc zG<|zD) fun a w1 s=> ?_
 refine zA rfl ?_
 refine zWR ?_
 replace s:=s.drop [6]
 refine zB 6 ((7, .Z (UF.eq r))::(8, .Z (UF.eq l))::(9, .Z (UF.eq q))::(10, .Z (uI (zCx R Ts ps)))::(11, .Z (uB (decide (zCx R Ts ps<0))))::(6, .u (uB (decide (zCx R Ts ps<0)))):: []) hmix s kJ
  (oc zC<|oc zC<|oc zC<|oc (zAh zE zSy (fun u0 u1 u2 W hb (h0:u0=r) (h1:u1=l) (h2:u2=q)=>zJn (yK hr_ h0 (s.up hb)) (yK ht h1 (s.up hb)) (yK hq_ h2 (s.up hb)) hn hnt hnq (hT.below (s.up hb))))<|oc (zR .i64 (zCx R Ts ps) 0 (decide (zCx R Ts ps<0)) iiz iiz rfl rfl)<|oc zG<|zD) fun a w2 s=> ?_
 refine zA rfl ?_
 refine zWT ?_
 exact wH s (t:=6) rfl (fun v W h=>h)
theorem zPD {W:Wt} {u v:Wu} {x y:Rat} (h1:RVp 47 x u W) (h2:RVp 47 y v W) (hT:Tab W):Calls prog 75 #[u,v] W (Ret W (fQN (zBz x y)).tS):=by
 refine z5 [(fRV 47 x).tS,(fRV 47 y).tS] func75 rfl kJ ⟨h1,h2,trivial⟩ fun a s=> ?_
 refine zWR ?_
 refine zB 0 [] hmix s kJ
  zD fun a w1 s=> ?_
 refine yN (CU.agg (fRV 47 x)) rfl s kJ (fun v W h=>zAc h) fun b2 a w s=> ?_
 refine yN (CU.agg (fRV 47 y)) rfl s kJ (fun v W h=>zAc h) fun b3 a w s=> ?_
 refine zU (CU.len 3) (cs:=zR3) kJ rfl s kJ (fun W=>rfl) rfl fun b4 a w s=> ?_
 refine zA rfl ?_
 refine zWR ?_
 refine zWR ?_
 refine zB 4 ((5, .Z (fRV 47 x))::(6, .Z (fRV 47 y))::(7, .Z (uI (qsg x y)))::(8, .u (uB (decide (qsg x y<0)))):: []) hmix s kJ
  (oc (zI (f:=fRV 47 x) 3 kJ (hz:=yW _ _))<|oc (zI (f:=fRV 47 y) 3 kJ (hz:=yW _ _))<|oc (zJ zE zGp (fun u0 u1 W hb (h0:RVp 47 x u0 W) (h1:RVp 47 y u1 W)=>zDe (m:=47) h0 h1 dC dC (hT.below (s.up hb))))<|oc (zR .i64 (qsg x y) 0 (decide (qsg x y<0)) iiz iiz rfl rfl)<|zD) fun a w2 s=> ?_
 refine zA rfl ?_
 refine StS.cond s (decide (qsg x y<0)) iiz (fun e=> ?_) (fun e=> ?_)
 ·have e0:=e
  refine zB 2 ((9, .u (fRV 47 y))::(10, .u (fRV 47 x)):: []) hmix s kJ
   (oc (zI (f:=fRV 47 y) 3 kJ (hz:=yW _ _))<|oc (zI (f:=fRV 47 x) 3 kJ (hz:=yW _ _))<|zD) fun a w3 s=> ?_
  refine zN (CU.agg (fRV 47 y)) ((fRV 47 y).tS) rfl s kJ rfl rfl rfl (yW _ _) iiz zBs fun a w s=> ?_
  refine zN (CU.agg (fRV 47 x)) ((fRV 47 x).tS) rfl s kJ rfl rfl rfl (yW _ _) iiz zBs fun a w s=> ?_
  refine zA rfl ?_
  refine zWR ?_
  refine zB 3 ((11, .Z (fRV 47 y))::(12, .Z (fRV 47 x))::(13, .u (fQN (y - x))):: []) hmix s kJ
   (oc (zI (f:=fRV 47 y) 3 kJ (hz:=yW _ _))<|oc (zI (f:=fRV 47 x) 3 kJ (hz:=yW _ _))<|oc (zJ zE zMl (fun u0 u1 W hb (h0:RVp 47 y u0 W) (h1:RVp 47 x u1 W)=>zFq (m:=47) h0 h1 dC dC (hT.below (s.up hb))))<|zD) fun a w4 s=> ?_
  refine zN (CU.agg (fQN (y - x))) ((fQN (y - x)).tS) rfl s kJ rfl rfl rfl iiz iiz zV fun a w s=> ?_
  refine zA rfl ?_
  refine zWT ?_
  exact wJ s (CU.agg (fQN (y - x))) rfl kJ rfl rfl (yO _) (fun cs W h=>by rw [show zBz x y=y - x from if_pos e0];exact h)
 ·have e0:=e
  refine zWS ?_
  refine zWR ?_
  refine zB 3 ((11, .Z (fRV 47 x))::(12, .Z (fRV 47 y))::(13, .u (fQN (x - y))):: []) hmix s kJ
   (oc (zI (f:=fRV 47 x) 3 kJ (hz:=yW _ _))<|oc (zI (f:=fRV 47 y) 3 kJ (hz:=yW _ _))<|oc (zJ zE zMl (fun u0 u1 W hb (h0:RVp 47 x u0 W) (h1:RVp 47 y u1 W)=>zFq (m:=47) h0 h1 dC dC (hT.below (s.up hb))))<|zD) fun a w5 s=> ?_
  refine zN (CU.agg (fQN (x - y))) ((fQN (x - y)).tS) rfl s kJ rfl rfl rfl iiz iiz zV fun a w s=> ?_
  refine zA rfl ?_
  refine zWT ?_
  exact wJ s (CU.agg (fQN (x - y))) rfl kJ rfl rfl (yO _) (fun cs W h=>by rw [show zBz x y=x - y from if_neg (by rw [e0];decide)];exact h)
theorem zSm (W:Wt):(SF.fn prog (T2 47 zBz)).p (.func (.func 75) #[] #[]) W:=
 zFz (enters_of func75 kJ rfl) (fun W' _ args R ⟨u,v,p,q,e,h1,h2,hT,hR⟩=>by subst e hR;simpa using zPD h1 h2 hT)
theorem zRm {W:Wt} {u v:Wu} {p q:V2} (h1:(fPV 47 p).p u W) (h2:(fPV 47 q).p v W) (hT:Tab W):Calls prog 46 #[u,v] W (Ret W (fQN (zJY p q)).tS):=by
 have hp:=zA7 dC h1
 have hq:=zA7 dC h2
 have hd1:QB (zBz p.1 q.1) 95:=(zGw hp.1 hq.1).mono dC
 have hd2:QB (zBz p.2 q.2) 95:=(zGw hp.2 hq.2).mono dC
 refine z5 [(fPV 47 p).tS,(fPV 47 q).tS] func46 rfl kJ ⟨h1,h2,trivial⟩ fun a s=> ?_
 refine zWR ?_
 refine zB 0 [] hmix s kJ
  zD fun a w1 s=> ?_
 refine yN (CU.agg (fPV 47 p)) rfl s kJ (fun v W h=>qC h) fun b2 a w s=> ?_
 refine yN (CU.agg (fPV 47 q)) rfl s kJ (fun v W h=>qC h) fun b3 a w s=> ?_
 refine zU (CU.len 3) (cs:=zR3) kJ rfl s kJ (fun W=>rfl) rfl fun b4 a w s=> ?_
 refine zA rfl ?_
 refine zWR ?_
 have so:=s.old;have sg:=s.gr
 refine jT (fun i=> [].contains i) [⟨4,5,31, [.bool false, .slice none 0 0, .slice none 0 0, .bool false, .slice none 0 0, .slice none 0 0],wF w 31 (CU.len 6)⟩] 5 ((6, .s (SF.fn prog (T3 47 zBz)))::(7, .Z (fPV 47 p))::(8, .Z (fPV 47 q))::(9, .u (fPN (zBz p.1 q.1,zBz p.2 q.2)))::(5, .s (wF w 31 (CU.len 6))):: []) hmix s (fmz ⟨⟨by show 4<5;decide,mz4,⟨_,_,_,rfl⟩,by kernel_rfl,qT (fun _=>rfl) rfl⟩,fnz⟩) kJ
  (oc (zH zE zQY (fun u0 W hb h0=>by rw [show u0=_ from h0];exact zH2 (zSm W)))<|oc (zI (f:=fPV 47 p) 6 kJ (hz:=zX _ _))<|oc (zI (f:=fPV 47 q) 6 kJ (hz:=zX _ _))<|oc (zLz (T3 47 zBz) zE iiz (fun u v W hb (h1:(fPV 47 p).p u W) (h2:(fPV 47 q).p v W)=>⟨u,v,p,q,rfl,h1,h2,hT.below (s.up hb),rfl⟩))<|oc (zAi (cs:=zP6) kJ (qT (fun _=>rfl) rfl))<|zD) fun Q' hQ a w2 s hr hd=> ?_
 obtain ⟨b5,hB5,e5,s⟩:=s.adoptA false 5 (hr (_,_) mz4) sg (fun y hy=> .inl (so y hy))
 refine zN (CU.agg (fPN (zBz p.1 q.1,zBz p.2 q.2))) ((fPN (zBz p.1 q.1,zBz p.2 q.2)).tS) rfl s kJ rfl rfl rfl iiz iiz qK fun a w s=> ?_
 refine zA rfl (hQ _ _ ?_)
 refine zWR ?_
 refine zB 6 ((10, .X (fPN (zBz p.1 q.1,zBz p.2 q.2)) 0)::(11, .Z (fQN ((zBz p.1 q.1,zBz p.2 q.2).1)))::(12, .X (fPN (zBz p.1 q.1,zBz p.2 q.2)) 3)::(13, .Z (fQN ((zBz p.1 q.1,zBz p.2 q.2).2)))::(14, .s (fQS 95 [(zBz p.1 q.1,zBz p.2 q.2).1,(zBz p.1 q.1,zBz p.2 q.2).2]))::(15, .u (fQN (zJY p q))):: []) hmix s kJ
  (oc (zO (C:=cg (fPN (zBz p.1 q.1,zBz p.2 q.2))) 0 kJ)<|oc (yH (C:=cg (fPN (zBz p.1 q.1,zBz p.2 q.2))) (k:=0) 3 kJ (h:=zFg))<|oc (zO (C:=cg (fPN (zBz p.1 q.1,zBz p.2 q.2))) 3 kJ)<|oc (yH (C:=cg (fPN (zBz p.1 q.1,zBz p.2 q.2))) (k:=3) 3 kJ (h:=zFf))<|oc (yI (fun u v W (hu:QNp ((zBz p.1 q.1,zBz p.2 q.2).1) u W) (hv:QNp ((zBz p.1 q.1,zBz p.2 q.2).2) v W)=>zCU (m:=95) (wD hu hd1) (wD hv hd2)))<|oc (zH zE zOm (fun u0 W hb (h0:(fQS 95 [(zBz p.1 q.1,zBz p.2 q.2).1,(zBz p.1 q.1,zBz p.2 q.2).2]).p u0 W)=>zEO (m:=95) (p:=zBz p.1 q.1) (q:=zBz p.2 q.2) h0 hd1 hd2 dC (hT.below (s.up hb))))<|zD) fun a w3 s=> ?_
 refine zN (CU.agg (fQN (zJY p q))) ((fQN (zJY p q)).tS) rfl s kJ rfl rfl rfl iiz iiz zV fun a w s=> ?_
 refine zA rfl ?_
 refine zWT ?_
 exact wJ s (CU.agg (fQN (zJY p q))) rfl kJ rfl rfl (yO _) (fun cs W h=>h)
theorem zSV {W:Wt} {q:Wu} {ps:List V2} (hq_:(SF.row 6 (pvs 47 ps)).p q W) (hnq:ps.length<=3) (hT:Tab W):Calls prog 19 #[q] W (Ret W (fQN (zEo ps (ps.length - 1))).tS):=by
 have hqb:=zCP dC hq_
 refine z5 [(UF.eq q).tS] func19 rfl kJ ⟨rfl,trivial⟩ fun a s=> ?_
 replace s:=s.renew [(0, .u (UF.eq q))] (fmz ⟨.inr ⟨_,rfl, .head _⟩,fnz⟩)
 refine zWR ?_
 refine zB 0 [] hmix s kJ
  zD fun a w1 s=> ?_
 refine zU (CU.len 3) (cs:=zR3) kJ rfl s kJ (fun W=>rfl) rfl fun b2 a w s=> ?_
 refine zA rfl ?_
 refine zWR ?_
 refine zB 1 ((5, .u (fQN ((0:Int):Rat))):: []) hmix s kJ
  (oc (zH zE zHo (fun u0 W hb (h0:u0= .int .i64 0)=>zHN _ h0 dC))<|zD) fun a w2 s=> ?_
 refine zU (CU.len 3) (cs:=zR3) kJ rfl s kJ (fun W=>rfl) rfl fun b3 a w s=> ?_
 refine zN (CU.agg (fQN (zEo ps 0))) ((fQN (zEo ps 0)).tS) rfl s kJ rfl rfl rfl iiz iiz zV fun a w s=> ?_
 refine zA rfl ?_
 refine zWR ?_
 refine zWR ?_
 refine zB 5 ((6, .Z (UF.eq q))::(7, .Z (uI ((pvs 47 ps).length:Int)))::(8, .Z (uI (((pvs 47 ps).length:Int) - 1)))::(9, .u (uI (max (((pvs 47 ps).length:Int) - 1) 0)))::(10, .u (uI 0)):: []) hmix s kJ
  (oc zC<|oc (jC (z:=6) (Cs:=pvs 47 ps) kJ (fun v W hb h=>(yK hq_ h (s.up hb))) (fun _=>rfl))<|oc (zF4 .i64 ((pvs 47 ps).length:Int) 1 (((pvs 47 ps).length:Int) - 1) iiz iiz (by simp only [zW3];exact wY _ oQ oQ))<|oc (zH7 (((pvs 47 ps).length:Int) - 1) 0 iiz iiz)<|oc zC<|zD) fun a w3 s=> ?_
 refine zA rfl ?_
 refine zWU ?_
 refine zDa 3 (fun k=>CU.agg (fQN (zEo ps k))) (fun k=>k<=ps.length - 1) (fun k=> [(0, .u (UF.eq q)),(9, .u (uI (max (((pvs 47 ps).length:Int) - 1) 0))),(10, .u (uI ((k:Nat):Int)))]) (fun k=>(ps.length - 1) - k) (0:Nat) (zWZ _) (s.keepK _ (fmz ⟨mz3,fmz ⟨.head _,fmz ⟨mz1,fnz⟩⟩⟩)) rfl fun k a w hx s=> ?_
 have hlz:(pvs 47 ps).length=ps.length:=by simp
 refine zWR ?_
 refine zB 1 ((11, .u (uB (decide ((k:Int)<max (((pvs 47 ps).length:Int) - 1) 0)))):: []) hmix s kJ
  (oc (zR .i64 (k:Int) (max (((pvs 47 ps).length:Int) - 1) 0) (decide ((k:Int)<max (((pvs 47 ps).length:Int) - 1) 0)) iiz iiz rfl rfl)<|zD) fun a w4 s=> ?_
 refine zA rfl ?_
 refine zWR ?_
 refine StS.cond s (decide ((k:Int)<max (((pvs 47 ps).length:Int) - 1) 0)) iiz (fun e=> ?_) (fun e=> ?_)
 ·have hk:k+1<ps.length:=by have:=zW0 e;rw [hlz] at this;omega
  have hlq:=zLT hqb k oQ oQ
  have hfq:QB (zJY (at_ ps k) (at_ ps (k+1))) 400:=(zGn (hqb _ (qV (show k<ps.length by omega))) (hqb _ (qV hk))).mono dC
  refine zWS ?_
  refine zWR ?_
  refine zWU ?_
  refine zWR ?_
  refine zB 2 ((12, .Z (uI (k:Int)))::(4, .u (uI (k:Int))):: []) hmix s kJ
   (oc zC<|oc zG<|zD) fun a w5 s=> ?_
  refine zA rfl ?_
  refine yL [1,2,5,6] 13 ((13, .Z (fQN (zEo ps k)))::(14, .Z (UF.eq q))::(15, .Z (uI (k:Int)))::(16, .Y (fPV 47 (at_ ps k)))::(17, .Z (fPV 47 (at_ ps k)))::(18, .Z (UF.eq q))::(19, .Z (uI (k:Int)))::(20, .Z (uI ((k+1:Nat):Int)))::(21, .Y (fPV 47 (at_ ps (k+1))))::(22, .Z (fPV 47 (at_ ps (k+1))))::(23, .Z (fQN (zJY (at_ ps k) (at_ ps (k+1)))))::(24, .s (fQS 400 [(zEo ps k),(zJY (at_ ps k) (at_ ps (k+1)))]))::(25, .u (fQN (zEo ps (k+1)))):: []) hmix s kJ
   (oc (zI (f:=fQN (zEo ps k)) 3 kJ (hz:=yO _))<|oc zC<|oc zC<|oc (yP (z:=6) (Cs:=pvs 47 ps) (i:=k) (C:=CU.agg (fPV 47 (at_ ps k))) kJ (jA (show k<ps.length by omega)) (fun v W hb h=>(yK hq_ h (s.up hb))) iiz)<|oc (zI (f:=fPV 47 (at_ ps k)) 6 kJ (hz:=zX _ _))<|oc zC<|oc zC<|oc (yR .i64 (k:Int) 1 ((k+1:Nat):Int) iiz iiz (wrap64 _ _ oQ oQ))<|oc (yP (z:=6) (Cs:=pvs 47 ps) (i:=(k+1)) (C:=CU.agg (fPV 47 (at_ ps (k+1)))) kJ (jA (show k+1<ps.length by omega)) (fun v W hb h=>(yK hq_ h (s.up hb))) iiz)<|oc (zI (f:=fPV 47 (at_ ps (k+1))) 6 kJ (hz:=zX _ _))<|oc (zJ zE zT4 (fun u0 u1 W hb (h0:(fPV 47 (at_ ps k)).p u0 W) (h1:(fPV 47 (at_ ps (k+1))).p u1 W)=>zRm (p:=at_ ps k) (q:=at_ ps (k+1)) h0 h1 (hT.below (s.up hb))))<|oc (yI (fun u v W (hu:QNp (zEo ps k) u W) (hv:QNp (zJY (at_ ps k) (at_ ps (k+1))) v W)=>zCU (m:=400) (wD hu hlq) (wD hv hfq)))<|oc (zH zE zOm (fun u0 W hb (h0:(fQS 400 [(zEo ps k),(zJY (at_ ps k) (at_ ps (k+1)))]).p u0 W)=>zEO (m:=400) (p:=zEo ps k) (q:=zJY (at_ ps k) (at_ ps (k+1))) h0 hlq hfq dC (hT.below (s.up hb))))<|zD) fun Q' hQ a w6 s=> ?_
  refine zN (CU.agg (fQN (zEo ps (k+1)))) ((fQN (zEo ps (k+1))).tS) rfl s kJ rfl rfl rfl (yO _) iiz zV fun a w s=> ?_
  refine zA rfl (hQ _ _ ?_)
  refine zZ 1 ((26, .u (uI ((k+1:Nat):Int))):: []) s kJ
   (oc (yR .i64 (k:Int) 1 ((k+1:Nat):Int) iiz iiz (wrap64 _ _ oQ oQ))<|zD) fun a w7 s=> ?_
  replace s:=s.drop [10]
  refine zCD (uI ((k+1:Nat):Int)) rfl s kJ zC kJ fun a w s=> ?_
  refine zA rfl ?_
  exact ⟨k+1,oQ,(by show ps.length - 1 - (k+1)<ps.length - 1 - k;omega),s.keepK _ (fmz ⟨mz5,fmz ⟨mz6,fmz ⟨.head _,fnz⟩⟩⟩)⟩
 ·have hkN:k=ps.length - 1:=by have h7:=zWW e;rw [hlz] at h7;omega
  subst hkN
  refine zWX ?_
  refine zWR ?_
  refine zB 1 ((27, .u (fQN (zEo ps (ps.length - 1)))):: []) hmix s kJ
   (oc (zI (f:=fQN (zEo ps (ps.length - 1))) 3 kJ (hz:=yO _))<|zD) fun a w8 s=> ?_
  refine zN (CU.agg (fQN (zEo ps (ps.length - 1)))) ((fQN (zEo ps (ps.length - 1))).tS) rfl s kJ rfl rfl rfl iiz iiz zV fun a w s=> ?_
  refine zA rfl ?_
  refine zWT ?_
  exact wJ s (CU.agg (fQN (zEo ps (ps.length - 1)))) rfl kJ rfl rfl (yO _) (fun cs W h=>h)
end Go.Proofs.Wd

namespace Go.Proofs.Wd
open Tryz
set_option maxRecDepth 100000
set_option maxHeartbeats 1000000
open Go.RowKit Lb
theorem zPC {W:Wt} {u v:Wu} {p q:V2} (h1:(fPV 47 p).p u W) (h2:(fPV 47 q).p v W) (hT:Tab W):Calls prog 56 #[u,v] W (Ret W (fB (zE8 p q==0)).tS):=by
 refine z5 [(fPV 47 p).tS,(fPV 47 q).tS] func56 rfl kJ ⟨h1,h2,trivial⟩ fun a s=> ?_
 refine zWR ?_
 refine zB 0 [] hmix s kJ
  zD fun a w1 s=> ?_
 refine yN (CU.agg (fPV 47 p)) rfl s kJ (fun v W h=>qC h) fun b2 a w s=> ?_
 refine yN (CU.agg (fPV 47 q)) rfl s kJ (fun v W h=>qC h) fun b3 a w s=> ?_
 refine yV (uB false) rfl s kJ iiz fun a w s=> ?_
 refine zA rfl ?_
 refine zWR ?_
 replace s:=s.drop [4]
 refine zB 5 ((5, .Z (fPV 47 p))::(6, .Z (fPV 47 q))::(7, .Z (uI (zE8 p q)))::(8, .Z (uB (zE8 p q==0)))::(4, .u (uB (zE8 p q==0))):: []) hmix s kJ
  (oc (zI (f:=fPV 47 p) 6 kJ (hz:=zX _ _))<|oc (zI (f:=fPV 47 q) 6 kJ (hz:=zX _ _))<|oc (zJ zE zTM (fun u0 u1 W hb (h0:(fPV 47 p).p u0 W) (h1:(fPV 47 q).p u1 W)=>zRn (m:=47) h0 h1 dC dC (hT.below (s.up hb))))<|oc (zR .i64 (zE8 p q) 0 (zE8 p q==0) iiz iiz rfl rfl)<|oc zG<|zD) fun a w2 s=> ?_
 refine zA rfl ?_
 refine zWT ?_
 exact wH s (t:=4) rfl (fun v W h=>h)
theorem zOw {W:Wt} {l:Wu} {ps:List V2} (hl:(SF.row 6 (pvs 47 ps)).p l W) (hn:ps.length<=1000000) (hT:Tab W):Calls prog 35 #[l] W (Ret W (wL W 31 6 (pvs 47 (plV ps ps.length)))):=by
 refine z5 [(UF.eq l).tS] func35 rfl kJ ⟨rfl,trivial⟩ fun a s=> ?_
 replace s:=s.renew [(0, .u (UF.eq l))] (fmz ⟨.inr ⟨_,rfl, .head _⟩,fnz⟩)
 refine zWR ?_
 refine zB 1 ((2, .u (UF.eq (.slice none 0 0))):: []) hmix s kJ
  (oc zG<|zD) fun a w1 s=> ?_
 refine zA rfl ?_
 refine zWR ?_
 refine zWR ?_
 refine zB 3 ((5, .u (UF.eq l))::(6, .u (uI ((pvs 47 ps).length:Int)))::(7, .u (uI 0)):: []) hmix s kJ
  (oc zC<|oc (jC (z:=6) (Cs:=pvs 47 ps) kJ (fun v W hb h=>(yK hl h (s.up hb))) (fun _=>rfl))<|oc zC<|zD) fun a w2 s=> ?_
 refine zA rfl ?_
 refine zWU ?_
 obtain ⟨base,hbase⟩: ∃b,b=w2.heap.size:=⟨_,rfl⟩
 have hbb:=s.gr.size
 have hb0':_<=base:=hbase▸hbb
 have hsz0:base<=w2.heap.size:=by rw [hbase];exact Nat.le_refl _
 refine zDH (fun (q:Nat×Wu) w=>q.1<=ps.length/\base<=w.heap.size/\zBS w base 31 6 q.2 (pvs 47 (plV ps q.1))) (fun q=> [(0, .u (UF.eq l)),(5, .u (UF.eq l)),(6, .u (uI ((pvs 47 ps).length:Int))),(2, .u (UF.eq (q.2))),(7, .u (uI (q.1:Int)))]) (fun q=>ps.length - q.1) (0, .slice none 0 0) (⟨zWZ _,hsz0,zBS.nil _ _ _ _⟩) (s.keepK _ (fmz ⟨mz4,fmz ⟨.head _,fmz ⟨mz1,fmz ⟨mz3,fmz ⟨mz2,fnz⟩⟩⟩⟩⟩)) fun q a w hI s=> ?_
 have s0:=s
 have hlw:=(SF.row 6 (pvs 47 ps)).st _ _ _ hl s0.below
 have hT0:=hT
 have hT:=hT0.below s0.below
 replace s:=s.reb rfl [(0, .u (UF.eq l)),(5, .u (UF.eq l)),(6, .u (uI ((pvs 47 ps).length:Int))),(2, .u (UF.eq (q.2))),(7, .u (uI (q.1:Int)))] (fmz ⟨.inl (.head _),fmz ⟨.inl mz1,fmz ⟨.inl mz2,fmz ⟨.inl mz3,fmz ⟨.inl mz4,fnz⟩⟩⟩⟩⟩)
 refine zWR ?_
 refine zB 1 ((8, .u (uB (decide ((q.1:Int)<((pvs 47 ps).length:Int))))):: []) hmix s kJ
  (oc (zR .i64 (q.1:Int) ((pvs 47 ps).length:Int) (decide ((q.1:Int)<((pvs 47 ps).length:Int))) iiz iiz rfl rfl)<|zD) fun a w3 s=> ?_
 refine zA rfl ?_
 refine zWR ?_
 refine StS.cond s (decide ((q.1:Int)<((pvs 47 ps).length:Int))) iiz (fun e=> ?_) (fun e=> ?_)
 ·have hk:q.1<ps.length:=by have:=zW0 e;simp at this;omega
  refine zWS ?_
  refine zWR ?_
  refine zWU ?_
  refine zWR ?_
  refine zB 3 ((9, .u (uI (q.1:Int)))::(10, .Y (fPV 47 (at_ ps q.1)))::(11, .u (fPV 47 (at_ ps q.1))):: []) hmix s kJ
   (oc zC<|oc (yP (z:=6) (Cs:=pvs 47 ps) (i:=q.1) (C:=CU.agg (fPV 47 (at_ ps q.1))) kJ (jA hk) (fun v W hb h=>(yK hlw h (s.up hb))) iiz)<|oc (zI (f:=fPV 47 (at_ ps q.1)) 6 kJ (hz:=zX _ _))<|zD) fun a w4 s=> ?_
  refine zU (CU.len 6) (cs:=zP6) kJ rfl s kJ (fun W=>rfl) rfl fun b4 a w s=> ?_
  refine yV (uI (q.1:Int)) rfl s kJ iiz fun a w s=> ?_
  refine zN (CU.agg (fPV 47 (at_ ps q.1))) ((fPV 47 (at_ ps q.1)).tS) rfl s kJ rfl rfl rfl iiz iiz qK fun a w s=> ?_
  refine zA rfl ?_
  refine zWR ?_
  rcases Nat.eq_zero_or_pos q.1 with hq0|hq1
  ·refine zB 12 ((12, .Z (uI (q.1:Int)))::(13, .Z (uB true))::(14, .Z (uB true))::(23, .u (uB true)):: []) hmix s kJ
    (oc zC<|oc (zR .i64 (q.1:Int) 0 true iiz iiz (beq_iff_eq.2 oQ) rfl)<|oc zC<|oc (zF 14 true kJ iiz (fun e=>by cases e) (fun _ _=>trivial))<|oc (zF 14 true kJ iiz (fun e=>by cases e) (fun _ _=>trivial))<|oc (zF 14 true kJ iiz (fun e=>by cases e) (fun _ _=>trivial))<|oc (zF 14 true kJ iiz (fun e=>by cases e) (fun _ _=>trivial))<|oc (zF 14 true kJ iiz (fun e=>by cases e) (fun _ _=>trivial))<|oc (zF 14 true kJ iiz (fun e=>by cases e) (fun _ _=>trivial))<|oc (zF 14 true kJ iiz (fun e=>by cases e) (fun _ _=>trivial))<|oc (zF 14 true kJ iiz (fun e=>by cases e) (fun _ _=>trivial))<|oc (yM true iiz fR (fun e=>by cases e))<|zD) fun a w5 s=> ?_
   refine zA rfl ?_
   refine StS.cond s true iiz (fun e=> ?_) (fun e=>by cases e)
   refine zBZ 3 ((24, .u (UF.eq (q.2)))::(25, .Z (fPV 47 (at_ ps q.1)))::(26, .s (SF.row 6 [CU.agg (fPV 47 (at_ ps q.1))])):: []) s kJ
    (oc zC<|oc (zI (f:=fPV 47 (at_ ps q.1)) 6 kJ (hz:=zX _ _))<|oc (zAe (fun u W (hu:(fPV 47 (at_ ps q.1)).p u W)=>zGL hu))<|zD) fun a w6 s hr=> ?_
   refine zJy ([CU.agg (fPV 47 (at_ ps q.1))]) s0 (s.keepK [(24, .u (UF.eq (q.2))),(23, .u (uB true)),(3, .u (uI (q.1:Int))),(9, .u (uI (q.1:Int))),(11, .u (fPV 47 (at_ ps q.1))),(8, .u (uB (decide ((q.1:Int)<((pvs 47 ps).length:Int))))),(0, .u (UF.eq l)),(5, .u (UF.eq l)),(6, .u (uI ((pvs 47 ps).length:Int))),(2, .u (UF.eq (q.2))),(7, .u (uI (q.1:Int)))] (fmz ⟨.head _,fmz ⟨mz1,fmz ⟨mz2,fmz ⟨mz3,fmz ⟨mz4,fmz ⟨mz5,fmz ⟨mz6,fmz ⟨mz7,fmz ⟨mz8,fmz ⟨mz9,fmz ⟨zD8,fnz⟩⟩⟩⟩⟩⟩⟩⟩⟩⟩⟩)) hb0' hI.2 rfl kJ kJ kJ (s.fct (.tmp 24)) (hr (_,_) mz2) (zG5 _ _) (by have:=zH1 ps q.1;simp;omega) (fun x hx hr=>by rcases zWY.1 hx with rfl|hx;cases hr;cases hx) fun v' a w hI' s=> ?_
   have s1:=s
   replace s:StS _ _ _ [⟨4,31,CU.agg (fPV 47 (at_ ps q.1)),b4,true⟩] _ _ _ _:=s.freeze
   replace s:=s.reb rfl [(27, .u (UF.eq v')),(24, .u (UF.eq (q.2))),(23, .u (uB true)),(3, .u (uI (q.1:Int))),(9, .u (uI (q.1:Int))),(11, .u (fPV 47 (at_ ps q.1))),(8, .u (uB (decide ((q.1:Int)<((pvs 47 ps).length:Int))))),(0, .u (UF.eq l)),(5, .u (UF.eq l)),(6, .u (uI ((pvs 47 ps).length:Int))),(2, .u (UF.eq (q.2))),(7, .u (uI (q.1:Int)))] (fmz ⟨.inl (.head _),fmz ⟨.inl mz1,fmz ⟨.inl mz2,fmz ⟨.inl mz3,fmz ⟨.inl mz4,fmz ⟨.inl mz5,fmz ⟨.inl mz6,fmz ⟨.inl mz7,fmz ⟨.inl mz8,fmz ⟨.inl mz9,fmz ⟨.inl zD8,fmz ⟨.inl zH8,fnz⟩⟩⟩⟩⟩⟩⟩⟩⟩⟩⟩⟩)
   replace s:=s.drop [2]
   refine yV (UF.eq v') rfl s kJ iiz fun a w s=> ?_
   refine zA rfl ?_
   refine zZ 1 ((28, .u (uI ((q.1+1:Nat):Int))):: []) s kJ
    (oc (yR .i64 (q.1:Int) 1 ((q.1+1:Nat):Int) iiz iiz (wrap64 _ _ oQ oQ))<|zD) fun a w7 s=> ?_
   replace s:=s.drop [7]
   refine zCD (uI ((q.1+1:Nat):Int)) rfl s kJ zC kJ fun a w s=> ?_
   refine zA rfl ?_
   replace s:=s.popB
   have hbw:=s.below
   replace s:=s1.back (s.keepK [(7, .u (uI ((q.1+1:Nat):Int))),(28, .u (uI ((q.1+1:Nat):Int))),(2, .u (UF.eq v')),(27, .u (UF.eq v')),(24, .u (UF.eq (q.2))),(23, .u (uB true)),(3, .u (uI (q.1:Int))),(9, .u (uI (q.1:Int))),(11, .u (fPV 47 (at_ ps q.1))),(8, .u (uB (decide ((q.1:Int)<((pvs 47 ps).length:Int))))),(0, .u (UF.eq l)),(5, .u (UF.eq l)),(6, .u (uI ((pvs 47 ps).length:Int)))] (fmz ⟨.head _,fmz ⟨mz1,fmz ⟨mz2,fmz ⟨mz3,fmz ⟨mz4,fmz ⟨mz5,fmz ⟨mz6,fmz ⟨mz7,fmz ⟨mz8,fmz ⟨mz9,fmz ⟨zD8,fmz ⟨zH8,fmz ⟨zKd,fnz⟩⟩⟩⟩⟩⟩⟩⟩⟩⟩⟩⟩⟩)) rfl
   exact ⟨(q.1+1,v'),(by show ps.length - (q.1+1)<ps.length - q.1;omega),⟨hk,zW4 hI'.1 hbw.size,by show zBS _ _ _ _ _ (pvs 47 (plV ps (q.1+1)));rw [zR7 (by simp [hq0]), <-zIY];exact hI'.2.below hbw⟩,s.keepK _ (fmz ⟨zD8,fmz ⟨zH8,fmz ⟨zKd,fmz ⟨mz2,fmz ⟨.head _,fnz⟩⟩⟩⟩⟩)⟩
  ·have hq0: ¬q.1=0:=by omega
   refine zB 12 ((12, .Z (uI (q.1:Int)))::(13, .Z (uB false))::(14, .Z (uB false))::(15, .Z (fPV 47 (at_ ps q.1)))::(16, .Z (UF.eq l))::(17, .Z (uI (q.1:Int)))::(18, .Z (uI ((q.1 - 1:Nat):Int)))::(19, .Y (fPV 47 (at_ ps (q.1 - 1))))::(20, .Z (fPV 47 (at_ ps (q.1 - 1))))::(21, .Z (uB (zE8 (at_ ps q.1) (at_ ps (q.1 - 1))==0)))::(22, .Z (uB (!(zE8 (at_ ps q.1) (at_ ps (q.1 - 1))==0))))::(23, .u (uB (!(zE8 (at_ ps q.1) (at_ ps (q.1 - 1))==0)))):: []) hmix s kJ
    (oc zC<|oc (zR .i64 (q.1:Int) 0 false iiz iiz (beq_eq_false_iff_ne.2 oQ) rfl)<|oc zC<|oc (zF 14 false kJ iiz (fun _=>zI (f:=fPV 47 (at_ ps q.1)) 6 kJ (hz:=zX _ _)) arf)<|oc (zF 14 false kJ iiz (fun _=>zC) arf)<|oc (zF 14 false kJ iiz (fun _=>zC) arf)<|oc (zF 14 false kJ iiz (fun _=>zF4 .i64 (q.1:Int) 1 ((q.1 - 1:Nat):Int) iiz iiz (by rw [wY _ oQ oQ];omega)) arf)<|oc (zF 14 false kJ iiz (fun _=>yP (z:=6) (Cs:=pvs 47 ps) (i:=(q.1 - 1)) (C:=CU.agg (fPV 47 (at_ ps (q.1 - 1)))) kJ (jA (show q.1 - 1<ps.length by omega)) (fun v W hb h=>(yK hlw h (s.up hb))) iiz) arf)<|oc (zF 14 false kJ iiz (fun _=>zI (f:=fPV 47 (at_ ps (q.1 - 1))) 6 kJ (hz:=zX _ _)) arf)<|oc (zF 14 false kJ iiz (fun _=>zJ zE zT0 (fun u0 u1 W hb (h0:(fPV 47 (at_ ps q.1)).p u0 W) (h1:(fPV 47 (at_ ps (q.1 - 1))).p u1 W)=>zPC h0 h1 (hT.below (s.up hb)))) arf)<|oc (zF 14 false kJ iiz (fun _=>zAy (zE8 (at_ ps q.1) (at_ ps (q.1 - 1))==0) iiz (fun _=>rfl)) arf)<|oc (yM false iiz (fun e=>by cases e) fR)<|zD) fun a w8 s=> ?_
   refine zA rfl ?_
   refine StS.cond s (!(zE8 (at_ ps q.1) (at_ ps (q.1 - 1))==0)) iiz (fun e=> ?_) (fun e=> ?_)
   ·refine zBZ 3 ((24, .u (UF.eq (q.2)))::(25, .Z (fPV 47 (at_ ps q.1)))::(26, .s (SF.row 6 [CU.agg (fPV 47 (at_ ps q.1))])):: []) s kJ
     (oc zC<|oc (zI (f:=fPV 47 (at_ ps q.1)) 6 kJ (hz:=zX _ _))<|oc (zAe (fun u W (hu:(fPV 47 (at_ ps q.1)).p u W)=>zGL hu))<|zD) fun a w9 s hr=> ?_
    refine zJy ([CU.agg (fPV 47 (at_ ps q.1))]) s0 (s.keepK [(24, .u (UF.eq (q.2))),(23, .u (uB (!(zE8 (at_ ps q.1) (at_ ps (q.1 - 1))==0)))),(3, .u (uI (q.1:Int))),(9, .u (uI (q.1:Int))),(11, .u (fPV 47 (at_ ps q.1))),(8, .u (uB (decide ((q.1:Int)<((pvs 47 ps).length:Int))))),(0, .u (UF.eq l)),(5, .u (UF.eq l)),(6, .u (uI ((pvs 47 ps).length:Int))),(2, .u (UF.eq (q.2))),(7, .u (uI (q.1:Int)))] (fmz ⟨.head _,fmz ⟨mz1,fmz ⟨mz2,fmz ⟨mz3,fmz ⟨mz4,fmz ⟨mz5,fmz ⟨mz6,fmz ⟨mz7,fmz ⟨mz8,fmz ⟨mz9,fmz ⟨zD8,fnz⟩⟩⟩⟩⟩⟩⟩⟩⟩⟩⟩)) hb0' hI.2 rfl kJ kJ kJ (s.fct (.tmp 24)) (hr (_,_) mz2) (zG5 _ _) (by have:=zH1 ps q.1;simp;omega) (fun x hx hr=>by rcases zWY.1 hx with rfl|hx;cases hr;cases hx) fun v' a w hI' s=> ?_
    have s1:=s
    replace s:StS _ _ _ [⟨4,31,CU.agg (fPV 47 (at_ ps q.1)),b4,true⟩] _ _ _ _:=s.freeze
    replace s:=s.reb rfl [(27, .u (UF.eq v')),(24, .u (UF.eq (q.2))),(23, .u (uB (!(zE8 (at_ ps q.1) (at_ ps (q.1 - 1))==0)))),(3, .u (uI (q.1:Int))),(9, .u (uI (q.1:Int))),(11, .u (fPV 47 (at_ ps q.1))),(8, .u (uB (decide ((q.1:Int)<((pvs 47 ps).length:Int))))),(0, .u (UF.eq l)),(5, .u (UF.eq l)),(6, .u (uI ((pvs 47 ps).length:Int))),(2, .u (UF.eq (q.2))),(7, .u (uI (q.1:Int)))] (fmz ⟨.inl (.head _),fmz ⟨.inl mz1,fmz ⟨.inl mz2,fmz ⟨.inl mz3,fmz ⟨.inl mz4,fmz ⟨.inl mz5,fmz ⟨.inl mz6,fmz ⟨.inl mz7,fmz ⟨.inl mz8,fmz ⟨.inl mz9,fmz ⟨.inl zD8,fmz ⟨.inl zH8,fnz⟩⟩⟩⟩⟩⟩⟩⟩⟩⟩⟩⟩)
    replace s:=s.drop [2]
    refine yV (UF.eq v') rfl s kJ iiz fun a w s=> ?_
    refine zA rfl ?_
    refine zZ 1 ((28, .u (uI ((q.1+1:Nat):Int))):: []) s kJ
     (oc (yR .i64 (q.1:Int) 1 ((q.1+1:Nat):Int) iiz iiz (wrap64 _ _ oQ oQ))<|zD) fun a w10 s=> ?_
    replace s:=s.drop [7]
    refine zCD (uI ((q.1+1:Nat):Int)) rfl s kJ zC kJ fun a w s=> ?_
    refine zA rfl ?_
    replace s:=s.popB
    have hbw:=s.below
    replace s:=s1.back (s.keepK [(7, .u (uI ((q.1+1:Nat):Int))),(28, .u (uI ((q.1+1:Nat):Int))),(2, .u (UF.eq v')),(27, .u (UF.eq v')),(24, .u (UF.eq (q.2))),(23, .u (uB (!(zE8 (at_ ps q.1) (at_ ps (q.1 - 1))==0)))),(3, .u (uI (q.1:Int))),(9, .u (uI (q.1:Int))),(11, .u (fPV 47 (at_ ps q.1))),(8, .u (uB (decide ((q.1:Int)<((pvs 47 ps).length:Int))))),(0, .u (UF.eq l)),(5, .u (UF.eq l)),(6, .u (uI ((pvs 47 ps).length:Int)))] (fmz ⟨.head _,fmz ⟨mz1,fmz ⟨mz2,fmz ⟨mz3,fmz ⟨mz4,fmz ⟨mz5,fmz ⟨mz6,fmz ⟨mz7,fmz ⟨mz8,fmz ⟨mz9,fmz ⟨zD8,fmz ⟨zH8,fmz ⟨zKd,fnz⟩⟩⟩⟩⟩⟩⟩⟩⟩⟩⟩⟩⟩)) rfl
    exact ⟨(q.1+1,v'),(by show ps.length - (q.1+1)<ps.length - q.1;omega),⟨hk,zW4 hI'.1 hbw.size,by show zBS _ _ _ _ _ (pvs 47 (plV ps (q.1+1)));rw [zR7 (by rw [zWV hq0];exact e), <-zIY];exact hI'.2.below hbw⟩,s.keepK _ (fmz ⟨zD8,fmz ⟨zH8,fmz ⟨zKd,fmz ⟨mz2,fmz ⟨.head _,fnz⟩⟩⟩⟩⟩)⟩
   ·refine zWS ?_
    refine zZ 1 ((28, .u (uI ((q.1+1:Nat):Int))):: []) s kJ
     (oc (yR .i64 (q.1:Int) 1 ((q.1+1:Nat):Int) iiz iiz (wrap64 _ _ oQ oQ))<|zD) fun a w11 s=> ?_
    replace s:=s.drop [7]
    refine zCD (uI ((q.1+1:Nat):Int)) rfl s kJ zC kJ fun a w s=> ?_
    refine zA rfl ?_
    replace s:=s.popB
    have hbw:=s.below
    replace s:=s0.back (s.keepK [(7, .u (uI ((q.1+1:Nat):Int))),(28, .u (uI ((q.1+1:Nat):Int))),(23, .u (uB (!(zE8 (at_ ps q.1) (at_ ps (q.1 - 1))==0)))),(3, .u (uI (q.1:Int))),(9, .u (uI (q.1:Int))),(11, .u (fPV 47 (at_ ps q.1))),(8, .u (uB (decide ((q.1:Int)<((pvs 47 ps).length:Int))))),(0, .u (UF.eq l)),(5, .u (UF.eq l)),(6, .u (uI ((pvs 47 ps).length:Int))),(2, .u (UF.eq (q.2)))] (fmz ⟨.head _,fmz ⟨mz1,fmz ⟨mz2,fmz ⟨mz3,fmz ⟨mz4,fmz ⟨mz5,fmz ⟨mz6,fmz ⟨mz7,fmz ⟨mz8,fmz ⟨mz9,fmz ⟨zD8,fnz⟩⟩⟩⟩⟩⟩⟩⟩⟩⟩⟩)) rfl
    exact ⟨(q.1+1,q.2),(by show ps.length - (q.1+1)<ps.length - q.1;omega),⟨hk,zW4 hI.2.1 hbw.size,by show zBS _ _ _ _ _ (pvs 47 (plV ps (q.1+1)));rw [zTt (by rw [zWV hq0];exact e)];exact hI.2.2.below hbw⟩,s.keepK _ (fmz ⟨mz7,fmz ⟨mz8,fmz ⟨mz9,fmz ⟨zD8,fmz ⟨.head _,fnz⟩⟩⟩⟩⟩)⟩
 ·have hk:q.1=ps.length:=by have h7:=zWW e;have h8:=hI.1;simp at h7;omega
  refine zWX ?_
  refine zWR ?_
  refine zZ 1 ((29, .u (UF.eq (q.2))):: []) s kJ
   (oc zC<|zD) fun a w12 s=> ?_
  replace s:=s.drop [2]
  refine yV (UF.eq (q.2)) rfl s kJ iiz fun a w s=> ?_
  refine zA rfl ?_
  refine zWT ?_
  exact StS.resN s s0.below rfl (by rw [s.val (.head _)];have:=(hI.2.2.below s.below).mono hb0';rw [hk] at this;exact this)
theorem zLD {W:Wt} {l:Wu} {L:List Int} (hl:(SF.row 1 (zEq L)).p l W) (hL:zUN L) (hn:L.length<=1000000):Calls prog 31 #[l] W (Ret W (wL W 31 6 (pns (zBr L (L.length / 2))))):=by
 refine z5 [(UF.eq l).tS] func31 rfl kJ ⟨rfl,trivial⟩ fun a s=> ?_
 replace s:=s.renew [(0, .u (UF.eq l))] (fmz ⟨.inr ⟨_,rfl, .head _⟩,fnz⟩)
 refine zWR ?_
 refine zB 1 ((2, .u (UF.eq (.slice none 0 0))):: []) hmix s kJ
  (oc zG<|zD) fun a w1 s=> ?_
 refine zA rfl ?_
 refine zWR ?_
 refine zB 1 ((3, .u (UF.eq (.slice none 0 0))):: []) hmix s kJ
  (oc zG<|zD) fun a w2 s=> ?_
 refine zA rfl ?_
 refine zWR ?_
 refine zWR ?_
 refine zB 1 ((4, .u (uI 0)):: []) hmix s kJ
  (oc zG<|zD) fun a w3 s=> ?_
 refine zA rfl ?_
 refine zWU ?_
 refine zDH (fun (p:Nat×Wu) w=>2*p.1<=L.length/\W.heap.size<=w.heap.size/\zBS w W.heap.size 31 6 p.2 (pns (zBr L p.1))) (fun p=> [(0, .u (UF.eq l)),(3, .u (UF.eq (p.2))),(4, .u (uI ((2*p.1:Nat):Int)))]) (fun p=>L.length - 2*p.1) (0, .slice none 0 0) (⟨zWZ _,s.gr.size,zBS.nil _ _ _ _⟩) (s.keepK _ (fmz ⟨mz3,fmz ⟨mz1,fmz ⟨.head _,fnz⟩⟩⟩)) fun p a w hI s=> ?_
 have s0:=s
 have hlw:=(SF.row 1 (zEq L)).st _ _ _ hl s0.below
 replace s:=s.reb rfl [(0, .u (UF.eq l)),(3, .u (UF.eq (p.2))),(4, .u (uI ((2*p.1:Nat):Int)))] (fmz ⟨.inl (.head _),fmz ⟨.inl mz1,fmz ⟨.inl mz2,fnz⟩⟩⟩)
 refine zWR ?_
 refine zWR ?_
 refine zB 5 ((5, .Z (uI ((2*p.1:Nat):Int)))::(6, .Z (uI ((2*p.1+1:Nat):Int)))::(7, .Z (UF.eq l))::(8, .Z (uI ((zEq L).length:Int)))::(9, .u (uB (decide (((2*p.1+1:Nat):Int)<((zEq L).length:Int))))):: []) hmix s kJ
  (oc zC<|oc (yR .i64 ((2*p.1:Nat):Int) 1 ((2*p.1+1:Nat):Int) iiz iiz (wrap64 _ _ oQ oQ))<|oc zC<|oc (jC (z:=1) (Cs:=zEq L) kJ (fun v W hb h=>(yK hlw h (s.up hb))) (fun _=>rfl))<|oc (zR .i64 ((2*p.1+1:Nat):Int) ((zEq L).length:Int) (decide (((2*p.1+1:Nat):Int)<((zEq L).length:Int))) iiz iiz rfl rfl)<|zD) fun a w4 s=> ?_
 refine zA rfl ?_
 refine StS.cond s (decide (((2*p.1+1:Nat):Int)<((zEq L).length:Int))) iiz (fun e=> ?_) (fun e=> ?_)
 ·have hk:2*p.1+1<L.length:=by have:=zW0 e;simp at this;omega
  refine zWS ?_
  refine zWR ?_
  refine zWU ?_
  refine zDY (K:= [(9, .u (uB (decide (((2*p.1+1:Nat):Int)<((zEq L).length:Int))))),(0, .u (UF.eq l)),(4, .u (uI ((2*p.1:Nat):Int)))]) [(3, .u (UF.eq (p.2)))] [0,1,2,5,6] 12 ((12, .u (UF.eq (p.2)))::(13, .Z (UF.eq l))::(14, .Z (uI ((2*p.1:Nat):Int)))::(15, .s (wB (wC [.int .i64 (gI L (2*p.1))]).cf))::(16, .Z (uI (gI L (2*p.1))))::(17, .Z (UF.eq l))::(18, .Z (uI ((2*p.1:Nat):Int)))::(19, .Z (uI ((2*p.1+1:Nat):Int)))::(20, .s (wB (wC [.int .i64 (gI L (2*p.1+1))]).cf))::(21, .Z (uI (gI L (2*p.1+1))))::(22, .Z (fPN (((gI L (2*p.1):Int):Rat),((gI L (2*p.1+1):Int):Rat))))::(23, .s (SF.row 6 [CU.agg (fPN (((gI L (2*p.1):Int):Rat),((gI L (2*p.1+1):Int):Rat)))])):: []) hmix (s.keepK _ (fmz ⟨mz2,fmz ⟨.head _,fmz ⟨mz1,fmz ⟨mz3,fnz⟩⟩⟩⟩)) kJ
   (oc zC<|oc zC<|oc zC<|oc (yP (z:=1) (Cs:=zEq L) (i:=(2*p.1)) (C:=wC [.int .i64 (gI L (2*p.1))]) kJ (zGh oQ) (fun v W hb h=>(yK hlw h (s.up hb))) iiz)<|oc (qY (C:=(wC [.int .i64 (gI L (2*p.1))]).cf) kJ iiz zCR)<|oc zC<|oc zC<|oc (yR .i64 ((2*p.1:Nat):Int) 1 ((2*p.1+1:Nat):Int) iiz iiz (wrap64 _ _ oQ oQ))<|oc (yP (z:=1) (Cs:=zEq L) (i:=(2*p.1+1)) (C:=wC [.int .i64 (gI L (2*p.1+1))]) kJ (zGh oQ) (fun v W hb h=>(yK hlw h (s.up hb))) iiz)<|oc (qY (C:=(wC [.int .i64 (gI L (2*p.1+1))]).cf) kJ iiz zCR)<|oc (zJ zE zJ3 (fun u0 u1 W hb (h0:u0= .int .i64 (gI L (2*p.1))) (h1:u1= .int .i64 (gI L (2*p.1+1)))=>zFr h0 h1 (hL _) (hL _)))<|oc (zAe (fun u W (hu:(fPN (((gI L (2*p.1):Int):Rat),((gI L (2*p.1+1):Int):Rat))).p u W)=>zGL hu))<|zD) fun Q' hQ a w5 s hr=> ?_
  refine zJy ([CU.agg (fPN (((gI L (2*p.1):Int):Rat),((gI L (2*p.1+1):Int):Rat)))]) s0 (s.keepK [(12, .u (UF.eq (p.2))),(9, .u (uB (decide (((2*p.1+1:Nat):Int)<((zEq L).length:Int))))),(0, .u (UF.eq l)),(4, .u (uI ((2*p.1:Nat):Int)))] (fmz ⟨.head _,fmz ⟨mz1,fmz ⟨mz2,fmz ⟨mz3,fnz⟩⟩⟩⟩)) lr hI.2 rfl kJ kJ kJ (s.fct (.tmp 12)) (hr (_,_) zH8) (zG5 _ _) (by simp [zM7];omega) (fun q hq=>by cases hq) fun v' a w hI' s=> ?_
  have s1:=s
  replace s:=s.reb rfl [(24, .u (UF.eq v')),(12, .u (UF.eq (p.2))),(9, .u (uB (decide (((2*p.1+1:Nat):Int)<((zEq L).length:Int))))),(0, .u (UF.eq l)),(4, .u (uI ((2*p.1:Nat):Int)))] (fmz ⟨.inl (.head _),fmz ⟨.inl mz1,fmz ⟨.inl mz2,fmz ⟨.inl mz3,fmz ⟨.inl mz4,fnz⟩⟩⟩⟩⟩)
  refine yV (UF.eq v') rfl s kJ iiz fun a w s=> ?_
  refine zA rfl (hQ _ _ ?_)
  refine zZ 2 ((10, .Z (uI ((2*p.1:Nat):Int)))::(11, .u (uI ((2*(p.1+1):Nat):Int))):: []) s kJ
   (oc zC<|oc (yR .i64 ((2*p.1:Nat):Int) 2 ((2*(p.1+1):Nat):Int) iiz iiz (wrap64 _ _ oQ oQ))<|zD) fun a w6 s=> ?_
  replace s:=s.drop [4]
  refine yV (uI ((2*(p.1+1):Nat):Int)) rfl s kJ iiz fun a w s=> ?_
  refine zA rfl ?_
  have hbw:=s.below
  replace s:=s1.back (s.keepK [(4, .u (uI ((2*(p.1+1):Nat):Int))),(11, .u (uI ((2*(p.1+1):Nat):Int))),(3, .u (UF.eq v')),(24, .u (UF.eq v')),(12, .u (UF.eq (p.2))),(9, .u (uB (decide (((2*p.1+1:Nat):Int)<((zEq L).length:Int))))),(0, .u (UF.eq l))] (fmz ⟨.head _,fmz ⟨mz1,fmz ⟨mz2,fmz ⟨mz3,fmz ⟨mz4,fmz ⟨mz5,fmz ⟨mz6,fnz⟩⟩⟩⟩⟩⟩⟩)) rfl
  exact ⟨(p.1+1,v'),(by show L.length - 2*(p.1+1)<L.length - 2*p.1;omega),⟨by show 2*(p.1+1)<=_;omega,zW4 hI'.1 hbw.size,by show zBS _ _ _ _ _ (pns (zBr L (p.1+1)));rw [zKt];exact hI'.2.below hbw⟩,s.keepK _ (fmz ⟨mz6,fmz ⟨mz2,fmz ⟨.head _,fnz⟩⟩⟩)⟩
 ·have hk:p.1=L.length / 2:=by have h7:=zWW e;have h8:=hI.1;simp at h7;omega
  refine zWX ?_
  refine zWR ?_
  refine zB 2 ((25, .Z (UF.eq (p.2)))::(2, .u (UF.eq (p.2))):: []) hmix s kJ
   (oc zC<|oc zG<|zD) fun a w7 s=> ?_
  refine zA rfl ?_
  refine zWT ?_
  exact StS.resN s s0.below rfl (by rw [s.val (.head _)];have:=hI.2.2.below s.below;rw [hk] at this;exact this)
theorem zFt {W:Wt} {v:Wu} {z:Int} (hv:v= .int .i64 z) (hz: -50<=z/\z<=50):Calls prog 33 #[v] W (Ret W (fQN (((((z:Int):Rat)+((0:Int):Rat)) / 2+((0:Int):Rat)) / 2)).tS):=by
 have hz1:QB ((z:Int):Rat) 10:=(qbz (z:=z) oQ).mono dC
 have hz2:QB ((((z:Int):Rat)+((0:Int):Rat)) / 2) 10:=(((qbz (z:=z) oQ).add (qbz (z:=0) dC)).div (qbz (z:=2) dC)).mono dC
 refine z5 [(uI z).tS] func33 rfl kJ ⟨hv,trivial⟩ fun a s=> ?_
 refine zWR ?_
 refine zB 0 [] hmix s kJ
  zD fun a w1 s=> ?_
 refine zU (CU.len 3) (cs:=zR3) kJ rfl s kJ (fun W=>rfl) rfl fun b2 a w s=> ?_
 refine zA rfl ?_
 refine zWR ?_
 refine zB 6 ((3, .Z (uI z))::(4, .Z (fQN ((z:Int):Rat)))::(5, .Z (fQN ((0:Int):Rat)))::(6, .Z (fQN ((((z:Int):Rat)+((0:Int):Rat)) / 2)))::(7, .Z (fQN ((0:Int):Rat)))::(8, .u (fQN ((((((z:Int):Rat)+((0:Int):Rat)) / 2)+((0:Int):Rat)) / 2))):: []) hmix s kJ
  (oc zC<|oc (zH zE zEa (fun u0 W hb (h0:u0= .int .i64 z)=>zB8 _ h0 oQ))<|oc (zH zE zEa (fun u0 W hb (h0:u0= .int .i64 0)=>zB8 _ h0 oQ))<|oc (zJ zE zQ6 (fun u0 u1 W hb (h0:QNp ((z:Int):Rat) u0 W) (h1:QNp ((0:Int):Rat) u1 W)=>zHW (m:=10) (p:=((z:Int):Rat)) (q:=((0:Int):Rat)) (wD h0 hz1) (wD h1 ((qbz (z:=0) dC).mono dC)) dC dC))<|oc (zH zE zEa (fun u0 W hb (h0:u0= .int .i64 0)=>zB8 _ h0 oQ))<|oc (zJ zE zQ6 (fun u0 u1 W hb (h0:QNp ((((z:Int):Rat)+((0:Int):Rat)) / 2) u0 W) (h1:QNp ((0:Int):Rat) u1 W)=>zHW (m:=10) (p:=((((z:Int):Rat)+((0:Int):Rat)) / 2)) (q:=((0:Int):Rat)) (wD h0 hz2) (wD h1 ((qbz (z:=0) dC).mono dC)) dC dC))<|zD) fun a w2 s=> ?_
 refine zN (CU.agg (fQN ((((((z:Int):Rat)+((0:Int):Rat)) / 2)+((0:Int):Rat)) / 2))) ((fQN ((((((z:Int):Rat)+((0:Int):Rat)) / 2)+((0:Int):Rat)) / 2)).tS) rfl s kJ rfl rfl rfl iiz iiz zV fun a w s=> ?_
 refine zA rfl ?_
 refine zWT ?_
 exact wJ s (CU.agg (fQN (((((z:Int):Rat)+((0:Int):Rat)) / 2+((0:Int):Rat)) / 2))) rfl kJ rfl rfl (yO _) (fun cs W h=>h)
def g19 (A:List PX) (TS:List TX) (L:List PX):Bool:=((((gPt A||decide (((pxs A).length:Int)>8))||gTr TS)||decide (((txs TS).length:Int)>6))||gPt L)||decide (((pxs L).length:Int)>8)
theorem zTA {A:List PX} {TS:List TX} {L:List PX} (h:g19 A TS L=false):gPt A=false/\gTr TS=false/\gPt L=false:=by
 unfold g19 at h
 simp only [zW2] at h
 exact ⟨h.1.1.1.1.1,h.1.1.1.2,h.1.2⟩
theorem zMa {W:Wt} {r l q:Wu} {A L:List PX} {TS:List TX} (hr0:(SF.row 6 (pxs A)).p r W) (hl0:(SF.row 18 (txs TS)).p l W) (hq0:(SF.row 6 (pxs L)).p q W):Calls prog 6 #[r,l,q] W (Ret W (fB (g19 A TS L)).tS):=by
 refine z5 [(UF.eq r).tS,(UF.eq l).tS,(UF.eq q).tS] func6 rfl kJ ⟨rfl,rfl,rfl,trivial⟩ fun a s=> ?_
 replace s:=s.renew [(0, .u (UF.eq r)),(1, .u (UF.eq l)),(2, .u (UF.eq q))] (fmz ⟨.inr ⟨_,rfl, .head _⟩,fmz ⟨.inr ⟨_,rfl,mz1⟩,fmz ⟨.inr ⟨_,rfl,mz2⟩,fnz⟩⟩⟩)
 refine zWR ?_
 refine zB 1 ((6, .u (uB false)):: []) hmix s kJ
  (oc zG<|zD) fun a w1 s=> ?_
 refine zA rfl ?_
 refine zWR ?_
 replace s:=s.drop [6]
 refine zB 26 ((7, .Z (UF.eq r))::(8, .Z (uB (gPt A)))::(9, .Z (uB (gPt A)))::(10, .s (SF.imp ((gPt A)=false) ((UF.eq r).tS)))::(11, .s (SF.imp ((gPt A)=false) ((uI ((pxs A).length:Int)).tS)))::(12, .s (SF.imp ((gPt A)=false) ((uB (decide (((pxs A).length:Int)>8))).tS)))::(13, .Z (uB ((gPt A)||(decide (((pxs A).length:Int)>8)))))::(14, .Z (uB ((gPt A)||(decide (((pxs A).length:Int)>8)))))::(15, .s (SF.imp (((gPt A)||(decide (((pxs A).length:Int)>8)))=false) ((UF.eq l).tS)))::(16, .s (SF.imp (((gPt A)||(decide (((pxs A).length:Int)>8)))=false) ((uB (gTr TS)).tS)))::(17, .Z (uB (((gPt A)||(decide (((pxs A).length:Int)>8)))||(gTr TS))))::(18, .Z (uB (((gPt A)||(decide (((pxs A).length:Int)>8)))||(gTr TS))))::(19, .s (SF.imp ((((gPt A)||(decide (((pxs A).length:Int)>8)))||(gTr TS))=false) ((UF.eq l).tS)))::(20, .s (SF.imp ((((gPt A)||(decide (((pxs A).length:Int)>8)))||(gTr TS))=false) ((uI ((txs TS).length:Int)).tS)))::(21, .s (SF.imp ((((gPt A)||(decide (((pxs A).length:Int)>8)))||(gTr TS))=false) ((uB (decide (((txs TS).length:Int)>6))).tS)))::(22, .Z (uB ((((gPt A)||(decide (((pxs A).length:Int)>8)))||(gTr TS))||(decide (((txs TS).length:Int)>6)))))::(23, .Z (uB ((((gPt A)||(decide (((pxs A).length:Int)>8)))||(gTr TS))||(decide (((txs TS).length:Int)>6)))))::(24, .s (SF.imp (((((gPt A)||(decide (((pxs A).length:Int)>8)))||(gTr TS))||(decide (((txs TS).length:Int)>6)))=false) ((UF.eq q).tS)))::(25, .s (SF.imp (((((gPt A)||(decide (((pxs A).length:Int)>8)))||(gTr TS))||(decide (((txs TS).length:Int)>6)))=false) ((uB (gPt L)).tS)))::(26, .Z (uB (((((gPt A)||(decide (((pxs A).length:Int)>8)))||(gTr TS))||(decide (((txs TS).length:Int)>6)))||(gPt L))))::(27, .Z (uB (((((gPt A)||(decide (((pxs A).length:Int)>8)))||(gTr TS))||(decide (((txs TS).length:Int)>6)))||(gPt L))))::(28, .s (SF.imp ((((((gPt A)||(decide (((pxs A).length:Int)>8)))||(gTr TS))||(decide (((txs TS).length:Int)>6)))||(gPt L))=false) ((UF.eq q).tS)))::(29, .s (SF.imp ((((((gPt A)||(decide (((pxs A).length:Int)>8)))||(gTr TS))||(decide (((txs TS).length:Int)>6)))||(gPt L))=false) ((uI ((pxs L).length:Int)).tS)))::(30, .s (SF.imp ((((((gPt A)||(decide (((pxs A).length:Int)>8)))||(gTr TS))||(decide (((txs TS).length:Int)>6)))||(gPt L))=false) ((uB (decide (((pxs L).length:Int)>8))).tS)))::(31, .Z (uB ((((((gPt A)||(decide (((pxs A).length:Int)>8)))||(gTr TS))||(decide (((txs TS).length:Int)>6)))||(gPt L))||(decide (((pxs L).length:Int)>8)))))::(6, .u (uB ((((((gPt A)||(decide (((pxs A).length:Int)>8)))||(gTr TS))||(decide (((txs TS).length:Int)>6)))||(gPt L))||(decide (((pxs L).length:Int)>8))))):: []) hmix s kJ
  (oc zC<|oc (zH zE zQ4 (fun u0 W hb (h0:u0=r)=>zDM (L:=A) (yK hr0 h0 (s.up hb))))<|oc zC<|oc (zF 9 (gPt A) kJ iiz (fun e=>yG [] ((UF.eq r).tS) fnz fS kJ zC) fQ)<|oc (zF 9 (gPt A) kJ iiz (fun e=>yG [(10,(UF.eq r).tS)] ((uI ((pxs A).length:Int)).tS) (fmz ⟨fun v W h=>zT (c:=(gPt A)=false) (f:=(UF.eq r).tS) e h,fnz⟩) fS kJ (jC (z:=6) (Cs:=pxs A) kJ (fun v W hb h=>(yK hr0 h (s.up hb))) (fun _=>rfl))) fQ)<|oc (zF 9 (gPt A) kJ iiz (fun e=>yG [(11,(uI ((pxs A).length:Int)).tS)] ((uB (decide (((pxs A).length:Int)>8))).tS) (fmz ⟨fun v W h=>zT (c:=(gPt A)=false) (f:=(uI ((pxs A).length:Int)).tS) e h,fnz⟩) fS kJ (zR .i64 ((pxs A).length:Int) 8 (decide (((pxs A).length:Int)>8)) iiz iiz rfl rfl)) fQ)<|oc (yM (gPt A) iiz (fun e v W h=>zBc h e) (fun e v W h=>zAs (zT e h) e))<|oc zC<|oc (zF 14 ((gPt A)||(decide (((pxs A).length:Int)>8))) kJ iiz (fun e=>yG [] ((UF.eq l).tS) fnz fS kJ zC) fQ)<|oc (zF 14 ((gPt A)||(decide (((pxs A).length:Int)>8))) kJ iiz (fun e=>yG [(15,(UF.eq l).tS)] ((uB (gTr TS)).tS) (fmz ⟨fun v W h=>zT (c:=((gPt A)||(decide (((pxs A).length:Int)>8)))=false) (f:=(UF.eq l).tS) e h,fnz⟩) fS kJ (zH zE zUd (fun u0 W hb (h0:u0=l)=>zJK (L:=TS) (yK hl0 h0 (s.up hb))))) fQ)<|oc (yM ((gPt A)||(decide (((pxs A).length:Int)>8))) iiz (fun e v W h=>zBc h e) (fun e v W h=>zAs (zT e h) e))<|oc zC<|oc (zF 18 (((gPt A)||(decide (((pxs A).length:Int)>8)))||(gTr TS)) kJ iiz (fun e=>yG [] ((UF.eq l).tS) fnz fS kJ zC) fQ)<|oc (zF 18 (((gPt A)||(decide (((pxs A).length:Int)>8)))||(gTr TS)) kJ iiz (fun e=>yG [(19,(UF.eq l).tS)] ((uI ((txs TS).length:Int)).tS) (fmz ⟨fun v W h=>zT (c:=(((gPt A)||(decide (((pxs A).length:Int)>8)))||(gTr TS))=false) (f:=(UF.eq l).tS) e h,fnz⟩) fS kJ (jC (z:=18) (Cs:=txs TS) kJ (fun v W hb h=>(yK hl0 h (s.up hb))) (fun _=>rfl))) fQ)<|oc (zF 18 (((gPt A)||(decide (((pxs A).length:Int)>8)))||(gTr TS)) kJ iiz (fun e=>yG [(20,(uI ((txs TS).length:Int)).tS)] ((uB (decide (((txs TS).length:Int)>6))).tS) (fmz ⟨fun v W h=>zT (c:=(((gPt A)||(decide (((pxs A).length:Int)>8)))||(gTr TS))=false) (f:=(uI ((txs TS).length:Int)).tS) e h,fnz⟩) fS kJ (zR .i64 ((txs TS).length:Int) 6 (decide (((txs TS).length:Int)>6)) iiz iiz rfl rfl)) fQ)<|oc (yM (((gPt A)||(decide (((pxs A).length:Int)>8)))||(gTr TS)) iiz (fun e v W h=>zBc h e) (fun e v W h=>zAs (zT e h) e))<|oc zC<|oc (zF 23 ((((gPt A)||(decide (((pxs A).length:Int)>8)))||(gTr TS))||(decide (((txs TS).length:Int)>6))) kJ iiz (fun e=>yG [] ((UF.eq q).tS) fnz fS kJ zC) fQ)<|oc (zF 23 ((((gPt A)||(decide (((pxs A).length:Int)>8)))||(gTr TS))||(decide (((txs TS).length:Int)>6))) kJ iiz (fun e=>yG [(24,(UF.eq q).tS)] ((uB (gPt L)).tS) (fmz ⟨fun v W h=>zT (c:=((((gPt A)||(decide (((pxs A).length:Int)>8)))||(gTr TS))||(decide (((txs TS).length:Int)>6)))=false) (f:=(UF.eq q).tS) e h,fnz⟩) fS kJ (zH zE zQ4 (fun u0 W hb (h0:u0=q)=>zDM (L:=L) (yK hq0 h0 (s.up hb))))) fQ)<|oc (yM ((((gPt A)||(decide (((pxs A).length:Int)>8)))||(gTr TS))||(decide (((txs TS).length:Int)>6))) iiz (fun e v W h=>zBc h e) (fun e v W h=>zAs (zT e h) e))<|oc zC<|oc (zF 27 (((((gPt A)||(decide (((pxs A).length:Int)>8)))||(gTr TS))||(decide (((txs TS).length:Int)>6)))||(gPt L)) kJ iiz (fun e=>yG [] ((UF.eq q).tS) fnz fS kJ zC) fQ)<|oc (zF 27 (((((gPt A)||(decide (((pxs A).length:Int)>8)))||(gTr TS))||(decide (((txs TS).length:Int)>6)))||(gPt L)) kJ iiz (fun e=>yG [(28,(UF.eq q).tS)] ((uI ((pxs L).length:Int)).tS) (fmz ⟨fun v W h=>zT (c:=(((((gPt A)||(decide (((pxs A).length:Int)>8)))||(gTr TS))||(decide (((txs TS).length:Int)>6)))||(gPt L))=false) (f:=(UF.eq q).tS) e h,fnz⟩) fS kJ (jC (z:=6) (Cs:=pxs L) kJ (fun v W hb h=>(yK hq0 h (s.up hb))) (fun _=>rfl))) fQ)<|oc (zF 27 (((((gPt A)||(decide (((pxs A).length:Int)>8)))||(gTr TS))||(decide (((txs TS).length:Int)>6)))||(gPt L)) kJ iiz (fun e=>yG [(29,(uI ((pxs L).length:Int)).tS)] ((uB (decide (((pxs L).length:Int)>8))).tS) (fmz ⟨fun v W h=>zT (c:=(((((gPt A)||(decide (((pxs A).length:Int)>8)))||(gTr TS))||(decide (((txs TS).length:Int)>6)))||(gPt L))=false) (f:=(uI ((pxs L).length:Int)).tS) e h,fnz⟩) fS kJ (zR .i64 ((pxs L).length:Int) 8 (decide (((pxs L).length:Int)>8)) iiz iiz rfl rfl)) fQ)<|oc (yM (((((gPt A)||(decide (((pxs A).length:Int)>8)))||(gTr TS))||(decide (((txs TS).length:Int)>6)))||(gPt L)) iiz (fun e v W h=>zBc h e) (fun e v W h=>zAs (zT e h) e))<|oc zG<|zD) fun a w2 s=> ?_
 refine zA rfl ?_
 refine zWT ?_
 exact wH s (t:=6) rfl (fun v W h=>h)
end Go.Proofs.Wd

namespace Go.Proofs.Wd
open Tryz
set_option maxRecDepth 100000
set_option maxHeartbeats 1000000
open Go.RowKit Lb
abbrev LR:List Int:= [0,0,1,0,0,1]
abbrev LT:List Int:= [2,0,3,0,2,1]
abbrev LW:List Int:= [0,0,1,0,1,0]
abbrev TT:V6:=((((2:Int):Rat),((0:Int):Rat)),(((3:Int):Rat),((0:Int):Rat)),(((2:Int):Rat),((1:Int):Rat)))
abbrev BT:V2×Bool:=zAK (tl TT) (zBr LR 3) (((0:Int):Rat),((0:Int):Rat)) (yU (((4:Int):Rat),((0:Int):Rat)) (((0:Int):Rat),((0:Int):Rat)))
abbrev QU (z:Int):Rat:=(((((z:Int):Rat)+((0:Int):Rat)) / 2+((0:Int):Rat)) / 2)
abbrev L3:List V2:= [(((0:Int):Rat),((0:Int):Rat)),(((1:Int):Rat),((0:Int):Rat)),(((2:Int):Rat),((0:Int):Rat))]
theorem zU1:BT.2=true:=by kernel_rfl
theorem zU0:(qsg (yB BT).1 (QU 1)==0)=true:=by kernel_rfl
theorem zUZ:(qsg (yB BT).2 (QU 3)==0)=true:=by kernel_rfl
theorem zUY:decide (zCx (zBr LR 3) [TT] (zBr LW 3)<0)=true:=by kernel_rfl
theorem zUX:zCx (zBr LR 3) [TT] L3=1:=by kernel_rfl
theorem zUW:(qsg (zEo (zBr LW 3) ((zBr LW 3).length - 1)) ((1:Int):Rat)==0)=true:=by kernel_rfl
theorem zUV:(plV (zBr LW 3) (zBr LW 3).length).length=2:=by kernel_rfl
theorem zMB {S:V2×Bool} {M:Nat} (h:QB S.1.1 M/\QB S.1.2 M) (hM:0<M):QB (yB S).1 M/\QB (yB S).2 M:=by
 unfold yB
 split
 ·exact h
 ·exact ⟨QB.zero hM,QB.zero hM⟩
theorem quz (z:Int) (hz: -50<=z/\z<=50):QB (QU z) 400:=(((((qbz (z:=z) oQ).add (qbz (z:=0) dC)).div (qbz (z:=2) dC)).add (qbz (z:=0) dC)).div (qbz (z:=2) dC)).mono dC
theorem zRA {p q:V2} {m M:Nat} (hp:QB p.1 m/\QB p.2 m) (hq:QB q.1 m/\QB q.2 m) (h:m+m+1<=M):QB (yU p q).1 M/\QB (yU p q).2 M:=⟨(hp.1.sub hq.1).mono h,(hp.2.sub hq.2).mono h⟩
theorem zSY:QB (yB BT).1 400/\QB (yB BT).2 400:=zMB (S:=BT) (M:=400) (zPs (T:=tl TT) (R:=zBr LR 3) (a:=(((0:Int):Rat),((0:Int):Rat))) (d:=yU (((4:Int):Rat),((0:Int):Rat)) (((0:Int):Rat),((0:Int):Rat))) (M:=400) (n:=1) (k:=1) (j:=3) (fun p hp=>by
  rcases zWY.1 hp with rfl|hp
  ·exact ⟨qbz dC,qbz dC⟩
  ·rcases zWY.1 hp with rfl|hp
   ·exact ⟨qbz dC,qbz dC⟩
   ·obtain rfl:=zW1.1 hp;exact ⟨qbz dC,qbz dC⟩) (zFH (zE3 dC) 3) ⟨qbz dC,qbz dC⟩ (zRA (m:=1) (p:=(((4:Int):Rat),((0:Int):Rat))) (q:=(((0:Int):Rat),((0:Int):Rat))) ⟨qbz dC,qbz dC⟩ ⟨qbz dC,qbz dC⟩ dC) dC) dC
theorem zUp {u v q:Wu} {W:Wt} (hu:(fPN TT.1).p u W) (hv:(fPN TT.2.1).p v W) (hq:(fPN TT.2.2).p q W): ∃cells,prog.built 42 [(0,u),(1,v),(2,q)]=some cells/\(fTR 5 TT).p (.agg cells) W:=
 zVh (t:=TT) (jB (m:=1) dC (zCa (qbz dC) (qbz dC) hu)) (jB (m:=1) dC (zCa (qbz dC) (qbz dC) hv)) (jB (m:=1) dC (zCa (qbz dC) (qbz dC) hq))
theorem zSg (v:Wu) (W:Wt) (h:(SF.row 6 (pns L3)).p v W):(SF.row 6 (pvs 47 L3)).p v W:=zF3 (fun p hp=>by
  rcases zWY.1 hp with rfl|hp
  ·exact ⟨(qbz dC).mono dC,(qbz dC).mono dC⟩
  ·rcases zWY.1 hp with rfl|hp
   ·exact ⟨(qbz dC).mono dC,(qbz dC).mono dC⟩
   ·obtain rfl:=zW1.1 hp;exact ⟨(qbz dC).mono dC,(qbz dC).mono dC⟩) v W h
theorem zPd {L:List Int} {m:Nat} (hL:L.all (fun z=>decide (z.natAbs<100))=true) (hm:1<=m) (v:Wu) (W:Wt) (h:(SF.row 6 (pns (zBr L 3))).p v W):(SF.row 6 (pvs m (zBr L 3))).p v W:=zBI hm v W (zF3 (zFH (zE3 hL) 3) v W h)
theorem zKj {W:Wt} (hT:Tab W):Calls prog 11 #[] W (Ret W (fB true).tS):=by
 refine z5 [] func11 rfl kJ trivial fun a s=> ?_
 refine zWR ?_
 refine zB 1 ((0, .u (uB false)):: []) hmix s kJ
  (oc zG<|zD) fun a w1 s=> ?_
 refine zA rfl ?_
 refine zWR ?_
 refine jG 4 ((8, .s (SF.row 1 (zEq [0,0,1,0,0,1])))::(9, .s (wL w1 31 6 (pns (zBr LR 3))))::(10, .s (SF.row 1 (zEq [2,0,3,0,2,1])))::(11, .s (wL w1 31 6 (pns (zBr LT 3)))):: []) hmix s kJ
  (oc (zEU _ _ _ _ _ _ iiz)<|oc (zH zE zQ3 (fun u0 W hb (h0:(SF.row 1 (zEq [0,0,1,0,0,1])).p u0 W)=>(zLD (L:=LR) h0 (zE3 dC).ok dC).mono (wI (zBV hb.size))))<|oc (zEU _ _ _ _ _ _ iiz)<|oc (zH zE zQ3 (fun u0 W hb (h0:(SF.row 1 (zEq [2,0,3,0,2,1])).p u0 W)=>(zLD (L:=LT) h0 (zE3 dC).ok dC).mono (wI (zBV hb.size))))<|zD) fun a w2 s hr=> ?_
 obtain ⟨v9,e9⟩: ∃v,a.tmps.getD 9 undef=v:=⟨_,rfl⟩
 have hv9:(SF.row 6 (pvs 5 (zBr LR 3))).p v9 w2:=e9▸zPd dC dC _ _ (zBe _ _ (hr (_,_) mz1))
 replace s:=s.learn 9 v9 e9
 obtain ⟨v11,e11⟩: ∃v,a.tmps.getD 11 undef=v:=⟨_,rfl⟩
 have hv11:(SF.row 6 (pns (zBr LT 3))).p v11 w2:=e11▸zBe _ _ (hr (_,_) mz3)
 replace s:=s.learn 11 v11 e11
 have hb0:=s.below
 replace hT:=hT.below hb0
 replace s:=s.reb rfl [(11, .u (UF.eq v11)),(9, .u (UF.eq v9)),(0, .u (uB false))] (fmz ⟨.inl (.head _),fmz ⟨.inl mz1,fmz ⟨.inl mz2,fnz⟩⟩⟩)
 refine yV (UF.eq v9) rfl s kJ iiz fun a w s=> ?_
 refine yV (UF.eq v11) rfl s kJ iiz fun a w s=> ?_
 refine zA rfl ?_
 refine zWR ?_
 have so:=s.old;have sg:=s.gr
 refine jT (fun i=> [].contains i) [⟨10,3,42, [.bool false, .slice none 0 0, .slice none 0 0, .bool false, .slice none 0 0, .slice none 0 0, .bool false, .slice none 0 0, .slice none 0 0, .bool false, .slice none 0 0, .slice none 0 0, .bool false, .slice none 0 0, .slice none 0 0, .bool false, .slice none 0 0, .slice none 0 0],wF w 42 (CU.len 18)⟩] 11 ((12, .Z (UF.eq v11))::(13, .Y (fPN (((2:Int):Rat),((0:Int):Rat))))::(14, .Z (fPN (((2:Int):Rat),((0:Int):Rat))))::(15, .Z (UF.eq v11))::(16, .Y (fPN (((3:Int):Rat),((0:Int):Rat))))::(17, .Z (fPN (((3:Int):Rat),((0:Int):Rat))))::(18, .Z (UF.eq v11))::(19, .Y (fPN (((2:Int):Rat),((1:Int):Rat))))::(20, .Z (fPN (((2:Int):Rat),((1:Int):Rat))))::(21, .u (fTR 5 TT))::(3, .s (wF w 42 (CU.len 18))):: []) hmix s (fmz ⟨⟨by show 10<11;decide,zD8,⟨_,_,_,rfl⟩,by kernel_rfl,qT (fun _=>rfl) rfl⟩,fnz⟩) kJ
  (oc zC<|oc (yP (z:=6) (Cs:=pns (zBr LT 3)) (i:=0) (C:=CU.agg (fPN (((2:Int):Rat),((0:Int):Rat)))) kJ rfl (fun v W hb h=>(yK hv11 h (s.up hb))) iiz)<|oc (zI (f:=fPN (((2:Int):Rat),((0:Int):Rat))) 6 kJ (hz:=zX _ _))<|oc zC<|oc (yP (z:=6) (Cs:=pns (zBr LT 3)) (i:=1) (C:=CU.agg (fPN (((3:Int):Rat),((0:Int):Rat)))) kJ rfl (fun v W hb h=>(yK hv11 h (s.up hb))) iiz)<|oc (zI (f:=fPN (((3:Int):Rat),((0:Int):Rat))) 6 kJ (hz:=zX _ _))<|oc zC<|oc (yP (z:=6) (Cs:=pns (zBr LT 3)) (i:=2) (C:=CU.agg (fPN (((2:Int):Rat),((1:Int):Rat)))) kJ rfl (fun v W hb h=>(yK hv11 h (s.up hb))) iiz)<|oc (zI (f:=fPN (((2:Int):Rat),((1:Int):Rat))) 6 kJ (hz:=zX _ _))<|oc (zLC (fun u v q W (hu:(fPN (((2:Int):Rat),((0:Int):Rat))).p u W) (hv:(fPN (((3:Int):Rat),((0:Int):Rat))).p v W) (hq:(fPN (((2:Int):Rat),((1:Int):Rat))).p q W)=>zUp hu hv hq))<|oc (zAi (cs:= [.bool false, .slice none 0 0, .slice none 0 0, .bool false, .slice none 0 0, .slice none 0 0, .bool false, .slice none 0 0, .slice none 0 0, .bool false, .slice none 0 0, .slice none 0 0, .bool false, .slice none 0 0, .slice none 0 0, .bool false, .slice none 0 0, .slice none 0 0]) kJ (qT (fun _=>rfl) rfl))<|zD) fun Q' hQ a w3 s hr hd=> ?_
 obtain ⟨b3,hB3,e3,s⟩:=s.adoptA false 3 (hr (_,_) zD8) sg (fun y hy=> .inl (so y hy))
 refine zN (CU.agg (fTR 5 TT)) ((fTR 5 TT).tS) rfl s kJ rfl rfl rfl iiz iiz zIA fun a w s=> ?_
 refine zA rfl (hQ _ _ ?_)
 refine zWR ?_
 have so:=s.old;have sg:=s.gr
 refine jT (fun i=> [7,8].contains i) [⟨9,4,29, [.bool false, .slice none 0 0, .slice none 0 0],wF w 29 (CU.len 3)⟩,⟨10,5,29, [.bool false, .slice none 0 0, .slice none 0 0],wF w 29 (CU.len 3)⟩] 11 ((23, .Z (UF.eq v9))::(24, .Z (fTR 5 TT))::(25, .Z (fPN (((0:Int):Rat),((0:Int):Rat))))::(26, .Z (fPN (((4:Int):Rat),((0:Int):Rat))))::(27, .Z (zC2 (fQN ((yB BT).1)) (fQN ((yB BT).2)) (uB true)))::(22, .Z (zC2 (fQN ((yB BT).1)) (fQN ((yB BT).2)) (uB true)))::(28, .u (fQN ((yB BT).1)))::(29, .u (fQN ((yB BT).2)))::(30, .u (uB true))::(4, .s (wF w 29 (CU.len 3)))::(5, .s (wF w 29 (CU.len 3))):: []) hmix s (fmz ⟨⟨by show 9<11;decide,mz9,⟨_,_,_,rfl⟩,by kernel_rfl,qT (fun _=>rfl) rfl⟩,fmz ⟨⟨by show 10<11;decide,zD8,⟨_,_,_,rfl⟩,by kernel_rfl,qT (fun _=>rfl) rfl⟩,fnz⟩⟩) kJ
  (oc zC<|oc (zI (f:=fTR 5 TT) 18 kJ (hz:=zC7 _ _))<|oc (zJ zE zJ3 (fun u0 u1 W hb (h0:u0= .int .i64 0) (h1:u1= .int .i64 0)=>zFr h0 h1 dC dC))<|oc (zJ zE zJ3 (fun u0 u1 W hb (h0:u0= .int .i64 4) (h1:u1= .int .i64 0)=>zFr h0 h1 dC dC))<|oc (zBK zE zQ7 (fun u0 u1 u2 u3 W hb (h0:u0=v9) (h1:(fTR 5 TT).p u1 W) (h2:(fPN (((0:Int):Rat),((0:Int):Rat))).p u2 W) (h3:(fPN (((4:Int):Rat),((0:Int):Rat))).p u3 W)=>(zFa (R:=zBr LR 3) (T:=TT) (p:=(((0:Int):Rat),((0:Int):Rat))) (e_:=(((4:Int):Rat),((0:Int):Rat))) (yK hv9 h0 (s.up hb)) h1 (jB (m:=1) dC (zCa (p:=(((0:Int):Rat),((0:Int):Rat))) (qbz dC) (qbz dC) h2)) (jB (m:=1) dC (zCa (p:=(((4:Int):Rat),((0:Int):Rat))) (qbz dC) (qbz dC) h3)) dC (hT.below (s.up hb))).mono (wI (fun v W h=>by rw [zU1] at h;exact h))))<|oc zC<|oc (zDm (A:=(fQN ((yB BT).1)).tS) (B:=(fQN ((yB BT).2)).tS) (C:=(uB true).tS) iiz)<|oc (zDl (A:=(fQN ((yB BT).1)).tS) (B:=(fQN ((yB BT).2)).tS) (C:=(uB true).tS) iiz)<|oc (zDk (A:=(fQN ((yB BT).1)).tS) (B:=(fQN ((yB BT).2)).tS) (C:=(uB true).tS) iiz)<|oc (zAi (cs:=zR3) kJ (qT (fun _=>rfl) rfl))<|oc (zAi (cs:=zR3) kJ (qT (fun _=>rfl) rfl))<|zD) fun Q' hQ a w4 s hr hd=> ?_
 obtain ⟨b4,hB4,e4,s⟩:=s.adoptA false 4 (hr (_,_) mz9) sg (fun y hy=> .inl (so y hy))
 obtain ⟨b5,hB5,e5,s⟩:=s.adoptA false 5 (hr (_,_) zD8) sg (fun y hy=>by rcases zWY.1 hy with rfl|hy;exact .inr (.inr fun b hb=>hd _ _ (.head _) mz1 (by show 9≠10;decide) _ _ e4 hb);exact .inl (so y hy))
 refine zN (CU.agg (fQN ((yB BT).1))) ((fQN ((yB BT).1)).tS) rfl s kJ rfl rfl rfl iiz iiz zV fun a w s=> ?_
 refine zN (CU.agg (fQN ((yB BT).2))) ((fQN ((yB BT).2)).tS) rfl s kJ rfl rfl rfl iiz iiz zV fun a w s=> ?_
 refine yV (uB true) rfl s kJ iiz fun a w s=> ?_
 refine zA rfl (hQ _ _ ?_)
 refine zWR ?_
 refine jG 2 ((31, .s (SF.row 1 (zEq [0,0,1,0,1,0])))::(32, .s (wL w 31 6 (pns (zBr LW 3)))):: []) hmix s kJ
  (oc (zEU _ _ _ _ _ _ iiz)<|oc (zH zE zQ3 (fun u0 W hb (h0:(SF.row 1 (zEq [0,0,1,0,1,0])).p u0 W)=>(zLD (L:=LW) h0 (zE3 dC).ok dC).mono (wI (zBV hb.size))))<|zD) fun a w5 s hr=> ?_
 obtain ⟨v32,e32⟩: ∃v,a.tmps.getD 32 undef=v:=⟨_,rfl⟩
 have hv32:(SF.row 6 (pvs 47 (zBr LW 3))).p v32 w5:=e32▸zPd dC dC _ _ (zBe _ _ (hr (_,_) mz1))
 replace s:=s.learn 32 v32 e32
 have hb1:=s.below
 replace hT:=hT.below hb1
 replace hv9:=(SF.row 6 _).st _ _ _ hv9 hb1
 replace s:StS _ _ _ [⟨5,29,CU.agg (fQN ((yB BT).2)),b5,true⟩,⟨4,29,CU.agg (fQN ((yB BT).1)),b4,true⟩,⟨3,42,CU.agg (fTR 5 TT),b3,true⟩] _ _ _ _:=s.freeze
 replace s:=s.reb rfl [(32, .u (UF.eq v32)),(6, .u (uB true)),(28, .u (fQN ((yB BT).1))),(29, .u (fQN ((yB BT).2))),(30, .u (uB true)),(21, .u (fTR 5 TT)),(2, .u (UF.eq v11)),(1, .u (UF.eq v9)),(11, .u (UF.eq v11)),(9, .u (UF.eq v9)),(0, .u (uB false))] (fmz ⟨.inl (.head _),fmz ⟨.inl mz1,fmz ⟨.inl mz2,fmz ⟨.inl mz3,fmz ⟨.inl mz4,fmz ⟨.inl mz5,fmz ⟨.inl mz6,fmz ⟨.inl mz7,fmz ⟨.inl mz8,fmz ⟨.inl mz9,fmz ⟨.inl zD8,fnz⟩⟩⟩⟩⟩⟩⟩⟩⟩⟩⟩)
 refine yV (UF.eq v32) rfl s kJ iiz fun a w s=> ?_
 refine zA rfl ?_
 refine zWR ?_
 replace s:=s.drop [0]
 refine zB 42 ((33, .Z (uB true))::(34, .Z (uB true))::(35, .Z (fQN ((yB BT).1)))::(36, .Z (fQN (QU 1)))::(37, .Z (uB true))::(38, .Z (uB true))::(39, .Z (uB true))::(40, .Z (fQN ((yB BT).2)))::(41, .Z (fQN (QU 3)))::(42, .Z (uB true))::(43, .Z (uB true))::(44, .Z (uB true))::(45, .Z (UF.eq v9))::(46, .Z (fTR 5 TT))::(47, .s (SF.row 18 (trs 5 [TT])))::(48, .Z (UF.eq v32))::(49, .Z (uB true))::(50, .Z (uB true))::(51, .Z (uB true))::(52, .Z (UF.eq v9))::(53, .Z (fTR 5 TT))::(54, .s (SF.row 18 (trs 5 [TT])))::(55, .Z (fPN (((0:Int):Rat),((0:Int):Rat))))::(56, .Z (fPN (((1:Int):Rat),((0:Int):Rat))))::(57, .Z (fPN (((2:Int):Rat),((0:Int):Rat))))::(58, .s (SF.row 6 [CU.agg (fPN (((0:Int):Rat),((0:Int):Rat))),CU.agg (fPN (((1:Int):Rat),((0:Int):Rat))),CU.agg (fPN (((2:Int):Rat),((0:Int):Rat)))]))::(59, .Z (uI 1))::(60, .Z (uB true))::(61, .Z (uB true))::(62, .Z (uB true))::(63, .Z (UF.eq v32))::(64, .Z (fQN (zEo (zBr LW 3) ((zBr LW 3).length - 1))))::(65, .Z (fQN ((1:Int):Rat)))::(66, .Z (uB true))::(67, .Z (uB true))::(68, .Z (uB true))::(69, .Z (UF.eq v32))::(70, .s (SF.row 6 (pvs 47 (plV (zBr LW 3) (zBr LW 3).length))))::(71, .Z (uI (((pvs 47 (plV (zBr LW 3) (zBr LW 3).length)).length:Nat):Int)))::(72, .Z (uB true))::(73, .Z (uB true))::(0, .u (uB true)):: []) hmix s kJ
  (oc zC<|oc zC<|oc (zF 34 true kJ iiz (fun _=>zI (f:=fQN ((yB BT).1)) 3 kJ (hz:=yO _)) arf)<|oc (zF 34 true kJ iiz (fun _=>zH zE zSz (fun u0 W hb (h0:u0= .int .i64 1)=>zFt h0 dC)) arf)<|oc (zF 34 true kJ iiz (fun _=>zJ zE zQ5 (fun u0 u1 W hb (h0:QNp ((yB BT).1) u0 W) (h1:QNp (QU 1) u1 W)=>(zFY (m:=400) (p:=(yB BT).1) (q:=(QU 1)) (wD h0 zSY.1) (wD h1 (quz _ dC)) dC dC).mono (wI (fun v W h=>by rw [zU0] at h;exact h)))) arf)<|oc (yM true iiz fR (fun e=>by cases e))<|oc zC<|oc (zF 39 true kJ iiz (fun _=>zI (f:=fQN ((yB BT).2)) 3 kJ (hz:=yO _)) arf)<|oc (zF 39 true kJ iiz (fun _=>zH zE zSz (fun u0 W hb (h0:u0= .int .i64 3)=>zFt h0 dC)) arf)<|oc (zF 39 true kJ iiz (fun _=>zJ zE zQ5 (fun u0 u1 W hb (h0:QNp ((yB BT).2) u0 W) (h1:QNp (QU 3) u1 W)=>(zFY (m:=400) (p:=(yB BT).2) (q:=(QU 3)) (wD h0 zSY.2) (wD h1 (quz _ dC)) dC dC).mono (wI (fun v W h=>by rw [zUZ] at h;exact h)))) arf)<|oc (yM true iiz fR (fun e=>by cases e))<|oc zC<|oc (zF 44 true kJ iiz (fun _=>zC) arf)<|oc (zF 44 true kJ iiz (fun _=>zI (f:=fTR 5 TT) 18 kJ (hz:=zC7 _ _)) arf)<|oc (zF 44 true kJ iiz (fun _=>zAe (fun u W (hu:(fTR 5 TT).p u W)=>zKA hu)) arf)<|oc (zF 44 true kJ iiz (fun _=>zC) arf)<|oc (zF 44 true kJ iiz (fun _=>zAh zE zUf (fun u0 u1 u2 W hb (h0:u0=v9) (h1:(SF.row 18 (trs 5 [TT])).p u1 W) (h2:u2=v32)=>(zOA (R:=zBr LR 3) (Ts:= [TT]) (ps:=zBr LW 3) (yK hv9 h0 (s.up hb)) h1 (yK hv32 h2 (s.up hb)) dC dC dC (hT.below (s.up hb))).mono (wI (fun v W h=>by rw [zUY] at h;exact h)))) arf)<|oc (yM true iiz fR (fun e=>by cases e))<|oc zC<|oc (zF 51 true kJ iiz (fun _=>zC) arf)<|oc (zF 51 true kJ iiz (fun _=>zI (f:=fTR 5 TT) 18 kJ (hz:=zC7 _ _)) arf)<|oc (zF 51 true kJ iiz (fun _=>zAe (fun u W (hu:(fTR 5 TT).p u W)=>zKA hu)) arf)<|oc (zF 51 true kJ iiz (fun _=>zJ zE zJ3 (fun u0 u1 W hb (h0:u0= .int .i64 0) (h1:u1= .int .i64 0)=>zFr h0 h1 dC dC)) arf)<|oc (zF 51 true kJ iiz (fun _=>zJ zE zJ3 (fun u0 u1 W hb (h0:u0= .int .i64 1) (h1:u1= .int .i64 0)=>zFr h0 h1 dC dC)) arf)<|oc (zF 51 true kJ iiz (fun _=>zJ zE zJ3 (fun u0 u1 W hb (h0:u0= .int .i64 2) (h1:u1= .int .i64 0)=>zFr h0 h1 dC dC)) arf)<|oc (zF 51 true kJ iiz (fun _=>zEV (fun u v q W (hu:(fPN (((0:Int):Rat),((0:Int):Rat))).p u W) (hv:(fPN (((1:Int):Rat),((0:Int):Rat))).p v W) (hq:(fPN (((2:Int):Rat),((0:Int):Rat))).p q W)=>zOW hu hv hq)) arf)<|oc (zF 51 true kJ iiz (fun _=>zAh zE zSy (fun u0 u1 u2 W hb (h0:u0=v9) (h1:(SF.row 18 (trs 5 [TT])).p u1 W) (h2:(SF.row 6 [CU.agg (fPN (((0:Int):Rat),((0:Int):Rat))),CU.agg (fPN (((1:Int):Rat),((0:Int):Rat))),CU.agg (fPN (((2:Int):Rat),((0:Int):Rat)))]).p u2 W)=>(zJn (R:=zBr LR 3) (Ts:= [TT]) (ps:=L3) (yK hv9 h0 (s.up hb)) h1 (zSg _ _ h2) dC dC dC (hT.below (s.up hb))).mono (wI (fun v W h=>by rw [zUX] at h;exact h)))) arf)<|oc (zF 51 true kJ iiz (fun _=>zR .i64 1 1 true iiz iiz (by rfl) rfl) arf)<|oc (yM true iiz fR (fun e=>by cases e))<|oc zC<|oc (zF 62 true kJ iiz (fun _=>zC) arf)<|oc (zF 62 true kJ iiz (fun _=>zH zE zUe (fun u0 W hb (h0:u0=v32)=>zSV (ps:=zBr LW 3) (yK hv32 h0 (s.up hb)) dC (hT.below (s.up hb)))) arf)<|oc (zF 62 true kJ iiz (fun _=>zH zE zEa (fun u0 W hb (h0:u0= .int .i64 1)=>zB8 _ h0 dC)) arf)<|oc (zF 62 true kJ iiz (fun _=>zJ zE zQ5 (fun u0 u1 W hb (h0:QNp (zEo (zBr LW 3) ((zBr LW 3).length - 1)) u0 W) (h1:QNp ((1:Int):Rat) u1 W)=>(zFY (m:=400) (p:=(zEo (zBr LW 3) ((zBr LW 3).length - 1))) (q:=((1:Int):Rat)) (wD h0 (zLT (fun p hp=>⟨(zFH (L:=LW) (zE3 dC) 3 p hp).1.mono dC,(zFH (L:=LW) (zE3 dC) 3 p hp).2.mono dC⟩) _ dC dC)) (wD h1 ((qbz (z:=1) dC).mono dC)) dC dC).mono (wI (fun v W h=>by rw [zUW] at h;exact h)))) arf)<|oc (yM true iiz fR (fun e=>by cases e))<|oc zC<|oc (zF 68 true kJ iiz (fun _=>zC) arf)<|oc (zF 68 true kJ iiz (fun _=>zH zE zUa (fun u0 W hb (h0:u0=v32)=>(zOw (ps:=zBr LW 3) (yK hv32 h0 (s.up hb)) dC (hT.below (s.up hb))).mono (wI zBe))) arf)<|oc (zF 68 true kJ iiz (fun _=>zBk (z:=6) (Cs:=pvs 47 (plV (zBr LW 3) (zBr LW 3).length)) kJ iiz (fun _=>rfl)) arf)<|oc (zF 68 true kJ iiz (fun _=>zR .i64 (((pvs 47 (plV (zBr LW 3) (zBr LW 3).length)).length:Nat):Int) 2 true iiz iiz (by rw [zW3,zUV];rfl) rfl) arf)<|oc (yM true iiz fR (fun e=>by cases e))<|oc zG<|zD) fun a w6 s=> ?_
 refine zA rfl ?_
 refine zWT ?_
 exact vD s (hb0.trans (hb1.mono hb0.size)) rfl iiz
theorem zBH {x:PX} (h:x.big=false) (cs:List Wu) (W:Wt) (hc:(PX.cu x).p cs W):0+6<=cs.length/\(fPV 2 x.p).p (.agg ((cs.drop 0).take 6).toArray) W:=zNL h cs W hc
theorem zIL {a b t:Rat} {m n k:Nat} (ha:QB a m) (hb:QB b n) (ht:QB t k):QB (a+(b - a)*t) (m+n+k+2):=by
 have da:=jU ha.2;have db:=jU hb.2;have dt:=jU ht.2
 have e1:=zG9 a;have e2:=zG9 b;have e3:=zG9 t
 refine vJ (X:=a.num*(b.den:Int)*(t.den:Int)+(b.num*(a.den:Int)+ -(a.num*(b.den:Int)))*t.num) (D:=(a.den:Int)*(b.den:Int)*(t.den:Int)) oQ ?_ ?_ ?_ ?_
 ·simp only [Rat.intCast_mul,Rat.intCast_add,Rat.intCast_neg,Rat.intCast_natCast,e1,e2,e3]
  grind
 ·have h1:(a.den:Int)≠0:=by have:=a.den_pos;omega
  have h2:(b.den:Int)≠0:=by have:=b.den_pos;omega
  have h3:(t.den:Int)≠0:=by have:=t.den_pos;omega
  exact Int.mul_ne_zero (Int.mul_ne_zero h1 h2) h3
 ·exact (((ha.1.mul db).mul dt).mono (m':=m+n+k+1) oQ).add (((((hb.1.mul da).mono (m':=m+n) oQ).add ((ha.1.mul db).neg)).mul ht.1).mono oQ)
 ·exact ((da.mul db).mul dt).mono oQ
theorem zFs {x:QX} (h:x.n<=40/\x.n'<=40) (cs:List Wu) (W:Wt) (hc:(QX.cu x).p cs W):0+3<=cs.length/\(fRV 40 x.q).p (.agg ((cs.drop 0).take 3).toArray) W:=by
 have hl:=zIV _ _ _ _ cs W hc
 refine ⟨by omega, ?_⟩
 rw [List.drop_zero,List.take_of_length_le oQ]
 exact zRg hc h.1 h.2
theorem zPT {q:Rat} (h:decide (q.num.sign<0)=false):0<=q:=Rat.not_lt.1 fun g=>zWW h (zFQ.2 g)
theorem zQq {q:Rat} (h:decide (qsg q ((1:Int):Rat)>0)=false):q<=1:=Rat.not_lt.1 fun g=>by
 have:=zWW h
 exact this (qgt.2 g)
theorem zRI {a b:V2} {t:Rat} {k M:Nat} (ha:QB a.1 2/\QB a.2 2) (hb:QB b.1 2/\QB b.2 2) (ht:QB t k) (hM:k+6<=M):QB (seg a b t).1 M/\QB (seg a b t).2 M:=⟨(zIL ha.1 hb.1 ht).mono oQ,(zIL ha.2 hb.2 ht).mono oQ⟩
end Go.Proofs.Wd

namespace Go.Proofs.Wd
open Tryz
set_option maxRecDepth 100000
set_option maxHeartbeats 1000000
open Go.RowKit Lb
theorem zNU {R:List V2} {T:V6} {a b:V2} {t:Rat} {S:V2×Bool} (hS:S=zAK (tl T) R a (yU b a)) (ht:0<=t/\t<=1):
  (S.2=false->zBn R [T] (seg a b t)=true/\zD9 R [T] a b=true)/\
  (S.2=true->zD9 R [T] a b=false/\0<=(yB S).1/\(yB S).2<=1/\(yB S).1<(yB S).2/\zBn R [T] (seg a b (((yB S).1+(yB S).2) / 2))=false/\
   (((yB S).1<t/\t<(yB S).2)->zBn R [T] (seg a b t)=false)/\((t<(yB S).1∨(yB S).2<t)->zBn R [T] (seg a b t)=true)):=by
 subst hS
 obtain ⟨h1,h2⟩:=zQt R T a b ht
 exact ⟨h1,fun h=>by rw [zMA h];exact h2 h⟩
theorem zRt {lo hi t:Rat} {fk:Bool} (hlt:lo<hi) (hin:lo<t/\t<hi->fk=false) (hout:t<lo∨hi<t->fk=true):
  ((decide (qsg lo t<0)&&decide (qsg t hi<0))=true/\(decide (qsg t lo<0)||decide (qsg hi t<0))=false/\fk=false)∨((decide (qsg lo t<0)&&decide (qsg t hi<0))=false/\(decide (qsg t lo<0)||decide (qsg hi t<0))=true/\fk=true)∨((decide (qsg lo t<0)&&decide (qsg t hi<0))=false/\(decide (qsg t lo<0)||decide (qsg hi t<0))=false/\fk=fk):=by
 by_cases h1:lo<t/\t<hi
 ·left
  refine ⟨by rw [zW5 (qlt.2 h1.1),zW5 (qlt.2 h1.2)];rfl, ?_,hin h1⟩
  rw [zWV (fun h=>by have:=qlt.1 h;grind),zWV (fun h=>by have:=qlt.1 h;grind)];rfl
 ·right
  have e1:(decide (qsg lo t<0)&&decide (qsg t hi<0))=false:=by
   rw [Bool.and_eq_false_iff]
   by_cases h2:lo<t
   ·exact .inr (zWV fun h=>h1 ⟨h2,qlt.1 h⟩)
   ·exact .inl (zWV fun h=>h2 (qlt.1 h))
  by_cases h3:t<lo∨hi<t
  ·left
   refine ⟨e1, ?_,hout h3⟩
   rw [Bool.or_eq_true]
   exact h3.imp (fun h=>zW5 (qlt.2 h)) (fun h=>zW5 (qlt.2 h))
  ·right
   refine ⟨e1, ?_,rfl⟩
   rw [zWV (fun h=>h3 (.inl (qlt.1 h))),zWV (fun h=>h3 (.inr (qlt.1 h)))];rfl
theorem zRH {q:Rat} (h:0<=q):decide (q.num.sign<0)=false:=zWV fun g=>by have:=zFQ.1 g;grind
theorem zRW {a b:Rat} (h:a<=b):decide (qsg a b>0)=false:=zWV fun g=>by have:=qgt.1 g;grind
theorem zRY {a b:Rat} (h:a<b):decide (qsg a b≥0)=false:=zWV fun g=>by have:=qlt.2 h;omega
theorem zSd {a b:Rat} (h1:QB a 68) (h2:QB b 68):QB ((a+b) / 2) 140:=((h1.add h2).div (qbz (z:=2) dC)).mono dC
theorem zUo {R:List V2} {T:V6} {a b:V2} {S:V2×Bool} (hS:S=zAK (tl T) R a (yU b a)) (hT: ∀p,p∈tl T->QB p.1 2/\QB p.2 2) (hR: ∀p,p∈R->QB p.1 2/\QB p.2 2) (ha:QB a.1 2/\QB a.2 2) (hb:QB b.1 2/\QB b.2 2):QB (yB S).1 68/\QB (yB S).2 68:=by
 subst hS
 exact zMB (zPs (n:=2) (k:=2) (j:=5) hT hR ha (zRA hb ha dC) dC) dC
theorem zJM {A:List PX} {TS:List TX} {y z:PX} {r:QX} {W:Wt} {rr l u v x:Wu} (hr0:(SF.row 6 (pxs A)).p rr W) (hl0:(SF.row 18 (txs TS)).p l W) (hy:(PX.u y).p u W) (hz':(PX.u z).p v W) (ht:QXp r.n r.n' r.k r.d x W) (_:A.length<=1048576) (_: ∀p,p∈A->PX.b p<=1048576) (_:TS.length<=1048576) (_: ∀p,p∈TS->TX.b p<=1048576) (_:PX.b y<=1048576) (_:PX.b z<=1048576) (hrb:r.n+r.n'<=1048576) (hT:Tab W):Calls prog 3 #[rr,l,u,v,x] W (Ret W (fB true).tS):=by
 refine z5 [(UF.eq rr).tS,(UF.eq l).tS,(PX.u y).tS,(PX.u z).tS,(fQX r.n r.n' r.k r.d).tS] func3 rfl kJ ⟨rfl,rfl,hy,hz',ht,trivial⟩ fun a s=> ?_
 replace s:=s.renew [(0, .u (UF.eq rr)),(1, .u (UF.eq l)),(2, .u (PX.u y)),(3, .u (PX.u z)),(4, .u (fQX r.n r.n' r.k r.d))] (fmz ⟨.inr ⟨_,rfl, .head _⟩,fmz ⟨.inr ⟨_,rfl,mz1⟩,fmz ⟨.inr ⟨_,rfl,mz2⟩,fmz ⟨.inr ⟨_,rfl,mz3⟩,fmz ⟨.inr ⟨_,rfl,mz4⟩,fnz⟩⟩⟩⟩⟩)
 refine zWR ?_
 refine zB 0 [] hmix s kJ
  zD fun a w1 s=> ?_
 refine yN (PX.cu y) rfl s kJ (fun v W h=>qC h) fun b7 a w s=> ?_
 refine yN (PX.cu z) rfl s kJ (fun v W h=>qC h) fun b8 a w s=> ?_
 refine yN (QX.cu r) rfl s kJ (fun v W h=>zRU h) fun b9 a w s=> ?_
 refine yV (uB false) rfl s kJ iiz fun a w s=> ?_
 refine zA rfl ?_
 refine zWR ?_
 refine zWR ?_
 refine zB 22 ((20, .Z (UF.eq rr))::(21, .Z (UF.eq l))::(22, .Z (PX.u y))::(23, .Z (PX.u z))::(24, .s (SF.row 6 (pxs [y,z])))::(25, .Z (uB (g19 A TS [y,z])))::(26, .Z (uB (g19 A TS [y,z])))::(27, .s (SF.imp ((g19 A TS [y,z])=false) ((fQX r.n r.n' r.k r.d).tS)))::(28, .s (SF.imp ((g19 A TS [y,z])=false) (SF.row 3 ([r].map QX.cu))))::(29, .s (SF.imp ((g19 A TS [y,z])=false) ((uB (gq [r])).tS)))::(30, .Z (uB ((g19 A TS [y,z])||(gq [r]))))::(31, .Z (uB ((g19 A TS [y,z])||(gq [r]))))::(32, .s (SF.imp (((g19 A TS [y,z])||(gq [r]))=false) ((fQX r.n r.n' r.k r.d).tS)))::(33, .s (SF.imp (((g19 A TS [y,z])||(gq [r]))=false) ((uI (r.q.num.sign)).tS)))::(34, .s (SF.imp (((g19 A TS [y,z])||(gq [r]))=false) ((uB (decide (r.q.num.sign<0))).tS)))::(35, .Z (uB (((g19 A TS [y,z])||(gq [r]))||(decide (r.q.num.sign<0)))))::(36, .Z (uB (((g19 A TS [y,z])||(gq [r]))||(decide (r.q.num.sign<0)))))::(37, .s (SF.imp ((((g19 A TS [y,z])||(gq [r]))||(decide (r.q.num.sign<0)))=false) ((fQX r.n r.n' r.k r.d).tS)))::(38, .s (SF.imp ((((g19 A TS [y,z])||(gq [r]))||(decide (r.q.num.sign<0)))=false) ((fQN ((1:Int):Rat)).tS)))::(39, .s (SF.imp ((((g19 A TS [y,z])||(gq [r]))||(decide (r.q.num.sign<0)))=false) ((uI (qsg r.q ((1:Int):Rat))).tS)))::(40, .s (SF.imp ((((g19 A TS [y,z])||(gq [r]))||(decide (r.q.num.sign<0)))=false) ((uB (decide (qsg r.q ((1:Int):Rat)>0))).tS)))::(41, .u (uB ((((g19 A TS [y,z])||(gq [r]))||(decide (r.q.num.sign<0)))||(decide (qsg r.q ((1:Int):Rat)>0))))):: []) hmix s kJ
  (oc zC<|oc zC<|oc (zI (f:=PX.u y) 6 kJ (hz:=zX _ _))<|oc (zI (f:=PX.u z) 6 kJ (hz:=zX _ _))<|oc (yI (fun u v W (hu:(PX.u y).p u W) (hv:(PX.u z).p v W)=>zRE hu hv))<|oc (zAh zE zVf (fun u0 u1 u2 W hb (h0:u0=rr) (h1:u1=l) (h2:(SF.row 6 (pxs [y,z])).p u2 W)=>zMa (A:=A) (TS:=TS) (L:= [y,z]) (yK hr0 h0 (s.up hb)) (yK hl0 h1 (s.up hb)) h2))<|oc zC<|oc (zF 26 (g19 A TS [y,z]) kJ iiz (fun e=>yG [] ((fQX r.n r.n' r.k r.d).tS) fnz fS kJ (zI (f:=fQX r.n r.n' r.k r.d) 3 kJ (hz:=zIV _ _ _ _))) fQ)<|oc (zF 26 (g19 A TS [y,z]) kJ iiz (fun e=>yG [(27,(fQX r.n r.n' r.k r.d).tS)] (SF.row 3 ([r].map QX.cu)) (fmz ⟨fun v W h=>zT (c:=(g19 A TS [y,z])=false) (f:=(fQX r.n r.n' r.k r.d).tS) e h,fnz⟩) fS kJ (zAe (fun u W (hu:(fQX r.n r.n' r.k r.d).p u W)=>zRD hu))) fQ)<|oc (zF 26 (g19 A TS [y,z]) kJ iiz (fun e=>yG [(28,SF.row 3 ([r].map QX.cu))] ((uB (gq [r])).tS) (fmz ⟨fun v W h=>zT (c:=(g19 A TS [y,z])=false) (f:=SF.row 3 ([r].map QX.cu)) e h,fnz⟩) fS kJ (zH zE zVe (fun u0 W hb (h0:(SF.row 3 ([r].map QX.cu)).p u0 W)=>zK4 (L:= [r]) h0 (fun x hx=>by rw [zW1.1 hx];omega)))) fQ)<|oc (yM (g19 A TS [y,z]) iiz (fun e v W h=>zBc h e) (fun e v W h=>zAs (zT e h) e))<|oc zC<|oc (zF 31 ((g19 A TS [y,z])||(gq [r])) kJ iiz (fun e=>yG [] ((fQX r.n r.n' r.k r.d).tS) fnz fS kJ (zI (f:=fQX r.n r.n' r.k r.d) 3 kJ (hz:=zIV _ _ _ _))) fQ)<|oc (zF 31 ((g19 A TS [y,z])||(gq [r])) kJ iiz (fun e=>yG [(32,(fQX r.n r.n' r.k r.d).tS)] ((uI (r.q.num.sign)).tS) (fmz ⟨fun v W h=>zT (c:=((g19 A TS [y,z])||(gq [r]))=false) (f:=(fQX r.n r.n' r.k r.d).tS) e h,fnz⟩) fS kJ (zH zE zTQ (fun u0 W hb (h0:(fQX r.n r.n' r.k r.d).p u0 W)=>zFX (m:=40) (zRg h0 (zDv (L:= [r]) (by simp only [zW2] at e;exact e.2) r (zW1.2 rfl)).1 (zDv (L:= [r]) (by simp only [zW2] at e;exact e.2) r (zW1.2 rfl)).2) dC))) fQ)<|oc (zF 31 ((g19 A TS [y,z])||(gq [r])) kJ iiz (fun e=>yG [(33,(uI (r.q.num.sign)).tS)] ((uB (decide (r.q.num.sign<0))).tS) (fmz ⟨fun v W h=>zT (c:=((g19 A TS [y,z])||(gq [r]))=false) (f:=(uI (r.q.num.sign)).tS) e h,fnz⟩) fS kJ (zR .i64 (r.q.num.sign) 0 (decide (r.q.num.sign<0)) iiz iiz rfl rfl)) fQ)<|oc (yM ((g19 A TS [y,z])||(gq [r])) iiz (fun e v W h=>zBc h e) (fun e v W h=>zAs (zT e h) e))<|oc zC<|oc (zF 36 (((g19 A TS [y,z])||(gq [r]))||(decide (r.q.num.sign<0))) kJ iiz (fun e=>yG [] ((fQX r.n r.n' r.k r.d).tS) fnz fS kJ (zI (f:=fQX r.n r.n' r.k r.d) 3 kJ (hz:=zIV _ _ _ _))) fQ)<|oc (zF 36 (((g19 A TS [y,z])||(gq [r]))||(decide (r.q.num.sign<0))) kJ iiz (fun e=>yG [] ((fQN ((1:Int):Rat)).tS) fnz fS kJ (zH zE zEa (fun u0 W hb (h0:u0= .int .i64 1)=>zB8 1 h0 dC))) fQ)<|oc (zF 36 (((g19 A TS [y,z])||(gq [r]))||(decide (r.q.num.sign<0))) kJ iiz (fun e=>yG [(37,(fQX r.n r.n' r.k r.d).tS),(38,(fQN ((1:Int):Rat)).tS)] ((uI (qsg r.q ((1:Int):Rat))).tS) (fmz ⟨fun v W h=>zT (c:=(((g19 A TS [y,z])||(gq [r]))||(decide (r.q.num.sign<0)))=false) (f:=(fQX r.n r.n' r.k r.d).tS) e h,fmz ⟨fun v W h=>zT (c:=(((g19 A TS [y,z])||(gq [r]))||(decide (r.q.num.sign<0)))=false) (f:=(fQN ((1:Int):Rat)).tS) e h,fnz⟩⟩) fS kJ (zJ zE zPn (fun u0 u1 W hb (h0:(fQX r.n r.n' r.k r.d).p u0 W) (h1:QNp ((1:Int):Rat) u1 W)=>zCk (m:=40) (zRg h0 (zDv (L:= [r]) (by simp only [zW2] at e;exact e.1.2) r (zW1.2 rfl)).1 (zDv (L:= [r]) (by simp only [zW2] at e;exact e.1.2) r (zW1.2 rfl)).2) (wD h1 ((qbz (z:=1) dC).mono dC)) dC dC))) fQ)<|oc (zF 36 (((g19 A TS [y,z])||(gq [r]))||(decide (r.q.num.sign<0))) kJ iiz (fun e=>yG [(39,(uI (qsg r.q ((1:Int):Rat))).tS)] ((uB (decide (qsg r.q ((1:Int):Rat)>0))).tS) (fmz ⟨fun v W h=>zT (c:=(((g19 A TS [y,z])||(gq [r]))||(decide (r.q.num.sign<0)))=false) (f:=(uI (qsg r.q ((1:Int):Rat))).tS) e h,fnz⟩) fS kJ (zR .i64 (qsg r.q ((1:Int):Rat)) 0 (decide (qsg r.q ((1:Int):Rat)>0)) iiz iiz rfl rfl)) fQ)<|oc (yM (((g19 A TS [y,z])||(gq [r]))||(decide (r.q.num.sign<0))) iiz (fun e v W h=>zBc h e) (fun e v W h=>zAs (zT e h) e))<|zD) fun a w2 s=> ?_
 refine zA rfl ?_
 refine StS.cond s ((((g19 A TS [y,z])||(gq [r]))||(decide (r.q.num.sign<0)))||(decide (qsg r.q ((1:Int):Rat)>0))) iiz (fun e=> ?_) (fun e=> ?_)
 ·refine zWR ?_
  replace s:=s.drop [10]
  refine zB 2 ((42, .Z (uB true))::(10, .u (uB true)):: []) hmix s kJ
   (oc (zF7 zE zSN (fun W hb=>zKj (hT.below (s.up hb))))<|oc zG<|zD) fun a w3 s=> ?_
  refine zA rfl ?_
  refine zWT ?_
  exact wH s (t:=10) rfl iiz
 ·simp only [zW2] at e
  obtain ⟨⟨⟨eG,eQ⟩,eS⟩,eC⟩:=e
  obtain ⟨eA,eT,eP⟩:=zTA eG
  have hA:=zQr eA rr W hr0
  have hTf:=zTz eT
  have hTS:=zPI (L:=TS) hTf.2 l W hl0
  have hy9:=(zMb eP).2 y (by simp)
  have hz9:=(zMb eP).2 z (by simp)
  have hyq:=zA7 dC (zHZ hy9 hy)
  have hzq:=zA7 dC (zHZ hz9 hz')
  have hr40:=zDv eQ r (by simp)
  have hqr:QB r.q 40:=QXp.qb ht hr40
  have h0t:0<=r.q/\r.q<=1:=⟨zPT eS,zQq eC⟩
  have hnA:(pps A).length<=1000000:=by have:=(zMb eA).1;simp;omega
  have hTl:(tts TS).length=TS.length:=by simp
  have hnT:(tts TS).length<=1000000:=by have:=hTf.1;simp;omega
  have hqM:=zRI (M:=47) hyq hzq hqr dC
  obtain ⟨mm,hmm⟩: ∃m,m=seg y.p z.p r.q:=⟨_,rfl⟩
  obtain ⟨is,his⟩: ∃b,b=zD9 (pps A) (tts TS) y.p z.p:=⟨_,rfl⟩
  obtain ⟨fm,hfm⟩: ∃b,b=zBn (pps A) (tts TS) mm:=⟨_,rfl⟩
  have hqA:=zCP (m:=2) dC hA
  have hfr:is=true->fm=true:=fun h=>by rw [hfm,hmm];rw [his] at h;exact zN9 h0t h
  refine zWS ?_
  refine zWR ?_
  refine zB 8 ((43, .Z (UF.eq rr))::(44, .Z (UF.eq l))::(45, .Z (fPV 2 (y.p)))::(46, .Z (fPV 2 (z.p)))::(47, .Z (fRV 40 (r.q)))::(48, .Z (fPV 47 mm))::(49, .Z (uB fm))::(11, .u (uB fm)):: []) hmix s kJ
   (oc zC<|oc zC<|oc (qL (C:=(PX.cu y).cf) 6 kJ (fun _ _ h=>h.2) (zBH hy9))<|oc (qL (C:=(PX.cu z).cf) 6 kJ (fun _ _ h=>h.2) (zBH hz9))<|oc (qL (C:=(QX.cu r).cf) 3 kJ (fun _ _ h=>h.2) (zFs hr40))<|oc (zAh zE zQ8 (fun u0 u1 u2 W hb (h0:(fPV 2 (y.p)).p u0 W) (h1:(fPV 2 (z.p)).p u1 W) (h2:RVp 40 (r.q) u2 W)=>(zKZ (m:=2) (k:=40) 53 (p:=y.p) (q:=z.p) (t:=r.q) h0 h1 h2 hyq hzq hqr dC dC dC).mono (wI (fun v W h=>by rw [hmm];exact zCa (m:=47) hqM.1 hqM.2 h))))<|oc (zAh zE zQ9 (fun u0 u1 u2 W hb (h0:u0=rr) (h1:u1=l) (h2:(fPV 47 mm).p u2 W)=>(zEP (m:=2) (k:=47) (M:=50) (K:=47) (rs:=pps A) (ts:=tts TS) (p:=mm) (yK hA h0 (s.up hb)) (yK hTS h1 (s.up hb)) h2 dC dC dC dC dC dC dC hnA hnT).mono (wI (fun v W h=>by rw [hfm];exact h))))<|oc zG<|zD) fun a w4 s=> ?_
  refine zA rfl ?_
  refine zWR ?_
  refine zWR ?_
  refine zB 9 ((50, .Z (UF.eq rr))::(51, .Z (UF.eq l))::(52, .Z (fPV 2 (y.p)))::(53, .Z (fPV 2 (z.p)))::(54, .Z (uB is))::(55, .Z (uB is))::(56, .s (SF.imp ((is)=true) ((uB fm).tS)))::(57, .s (SF.imp ((is)=true) ((uB (!fm)).tS)))::(58, .u (uB (is&&(!fm)))):: []) hmix s kJ
   (oc zC<|oc zC<|oc (qL (C:=(PX.cu y).cf) 6 kJ (fun _ _ h=>h.2) (zBH hy9))<|oc (qL (C:=(PX.cu z).cf) 6 kJ (fun _ _ h=>h.2) (zBH hz9))<|oc (zBK zE zMm (fun u0 u1 u2 u3 W hb (h0:u0=rr) (h1:u1=l) (h2:(fPV 2 (y.p)).p u2 W) (h3:(fPV 2 (z.p)).p u3 W)=>(zHt (R:=pps A) (Ts:=tts TS) (p:=y.p) (e_:=z.p) (zBI (m:=2) dC _ _ (yK hA h0 (s.up hb))) (zEc (m:=2) dC _ _ (yK hTS h1 (s.up hb))) (jB (m:=2) (m':=47) dC h2) (jB (m:=2) (m':=47) dC h3) hnA hnT (hT.below (s.up hb))).mono (wI (fun v W h=>by rw [<-his] at h;exact h))))<|oc zC<|oc (zF 55 is kJ iiz (fun e=>yG [] ((uB fm).tS) fnz fS kJ zC) fQ)<|oc (zF 55 is kJ iiz (fun e=>yG [(56,(uB fm).tS)] ((uB (!fm)).tS) (fmz ⟨fun v W h=>zT (c:=(is)=true) (f:=(uB fm).tS) e h,fnz⟩) fS kJ (zAy fm iiz (fun _=>rfl))) fQ)<|oc (yM is iiz (fun e v W h=>zBJ (zT e h) e) (fun e v W h=>zBi h e))<|zD) fun a w5 s=> ?_
  refine zA rfl ?_
  refine StS.cond s (is&&(!fm)) iiz (fun e=>absurd e (by intro e;rw [Bool.and_eq_true] at e;rw [hfr e.1] at e;exact absurd e.2 dC)) (fun e=> ?_)
  refine zWS ?_
  refine zWR ?_
  refine zWR ?_
  refine zB 1 ((12, .u (uI 0)):: []) hmix s kJ
   (oc zG<|zD) fun a w6 s=> ?_
  refine zA rfl ?_
  refine zWU ?_
  replace s:StS _ _ _ [⟨9,29,QX.cu r,b9,true⟩,⟨8,31,PX.cu z,b8,true⟩,⟨7,31,PX.cu y,b7,true⟩] _ _ _ _:=s.freeze
  refine zDH (fun (p:Nat×Wu) w=>p.1<=(tts TS).length/\W.heap.size<=w.heap.size) (fun p=> [(0, .u (UF.eq rr)),(1, .u (UF.eq l)),(12, .u (uI (p.1:Int)))]) (fun p=>(tts TS).length - p.1) (0, .slice none 0 0) (⟨zWZ _,s.gr.size⟩) (s.keepK _ (fmz ⟨mz5,fmz ⟨mz6,fmz ⟨.head _,fnz⟩⟩⟩)) fun p a w hI s=> ?_
  have s0:=s
  have hAw:=(SF.row 6 _).st _ _ _ hA s0.below
  have hTw:=(SF.row 18 _).st _ _ _ hTS s0.below
  have hT0:=hT
  have hT:=hT0.below s0.below
  replace s:=s.reb rfl [(0, .u (UF.eq rr)),(1, .u (UF.eq l)),(12, .u (uI (p.1:Int)))] (fmz ⟨.inl (.head _),fmz ⟨.inl mz1,fmz ⟨.inl mz2,fnz⟩⟩⟩)
  refine zWR ?_
  refine zWR ?_
  refine zB 4 ((59, .Z (uI (p.1:Int)))::(60, .Z (UF.eq l))::(61, .Z (uI ((trs 2 (tts TS)).length:Int)))::(62, .u (uB (decide ((p.1:Int)<((trs 2 (tts TS)).length:Int))))):: []) hmix s kJ
   (oc zC<|oc zC<|oc (jC (z:=18) (Cs:=trs 2 (tts TS)) kJ (fun v W hb h=>(yK hTw h (s.up hb))) (fun _=>rfl))<|oc (zR .i64 (p.1:Int) ((trs 2 (tts TS)).length:Int) (decide ((p.1:Int)<((trs 2 (tts TS)).length:Int))) iiz iiz rfl rfl)<|zD) fun a w7 s=> ?_
  refine zA rfl ?_
  refine StS.cond s (decide ((p.1:Int)<((trs 2 (tts TS)).length:Int))) iiz (fun e=> ?_) (fun e=> ?_)
  ·have hk:p.1<(tts TS).length:=by have:=zW0 e;simp at this;omega
   have hq6:=zRs (m:=2) dC hTw hk
   obtain ⟨sb,hsb⟩: ∃s,s=zAK (tl (at3 (tts TS) p.1)) (pps A) y.p (yU z.p y.p):=⟨_,rfl⟩
   obtain ⟨fk,hfk⟩: ∃b,b=zBn (pps A) [(at3 (tts TS) p.1)] mm:=⟨_,rfl⟩
   obtain ⟨lk,hlk⟩: ∃b,b=zD9 (pps A) [(at3 (tts TS) p.1)] y.p z.p:=⟨_,rfl⟩
   have hqb:=zUo hsb hq6 hqA hyq hzq
   have hob:=zNU hsb h0t
   rw [<-hmm, <-hfk, <-hlk] at hob
   have hqmid:=zSd hqb.1 hqb.2
   have hqMid:=zRI (M:=146) hyq hzq hqmid dC
   refine zWS ?_
   refine zWR ?_
   refine zWU ?_
   refine zWR ?_
   refine jG 5 ((65, .Z (UF.eq l))::(66, .Z (uI (p.1:Int)))::(67, .Y (fTR 2 (at3 (tts TS) p.1)))::(68, .Z (fTR 2 (at3 (tts TS) p.1)))::(69, .s (SF.row 18 (trs 2 [(at3 (tts TS) p.1)]))):: []) hmix s kJ
    (oc zC<|oc zC<|oc (yP (z:=18) (Cs:=trs 2 (tts TS)) (i:=p.1) (C:=CU.agg (fTR 2 (at3 (tts TS) p.1))) kJ (zCe hk) (fun v W hb h=>(yK hTw h (s.up hb))) iiz)<|oc (zI (f:=fTR 2 (at3 (tts TS) p.1)) 18 kJ (hz:=zC7 _ _))<|oc (zAe (fun u W (hu:(fTR 2 (at3 (tts TS) p.1)).p u W)=>zKA hu))<|zD) fun a w8 s hr=> ?_
   obtain ⟨v69,e69⟩: ∃v,a.tmps.getD 69 undef=v:=⟨_,rfl⟩
   have hv69:(SF.row 18 (trs 2 [(at3 (tts TS) p.1)])).p v69 w8:=e69▸(hr (_,_) mz4)
   replace s:=s.learn 69 v69 e69
   have hb9:=s.below
   have hA1:=(SF.row 6 _).st _ _ _ hAw hb9
   have hT1:=(SF.row 18 _).st _ _ _ hTw hb9
   have hTx:=hT
   have hT:=hTx.below hb9
   replace s:=s0.back (s.keepK [(69, .u (UF.eq v69)),(62, .u (uB (decide ((p.1:Int)<((trs 2 (tts TS)).length:Int))))),(0, .u (UF.eq rr)),(1, .u (UF.eq l)),(12, .u (uI (p.1:Int)))] (fmz ⟨.head _,fmz ⟨mz1,fmz ⟨mz2,fmz ⟨mz3,fmz ⟨mz4,fnz⟩⟩⟩⟩⟩)) rfl
   have s1:=s
   replace s:StS _ _ _ [⟨9,29,QX.cu r,b9,true⟩,⟨8,31,PX.cu z,b8,true⟩,⟨7,31,PX.cu y,b7,true⟩] _ _ _ _:=s.freeze
   replace s:=s.reb rfl [(69, .u (UF.eq v69)),(62, .u (uB (decide ((p.1:Int)<((trs 2 (tts TS)).length:Int))))),(0, .u (UF.eq rr)),(1, .u (UF.eq l)),(12, .u (uI (p.1:Int)))] (fmz ⟨.inl (.head _),fmz ⟨.inl mz1,fmz ⟨.inl mz2,fmz ⟨.inl mz3,fmz ⟨.inl mz4,fnz⟩⟩⟩⟩⟩)
   refine yV (UF.eq v69) rfl s kJ iiz fun a w s=> ?_
   refine zA rfl ?_
   refine zWR ?_
   have so:=s.old;have sg:=s.gr
   refine jT (fun i=> [10,11].contains i) [⟨12,14,29, [.bool false, .slice none 0 0, .slice none 0 0],wF w 29 (CU.len 3)⟩,⟨13,15,29, [.bool false, .slice none 0 0, .slice none 0 0],wF w 29 (CU.len 3)⟩] 14 ((71, .Z (UF.eq rr))::(72, .Z (UF.eq l))::(73, .Z (uI (p.1:Int)))::(74, .Y (fTR 2 (at3 (tts TS) p.1)))::(75, .Z (fTR 2 (at3 (tts TS) p.1)))::(76, .Z (fPV 2 (y.p)))::(77, .Z (fPV 2 (z.p)))::(78, .Z (zC2 (fQN ((yB sb).1)) (fQN ((yB sb).2)) (uB (sb.2))))::(70, .Z (zC2 (fQN ((yB sb).1)) (fQN ((yB sb).2)) (uB (sb.2))))::(79, .u (fQN ((yB sb).1)))::(80, .u (fQN ((yB sb).2)))::(81, .u (uB (sb.2)))::(14, .s (wF w 29 (CU.len 3)))::(15, .s (wF w 29 (CU.len 3))):: []) hmix s (fmz ⟨⟨by show 12<14;decide,zKd,⟨_,_,_,rfl⟩,by kernel_rfl,qT (fun _=>rfl) rfl⟩,fmz ⟨⟨by show 13<14;decide,zMT,⟨_,_,_,rfl⟩,by kernel_rfl,qT (fun _=>rfl) rfl⟩,fnz⟩⟩) kJ
    (oc zC<|oc zC<|oc zC<|oc (yP (z:=18) (Cs:=trs 2 (tts TS)) (i:=p.1) (C:=CU.agg (fTR 2 (at3 (tts TS) p.1))) kJ (zCe hk) (fun v W hb h=>(yK hT1 h (s.up hb))) iiz)<|oc (zI (f:=fTR 2 (at3 (tts TS) p.1)) 18 kJ (hz:=zC7 _ _))<|oc (qL (C:=(PX.cu y).cf) 6 kJ (fun _ _ h=>h.2) (zBH hy9))<|oc (qL (C:=(PX.cu z).cf) 6 kJ (fun _ _ h=>h.2) (zBH hz9))<|oc (zBK zE zQ7 (fun u0 u1 u2 u3 W hb (h0:u0=rr) (h1:(fTR 2 (at3 (tts TS) p.1)).p u1 W) (h2:(fPV 2 (y.p)).p u2 W) (h3:(fPV 2 (z.p)).p u3 W)=>(zFa (R:=pps A) (T:=(at3 (tts TS) p.1)) (p:=y.p) (e_:=z.p) (zBI (m:=2) dC _ _ (yK hA1 h0 (s.up hb))) (zKu (m:=2) dC h1) (jB (m:=2) (m':=47) dC h2) (jB (m:=2) (m':=47) dC h3) hnA (hT.below (s.up hb))).mono (wI (fun v W h=>by rw [<-hsb] at h;exact h))))<|oc zC<|oc (zDm (A:=(fQN ((yB sb).1)).tS) (B:=(fQN ((yB sb).2)).tS) (C:=(uB (sb.2)).tS) iiz)<|oc (zDl (A:=(fQN ((yB sb).1)).tS) (B:=(fQN ((yB sb).2)).tS) (C:=(uB (sb.2)).tS) iiz)<|oc (zDk (A:=(fQN ((yB sb).1)).tS) (B:=(fQN ((yB sb).2)).tS) (C:=(uB (sb.2)).tS) iiz)<|oc (zAi (cs:=zR3) kJ (qT (fun _=>rfl) rfl))<|oc (zAi (cs:=zR3) kJ (qT (fun _=>rfl) rfl))<|zD) fun Q' hQ a w9 s hr hd=> ?_
   obtain ⟨b14,hB14,e14,s⟩:=s.adoptA false 14 (hr (_,_) zKd) sg (fun y hy=> .inl (so y hy))
   obtain ⟨b15,hB15,e15,s⟩:=s.adoptA false 15 (hr (_,_) zMT) sg (fun y hy=>by rcases zWY.1 hy with rfl|hy;exact .inr (.inr fun b hb=>hd _ _ (.head _) mz1 (by show 12≠13;decide) _ _ e14 hb);exact .inl (so y hy))
   refine zN (CU.agg (fQN ((yB sb).1))) ((fQN ((yB sb).1)).tS) rfl s kJ rfl rfl rfl iiz iiz zV fun a w s=> ?_
   refine zN (CU.agg (fQN ((yB sb).2))) ((fQN ((yB sb).2)).tS) rfl s kJ rfl rfl rfl iiz iiz zV fun a w s=> ?_
   refine yV (uB (sb.2)) rfl s kJ iiz fun a w s=> ?_
   refine zA rfl (hQ _ _ ?_)
   refine zWR ?_
   refine zB 8 ((82, .Z (UF.eq rr))::(83, .Z (UF.eq v69))::(84, .Z (fPV 2 (y.p)))::(85, .Z (fPV 2 (z.p)))::(86, .Z (fRV 40 (r.q)))::(87, .Z (fPV 47 mm))::(88, .Z (uB fk))::(17, .u (uB fk)):: []) hmix s kJ
    (oc zC<|oc zC<|oc (qL (C:=(PX.cu y).cf) 6 kJ (fun _ _ h=>h.2) (zBH hy9))<|oc (qL (C:=(PX.cu z).cf) 6 kJ (fun _ _ h=>h.2) (zBH hz9))<|oc (qL (C:=(QX.cu r).cf) 3 kJ (fun _ _ h=>h.2) (zFs hr40))<|oc (zAh zE zQ8 (fun u0 u1 u2 W hb (h0:(fPV 2 (y.p)).p u0 W) (h1:(fPV 2 (z.p)).p u1 W) (h2:RVp 40 (r.q) u2 W)=>(zKZ (m:=2) (k:=40) 53 (p:=y.p) (q:=z.p) (t:=r.q) h0 h1 h2 hyq hzq hqr dC dC dC).mono (wI (fun v W h=>by rw [hmm];exact zCa (m:=47) hqM.1 hqM.2 h))))<|oc (zAh zE zQ9 (fun u0 u1 u2 W hb (h0:u0=rr) (h1:u1=v69) (h2:(fPV 47 mm).p u2 W)=>(zEP (m:=2) (k:=47) (M:=50) (K:=47) (rs:=pps A) (ts:= [(at3 (tts TS) p.1)]) (p:=mm) (yK hA1 h0 (s.up hb)) (yK hv69 h1 (s.up hb)) h2 dC dC dC dC dC dC dC hnA (by simp)).mono (wI (fun v W h=>by rw [hfk];exact h))))<|oc zG<|zD) fun a w10 s=> ?_
   refine zA rfl ?_
   refine zWR ?_
   refine zWR ?_
   refine zB 2 ((89, .Z (uB (sb.2)))::(90, .u (uB (!(sb.2)))):: []) hmix s kJ
    (oc zC<|oc (zAy (sb.2) iiz (fun _=>rfl))<|zD) fun a w11 s=> ?_
   refine zA rfl ?_
   refine StS.cond s (!(sb.2)) iiz (fun e=> ?_) (fun e=> ?_)
   ·have hsf:sb.2=false:=by simpa using e
    obtain ⟨hfk1,hlk1⟩:=hob.1 hsf
    refine zWR ?_
    refine zWR ?_
    refine zB 10 ((91, .Z (uB fk))::(92, .Z (uB (!fk)))::(93, .Z (uB (!fk)))::(94, .s (SF.imp ((!fk)=false) ((UF.eq rr).tS)))::(95, .s (SF.imp ((!fk)=false) ((UF.eq v69).tS)))::(96, .s (SF.imp ((!fk)=false) ((fPV 2 (y.p)).tS)))::(97, .s (SF.imp ((!fk)=false) ((fPV 2 (z.p)).tS)))::(98, .s (SF.imp ((!fk)=false) ((uB lk).tS)))::(99, .s (SF.imp ((!fk)=false) ((uB (!lk)).tS)))::(100, .u (uB ((!fk)||(!lk)))):: []) hmix s kJ
     (oc zC<|oc (zAy fk iiz (fun _=>rfl))<|oc zC<|oc (zF 93 (!fk) kJ iiz (fun e=>yG [] ((UF.eq rr).tS) fnz fS kJ zC) fQ)<|oc (zF 93 (!fk) kJ iiz (fun e=>yG [] ((UF.eq v69).tS) fnz fS kJ zC) fQ)<|oc (zF 93 (!fk) kJ iiz (fun e=>yG [] ((fPV 2 (y.p)).tS) fnz fS kJ (qL (C:=(PX.cu y).cf) 6 kJ (fun _ _ h=>h.2) (zBH hy9))) fQ)<|oc (zF 93 (!fk) kJ iiz (fun e=>yG [] ((fPV 2 (z.p)).tS) fnz fS kJ (qL (C:=(PX.cu z).cf) 6 kJ (fun _ _ h=>h.2) (zBH hz9))) fQ)<|oc (zF 93 (!fk) kJ iiz (fun e=>yG [(94,(UF.eq rr).tS),(95,(UF.eq v69).tS),(96,(fPV 2 (y.p)).tS),(97,(fPV 2 (z.p)).tS)] ((uB lk).tS) (fmz ⟨fun v W h=>zT (c:=(!fk)=false) (f:=(UF.eq rr).tS) e h,fmz ⟨fun v W h=>zT (c:=(!fk)=false) (f:=(UF.eq v69).tS) e h,fmz ⟨fun v W h=>zT (c:=(!fk)=false) (f:=(fPV 2 (y.p)).tS) e h,fmz ⟨fun v W h=>zT (c:=(!fk)=false) (f:=(fPV 2 (z.p)).tS) e h,fnz⟩⟩⟩⟩) fS kJ (zBK zE zMm (fun u0 u1 u2 u3 W hb (h0:u0=rr) (h1:u1=v69) (h2:(fPV 2 (y.p)).p u2 W) (h3:(fPV 2 (z.p)).p u3 W)=>(zHt (R:=pps A) (Ts:= [(at3 (tts TS) p.1)]) (p:=y.p) (e_:=z.p) (zBI (m:=2) dC _ _ (yK hA1 h0 (s.up hb))) (zEc (m:=2) dC _ _ (yK hv69 h1 (s.up hb))) (jB (m:=2) (m':=47) dC h2) (jB (m:=2) (m':=47) dC h3) hnA (by simp) (hT.below (s.up hb))).mono (wI (fun v W h=>by rw [<-hlk] at h;exact h))))) fQ)<|oc (zF 93 (!fk) kJ iiz (fun e=>yG [(98,(uB lk).tS)] ((uB (!lk)).tS) (fmz ⟨fun v W h=>zT (c:=(!fk)=false) (f:=(uB lk).tS) e h,fnz⟩) fS kJ (zAy lk iiz (fun _=>rfl))) fQ)<|oc (yM (!fk) iiz (fun e v W h=>zBc h e) (fun e v W h=>zAs (zT e h) e))<|zD) fun a w12 s=> ?_
    refine zA rfl ?_
    refine StS.cond s ((!fk)||(!lk)) iiz (fun e=>absurd e (by rw [hfk1,hlk1];decide)) (fun e=> ?_)
    refine zWS ?_
    refine zWX ?_
    refine zZ 2 ((63, .Z (uI (p.1:Int)))::(64, .u (uI ((p.1+1:Nat):Int))):: []) s kJ
     (oc zC<|oc (yR .i64 (p.1:Int) 1 ((p.1+1:Nat):Int) iiz iiz (wrap64 _ _ oQ oQ))<|zD) fun a w13 s=> ?_
    replace s:=s.drop [12]
    refine yV (uI ((p.1+1:Nat):Int)) rfl s kJ iiz fun a w s=> ?_
    refine zA rfl ?_
    replace s:=s.popB
    replace s:=s.popB
    have hbw:=s.below
    replace s:=s1.back (s.keepK [(12, .u (uI ((p.1+1:Nat):Int))),(64, .u (uI ((p.1+1:Nat):Int))),(100, .u (uB ((!fk)||(!lk)))),(90, .u (uB (!(sb.2)))),(17, .u (uB fk)),(16, .u (uB (sb.2))),(79, .u (fQN ((yB sb).1))),(80, .u (fQN ((yB sb).2))),(81, .u (uB (sb.2))),(13, .u (UF.eq v69)),(69, .u (UF.eq v69)),(62, .u (uB (decide ((p.1:Int)<((trs 2 (tts TS)).length:Int))))),(0, .u (UF.eq rr)),(1, .u (UF.eq l))] (fmz ⟨.head _,fmz ⟨mz1,fmz ⟨mz2,fmz ⟨mz3,fmz ⟨mz4,fmz ⟨mz5,fmz ⟨mz6,fmz ⟨mz7,fmz ⟨mz8,fmz ⟨mz9,fmz ⟨zD8,fmz ⟨zH8,fmz ⟨zKd,fmz ⟨zMT,fnz⟩⟩⟩⟩⟩⟩⟩⟩⟩⟩⟩⟩⟩⟩)) rfl
    exact ⟨(p.1+1,p.2),(by show (tts TS).length - (p.1+1)<(tts TS).length - p.1;omega),⟨hk,s.gr.size⟩,s.keepK _ (fmz ⟨zKd,fmz ⟨zMT,fmz ⟨.head _,fnz⟩⟩⟩)⟩
   ·have hst9:sb.2=true:=by simpa using e
    obtain ⟨hlk1,hlo,hhi,hlt9,hmid,hin,hout⟩:=hob.2 hst9
    refine zWS ?_
    refine zWR ?_
    refine zWR ?_
    refine zB 33 ((101, .Z (UF.eq rr))::(102, .Z (UF.eq v69))::(103, .Z (fPV 2 (y.p)))::(104, .Z (fPV 2 (z.p)))::(105, .Z (uB false))::(106, .Z (uB false))::(107, .Z (fQN ((yB sb).1)))::(108, .Z (uI (((yB sb).1).num.sign)))::(109, .Z (uB false))::(110, .Z (uB false))::(111, .Z (uB false))::(112, .Z (fQN ((yB sb).2)))::(113, .Z (fQN ((1:Int):Rat)))::(114, .Z (uI (qsg ((yB sb).2) ((1:Int):Rat))))::(115, .Z (uB false))::(116, .Z (uB false))::(117, .Z (uB false))::(118, .Z (fQN ((yB sb).1)))::(119, .Z (fQN ((yB sb).2)))::(120, .Z (uI (qsg ((yB sb).1) ((yB sb).2))))::(121, .Z (uB false))::(122, .Z (uB false))::(123, .Z (uB false))::(124, .Z (UF.eq rr))::(125, .Z (UF.eq v69))::(126, .Z (fPV 2 (y.p)))::(127, .Z (fPV 2 (z.p)))::(128, .Z (fQN ((yB sb).1)))::(129, .Z (fQN ((yB sb).2)))::(130, .Z (fQN (((yB sb).1+(yB sb).2) / 2)))::(131, .Z (fPV 146 (seg y.p z.p (((yB sb).1+(yB sb).2) / 2))))::(132, .Z (uB false))::(133, .u (uB false)):: []) hmix s kJ
     (oc zC<|oc zC<|oc (qL (C:=(PX.cu y).cf) 6 kJ (fun _ _ h=>h.2) (zBH hy9))<|oc (qL (C:=(PX.cu z).cf) 6 kJ (fun _ _ h=>h.2) (zBH hz9))<|oc (zBK zE zMm (fun u0 u1 u2 u3 W hb (h0:u0=rr) (h1:u1=v69) (h2:(fPV 2 (y.p)).p u2 W) (h3:(fPV 2 (z.p)).p u3 W)=>(zHt (R:=pps A) (Ts:= [(at3 (tts TS) p.1)]) (p:=y.p) (e_:=z.p) (zBI (m:=2) dC _ _ (yK hA1 h0 (s.up hb))) (zEc (m:=2) dC _ _ (yK hv69 h1 (s.up hb))) (jB (m:=2) (m':=47) dC h2) (jB (m:=2) (m':=47) dC h3) hnA (by simp) (hT.below (s.up hb))).mono (wI (fun v W h=>by rw [<-hlk,hlk1] at h;exact h))))<|oc zC<|oc (zF 106 false kJ iiz (fun _=>zI (f:=fQN ((yB sb).1)) 3 kJ (hz:=yO _)) arf)<|oc (zF 106 false kJ iiz (fun _=>zH zE zTQ (fun u0 W hb (h0:QNp ((yB sb).1) u0 W)=>zFX (m:=68) (wD h0 hqb.1) dC)) arf)<|oc (zF 106 false kJ iiz (fun _=>zR .i64 (((yB sb).1).num.sign) 0 false iiz iiz (zRH hlo) rfl) arf)<|oc (yM false iiz (fun e=>by cases e) fR)<|oc zC<|oc (zF 111 false kJ iiz (fun _=>zI (f:=fQN ((yB sb).2)) 3 kJ (hz:=yO _)) arf)<|oc (zF 111 false kJ iiz (fun _=>zH zE zEa (fun u0 W hb (h0:u0= .int .i64 1)=>zB8 1 h0 dC)) arf)<|oc (zF 111 false kJ iiz (fun _=>zJ zE zPn (fun u0 u1 W hb (h0:QNp ((yB sb).2) u0 W) (h1:QNp ((1:Int):Rat) u1 W)=>zCk (m:=68) (p:=(yB sb).2) (q:=((1:Int):Rat)) (wD h0 hqb.2) (wD h1 ((qbz (z:=1) dC).mono dC)) dC dC)) arf)<|oc (zF 111 false kJ iiz (fun _=>zR .i64 (qsg ((yB sb).2) ((1:Int):Rat)) 0 false iiz iiz (zRW hhi) rfl) arf)<|oc (yM false iiz (fun e=>by cases e) fR)<|oc zC<|oc (zF 117 false kJ iiz (fun _=>zI (f:=fQN ((yB sb).1)) 3 kJ (hz:=yO _)) arf)<|oc (zF 117 false kJ iiz (fun _=>zI (f:=fQN ((yB sb).2)) 3 kJ (hz:=yO _)) arf)<|oc (zF 117 false kJ iiz (fun _=>zJ zE zPn (fun u0 u1 W hb (h0:QNp ((yB sb).1) u0 W) (h1:QNp ((yB sb).2) u1 W)=>zCk (m:=68) (p:=(yB sb).1) (q:=(yB sb).2) (wD h0 hqb.1) (wD h1 hqb.2) dC dC)) arf)<|oc (zF 117 false kJ iiz (fun _=>zR .i64 (qsg ((yB sb).1) ((yB sb).2)) 0 false iiz iiz (zRY hlt9) rfl) arf)<|oc (yM false iiz (fun e=>by cases e) fR)<|oc zC<|oc (zF 123 false kJ iiz (fun _=>zC) arf)<|oc (zF 123 false kJ iiz (fun _=>zC) arf)<|oc (zF 123 false kJ iiz (fun _=>qL (C:=(PX.cu y).cf) 6 kJ (fun _ _ h=>h.2) (zBH hy9)) arf)<|oc (zF 123 false kJ iiz (fun _=>qL (C:=(PX.cu z).cf) 6 kJ (fun _ _ h=>h.2) (zBH hz9)) arf)<|oc (zF 123 false kJ iiz (fun _=>zI (f:=fQN ((yB sb).1)) 3 kJ (hz:=yO _)) arf)<|oc (zF 123 false kJ iiz (fun _=>zI (f:=fQN ((yB sb).2)) 3 kJ (hz:=yO _)) arf)<|oc (zF 123 false kJ iiz (fun _=>zJ zE zQ6 (fun u0 u1 W hb (h0:QNp ((yB sb).1) u0 W) (h1:QNp ((yB sb).2) u1 W)=>zHW (m:=68) (p:=(yB sb).1) (q:=(yB sb).2) (wD h0 hqb.1) (wD h1 hqb.2) dC dC)) arf)<|oc (zF 123 false kJ iiz (fun _=>zAh zE zQ8 (fun u0 u1 u2 W hb (h0:(fPV 2 (y.p)).p u0 W) (h1:(fPV 2 (z.p)).p u1 W) (h2:QNp (((yB sb).1+(yB sb).2) / 2) u2 W)=>(zKZ (m:=2) (k:=140) 160 (p:=y.p) (q:=z.p) (t:=((yB sb).1+(yB sb).2) / 2) h0 h1 (wD h2 hqmid) hyq hzq hqmid dC dC dC).mono (wI (fun v W h=>zCa (m:=146) hqMid.1 hqMid.2 h)))) arf)<|oc (zF 123 false kJ iiz (fun _=>zAh zE zQ9 (fun u0 u1 u2 W hb (h0:u0=rr) (h1:u1=v69) (h2:(fPV 146 (seg y.p z.p (((yB sb).1+(yB sb).2) / 2))).p u2 W)=>(zEP (m:=2) (k:=146) (M:=149) (K:=146) (rs:=pps A) (ts:= [(at3 (tts TS) p.1)]) (p:=(seg y.p z.p (((yB sb).1+(yB sb).2) / 2))) (yK hA1 h0 (s.up hb)) (yK hv69 h1 (s.up hb)) h2 dC dC dC dC dC dC dC hnA (by simp)).mono (wI (fun v W h=>by rw [show (!([(at3 (tts TS) p.1)].any fun t=> !(yX (yS (pps A) (seg y.p z.p (((yB sb).1+(yB sb).2) / 2))) (tl t))))=false from hmid] at h;exact h)))) arf)<|oc (yM false iiz (fun e=>by cases e) fR)<|zD) fun a w14 s=> ?_
    refine zA rfl ?_
    refine StS.cond s false iiz (fun e=>by cases e) (fun e=> ?_)
    refine zWS ?_
    refine zWR ?_
    refine zB 11 ((134, .Z (fQN ((yB sb).1)))::(135, .Z (fRV 40 (r.q)))::(136, .Z (uI (qsg ((yB sb).1) r.q)))::(137, .Z (uB (decide (qsg ((yB sb).1) r.q<0))))::(138, .Z (uB (decide (qsg ((yB sb).1) r.q<0))))::(139, .s (SF.imp ((decide (qsg ((yB sb).1) r.q<0))=true) ((fRV 40 (r.q)).tS)))::(140, .s (SF.imp ((decide (qsg ((yB sb).1) r.q<0))=true) ((fQN ((yB sb).2)).tS)))::(141, .s (SF.imp ((decide (qsg ((yB sb).1) r.q<0))=true) ((uI (qsg r.q ((yB sb).2))).tS)))::(142, .s (SF.imp ((decide (qsg ((yB sb).1) r.q<0))=true) ((uB (decide (qsg r.q ((yB sb).2)<0))).tS)))::(143, .Z (uB ((decide (qsg ((yB sb).1) r.q<0))&&(decide (qsg r.q ((yB sb).2)<0)))))::(18, .u (uB ((decide (qsg ((yB sb).1) r.q<0))&&(decide (qsg r.q ((yB sb).2)<0))))):: []) hmix s kJ
     (oc (zI (f:=fQN ((yB sb).1)) 3 kJ (hz:=yO _))<|oc (qL (C:=(QX.cu r).cf) 3 kJ (fun _ _ h=>h.2) (zFs hr40))<|oc (zJ zE zPn (fun u0 u1 W hb (h0:QNp ((yB sb).1) u0 W) (h1:RVp 40 (r.q) u1 W)=>zCk (m:=68) (p:=(yB sb).1) (q:=r.q) (wD h0 hqb.1) (RVp.mono h1 (m':=68) dC) dC dC))<|oc (zR .i64 (qsg ((yB sb).1) r.q) 0 (decide (qsg ((yB sb).1) r.q<0)) iiz iiz rfl rfl)<|oc zC<|oc (zF 138 (decide (qsg ((yB sb).1) r.q<0)) kJ iiz (fun e=>yG [] ((fRV 40 (r.q)).tS) fnz fS kJ (qL (C:=(QX.cu r).cf) 3 kJ (fun _ _ h=>h.2) (zFs hr40))) fQ)<|oc (zF 138 (decide (qsg ((yB sb).1) r.q<0)) kJ iiz (fun e=>yG [] ((fQN ((yB sb).2)).tS) fnz fS kJ (zI (f:=fQN ((yB sb).2)) 3 kJ (hz:=yO _))) fQ)<|oc (zF 138 (decide (qsg ((yB sb).1) r.q<0)) kJ iiz (fun e=>yG [(139,(fRV 40 (r.q)).tS),(140,(fQN ((yB sb).2)).tS)] ((uI (qsg r.q ((yB sb).2))).tS) (fmz ⟨fun v W h=>zT (c:=(decide (qsg ((yB sb).1) r.q<0))=true) (f:=(fRV 40 (r.q)).tS) e h,fmz ⟨fun v W h=>zT (c:=(decide (qsg ((yB sb).1) r.q<0))=true) (f:=(fQN ((yB sb).2)).tS) e h,fnz⟩⟩) fS kJ (zJ zE zPn (fun u0 u1 W hb (h0:RVp 40 (r.q) u0 W) (h1:QNp ((yB sb).2) u1 W)=>zCk (m:=68) (p:=r.q) (q:=(yB sb).2) (RVp.mono h0 (m':=68) dC) (wD h1 hqb.2) dC dC))) fQ)<|oc (zF 138 (decide (qsg ((yB sb).1) r.q<0)) kJ iiz (fun e=>yG [(141,(uI (qsg r.q ((yB sb).2))).tS)] ((uB (decide (qsg r.q ((yB sb).2)<0))).tS) (fmz ⟨fun v W h=>zT (c:=(decide (qsg ((yB sb).1) r.q<0))=true) (f:=(uI (qsg r.q ((yB sb).2))).tS) e h,fnz⟩) fS kJ (zR .i64 (qsg r.q ((yB sb).2)) 0 (decide (qsg r.q ((yB sb).2)<0)) iiz iiz rfl rfl)) fQ)<|oc (yM (decide (qsg ((yB sb).1) r.q<0)) iiz (fun e v W h=>zBJ (zT e h) e) (fun e v W h=>zBi h e))<|oc zG<|zD) fun a w15 s=> ?_
    refine zA rfl ?_
    refine zWR ?_
    refine zB 11 ((144, .Z (fRV 40 (r.q)))::(145, .Z (fQN ((yB sb).1)))::(146, .Z (uI (qsg r.q ((yB sb).1))))::(147, .Z (uB (decide (qsg r.q ((yB sb).1)<0))))::(148, .Z (uB (decide (qsg r.q ((yB sb).1)<0))))::(149, .s (SF.imp ((decide (qsg r.q ((yB sb).1)<0))=false) ((fQN ((yB sb).2)).tS)))::(150, .s (SF.imp ((decide (qsg r.q ((yB sb).1)<0))=false) ((fRV 40 (r.q)).tS)))::(151, .s (SF.imp ((decide (qsg r.q ((yB sb).1)<0))=false) ((uI (qsg ((yB sb).2) r.q)).tS)))::(152, .s (SF.imp ((decide (qsg r.q ((yB sb).1)<0))=false) ((uB (decide (qsg ((yB sb).2) r.q<0))).tS)))::(153, .Z (uB ((decide (qsg r.q ((yB sb).1)<0))||(decide (qsg ((yB sb).2) r.q<0)))))::(19, .u (uB ((decide (qsg r.q ((yB sb).1)<0))||(decide (qsg ((yB sb).2) r.q<0))))):: []) hmix s kJ
     (oc (qL (C:=(QX.cu r).cf) 3 kJ (fun _ _ h=>h.2) (zFs hr40))<|oc (zI (f:=fQN ((yB sb).1)) 3 kJ (hz:=yO _))<|oc (zJ zE zPn (fun u0 u1 W hb (h0:RVp 40 (r.q) u0 W) (h1:QNp ((yB sb).1) u1 W)=>zCk (m:=68) (p:=r.q) (q:=(yB sb).1) (RVp.mono h0 (m':=68) dC) (wD h1 hqb.1) dC dC))<|oc (zR .i64 (qsg r.q ((yB sb).1)) 0 (decide (qsg r.q ((yB sb).1)<0)) iiz iiz rfl rfl)<|oc zC<|oc (zF 148 (decide (qsg r.q ((yB sb).1)<0)) kJ iiz (fun e=>yG [] ((fQN ((yB sb).2)).tS) fnz fS kJ (zI (f:=fQN ((yB sb).2)) 3 kJ (hz:=yO _))) fQ)<|oc (zF 148 (decide (qsg r.q ((yB sb).1)<0)) kJ iiz (fun e=>yG [] ((fRV 40 (r.q)).tS) fnz fS kJ (qL (C:=(QX.cu r).cf) 3 kJ (fun _ _ h=>h.2) (zFs hr40))) fQ)<|oc (zF 148 (decide (qsg r.q ((yB sb).1)<0)) kJ iiz (fun e=>yG [(149,(fQN ((yB sb).2)).tS),(150,(fRV 40 (r.q)).tS)] ((uI (qsg ((yB sb).2) r.q)).tS) (fmz ⟨fun v W h=>zT (c:=(decide (qsg r.q ((yB sb).1)<0))=false) (f:=(fQN ((yB sb).2)).tS) e h,fmz ⟨fun v W h=>zT (c:=(decide (qsg r.q ((yB sb).1)<0))=false) (f:=(fRV 40 (r.q)).tS) e h,fnz⟩⟩) fS kJ (zJ zE zPn (fun u0 u1 W hb (h0:QNp ((yB sb).2) u0 W) (h1:RVp 40 (r.q) u1 W)=>zCk (m:=68) (p:=(yB sb).2) (q:=r.q) (wD h0 hqb.2) (RVp.mono h1 (m':=68) dC) dC dC))) fQ)<|oc (zF 148 (decide (qsg r.q ((yB sb).1)<0)) kJ iiz (fun e=>yG [(151,(uI (qsg ((yB sb).2) r.q)).tS)] ((uB (decide (qsg ((yB sb).2) r.q<0))).tS) (fmz ⟨fun v W h=>zT (c:=(decide (qsg r.q ((yB sb).1)<0))=false) (f:=(uI (qsg ((yB sb).2) r.q)).tS) e h,fnz⟩) fS kJ (zR .i64 (qsg ((yB sb).2) r.q) 0 (decide (qsg ((yB sb).2) r.q<0)) iiz iiz rfl rfl)) fQ)<|oc (yM (decide (qsg r.q ((yB sb).1)<0)) iiz (fun e v W h=>zBc h e) (fun e v W h=>zAs (zT e h) e))<|oc zG<|zD) fun a w16 s=> ?_
    refine zA rfl ?_
    refine zWR ?_
    rcases zRt (t:=r.q) hlt9 hin hout with ⟨h1,h2,h3⟩|⟨h1,h2,h3⟩|⟨h1,h2,h3⟩
    ·rw [h1,h2] at s
     rw [h3] at s
     refine zB 11 ((154, .Z (uB true))::(155, .Z (uB true))::(156, .Z (uB false))::(157, .Z (uB false))::(158, .Z (uB false))::(159, .Z (uB false))::(160, .Z (uB false))::(163, .Z (uB false))::(164, .u (uB false)):: []) hmix s kJ
      (oc zC<|oc zC<|oc (zF 155 true kJ iiz (fun _=>zC) arf)<|oc (yM true iiz fR (fun e=>by cases e))<|oc zC<|oc (zF 158 false kJ iiz (fun _=>zC) arf)<|oc (zF 158 false kJ iiz (fun _=>zC) arf)<|oc (zF 160 false kJ iiz (fun e=>by cases e) (fun _ _=>trivial))<|oc (zF 160 false kJ iiz (fun e=>by cases e) (fun _ _=>trivial))<|oc (zF 158 false kJ iiz (fun _=>yM false iiz (fun e=>by cases e) fR) arf)<|oc (yM false iiz (fun e=>by cases e) fR)<|zD) fun a w17 s=> ?_
     refine zA rfl ?_
     refine StS.cond s false iiz (fun e=>by cases e) (fun e=> ?_)
     refine zWS ?_
     refine zZ 2 ((63, .Z (uI (p.1:Int)))::(64, .u (uI ((p.1+1:Nat):Int))):: []) s kJ
      (oc zC<|oc (yR .i64 (p.1:Int) 1 ((p.1+1:Nat):Int) iiz iiz (wrap64 _ _ oQ oQ))<|zD) fun a w18 s=> ?_
     replace s:=s.drop [12]
     refine yV (uI ((p.1+1:Nat):Int)) rfl s kJ iiz fun a w s=> ?_
     refine zA rfl ?_
     replace s:=s.popB
     replace s:=s.popB
     have hbw:=s.below
     replace s:=s1.back (s.keepK [(12, .u (uI ((p.1+1:Nat):Int))),(64, .u (uI ((p.1+1:Nat):Int))),(164, .u (uB false)),(19, .u (uB false)),(18, .u (uB true)),(133, .u (uB false)),(90, .u (uB (!(sb.2)))),(17, .u (uB false)),(16, .u (uB (sb.2))),(79, .u (fQN ((yB sb).1))),(80, .u (fQN ((yB sb).2))),(81, .u (uB (sb.2))),(13, .u (UF.eq v69)),(69, .u (UF.eq v69)),(62, .u (uB (decide ((p.1:Int)<((trs 2 (tts TS)).length:Int))))),(0, .u (UF.eq rr)),(1, .u (UF.eq l))] (fmz ⟨.head _,fmz ⟨mz1,fmz ⟨mz2,fmz ⟨mz3,fmz ⟨mz4,fmz ⟨mz5,fmz ⟨mz6,fmz ⟨mz7,fmz ⟨mz8,fmz ⟨mz9,fmz ⟨zD8,fmz ⟨zH8,fmz ⟨zKd,fmz ⟨zMT,fmz ⟨zSc,fmz ⟨zCQ,fmz ⟨.tail _ zCQ,fnz⟩⟩⟩⟩⟩⟩⟩⟩⟩⟩⟩⟩⟩⟩⟩⟩⟩)) rfl
     exact ⟨(p.1+1,p.2),(by show (tts TS).length - (p.1+1)<(tts TS).length - p.1;omega),⟨hk,s.gr.size⟩,s.keepK _ (fmz ⟨zCQ,fmz ⟨.tail _ zCQ,fmz ⟨.head _,fnz⟩⟩⟩)⟩
    ·rw [h1,h2] at s
     rw [h3] at s
     refine zB 11 ((154, .Z (uB false))::(155, .Z (uB false))::(157, .Z (uB false))::(158, .Z (uB false))::(159, .Z (uB true))::(160, .Z (uB true))::(161, .Z (uB true))::(162, .Z (uB false))::(163, .Z (uB false))::(164, .u (uB false)):: []) hmix s kJ
      (oc zC<|oc zC<|oc (zF 155 false kJ iiz (fun e=>by cases e) (fun _ _=>trivial))<|oc (yM false iiz (fun e=>by cases e) fR)<|oc zC<|oc (zF 158 false kJ iiz (fun _=>zC) arf)<|oc (zF 158 false kJ iiz (fun _=>zC) arf)<|oc (zF 160 true kJ iiz (fun _=>zC) arf)<|oc (zF 160 true kJ iiz (fun _=>zAy true iiz (fun _=>rfl)) arf)<|oc (zF 158 false kJ iiz (fun _=>yM true iiz fR (fun e=>by cases e)) arf)<|oc (yM false iiz (fun e=>by cases e) fR)<|zD) fun a w19 s=> ?_
     refine zA rfl ?_
     refine StS.cond s false iiz (fun e=>by cases e) (fun e=> ?_)
     refine zWS ?_
     refine zZ 2 ((63, .Z (uI (p.1:Int)))::(64, .u (uI ((p.1+1:Nat):Int))):: []) s kJ
      (oc zC<|oc (yR .i64 (p.1:Int) 1 ((p.1+1:Nat):Int) iiz iiz (wrap64 _ _ oQ oQ))<|zD) fun a w20 s=> ?_
     replace s:=s.drop [12]
     refine yV (uI ((p.1+1:Nat):Int)) rfl s kJ iiz fun a w s=> ?_
     refine zA rfl ?_
     replace s:=s.popB
     replace s:=s.popB
     have hbw:=s.below
     replace s:=s1.back (s.keepK [(12, .u (uI ((p.1+1:Nat):Int))),(64, .u (uI ((p.1+1:Nat):Int))),(164, .u (uB false)),(19, .u (uB true)),(18, .u (uB false)),(133, .u (uB false)),(90, .u (uB (!(sb.2)))),(17, .u (uB true)),(16, .u (uB (sb.2))),(79, .u (fQN ((yB sb).1))),(80, .u (fQN ((yB sb).2))),(81, .u (uB (sb.2))),(13, .u (UF.eq v69)),(69, .u (UF.eq v69)),(62, .u (uB (decide ((p.1:Int)<((trs 2 (tts TS)).length:Int))))),(0, .u (UF.eq rr)),(1, .u (UF.eq l))] (fmz ⟨.head _,fmz ⟨mz1,fmz ⟨mz2,fmz ⟨mz3,fmz ⟨mz4,fmz ⟨mz5,fmz ⟨mz6,fmz ⟨mz7,fmz ⟨mz8,fmz ⟨mz9,fmz ⟨zD8,fmz ⟨zH8,fmz ⟨zKd,fmz ⟨zMT,fmz ⟨zSc,fmz ⟨zCQ,fmz ⟨.tail _ zCQ,fnz⟩⟩⟩⟩⟩⟩⟩⟩⟩⟩⟩⟩⟩⟩⟩⟩⟩)) rfl
     exact ⟨(p.1+1,p.2),(by show (tts TS).length - (p.1+1)<(tts TS).length - p.1;omega),⟨hk,s.gr.size⟩,s.keepK _ (fmz ⟨zCQ,fmz ⟨.tail _ zCQ,fmz ⟨.head _,fnz⟩⟩⟩)⟩
    ·rw [h1,h2] at s
     refine zB 11 ((154, .Z (uB false))::(155, .Z (uB false))::(157, .Z (uB false))::(158, .Z (uB false))::(159, .Z (uB false))::(160, .Z (uB false))::(163, .Z (uB false))::(164, .u (uB false)):: []) hmix s kJ
      (oc zC<|oc zC<|oc (zF 155 false kJ iiz (fun e=>by cases e) (fun _ _=>trivial))<|oc (yM false iiz (fun e=>by cases e) fR)<|oc zC<|oc (zF 158 false kJ iiz (fun _=>zC) arf)<|oc (zF 158 false kJ iiz (fun _=>zC) arf)<|oc (zF 160 false kJ iiz (fun e=>by cases e) (fun _ _=>trivial))<|oc (zF 160 false kJ iiz (fun e=>by cases e) (fun _ _=>trivial))<|oc (zF 158 false kJ iiz (fun _=>yM false iiz (fun e=>by cases e) fR) arf)<|oc (yM false iiz (fun e=>by cases e) fR)<|zD) fun a w21 s=> ?_
     refine zA rfl ?_
     refine StS.cond s false iiz (fun e=>by cases e) (fun e=> ?_)
     refine zWS ?_
     refine zZ 2 ((63, .Z (uI (p.1:Int)))::(64, .u (uI ((p.1+1:Nat):Int))):: []) s kJ
      (oc zC<|oc (yR .i64 (p.1:Int) 1 ((p.1+1:Nat):Int) iiz iiz (wrap64 _ _ oQ oQ))<|zD) fun a w22 s=> ?_
     replace s:=s.drop [12]
     refine yV (uI ((p.1+1:Nat):Int)) rfl s kJ iiz fun a w s=> ?_
     refine zA rfl ?_
     replace s:=s.popB
     replace s:=s.popB
     have hbw:=s.below
     replace s:=s1.back (s.keepK [(12, .u (uI ((p.1+1:Nat):Int))),(64, .u (uI ((p.1+1:Nat):Int))),(164, .u (uB false)),(19, .u (uB false)),(18, .u (uB false)),(133, .u (uB false)),(90, .u (uB (!(sb.2)))),(17, .u (uB fk)),(16, .u (uB (sb.2))),(79, .u (fQN ((yB sb).1))),(80, .u (fQN ((yB sb).2))),(81, .u (uB (sb.2))),(13, .u (UF.eq v69)),(69, .u (UF.eq v69)),(62, .u (uB (decide ((p.1:Int)<((trs 2 (tts TS)).length:Int))))),(0, .u (UF.eq rr)),(1, .u (UF.eq l))] (fmz ⟨.head _,fmz ⟨mz1,fmz ⟨mz2,fmz ⟨mz3,fmz ⟨mz4,fmz ⟨mz5,fmz ⟨mz6,fmz ⟨mz7,fmz ⟨mz8,fmz ⟨mz9,fmz ⟨zD8,fmz ⟨zH8,fmz ⟨zKd,fmz ⟨zMT,fmz ⟨zSc,fmz ⟨zCQ,fmz ⟨.tail _ zCQ,fnz⟩⟩⟩⟩⟩⟩⟩⟩⟩⟩⟩⟩⟩⟩⟩⟩⟩)) rfl
     exact ⟨(p.1+1,p.2),(by show (tts TS).length - (p.1+1)<(tts TS).length - p.1;omega),⟨hk,s.gr.size⟩,s.keepK _ (fmz ⟨zCQ,fmz ⟨.tail _ zCQ,fmz ⟨.head _,fnz⟩⟩⟩)⟩
  ·have hk:p.1=(tts TS).length:=by have h7:=zWW e;have h8:=hI.1;simp at h7;omega
   refine zWX ?_
   refine zWR ?_
   refine zB 2 ((165, .Z (uB true))::(10, .u (uB true)):: []) hmix s kJ
    (oc (zF7 zE zSN (fun W hb=>zKj (hT.below (s.up hb))))<|oc zG<|zD) fun a w23 s=> ?_
   refine zA rfl ?_
   refine zWT ?_
   exact vD s s0.below (t:=10) rfl iiz
end Go.Proofs.Wd
